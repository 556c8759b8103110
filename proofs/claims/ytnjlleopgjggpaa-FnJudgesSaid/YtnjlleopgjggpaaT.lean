/- The texts of the functions, edges struck, and closed facts on functions and types: written by program (gen.py). -/
import Derived.Test.YtnjlleopgjggpaaD
import Derived.Test.YtnjlleopgjggpaaProg
namespace Go.Proofs.Ytnjlleopgjggpaa
open Go Go.RowKit Go.Proofs
/-- loop.example/g01062/laws.FnJudges -/
def c_laws_FnJudges : Cd :=
 (.seq (.reg [⟨(some 2), (.assign (.const (.bool false))), none⟩])
 (.seq (.seq (.reg [⟨(some 45), (.move (.tmp 0)), none⟩,
   ⟨(some 46), (.call (.mk (.value (.func 4)) #[(.tmp 45)] #[22])), none⟩])
 (.cond (.tmp 46) (.seq (.reg [⟨(some 2), (.assign (.const (.bool true))), none⟩])
 .ret) .skip))
 (.seq (.reg [⟨(some 48), (.move (.tmp 0)), none⟩,
   ⟨(some 49), (.call (.mk (.value (.func 5)) #[(.tmp 48)] #[22])), none⟩,
   ⟨(some 47), (.move (.tmp 49)), none⟩,
   ⟨(some 50), (.extract (.tmp 47) 0), none⟩,
   ⟨(some 51), (.extract (.tmp 47) 1), none⟩,
   ⟨(some 52), (.extract (.tmp 47) 2), none⟩,
   ⟨(some 53), (.extract (.tmp 47) 3), none⟩,
   ⟨(some 3), (.assign (.tmp 50)), none⟩,
   ⟨(some 4), (.assign (.tmp 51)), none⟩,
   ⟨(some 5), (.assign (.tmp 52)), none⟩,
   ⟨(some 6), (.assign (.tmp 53)), none⟩])
 (.seq (.reg [⟨(some 55), (.move (.tmp 3)), none⟩,
   ⟨(some 56), (.move (.tmp 4)), none⟩,
   ⟨(some 57), (.move (.tmp 5)), none⟩,
   ⟨(some 58), (.move (.tmp 6)), none⟩,
   ⟨(some 59), (.call (.mk (.value (.func 6)) #[(.tmp 55), (.tmp 56), (.tmp 57), (.tmp 58)] #[24, 3, 3, 3])), none⟩,
   ⟨(some 54), (.move (.tmp 59)), none⟩,
   ⟨(some 60), (.extract (.tmp 54) 0), none⟩,
   ⟨(some 61), (.extract (.tmp 54) 1), none⟩,
   ⟨(some 7), (.assign (.tmp 60)), none⟩,
   ⟨(some 8), (.assign (.tmp 61)), none⟩])
 (.seq (.seq (.reg [⟨(some 63), (.move (.tmp 3)), none⟩,
   ⟨(some 64), (.move (.tmp 4)), none⟩,
   ⟨(some 65), (.move (.tmp 5)), none⟩,
   ⟨(some 66), (.move (.tmp 6)), none⟩,
   ⟨(some 67), (.call (.mk (.value (.func 7)) #[(.tmp 63), (.tmp 64), (.tmp 65), (.tmp 66)] #[24, 3, 3, 3])), none⟩,
   ⟨(some 62), (.move (.tmp 67)), none⟩,
   ⟨(some 68), (.extract (.tmp 62) 0), none⟩,
   ⟨(some 69), (.extract (.tmp 62) 1), none⟩,
   ⟨(some 9), (.assign (.tmp 68)), none⟩,
   ⟨(some 10), (.assign (.tmp 69)), none⟩])
 (.seq (.reg [⟨(some 70), (.move (.tmp 7)), none⟩,
   ⟨(some 71), (.move (.tmp 9)), none⟩,
   ⟨(some 72), (.binOp .neq 3 (.tmp 70) (.tmp 71) 3), none⟩,
   ⟨(some 73), (.move (.tmp 72)), none⟩,
   ⟨(some 74), (.move (.tmp 8)), (some (73, false))⟩,
   ⟨(some 75), (.move (.tmp 10)), (some (73, false))⟩,
   ⟨(some 76), (.binOp .neq 4 (.tmp 74) (.tmp 75) 4), (some (73, false))⟩,
   ⟨(some 77), (.pick (.tmp 73) (.const (.bool true)) (.tmp 76)), none⟩])
 (.cond (.tmp 77) (.seq (.reg [⟨(some 2), (.assign (.const (.bool false))), none⟩])
 .ret) .skip)))
 (.seq (.seq (.reg [⟨(some 11), (.assign (.const (.int .i64 0))), none⟩])
 (.block 0 (.loop (.seq (.seq (.reg [⟨(some 78), (.move (.tmp 11)), none⟩,
   ⟨(some 79), (.move (.tmp 3)), none⟩,
   ⟨(some 80), (.call (.mk (.builtin .len) #[(.tmp 79)] #[24])), none⟩,
   ⟨(some 81), (.binOp .lss 3 (.tmp 78) (.tmp 80) 3), none⟩,
   ⟨(some 82), (.move (.tmp 81)), none⟩,
   ⟨(some 83), (.move (.tmp 8)), (some (82, true))⟩,
   ⟨(some 84), (.pick (.tmp 82) (.tmp 83) (.const (.bool false))), none⟩])
 (.cond (.tmp 84) .skip (.exit 0)))
 (.seq (.block 1 (.seq (.seq (.reg [⟨(some 87), (.move (.tmp 3)), none⟩,
   ⟨(some 88), (.move (.tmp 11)), none⟩,
   ⟨(some 89), (.indexAddr 24 (.tmp 87) (.tmp 88)), none⟩,
   ⟨(some 90), (.fieldAddr 31 (.tmp 89) 0), none⟩,
   ⟨(some 91), (.load 3 (.tmp 90)), none⟩,
   ⟨(some 92), (.move (.tmp 4)), none⟩,
   ⟨(some 93), (.binOp .neq 3 (.tmp 91) (.tmp 92) 3), none⟩])
 (.cond (.tmp 93) (.exit 1) .skip))
 (.seq (.reg [⟨(some 94), (.move (.tmp 3)), none⟩,
   ⟨(some 95), (.move (.tmp 11)), none⟩,
   ⟨(some 96), (.indexAddr 24 (.tmp 94) (.tmp 95)), none⟩,
   ⟨(some 97), (.load 31 (.tmp 96)), none⟩,
   ⟨(some 12), (.alloc 31), none⟩,
   ⟨none, (.store 31 (.tmp 12) (.tmp 97)), none⟩])
 (.seq (.reg [⟨(some 98), (.buildSlice 29 0 #[]), none⟩,
   ⟨(some 99), (.move (.tmp 3)), none⟩,
   ⟨(some 100), (.move (.tmp 11)), none⟩,
   ⟨(some 101), (.indexAddr 24 (.tmp 99) (.tmp 100)), none⟩,
   ⟨(some 102), (.fieldAddr 31 (.tmp 101) 3), none⟩,
   ⟨(some 103), (.load 29 (.tmp 102)), none⟩,
   ⟨(some 104), (.call (.mk (.builtin .append) #[(.tmp 98), (.tmp 103)] #[29, 29])), none⟩,
   ⟨(some 105), (.fieldAddr 31 (.tmp 12) 3), none⟩,
   ⟨none, (.store 29 (.tmp 105) (.tmp 104)), none⟩])
 (.seq (.reg [⟨(some 106), (.fieldAddr 31 (.tmp 12) 3), none⟩,
   ⟨(some 107), (.load 29 (.tmp 106)), none⟩,
   ⟨(some 108), (.move (.tmp 5)), none⟩,
   ⟨(some 109), (.move (.tmp 7)), none⟩,
   ⟨(some 110), (.indexAddr 29 (.tmp 107) (.tmp 108)), none⟩,
   ⟨none, (.store 3 (.tmp 110) (.tmp 109)), none⟩])
 (.seq (.reg [⟨(some 112), (.load 31 (.tmp 12)), none⟩,
   ⟨(some 113), (.call (.mk (.value (.func 8)) #[(.tmp 112)] #[31])), none⟩,
   ⟨(some 111), (.move (.tmp 113)), none⟩,
   ⟨(some 114), (.extract (.tmp 111) 0), none⟩,
   ⟨(some 115), (.extract (.tmp 111) 1), none⟩,
   ⟨(some 13), (.assign (.tmp 114)), none⟩,
   ⟨(some 14), (.assign (.tmp 115)), none⟩])
 (.seq (.seq (.reg [⟨(some 116), (.move (.tmp 14)), none⟩,
   ⟨(some 117), (.unOp .not 4 (.tmp 116)), none⟩,
   ⟨(some 118), (.move (.tmp 117)), none⟩,
   ⟨(some 119), (.move (.tmp 13)), (some (118, false))⟩,
   ⟨(some 120), (.move (.tmp 6)), (some (118, false))⟩,
   ⟨(some 121), (.binOp .lss 3 (.tmp 119) (.tmp 120) 3), (some (118, false))⟩,
   ⟨(some 122), (.pick (.tmp 118) (.const (.bool true)) (.tmp 121)), none⟩])
 (.cond (.tmp 122) (.seq (.reg [⟨(some 2), (.assign (.const (.bool false))), none⟩])
 .ret) .skip))
 (.seq (.reg [⟨(some 123), (.move (.tmp 7)), none⟩,
   ⟨(some 124), (.binOp .gtr 3 (.tmp 123) (.const (.int .i64 0)) 3), none⟩])
 (.cond (.tmp 124) (.seq (.reg [⟨(some 125), (.fieldAddr 31 (.tmp 12) 3), none⟩,
   ⟨(some 126), (.load 29 (.tmp 125)), none⟩,
   ⟨(some 127), (.move (.tmp 5)), none⟩,
   ⟨(some 128), (.move (.tmp 7)), none⟩,
   ⟨(some 129), (.binOp .sub 3 (.tmp 128) (.const (.int .i64 1)) 3), none⟩,
   ⟨(some 130), (.indexAddr 29 (.tmp 126) (.tmp 127)), none⟩,
   ⟨none, (.store 3 (.tmp 130) (.tmp 129)), none⟩])
 (.seq (.reg [⟨(some 132), (.load 31 (.tmp 12)), none⟩,
   ⟨(some 133), (.call (.mk (.value (.func 8)) #[(.tmp 132)] #[31])), none⟩,
   ⟨(some 131), (.move (.tmp 133)), none⟩,
   ⟨(some 134), (.extract (.tmp 131) 0), none⟩,
   ⟨(some 135), (.extract (.tmp 131) 1), none⟩,
   ⟨(some 15), (.assign (.tmp 134)), none⟩,
   ⟨(some 16), (.assign (.tmp 135)), none⟩])
 (.seq (.reg [⟨(some 136), (.move (.tmp 16)), none⟩,
   ⟨(some 137), (.unOp .not 4 (.tmp 136)), none⟩,
   ⟨(some 138), (.move (.tmp 137)), none⟩,
   ⟨(some 139), (.move (.tmp 15)), (some (138, false))⟩,
   ⟨(some 140), (.move (.tmp 6)), (some (138, false))⟩,
   ⟨(some 141), (.binOp .geq 3 (.tmp 139) (.tmp 140) 3), (some (138, false))⟩,
   ⟨(some 142), (.pick (.tmp 138) (.const (.bool true)) (.tmp 141)), none⟩])
 (.cond (.tmp 142) (.seq (.reg [⟨(some 2), (.assign (.const (.bool false))), none⟩])
 .ret) .skip)))) .skip)))))))))
 (.reg [⟨(some 85), (.move (.tmp 11)), none⟩,
   ⟨(some 86), (.binOp .add 3 (.tmp 85) (.const (.int .i64 1)) 3), none⟩,
   ⟨(some 11), (.assign (.tmp 86)), none⟩]))))))
 (.seq (.reg [⟨(some 143), (.move (.tmp 0)), none⟩,
   ⟨(some 144), (.call (.mk (.value (.func 9)) #[(.tmp 143)] #[22])), none⟩,
   ⟨(some 17), (.assign (.tmp 144)), none⟩])
 (.seq (.reg [⟨(some 146), (.move (.tmp 17)), none⟩,
   ⟨(some 147), (.call (.mk (.value (.func 10)) #[(.tmp 146)] #[24])), none⟩,
   ⟨(some 145), (.move (.tmp 147)), none⟩,
   ⟨(some 148), (.extract (.tmp 145) 0), none⟩,
   ⟨(some 149), (.extract (.tmp 145) 1), none⟩,
   ⟨(some 150), (.extract (.tmp 145) 2), none⟩,
   ⟨(some 18), (.assign (.tmp 148)), none⟩,
   ⟨(some 19), (.assign (.tmp 149)), none⟩,
   ⟨(some 20), (.assign (.tmp 150)), none⟩])
 (.seq (.seq (.reg [⟨(some 152), (.move (.tmp 17)), none⟩,
   ⟨(some 153), (.call (.mk (.value (.func 11)) #[(.tmp 152)] #[24])), none⟩,
   ⟨(some 151), (.move (.tmp 153)), none⟩,
   ⟨(some 154), (.extract (.tmp 151) 0), none⟩,
   ⟨(some 155), (.extract (.tmp 151) 1), none⟩,
   ⟨(some 156), (.extract (.tmp 151) 2), none⟩,
   ⟨(some 21), (.assign (.tmp 154)), none⟩,
   ⟨(some 22), (.assign (.tmp 155)), none⟩,
   ⟨(some 23), (.assign (.tmp 156)), none⟩])
 (.seq (.reg [⟨(some 157), (.move (.tmp 18)), none⟩,
   ⟨(some 158), (.move (.tmp 21)), none⟩,
   ⟨(some 159), (.binOp .neq 3 (.tmp 157) (.tmp 158) 3), none⟩,
   ⟨(some 160), (.move (.tmp 159)), none⟩,
   ⟨(some 161), (.move (.tmp 19)), (some (160, false))⟩,
   ⟨(some 162), (.move (.tmp 22)), (some (160, false))⟩,
   ⟨(some 163), (.binOp .neq 3 (.tmp 161) (.tmp 162) 3), (some (160, false))⟩,
   ⟨(some 164), (.pick (.tmp 160) (.const (.bool true)) (.tmp 163)), none⟩,
   ⟨(some 165), (.move (.tmp 164)), none⟩,
   ⟨(some 166), (.move (.tmp 20)), (some (165, false))⟩,
   ⟨(some 167), (.move (.tmp 23)), (some (165, false))⟩,
   ⟨(some 168), (.binOp .neq 4 (.tmp 166) (.tmp 167) 4), (some (165, false))⟩,
   ⟨(some 169), (.pick (.tmp 165) (.const (.bool true)) (.tmp 168)), none⟩])
 (.cond (.tmp 169) (.seq (.reg [⟨(some 2), (.assign (.const (.bool false))), none⟩])
 .ret) .skip)))
 (.seq (.seq (.reg [⟨(some 24), (.assign (.const (.int .i64 0))), none⟩])
 (.block 2 (.loop (.seq (.seq (.reg [⟨(some 170), (.move (.tmp 20)), none⟩,
   ⟨(some 171), (.move (.tmp 170)), none⟩,
   ⟨(some 172), (.move (.tmp 24)), (some (171, true))⟩,
   ⟨(some 173), (.move (.tmp 17)), (some (171, true))⟩,
   ⟨(some 174), (.indexAddr 24 (.tmp 173) (.const (.int .i64 0))), (some (171, true))⟩,
   ⟨(some 175), (.fieldAddr 31 (.tmp 174) 3), (some (171, true))⟩,
   ⟨(some 176), (.load 29 (.tmp 175)), (some (171, true))⟩,
   ⟨(some 177), (.call (.mk (.builtin .len) #[(.tmp 176)] #[29])), (some (171, true))⟩,
   ⟨(some 178), (.binOp .lss 3 (.tmp 172) (.tmp 177) 3), (some (171, true))⟩,
   ⟨(some 179), (.pick (.tmp 171) (.tmp 178) (.const (.bool false))), none⟩])
 (.cond (.tmp 179) .skip (.exit 2)))
 (.seq (.block 3 (.seq (.reg [⟨(some 25), (.assign (.const (.int .i64 0))), none⟩])
 (.seq (.seq (.reg [⟨(some 26), (.assign (.const (.int .i64 0))), none⟩])
 (.block 4 (.loop (.seq (.seq (.reg [⟨(some 182), (.move (.tmp 26)), none⟩,
   ⟨(some 183), (.move (.tmp 17)), none⟩,
   ⟨(some 184), (.call (.mk (.builtin .len) #[(.tmp 183)] #[24])), none⟩,
   ⟨(some 185), (.binOp .lss 3 (.tmp 182) (.tmp 184) 3), none⟩])
 (.cond (.tmp 185) .skip (.exit 4)))
 (.seq (.block 5 (.reg [⟨(some 188), (.move (.tmp 25)), none⟩,
   ⟨(some 189), (.move (.tmp 17)), none⟩,
   ⟨(some 190), (.move (.tmp 26)), none⟩,
   ⟨(some 191), (.indexAddr 24 (.tmp 189) (.tmp 190)), none⟩,
   ⟨(some 192), (.fieldAddr 31 (.tmp 191) 3), none⟩,
   ⟨(some 193), (.load 29 (.tmp 192)), none⟩,
   ⟨(some 194), (.move (.tmp 24)), none⟩,
   ⟨(some 195), (.indexAddr 29 (.tmp 193) (.tmp 194)), none⟩,
   ⟨(some 196), (.load 3 (.tmp 195)), none⟩,
   ⟨(some 197), (.binOp .add 3 (.tmp 188) (.tmp 196) 3), none⟩,
   ⟨(some 25), (.assign (.tmp 197)), none⟩]))
 (.reg [⟨(some 186), (.move (.tmp 26)), none⟩,
   ⟨(some 187), (.binOp .add 3 (.tmp 186) (.const (.int .i64 1)) 3), none⟩,
   ⟨(some 26), (.assign (.tmp 187)), none⟩]))))))
 (.seq (.reg [⟨(some 198), (.move (.tmp 25)), none⟩,
   ⟨(some 199), (.move (.tmp 19)), none⟩,
   ⟨(some 200), (.binOp .lss 3 (.tmp 198) (.tmp 199) 3), none⟩,
   ⟨(some 201), (.move (.tmp 200)), none⟩,
   ⟨(some 202), (.move (.tmp 24)), (some (201, false))⟩,
   ⟨(some 203), (.move (.tmp 18)), (some (201, false))⟩,
   ⟨(some 204), (.binOp .eql 3 (.tmp 202) (.tmp 203) 3), (some (201, false))⟩,
   ⟨(some 205), (.move (.tmp 204)), (some (201, false))⟩,
   ⟨(some 206), (.move (.tmp 25)), (some (205, true))⟩,
   ⟨(some 207), (.move (.tmp 19)), (some (205, true))⟩,
   ⟨(some 208), (.binOp .neq 3 (.tmp 206) (.tmp 207) 3), (some (205, true))⟩,
   ⟨(some 209), (.pick (.tmp 205) (.tmp 208) (.const (.bool false))), (some (201, false))⟩,
   ⟨(some 210), (.pick (.tmp 201) (.const (.bool true)) (.tmp 209)), none⟩])
 (.cond (.tmp 210) (.seq (.reg [⟨(some 2), (.assign (.const (.bool false))), none⟩])
 .ret) .skip)))))
 (.reg [⟨(some 180), (.move (.tmp 24)), none⟩,
   ⟨(some 181), (.binOp .add 3 (.tmp 180) (.const (.int .i64 1)) 3), none⟩,
   ⟨(some 24), (.assign (.tmp 181)), none⟩]))))))
 (.seq (.reg [⟨(some 212), (.move (.tmp 0)), none⟩,
   ⟨(some 213), (.call (.mk (.value (.func 12)) #[(.tmp 212)] #[22])), none⟩,
   ⟨(some 211), (.move (.tmp 213)), none⟩,
   ⟨(some 214), (.extract (.tmp 211) 0), none⟩,
   ⟨(some 215), (.extract (.tmp 211) 1), none⟩,
   ⟨(some 27), (.assign (.tmp 214)), none⟩,
   ⟨(some 28), (.assign (.tmp 215)), none⟩])
 (.seq (.reg [⟨(some 217), (.move (.tmp 27)), none⟩,
   ⟨(some 218), (.move (.tmp 28)), none⟩,
   ⟨(some 219), (.call (.mk (.value (.func 13)) #[(.tmp 217), (.tmp 218)] #[24, 3])), none⟩,
   ⟨(some 216), (.move (.tmp 219)), none⟩,
   ⟨(some 220), (.extract (.tmp 216) 0), none⟩,
   ⟨(some 221), (.extract (.tmp 216) 1), none⟩,
   ⟨(some 29), (.assign (.tmp 220)), none⟩,
   ⟨(some 30), (.assign (.tmp 221)), none⟩])
 (.seq (.seq (.reg [⟨(some 223), (.move (.tmp 27)), none⟩,
   ⟨(some 224), (.move (.tmp 28)), none⟩,
   ⟨(some 225), (.call (.mk (.value (.func 14)) #[(.tmp 223), (.tmp 224)] #[24, 3])), none⟩,
   ⟨(some 222), (.move (.tmp 225)), none⟩,
   ⟨(some 226), (.extract (.tmp 222) 0), none⟩,
   ⟨(some 227), (.extract (.tmp 222) 1), none⟩,
   ⟨(some 31), (.assign (.tmp 226)), none⟩,
   ⟨(some 32), (.assign (.tmp 227)), none⟩])
 (.seq (.reg [⟨(some 228), (.move (.tmp 30)), none⟩,
   ⟨(some 229), (.move (.tmp 32)), none⟩,
   ⟨(some 230), (.binOp .neq 4 (.tmp 228) (.tmp 229) 4), none⟩,
   ⟨(some 231), (.move (.tmp 230)), none⟩,
   ⟨(some 232), (.move (.tmp 29)), (some (231, false))⟩,
   ⟨(some 233), (.move (.tmp 31)), (some (231, false))⟩,
   ⟨(some 234), (.call (.mk (.value (.func 15)) #[(.tmp 232), (.tmp 233)] #[24, 24])), (some (231, false))⟩,
   ⟨(some 235), (.unOp .not 4 (.tmp 234)), (some (231, false))⟩,
   ⟨(some 236), (.pick (.tmp 231) (.const (.bool true)) (.tmp 235)), none⟩])
 (.cond (.tmp 236) (.seq (.reg [⟨(some 2), (.assign (.const (.bool false))), none⟩])
 .ret) .skip)))
 (.seq (.reg [⟨(some 238), (.move (.tmp 0)), none⟩,
   ⟨(some 239), (.call (.mk (.value (.func 16)) #[(.tmp 238)] #[22])), none⟩,
   ⟨(some 237), (.move (.tmp 239)), none⟩,
   ⟨(some 240), (.extract (.tmp 237) 0), none⟩,
   ⟨(some 241), (.extract (.tmp 237) 1), none⟩,
   ⟨(some 33), (.assign (.tmp 240)), none⟩,
   ⟨(some 34), (.assign (.tmp 241)), none⟩])
 (.seq (.reg [⟨(some 243), (.move (.tmp 33)), none⟩,
   ⟨(some 244), (.move (.tmp 34)), none⟩,
   ⟨(some 245), (.call (.mk (.value (.func 17)) #[(.tmp 243), (.tmp 244)] #[24, 3])), none⟩,
   ⟨(some 242), (.move (.tmp 245)), none⟩,
   ⟨(some 246), (.extract (.tmp 242) 0), none⟩,
   ⟨(some 247), (.extract (.tmp 242) 1), none⟩,
   ⟨(some 35), (.assign (.tmp 246)), none⟩,
   ⟨(some 36), (.assign (.tmp 247)), none⟩])
 (.seq (.reg [⟨(some 249), (.move (.tmp 33)), none⟩,
   ⟨(some 250), (.move (.tmp 34)), none⟩,
   ⟨(some 251), (.call (.mk (.value (.func 18)) #[(.tmp 249), (.tmp 250)] #[24, 3])), none⟩,
   ⟨(some 248), (.move (.tmp 251)), none⟩,
   ⟨(some 252), (.extract (.tmp 248) 0), none⟩,
   ⟨(some 253), (.extract (.tmp 248) 1), none⟩,
   ⟨(some 37), (.assign (.tmp 252)), none⟩,
   ⟨(some 38), (.assign (.tmp 253)), none⟩])
 (.seq (.reg [⟨(some 255), (.move (.tmp 0)), none⟩,
   ⟨(some 256), (.call (.mk (.value (.func 19)) #[(.tmp 255)] #[22])), none⟩,
   ⟨(some 254), (.move (.tmp 256)), none⟩,
   ⟨(some 257), (.extract (.tmp 254) 0), none⟩,
   ⟨(some 258), (.extract (.tmp 254) 1), none⟩,
   ⟨(some 39), (.assign (.tmp 257)), none⟩,
   ⟨(some 40), (.assign (.tmp 258)), none⟩])
 (.seq (.reg [⟨(some 260), (.move (.tmp 39)), none⟩,
   ⟨(some 261), (.move (.tmp 40)), none⟩,
   ⟨(some 262), (.call (.mk (.value (.func 20)) #[(.tmp 260), (.tmp 261)] #[24, 3])), none⟩,
   ⟨(some 259), (.move (.tmp 262)), none⟩,
   ⟨(some 263), (.extract (.tmp 259) 0), none⟩,
   ⟨(some 264), (.extract (.tmp 259) 1), none⟩,
   ⟨(some 41), (.assign (.tmp 263)), none⟩,
   ⟨(some 42), (.assign (.tmp 264)), none⟩])
 (.seq (.reg [⟨(some 266), (.move (.tmp 39)), none⟩,
   ⟨(some 267), (.move (.tmp 40)), none⟩,
   ⟨(some 268), (.call (.mk (.value (.func 21)) #[(.tmp 266), (.tmp 267)] #[24, 3])), none⟩,
   ⟨(some 265), (.move (.tmp 268)), none⟩,
   ⟨(some 269), (.extract (.tmp 265) 0), none⟩,
   ⟨(some 270), (.extract (.tmp 265) 1), none⟩,
   ⟨(some 43), (.assign (.tmp 269)), none⟩,
   ⟨(some 44), (.assign (.tmp 270)), none⟩])
 (.seq (.reg [⟨(some 271), (.move (.tmp 35)), none⟩,
   ⟨(some 272), (.move (.tmp 37)), none⟩,
   ⟨(some 273), (.binOp .eql 3 (.tmp 271) (.tmp 272) 3), none⟩,
   ⟨(some 274), (.move (.tmp 273)), none⟩,
   ⟨(some 275), (.move (.tmp 36)), (some (274, true))⟩,
   ⟨(some 276), (.move (.tmp 38)), (some (274, true))⟩,
   ⟨(some 277), (.binOp .eql 4 (.tmp 275) (.tmp 276) 4), (some (274, true))⟩,
   ⟨(some 278), (.pick (.tmp 274) (.tmp 277) (.const (.bool false))), none⟩,
   ⟨(some 279), (.move (.tmp 278)), none⟩,
   ⟨(some 280), (.move (.tmp 41)), (some (279, true))⟩,
   ⟨(some 281), (.move (.tmp 43)), (some (279, true))⟩,
   ⟨(some 282), (.binOp .eql 3 (.tmp 280) (.tmp 281) 3), (some (279, true))⟩,
   ⟨(some 283), (.pick (.tmp 279) (.tmp 282) (.const (.bool false))), none⟩,
   ⟨(some 284), (.move (.tmp 283)), none⟩,
   ⟨(some 285), (.move (.tmp 42)), (some (284, true))⟩,
   ⟨(some 286), (.move (.tmp 44)), (some (284, true))⟩,
   ⟨(some 287), (.binOp .eql 4 (.tmp 285) (.tmp 286) 4), (some (284, true))⟩,
   ⟨(some 288), (.pick (.tmp 284) (.tmp 287) (.const (.bool false))), none⟩,
   ⟨(some 2), (.assign (.tmp 288)), none⟩])
 .ret))))))))))))))))))))
theorem x_laws_FnJudges : Txt Try.prog 3 c_laws_FnJudges [.tmp 2] 1 := ⟨by kernel_rfl, by kernel_rfl, _, _, Try.func3, rfl, by kernel_rfl, by kernel_rfl, by kernel_rfl, rfl, by decide⟩
/-- loop.example/g01062/laws.rBig -/
def c_laws_rBig : Cd :=
 (.seq (.reg [⟨(some 2), (.assign (.const (.bool false))), none⟩])
 (.seq (.reg [⟨(some 3), (.move (.tmp 0)), none⟩,
   ⟨(some 4), (.call (.mk (.builtin .len) #[(.tmp 3)] #[22])), none⟩,
   ⟨(some 5), (.binOp .gtr 3 (.tmp 4) (.const (.int .i64 65536)) 3), none⟩,
   ⟨(some 2), (.assign (.tmp 5)), none⟩])
 .ret))
theorem x_laws_rBig : Txt Try.prog 4 c_laws_rBig [.tmp 2] 1 := ⟨by kernel_rfl, by kernel_rfl, _, _, Try.func4, rfl, by kernel_rfl, by kernel_rfl, by kernel_rfl, rfl, by decide⟩
/-- loop.example/g01062/spec.DrawLeastMark -/
def c_spec_DrawLeastMark : Cd :=
 (.seq (.reg [⟨(some 2), (.assign (.const (.slice none 0 0))), none⟩,
   ⟨(some 3), (.assign (.const (.int .i64 0))), none⟩,
   ⟨(some 4), (.assign (.const (.int .i64 0))), none⟩,
   ⟨(some 5), (.assign (.const (.int .i64 0))), none⟩])
 (.seq (.reg [⟨(some 8), (.move (.tmp 0)), none⟩,
   ⟨(some 9), (.build 45 #[(0, (.tmp 8))]), none⟩,
   ⟨(some 10), (.box 45 (.tmp 9)), none⟩,
   ⟨(some 6), (.assign (.tmp 10)), none⟩])
 (.seq (.reg [⟨(some 11), (.move (.tmp 6)), none⟩,
   ⟨(some 12), (.call (.mk (.value (.func 22)) #[(.tmp 11)] #[42])), none⟩,
   ⟨(some 7), (.assign (.tmp 12)), none⟩])
 (.seq (.reg [⟨(some 13), (.move (.tmp 7)), none⟩,
   ⟨(some 14), (.move (.tmp 6)), none⟩,
   ⟨(some 15), (.move (.tmp 7)), none⟩,
   ⟨(some 16), (.call (.mk (.value (.func 23)) #[(.tmp 14), (.tmp 15)] #[42, 24])), none⟩,
   ⟨(some 17), (.move (.tmp 6)), none⟩,
   ⟨(some 18), (.buildSlice 29 7 #[(0, (.const (.int .i64 0))), (1, (.const (.int .i64 0))), (2, (.const (.int .i64 1))), (3, (.const (.int .i64 2))), (4, (.const (.int .i64 6))), (5, (.const (.int .i64 (-1)))), (6, (.const (.int .i64 7)))]), none⟩,
   ⟨(some 19), (.move (.tmp 6)), none⟩,
   ⟨(some 20), (.call (.mk (.value (.func 25)) #[(.tmp 19), (.const (.int .i64 24))] #[42, 3])), none⟩,
   ⟨(some 21), (.binOp .quo 3 (.tmp 20) (.const (.int .i64 11)) 3), none⟩,
   ⟨(some 22), (.binOp .add 3 (.const (.int .i64 5)) (.tmp 21) 3), none⟩,
   ⟨(some 23), (.slice 29 (.tmp 18) none (some (.tmp 22)) none), none⟩,
   ⟨(some 24), (.call (.mk (.value (.func 24)) #[(.tmp 17), (.tmp 23)] #[42, 29])), none⟩,
   ⟨(some 25), (.move (.tmp 6)), none⟩,
   ⟨(some 26), (.buildSlice 29 7 #[(0, (.const (.int .i64 0))), (1, (.const (.int .i64 1))), (2, (.const (.int .i64 2))), (3, (.const (.int .i64 3))), (4, (.const (.int .i64 4))), (5, (.const (.int .i64 (-1)))), (6, (.const (.int .i64 5)))]), none⟩,
   ⟨(some 27), (.move (.tmp 6)), none⟩,
   ⟨(some 28), (.call (.mk (.value (.func 25)) #[(.tmp 27), (.const (.int .i64 24))] #[42, 3])), none⟩,
   ⟨(some 29), (.binOp .quo 3 (.tmp 28) (.const (.int .i64 11)) 3), none⟩,
   ⟨(some 30), (.binOp .add 3 (.const (.int .i64 5)) (.tmp 29) 3), none⟩,
   ⟨(some 31), (.slice 29 (.tmp 26) none (some (.tmp 30)) none), none⟩,
   ⟨(some 32), (.call (.mk (.value (.func 24)) #[(.tmp 25), (.tmp 31)] #[42, 29])), none⟩,
   ⟨(some 2), (.assign (.tmp 13)), none⟩,
   ⟨(some 3), (.assign (.tmp 16)), none⟩,
   ⟨(some 4), (.assign (.tmp 24)), none⟩,
   ⟨(some 5), (.assign (.tmp 32)), none⟩])
 .ret))))
theorem x_spec_DrawLeastMark : Txt Try.prog 5 c_spec_DrawLeastMark [.tmp 2, .tmp 3, .tmp 4, .tmp 5] 1 := ⟨by kernel_rfl, by kernel_rfl, _, _, Try.func5, rfl, by kernel_rfl, by kernel_rfl, by kernel_rfl, rfl, by decide⟩
/-- loop.example/g01062/impl.LeastMark -/
def c_impl_LeastMark : Cd :=
 (.seq (.reg [⟨(some 8), (.assign (.const (.int .i64 0))), none⟩,
   ⟨(some 9), (.assign (.const (.bool false))), none⟩])
 (.seq (.reg [⟨(some 13), (.move (.tmp 0)), none⟩,
   ⟨(some 14), (.move (.tmp 1)), none⟩,
   ⟨(some 15), (.call (.mk (.value (.func 26)) #[(.tmp 13), (.tmp 14)] #[24, 3])), none⟩,
   ⟨(some 10), (.assign (.tmp 15)), none⟩])
 (.seq (.seq (.reg [⟨(some 16), (.move (.tmp 0)), none⟩,
   ⟨(some 17), (.call (.mk (.value (.func 27)) #[(.tmp 16)] #[24])), none⟩,
   ⟨(some 18), (.unOp .not 4 (.tmp 17)), none⟩,
   ⟨(some 19), (.move (.tmp 18)), none⟩,
   ⟨(some 20), (.move (.tmp 10)), (some (19, false))⟩,
   ⟨(some 21), (.binOp .lss 3 (.tmp 20) (.const (.int .i64 0)) 3), (some (19, false))⟩,
   ⟨(some 22), (.pick (.tmp 19) (.const (.bool true)) (.tmp 21)), none⟩,
   ⟨(some 23), (.move (.tmp 22)), none⟩,
   ⟨(some 24), (.move (.tmp 2)), (some (23, false))⟩,
   ⟨(some 25), (.move (.tmp 0)), (some (23, false))⟩,
   ⟨(some 26), (.move (.tmp 10)), (some (23, false))⟩,
   ⟨(some 27), (.indexAddr 24 (.tmp 25) (.tmp 26)), (some (23, false))⟩,
   ⟨(some 28), (.fieldAddr 31 (.tmp 27) 3), (some (23, false))⟩,
   ⟨(some 29), (.load 29 (.tmp 28)), (some (23, false))⟩,
   ⟨(some 30), (.call (.mk (.builtin .len) #[(.tmp 29)] #[29])), (some (23, false))⟩,
   ⟨(some 31), (.binOp .sub 3 (.tmp 30) (.const (.int .i64 1)) 3), (some (23, false))⟩,
   ⟨(some 32), (.call (.mk (.value (.func 28)) #[(.tmp 24), (.const (.int .i64 0)), (.tmp 31)] #[3, 3, 3])), (some (23, false))⟩,
   ⟨(some 33), (.unOp .not 4 (.tmp 32)), (some (23, false))⟩,
   ⟨(some 34), (.pick (.tmp 23) (.const (.bool true)) (.tmp 33)), none⟩,
   ⟨(some 35), (.move (.tmp 34)), none⟩,
   ⟨(some 36), (.move (.tmp 3)), (some (35, false))⟩,
   ⟨(some 37), (.call (.mk (.value (.func 28)) #[(.tmp 36), (.const (.int .i64 0)), (.const (.int .i64 4))] #[3, 3, 3])), (some (35, false))⟩,
   ⟨(some 38), (.unOp .not 4 (.tmp 37)), (some (35, false))⟩,
   ⟨(some 39), (.pick (.tmp 35) (.const (.bool true)) (.tmp 38)), none⟩])
 (.cond (.tmp 39) (.seq (.reg [⟨(some 8), (.assign (.const (.int .i64 0))), none⟩,
   ⟨(some 9), (.assign (.const (.bool false))), none⟩])
 .ret) .skip))
 (.seq (.reg [⟨(some 40), (.move (.tmp 0)), none⟩,
   ⟨(some 41), (.move (.tmp 10)), none⟩,
   ⟨(some 42), (.indexAddr 24 (.tmp 40) (.tmp 41)), none⟩,
   ⟨(some 43), (.fieldAddr 31 (.tmp 42) 3), none⟩,
   ⟨(some 44), (.load 29 (.tmp 43)), none⟩,
   ⟨(some 45), (.call (.mk (.value (.func 29)) #[(.tmp 44)] #[29])), none⟩,
   ⟨(some 11), (.assign (.tmp 45)), none⟩])
 (.seq (.seq (.reg [⟨(some 46), (.move (.const (.int .i64 0))), none⟩])
 (.block 0 (.loop (.seq (.reg [⟨(some 47), (.binOp .lss 3 (.tmp 46) (.const (.int .i64 101)) 3), none⟩])
 (.seq (.cond (.tmp 47) .skip (.exit 0))
 (.seq (.block 1 (.seq (.reg [⟨(some 48), (.move (.tmp 46)), none⟩,
   ⟨(some 12), (.assign (.tmp 48)), none⟩])
 (.seq (.reg [⟨(some 49), (.move (.tmp 11)), none⟩,
   ⟨(some 50), (.move (.tmp 2)), none⟩,
   ⟨(some 51), (.move (.tmp 12)), none⟩,
   ⟨(some 52), (.indexAddr 29 (.tmp 49) (.tmp 50)), none⟩,
   ⟨none, (.store 3 (.tmp 52) (.tmp 51)), none⟩])
 (.seq (.reg [⟨(some 53), (.move (.tmp 11)), none⟩,
   ⟨(some 54), (.call (.mk (.value (.func 30)) #[(.tmp 53)] #[29])), none⟩,
   ⟨(some 55), (.move (.tmp 3)), none⟩,
   ⟨(some 56), (.binOp .geq 3 (.tmp 54) (.tmp 55) 3), none⟩])
 (.cond (.tmp 56) (.seq (.reg [⟨(some 57), (.move (.tmp 12)), none⟩,
   ⟨(some 8), (.assign (.tmp 57)), none⟩,
   ⟨(some 9), (.assign (.const (.bool true))), none⟩])
 .ret) .skip)))))
 (.reg [⟨(some 58), (.binOp .add 3 (.tmp 46) (.const (.int .i64 1)) 3), none⟩,
   ⟨(some 46), (.move (.tmp 58)), none⟩])))))))
 (.seq (.reg [⟨(some 8), (.assign (.const (.int .i64 0))), none⟩,
   ⟨(some 9), (.assign (.const (.bool false))), none⟩])
 .ret))))))
theorem x_impl_LeastMark : Txt Try.prog 6 c_impl_LeastMark [.tmp 8, .tmp 9] 4 := ⟨by kernel_rfl, by kernel_rfl, _, _, Try.func6, rfl, by kernel_rfl, by kernel_rfl, by kernel_rfl, rfl, by decide⟩
/-- loop.example/g01062/spec.LeastMark -/
def c_spec_LeastMark : Cd :=
 (.seq (.reg [⟨(some 8), (.assign (.const (.int .i64 0))), none⟩,
   ⟨(some 9), (.assign (.const (.bool false))), none⟩])
 (.seq (.reg [⟨(some 13), (.move (.tmp 0)), none⟩,
   ⟨(some 14), (.move (.tmp 1)), none⟩,
   ⟨(some 15), (.call (.mk (.value (.func 31)) #[(.tmp 13), (.tmp 14)] #[24, 3])), none⟩,
   ⟨(some 10), (.assign (.tmp 15)), none⟩])
 (.seq (.seq (.reg [⟨(some 16), (.move (.tmp 0)), none⟩,
   ⟨(some 17), (.call (.mk (.value (.func 32)) #[(.tmp 16)] #[24])), none⟩,
   ⟨(some 18), (.unOp .not 4 (.tmp 17)), none⟩,
   ⟨(some 19), (.move (.tmp 18)), none⟩,
   ⟨(some 20), (.move (.tmp 10)), (some (19, false))⟩,
   ⟨(some 21), (.binOp .lss 3 (.tmp 20) (.const (.int .i64 0)) 3), (some (19, false))⟩,
   ⟨(some 22), (.pick (.tmp 19) (.const (.bool true)) (.tmp 21)), none⟩,
   ⟨(some 23), (.move (.tmp 22)), none⟩,
   ⟨(some 24), (.move (.tmp 2)), (some (23, false))⟩,
   ⟨(some 25), (.move (.tmp 0)), (some (23, false))⟩,
   ⟨(some 26), (.move (.tmp 10)), (some (23, false))⟩,
   ⟨(some 27), (.indexAddr 24 (.tmp 25) (.tmp 26)), (some (23, false))⟩,
   ⟨(some 28), (.fieldAddr 31 (.tmp 27) 3), (some (23, false))⟩,
   ⟨(some 29), (.load 29 (.tmp 28)), (some (23, false))⟩,
   ⟨(some 30), (.call (.mk (.builtin .len) #[(.tmp 29)] #[29])), (some (23, false))⟩,
   ⟨(some 31), (.binOp .sub 3 (.tmp 30) (.const (.int .i64 1)) 3), (some (23, false))⟩,
   ⟨(some 32), (.call (.mk (.value (.func 33)) #[(.tmp 24), (.const (.int .i64 0)), (.tmp 31)] #[3, 3, 3])), (some (23, false))⟩,
   ⟨(some 33), (.unOp .not 4 (.tmp 32)), (some (23, false))⟩,
   ⟨(some 34), (.pick (.tmp 23) (.const (.bool true)) (.tmp 33)), none⟩,
   ⟨(some 35), (.move (.tmp 34)), none⟩,
   ⟨(some 36), (.move (.tmp 3)), (some (35, false))⟩,
   ⟨(some 37), (.call (.mk (.value (.func 33)) #[(.tmp 36), (.const (.int .i64 0)), (.const (.int .i64 4))] #[3, 3, 3])), (some (35, false))⟩,
   ⟨(some 38), (.unOp .not 4 (.tmp 37)), (some (35, false))⟩,
   ⟨(some 39), (.pick (.tmp 35) (.const (.bool true)) (.tmp 38)), none⟩])
 (.cond (.tmp 39) (.seq (.reg [⟨(some 8), (.assign (.const (.int .i64 0))), none⟩,
   ⟨(some 9), (.assign (.const (.bool false))), none⟩])
 .ret) .skip))
 (.seq (.reg [⟨(some 40), (.move (.tmp 0)), none⟩,
   ⟨(some 41), (.move (.tmp 10)), none⟩,
   ⟨(some 42), (.indexAddr 24 (.tmp 40) (.tmp 41)), none⟩,
   ⟨(some 43), (.fieldAddr 31 (.tmp 42) 3), none⟩,
   ⟨(some 44), (.load 29 (.tmp 43)), none⟩,
   ⟨(some 45), (.call (.mk (.value (.func 34)) #[(.tmp 44)] #[29])), none⟩,
   ⟨(some 11), (.assign (.tmp 45)), none⟩])
 (.seq (.seq (.reg [⟨(some 12), (.assign (.const (.int .i64 0))), none⟩])
 (.block 0 (.loop (.seq (.seq (.reg [⟨(some 46), (.move (.tmp 12)), none⟩,
   ⟨(some 47), (.binOp .leq 3 (.tmp 46) (.const (.int .i64 100)) 3), none⟩])
 (.cond (.tmp 47) .skip (.exit 0)))
 (.seq (.block 1 (.seq (.reg [⟨(some 50), (.move (.tmp 11)), none⟩,
   ⟨(some 51), (.move (.tmp 2)), none⟩,
   ⟨(some 52), (.move (.tmp 12)), none⟩,
   ⟨(some 53), (.indexAddr 29 (.tmp 50) (.tmp 51)), none⟩,
   ⟨none, (.store 3 (.tmp 53) (.tmp 52)), none⟩])
 (.seq (.reg [⟨(some 54), (.move (.tmp 11)), none⟩,
   ⟨(some 55), (.call (.mk (.value (.func 35)) #[(.tmp 54)] #[29])), none⟩,
   ⟨(some 56), (.move (.tmp 3)), none⟩,
   ⟨(some 57), (.binOp .geq 3 (.tmp 55) (.tmp 56) 3), none⟩])
 (.cond (.tmp 57) (.seq (.reg [⟨(some 58), (.move (.tmp 12)), none⟩,
   ⟨(some 8), (.assign (.tmp 58)), none⟩,
   ⟨(some 9), (.assign (.const (.bool true))), none⟩])
 .ret) .skip))))
 (.reg [⟨(some 48), (.move (.tmp 12)), none⟩,
   ⟨(some 49), (.binOp .add 3 (.tmp 48) (.const (.int .i64 1)) 3), none⟩,
   ⟨(some 12), (.assign (.tmp 49)), none⟩]))))))
 (.seq (.reg [⟨(some 8), (.assign (.const (.int .i64 0))), none⟩,
   ⟨(some 9), (.assign (.const (.bool false))), none⟩])
 .ret))))))
theorem x_spec_LeastMark : Txt Try.prog 7 c_spec_LeastMark [.tmp 8, .tmp 9] 4 := ⟨by kernel_rfl, by kernel_rfl, _, _, Try.func7, rfl, by kernel_rfl, by kernel_rfl, by kernel_rfl, rfl, by decide⟩
/-- loop.example/g01062/impl.MedalOf -/
def c_impl_MedalOf : Cd :=
 (.seq (.reg [⟨(some 1), (.box 31 (.tmp 0)), none⟩,
   ⟨(some 2), (.assign (.const (.int .i64 0))), none⟩,
   ⟨(some 3), (.assign (.const (.bool false))), none⟩])
 (.seq (.seq (.reg [⟨(some 4), (.call (.mk (.value (.func 36)) #[(.tmp 1)] #[55])), none⟩,
   ⟨(some 5), (.unOp .not 4 (.tmp 4)), none⟩])
 (.cond (.tmp 5) (.seq (.reg [⟨(some 2), (.assign (.const (.int .i64 0))), none⟩,
   ⟨(some 3), (.assign (.const (.bool false))), none⟩])
 .ret) .skip))
 (.seq (.reg [⟨(some 6), (.fieldAddr 31 (.tmp 1) 3), none⟩,
   ⟨(some 7), (.load 29 (.tmp 6)), none⟩,
   ⟨(some 8), (.call (.mk (.value (.func 30)) #[(.tmp 7)] #[29])), none⟩,
   ⟨(some 2), (.assign (.tmp 8)), none⟩,
   ⟨(some 3), (.assign (.const (.bool true))), none⟩])
 .ret)))
theorem x_impl_MedalOf : Txt Try.prog 8 c_impl_MedalOf [.tmp 2, .tmp 3] 1 := ⟨by kernel_rfl, by kernel_rfl, _, _, Try.func8, rfl, by kernel_rfl, by kernel_rfl, by kernel_rfl, rfl, by decide⟩
/-- loop.example/g01062/spec.DrawStrictJudge -/
def c_spec_DrawStrictJudge : Cd :=
 (.seq (.reg [⟨(some 2), (.assign (.const (.slice none 0 0))), none⟩])
 (.seq (.reg [⟨(some 3), (.move (.tmp 0)), none⟩,
   ⟨(some 4), (.call (.mk (.value (.func 37)) #[(.tmp 3)] #[22])), none⟩,
   ⟨(some 2), (.assign (.tmp 4)), none⟩])
 .ret))
theorem x_spec_DrawStrictJudge : Txt Try.prog 9 c_spec_DrawStrictJudge [.tmp 2] 1 := ⟨by kernel_rfl, by kernel_rfl, _, _, Try.func9, rfl, by kernel_rfl, by kernel_rfl, by kernel_rfl, rfl, by decide⟩
/-- loop.example/g01062/impl.StrictJudge -/
def c_impl_StrictJudge : Cd :=
 (.seq (.reg [⟨(some 2), (.assign (.const (.int .i64 0))), none⟩,
   ⟨(some 3), (.assign (.const (.int .i64 0))), none⟩,
   ⟨(some 4), (.assign (.const (.bool false))), none⟩])
 (.seq (.seq (.reg [⟨(some 11), (.move (.tmp 0)), none⟩,
   ⟨(some 12), (.call (.mk (.value (.func 27)) #[(.tmp 11)] #[24])), none⟩,
   ⟨(some 13), (.unOp .not 4 (.tmp 12)), none⟩,
   ⟨(some 14), (.move (.tmp 13)), none⟩,
   ⟨(some 15), (.move (.tmp 0)), (some (14, false))⟩,
   ⟨(some 16), (.call (.mk (.builtin .len) #[(.tmp 15)] #[24])), (some (14, false))⟩,
   ⟨(some 17), (.binOp .eql 3 (.tmp 16) (.const (.int .i64 0)) 3), (some (14, false))⟩,
   ⟨(some 18), (.pick (.tmp 14) (.const (.bool true)) (.tmp 17)), none⟩])
 (.cond (.tmp 18) (.seq (.reg [⟨(some 2), (.assign (.const (.int .i64 0))), none⟩,
   ⟨(some 3), (.assign (.const (.int .i64 0))), none⟩,
   ⟨(some 4), (.assign (.const (.bool false))), none⟩])
 .ret) .skip))
 (.seq (.reg [⟨(some 19), (.move (.tmp 0)), none⟩,
   ⟨(some 20), (.indexAddr 24 (.tmp 19) (.const (.int .i64 0))), none⟩,
   ⟨(some 21), (.fieldAddr 31 (.tmp 20) 3), none⟩,
   ⟨(some 22), (.load 29 (.tmp 21)), none⟩,
   ⟨(some 23), (.call (.mk (.builtin .len) #[(.tmp 22)] #[29])), none⟩,
   ⟨(some 24), (.makeSlice 29 (.tmp 23) (.tmp 23)), none⟩,
   ⟨(some 5), (.assign (.tmp 24)), none⟩])
 (.seq (.seq (.reg [⟨(some 25), (.move (.tmp 0)), none⟩,
   ⟨(some 26), (.call (.mk (.builtin .len) #[(.tmp 25)] #[24])), none⟩,
   ⟨(some 27), (.move (.const (.int .i64 0))), none⟩])
 (.block 0 (.loop (.seq (.reg [⟨(some 28), (.binOp .lss 3 (.tmp 27) (.tmp 26) 3), none⟩])
 (.seq (.cond (.tmp 28) .skip (.exit 0))
 (.seq (.block 1 (.seq (.reg [⟨(some 29), (.indexAddr 24 (.tmp 25) (.tmp 27)), none⟩,
   ⟨(some 30), (.load 31 (.tmp 29)), none⟩,
   ⟨(some 7), (.alloc 31), none⟩,
   ⟨none, (.store 31 (.tmp 7) (.tmp 30)), none⟩])
 (.seq (.reg [⟨(some 31), (.fieldAddr 31 (.tmp 7) 3), none⟩,
   ⟨(some 32), (.load 29 (.tmp 31)), none⟩,
   ⟨(some 33), (.call (.mk (.builtin .len) #[(.tmp 32)] #[29])), none⟩,
   ⟨(some 34), (.move (.const (.int .i64 0))), none⟩])
 (.block 2 (.loop (.seq (.reg [⟨(some 35), (.binOp .lss 3 (.tmp 34) (.tmp 33) 3), none⟩])
 (.seq (.cond (.tmp 35) .skip (.exit 2))
 (.seq (.block 3 (.seq (.reg [⟨(some 36), (.move (.tmp 34)), none⟩,
   ⟨(some 37), (.indexAddr 29 (.tmp 32) (.tmp 34)), none⟩,
   ⟨(some 38), (.load 3 (.tmp 37)), none⟩,
   ⟨(some 8), (.assign (.tmp 36)), none⟩,
   ⟨(some 9), (.assign (.tmp 38)), none⟩])
 (.reg [⟨(some 39), (.move (.tmp 5)), none⟩,
   ⟨(some 40), (.move (.tmp 8)), none⟩,
   ⟨(some 41), (.indexAddr 29 (.tmp 39) (.tmp 40)), none⟩,
   ⟨(some 42), (.load 3 (.tmp 41)), none⟩,
   ⟨(some 43), (.move (.tmp 9)), none⟩,
   ⟨(some 44), (.binOp .add 3 (.tmp 42) (.tmp 43) 3), none⟩,
   ⟨(some 45), (.indexAddr 29 (.tmp 39) (.tmp 40)), none⟩,
   ⟨none, (.store 3 (.tmp 45) (.tmp 44)), none⟩])))
 (.reg [⟨(some 46), (.binOp .add 3 (.tmp 34) (.const (.int .i64 1)) 3), none⟩,
   ⟨(some 34), (.move (.tmp 46)), none⟩])))))))))
 (.reg [⟨(some 47), (.binOp .add 3 (.tmp 27) (.const (.int .i64 1)) 3), none⟩,
   ⟨(some 27), (.move (.tmp 47)), none⟩])))))))
 (.seq (.reg [⟨(some 48), (.move (.tmp 5)), none⟩,
   ⟨(some 49), (.call (.mk (.value (.func 38)) #[(.tmp 48)] #[29])), none⟩,
   ⟨(some 10), (.assign (.tmp 49)), none⟩])
 (.seq (.reg [⟨(some 50), (.move (.tmp 5)), none⟩,
   ⟨(some 51), (.move (.tmp 10)), none⟩,
   ⟨(some 52), (.call (.mk (.value (.func 39)) #[(.tmp 50), (.tmp 51)] #[29, 3])), none⟩,
   ⟨(some 53), (.move (.tmp 10)), none⟩,
   ⟨(some 2), (.assign (.tmp 52)), none⟩,
   ⟨(some 3), (.assign (.tmp 53)), none⟩,
   ⟨(some 4), (.assign (.const (.bool true))), none⟩])
 .ret))))))
theorem x_impl_StrictJudge : Txt Try.prog 10 c_impl_StrictJudge [.tmp 2, .tmp 3, .tmp 4] 1 := ⟨by kernel_rfl, by kernel_rfl, _, _, Try.func10, rfl, by kernel_rfl, by kernel_rfl, by kernel_rfl, rfl, by decide⟩
/-- loop.example/g01062/spec.StrictJudge -/
def c_spec_StrictJudge : Cd :=
 (.seq (.reg [⟨(some 2), (.assign (.const (.int .i64 0))), none⟩,
   ⟨(some 3), (.assign (.const (.int .i64 0))), none⟩,
   ⟨(some 4), (.assign (.const (.bool false))), none⟩])
 (.seq (.seq (.reg [⟨(some 10), (.move (.tmp 0)), none⟩,
   ⟨(some 11), (.call (.mk (.value (.func 32)) #[(.tmp 10)] #[24])), none⟩,
   ⟨(some 12), (.unOp .not 4 (.tmp 11)), none⟩,
   ⟨(some 13), (.move (.tmp 12)), none⟩,
   ⟨(some 14), (.move (.tmp 0)), (some (13, false))⟩,
   ⟨(some 15), (.call (.mk (.builtin .len) #[(.tmp 14)] #[24])), (some (13, false))⟩,
   ⟨(some 16), (.binOp .eql 3 (.tmp 15) (.const (.int .i64 0)) 3), (some (13, false))⟩,
   ⟨(some 17), (.pick (.tmp 13) (.const (.bool true)) (.tmp 16)), none⟩])
 (.cond (.tmp 17) (.seq (.reg [⟨(some 2), (.assign (.const (.int .i64 0))), none⟩,
   ⟨(some 3), (.assign (.const (.int .i64 0))), none⟩,
   ⟨(some 4), (.assign (.const (.bool false))), none⟩])
 .ret) .skip))
 (.seq (.reg [⟨(some 5), (.assign (.const (.int .i64 0))), none⟩,
   ⟨(some 6), (.assign (.const (.int .i64 1001))), none⟩])
 (.seq (.seq (.reg [⟨(some 7), (.assign (.const (.int .i64 0))), none⟩])
 (.block 0 (.loop (.seq (.seq (.reg [⟨(some 18), (.move (.tmp 7)), none⟩,
   ⟨(some 19), (.move (.tmp 0)), none⟩,
   ⟨(some 20), (.indexAddr 24 (.tmp 19) (.const (.int .i64 0))), none⟩,
   ⟨(some 21), (.fieldAddr 31 (.tmp 20) 3), none⟩,
   ⟨(some 22), (.load 29 (.tmp 21)), none⟩,
   ⟨(some 23), (.call (.mk (.builtin .len) #[(.tmp 22)] #[29])), none⟩,
   ⟨(some 24), (.binOp .lss 3 (.tmp 18) (.tmp 23) 3), none⟩])
 (.cond (.tmp 24) .skip (.exit 0)))
 (.seq (.block 1 (.seq (.reg [⟨(some 8), (.assign (.const (.int .i64 0))), none⟩])
 (.seq (.seq (.reg [⟨(some 9), (.assign (.const (.int .i64 0))), none⟩])
 (.block 2 (.loop (.seq (.seq (.reg [⟨(some 27), (.move (.tmp 9)), none⟩,
   ⟨(some 28), (.move (.tmp 0)), none⟩,
   ⟨(some 29), (.call (.mk (.builtin .len) #[(.tmp 28)] #[24])), none⟩,
   ⟨(some 30), (.binOp .lss 3 (.tmp 27) (.tmp 29) 3), none⟩])
 (.cond (.tmp 30) .skip (.exit 2)))
 (.seq (.block 3 (.reg [⟨(some 33), (.move (.tmp 8)), none⟩,
   ⟨(some 34), (.move (.tmp 0)), none⟩,
   ⟨(some 35), (.move (.tmp 9)), none⟩,
   ⟨(some 36), (.indexAddr 24 (.tmp 34) (.tmp 35)), none⟩,
   ⟨(some 37), (.fieldAddr 31 (.tmp 36) 3), none⟩,
   ⟨(some 38), (.load 29 (.tmp 37)), none⟩,
   ⟨(some 39), (.move (.tmp 7)), none⟩,
   ⟨(some 40), (.indexAddr 29 (.tmp 38) (.tmp 39)), none⟩,
   ⟨(some 41), (.load 3 (.tmp 40)), none⟩,
   ⟨(some 42), (.binOp .add 3 (.tmp 33) (.tmp 41) 3), none⟩,
   ⟨(some 8), (.assign (.tmp 42)), none⟩]))
 (.reg [⟨(some 31), (.move (.tmp 9)), none⟩,
   ⟨(some 32), (.binOp .add 3 (.tmp 31) (.const (.int .i64 1)) 3), none⟩,
   ⟨(some 9), (.assign (.tmp 32)), none⟩]))))))
 (.seq (.reg [⟨(some 43), (.move (.tmp 8)), none⟩,
   ⟨(some 44), (.move (.tmp 6)), none⟩,
   ⟨(some 45), (.binOp .lss 3 (.tmp 43) (.tmp 44) 3), none⟩])
 (.cond (.tmp 45) (.seq (.reg [⟨(some 46), (.move (.tmp 7)), none⟩,
   ⟨(some 5), (.assign (.tmp 46)), none⟩])
 (.reg [⟨(some 47), (.move (.tmp 8)), none⟩,
   ⟨(some 6), (.assign (.tmp 47)), none⟩])) .skip)))))
 (.reg [⟨(some 25), (.move (.tmp 7)), none⟩,
   ⟨(some 26), (.binOp .add 3 (.tmp 25) (.const (.int .i64 1)) 3), none⟩,
   ⟨(some 7), (.assign (.tmp 26)), none⟩]))))))
 (.seq (.reg [⟨(some 48), (.move (.tmp 5)), none⟩,
   ⟨(some 49), (.move (.tmp 6)), none⟩,
   ⟨(some 2), (.assign (.tmp 48)), none⟩,
   ⟨(some 3), (.assign (.tmp 49)), none⟩,
   ⟨(some 4), (.assign (.const (.bool true))), none⟩])
 .ret)))))
theorem x_spec_StrictJudge : Txt Try.prog 11 c_spec_StrictJudge [.tmp 2, .tmp 3, .tmp 4] 1 := ⟨by kernel_rfl, by kernel_rfl, _, _, Try.func11, rfl, by kernel_rfl, by kernel_rfl, by kernel_rfl, rfl, by decide⟩
/-- loop.example/g01062/spec.DrawWithoutJudge -/
def c_spec_DrawWithoutJudge : Cd :=
 (.seq (.reg [⟨(some 2), (.assign (.const (.slice none 0 0))), none⟩,
   ⟨(some 3), (.assign (.const (.int .i64 0))), none⟩])
 (.seq (.reg [⟨(some 5), (.move (.tmp 0)), none⟩,
   ⟨(some 6), (.build 45 #[(0, (.tmp 5))]), none⟩,
   ⟨(some 7), (.box 45 (.tmp 6)), none⟩,
   ⟨(some 4), (.assign (.tmp 7)), none⟩])
 (.seq (.reg [⟨(some 8), (.move (.tmp 4)), none⟩,
   ⟨(some 9), (.call (.mk (.value (.func 22)) #[(.tmp 8)] #[42])), none⟩,
   ⟨(some 10), (.move (.tmp 4)), none⟩,
   ⟨(some 11), (.buildSlice 29 6 #[(0, (.const (.int .i64 0))), (1, (.const (.int .i64 1))), (2, (.const (.int .i64 2))), (3, (.const (.int .i64 4))), (4, (.const (.int .i64 (-1)))), (5, (.const (.int .i64 7)))]), none⟩,
   ⟨(some 12), (.move (.tmp 4)), none⟩,
   ⟨(some 13), (.call (.mk (.value (.func 25)) #[(.tmp 12), (.const (.int .i64 24))] #[42, 3])), none⟩,
   ⟨(some 14), (.binOp .quo 3 (.tmp 13) (.const (.int .i64 11)) 3), none⟩,
   ⟨(some 15), (.binOp .add 3 (.const (.int .i64 4)) (.tmp 14) 3), none⟩,
   ⟨(some 16), (.slice 29 (.tmp 11) none (some (.tmp 15)) none), none⟩,
   ⟨(some 17), (.call (.mk (.value (.func 24)) #[(.tmp 10), (.tmp 16)] #[42, 29])), none⟩,
   ⟨(some 2), (.assign (.tmp 9)), none⟩,
   ⟨(some 3), (.assign (.tmp 17)), none⟩])
 .ret)))
theorem x_spec_DrawWithoutJudge : Txt Try.prog 12 c_spec_DrawWithoutJudge [.tmp 2, .tmp 3] 1 := ⟨by kernel_rfl, by kernel_rfl, _, _, Try.func12, rfl, by kernel_rfl, by kernel_rfl, by kernel_rfl, rfl, by decide⟩
/-- loop.example/g01062/impl.WithoutJudge -/
def c_impl_WithoutJudge : Cd :=
 (.seq (.reg [⟨(some 4), (.assign (.const (.slice none 0 0))), none⟩,
   ⟨(some 5), (.assign (.const (.bool false))), none⟩])
 (.seq (.seq (.reg [⟨(some 9), (.move (.tmp 0)), none⟩,
   ⟨(some 10), (.call (.mk (.value (.func 27)) #[(.tmp 9)] #[24])), none⟩,
   ⟨(some 11), (.unOp .not 4 (.tmp 10)), none⟩,
   ⟨(some 12), (.move (.tmp 11)), none⟩,
   ⟨(some 13), (.move (.tmp 1)), (some (12, false))⟩,
   ⟨(some 14), (.binOp .lss 3 (.tmp 13) (.const (.int .i64 0)) 3), (some (12, false))⟩,
   ⟨(some 15), (.pick (.tmp 12) (.const (.bool true)) (.tmp 14)), none⟩])
 (.cond (.tmp 15) (.seq (.reg [⟨(some 4), (.assign (.const (.slice none 0 0))), none⟩,
   ⟨(some 5), (.assign (.const (.bool false))), none⟩])
 .ret) .skip))
 (.seq (.reg [⟨(some 6), (.assign (.const (.slice none 0 0))), none⟩])
 (.seq (.seq (.reg [⟨(some 16), (.move (.tmp 0)), none⟩,
   ⟨(some 17), (.call (.mk (.builtin .len) #[(.tmp 16)] #[24])), none⟩,
   ⟨(some 18), (.move (.const (.int .i64 0))), none⟩])
 (.block 0 (.loop (.seq (.reg [⟨(some 19), (.binOp .lss 3 (.tmp 18) (.tmp 17) 3), none⟩])
 (.seq (.cond (.tmp 19) .skip (.exit 0))
 (.seq (.block 1 (.seq (.reg [⟨(some 20), (.indexAddr 24 (.tmp 16) (.tmp 18)), none⟩,
   ⟨(some 21), (.load 31 (.tmp 20)), none⟩,
   ⟨(some 8), (.alloc 31), none⟩,
   ⟨none, (.store 31 (.tmp 8) (.tmp 21)), none⟩])
 (.seq (.seq (.reg [⟨(some 22), (.move (.tmp 1)), none⟩,
   ⟨(some 23), (.fieldAddr 31 (.tmp 8) 3), none⟩,
   ⟨(some 24), (.load 29 (.tmp 23)), none⟩,
   ⟨(some 25), (.call (.mk (.builtin .len) #[(.tmp 24)] #[29])), none⟩,
   ⟨(some 26), (.binOp .geq 3 (.tmp 22) (.tmp 25) 3), none⟩])
 (.cond (.tmp 26) (.seq (.reg [⟨(some 4), (.assign (.const (.slice none 0 0))), none⟩,
   ⟨(some 5), (.assign (.const (.bool false))), none⟩])
 .ret) .skip))
 (.seq (.reg [⟨(some 27), (.fieldAddr 31 (.tmp 8) 3), none⟩,
   ⟨(some 28), (.load 29 (.tmp 27)), none⟩,
   ⟨(some 29), (.call (.mk (.value (.func 29)) #[(.tmp 28)] #[29])), none⟩,
   ⟨(some 30), (.move (.tmp 1)), none⟩,
   ⟨(some 31), (.move (.tmp 1)), none⟩,
   ⟨(some 32), (.binOp .add 3 (.tmp 31) (.const (.int .i64 1)) 3), none⟩,
   ⟨(some 33), (.call (.mk (.value (.func 40)) #[(.tmp 29), (.tmp 30), (.tmp 32)] #[29, 3, 3])), none⟩,
   ⟨(some 34), (.fieldAddr 31 (.tmp 8) 3), none⟩,
   ⟨none, (.store 29 (.tmp 34) (.tmp 33)), none⟩])
 (.reg [⟨(some 35), (.move (.tmp 6)), none⟩,
   ⟨(some 36), (.load 31 (.tmp 8)), none⟩,
   ⟨(some 37), (.buildSlice 24 1 #[(0, (.tmp 36))]), none⟩,
   ⟨(some 38), (.call (.mk (.builtin .append) #[(.tmp 35), (.tmp 37)] #[24, 24])), none⟩,
   ⟨(some 6), (.assign (.tmp 38)), none⟩])))))
 (.reg [⟨(some 39), (.binOp .add 3 (.tmp 18) (.const (.int .i64 1)) 3), none⟩,
   ⟨(some 18), (.move (.tmp 39)), none⟩])))))))
 (.seq (.seq (.reg [⟨(some 40), (.move (.tmp 0)), none⟩,
   ⟨(some 41), (.call (.mk (.builtin .len) #[(.tmp 40)] #[24])), none⟩,
   ⟨(some 42), (.binOp .eql 3 (.tmp 41) (.const (.int .i64 0)) 3), none⟩,
   ⟨(some 43), (.move (.tmp 42)), none⟩,
   ⟨(some 44), (.move (.tmp 6)), (some (43, false))⟩,
   ⟨(some 45), (.call (.mk (.value (.func 27)) #[(.tmp 44)] #[24])), (some (43, false))⟩,
   ⟨(some 46), (.unOp .not 4 (.tmp 45)), (some (43, false))⟩,
   ⟨(some 47), (.pick (.tmp 43) (.const (.bool true)) (.tmp 46)), none⟩])
 (.cond (.tmp 47) (.seq (.reg [⟨(some 4), (.assign (.const (.slice none 0 0))), none⟩,
   ⟨(some 5), (.assign (.const (.bool false))), none⟩])
 .ret) .skip))
 (.seq (.reg [⟨(some 48), (.move (.tmp 6)), none⟩,
   ⟨(some 4), (.assign (.tmp 48)), none⟩,
   ⟨(some 5), (.assign (.const (.bool true))), none⟩])
 .ret))))))
theorem x_impl_WithoutJudge : Txt Try.prog 13 c_impl_WithoutJudge [.tmp 4, .tmp 5] 2 := ⟨by kernel_rfl, by kernel_rfl, _, _, Try.func13, rfl, by kernel_rfl, by kernel_rfl, by kernel_rfl, rfl, by decide⟩
/-- loop.example/g01062/spec.WithoutJudge -/
def c_spec_WithoutJudge : Cd :=
 (.seq (.reg [⟨(some 4), (.assign (.const (.slice none 0 0))), none⟩,
   ⟨(some 5), (.assign (.const (.bool false))), none⟩])
 (.seq (.seq (.reg [⟨(some 9), (.move (.tmp 0)), none⟩,
   ⟨(some 10), (.call (.mk (.value (.func 32)) #[(.tmp 9)] #[24])), none⟩,
   ⟨(some 11), (.unOp .not 4 (.tmp 10)), none⟩,
   ⟨(some 12), (.move (.tmp 11)), none⟩,
   ⟨(some 13), (.move (.tmp 0)), (some (12, false))⟩,
   ⟨(some 14), (.call (.mk (.builtin .len) #[(.tmp 13)] #[24])), (some (12, false))⟩,
   ⟨(some 15), (.binOp .eql 3 (.tmp 14) (.const (.int .i64 0)) 3), (some (12, false))⟩,
   ⟨(some 16), (.pick (.tmp 12) (.const (.bool true)) (.tmp 15)), none⟩,
   ⟨(some 17), (.move (.tmp 16)), none⟩,
   ⟨(some 18), (.move (.tmp 1)), (some (17, false))⟩,
   ⟨(some 19), (.move (.tmp 0)), (some (17, false))⟩,
   ⟨(some 20), (.indexAddr 24 (.tmp 19) (.const (.int .i64 0))), (some (17, false))⟩,
   ⟨(some 21), (.fieldAddr 31 (.tmp 20) 3), (some (17, false))⟩,
   ⟨(some 22), (.load 29 (.tmp 21)), (some (17, false))⟩,
   ⟨(some 23), (.call (.mk (.builtin .len) #[(.tmp 22)] #[29])), (some (17, false))⟩,
   ⟨(some 24), (.binOp .sub 3 (.tmp 23) (.const (.int .i64 1)) 3), (some (17, false))⟩,
   ⟨(some 25), (.call (.mk (.value (.func 33)) #[(.tmp 18), (.const (.int .i64 0)), (.tmp 24)] #[3, 3, 3])), (some (17, false))⟩,
   ⟨(some 26), (.unOp .not 4 (.tmp 25)), (some (17, false))⟩,
   ⟨(some 27), (.pick (.tmp 17) (.const (.bool true)) (.tmp 26)), none⟩])
 (.cond (.tmp 27) (.seq (.reg [⟨(some 28), (.buildSlice 24 0 #[]), none⟩,
   ⟨(some 4), (.assign (.tmp 28)), none⟩,
   ⟨(some 5), (.assign (.const (.bool false))), none⟩])
 .ret) .skip))
 (.seq (.reg [⟨(some 29), (.buildSlice 24 0 #[]), none⟩,
   ⟨(some 6), (.assign (.tmp 29)), none⟩])
 (.seq (.seq (.reg [⟨(some 7), (.assign (.const (.int .i64 0))), none⟩])
 (.block 0 (.loop (.seq (.seq (.reg [⟨(some 30), (.move (.tmp 7)), none⟩,
   ⟨(some 31), (.move (.tmp 0)), none⟩,
   ⟨(some 32), (.call (.mk (.builtin .len) #[(.tmp 31)] #[24])), none⟩,
   ⟨(some 33), (.binOp .lss 3 (.tmp 30) (.tmp 32) 3), none⟩])
 (.cond (.tmp 33) .skip (.exit 0)))
 (.seq (.block 1 (.seq (.reg [⟨(some 36), (.move (.tmp 0)), none⟩,
   ⟨(some 37), (.move (.tmp 7)), none⟩,
   ⟨(some 38), (.indexAddr 24 (.tmp 36) (.tmp 37)), none⟩,
   ⟨(some 39), (.load 31 (.tmp 38)), none⟩,
   ⟨(some 8), (.alloc 31), none⟩,
   ⟨none, (.store 31 (.tmp 8) (.tmp 39)), none⟩])
 (.seq (.regt [⟨(some 40), (.fieldAddr 31 (.tmp 8) 3), none⟩,
   ⟨(some 41), (.load 29 (.tmp 40)), none⟩,
   ⟨(some 42), (.move (.tmp 1)), none⟩,
   ⟨(some 43), (.slice 29 (.tmp 41) none (some (.tmp 42)) none), none⟩,
   ⟨(some 45), (.fieldAddr 31 (.tmp 8) 3), none⟩,
   ⟨(some 46), (.load 29 (.tmp 45)), none⟩,
   ⟨(some 47), (.move (.tmp 1)), none⟩,
   ⟨(some 48), (.binOp .add 3 (.tmp 47) (.const (.int .i64 1)) 3), none⟩,
   ⟨(some 49), (.slice 29 (.tmp 46) (some (.tmp 48)) none none), none⟩] (.one true ⟨(some 44), (.call (.mk (.value (.func 34)) #[(.tmp 43)] #[29])), none⟩
   (.one false ⟨(some 50), (.call (.mk (.builtin .append) #[(.tmp 44), (.tmp 49)] #[29, 29])), none⟩
   (.one false ⟨(some 51), (.fieldAddr 31 (.tmp 8) 3), none⟩
   (.one false ⟨none, (.store 29 (.tmp 51) (.tmp 50)), none⟩
   .done)))) [])
 (.reg [⟨(some 52), (.move (.tmp 6)), none⟩,
   ⟨(some 53), (.load 31 (.tmp 8)), none⟩,
   ⟨(some 54), (.buildSlice 24 1 #[(0, (.tmp 53))]), none⟩,
   ⟨(some 55), (.call (.mk (.builtin .append) #[(.tmp 52), (.tmp 54)] #[24, 24])), none⟩,
   ⟨(some 6), (.assign (.tmp 55)), none⟩]))))
 (.reg [⟨(some 34), (.move (.tmp 7)), none⟩,
   ⟨(some 35), (.binOp .add 3 (.tmp 34) (.const (.int .i64 1)) 3), none⟩,
   ⟨(some 7), (.assign (.tmp 35)), none⟩]))))))
 (.seq (.seq (.reg [⟨(some 56), (.move (.tmp 6)), none⟩,
   ⟨(some 57), (.call (.mk (.value (.func 32)) #[(.tmp 56)] #[24])), none⟩,
   ⟨(some 58), (.unOp .not 4 (.tmp 57)), none⟩])
 (.cond (.tmp 58) (.seq (.reg [⟨(some 59), (.buildSlice 24 0 #[]), none⟩,
   ⟨(some 4), (.assign (.tmp 59)), none⟩,
   ⟨(some 5), (.assign (.const (.bool false))), none⟩])
 .ret) .skip))
 (.seq (.reg [⟨(some 60), (.move (.tmp 6)), none⟩,
   ⟨(some 4), (.assign (.tmp 60)), none⟩,
   ⟨(some 5), (.assign (.const (.bool true))), none⟩])
 .ret))))))
theorem x_spec_WithoutJudge : Txt Try.prog 14 c_spec_WithoutJudge [.tmp 4, .tmp 5] 2 := ⟨by kernel_rfl, by kernel_rfl, _, _, Try.func14, rfl, by kernel_rfl, by kernel_rfl, by kernel_rfl, rfl, by decide⟩
/-- loop.example/g01062/laws.rShows -/
def c_laws_rShows : Cd :=
 (.seq (.reg [⟨(some 4), (.assign (.const (.bool false))), none⟩])
 (.seq (.seq (.reg [⟨(some 6), (.move (.tmp 0)), none⟩,
   ⟨(some 7), (.call (.mk (.builtin .len) #[(.tmp 6)] #[24])), none⟩,
   ⟨(some 8), (.move (.tmp 1)), none⟩,
   ⟨(some 9), (.call (.mk (.builtin .len) #[(.tmp 8)] #[24])), none⟩,
   ⟨(some 10), (.binOp .neq 3 (.tmp 7) (.tmp 9) 3), none⟩])
 (.cond (.tmp 10) (.seq (.reg [⟨(some 4), (.assign (.const (.bool false))), none⟩])
 .ret) .skip))
 (.seq (.seq (.reg [⟨(some 5), (.assign (.const (.int .i64 0))), none⟩])
 (.block 0 (.loop (.seq (.seq (.reg [⟨(some 11), (.move (.tmp 5)), none⟩,
   ⟨(some 12), (.move (.tmp 0)), none⟩,
   ⟨(some 13), (.call (.mk (.builtin .len) #[(.tmp 12)] #[24])), none⟩,
   ⟨(some 14), (.binOp .lss 3 (.tmp 11) (.tmp 13) 3), none⟩])
 (.cond (.tmp 14) .skip (.exit 0)))
 (.seq (.block 1 (.seq (.regq [⟨(some 17), (.move (.tmp 0)), none⟩,
   ⟨(some 18), (.move (.tmp 5)), none⟩,
   ⟨(some 19), (.indexAddr 24 (.tmp 17) (.tmp 18)), none⟩,
   ⟨(some 20), (.fieldAddr 31 (.tmp 19) 0), none⟩,
   ⟨(some 21), (.load 3 (.tmp 20)), none⟩,
   ⟨(some 22), (.move (.tmp 1)), none⟩,
   ⟨(some 23), (.move (.tmp 5)), none⟩,
   ⟨(some 24), (.indexAddr 24 (.tmp 22) (.tmp 23)), none⟩,
   ⟨(some 25), (.fieldAddr 31 (.tmp 24) 0), none⟩,
   ⟨(some 26), (.load 3 (.tmp 25)), none⟩,
   ⟨(some 27), (.binOp .neq 3 (.tmp 21) (.tmp 26) 3), none⟩,
   ⟨(some 28), (.move (.tmp 27)), none⟩,
   ⟨(some 29), (.move (.tmp 0)), (some (28, false))⟩,
   ⟨(some 30), (.move (.tmp 5)), (some (28, false))⟩,
   ⟨(some 31), (.indexAddr 24 (.tmp 29) (.tmp 30)), (some (28, false))⟩,
   ⟨(some 32), (.fieldAddr 31 (.tmp 31) 1), (some (28, false))⟩,
   ⟨(some 33), (.load 9 (.tmp 32)), (some (28, false))⟩,
   ⟨(some 34), (.move (.tmp 1)), (some (28, false))⟩,
   ⟨(some 35), (.move (.tmp 5)), (some (28, false))⟩,
   ⟨(some 36), (.indexAddr 24 (.tmp 34) (.tmp 35)), (some (28, false))⟩,
   ⟨(some 37), (.fieldAddr 31 (.tmp 36) 1), (some (28, false))⟩,
   ⟨(some 38), (.load 9 (.tmp 37)), (some (28, false))⟩,
   ⟨(some 39), (.binOp .neq 9 (.tmp 33) (.tmp 38) 9), (some (28, false))⟩,
   ⟨(some 40), (.pick (.tmp 28) (.const (.bool true)) (.tmp 39)), none⟩,
   ⟨(some 41), (.move (.tmp 40)), none⟩,
   ⟨(some 42), (.move (.tmp 0)), (some (41, false))⟩,
   ⟨(some 43), (.move (.tmp 5)), (some (41, false))⟩,
   ⟨(some 44), (.indexAddr 24 (.tmp 42) (.tmp 43)), (some (41, false))⟩,
   ⟨(some 45), (.fieldAddr 31 (.tmp 44) 2), (some (41, false))⟩,
   ⟨(some 46), (.load 3 (.tmp 45)), (some (41, false))⟩,
   ⟨(some 47), (.move (.tmp 1)), (some (41, false))⟩,
   ⟨(some 48), (.move (.tmp 5)), (some (41, false))⟩,
   ⟨(some 49), (.indexAddr 24 (.tmp 47) (.tmp 48)), (some (41, false))⟩,
   ⟨(some 50), (.fieldAddr 31 (.tmp 49) 2), (some (41, false))⟩,
   ⟨(some 51), (.load 3 (.tmp 50)), (some (41, false))⟩,
   ⟨(some 52), (.binOp .neq 3 (.tmp 46) (.tmp 51) 3), (some (41, false))⟩,
   ⟨(some 53), (.pick (.tmp 41) (.const (.bool true)) (.tmp 52)), none⟩,
   ⟨(some 54), (.move (.tmp 53)), none⟩,
   ⟨(some 55), (.move (.tmp 0)), (some (54, false))⟩,
   ⟨(some 56), (.move (.tmp 5)), (some (54, false))⟩,
   ⟨(some 57), (.indexAddr 24 (.tmp 55) (.tmp 56)), (some (54, false))⟩,
   ⟨(some 58), (.fieldAddr 31 (.tmp 57) 3), (some (54, false))⟩,
   ⟨(some 59), (.load 29 (.tmp 58)), (some (54, false))⟩,
   ⟨(some 60), (.move (.tmp 1)), (some (54, false))⟩,
   ⟨(some 61), (.move (.tmp 5)), (some (54, false))⟩,
   ⟨(some 62), (.indexAddr 24 (.tmp 60) (.tmp 61)), (some (54, false))⟩,
   ⟨(some 63), (.fieldAddr 31 (.tmp 62) 3), (some (54, false))⟩,
   ⟨(some 64), (.load 29 (.tmp 63)), (some (54, false))⟩,
   ⟨(some 65), (.call (.mk (.value (.func 41)) #[(.tmp 59), (.tmp 64)] #[29, 29])), (some (54, false))⟩,
   ⟨(some 66), (.unOp .not 4 (.tmp 65)), (some (54, false))⟩,
   ⟨(some 67), (.pick (.tmp 54) (.const (.bool true)) (.tmp 66)), none⟩])
 (.cond (.tmp 67) (.seq (.reg [⟨(some 4), (.assign (.const (.bool false))), none⟩])
 .ret) .skip)))
 (.reg [⟨(some 15), (.move (.tmp 5)), none⟩,
   ⟨(some 16), (.binOp .add 3 (.tmp 15) (.const (.int .i64 1)) 3), none⟩,
   ⟨(some 5), (.assign (.tmp 16)), none⟩]))))))
 (.seq (.reg [⟨(some 4), (.assign (.const (.bool true))), none⟩])
 .ret))))
theorem x_laws_rShows : Txt Try.prog 15 c_laws_rShows [.tmp 4] 2 := ⟨by kernel_rfl, by kernel_rfl, _, _, Try.func15, rfl, by kernel_rfl, by kernel_rfl, by kernel_rfl, rfl, by decide⟩
/-- loop.example/g01062/spec.DrawSpreadOf -/
def c_spec_DrawSpreadOf : Cd :=
 (.seq (.reg [⟨(some 2), (.assign (.const (.slice none 0 0))), none⟩,
   ⟨(some 3), (.assign (.const (.int .i64 0))), none⟩])
 (.seq (.reg [⟨(some 4), (.move (.tmp 0)), none⟩,
   ⟨(some 5), (.call (.mk (.value (.func 42)) #[(.tmp 4)] #[22])), none⟩,
   ⟨(some 6), (.extract (.tmp 5) 0), none⟩,
   ⟨(some 7), (.extract (.tmp 5) 1), none⟩,
   ⟨(some 2), (.assign (.tmp 6)), none⟩,
   ⟨(some 3), (.assign (.tmp 7)), none⟩])
 .ret))
theorem x_spec_DrawSpreadOf : Txt Try.prog 16 c_spec_DrawSpreadOf [.tmp 2, .tmp 3] 1 := ⟨by kernel_rfl, by kernel_rfl, _, _, Try.func16, rfl, by kernel_rfl, by kernel_rfl, by kernel_rfl, rfl, by decide⟩
/-- loop.example/g01062/impl.SpreadOf -/
def c_impl_SpreadOf : Cd :=
 (.seq (.reg [⟨(some 4), (.assign (.const (.int .i64 0))), none⟩,
   ⟨(some 5), (.assign (.const (.bool false))), none⟩])
 (.seq (.reg [⟨(some 7), (.move (.tmp 0)), none⟩,
   ⟨(some 8), (.move (.tmp 1)), none⟩,
   ⟨(some 9), (.call (.mk (.value (.func 26)) #[(.tmp 7), (.tmp 8)] #[24, 3])), none⟩,
   ⟨(some 6), (.assign (.tmp 9)), none⟩])
 (.seq (.seq (.reg [⟨(some 10), (.move (.tmp 0)), none⟩,
   ⟨(some 11), (.call (.mk (.value (.func 27)) #[(.tmp 10)] #[24])), none⟩,
   ⟨(some 12), (.unOp .not 4 (.tmp 11)), none⟩,
   ⟨(some 13), (.move (.tmp 12)), none⟩,
   ⟨(some 14), (.move (.tmp 6)), (some (13, false))⟩,
   ⟨(some 15), (.binOp .lss 3 (.tmp 14) (.const (.int .i64 0)) 3), (some (13, false))⟩,
   ⟨(some 16), (.pick (.tmp 13) (.const (.bool true)) (.tmp 15)), none⟩])
 (.cond (.tmp 16) (.seq (.reg [⟨(some 4), (.assign (.const (.int .i64 0))), none⟩,
   ⟨(some 5), (.assign (.const (.bool false))), none⟩])
 .ret) .skip))
 (.seq (.regq [⟨(some 17), (.move (.tmp 0)), none⟩,
   ⟨(some 18), (.move (.tmp 6)), none⟩,
   ⟨(some 19), (.indexAddr 24 (.tmp 17) (.tmp 18)), none⟩,
   ⟨(some 20), (.fieldAddr 31 (.tmp 19) 3), none⟩,
   ⟨(some 21), (.load 29 (.tmp 20)), none⟩,
   ⟨(some 22), (.call (.mk (.value (.func 43)) #[(.tmp 21)] #[29])), none⟩,
   ⟨(some 23), (.move (.tmp 0)), none⟩,
   ⟨(some 24), (.move (.tmp 6)), none⟩,
   ⟨(some 25), (.indexAddr 24 (.tmp 23) (.tmp 24)), none⟩,
   ⟨(some 26), (.fieldAddr 31 (.tmp 25) 3), none⟩,
   ⟨(some 27), (.load 29 (.tmp 26)), none⟩,
   ⟨(some 28), (.call (.mk (.value (.func 38)) #[(.tmp 27)] #[29])), none⟩,
   ⟨(some 29), (.binOp .sub 3 (.tmp 22) (.tmp 28) 3), none⟩,
   ⟨(some 4), (.assign (.tmp 29)), none⟩,
   ⟨(some 5), (.assign (.const (.bool true))), none⟩])
 .ret))))
theorem x_impl_SpreadOf : Txt Try.prog 17 c_impl_SpreadOf [.tmp 4, .tmp 5] 2 := ⟨by kernel_rfl, by kernel_rfl, _, _, Try.func17, rfl, by kernel_rfl, by kernel_rfl, by kernel_rfl, rfl, by decide⟩
/-- loop.example/g01062/spec.SpreadOf -/
def c_spec_SpreadOf : Cd :=
 (.seq (.reg [⟨(some 4), (.assign (.const (.int .i64 0))), none⟩,
   ⟨(some 5), (.assign (.const (.bool false))), none⟩])
 (.seq (.reg [⟨(some 9), (.move (.tmp 0)), none⟩,
   ⟨(some 10), (.move (.tmp 1)), none⟩,
   ⟨(some 11), (.call (.mk (.value (.func 31)) #[(.tmp 9), (.tmp 10)] #[24, 3])), none⟩,
   ⟨(some 6), (.assign (.tmp 11)), none⟩])
 (.seq (.seq (.reg [⟨(some 12), (.move (.tmp 0)), none⟩,
   ⟨(some 13), (.call (.mk (.value (.func 32)) #[(.tmp 12)] #[24])), none⟩,
   ⟨(some 14), (.unOp .not 4 (.tmp 13)), none⟩,
   ⟨(some 15), (.move (.tmp 14)), none⟩,
   ⟨(some 16), (.move (.tmp 6)), (some (15, false))⟩,
   ⟨(some 17), (.binOp .lss 3 (.tmp 16) (.const (.int .i64 0)) 3), (some (15, false))⟩,
   ⟨(some 18), (.pick (.tmp 15) (.const (.bool true)) (.tmp 17)), none⟩])
 (.cond (.tmp 18) (.seq (.reg [⟨(some 4), (.assign (.const (.int .i64 0))), none⟩,
   ⟨(some 5), (.assign (.const (.bool false))), none⟩])
 .ret) .skip))
 (.seq (.reg [⟨(some 20), (.move (.tmp 0)), none⟩,
   ⟨(some 21), (.move (.tmp 6)), none⟩,
   ⟨(some 22), (.indexAddr 24 (.tmp 20) (.tmp 21)), none⟩,
   ⟨(some 23), (.fieldAddr 31 (.tmp 22) 3), none⟩,
   ⟨(some 24), (.load 29 (.tmp 23)), none⟩,
   ⟨(some 25), (.call (.mk (.value (.func 44)) #[(.tmp 24)] #[29])), none⟩,
   ⟨(some 19), (.move (.tmp 25)), none⟩,
   ⟨(some 26), (.extract (.tmp 19) 0), none⟩,
   ⟨(some 27), (.extract (.tmp 19) 1), none⟩,
   ⟨(some 7), (.assign (.tmp 26)), none⟩,
   ⟨(some 8), (.assign (.tmp 27)), none⟩])
 (.seq (.reg [⟨(some 28), (.move (.tmp 8)), none⟩,
   ⟨(some 29), (.move (.tmp 7)), none⟩,
   ⟨(some 30), (.binOp .sub 3 (.tmp 28) (.tmp 29) 3), none⟩,
   ⟨(some 4), (.assign (.tmp 30)), none⟩,
   ⟨(some 5), (.assign (.const (.bool true))), none⟩])
 .ret)))))
theorem x_spec_SpreadOf : Txt Try.prog 18 c_spec_SpreadOf [.tmp 4, .tmp 5] 2 := ⟨by kernel_rfl, by kernel_rfl, _, _, Try.func18, rfl, by kernel_rfl, by kernel_rfl, by kernel_rfl, rfl, by decide⟩
/-- loop.example/g01062/spec.DrawFramesWith -/
def c_spec_DrawFramesWith : Cd :=
 (.seq (.reg [⟨(some 2), (.assign (.const (.slice none 0 0))), none⟩,
   ⟨(some 3), (.assign (.const (.int .i64 0))), none⟩])
 (.seq (.reg [⟨(some 5), (.move (.tmp 0)), none⟩,
   ⟨(some 6), (.build 45 #[(0, (.tmp 5))]), none⟩,
   ⟨(some 7), (.box 45 (.tmp 6)), none⟩,
   ⟨(some 4), (.assign (.tmp 7)), none⟩])
 (.seq (.reg [⟨(some 8), (.move (.tmp 4)), none⟩,
   ⟨(some 9), (.call (.mk (.value (.func 22)) #[(.tmp 8)] #[42])), none⟩,
   ⟨(some 10), (.move (.tmp 4)), none⟩,
   ⟨(some 11), (.buildSlice 29 7 #[(0, (.const (.int .i64 0))), (1, (.const (.int .i64 1))), (2, (.const (.int .i64 2))), (3, (.const (.int .i64 3))), (4, (.const (.int .i64 4))), (5, (.const (.int .i64 (-1)))), (6, (.const (.int .i64 5)))]), none⟩,
   ⟨(some 12), (.move (.tmp 4)), none⟩,
   ⟨(some 13), (.call (.mk (.value (.func 25)) #[(.tmp 12), (.const (.int .i64 24))] #[42, 3])), none⟩,
   ⟨(some 14), (.binOp .quo 3 (.tmp 13) (.const (.int .i64 11)) 3), none⟩,
   ⟨(some 15), (.binOp .add 3 (.const (.int .i64 5)) (.tmp 14) 3), none⟩,
   ⟨(some 16), (.slice 29 (.tmp 11) none (some (.tmp 15)) none), none⟩,
   ⟨(some 17), (.call (.mk (.value (.func 24)) #[(.tmp 10), (.tmp 16)] #[42, 29])), none⟩,
   ⟨(some 2), (.assign (.tmp 9)), none⟩,
   ⟨(some 3), (.assign (.tmp 17)), none⟩])
 .ret)))
theorem x_spec_DrawFramesWith : Txt Try.prog 19 c_spec_DrawFramesWith [.tmp 2, .tmp 3] 1 := ⟨by kernel_rfl, by kernel_rfl, _, _, Try.func19, rfl, by kernel_rfl, by kernel_rfl, by kernel_rfl, rfl, by decide⟩
/-- loop.example/g01062/impl.FramesWith -/
def c_impl_FramesWith : Cd :=
 (.seq (.reg [⟨(some 4), (.assign (.const (.int .i64 0))), none⟩,
   ⟨(some 5), (.assign (.const (.bool false))), none⟩])
 (.seq (.seq (.reg [⟨(some 9), (.move (.tmp 0)), none⟩,
   ⟨(some 10), (.call (.mk (.value (.func 27)) #[(.tmp 9)] #[24])), none⟩,
   ⟨(some 11), (.unOp .not 4 (.tmp 10)), none⟩,
   ⟨(some 12), (.move (.tmp 11)), none⟩,
   ⟨(some 13), (.move (.tmp 1)), (some (12, false))⟩,
   ⟨(some 14), (.call (.mk (.value (.func 28)) #[(.tmp 13), (.const (.int .i64 0)), (.const (.int .i64 4))] #[3, 3, 3])), (some (12, false))⟩,
   ⟨(some 15), (.unOp .not 4 (.tmp 14)), (some (12, false))⟩,
   ⟨(some 16), (.pick (.tmp 12) (.const (.bool true)) (.tmp 15)), none⟩])
 (.cond (.tmp 16) (.seq (.reg [⟨(some 4), (.assign (.const (.int .i64 0))), none⟩,
   ⟨(some 5), (.assign (.const (.bool false))), none⟩])
 .ret) .skip))
 (.seq (.reg [⟨(some 6), (.assign (.const (.int .i64 0))), none⟩])
 (.seq (.seq (.reg [⟨(some 17), (.move (.tmp 0)), none⟩,
   ⟨(some 18), (.call (.mk (.builtin .len) #[(.tmp 17)] #[24])), none⟩,
   ⟨(some 19), (.move (.const (.int .i64 0))), none⟩])
 (.block 0 (.loop (.seq (.reg [⟨(some 20), (.binOp .lss 3 (.tmp 19) (.tmp 18) 3), none⟩])
 (.seq (.cond (.tmp 20) .skip (.exit 0))
 (.seq (.block 1 (.seq (.reg [⟨(some 21), (.indexAddr 24 (.tmp 17) (.tmp 19)), none⟩,
   ⟨(some 22), (.load 31 (.tmp 21)), none⟩,
   ⟨(some 8), (.alloc 31), none⟩,
   ⟨none, (.store 31 (.tmp 8) (.tmp 22)), none⟩])
 (.seq (.reg [⟨(some 23), (.fieldAddr 31 (.tmp 8) 3), none⟩,
   ⟨(some 24), (.load 29 (.tmp 23)), none⟩,
   ⟨(some 25), (.call (.mk (.value (.func 30)) #[(.tmp 24)] #[29])), none⟩,
   ⟨(some 26), (.move (.tmp 1)), none⟩,
   ⟨(some 27), (.binOp .geq 3 (.tmp 25) (.tmp 26) 3), none⟩])
 (.cond (.tmp 27) (.reg [⟨(some 28), (.move (.tmp 6)), none⟩,
   ⟨(some 29), (.fieldAddr 31 (.tmp 8) 2), none⟩,
   ⟨(some 30), (.load 3 (.tmp 29)), none⟩,
   ⟨(some 31), (.binOp .add 3 (.tmp 28) (.tmp 30) 3), none⟩,
   ⟨(some 6), (.assign (.tmp 31)), none⟩]) .skip))))
 (.reg [⟨(some 32), (.binOp .add 3 (.tmp 19) (.const (.int .i64 1)) 3), none⟩,
   ⟨(some 19), (.move (.tmp 32)), none⟩])))))))
 (.seq (.reg [⟨(some 33), (.move (.tmp 6)), none⟩,
   ⟨(some 4), (.assign (.tmp 33)), none⟩,
   ⟨(some 5), (.assign (.const (.bool true))), none⟩])
 .ret)))))
theorem x_impl_FramesWith : Txt Try.prog 20 c_impl_FramesWith [.tmp 4, .tmp 5] 2 := ⟨by kernel_rfl, by kernel_rfl, _, _, Try.func20, rfl, by kernel_rfl, by kernel_rfl, by kernel_rfl, rfl, by decide⟩
/-- loop.example/g01062/spec.FramesWith -/
def c_spec_FramesWith : Cd :=
 (.seq (.reg [⟨(some 4), (.assign (.const (.int .i64 0))), none⟩,
   ⟨(some 5), (.assign (.const (.bool false))), none⟩])
 (.seq (.seq (.reg [⟨(some 8), (.move (.tmp 0)), none⟩,
   ⟨(some 9), (.call (.mk (.value (.func 32)) #[(.tmp 8)] #[24])), none⟩,
   ⟨(some 10), (.unOp .not 4 (.tmp 9)), none⟩,
   ⟨(some 11), (.move (.tmp 10)), none⟩,
   ⟨(some 12), (.move (.tmp 1)), (some (11, false))⟩,
   ⟨(some 13), (.call (.mk (.value (.func 33)) #[(.tmp 12), (.const (.int .i64 0)), (.const (.int .i64 4))] #[3, 3, 3])), (some (11, false))⟩,
   ⟨(some 14), (.unOp .not 4 (.tmp 13)), (some (11, false))⟩,
   ⟨(some 15), (.pick (.tmp 11) (.const (.bool true)) (.tmp 14)), none⟩])
 (.cond (.tmp 15) (.seq (.reg [⟨(some 4), (.assign (.const (.int .i64 0))), none⟩,
   ⟨(some 5), (.assign (.const (.bool false))), none⟩])
 .ret) .skip))
 (.seq (.reg [⟨(some 6), (.assign (.const (.int .i64 0))), none⟩])
 (.seq (.seq (.reg [⟨(some 7), (.assign (.const (.int .i64 0))), none⟩])
 (.block 0 (.loop (.seq (.seq (.reg [⟨(some 16), (.move (.tmp 7)), none⟩,
   ⟨(some 17), (.move (.tmp 0)), none⟩,
   ⟨(some 18), (.call (.mk (.builtin .len) #[(.tmp 17)] #[24])), none⟩,
   ⟨(some 19), (.binOp .lss 3 (.tmp 16) (.tmp 18) 3), none⟩])
 (.cond (.tmp 19) .skip (.exit 0)))
 (.seq (.block 1 (.seq (.reg [⟨(some 22), (.move (.tmp 0)), none⟩,
   ⟨(some 23), (.move (.tmp 7)), none⟩,
   ⟨(some 24), (.indexAddr 24 (.tmp 22) (.tmp 23)), none⟩,
   ⟨(some 25), (.fieldAddr 31 (.tmp 24) 3), none⟩,
   ⟨(some 26), (.load 29 (.tmp 25)), none⟩,
   ⟨(some 27), (.call (.mk (.value (.func 35)) #[(.tmp 26)] #[29])), none⟩,
   ⟨(some 28), (.move (.tmp 1)), none⟩,
   ⟨(some 29), (.binOp .geq 3 (.tmp 27) (.tmp 28) 3), none⟩])
 (.cond (.tmp 29) (.reg [⟨(some 30), (.move (.tmp 6)), none⟩,
   ⟨(some 31), (.move (.tmp 0)), none⟩,
   ⟨(some 32), (.move (.tmp 7)), none⟩,
   ⟨(some 33), (.indexAddr 24 (.tmp 31) (.tmp 32)), none⟩,
   ⟨(some 34), (.fieldAddr 31 (.tmp 33) 2), none⟩,
   ⟨(some 35), (.load 3 (.tmp 34)), none⟩,
   ⟨(some 36), (.binOp .add 3 (.tmp 30) (.tmp 35) 3), none⟩,
   ⟨(some 6), (.assign (.tmp 36)), none⟩]) .skip)))
 (.reg [⟨(some 20), (.move (.tmp 7)), none⟩,
   ⟨(some 21), (.binOp .add 3 (.tmp 20) (.const (.int .i64 1)) 3), none⟩,
   ⟨(some 7), (.assign (.tmp 21)), none⟩]))))))
 (.seq (.reg [⟨(some 37), (.move (.tmp 6)), none⟩,
   ⟨(some 4), (.assign (.tmp 37)), none⟩,
   ⟨(some 5), (.assign (.const (.bool true))), none⟩])
 .ret)))))
theorem x_spec_FramesWith : Txt Try.prog 21 c_spec_FramesWith [.tmp 4, .tmp 5] 2 := ⟨by kernel_rfl, by kernel_rfl, _, _, Try.func21, rfl, by kernel_rfl, by kernel_rfl, by kernel_rfl, rfl, by decide⟩
/-- (*loop.example/g01062/spec.l1Cur).shows23 -/
def c_spec_l1Cur_shows23 : Cd :=
 (.seq (.reg [⟨(some 2), (.assign (.const (.slice none 0 0))), none⟩])
 (.seq (.reg [⟨(some 8), (.buildSlice 24 0 #[]), none⟩,
   ⟨(some 3), (.assign (.tmp 8)), none⟩])
 (.seq (.reg [⟨(some 9), (.move (.tmp 0)), none⟩,
   ⟨(some 10), (.buildSlice 29 7 #[(0, (.const (.int .i64 3))), (1, (.const (.int .i64 3))), (2, (.const (.int .i64 4))), (3, (.const (.int .i64 5))), (4, (.const (.int .i64 7))), (5, (.const (.int .i64 2))), (6, (.const (.int .i64 8)))]), none⟩,
   ⟨(some 11), (.move (.tmp 0)), none⟩,
   ⟨(some 12), (.call (.mk (.value (.func 25)) #[(.tmp 11), (.const (.int .i64 24))] #[42, 3])), none⟩,
   ⟨(some 13), (.binOp .quo 3 (.tmp 12) (.const (.int .i64 11)) 3), none⟩,
   ⟨(some 14), (.binOp .add 3 (.const (.int .i64 5)) (.tmp 13) 3), none⟩,
   ⟨(some 15), (.slice 29 (.tmp 10) none (some (.tmp 14)) none), none⟩,
   ⟨(some 16), (.call (.mk (.value (.func 24)) #[(.tmp 9), (.tmp 15)] #[42, 29])), none⟩,
   ⟨(some 4), (.assign (.tmp 16)), none⟩])
 (.seq (.reg [⟨(some 5), (.assign (.const (.int .i64 0))), none⟩])
 (.seq (.seq (.reg [⟨(some 17), (.move (.tmp 0)), none⟩,
   ⟨(some 18), (.call (.mk (.value (.func 25)) #[(.tmp 17), (.const (.int .i64 6))] #[42, 3])), none⟩,
   ⟨(some 6), (.assign (.tmp 18)), none⟩])
 (.block 0 (.loop (.seq (.seq (.reg [⟨(some 19), (.move (.tmp 6)), none⟩,
   ⟨(some 20), (.binOp .gtr 3 (.tmp 19) (.const (.int .i64 0)) 3), none⟩])
 (.cond (.tmp 20) .skip (.exit 0)))
 (.seq (.block 1 (.seq (.reg [⟨(some 23), (.move (.tmp 5)), none⟩,
   ⟨(some 24), (.binOp .add 3 (.tmp 23) (.const (.int .i64 1)) 3), none⟩,
   ⟨(some 25), (.move (.tmp 0)), none⟩,
   ⟨(some 26), (.call (.mk (.value (.func 25)) #[(.tmp 25), (.const (.int .i64 3))] #[42, 3])), none⟩,
   ⟨(some 27), (.binOp .add 3 (.tmp 24) (.tmp 26) 3), none⟩,
   ⟨(some 28), (.move (.tmp 0)), none⟩,
   ⟨(some 29), (.call (.mk (.value (.func 25)) #[(.tmp 28), (.const (.int .i64 150))] #[42, 3])), none⟩,
   ⟨(some 30), (.binOp .quo 3 (.tmp 29) (.const (.int .i64 149)) 3), none⟩,
   ⟨(some 31), (.binOp .sub 3 (.tmp 27) (.tmp 30) 3), none⟩,
   ⟨(some 5), (.assign (.tmp 31)), none⟩])
 (.reg [⟨(some 32), (.move (.tmp 3)), none⟩,
   ⟨(some 33), (.move (.tmp 0)), none⟩,
   ⟨(some 34), (.move (.tmp 5)), none⟩,
   ⟨(some 35), (.move (.tmp 4)), none⟩,
   ⟨(some 36), (.call (.mk (.value (.func 45)) #[(.tmp 33), (.tmp 34), (.tmp 35)] #[42, 3, 3])), none⟩,
   ⟨(some 37), (.buildSlice 24 1 #[(0, (.tmp 36))]), none⟩,
   ⟨(some 38), (.call (.mk (.builtin .append) #[(.tmp 32), (.tmp 37)] #[24, 24])), none⟩,
   ⟨(some 3), (.assign (.tmp 38)), none⟩])))
 (.reg [⟨(some 21), (.move (.tmp 6)), none⟩,
   ⟨(some 22), (.binOp .sub 3 (.tmp 21) (.const (.int .i64 1)) 3), none⟩,
   ⟨(some 6), (.assign (.tmp 22)), none⟩]))))))
 (.seq (.seq (.reg [⟨(some 39), (.move (.tmp 0)), none⟩,
   ⟨(some 40), (.call (.mk (.value (.func 46)) #[(.tmp 39), (.const (.int .i64 24))] #[42, 3])), none⟩])
 (.cond (.tmp 40) (.seq (.reg [⟨(some 41), (.buildSlice 24 0 #[]), none⟩,
   ⟨(some 3), (.assign (.tmp 41)), none⟩])
 (.seq (.reg [⟨(some 7), (.assign (.const (.int .i64 0))), none⟩])
 (.block 2 (.loop (.seq (.seq (.reg [⟨(some 42), (.move (.tmp 7)), none⟩,
   ⟨(some 43), (.move (.tmp 0)), none⟩,
   ⟨(some 44), (.call (.mk (.value (.func 25)) #[(.tmp 43), (.const (.int .i64 2))] #[42, 3])), none⟩,
   ⟨(some 45), (.binOp .add 3 (.const (.int .i64 10)) (.tmp 44) 3), none⟩,
   ⟨(some 46), (.binOp .lss 3 (.tmp 42) (.tmp 45) 3), none⟩])
 (.cond (.tmp 46) .skip (.exit 2)))
 (.seq (.block 3 (.reg [⟨(some 49), (.move (.tmp 3)), none⟩,
   ⟨(some 50), (.move (.tmp 7)), none⟩,
   ⟨(some 51), (.binOp .add 3 (.tmp 50) (.const (.int .i64 1)) 3), none⟩,
   ⟨(some 52), (.move (.tmp 7)), none⟩,
   ⟨(some 53), (.binOp .mul 3 (.const (.int .i64 10)) (.tmp 52) 3), none⟩,
   ⟨(some 54), (.buildSlice 29 3 #[(0, (.tmp 53)), (1, (.const (.int .i64 50))), (2, (.const (.int .i64 90)))]), none⟩,
   ⟨(some 55), (.build 31 #[(0, (.tmp 51)), (1, (.const (.string (ByteArray.mk #[98, 101, 114, 110])))), (2, (.const (.int .i64 5))), (3, (.tmp 54))]), none⟩,
   ⟨(some 56), (.buildSlice 24 1 #[(0, (.tmp 55))]), none⟩,
   ⟨(some 57), (.call (.mk (.builtin .append) #[(.tmp 49), (.tmp 56)] #[24, 24])), none⟩,
   ⟨(some 3), (.assign (.tmp 57)), none⟩]))
 (.reg [⟨(some 47), (.move (.tmp 7)), none⟩,
   ⟨(some 48), (.binOp .add 3 (.tmp 47) (.const (.int .i64 1)) 3), none⟩,
   ⟨(some 7), (.assign (.tmp 48)), none⟩]))))))) .skip))
 (.seq (.reg [⟨(some 58), (.move (.tmp 3)), none⟩,
   ⟨(some 2), (.assign (.tmp 58)), none⟩])
 .ret)))))))
theorem x_spec_l1Cur_shows23 : Txt Try.prog 22 c_spec_l1Cur_shows23 [.tmp 2] 1 := ⟨by kernel_rfl, by kernel_rfl, _, _, Try.func22, rfl, by kernel_rfl, by kernel_rfl, by kernel_rfl, rfl, by decide⟩
/-- (*loop.example/g01062/spec.l1Cur).showId -/
def c_spec_l1Cur_showId : Cd :=
 (.seq (.reg [⟨(some 4), (.assign (.const (.int .i64 0))), none⟩])
 (.seq (.seq (.reg [⟨(some 5), (.move (.tmp 1)), none⟩,
   ⟨(some 6), (.call (.mk (.builtin .len) #[(.tmp 5)] #[24])), none⟩,
   ⟨(some 7), (.binOp .eql 3 (.tmp 6) (.const (.int .i64 0)) 3), none⟩,
   ⟨(some 8), (.move (.tmp 7)), none⟩,
   ⟨(some 9), (.move (.tmp 0)), (some (8, false))⟩,
   ⟨(some 10), (.call (.mk (.value (.func 46)) #[(.tmp 9), (.const (.int .i64 10))] #[42, 3])), (some (8, false))⟩,
   ⟨(some 11), (.pick (.tmp 8) (.const (.bool true)) (.tmp 10)), none⟩])
 (.cond (.tmp 11) (.seq (.reg [⟨(some 12), (.move (.tmp 0)), none⟩,
   ⟨(some 13), (.buildSlice 29 3 #[(0, (.const (.int .i64 0))), (1, (.const (.int .i64 1))), (2, (.const (.int .i64 50)))]), none⟩,
   ⟨(some 14), (.call (.mk (.value (.func 24)) #[(.tmp 12), (.tmp 13)] #[42, 29])), none⟩,
   ⟨(some 4), (.assign (.tmp 14)), none⟩])
 .ret) .skip))
 (.seq (.reg [⟨(some 15), (.move (.tmp 1)), none⟩,
   ⟨(some 16), (.move (.tmp 0)), none⟩,
   ⟨(some 17), (.move (.tmp 1)), none⟩,
   ⟨(some 18), (.call (.mk (.builtin .len) #[(.tmp 17)] #[24])), none⟩,
   ⟨(some 19), (.call (.mk (.value (.func 25)) #[(.tmp 16), (.tmp 18)] #[42, 3])), none⟩,
   ⟨(some 20), (.indexAddr 24 (.tmp 15) (.tmp 19)), none⟩,
   ⟨(some 21), (.fieldAddr 31 (.tmp 20) 0), none⟩,
   ⟨(some 22), (.load 3 (.tmp 21)), none⟩,
   ⟨(some 4), (.assign (.tmp 22)), none⟩])
 .ret)))
theorem x_spec_l1Cur_showId : Txt Try.prog 23 c_spec_l1Cur_showId [.tmp 4] 2 := ⟨by kernel_rfl, by kernel_rfl, _, _, Try.func23, rfl, by kernel_rfl, by kernel_rfl, by kernel_rfl, rfl, by decide⟩
/-- (*loop.example/g01062/spec.l1Cur).among -/
def c_spec_l1Cur_among : Cd :=
 (.seq (.reg [⟨(some 4), (.assign (.const (.int .i64 0))), none⟩])
 (.seq (.reg [⟨(some 5), (.move (.tmp 1)), none⟩,
   ⟨(some 6), (.move (.tmp 0)), none⟩,
   ⟨(some 7), (.move (.tmp 1)), none⟩,
   ⟨(some 8), (.call (.mk (.builtin .len) #[(.tmp 7)] #[29])), none⟩,
   ⟨(some 9), (.call (.mk (.value (.func 25)) #[(.tmp 6), (.tmp 8)] #[42, 3])), none⟩,
   ⟨(some 10), (.indexAddr 29 (.tmp 5) (.tmp 9)), none⟩,
   ⟨(some 11), (.load 3 (.tmp 10)), none⟩,
   ⟨(some 4), (.assign (.tmp 11)), none⟩])
 .ret))
theorem x_spec_l1Cur_among : Txt Try.prog 24 c_spec_l1Cur_among [.tmp 4] 2 := ⟨by kernel_rfl, by kernel_rfl, _, _, Try.func24, rfl, by kernel_rfl, by kernel_rfl, by kernel_rfl, rfl, by decide⟩
/-- (*loop.example/g01062/spec.l1Cur).pick -/
def c_spec_l1Cur_pick : Cd :=
 (.seq (.reg [⟨(some 4), (.assign (.const (.int .i64 0))), none⟩])
 (.seq (.seq (.reg [⟨(some 6), (.move (.tmp 1)), none⟩,
   ⟨(some 7), (.binOp .leq 3 (.tmp 6) (.const (.int .i64 1)) 3), none⟩])
 (.cond (.tmp 7) (.seq (.reg [⟨(some 4), (.assign (.const (.int .i64 0))), none⟩])
 .ret) .skip))
 (.seq (.reg [⟨(some 8), (.move (.tmp 0)), none⟩,
   ⟨(some 9), (.call (.mk (.value (.func 47)) #[(.tmp 8)] #[42])), none⟩,
   ⟨(some 5), (.assign (.tmp 9)), none⟩])
 (.seq (.seq (.reg [⟨(some 10), (.move (.tmp 1)), none⟩,
   ⟨(some 11), (.binOp .gtr 3 (.tmp 10) (.const (.int .i64 200)) 3), none⟩])
 (.cond (.tmp 11) (.reg [⟨(some 12), (.move (.tmp 5)), none⟩,
   ⟨(some 13), (.binOp .mul 3 (.tmp 12) (.const (.int .i64 256)) 3), none⟩,
   ⟨(some 14), (.move (.tmp 0)), none⟩,
   ⟨(some 15), (.call (.mk (.value (.func 47)) #[(.tmp 14)] #[42])), none⟩,
   ⟨(some 16), (.binOp .add 3 (.tmp 13) (.tmp 15) 3), none⟩,
   ⟨(some 5), (.assign (.tmp 16)), none⟩]) .skip))
 (.seq (.reg [⟨(some 17), (.move (.tmp 5)), none⟩,
   ⟨(some 18), (.move (.tmp 1)), none⟩,
   ⟨(some 19), (.binOp .rem 3 (.tmp 17) (.tmp 18) 3), none⟩,
   ⟨(some 4), (.assign (.tmp 19)), none⟩])
 .ret)))))
theorem x_spec_l1Cur_pick : Txt Try.prog 25 c_spec_l1Cur_pick [.tmp 4] 2 := ⟨by kernel_rfl, by kernel_rfl, _, _, Try.func25, rfl, by kernel_rfl, by kernel_rfl, by kernel_rfl, rfl, by decide⟩
/-- loop.example/g01062/impl.exhibitAt -/
def c_impl_exhibitAt : Cd :=
 (.seq (.reg [⟨(some 3), (.box 3 (.tmp 1)), none⟩,
   ⟨(some 4), (.assign (.const (.int .i64 0))), none⟩])
 (.seq (.reg [⟨(some 5), (.move (.tmp 0)), none⟩,
   ⟨(some 6), (.makeFunc (.func 49) #[] #[(.tmp 3)]), none⟩,
   ⟨(some 7), (.call (.mk (.value (.func 48)) #[(.tmp 5), (.tmp 6)] #[24, 65])), none⟩,
   ⟨(some 4), (.assign (.tmp 7)), none⟩])
 .ret))
theorem x_impl_exhibitAt : Txt Try.prog 26 c_impl_exhibitAt [.tmp 4] 2 := ⟨by kernel_rfl, by kernel_rfl, _, _, Try.func26, rfl, by kernel_rfl, by kernel_rfl, by kernel_rfl, rfl, by decide⟩
/-- loop.example/g01062/impl.areExhibits -/
def c_impl_areExhibits : Cd :=
 (.seq (.reg [⟨(some 2), (.assign (.const (.bool false))), none⟩])
 (.seq (.seq (.reg [⟨(some 4), (.move (.tmp 0)), none⟩,
   ⟨(some 5), (.call (.mk (.builtin .len) #[(.tmp 4)] #[24])), none⟩,
   ⟨(some 6), (.move (.const (.int .i64 0))), none⟩])
 (.block 0 (.loop (.seq (.reg [⟨(some 7), (.binOp .lss 3 (.tmp 6) (.tmp 5) 3), none⟩])
 (.seq (.cond (.tmp 7) .skip (.exit 0))
 (.seq (.block 1 (.seq (.reg [⟨(some 8), (.move (.tmp 6)), none⟩,
   ⟨(some 3), (.assign (.tmp 8)), none⟩])
 (.seq (.regq [⟨(some 9), (.move (.tmp 0)), none⟩,
   ⟨(some 10), (.move (.tmp 3)), none⟩,
   ⟨(some 11), (.indexAddr 24 (.tmp 9) (.tmp 10)), none⟩,
   ⟨(some 12), (.call (.mk (.value (.func 36)) #[(.tmp 11)] #[55])), none⟩,
   ⟨(some 13), (.unOp .not 4 (.tmp 12)), none⟩,
   ⟨(some 14), (.move (.tmp 13)), none⟩,
   ⟨(some 15), (.move (.tmp 0)), (some (14, false))⟩,
   ⟨(some 16), (.move (.tmp 3)), (some (14, false))⟩,
   ⟨(some 17), (.indexAddr 24 (.tmp 15) (.tmp 16)), (some (14, false))⟩,
   ⟨(some 18), (.fieldAddr 31 (.tmp 17) 3), (some (14, false))⟩,
   ⟨(some 19), (.load 29 (.tmp 18)), (some (14, false))⟩,
   ⟨(some 20), (.call (.mk (.builtin .len) #[(.tmp 19)] #[29])), (some (14, false))⟩,
   ⟨(some 21), (.move (.tmp 0)), (some (14, false))⟩,
   ⟨(some 22), (.indexAddr 24 (.tmp 21) (.const (.int .i64 0))), (some (14, false))⟩,
   ⟨(some 23), (.fieldAddr 31 (.tmp 22) 3), (some (14, false))⟩,
   ⟨(some 24), (.load 29 (.tmp 23)), (some (14, false))⟩,
   ⟨(some 25), (.call (.mk (.builtin .len) #[(.tmp 24)] #[29])), (some (14, false))⟩,
   ⟨(some 26), (.binOp .neq 3 (.tmp 20) (.tmp 25) 3), (some (14, false))⟩,
   ⟨(some 27), (.pick (.tmp 14) (.const (.bool true)) (.tmp 26)), none⟩,
   ⟨(some 28), (.move (.tmp 27)), none⟩,
   ⟨(some 29), (.move (.tmp 3)), (some (28, false))⟩,
   ⟨(some 30), (.binOp .gtr 3 (.tmp 29) (.const (.int .i64 0)) 3), (some (28, false))⟩,
   ⟨(some 31), (.move (.tmp 30)), (some (28, false))⟩,
   ⟨(some 32), (.move (.tmp 0)), (some (31, true))⟩,
   ⟨(some 33), (.move (.tmp 3)), (some (31, true))⟩,
   ⟨(some 34), (.binOp .sub 3 (.tmp 33) (.const (.int .i64 1)) 3), (some (31, true))⟩,
   ⟨(some 35), (.indexAddr 24 (.tmp 32) (.tmp 34)), (some (31, true))⟩,
   ⟨(some 36), (.fieldAddr 31 (.tmp 35) 0), (some (31, true))⟩,
   ⟨(some 37), (.load 3 (.tmp 36)), (some (31, true))⟩,
   ⟨(some 38), (.move (.tmp 0)), (some (31, true))⟩,
   ⟨(some 39), (.move (.tmp 3)), (some (31, true))⟩,
   ⟨(some 40), (.indexAddr 24 (.tmp 38) (.tmp 39)), (some (31, true))⟩,
   ⟨(some 41), (.fieldAddr 31 (.tmp 40) 0), (some (31, true))⟩,
   ⟨(some 42), (.load 3 (.tmp 41)), (some (31, true))⟩,
   ⟨(some 43), (.binOp .geq 3 (.tmp 37) (.tmp 42) 3), (some (31, true))⟩,
   ⟨(some 44), (.pick (.tmp 31) (.tmp 43) (.const (.bool false))), (some (28, false))⟩,
   ⟨(some 45), (.pick (.tmp 28) (.const (.bool true)) (.tmp 44)), none⟩])
 (.cond (.tmp 45) (.seq (.reg [⟨(some 2), (.assign (.const (.bool false))), none⟩])
 .ret) .skip))))
 (.reg [⟨(some 46), (.binOp .add 3 (.tmp 6) (.const (.int .i64 1)) 3), none⟩,
   ⟨(some 6), (.move (.tmp 46)), none⟩])))))))
 (.seq (.reg [⟨(some 47), (.move (.tmp 0)), none⟩,
   ⟨(some 48), (.call (.mk (.builtin .len) #[(.tmp 47)] #[24])), none⟩,
   ⟨(some 49), (.binOp .leq 3 (.tmp 48) (.const (.int .i64 10)) 3), none⟩,
   ⟨(some 2), (.assign (.tmp 49)), none⟩])
 .ret)))
theorem x_impl_areExhibits : Txt Try.prog 27 c_impl_areExhibits [.tmp 2] 1 := ⟨by kernel_rfl, by kernel_rfl, _, _, Try.func27, rfl, by kernel_rfl, by kernel_rfl, by kernel_rfl, rfl, by decide⟩
/-- loop.example/g01062/impl.inRange -/
def c_impl_inRange : Cd :=
 (.seq (.reg [⟨(some 6), (.assign (.const (.bool false))), none⟩])
 (.seq (.reg [⟨(some 7), (.move (.tmp 0)), none⟩,
   ⟨(some 8), (.move (.tmp 1)), none⟩,
   ⟨(some 9), (.binOp .geq 3 (.tmp 7) (.tmp 8) 3), none⟩,
   ⟨(some 10), (.move (.tmp 9)), none⟩,
   ⟨(some 11), (.move (.tmp 0)), (some (10, true))⟩,
   ⟨(some 12), (.move (.tmp 2)), (some (10, true))⟩,
   ⟨(some 13), (.binOp .leq 3 (.tmp 11) (.tmp 12) 3), (some (10, true))⟩,
   ⟨(some 14), (.pick (.tmp 10) (.tmp 13) (.const (.bool false))), none⟩,
   ⟨(some 6), (.assign (.tmp 14)), none⟩])
 .ret))
theorem x_impl_inRange : Txt Try.prog 28 c_impl_inRange [.tmp 6] 3 := ⟨by kernel_rfl, by kernel_rfl, _, _, Try.func28, rfl, by kernel_rfl, by kernel_rfl, by kernel_rfl, rfl, by decide⟩
/-- slices.Clone[[]int,int] -/
def c_slices_Clone_int : Cd :=
 (.seq (.reg [⟨(some 2), (.assign (.const (.slice none 0 0))), none⟩])
 (.seq (.seq (.reg [⟨(some 3), (.move (.tmp 0)), none⟩,
   ⟨(some 4), (.binOp .eql 29 (.tmp 3) (.const (.slice none 0 0)) 29), none⟩])
 (.cond (.tmp 4) (.seq (.reg [⟨(some 2), (.assign (.const (.slice none 0 0))), none⟩])
 .ret) .skip))
 (.seq (.reg [⟨(some 5), (.buildSlice 29 0 #[]), none⟩,
   ⟨(some 6), (.move (.tmp 0)), none⟩,
   ⟨(some 7), (.call (.mk (.builtin .append) #[(.tmp 5), (.tmp 6)] #[29, 29])), none⟩,
   ⟨(some 2), (.assign (.tmp 7)), none⟩])
 .ret)))
theorem x_slices_Clone_int : Txt Try.prog 29 c_slices_Clone_int [.tmp 2] 1 := ⟨by kernel_rfl, by kernel_rfl, _, _, Try.func29, rfl, by kernel_rfl, by kernel_rfl, by kernel_rfl, rfl, by decide⟩
/-- loop.example/g01062/impl.medalOf -/
def c_impl_medalOf : Cd :=
 (.seq (.reg [⟨(some 2), (.assign (.const (.int .i64 0))), none⟩])
 (.seq (.reg [⟨(some 3), (.assign (.const (.int .i64 0))), none⟩])
 (.seq (.seq (.reg [⟨(some 6), (.buildSlice 29 4 #[(0, (.const (.int .i64 40))), (1, (.const (.int .i64 55))), (2, (.const (.int .i64 70))), (3, (.const (.int .i64 85)))]), none⟩,
   ⟨(some 7), (.call (.mk (.builtin .len) #[(.tmp 6)] #[29])), none⟩,
   ⟨(some 8), (.move (.const (.int .i64 0))), none⟩])
 (.block 0 (.loop (.seq (.reg [⟨(some 9), (.binOp .lss 3 (.tmp 8) (.tmp 7) 3), none⟩])
 (.seq (.cond (.tmp 9) .skip (.exit 0))
 (.seq (.block 1 (.seq (.reg [⟨(some 10), (.indexAddr 29 (.tmp 6) (.tmp 8)), none⟩,
   ⟨(some 11), (.load 3 (.tmp 10)), none⟩,
   ⟨(some 5), (.assign (.tmp 11)), none⟩])
 (.seq (.reg [⟨(some 12), (.move (.tmp 0)), none⟩,
   ⟨(some 13), (.call (.mk (.value (.func 50)) #[(.tmp 12)] #[29])), none⟩,
   ⟨(some 14), (.move (.tmp 5)), none⟩,
   ⟨(some 15), (.move (.tmp 0)), none⟩,
   ⟨(some 16), (.call (.mk (.builtin .len) #[(.tmp 15)] #[29])), none⟩,
   ⟨(some 17), (.binOp .sub 3 (.tmp 16) (.const (.int .i64 2)) 3), none⟩,
   ⟨(some 18), (.binOp .mul 3 (.tmp 14) (.tmp 17) 3), none⟩,
   ⟨(some 19), (.binOp .geq 3 (.tmp 13) (.tmp 18) 3), none⟩])
 (.cond (.tmp 19) (.reg [⟨(some 20), (.move (.tmp 3)), none⟩,
   ⟨(some 21), (.binOp .add 3 (.tmp 20) (.const (.int .i64 1)) 3), none⟩,
   ⟨(some 3), (.assign (.tmp 21)), none⟩]) .skip))))
 (.reg [⟨(some 22), (.binOp .add 3 (.tmp 8) (.const (.int .i64 1)) 3), none⟩,
   ⟨(some 8), (.move (.tmp 22)), none⟩])))))))
 (.seq (.reg [⟨(some 23), (.move (.tmp 3)), none⟩,
   ⟨(some 2), (.assign (.tmp 23)), none⟩])
 .ret))))
theorem x_impl_medalOf : Txt Try.prog 30 c_impl_medalOf [.tmp 2] 1 := ⟨by kernel_rfl, by kernel_rfl, _, _, Try.func30, rfl, by kernel_rfl, by kernel_rfl, by kernel_rfl, rfl, by decide⟩
/-- loop.example/g01062/spec.l23Find -/
def c_spec_l23Find : Cd :=
 (.seq (.reg [⟨(some 4), (.assign (.const (.int .i64 0))), none⟩])
 (.seq (.seq (.reg [⟨(some 5), (.assign (.const (.int .i64 0))), none⟩])
 (.block 0 (.loop (.seq (.seq (.reg [⟨(some 6), (.move (.tmp 5)), none⟩,
   ⟨(some 7), (.move (.tmp 0)), none⟩,
   ⟨(some 8), (.call (.mk (.builtin .len) #[(.tmp 7)] #[24])), none⟩,
   ⟨(some 9), (.binOp .lss 3 (.tmp 6) (.tmp 8) 3), none⟩])
 (.cond (.tmp 9) .skip (.exit 0)))
 (.seq (.block 1 (.seq (.reg [⟨(some 12), (.move (.tmp 0)), none⟩,
   ⟨(some 13), (.move (.tmp 5)), none⟩,
   ⟨(some 14), (.indexAddr 24 (.tmp 12) (.tmp 13)), none⟩,
   ⟨(some 15), (.fieldAddr 31 (.tmp 14) 0), none⟩,
   ⟨(some 16), (.load 3 (.tmp 15)), none⟩,
   ⟨(some 17), (.move (.tmp 1)), none⟩,
   ⟨(some 18), (.binOp .eql 3 (.tmp 16) (.tmp 17) 3), none⟩])
 (.cond (.tmp 18) (.seq (.reg [⟨(some 19), (.move (.tmp 5)), none⟩,
   ⟨(some 4), (.assign (.tmp 19)), none⟩])
 .ret) .skip)))
 (.reg [⟨(some 10), (.move (.tmp 5)), none⟩,
   ⟨(some 11), (.binOp .add 3 (.tmp 10) (.const (.int .i64 1)) 3), none⟩,
   ⟨(some 5), (.assign (.tmp 11)), none⟩]))))))
 (.seq (.reg [⟨(some 4), (.assign (.const (.int .i64 (-1)))), none⟩])
 .ret)))
theorem x_spec_l23Find : Txt Try.prog 31 c_spec_l23Find [.tmp 4] 2 := ⟨by kernel_rfl, by kernel_rfl, _, _, Try.func31, rfl, by kernel_rfl, by kernel_rfl, by kernel_rfl, rfl, by decide⟩
/-- loop.example/g01062/spec.l23Good -/
def c_spec_l23Good : Cd :=
 (.seq (.reg [⟨(some 2), (.assign (.const (.bool false))), none⟩])
 (.seq (.seq (.reg [⟨(some 3), (.assign (.const (.int .i64 0))), none⟩])
 (.block 0 (.loop (.seq (.seq (.reg [⟨(some 4), (.move (.tmp 3)), none⟩,
   ⟨(some 5), (.move (.tmp 0)), none⟩,
   ⟨(some 6), (.call (.mk (.builtin .len) #[(.tmp 5)] #[24])), none⟩,
   ⟨(some 7), (.binOp .lss 3 (.tmp 4) (.tmp 6) 3), none⟩])
 (.cond (.tmp 7) .skip (.exit 0)))
 (.seq (.block 1 (.seq (.regq [⟨(some 10), (.move (.tmp 0)), none⟩,
   ⟨(some 11), (.move (.tmp 3)), none⟩,
   ⟨(some 12), (.indexAddr 24 (.tmp 10) (.tmp 11)), none⟩,
   ⟨(some 13), (.load 31 (.tmp 12)), none⟩,
   ⟨(some 14), (.call (.mk (.value (.func 51)) #[(.tmp 13)] #[31])), none⟩,
   ⟨(some 15), (.unOp .not 4 (.tmp 14)), none⟩,
   ⟨(some 16), (.move (.tmp 15)), none⟩,
   ⟨(some 17), (.move (.tmp 0)), (some (16, false))⟩,
   ⟨(some 18), (.move (.tmp 3)), (some (16, false))⟩,
   ⟨(some 19), (.indexAddr 24 (.tmp 17) (.tmp 18)), (some (16, false))⟩,
   ⟨(some 20), (.fieldAddr 31 (.tmp 19) 3), (some (16, false))⟩,
   ⟨(some 21), (.load 29 (.tmp 20)), (some (16, false))⟩,
   ⟨(some 22), (.call (.mk (.builtin .len) #[(.tmp 21)] #[29])), (some (16, false))⟩,
   ⟨(some 23), (.move (.tmp 0)), (some (16, false))⟩,
   ⟨(some 24), (.indexAddr 24 (.tmp 23) (.const (.int .i64 0))), (some (16, false))⟩,
   ⟨(some 25), (.fieldAddr 31 (.tmp 24) 3), (some (16, false))⟩,
   ⟨(some 26), (.load 29 (.tmp 25)), (some (16, false))⟩,
   ⟨(some 27), (.call (.mk (.builtin .len) #[(.tmp 26)] #[29])), (some (16, false))⟩,
   ⟨(some 28), (.binOp .neq 3 (.tmp 22) (.tmp 27) 3), (some (16, false))⟩,
   ⟨(some 29), (.pick (.tmp 16) (.const (.bool true)) (.tmp 28)), none⟩,
   ⟨(some 30), (.move (.tmp 29)), none⟩,
   ⟨(some 31), (.move (.tmp 3)), (some (30, false))⟩,
   ⟨(some 32), (.binOp .gtr 3 (.tmp 31) (.const (.int .i64 0)) 3), (some (30, false))⟩,
   ⟨(some 33), (.move (.tmp 32)), (some (30, false))⟩,
   ⟨(some 34), (.move (.tmp 0)), (some (33, true))⟩,
   ⟨(some 35), (.move (.tmp 3)), (some (33, true))⟩,
   ⟨(some 36), (.binOp .sub 3 (.tmp 35) (.const (.int .i64 1)) 3), (some (33, true))⟩,
   ⟨(some 37), (.indexAddr 24 (.tmp 34) (.tmp 36)), (some (33, true))⟩,
   ⟨(some 38), (.fieldAddr 31 (.tmp 37) 0), (some (33, true))⟩,
   ⟨(some 39), (.load 3 (.tmp 38)), (some (33, true))⟩,
   ⟨(some 40), (.move (.tmp 0)), (some (33, true))⟩,
   ⟨(some 41), (.move (.tmp 3)), (some (33, true))⟩,
   ⟨(some 42), (.indexAddr 24 (.tmp 40) (.tmp 41)), (some (33, true))⟩,
   ⟨(some 43), (.fieldAddr 31 (.tmp 42) 0), (some (33, true))⟩,
   ⟨(some 44), (.load 3 (.tmp 43)), (some (33, true))⟩,
   ⟨(some 45), (.binOp .geq 3 (.tmp 39) (.tmp 44) 3), (some (33, true))⟩,
   ⟨(some 46), (.pick (.tmp 33) (.tmp 45) (.const (.bool false))), (some (30, false))⟩,
   ⟨(some 47), (.pick (.tmp 30) (.const (.bool true)) (.tmp 46)), none⟩])
 (.cond (.tmp 47) (.seq (.reg [⟨(some 2), (.assign (.const (.bool false))), none⟩])
 .ret) .skip)))
 (.reg [⟨(some 8), (.move (.tmp 3)), none⟩,
   ⟨(some 9), (.binOp .add 3 (.tmp 8) (.const (.int .i64 1)) 3), none⟩,
   ⟨(some 3), (.assign (.tmp 9)), none⟩]))))))
 (.seq (.reg [⟨(some 48), (.move (.tmp 0)), none⟩,
   ⟨(some 49), (.call (.mk (.builtin .len) #[(.tmp 48)] #[24])), none⟩,
   ⟨(some 50), (.binOp .leq 3 (.tmp 49) (.const (.int .i64 10)) 3), none⟩,
   ⟨(some 2), (.assign (.tmp 50)), none⟩])
 .ret)))
theorem x_spec_l23Good : Txt Try.prog 32 c_spec_l23Good [.tmp 2] 1 := ⟨by kernel_rfl, by kernel_rfl, _, _, Try.func32, rfl, by kernel_rfl, by kernel_rfl, by kernel_rfl, rfl, by decide⟩
/-- loop.example/g01062/spec.l1In -/
def c_spec_l1In : Cd :=
 (.seq (.reg [⟨(some 6), (.assign (.const (.bool false))), none⟩])
 (.seq (.reg [⟨(some 7), (.move (.tmp 0)), none⟩,
   ⟨(some 8), (.move (.tmp 1)), none⟩,
   ⟨(some 9), (.binOp .geq 3 (.tmp 7) (.tmp 8) 3), none⟩,
   ⟨(some 10), (.move (.tmp 9)), none⟩,
   ⟨(some 11), (.move (.tmp 0)), (some (10, true))⟩,
   ⟨(some 12), (.move (.tmp 2)), (some (10, true))⟩,
   ⟨(some 13), (.binOp .leq 3 (.tmp 11) (.tmp 12) 3), (some (10, true))⟩,
   ⟨(some 14), (.pick (.tmp 10) (.tmp 13) (.const (.bool false))), none⟩,
   ⟨(some 6), (.assign (.tmp 14)), none⟩])
 .ret))
theorem x_spec_l1In : Txt Try.prog 33 c_spec_l1In [.tmp 6] 3 := ⟨by kernel_rfl, by kernel_rfl, _, _, Try.func33, rfl, by kernel_rfl, by kernel_rfl, by kernel_rfl, rfl, by decide⟩
/-- loop.example/g01062/spec.l1Own -/
def c_spec_l1Own : Cd :=
 (.seq (.reg [⟨(some 2), (.assign (.const (.slice none 0 0))), none⟩])
 (.seq (.reg [⟨(some 3), (.buildSlice 29 0 #[]), none⟩,
   ⟨(some 4), (.move (.tmp 0)), none⟩,
   ⟨(some 5), (.call (.mk (.builtin .append) #[(.tmp 3), (.tmp 4)] #[29, 29])), none⟩,
   ⟨(some 2), (.assign (.tmp 5)), none⟩])
 .ret))
theorem x_spec_l1Own : Txt Try.prog 34 c_spec_l1Own [.tmp 2] 1 := ⟨by kernel_rfl, by kernel_rfl, _, _, Try.func34, rfl, by kernel_rfl, by kernel_rfl, by kernel_rfl, rfl, by decide⟩
/-- loop.example/g01062/spec.l23Medal -/
def c_spec_l23Medal : Cd :=
 (.seq (.reg [⟨(some 2), (.assign (.const (.int .i64 0))), none⟩])
 (.seq (.reg [⟨(some 5), (.move (.tmp 0)), none⟩,
   ⟨(some 6), (.call (.mk (.value (.func 52)) #[(.tmp 5)] #[29])), none⟩,
   ⟨(some 7), (.move (.tmp 0)), none⟩,
   ⟨(some 8), (.call (.mk (.builtin .len) #[(.tmp 7)] #[29])), none⟩,
   ⟨(some 9), (.binOp .sub 3 (.tmp 8) (.const (.int .i64 2)) 3), none⟩,
   ⟨(some 3), (.assign (.tmp 6)), none⟩,
   ⟨(some 4), (.assign (.tmp 9)), none⟩])
 (.seq (.seq (.reg [⟨(some 10), (.move (.tmp 3)), none⟩,
   ⟨(some 11), (.move (.tmp 4)), none⟩,
   ⟨(some 12), (.binOp .mul 3 (.const (.int .i64 85)) (.tmp 11) 3), none⟩,
   ⟨(some 13), (.binOp .geq 3 (.tmp 10) (.tmp 12) 3), none⟩])
 (.cond (.tmp 13) (.seq (.reg [⟨(some 2), (.assign (.const (.int .i64 4))), none⟩])
 .ret) .skip))
 (.seq (.seq (.reg [⟨(some 14), (.move (.tmp 3)), none⟩,
   ⟨(some 15), (.move (.tmp 4)), none⟩,
   ⟨(some 16), (.binOp .mul 3 (.const (.int .i64 70)) (.tmp 15) 3), none⟩,
   ⟨(some 17), (.binOp .geq 3 (.tmp 14) (.tmp 16) 3), none⟩])
 (.cond (.tmp 17) (.seq (.reg [⟨(some 2), (.assign (.const (.int .i64 3))), none⟩])
 .ret) .skip))
 (.seq (.seq (.reg [⟨(some 18), (.move (.tmp 3)), none⟩,
   ⟨(some 19), (.move (.tmp 4)), none⟩,
   ⟨(some 20), (.binOp .mul 3 (.const (.int .i64 55)) (.tmp 19) 3), none⟩,
   ⟨(some 21), (.binOp .geq 3 (.tmp 18) (.tmp 20) 3), none⟩])
 (.cond (.tmp 21) (.seq (.reg [⟨(some 2), (.assign (.const (.int .i64 2))), none⟩])
 .ret) .skip))
 (.seq (.seq (.reg [⟨(some 22), (.move (.tmp 3)), none⟩,
   ⟨(some 23), (.move (.tmp 4)), none⟩,
   ⟨(some 24), (.binOp .mul 3 (.const (.int .i64 40)) (.tmp 23) 3), none⟩,
   ⟨(some 25), (.binOp .geq 3 (.tmp 22) (.tmp 24) 3), none⟩])
 (.cond (.tmp 25) (.seq (.reg [⟨(some 2), (.assign (.const (.int .i64 1))), none⟩])
 .ret) .skip))
 (.seq (.reg [⟨(some 2), (.assign (.const (.int .i64 0))), none⟩])
 .ret)))))))
theorem x_spec_l23Medal : Txt Try.prog 35 c_spec_l23Medal [.tmp 2] 1 := ⟨by kernel_rfl, by kernel_rfl, _, _, Try.func35, rfl, by kernel_rfl, by kernel_rfl, by kernel_rfl, rfl, by decide⟩
/-- loop.example/g01062/impl.isExhibit -/
def c_impl_isExhibit : Cd :=
 (.seq (.reg [⟨(some 2), (.assign (.const (.bool false))), none⟩])
 (.seq (.reg [⟨(some 3), (.move (.tmp 0)), none⟩,
   ⟨(some 4), (.nilCheck (.tmp 3)), none⟩,
   ⟨(some 5), (.fieldAddr 31 (.tmp 4) 0), none⟩,
   ⟨(some 6), (.load 3 (.tmp 5)), none⟩,
   ⟨(some 7), (.call (.mk (.value (.func 28)) #[(.tmp 6), (.const (.int .i64 1)), (.const (.int .i64 99))] #[3, 3, 3])), none⟩,
   ⟨(some 8), (.move (.tmp 7)), none⟩,
   ⟨(some 9), (.move (.tmp 0)), (some (8, true))⟩,
   ⟨(some 10), (.nilCheck (.tmp 9)), (some (8, true))⟩,
   ⟨(some 11), (.fieldAddr 31 (.tmp 10) 1), (some (8, true))⟩,
   ⟨(some 12), (.load 9 (.tmp 11)), (some (8, true))⟩,
   ⟨(some 13), (.call (.mk (.value (.func 53)) #[(.tmp 12)] #[9])), (some (8, true))⟩,
   ⟨(some 14), (.pick (.tmp 8) (.tmp 13) (.const (.bool false))), none⟩,
   ⟨(some 15), (.move (.tmp 14)), none⟩,
   ⟨(some 16), (.move (.tmp 0)), (some (15, true))⟩,
   ⟨(some 17), (.nilCheck (.tmp 16)), (some (15, true))⟩,
   ⟨(some 18), (.fieldAddr 31 (.tmp 17) 2), (some (15, true))⟩,
   ⟨(some 19), (.load 3 (.tmp 18)), (some (15, true))⟩,
   ⟨(some 20), (.call (.mk (.value (.func 28)) #[(.tmp 19), (.const (.int .i64 1)), (.const (.int .i64 16))] #[3, 3, 3])), (some (15, true))⟩,
   ⟨(some 21), (.pick (.tmp 15) (.tmp 20) (.const (.bool false))), none⟩,
   ⟨(some 22), (.move (.tmp 21)), none⟩,
   ⟨(some 23), (.move (.tmp 0)), (some (22, true))⟩,
   ⟨(some 24), (.nilCheck (.tmp 23)), (some (22, true))⟩,
   ⟨(some 25), (.fieldAddr 31 (.tmp 24) 3), (some (22, true))⟩,
   ⟨(some 26), (.load 29 (.tmp 25)), (some (22, true))⟩,
   ⟨(some 27), (.call (.mk (.builtin .len) #[(.tmp 26)] #[29])), (some (22, true))⟩,
   ⟨(some 28), (.call (.mk (.value (.func 28)) #[(.tmp 27), (.const (.int .i64 3)), (.const (.int .i64 7))] #[3, 3, 3])), (some (22, true))⟩,
   ⟨(some 29), (.pick (.tmp 22) (.tmp 28) (.const (.bool false))), none⟩,
   ⟨(some 30), (.move (.tmp 29)), none⟩,
   ⟨(some 31), (.move (.tmp 0)), (some (30, true))⟩,
   ⟨(some 32), (.nilCheck (.tmp 31)), (some (30, true))⟩,
   ⟨(some 33), (.fieldAddr 31 (.tmp 32) 3), (some (30, true))⟩,
   ⟨(some 34), (.load 29 (.tmp 33)), (some (30, true))⟩,
   ⟨(some 35), (.call (.mk (.value (.func 54)) #[(.tmp 34), (.func 55)] #[29, 62])), (some (30, true))⟩,
   ⟨(some 36), (.unOp .not 4 (.tmp 35)), (some (30, true))⟩,
   ⟨(some 37), (.pick (.tmp 30) (.tmp 36) (.const (.bool false))), none⟩,
   ⟨(some 2), (.assign (.tmp 37)), none⟩])
 .ret))
theorem x_impl_isExhibit : Txt Try.prog 36 c_impl_isExhibit [.tmp 2] 1 := ⟨by kernel_rfl, by kernel_rfl, _, _, Try.func36, rfl, by kernel_rfl, by kernel_rfl, by kernel_rfl, rfl, by decide⟩
/-- loop.example/g01062/spec.DrawAreExhibits -/
def c_spec_DrawAreExhibits : Cd :=
 (.seq (.reg [⟨(some 2), (.assign (.const (.slice none 0 0))), none⟩])
 (.seq (.reg [⟨(some 4), (.move (.tmp 0)), none⟩,
   ⟨(some 5), (.build 45 #[(0, (.tmp 4))]), none⟩,
   ⟨(some 6), (.box 45 (.tmp 5)), none⟩,
   ⟨(some 3), (.assign (.tmp 6)), none⟩])
 (.seq (.reg [⟨(some 7), (.move (.tmp 3)), none⟩,
   ⟨(some 8), (.call (.mk (.value (.func 22)) #[(.tmp 7)] #[42])), none⟩,
   ⟨(some 2), (.assign (.tmp 8)), none⟩])
 .ret)))
theorem x_spec_DrawAreExhibits : Txt Try.prog 37 c_spec_DrawAreExhibits [.tmp 2] 1 := ⟨by kernel_rfl, by kernel_rfl, _, _, Try.func37, rfl, by kernel_rfl, by kernel_rfl, by kernel_rfl, rfl, by decide⟩
/-- slices.Min[[]int,int] -/
def c_slices_Min_int : Cd :=
 (.seq (.reg [⟨(some 2), (.assign (.const (.int .i64 0))), none⟩])
 (.seq (.seq (.reg [⟨(some 5), (.move (.tmp 0)), none⟩,
   ⟨(some 6), (.call (.mk (.builtin .len) #[(.tmp 5)] #[29])), none⟩,
   ⟨(some 7), (.binOp .lss 3 (.tmp 6) (.const (.int .i64 1)) 3), none⟩])
 (.cond (.tmp 7) (.reg [⟨(some 8), (.makeInterface 9 (.const (.string (ByteArray.mk #[115, 108, 105, 99, 101, 115, 46, 77, 105, 110, 58, 32, 101, 109, 112, 116, 121, 32, 108, 105, 115, 116])))), none⟩,
   ⟨none, (.panic (.tmp 8)), none⟩]) .skip))
 (.seq (.reg [⟨(some 9), (.move (.tmp 0)), none⟩,
   ⟨(some 10), (.indexAddr 29 (.tmp 9) (.const (.int .i64 0))), none⟩,
   ⟨(some 11), (.load 3 (.tmp 10)), none⟩,
   ⟨(some 3), (.assign (.tmp 11)), none⟩])
 (.seq (.seq (.reg [⟨(some 4), (.assign (.const (.int .i64 1))), none⟩])
 (.block 0 (.loop (.seq (.seq (.reg [⟨(some 12), (.move (.tmp 4)), none⟩,
   ⟨(some 13), (.move (.tmp 0)), none⟩,
   ⟨(some 14), (.call (.mk (.builtin .len) #[(.tmp 13)] #[29])), none⟩,
   ⟨(some 15), (.binOp .lss 3 (.tmp 12) (.tmp 14) 3), none⟩])
 (.cond (.tmp 15) .skip (.exit 0)))
 (.seq (.block 1 (.reg [⟨(some 18), (.move (.tmp 3)), none⟩,
   ⟨(some 19), (.move (.tmp 0)), none⟩,
   ⟨(some 20), (.move (.tmp 4)), none⟩,
   ⟨(some 21), (.indexAddr 29 (.tmp 19) (.tmp 20)), none⟩,
   ⟨(some 22), (.load 3 (.tmp 21)), none⟩,
   ⟨(some 23), (.call (.mk (.builtin .min) #[(.tmp 18), (.tmp 22)] #[3, 3])), none⟩,
   ⟨(some 3), (.assign (.tmp 23)), none⟩]))
 (.reg [⟨(some 16), (.move (.tmp 4)), none⟩,
   ⟨(some 17), (.binOp .add 3 (.tmp 16) (.const (.int .i64 1)) 3), none⟩,
   ⟨(some 4), (.assign (.tmp 17)), none⟩]))))))
 (.seq (.reg [⟨(some 24), (.move (.tmp 3)), none⟩,
   ⟨(some 2), (.assign (.tmp 24)), none⟩])
 .ret)))))
theorem x_slices_Min_int : Txt Try.prog 38 c_slices_Min_int [.tmp 2] 1 := ⟨by kernel_rfl, by kernel_rfl, _, _, Try.func38, rfl, by kernel_rfl, by kernel_rfl, by kernel_rfl, rfl, by decide⟩
/-- slices.Index[[]int,int] -/
def c_slices_Index_int : Cd :=
 (.seq (.reg [⟨(some 4), (.assign (.const (.int .i64 0))), none⟩])
 (.seq (.seq (.reg [⟨(some 6), (.move (.tmp 0)), none⟩,
   ⟨(some 7), (.call (.mk (.builtin .len) #[(.tmp 6)] #[29])), none⟩,
   ⟨(some 8), (.move (.const (.int .i64 0))), none⟩])
 (.block 0 (.loop (.seq (.reg [⟨(some 9), (.binOp .lss 3 (.tmp 8) (.tmp 7) 3), none⟩])
 (.seq (.cond (.tmp 9) .skip (.exit 0))
 (.seq (.block 1 (.seq (.reg [⟨(some 10), (.move (.tmp 8)), none⟩,
   ⟨(some 5), (.assign (.tmp 10)), none⟩])
 (.seq (.reg [⟨(some 11), (.move (.tmp 1)), none⟩,
   ⟨(some 12), (.move (.tmp 0)), none⟩,
   ⟨(some 13), (.move (.tmp 5)), none⟩,
   ⟨(some 14), (.indexAddr 29 (.tmp 12) (.tmp 13)), none⟩,
   ⟨(some 15), (.load 3 (.tmp 14)), none⟩,
   ⟨(some 16), (.binOp .eql 3 (.tmp 11) (.tmp 15) 3), none⟩])
 (.cond (.tmp 16) (.seq (.reg [⟨(some 17), (.move (.tmp 5)), none⟩,
   ⟨(some 4), (.assign (.tmp 17)), none⟩])
 .ret) .skip))))
 (.reg [⟨(some 18), (.binOp .add 3 (.tmp 8) (.const (.int .i64 1)) 3), none⟩,
   ⟨(some 8), (.move (.tmp 18)), none⟩])))))))
 (.seq (.reg [⟨(some 4), (.assign (.const (.int .i64 (-1)))), none⟩])
 .ret)))
theorem x_slices_Index_int : Txt Try.prog 39 c_slices_Index_int [.tmp 4] 2 := ⟨by kernel_rfl, by kernel_rfl, _, _, Try.func39, rfl, by kernel_rfl, by kernel_rfl, by kernel_rfl, rfl, by decide⟩
/-- slices.Delete[[]int,int] -/
def c_slices_Delete_int : Cd :=
 (.seq (.reg [⟨(some 6), (.assign (.const (.slice none 0 0))), none⟩])
 (.seq (.reg [⟨(some 8), (.move (.tmp 0)), none⟩,
   ⟨(some 9), (.move (.tmp 1)), none⟩,
   ⟨(some 10), (.move (.tmp 2)), none⟩,
   ⟨(some 11), (.move (.tmp 0)), none⟩,
   ⟨(some 12), (.call (.mk (.builtin .len) #[(.tmp 11)] #[29])), none⟩,
   ⟨(some 13), (.slice 29 (.tmp 8) (some (.tmp 9)) (some (.tmp 10)) (some (.tmp 12))), none⟩])
 (.seq (.seq (.reg [⟨(some 14), (.move (.tmp 1)), none⟩,
   ⟨(some 15), (.move (.tmp 2)), none⟩,
   ⟨(some 16), (.binOp .eql 3 (.tmp 14) (.tmp 15) 3), none⟩])
 (.cond (.tmp 16) (.seq (.reg [⟨(some 17), (.move (.tmp 0)), none⟩,
   ⟨(some 6), (.assign (.tmp 17)), none⟩])
 .ret) .skip))
 (.seq (.reg [⟨(some 18), (.move (.tmp 0)), none⟩,
   ⟨(some 19), (.call (.mk (.builtin .len) #[(.tmp 18)] #[29])), none⟩,
   ⟨(some 7), (.assign (.tmp 19)), none⟩])
 (.seq (.regt [⟨(some 20), (.move (.tmp 0)), none⟩,
   ⟨(some 21), (.move (.tmp 1)), none⟩,
   ⟨(some 22), (.slice 29 (.tmp 20) none (some (.tmp 21)) none), none⟩,
   ⟨(some 23), (.move (.tmp 0)), none⟩,
   ⟨(some 24), (.move (.tmp 2)), none⟩,
   ⟨(some 25), (.slice 29 (.tmp 23) (some (.tmp 24)) none none), none⟩] (.one false ⟨(some 26), (.call (.mk (.builtin .append) #[(.tmp 22), (.tmp 25)] #[29, 29])), none⟩
   (.one false ⟨(some 0), (.assign (.tmp 26)), none⟩
   .done)) [])
 (.seq (.reg [⟨(some 27), (.move (.tmp 0)), none⟩,
   ⟨(some 28), (.move (.tmp 0)), none⟩,
   ⟨(some 29), (.call (.mk (.builtin .len) #[(.tmp 28)] #[29])), none⟩,
   ⟨(some 30), (.move (.tmp 7)), none⟩,
   ⟨(some 31), (.slice 29 (.tmp 27) (some (.tmp 29)) (some (.tmp 30)) none), none⟩,
   ⟨none, (.call (.mk (.builtin .clear) #[(.tmp 31)] #[29])), none⟩])
 (.seq (.reg [⟨(some 32), (.move (.tmp 0)), none⟩,
   ⟨(some 6), (.assign (.tmp 32)), none⟩])
 .ret)))))))
theorem x_slices_Delete_int : Txt Try.prog 40 c_slices_Delete_int [.tmp 6] 3 := ⟨by kernel_rfl, by kernel_rfl, _, _, Try.func40, rfl, by kernel_rfl, by kernel_rfl, by kernel_rfl, rfl, by decide⟩
/-- loop.example/g01062/laws.rInts -/
def c_laws_rInts : Cd :=
 (.seq (.reg [⟨(some 4), (.assign (.const (.bool false))), none⟩])
 (.seq (.seq (.reg [⟨(some 6), (.move (.tmp 0)), none⟩,
   ⟨(some 7), (.call (.mk (.builtin .len) #[(.tmp 6)] #[29])), none⟩,
   ⟨(some 8), (.move (.tmp 1)), none⟩,
   ⟨(some 9), (.call (.mk (.builtin .len) #[(.tmp 8)] #[29])), none⟩,
   ⟨(some 10), (.binOp .neq 3 (.tmp 7) (.tmp 9) 3), none⟩])
 (.cond (.tmp 10) (.seq (.reg [⟨(some 4), (.assign (.const (.bool false))), none⟩])
 .ret) .skip))
 (.seq (.seq (.reg [⟨(some 5), (.assign (.const (.int .i64 0))), none⟩])
 (.block 0 (.loop (.seq (.seq (.reg [⟨(some 11), (.move (.tmp 5)), none⟩,
   ⟨(some 12), (.move (.tmp 0)), none⟩,
   ⟨(some 13), (.call (.mk (.builtin .len) #[(.tmp 12)] #[29])), none⟩,
   ⟨(some 14), (.binOp .lss 3 (.tmp 11) (.tmp 13) 3), none⟩])
 (.cond (.tmp 14) .skip (.exit 0)))
 (.seq (.block 1 (.seq (.regq [⟨(some 17), (.move (.tmp 0)), none⟩,
   ⟨(some 18), (.move (.tmp 5)), none⟩,
   ⟨(some 19), (.indexAddr 29 (.tmp 17) (.tmp 18)), none⟩,
   ⟨(some 20), (.load 3 (.tmp 19)), none⟩,
   ⟨(some 21), (.move (.tmp 1)), none⟩,
   ⟨(some 22), (.move (.tmp 5)), none⟩,
   ⟨(some 23), (.indexAddr 29 (.tmp 21) (.tmp 22)), none⟩,
   ⟨(some 24), (.load 3 (.tmp 23)), none⟩,
   ⟨(some 25), (.binOp .neq 3 (.tmp 20) (.tmp 24) 3), none⟩])
 (.cond (.tmp 25) (.seq (.reg [⟨(some 4), (.assign (.const (.bool false))), none⟩])
 .ret) .skip)))
 (.reg [⟨(some 15), (.move (.tmp 5)), none⟩,
   ⟨(some 16), (.binOp .add 3 (.tmp 15) (.const (.int .i64 1)) 3), none⟩,
   ⟨(some 5), (.assign (.tmp 16)), none⟩]))))))
 (.seq (.reg [⟨(some 4), (.assign (.const (.bool true))), none⟩])
 .ret))))
theorem x_laws_rInts : Txt Try.prog 41 c_laws_rInts [.tmp 4] 2 := ⟨by kernel_rfl, by kernel_rfl, _, _, Try.func41, rfl, by kernel_rfl, by kernel_rfl, by kernel_rfl, rfl, by decide⟩
/-- loop.example/g01062/spec.DrawPlaceOf -/
def c_spec_DrawPlaceOf : Cd :=
 (.seq (.reg [⟨(some 2), (.assign (.const (.slice none 0 0))), none⟩,
   ⟨(some 3), (.assign (.const (.int .i64 0))), none⟩])
 (.seq (.reg [⟨(some 6), (.move (.tmp 0)), none⟩,
   ⟨(some 7), (.build 45 #[(0, (.tmp 6))]), none⟩,
   ⟨(some 8), (.box 45 (.tmp 7)), none⟩,
   ⟨(some 4), (.assign (.tmp 8)), none⟩])
 (.seq (.reg [⟨(some 9), (.move (.tmp 4)), none⟩,
   ⟨(some 10), (.call (.mk (.value (.func 22)) #[(.tmp 9)] #[42])), none⟩,
   ⟨(some 5), (.assign (.tmp 10)), none⟩])
 (.seq (.reg [⟨(some 11), (.move (.tmp 5)), none⟩,
   ⟨(some 12), (.move (.tmp 4)), none⟩,
   ⟨(some 13), (.move (.tmp 5)), none⟩,
   ⟨(some 14), (.call (.mk (.value (.func 23)) #[(.tmp 12), (.tmp 13)] #[42, 24])), none⟩,
   ⟨(some 2), (.assign (.tmp 11)), none⟩,
   ⟨(some 3), (.assign (.tmp 14)), none⟩])
 .ret))))
theorem x_spec_DrawPlaceOf : Txt Try.prog 42 c_spec_DrawPlaceOf [.tmp 2, .tmp 3] 1 := ⟨by kernel_rfl, by kernel_rfl, _, _, Try.func42, rfl, by kernel_rfl, by kernel_rfl, by kernel_rfl, rfl, by decide⟩
/-- slices.Max[[]int,int] -/
def c_slices_Max_int : Cd :=
 (.seq (.reg [⟨(some 2), (.assign (.const (.int .i64 0))), none⟩])
 (.seq (.seq (.reg [⟨(some 5), (.move (.tmp 0)), none⟩,
   ⟨(some 6), (.call (.mk (.builtin .len) #[(.tmp 5)] #[29])), none⟩,
   ⟨(some 7), (.binOp .lss 3 (.tmp 6) (.const (.int .i64 1)) 3), none⟩])
 (.cond (.tmp 7) (.reg [⟨(some 8), (.makeInterface 9 (.const (.string (ByteArray.mk #[115, 108, 105, 99, 101, 115, 46, 77, 97, 120, 58, 32, 101, 109, 112, 116, 121, 32, 108, 105, 115, 116])))), none⟩,
   ⟨none, (.panic (.tmp 8)), none⟩]) .skip))
 (.seq (.reg [⟨(some 9), (.move (.tmp 0)), none⟩,
   ⟨(some 10), (.indexAddr 29 (.tmp 9) (.const (.int .i64 0))), none⟩,
   ⟨(some 11), (.load 3 (.tmp 10)), none⟩,
   ⟨(some 3), (.assign (.tmp 11)), none⟩])
 (.seq (.seq (.reg [⟨(some 4), (.assign (.const (.int .i64 1))), none⟩])
 (.block 0 (.loop (.seq (.seq (.reg [⟨(some 12), (.move (.tmp 4)), none⟩,
   ⟨(some 13), (.move (.tmp 0)), none⟩,
   ⟨(some 14), (.call (.mk (.builtin .len) #[(.tmp 13)] #[29])), none⟩,
   ⟨(some 15), (.binOp .lss 3 (.tmp 12) (.tmp 14) 3), none⟩])
 (.cond (.tmp 15) .skip (.exit 0)))
 (.seq (.block 1 (.reg [⟨(some 18), (.move (.tmp 3)), none⟩,
   ⟨(some 19), (.move (.tmp 0)), none⟩,
   ⟨(some 20), (.move (.tmp 4)), none⟩,
   ⟨(some 21), (.indexAddr 29 (.tmp 19) (.tmp 20)), none⟩,
   ⟨(some 22), (.load 3 (.tmp 21)), none⟩,
   ⟨(some 23), (.call (.mk (.builtin .max) #[(.tmp 18), (.tmp 22)] #[3, 3])), none⟩,
   ⟨(some 3), (.assign (.tmp 23)), none⟩]))
 (.reg [⟨(some 16), (.move (.tmp 4)), none⟩,
   ⟨(some 17), (.binOp .add 3 (.tmp 16) (.const (.int .i64 1)) 3), none⟩,
   ⟨(some 4), (.assign (.tmp 17)), none⟩]))))))
 (.seq (.reg [⟨(some 24), (.move (.tmp 3)), none⟩,
   ⟨(some 2), (.assign (.tmp 24)), none⟩])
 .ret)))))
theorem x_slices_Max_int : Txt Try.prog 43 c_slices_Max_int [.tmp 2] 1 := ⟨by kernel_rfl, by kernel_rfl, _, _, Try.func43, rfl, by kernel_rfl, by kernel_rfl, by kernel_rfl, rfl, by decide⟩
/-- loop.example/g01062/spec.l23Bounds -/
def c_spec_l23Bounds : Cd :=
 (.seq (.reg [⟨(some 2), (.assign (.const (.int .i64 0))), none⟩,
   ⟨(some 3), (.assign (.const (.int .i64 0))), none⟩])
 (.seq (.regq [⟨(some 7), (.move (.tmp 0)), none⟩,
   ⟨(some 8), (.indexAddr 29 (.tmp 7) (.const (.int .i64 0))), none⟩,
   ⟨(some 9), (.load 3 (.tmp 8)), none⟩,
   ⟨(some 10), (.move (.tmp 0)), none⟩,
   ⟨(some 11), (.indexAddr 29 (.tmp 10) (.const (.int .i64 0))), none⟩,
   ⟨(some 12), (.load 3 (.tmp 11)), none⟩,
   ⟨(some 4), (.assign (.tmp 9)), none⟩,
   ⟨(some 5), (.assign (.tmp 12)), none⟩])
 (.seq (.seq (.reg [⟨(some 6), (.assign (.const (.int .i64 0))), none⟩])
 (.block 0 (.loop (.seq (.seq (.reg [⟨(some 13), (.move (.tmp 6)), none⟩,
   ⟨(some 14), (.move (.tmp 0)), none⟩,
   ⟨(some 15), (.call (.mk (.builtin .len) #[(.tmp 14)] #[29])), none⟩,
   ⟨(some 16), (.binOp .lss 3 (.tmp 13) (.tmp 15) 3), none⟩])
 (.cond (.tmp 16) .skip (.exit 0)))
 (.seq (.block 1 (.seq (.reg [⟨(some 19), (.move (.tmp 4)), none⟩,
   ⟨(some 20), (.move (.tmp 0)), none⟩,
   ⟨(some 21), (.move (.tmp 6)), none⟩,
   ⟨(some 22), (.indexAddr 29 (.tmp 20) (.tmp 21)), none⟩,
   ⟨(some 23), (.load 3 (.tmp 22)), none⟩,
   ⟨(some 24), (.call (.mk (.value (.func 56)) #[(.tmp 19), (.tmp 23)] #[3, 3])), none⟩,
   ⟨(some 4), (.assign (.tmp 24)), none⟩])
 (.reg [⟨(some 25), (.move (.tmp 5)), none⟩,
   ⟨(some 26), (.move (.tmp 0)), none⟩,
   ⟨(some 27), (.move (.tmp 6)), none⟩,
   ⟨(some 28), (.indexAddr 29 (.tmp 26) (.tmp 27)), none⟩,
   ⟨(some 29), (.load 3 (.tmp 28)), none⟩,
   ⟨(some 30), (.call (.mk (.value (.func 57)) #[(.tmp 25), (.tmp 29)] #[3, 3])), none⟩,
   ⟨(some 5), (.assign (.tmp 30)), none⟩])))
 (.reg [⟨(some 17), (.move (.tmp 6)), none⟩,
   ⟨(some 18), (.binOp .add 3 (.tmp 17) (.const (.int .i64 1)) 3), none⟩,
   ⟨(some 6), (.assign (.tmp 18)), none⟩]))))))
 (.seq (.reg [⟨(some 31), (.move (.tmp 4)), none⟩,
   ⟨(some 32), (.move (.tmp 5)), none⟩,
   ⟨(some 2), (.assign (.tmp 31)), none⟩,
   ⟨(some 3), (.assign (.tmp 32)), none⟩])
 .ret))))
theorem x_spec_l23Bounds : Txt Try.prog 44 c_spec_l23Bounds [.tmp 2, .tmp 3] 1 := ⟨by kernel_rfl, by kernel_rfl, _, _, Try.func44, rfl, by kernel_rfl, by kernel_rfl, by kernel_rfl, rfl, by decide⟩
/-- (*loop.example/g01062/spec.l1Cur).show23 -/
def c_spec_l1Cur_show23 : Cd :=
 (.seq (.reg [⟨(some 6), (.alloc 31), none⟩])
 (.seq (.reg [⟨(some 10), (.move (.tmp 1)), none⟩,
   ⟨(some 11), (.move (.tmp 0)), none⟩,
   ⟨(some 12), (.buildSlice 70 3 #[(0, (.const (.string (ByteArray.mk #[98, 101, 114, 110])))), (1, (.const (.string (ByteArray.mk #[99, 111, 105, 108, 115])))), (2, (.const (.string (ByteArray.mk #[115, 104, 105, 112, 115]))))]), none⟩,
   ⟨(some 13), (.call (.mk (.value (.func 58)) #[(.tmp 11), (.tmp 12)] #[42, 70])), none⟩,
   ⟨(some 14), (.move (.tmp 0)), none⟩,
   ⟨(some 15), (.buildSlice 29 4 #[(0, (.const (.int .i64 1))), (1, (.const (.int .i64 5))), (2, (.const (.int .i64 8))), (3, (.const (.int .i64 16)))]), none⟩,
   ⟨(some 16), (.call (.mk (.value (.func 24)) #[(.tmp 14), (.tmp 15)] #[42, 29])), none⟩,
   ⟨(some 17), (.build 31 #[(0, (.tmp 10)), (1, (.tmp 13)), (2, (.tmp 16))]), none⟩,
   ⟨(some 7), (.alloc 31), none⟩,
   ⟨none, (.store 31 (.tmp 7) (.tmp 17)), none⟩])
 (.seq (.reg [⟨(some 18), (.move (.tmp 0)), none⟩,
   ⟨(some 19), (.buildSlice 29 6 #[(0, (.const (.int .i64 10))), (1, (.const (.int .i64 40))), (2, (.const (.int .i64 55))), (3, (.const (.int .i64 70))), (4, (.const (.int .i64 85))), (5, (.const (.int .i64 90)))]), none⟩,
   ⟨(some 20), (.call (.mk (.value (.func 24)) #[(.tmp 18), (.tmp 19)] #[42, 29])), none⟩,
   ⟨(some 8), (.assign (.tmp 20)), none⟩])
 (.seq (.seq (.reg [⟨(some 9), (.assign (.const (.int .i64 0))), none⟩])
 (.block 0 (.loop (.seq (.seq (.reg [⟨(some 21), (.move (.tmp 9)), none⟩,
   ⟨(some 22), (.move (.tmp 2)), none⟩,
   ⟨(some 23), (.binOp .lss 3 (.tmp 21) (.tmp 22) 3), none⟩])
 (.cond (.tmp 23) .skip (.exit 0)))
 (.seq (.block 1 (.regt [⟨(some 26), (.fieldAddr 31 (.tmp 7) 3), none⟩,
   ⟨(some 27), (.load 29 (.tmp 26)), none⟩,
   ⟨(some 28), (.move (.tmp 8)), none⟩,
   ⟨(some 29), (.move (.tmp 0)), none⟩] (.one true ⟨(some 30), (.buildSlice 29 7 #[(0, (.const (.int .i64 (-10)))), (1, (.const (.int .i64 (-1)))), (2, (.const (.int .i64 0))), (3, (.const (.int .i64 0))), (4, (.const (.int .i64 0))), (5, (.const (.int .i64 1))), (6, (.const (.int .i64 10)))]), none⟩
   (.one true ⟨(some 31), (.call (.mk (.value (.func 24)) #[(.tmp 29), (.tmp 30)] #[42, 29])), none⟩
   (.one true ⟨(some 32), (.binOp .add 3 (.tmp 28) (.tmp 31) 3), none⟩
   (.one true ⟨(some 33), (.buildSlice 29 1 #[(0, (.tmp 32))]), none⟩
   (.one false ⟨(some 34), (.call (.mk (.builtin .append) #[(.tmp 27), (.tmp 33)] #[29, 29])), none⟩
   (.one false ⟨(some 35), (.fieldAddr 31 (.tmp 7) 3), none⟩
   (.one false ⟨none, (.store 29 (.tmp 35) (.tmp 34)), none⟩
   .done))))))) []))
 (.reg [⟨(some 24), (.move (.tmp 9)), none⟩,
   ⟨(some 25), (.binOp .add 3 (.tmp 24) (.const (.int .i64 1)) 3), none⟩,
   ⟨(some 9), (.assign (.tmp 25)), none⟩]))))))
 (.seq (.seq (.reg [⟨(some 36), (.move (.tmp 0)), none⟩,
   ⟨(some 37), (.call (.mk (.value (.func 25)) #[(.tmp 36), (.const (.int .i64 100))] #[42, 3])), none⟩])
 (.block 2 (.seq (.reg [⟨(some 39), (.binOp .eql 3 (.tmp 37) (.const (.int .i64 0)) 3), none⟩,
   ⟨(some 38), (.assign (.tmp 39)), none⟩])
 (.cond (.tmp 38) (.reg [⟨(some 40), (.move (.tmp 0)), none⟩,
   ⟨(some 41), (.buildSlice 29 3 #[(0, (.const (.int .i64 0))), (1, (.const (.int .i64 99))), (2, (.const (.int .i64 100)))]), none⟩,
   ⟨(some 42), (.call (.mk (.value (.func 24)) #[(.tmp 40), (.tmp 41)] #[42, 29])), none⟩,
   ⟨(some 43), (.fieldAddr 31 (.tmp 7) 0), none⟩,
   ⟨none, (.store 3 (.tmp 43) (.tmp 42)), none⟩]) (.seq (.reg [⟨(some 45), (.binOp .eql 3 (.tmp 37) (.const (.int .i64 1)) 3), none⟩,
   ⟨(some 44), (.assign (.tmp 45)), none⟩])
 (.cond (.tmp 44) (.reg [⟨(some 46), (.move (.tmp 0)), none⟩,
   ⟨(some 47), (.buildSlice 70 2 #[(0, (.const (.string (ByteArray.mk #[])))), (1, (.const (.string (ByteArray.mk #[66, 101, 114, 110]))))]), none⟩,
   ⟨(some 48), (.call (.mk (.value (.func 58)) #[(.tmp 46), (.tmp 47)] #[42, 70])), none⟩,
   ⟨(some 49), (.fieldAddr 31 (.tmp 7) 1), none⟩,
   ⟨none, (.store 9 (.tmp 49) (.tmp 48)), none⟩]) (.seq (.reg [⟨(some 51), (.binOp .eql 3 (.tmp 37) (.const (.int .i64 2)) 3), none⟩,
   ⟨(some 50), (.assign (.tmp 51)), none⟩])
 (.cond (.tmp 50) (.reg [⟨(some 52), (.move (.tmp 0)), none⟩,
   ⟨(some 53), (.buildSlice 29 2 #[(0, (.const (.int .i64 0))), (1, (.const (.int .i64 17)))]), none⟩,
   ⟨(some 54), (.call (.mk (.value (.func 24)) #[(.tmp 52), (.tmp 53)] #[42, 29])), none⟩,
   ⟨(some 55), (.fieldAddr 31 (.tmp 7) 2), none⟩,
   ⟨none, (.store 3 (.tmp 55) (.tmp 54)), none⟩]) (.seq (.reg [⟨(some 57), (.binOp .eql 3 (.tmp 37) (.const (.int .i64 3)) 3), none⟩,
   ⟨(some 56), (.assign (.tmp 57)), none⟩])
 (.cond (.tmp 56) (.reg [⟨(some 58), (.fieldAddr 31 (.tmp 7) 3), none⟩,
   ⟨(some 59), (.load 29 (.tmp 58)), none⟩,
   ⟨(some 60), (.call (.mk (.value (.func 34)) #[(.tmp 59)] #[29])), none⟩,
   ⟨(some 61), (.buildSlice 29 1 #[(0, (.const (.int .i64 50)))]), none⟩,
   ⟨(some 62), (.call (.mk (.builtin .append) #[(.tmp 60), (.tmp 61)] #[29, 29])), none⟩,
   ⟨(some 63), (.fieldAddr 31 (.tmp 7) 3), none⟩,
   ⟨none, (.store 29 (.tmp 63) (.tmp 62)), none⟩]) (.seq (.reg [⟨(some 65), (.binOp .eql 3 (.tmp 37) (.const (.int .i64 4)) 3), none⟩,
   ⟨(some 64), (.assign (.tmp 65)), none⟩])
 (.cond (.tmp 64) (.regt [⟨(some 66), (.fieldAddr 31 (.tmp 7) 3), none⟩,
   ⟨(some 67), (.load 29 (.tmp 66)), none⟩,
   ⟨(some 68), (.move (.tmp 0)), none⟩] (.one true ⟨(some 69), (.buildSlice 29 2 #[(0, (.const (.int .i64 (-1)))), (1, (.const (.int .i64 101)))]), none⟩
   (.one true ⟨(some 70), (.call (.mk (.value (.func 24)) #[(.tmp 68), (.tmp 69)] #[42, 29])), none⟩
   (.one false ⟨(some 71), (.indexAddr 29 (.tmp 67) (.const (.int .i64 0))), none⟩
   (.one false ⟨none, (.store 3 (.tmp 71) (.tmp 70)), none⟩
   .done)))) []) .skip))))))))))))
 (.seq (.reg [⟨(some 72), (.load 31 (.tmp 7)), none⟩,
   ⟨none, (.store 31 (.tmp 6) (.tmp 72)), none⟩])
 .ret))))))
theorem x_spec_l1Cur_show23 : Txt Try.prog 45 c_spec_l1Cur_show23 [.cell 6 31] 3 := ⟨by kernel_rfl, by kernel_rfl, _, _, Try.func45, rfl, by kernel_rfl, by kernel_rfl, by kernel_rfl, rfl, by decide⟩
/-- (*loop.example/g01062/spec.l1Cur).one -/
def c_spec_l1Cur_one : Cd :=
 (.seq (.reg [⟨(some 4), (.assign (.const (.bool false))), none⟩])
 (.seq (.reg [⟨(some 5), (.move (.tmp 0)), none⟩,
   ⟨(some 6), (.move (.tmp 1)), none⟩,
   ⟨(some 7), (.call (.mk (.value (.func 25)) #[(.tmp 5), (.tmp 6)] #[42, 3])), none⟩,
   ⟨(some 8), (.binOp .eql 3 (.tmp 7) (.const (.int .i64 0)) 3), none⟩,
   ⟨(some 4), (.assign (.tmp 8)), none⟩])
 .ret))
theorem x_spec_l1Cur_one : Txt Try.prog 46 c_spec_l1Cur_one [.tmp 4] 2 := ⟨by kernel_rfl, by kernel_rfl, _, _, Try.func46, rfl, by kernel_rfl, by kernel_rfl, by kernel_rfl, rfl, by decide⟩
/-- (*loop.example/g01062/spec.l1Cur).next -/
def c_spec_l1Cur_next : Cd :=
 (.seq (.reg [⟨(some 2), (.assign (.const (.int .i64 0))), none⟩])
 (.seq (.reg [⟨(some 3), (.assign (.const (.int .i64 0))), none⟩])
 (.seq (.seq (.regq [⟨(some 4), (.move (.tmp 0)), none⟩,
   ⟨(some 5), (.nilCheck (.tmp 4)), none⟩,
   ⟨(some 6), (.fieldAddr 45 (.tmp 5) 1), none⟩,
   ⟨(some 7), (.load 3 (.tmp 6)), none⟩,
   ⟨(some 8), (.move (.tmp 0)), none⟩,
   ⟨(some 9), (.nilCheck (.tmp 8)), none⟩,
   ⟨(some 10), (.fieldAddr 45 (.tmp 9) 0), none⟩,
   ⟨(some 11), (.load 22 (.tmp 10)), none⟩,
   ⟨(some 12), (.call (.mk (.builtin .len) #[(.tmp 11)] #[22])), none⟩,
   ⟨(some 13), (.binOp .lss 3 (.tmp 7) (.tmp 12) 3), none⟩])
 (.cond (.tmp 13) (.regq [⟨(some 14), (.move (.tmp 0)), none⟩,
   ⟨(some 15), (.nilCheck (.tmp 14)), none⟩,
   ⟨(some 16), (.fieldAddr 45 (.tmp 15) 0), none⟩,
   ⟨(some 17), (.load 22 (.tmp 16)), none⟩,
   ⟨(some 18), (.move (.tmp 0)), none⟩,
   ⟨(some 19), (.nilCheck (.tmp 18)), none⟩,
   ⟨(some 20), (.fieldAddr 45 (.tmp 19) 1), none⟩,
   ⟨(some 21), (.load 3 (.tmp 20)), none⟩,
   ⟨(some 22), (.indexAddr 22 (.tmp 17) (.tmp 21)), none⟩,
   ⟨(some 23), (.load 5 (.tmp 22)), none⟩,
   ⟨(some 24), (.convert 5 3 (.tmp 23)), none⟩,
   ⟨(some 3), (.assign (.tmp 24)), none⟩]) .skip))
 (.seq (.reg [⟨(some 25), (.move (.tmp 0)), none⟩,
   ⟨(some 26), (.nilCheck (.tmp 25)), none⟩,
   ⟨(some 27), (.fieldAddr 45 (.tmp 26) 1), none⟩,
   ⟨(some 28), (.load 3 (.tmp 27)), none⟩,
   ⟨(some 29), (.binOp .add 3 (.tmp 28) (.const (.int .i64 1)) 3), none⟩,
   ⟨(some 30), (.nilCheck (.tmp 25)), none⟩,
   ⟨(some 31), (.fieldAddr 45 (.tmp 30) 1), none⟩,
   ⟨none, (.store 3 (.tmp 31) (.tmp 29)), none⟩])
 (.seq (.reg [⟨(some 32), (.move (.tmp 0)), none⟩,
   ⟨(some 33), (.move (.tmp 0)), none⟩,
   ⟨(some 34), (.nilCheck (.tmp 33)), none⟩,
   ⟨(some 35), (.fieldAddr 45 (.tmp 34) 2), none⟩,
   ⟨(some 36), (.load 43 (.tmp 35)), none⟩,
   ⟨(some 37), (.binOp .mul 43 (.tmp 36) (.const (.int .u64 6364136223846793005)) 43), none⟩,
   ⟨(some 38), (.move (.tmp 3)), none⟩,
   ⟨(some 39), (.convert 3 43 (.tmp 38)), none⟩,
   ⟨(some 40), (.binOp .add 43 (.tmp 37) (.tmp 39) 43), none⟩,
   ⟨(some 41), (.binOp .add 43 (.tmp 40) (.const (.int .u64 381907)) 43), none⟩,
   ⟨(some 42), (.nilCheck (.tmp 32)), none⟩,
   ⟨(some 43), (.fieldAddr 45 (.tmp 42) 2), none⟩,
   ⟨none, (.store 43 (.tmp 43) (.tmp 41)), none⟩])
 (.seq (.seq (.regq [⟨(some 44), (.move (.tmp 0)), none⟩,
   ⟨(some 45), (.nilCheck (.tmp 44)), none⟩,
   ⟨(some 46), (.fieldAddr 45 (.tmp 45) 1), none⟩,
   ⟨(some 47), (.load 3 (.tmp 46)), none⟩,
   ⟨(some 48), (.move (.tmp 0)), none⟩,
   ⟨(some 49), (.nilCheck (.tmp 48)), none⟩,
   ⟨(some 50), (.fieldAddr 45 (.tmp 49) 0), none⟩,
   ⟨(some 51), (.load 22 (.tmp 50)), none⟩,
   ⟨(some 52), (.call (.mk (.builtin .len) #[(.tmp 51)] #[22])), none⟩,
   ⟨(some 53), (.binOp .leq 3 (.tmp 47) (.tmp 52) 3), none⟩])
 (.cond (.tmp 53) (.seq (.reg [⟨(some 54), (.move (.tmp 3)), none⟩,
   ⟨(some 2), (.assign (.tmp 54)), none⟩])
 .ret) .skip))
 (.seq (.reg [⟨(some 55), (.move (.tmp 0)), none⟩,
   ⟨(some 56), (.nilCheck (.tmp 55)), none⟩,
   ⟨(some 57), (.fieldAddr 45 (.tmp 56) 2), none⟩,
   ⟨(some 58), (.load 43 (.tmp 57)), none⟩,
   ⟨(some 59), (.binOp .shr 43 (.tmp 58) (.const (.int .u64 40)) 71), none⟩,
   ⟨(some 60), (.binOp .and 43 (.tmp 59) (.const (.int .u64 255)) 43), none⟩,
   ⟨(some 61), (.convert 43 3 (.tmp 60)), none⟩,
   ⟨(some 2), (.assign (.tmp 61)), none⟩])
 .ret)))))))
theorem x_spec_l1Cur_next : Txt Try.prog 47 c_spec_l1Cur_next [.tmp 2] 1 := ⟨by kernel_rfl, by kernel_rfl, _, _, Try.func47, rfl, by kernel_rfl, by kernel_rfl, by kernel_rfl, rfl, by decide⟩
/-- slices.IndexFunc[[]loop.example/g01062/impl.ShowFrame,loop.example/g01062/impl.ShowFrame] -/
def c_slices_IndexFunc_ShowFrame : Cd :=
 (.seq (.reg [⟨(some 4), (.assign (.const (.int .i64 0))), none⟩])
 (.seq (.seq (.reg [⟨(some 6), (.move (.tmp 0)), none⟩,
   ⟨(some 7), (.call (.mk (.builtin .len) #[(.tmp 6)] #[24])), none⟩,
   ⟨(some 8), (.move (.const (.int .i64 0))), none⟩])
 (.block 0 (.loop (.seq (.reg [⟨(some 9), (.binOp .lss 3 (.tmp 8) (.tmp 7) 3), none⟩])
 (.seq (.cond (.tmp 9) .skip (.exit 0))
 (.seq (.block 1 (.seq (.reg [⟨(some 10), (.move (.tmp 8)), none⟩,
   ⟨(some 5), (.assign (.tmp 10)), none⟩])
 (.seq (.reg [⟨(some 11), (.move (.tmp 1)), none⟩,
   ⟨(some 12), (.move (.tmp 0)), none⟩,
   ⟨(some 13), (.move (.tmp 5)), none⟩,
   ⟨(some 14), (.indexAddr 24 (.tmp 12) (.tmp 13)), none⟩,
   ⟨(some 15), (.load 31 (.tmp 14)), none⟩,
   ⟨(some 16), (.call (.mk (.value (.tmp 11)) #[(.tmp 15)] #[31])), none⟩])
 (.cond (.tmp 16) (.seq (.reg [⟨(some 17), (.move (.tmp 5)), none⟩,
   ⟨(some 4), (.assign (.tmp 17)), none⟩])
 .ret) .skip))))
 (.reg [⟨(some 18), (.binOp .add 3 (.tmp 8) (.const (.int .i64 1)) 3), none⟩,
   ⟨(some 8), (.move (.tmp 18)), none⟩])))))))
 (.seq (.reg [⟨(some 4), (.assign (.const (.int .i64 (-1)))), none⟩])
 .ret)))
theorem x_slices_IndexFunc_ShowFrame : Txt Try.prog 48 c_slices_IndexFunc_ShowFrame [.tmp 4] 2 := ⟨by kernel_rfl, by kernel_rfl, _, _, Try.func48, rfl, by kernel_rfl, by kernel_rfl, by kernel_rfl, rfl, by decide⟩
/-- loop.example/g01062/impl.exhibitAt closure 1 -/
def c_impl_exhibitAt_1 : Cd :=
 (.seq (.reg [⟨(some 2), (.box 31 (.tmp 0)), none⟩,
   ⟨(some 3), (.assign (.const (.bool false))), none⟩])
 (.seq (.reg [⟨(some 4), (.fieldAddr 31 (.tmp 2) 0), none⟩,
   ⟨(some 5), (.load 3 (.tmp 4)), none⟩,
   ⟨(some 6), (.load 3 (.tmp 1)), none⟩,
   ⟨(some 7), (.binOp .eql 3 (.tmp 5) (.tmp 6) 3), none⟩,
   ⟨(some 3), (.assign (.tmp 7)), none⟩])
 .ret))
theorem x_impl_exhibitAt_1 : Txt Try.prog 49 c_impl_exhibitAt_1 [.tmp 3] 2 := ⟨by kernel_rfl, by kernel_rfl, _, _, Try.func49, rfl, by kernel_rfl, by kernel_rfl, by kernel_rfl, rfl, by decide⟩
/-- loop.example/g01062/impl.scoreOf -/
def c_impl_scoreOf : Cd :=
 (.seq (.reg [⟨(some 2), (.assign (.const (.int .i64 0))), none⟩])
 (.seq (.reg [⟨(some 6), (.move (.tmp 0)), none⟩,
   ⟨(some 7), (.call (.mk (.value (.func 43)) #[(.tmp 6)] #[29])), none⟩,
   ⟨(some 8), (.unOp .neg 3 (.tmp 7)), none⟩,
   ⟨(some 9), (.move (.tmp 0)), none⟩,
   ⟨(some 10), (.call (.mk (.value (.func 38)) #[(.tmp 9)] #[29])), none⟩,
   ⟨(some 11), (.binOp .sub 3 (.tmp 8) (.tmp 10) 3), none⟩,
   ⟨(some 3), (.assign (.tmp 11)), none⟩])
 (.seq (.seq (.reg [⟨(some 12), (.move (.tmp 0)), none⟩,
   ⟨(some 13), (.call (.mk (.builtin .len) #[(.tmp 12)] #[29])), none⟩,
   ⟨(some 14), (.move (.const (.int .i64 0))), none⟩])
 (.block 0 (.loop (.seq (.reg [⟨(some 15), (.binOp .lss 3 (.tmp 14) (.tmp 13) 3), none⟩])
 (.seq (.cond (.tmp 15) .skip (.exit 0))
 (.seq (.block 1 (.seq (.reg [⟨(some 16), (.indexAddr 29 (.tmp 12) (.tmp 14)), none⟩,
   ⟨(some 17), (.load 3 (.tmp 16)), none⟩,
   ⟨(some 5), (.assign (.tmp 17)), none⟩])
 (.reg [⟨(some 18), (.move (.tmp 3)), none⟩,
   ⟨(some 19), (.move (.tmp 5)), none⟩,
   ⟨(some 20), (.binOp .add 3 (.tmp 18) (.tmp 19) 3), none⟩,
   ⟨(some 3), (.assign (.tmp 20)), none⟩])))
 (.reg [⟨(some 21), (.binOp .add 3 (.tmp 14) (.const (.int .i64 1)) 3), none⟩,
   ⟨(some 14), (.move (.tmp 21)), none⟩])))))))
 (.seq (.reg [⟨(some 22), (.move (.tmp 3)), none⟩,
   ⟨(some 2), (.assign (.tmp 22)), none⟩])
 .ret))))
theorem x_impl_scoreOf : Txt Try.prog 50 c_impl_scoreOf [.tmp 2] 1 := ⟨by kernel_rfl, by kernel_rfl, _, _, Try.func50, rfl, by kernel_rfl, by kernel_rfl, by kernel_rfl, rfl, by decide⟩
/-- loop.example/g01062/spec.l23One -/
def c_spec_l23One : Cd :=
 (.seq (.reg [⟨(some 1), (.box 31 (.tmp 0)), none⟩,
   ⟨(some 2), (.assign (.const (.bool false))), none⟩])
 (.seq (.seq (.reg [⟨(some 4), (.fieldAddr 31 (.tmp 1) 0), none⟩,
   ⟨(some 5), (.load 3 (.tmp 4)), none⟩,
   ⟨(some 6), (.call (.mk (.value (.func 33)) #[(.tmp 5), (.const (.int .i64 1)), (.const (.int .i64 99))] #[3, 3, 3])), none⟩,
   ⟨(some 7), (.unOp .not 4 (.tmp 6)), none⟩,
   ⟨(some 8), (.move (.tmp 7)), none⟩,
   ⟨(some 9), (.fieldAddr 31 (.tmp 1) 1), (some (8, false))⟩,
   ⟨(some 10), (.load 9 (.tmp 9)), (some (8, false))⟩,
   ⟨(some 11), (.call (.mk (.value (.func 59)) #[(.tmp 10)] #[9])), (some (8, false))⟩,
   ⟨(some 12), (.unOp .not 4 (.tmp 11)), (some (8, false))⟩,
   ⟨(some 13), (.pick (.tmp 8) (.const (.bool true)) (.tmp 12)), none⟩,
   ⟨(some 14), (.move (.tmp 13)), none⟩,
   ⟨(some 15), (.fieldAddr 31 (.tmp 1) 2), (some (14, false))⟩,
   ⟨(some 16), (.load 3 (.tmp 15)), (some (14, false))⟩,
   ⟨(some 17), (.call (.mk (.value (.func 33)) #[(.tmp 16), (.const (.int .i64 1)), (.const (.int .i64 16))] #[3, 3, 3])), (some (14, false))⟩,
   ⟨(some 18), (.unOp .not 4 (.tmp 17)), (some (14, false))⟩,
   ⟨(some 19), (.pick (.tmp 14) (.const (.bool true)) (.tmp 18)), none⟩,
   ⟨(some 20), (.move (.tmp 19)), none⟩,
   ⟨(some 21), (.fieldAddr 31 (.tmp 1) 3), (some (20, false))⟩,
   ⟨(some 22), (.load 29 (.tmp 21)), (some (20, false))⟩,
   ⟨(some 23), (.call (.mk (.builtin .len) #[(.tmp 22)] #[29])), (some (20, false))⟩,
   ⟨(some 24), (.call (.mk (.value (.func 33)) #[(.tmp 23), (.const (.int .i64 3)), (.const (.int .i64 7))] #[3, 3, 3])), (some (20, false))⟩,
   ⟨(some 25), (.unOp .not 4 (.tmp 24)), (some (20, false))⟩,
   ⟨(some 26), (.pick (.tmp 20) (.const (.bool true)) (.tmp 25)), none⟩])
 (.cond (.tmp 26) (.seq (.reg [⟨(some 2), (.assign (.const (.bool false))), none⟩])
 .ret) .skip))
 (.seq (.seq (.reg [⟨(some 3), (.assign (.const (.int .i64 0))), none⟩])
 (.block 0 (.loop (.seq (.seq (.reg [⟨(some 27), (.move (.tmp 3)), none⟩,
   ⟨(some 28), (.fieldAddr 31 (.tmp 1) 3), none⟩,
   ⟨(some 29), (.load 29 (.tmp 28)), none⟩,
   ⟨(some 30), (.call (.mk (.builtin .len) #[(.tmp 29)] #[29])), none⟩,
   ⟨(some 31), (.binOp .lss 3 (.tmp 27) (.tmp 30) 3), none⟩])
 (.cond (.tmp 31) .skip (.exit 0)))
 (.seq (.block 1 (.seq (.reg [⟨(some 34), (.fieldAddr 31 (.tmp 1) 3), none⟩,
   ⟨(some 35), (.load 29 (.tmp 34)), none⟩,
   ⟨(some 36), (.move (.tmp 3)), none⟩,
   ⟨(some 37), (.indexAddr 29 (.tmp 35) (.tmp 36)), none⟩,
   ⟨(some 38), (.load 3 (.tmp 37)), none⟩,
   ⟨(some 39), (.call (.mk (.value (.func 33)) #[(.tmp 38), (.const (.int .i64 0)), (.const (.int .i64 100))] #[3, 3, 3])), none⟩,
   ⟨(some 40), (.unOp .not 4 (.tmp 39)), none⟩])
 (.cond (.tmp 40) (.seq (.reg [⟨(some 2), (.assign (.const (.bool false))), none⟩])
 .ret) .skip)))
 (.reg [⟨(some 32), (.move (.tmp 3)), none⟩,
   ⟨(some 33), (.binOp .add 3 (.tmp 32) (.const (.int .i64 1)) 3), none⟩,
   ⟨(some 3), (.assign (.tmp 33)), none⟩]))))))
 (.seq (.reg [⟨(some 2), (.assign (.const (.bool true))), none⟩])
 .ret))))
theorem x_spec_l23One : Txt Try.prog 51 c_spec_l23One [.tmp 2] 1 := ⟨by kernel_rfl, by kernel_rfl, _, _, Try.func51, rfl, by kernel_rfl, by kernel_rfl, by kernel_rfl, rfl, by decide⟩
/-- loop.example/g01062/spec.l23Sum -/
def c_spec_l23Sum : Cd :=
 (.seq (.reg [⟨(some 2), (.assign (.const (.int .i64 0))), none⟩])
 (.seq (.reg [⟨(some 8), (.move (.tmp 0)), none⟩,
   ⟨(some 9), (.call (.mk (.value (.func 44)) #[(.tmp 8)] #[29])), none⟩,
   ⟨(some 7), (.move (.tmp 9)), none⟩,
   ⟨(some 10), (.extract (.tmp 7) 0), none⟩,
   ⟨(some 11), (.extract (.tmp 7) 1), none⟩,
   ⟨(some 3), (.assign (.tmp 10)), none⟩,
   ⟨(some 4), (.assign (.tmp 11)), none⟩])
 (.seq (.reg [⟨(some 12), (.move (.tmp 3)), none⟩,
   ⟨(some 13), (.unOp .neg 3 (.tmp 12)), none⟩,
   ⟨(some 14), (.move (.tmp 4)), none⟩,
   ⟨(some 15), (.binOp .sub 3 (.tmp 13) (.tmp 14) 3), none⟩,
   ⟨(some 5), (.assign (.tmp 15)), none⟩])
 (.seq (.seq (.reg [⟨(some 6), (.assign (.const (.int .i64 0))), none⟩])
 (.block 0 (.loop (.seq (.seq (.reg [⟨(some 16), (.move (.tmp 6)), none⟩,
   ⟨(some 17), (.move (.tmp 0)), none⟩,
   ⟨(some 18), (.call (.mk (.builtin .len) #[(.tmp 17)] #[29])), none⟩,
   ⟨(some 19), (.binOp .lss 3 (.tmp 16) (.tmp 18) 3), none⟩])
 (.cond (.tmp 19) .skip (.exit 0)))
 (.seq (.block 1 (.reg [⟨(some 22), (.move (.tmp 5)), none⟩,
   ⟨(some 23), (.move (.tmp 0)), none⟩,
   ⟨(some 24), (.move (.tmp 6)), none⟩,
   ⟨(some 25), (.indexAddr 29 (.tmp 23) (.tmp 24)), none⟩,
   ⟨(some 26), (.load 3 (.tmp 25)), none⟩,
   ⟨(some 27), (.binOp .add 3 (.tmp 22) (.tmp 26) 3), none⟩,
   ⟨(some 5), (.assign (.tmp 27)), none⟩]))
 (.reg [⟨(some 20), (.move (.tmp 6)), none⟩,
   ⟨(some 21), (.binOp .add 3 (.tmp 20) (.const (.int .i64 1)) 3), none⟩,
   ⟨(some 6), (.assign (.tmp 21)), none⟩]))))))
 (.seq (.reg [⟨(some 28), (.move (.tmp 5)), none⟩,
   ⟨(some 2), (.assign (.tmp 28)), none⟩])
 .ret)))))
theorem x_spec_l23Sum : Txt Try.prog 52 c_spec_l23Sum [.tmp 2] 1 := ⟨by kernel_rfl, by kernel_rfl, _, _, Try.func52, rfl, by kernel_rfl, by kernel_rfl, by kernel_rfl, rfl, by decide⟩
/-- loop.example/g01062/impl.isWord -/
def c_impl_isWord : Cd :=
 (.seq (.reg [⟨(some 2), (.assign (.const (.bool false))), none⟩])
 (.seq (.seq (.reg [⟨(some 4), (.move (.tmp 0)), none⟩,
   ⟨(some 5), (.call (.mk (.builtin .len) #[(.tmp 4)] #[9])), none⟩,
   ⟨(some 6), (.move (.const (.int .i64 0))), none⟩])
 (.block 0 (.loop (.seq (.reg [⟨(some 7), (.binOp .lss 3 (.tmp 6) (.tmp 5) 3), none⟩])
 (.seq (.cond (.tmp 7) .skip (.exit 0))
 (.seq (.block 1 (.seq (.reg [⟨(some 8), (.move (.tmp 6)), none⟩,
   ⟨(some 3), (.assign (.tmp 8)), none⟩])
 (.seq (.reg [⟨(some 9), (.move (.tmp 0)), none⟩,
   ⟨(some 10), (.move (.tmp 3)), none⟩,
   ⟨(some 11), (.index 9 (.tmp 9) (.tmp 10)), none⟩,
   ⟨(some 12), (.binOp .lss 5 (.tmp 11) (.const (.int .u8 97)) 5), none⟩,
   ⟨(some 13), (.move (.tmp 12)), none⟩,
   ⟨(some 14), (.move (.tmp 0)), (some (13, false))⟩,
   ⟨(some 15), (.move (.tmp 3)), (some (13, false))⟩,
   ⟨(some 16), (.index 9 (.tmp 14) (.tmp 15)), (some (13, false))⟩,
   ⟨(some 17), (.binOp .gtr 5 (.tmp 16) (.const (.int .u8 122)) 5), (some (13, false))⟩,
   ⟨(some 18), (.pick (.tmp 13) (.const (.bool true)) (.tmp 17)), none⟩])
 (.cond (.tmp 18) (.seq (.reg [⟨(some 2), (.assign (.const (.bool false))), none⟩])
 .ret) .skip))))
 (.reg [⟨(some 19), (.binOp .add 3 (.tmp 6) (.const (.int .i64 1)) 3), none⟩,
   ⟨(some 6), (.move (.tmp 19)), none⟩])))))))
 (.seq (.reg [⟨(some 20), (.move (.tmp 0)), none⟩,
   ⟨(some 21), (.call (.mk (.builtin .len) #[(.tmp 20)] #[9])), none⟩,
   ⟨(some 22), (.call (.mk (.value (.func 28)) #[(.tmp 21), (.const (.int .i64 1)), (.const (.int .i64 10))] #[3, 3, 3])), none⟩,
   ⟨(some 2), (.assign (.tmp 22)), none⟩])
 .ret)))
theorem x_impl_isWord : Txt Try.prog 53 c_impl_isWord [.tmp 2] 1 := ⟨by kernel_rfl, by kernel_rfl, _, _, Try.func53, rfl, by kernel_rfl, by kernel_rfl, by kernel_rfl, rfl, by decide⟩
/-- slices.ContainsFunc[[]int,int] -/
def c_slices_ContainsFunc_int : Cd :=
 (.seq (.reg [⟨(some 4), (.assign (.const (.bool false))), none⟩])
 (.seq (.reg [⟨(some 5), (.move (.tmp 0)), none⟩,
   ⟨(some 6), (.move (.tmp 1)), none⟩,
   ⟨(some 7), (.call (.mk (.value (.func 60)) #[(.tmp 5), (.tmp 6)] #[29, 62])), none⟩,
   ⟨(some 8), (.binOp .geq 3 (.tmp 7) (.const (.int .i64 0)) 3), none⟩,
   ⟨(some 4), (.assign (.tmp 8)), none⟩])
 .ret))
theorem x_slices_ContainsFunc_int : Txt Try.prog 54 c_slices_ContainsFunc_int [.tmp 4] 2 := ⟨by kernel_rfl, by kernel_rfl, _, _, Try.func54, rfl, by kernel_rfl, by kernel_rfl, by kernel_rfl, rfl, by decide⟩
/-- loop.example/g01062/impl.isExhibit closure 1 -/
def c_impl_isExhibit_1 : Cd :=
 (.seq (.reg [⟨(some 2), (.assign (.const (.bool false))), none⟩])
 (.seq (.reg [⟨(some 3), (.move (.tmp 0)), none⟩,
   ⟨(some 4), (.call (.mk (.value (.func 28)) #[(.tmp 3), (.const (.int .i64 0)), (.const (.int .i64 100))] #[3, 3, 3])), none⟩,
   ⟨(some 5), (.unOp .not 4 (.tmp 4)), none⟩,
   ⟨(some 2), (.assign (.tmp 5)), none⟩])
 .ret))
theorem x_impl_isExhibit_1 : Txt Try.prog 55 c_impl_isExhibit_1 [.tmp 2] 1 := ⟨by kernel_rfl, by kernel_rfl, _, _, Try.func55, rfl, by kernel_rfl, by kernel_rfl, by kernel_rfl, rfl, by decide⟩
/-- loop.example/g01062/spec.l1Least -/
def c_spec_l1Least : Cd :=
 (.seq (.reg [⟨(some 4), (.assign (.const (.int .i64 0))), none⟩])
 (.seq (.seq (.reg [⟨(some 5), (.move (.tmp 0)), none⟩,
   ⟨(some 6), (.move (.tmp 1)), none⟩,
   ⟨(some 7), (.binOp .lss 3 (.tmp 5) (.tmp 6) 3), none⟩])
 (.cond (.tmp 7) (.seq (.reg [⟨(some 8), (.move (.tmp 0)), none⟩,
   ⟨(some 4), (.assign (.tmp 8)), none⟩])
 .ret) .skip))
 (.seq (.reg [⟨(some 9), (.move (.tmp 1)), none⟩,
   ⟨(some 4), (.assign (.tmp 9)), none⟩])
 .ret)))
theorem x_spec_l1Least : Txt Try.prog 56 c_spec_l1Least [.tmp 4] 2 := ⟨by kernel_rfl, by kernel_rfl, _, _, Try.func56, rfl, by kernel_rfl, by kernel_rfl, by kernel_rfl, rfl, by decide⟩
/-- loop.example/g01062/spec.l1Most -/
def c_spec_l1Most : Cd :=
 (.seq (.reg [⟨(some 4), (.assign (.const (.int .i64 0))), none⟩])
 (.seq (.seq (.reg [⟨(some 5), (.move (.tmp 0)), none⟩,
   ⟨(some 6), (.move (.tmp 1)), none⟩,
   ⟨(some 7), (.binOp .gtr 3 (.tmp 5) (.tmp 6) 3), none⟩])
 (.cond (.tmp 7) (.seq (.reg [⟨(some 8), (.move (.tmp 0)), none⟩,
   ⟨(some 4), (.assign (.tmp 8)), none⟩])
 .ret) .skip))
 (.seq (.reg [⟨(some 9), (.move (.tmp 1)), none⟩,
   ⟨(some 4), (.assign (.tmp 9)), none⟩])
 .ret)))
theorem x_spec_l1Most : Txt Try.prog 57 c_spec_l1Most [.tmp 4] 2 := ⟨by kernel_rfl, by kernel_rfl, _, _, Try.func57, rfl, by kernel_rfl, by kernel_rfl, by kernel_rfl, rfl, by decide⟩
/-- (*loop.example/g01062/spec.l1Cur).of -/
def c_spec_l1Cur_of : Cd :=
 (.seq (.reg [⟨(some 4), (.assign (.const (.string (ByteArray.mk #[])))), none⟩])
 (.seq (.reg [⟨(some 5), (.move (.tmp 1)), none⟩,
   ⟨(some 6), (.move (.tmp 0)), none⟩,
   ⟨(some 7), (.move (.tmp 1)), none⟩,
   ⟨(some 8), (.call (.mk (.builtin .len) #[(.tmp 7)] #[70])), none⟩,
   ⟨(some 9), (.call (.mk (.value (.func 25)) #[(.tmp 6), (.tmp 8)] #[42, 3])), none⟩,
   ⟨(some 10), (.indexAddr 70 (.tmp 5) (.tmp 9)), none⟩,
   ⟨(some 11), (.load 9 (.tmp 10)), none⟩,
   ⟨(some 4), (.assign (.tmp 11)), none⟩])
 .ret))
theorem x_spec_l1Cur_of : Txt Try.prog 58 c_spec_l1Cur_of [.tmp 4] 2 := ⟨by kernel_rfl, by kernel_rfl, _, _, Try.func58, rfl, by kernel_rfl, by kernel_rfl, by kernel_rfl, rfl, by decide⟩
/-- loop.example/g01062/spec.l2Word -/
def c_spec_l2Word : Cd :=
 (.seq (.reg [⟨(some 2), (.assign (.const (.bool false))), none⟩])
 (.seq (.seq (.reg [⟨(some 3), (.assign (.const (.int .i64 0))), none⟩])
 (.block 0 (.loop (.seq (.seq (.reg [⟨(some 4), (.move (.tmp 3)), none⟩,
   ⟨(some 5), (.move (.tmp 0)), none⟩,
   ⟨(some 6), (.call (.mk (.builtin .len) #[(.tmp 5)] #[9])), none⟩,
   ⟨(some 7), (.binOp .lss 3 (.tmp 4) (.tmp 6) 3), none⟩])
 (.cond (.tmp 7) .skip (.exit 0)))
 (.seq (.block 1 (.seq (.reg [⟨(some 10), (.move (.tmp 0)), none⟩,
   ⟨(some 11), (.move (.tmp 3)), none⟩,
   ⟨(some 12), (.index 9 (.tmp 10) (.tmp 11)), none⟩,
   ⟨(some 13), (.binOp .lss 5 (.tmp 12) (.const (.int .u8 97)) 5), none⟩,
   ⟨(some 14), (.move (.tmp 13)), none⟩,
   ⟨(some 15), (.move (.tmp 0)), (some (14, false))⟩,
   ⟨(some 16), (.move (.tmp 3)), (some (14, false))⟩,
   ⟨(some 17), (.index 9 (.tmp 15) (.tmp 16)), (some (14, false))⟩,
   ⟨(some 18), (.binOp .gtr 5 (.tmp 17) (.const (.int .u8 122)) 5), (some (14, false))⟩,
   ⟨(some 19), (.pick (.tmp 14) (.const (.bool true)) (.tmp 18)), none⟩])
 (.cond (.tmp 19) (.seq (.reg [⟨(some 2), (.assign (.const (.bool false))), none⟩])
 .ret) .skip)))
 (.reg [⟨(some 8), (.move (.tmp 3)), none⟩,
   ⟨(some 9), (.binOp .add 3 (.tmp 8) (.const (.int .i64 1)) 3), none⟩,
   ⟨(some 3), (.assign (.tmp 9)), none⟩]))))))
 (.seq (.reg [⟨(some 20), (.move (.tmp 0)), none⟩,
   ⟨(some 21), (.call (.mk (.builtin .len) #[(.tmp 20)] #[9])), none⟩,
   ⟨(some 22), (.call (.mk (.value (.func 33)) #[(.tmp 21), (.const (.int .i64 1)), (.const (.int .i64 10))] #[3, 3, 3])), none⟩,
   ⟨(some 2), (.assign (.tmp 22)), none⟩])
 .ret)))
theorem x_spec_l2Word : Txt Try.prog 59 c_spec_l2Word [.tmp 2] 1 := ⟨by kernel_rfl, by kernel_rfl, _, _, Try.func59, rfl, by kernel_rfl, by kernel_rfl, by kernel_rfl, rfl, by decide⟩
/-- slices.IndexFunc[[]int,int] -/
def c_slices_IndexFunc_int : Cd :=
 (.seq (.reg [⟨(some 4), (.assign (.const (.int .i64 0))), none⟩])
 (.seq (.seq (.reg [⟨(some 6), (.move (.tmp 0)), none⟩,
   ⟨(some 7), (.call (.mk (.builtin .len) #[(.tmp 6)] #[29])), none⟩,
   ⟨(some 8), (.move (.const (.int .i64 0))), none⟩])
 (.block 0 (.loop (.seq (.reg [⟨(some 9), (.binOp .lss 3 (.tmp 8) (.tmp 7) 3), none⟩])
 (.seq (.cond (.tmp 9) .skip (.exit 0))
 (.seq (.block 1 (.seq (.reg [⟨(some 10), (.move (.tmp 8)), none⟩,
   ⟨(some 5), (.assign (.tmp 10)), none⟩])
 (.seq (.reg [⟨(some 11), (.move (.tmp 1)), none⟩,
   ⟨(some 12), (.move (.tmp 0)), none⟩,
   ⟨(some 13), (.move (.tmp 5)), none⟩,
   ⟨(some 14), (.indexAddr 29 (.tmp 12) (.tmp 13)), none⟩,
   ⟨(some 15), (.load 3 (.tmp 14)), none⟩,
   ⟨(some 16), (.call (.mk (.value (.tmp 11)) #[(.tmp 15)] #[3])), none⟩])
 (.cond (.tmp 16) (.seq (.reg [⟨(some 17), (.move (.tmp 5)), none⟩,
   ⟨(some 4), (.assign (.tmp 17)), none⟩])
 .ret) .skip))))
 (.reg [⟨(some 18), (.binOp .add 3 (.tmp 8) (.const (.int .i64 1)) 3), none⟩,
   ⟨(some 8), (.move (.tmp 18)), none⟩])))))))
 (.seq (.reg [⟨(some 4), (.assign (.const (.int .i64 (-1)))), none⟩])
 .ret)))
theorem x_slices_IndexFunc_int : Txt Try.prog 60 c_slices_IndexFunc_int [.tmp 4] 2 := ⟨by kernel_rfl, by kernel_rfl, _, _, Try.func60, rfl, by kernel_rfl, by kernel_rfl, by kernel_rfl, rfl, by decide⟩
theorem qs3 : qSize Try.prog 3 = some 1 := by kernel_rfl
theorem qb3 : qBytes Try.prog 3 = some 8 := by kernel_rfl
theorem qa3 : qAgg Try.prog 3 = some false := by kernel_rfl
theorem qz3 : qZero Try.prog 3 = some (.int .i64 0) := by kernel_rfl
theorem qk3 : qKind Try.prog 3 = some .i64 := by kernel_rfl
theorem qui3 : (Try.prog.underlying 3).isSome = true := by kernel_rfl
theorem qs4 : qSize Try.prog 4 = some 1 := by kernel_rfl
theorem qb4 : qBytes Try.prog 4 = some 1 := by kernel_rfl
theorem qa4 : qAgg Try.prog 4 = some false := by kernel_rfl
theorem qz4 : qZero Try.prog 4 = some (.bool false) := by kernel_rfl
theorem qo4 : qBool Try.prog 4 = true := by kernel_rfl
theorem qs5 : qSize Try.prog 5 = some 1 := by kernel_rfl
theorem qb5 : qBytes Try.prog 5 = some 1 := by kernel_rfl
theorem qa5 : qAgg Try.prog 5 = some false := by kernel_rfl
theorem qz5 : qZero Try.prog 5 = some (.int .u8 0) := by kernel_rfl
theorem qk5 : qKind Try.prog 5 = some .u8 := by kernel_rfl
theorem qui5 : (Try.prog.underlying 5).isSome = true := by kernel_rfl
theorem qs9 : qSize Try.prog 9 = some 1 := by kernel_rfl
theorem qb9 : qBytes Try.prog 9 = some 16 := by kernel_rfl
theorem qa9 : qAgg Try.prog 9 = some false := by kernel_rfl
theorem qz9 : qZero Try.prog 9 = some (.string ByteArray.empty) := by kernel_rfl
theorem qt9 : qStr Try.prog 9 = true := by kernel_rfl
theorem qs22 : qSize Try.prog 22 = some 1 := by kernel_rfl
theorem qb22 : qBytes Try.prog 22 = some 24 := by kernel_rfl
theorem qa22 : qAgg Try.prog 22 = some false := by kernel_rfl
theorem qz22 : qZero Try.prog 22 = some (.slice none 0 0) := by kernel_rfl
theorem qe22 : qElem Try.prog 22 = some 5 := by kernel_rfl
theorem qs24 : qSize Try.prog 24 = some 1 := by kernel_rfl
theorem qb24 : qBytes Try.prog 24 = some 24 := by kernel_rfl
theorem qa24 : qAgg Try.prog 24 = some false := by kernel_rfl
theorem qz24 : qZero Try.prog 24 = some (.slice none 0 0) := by kernel_rfl
theorem qe24 : qElem Try.prog 24 = some 31 := by kernel_rfl
theorem qs29 : qSize Try.prog 29 = some 1 := by kernel_rfl
theorem qb29 : qBytes Try.prog 29 = some 24 := by kernel_rfl
theorem qa29 : qAgg Try.prog 29 = some false := by kernel_rfl
theorem qz29 : qZero Try.prog 29 = some (.slice none 0 0) := by kernel_rfl
theorem qe29 : qElem Try.prog 29 = some 3 := by kernel_rfl
theorem qs31 : qSize Try.prog 31 = some 4 := by kernel_rfl
theorem qb31 : qBytes Try.prog 31 = some 56 := by kernel_rfl
theorem qa31 : qAgg Try.prog 31 = some true := by kernel_rfl
theorem qz31 : qZero Try.prog 31 = some (.agg #[.int .i64 0, .string ByteArray.empty, .int .i64 0, .slice none 0 0]) := by kernel_rfl
theorem qg31 : qFields Try.prog 31 = some [(0, 1), (1, 1), (2, 1), (3, 1)] := by kernel_rfl
theorem qf31_0 : qField Try.prog 31 0 = some (0, 3) := by kernel_rfl
theorem qf31_1 : qField Try.prog 31 1 = some (1, 9) := by kernel_rfl
theorem qf31_2 : qField Try.prog 31 2 = some (2, 3) := by kernel_rfl
theorem qf31_3 : qField Try.prog 31 3 = some (3, 29) := by kernel_rfl
theorem qs42 : qSize Try.prog 42 = some 1 := by kernel_rfl
theorem qb42 : qBytes Try.prog 42 = some 8 := by kernel_rfl
theorem qa42 : qAgg Try.prog 42 = some false := by kernel_rfl
theorem qz42 : qZero Try.prog 42 = some (.pointer none) := by kernel_rfl
theorem qs43 : qSize Try.prog 43 = some 1 := by kernel_rfl
theorem qb43 : qBytes Try.prog 43 = some 8 := by kernel_rfl
theorem qa43 : qAgg Try.prog 43 = some false := by kernel_rfl
theorem qz43 : qZero Try.prog 43 = some (.int .u64 0) := by kernel_rfl
theorem qk43 : qKind Try.prog 43 = some .u64 := by kernel_rfl
theorem qui43 : (Try.prog.underlying 43).isSome = true := by kernel_rfl
theorem qs45 : qSize Try.prog 45 = some 3 := by kernel_rfl
theorem qb45 : qBytes Try.prog 45 = some 40 := by kernel_rfl
theorem qa45 : qAgg Try.prog 45 = some true := by kernel_rfl
theorem qz45 : qZero Try.prog 45 = some (.agg #[.slice none 0 0, .int .i64 0, .int .u64 0]) := by kernel_rfl
theorem qg45 : qFields Try.prog 45 = some [(0, 1), (1, 1), (2, 1)] := by kernel_rfl
theorem qf45_0 : qField Try.prog 45 0 = some (0, 22) := by kernel_rfl
theorem qf45_1 : qField Try.prog 45 1 = some (1, 3) := by kernel_rfl
theorem qf45_2 : qField Try.prog 45 2 = some (2, 43) := by kernel_rfl
theorem qs55 : qSize Try.prog 55 = some 1 := by kernel_rfl
theorem qb55 : qBytes Try.prog 55 = some 8 := by kernel_rfl
theorem qa55 : qAgg Try.prog 55 = some false := by kernel_rfl
theorem qz55 : qZero Try.prog 55 = some (.pointer none) := by kernel_rfl
theorem qs70 : qSize Try.prog 70 = some 1 := by kernel_rfl
theorem qb70 : qBytes Try.prog 70 = some 24 := by kernel_rfl
theorem qa70 : qAgg Try.prog 70 = some false := by kernel_rfl
theorem qz70 : qZero Try.prog 70 = some (.slice none 0 0) := by kernel_rfl
theorem qe70 : qElem Try.prog 70 = some 9 := by kernel_rfl
set_option linter.defProp false
/-- The facts, in one name. -/
def fcT := And.intro @qs3 <| And.intro @qb3 <| And.intro @qa3 <| And.intro @qz3 <| And.intro @qk3 <| And.intro @qui3 <| And.intro @qs4 <| And.intro @qb4 <| And.intro @qa4 <| And.intro @qz4 <| And.intro @qo4 <| And.intro @qs5 <| And.intro @qb5 <| And.intro @qa5 <| And.intro @qz5 <| And.intro @qk5 <| And.intro @qui5 <| And.intro @qs9 <| And.intro @qb9 <| And.intro @qa9 <| And.intro @qz9 <| And.intro @qt9 <| And.intro @qs22 <| And.intro @qb22 <| And.intro @qa22 <| And.intro @qz22 <| And.intro @qe22 <| And.intro @qs24 <| And.intro @qb24 <| And.intro @qa24 <| And.intro @qz24 <| And.intro @qe24 <| And.intro @qs29 <| And.intro @qb29 <| And.intro @qa29 <| And.intro @qz29 <| And.intro @qe29 <| And.intro @qs31 <| And.intro @qb31 <| And.intro @qa31 <| And.intro @qz31 <| And.intro @qg31 <| And.intro @qf31_0 <| And.intro @qf31_1 <| And.intro @qf31_2 <| And.intro @qf31_3 <| And.intro @qs42 <| And.intro @qb42 <| And.intro @qa42 <| And.intro @qz42 <| And.intro @qs43 <| And.intro @qb43 <| And.intro @qa43 <| And.intro @qz43 <| And.intro @qk43 <| And.intro @qui43 <| And.intro @qs45 <| And.intro @qb45 <| And.intro @qa45 <| And.intro @qz45 <| And.intro @qg45 <| And.intro @qf45_0 <| And.intro @qf45_1 <| And.intro @qf45_2 <| And.intro @qs55 <| And.intro @qb55 <| And.intro @qa55 <| And.intro @qz55 <| And.intro @qs70 <| And.intro @qb70 <| And.intro @qa70 <| And.intro @qz70 <| And.intro @qe70 <| True.intro
end Go.Proofs.Ytnjlleopgjggpaa
