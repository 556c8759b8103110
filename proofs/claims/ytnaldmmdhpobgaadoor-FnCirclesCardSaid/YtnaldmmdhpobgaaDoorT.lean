/- The texts of the functions, edges struck, and closed facts on functions and types: written by program (gen.py). -/
import Derived.Test.YtnaldmmdhpobgaaDoorD
import Derived.Test.YtnaldmmdhpobgaaDoorProg
namespace Go.Proofs.YtnaldmmdhpobgaaDoor
open Go Go.RowKit Go.Proofs
/-- loop.example/g01062/laws.FnCircles -/
def c_laws_FnCircles : Cd :=
 (.seq (.reg [⟨(some 2), (.assign (.const (.bool false))), none⟩])
 (.seq (.seq (.reg [⟨(some 46), (.move (.tmp 0)), none⟩,
   ⟨(some 47), (.call (.mk (.value (.func 9)) #[(.tmp 46)] #[28])), none⟩])
 (.cond (.tmp 47) (.seq (.reg [⟨(some 2), (.assign (.const (.bool true))), none⟩])
 .ret) .skip))
 (.seq (.reg [⟨(some 49), (.move (.tmp 0)), none⟩,
   ⟨(some 50), (.call (.mk (.value (.func 10)) #[(.tmp 49)] #[28])), none⟩,
   ⟨(some 48), (.move (.tmp 50)), none⟩,
   ⟨(some 51), (.extract (.tmp 48) 0), none⟩,
   ⟨(some 52), (.extract (.tmp 48) 1), none⟩,
   ⟨(some 53), (.extract (.tmp 48) 2), none⟩,
   ⟨(some 3), (.assign (.tmp 51)), none⟩,
   ⟨(some 4), (.assign (.tmp 52)), none⟩,
   ⟨(some 5), (.assign (.tmp 53)), none⟩])
 (.seq (.reg [⟨(some 55), (.move (.tmp 3)), none⟩,
   ⟨(some 56), (.move (.tmp 4)), none⟩,
   ⟨(some 57), (.move (.tmp 5)), none⟩,
   ⟨(some 58), (.call (.mk (.value (.func 11)) #[(.tmp 55), (.tmp 56), (.tmp 57)] #[3, 30, 3])), none⟩,
   ⟨(some 54), (.move (.tmp 58)), none⟩,
   ⟨(some 59), (.extract (.tmp 54) 0), none⟩,
   ⟨(some 60), (.extract (.tmp 54) 1), none⟩,
   ⟨(some 6), (.assign (.tmp 59)), none⟩,
   ⟨(some 7), (.assign (.tmp 60)), none⟩])
 (.seq (.seq (.reg [⟨(some 62), (.move (.tmp 3)), none⟩,
   ⟨(some 63), (.move (.tmp 4)), none⟩,
   ⟨(some 64), (.move (.tmp 5)), none⟩,
   ⟨(some 65), (.call (.mk (.value (.func 12)) #[(.tmp 62), (.tmp 63), (.tmp 64)] #[3, 30, 3])), none⟩,
   ⟨(some 61), (.move (.tmp 65)), none⟩,
   ⟨(some 66), (.extract (.tmp 61) 0), none⟩,
   ⟨(some 67), (.extract (.tmp 61) 1), none⟩,
   ⟨(some 8), (.assign (.tmp 66)), none⟩,
   ⟨(some 9), (.assign (.tmp 67)), none⟩])
 (.seq (.reg [⟨(some 68), (.move (.tmp 7)), none⟩,
   ⟨(some 69), (.move (.tmp 9)), none⟩,
   ⟨(some 70), (.binOp .neq 4 (.tmp 68) (.tmp 69) 4), none⟩,
   ⟨(some 71), (.move (.tmp 70)), none⟩,
   ⟨(some 72), (.move (.tmp 6)), (some (71, false))⟩,
   ⟨(some 73), (.move (.tmp 8)), (some (71, false))⟩,
   ⟨(some 74), (.call (.mk (.value (.func 13)) #[(.tmp 72), (.tmp 73)] #[33, 33])), (some (71, false))⟩,
   ⟨(some 75), (.unOp .not 4 (.tmp 74)), (some (71, false))⟩,
   ⟨(some 76), (.pick (.tmp 71) (.const (.bool true)) (.tmp 75)), none⟩,
   ⟨(some 77), (.move (.tmp 76)), none⟩,
   ⟨(some 78), (.move (.tmp 3)), (some (77, false))⟩,
   ⟨(some 79), (.move (.tmp 4)), (some (77, false))⟩,
   ⟨(some 80), (.call (.mk (.value (.func 14)) #[(.tmp 78), (.tmp 79)] #[3, 30])), (some (77, false))⟩,
   ⟨(some 81), (.move (.tmp 3)), (some (77, false))⟩,
   ⟨(some 82), (.move (.tmp 4)), (some (77, false))⟩,
   ⟨(some 83), (.call (.mk (.value (.func 15)) #[(.tmp 81), (.tmp 82)] #[3, 30])), (some (77, false))⟩,
   ⟨(some 84), (.binOp .neq 4 (.tmp 80) (.tmp 83) 4), (some (77, false))⟩,
   ⟨(some 85), (.pick (.tmp 77) (.const (.bool true)) (.tmp 84)), none⟩])
 (.cond (.tmp 85) (.seq (.reg [⟨(some 2), (.assign (.const (.bool false))), none⟩])
 .ret) .skip)))
 (.seq (.seq (.reg [⟨(some 10), (.assign (.const (.int .i64 0))), none⟩])
 (.block 0 (.loop (.seq (.seq (.reg [⟨(some 86), (.move (.tmp 10)), none⟩,
   ⟨(some 87), (.move (.tmp 6)), none⟩,
   ⟨(some 88), (.call (.mk (.builtin .len) #[(.tmp 87)] #[33])), none⟩,
   ⟨(some 89), (.binOp .lss 3 (.tmp 86) (.tmp 88) 3), none⟩,
   ⟨(some 90), (.move (.tmp 89)), none⟩,
   ⟨(some 91), (.move (.tmp 10)), (some (90, true))⟩,
   ⟨(some 92), (.binOp .lss 3 (.tmp 91) (.const (.int .i64 20)) 3), (some (90, true))⟩,
   ⟨(some 93), (.pick (.tmp 90) (.tmp 92) (.const (.bool false))), none⟩])
 (.cond (.tmp 93) .skip (.exit 0)))
 (.seq (.block 1 (.seq (.reg [⟨(some 97), (.move (.tmp 3)), none⟩,
   ⟨(some 98), (.move (.tmp 4)), none⟩,
   ⟨(some 99), (.move (.tmp 6)), none⟩,
   ⟨(some 100), (.move (.tmp 10)), none⟩,
   ⟨(some 101), (.indexAddr 33 (.tmp 99) (.tmp 100)), none⟩,
   ⟨(some 102), (.load 22 (.tmp 101)), none⟩,
   ⟨(some 103), (.call (.mk (.value (.func 16)) #[(.tmp 97), (.tmp 98), (.tmp 102)] #[3, 30, 22])), none⟩,
   ⟨(some 96), (.move (.tmp 103)), none⟩,
   ⟨(some 104), (.extract (.tmp 96) 0), none⟩,
   ⟨(some 105), (.extract (.tmp 96) 1), none⟩,
   ⟨(some 11), (.assign (.tmp 104)), none⟩,
   ⟨(some 12), (.assign (.tmp 105)), none⟩])
 (.seq (.reg [⟨(some 107), (.move (.tmp 3)), none⟩,
   ⟨(some 108), (.move (.tmp 4)), none⟩,
   ⟨(some 109), (.move (.tmp 6)), none⟩,
   ⟨(some 110), (.move (.tmp 10)), none⟩,
   ⟨(some 111), (.indexAddr 33 (.tmp 109) (.tmp 110)), none⟩,
   ⟨(some 112), (.load 22 (.tmp 111)), none⟩,
   ⟨(some 113), (.call (.mk (.value (.func 17)) #[(.tmp 107), (.tmp 108), (.tmp 112)] #[3, 30, 22])), none⟩,
   ⟨(some 106), (.move (.tmp 113)), none⟩,
   ⟨(some 114), (.extract (.tmp 106) 0), none⟩,
   ⟨(some 115), (.extract (.tmp 106) 1), none⟩,
   ⟨(some 13), (.assign (.tmp 114)), none⟩,
   ⟨(some 14), (.assign (.tmp 115)), none⟩])
 (.seq (.reg [⟨(some 116), (.move (.tmp 12)), none⟩,
   ⟨(some 117), (.unOp .not 4 (.tmp 116)), none⟩,
   ⟨(some 118), (.move (.tmp 117)), none⟩,
   ⟨(some 119), (.move (.tmp 11)), (some (118, false))⟩,
   ⟨(some 120), (.unOp .not 4 (.tmp 119)), (some (118, false))⟩,
   ⟨(some 121), (.pick (.tmp 118) (.const (.bool true)) (.tmp 120)), none⟩,
   ⟨(some 122), (.move (.tmp 121)), none⟩,
   ⟨(some 123), (.move (.tmp 14)), (some (122, false))⟩,
   ⟨(some 124), (.unOp .not 4 (.tmp 123)), (some (122, false))⟩,
   ⟨(some 125), (.pick (.tmp 122) (.const (.bool true)) (.tmp 124)), none⟩,
   ⟨(some 126), (.move (.tmp 125)), none⟩,
   ⟨(some 127), (.move (.tmp 13)), (some (126, false))⟩,
   ⟨(some 128), (.move (.tmp 6)), (some (126, false))⟩,
   ⟨(some 129), (.move (.tmp 10)), (some (126, false))⟩,
   ⟨(some 130), (.indexAddr 33 (.tmp 128) (.tmp 129)), (some (126, false))⟩,
   ⟨(some 131), (.load 22 (.tmp 130)), (some (126, false))⟩,
   ⟨(some 132), (.call (.mk (.builtin .len) #[(.tmp 131)] #[22])), (some (126, false))⟩,
   ⟨(some 133), (.binOp .lss 3 (.tmp 127) (.tmp 132) 3), (some (126, false))⟩,
   ⟨(some 134), (.pick (.tmp 126) (.const (.bool true)) (.tmp 133)), none⟩])
 (.cond (.tmp 134) (.seq (.reg [⟨(some 2), (.assign (.const (.bool false))), none⟩])
 .ret) .skip)))))
 (.reg [⟨(some 94), (.move (.tmp 10)), none⟩,
   ⟨(some 95), (.binOp .add 3 (.tmp 94) (.const (.int .i64 1)) 3), none⟩,
   ⟨(some 10), (.assign (.tmp 95)), none⟩]))))))
 (.seq (.reg [⟨(some 136), (.move (.tmp 3)), none⟩,
   ⟨(some 137), (.move (.tmp 4)), none⟩,
   ⟨(some 138), (.call (.mk (.value (.func 18)) #[(.tmp 136), (.tmp 137)] #[3, 30])), none⟩,
   ⟨(some 135), (.move (.tmp 138)), none⟩,
   ⟨(some 139), (.extract (.tmp 135) 0), none⟩,
   ⟨(some 140), (.extract (.tmp 135) 1), none⟩,
   ⟨(some 15), (.assign (.tmp 139)), none⟩,
   ⟨(some 16), (.assign (.tmp 140)), none⟩])
 (.seq (.seq (.reg [⟨(some 142), (.move (.tmp 3)), none⟩,
   ⟨(some 143), (.move (.tmp 4)), none⟩,
   ⟨(some 144), (.call (.mk (.value (.func 19)) #[(.tmp 142), (.tmp 143)] #[3, 30])), none⟩,
   ⟨(some 141), (.move (.tmp 144)), none⟩,
   ⟨(some 145), (.extract (.tmp 141) 0), none⟩,
   ⟨(some 146), (.extract (.tmp 141) 1), none⟩,
   ⟨(some 17), (.assign (.tmp 145)), none⟩,
   ⟨(some 18), (.assign (.tmp 146)), none⟩])
 (.seq (.reg [⟨(some 147), (.move (.tmp 16)), none⟩,
   ⟨(some 148), (.move (.tmp 18)), none⟩,
   ⟨(some 149), (.binOp .neq 4 (.tmp 147) (.tmp 148) 4), none⟩,
   ⟨(some 150), (.move (.tmp 149)), none⟩,
   ⟨(some 151), (.move (.tmp 15)), (some (150, false))⟩,
   ⟨(some 152), (.move (.tmp 17)), (some (150, false))⟩,
   ⟨(some 153), (.call (.mk (.value (.func 20)) #[(.tmp 151), (.tmp 152)] #[22, 22])), (some (150, false))⟩,
   ⟨(some 154), (.unOp .not 4 (.tmp 153)), (some (150, false))⟩,
   ⟨(some 155), (.pick (.tmp 150) (.const (.bool true)) (.tmp 154)), none⟩])
 (.cond (.tmp 155) (.seq (.reg [⟨(some 2), (.assign (.const (.bool false))), none⟩])
 .ret) .skip)))
 (.seq (.reg [⟨(some 157), (.move (.tmp 3)), none⟩,
   ⟨(some 158), (.move (.tmp 4)), none⟩,
   ⟨(some 159), (.call (.mk (.value (.func 21)) #[(.tmp 157), (.tmp 158)] #[3, 30])), none⟩,
   ⟨(some 156), (.move (.tmp 159)), none⟩,
   ⟨(some 160), (.extract (.tmp 156) 0), none⟩,
   ⟨(some 161), (.extract (.tmp 156) 1), none⟩,
   ⟨(some 162), (.extract (.tmp 156) 2), none⟩,
   ⟨(some 19), (.assign (.tmp 160)), none⟩,
   ⟨(some 20), (.assign (.tmp 161)), none⟩,
   ⟨(some 21), (.assign (.tmp 162)), none⟩])
 (.seq (.seq (.reg [⟨(some 164), (.move (.tmp 3)), none⟩,
   ⟨(some 165), (.move (.tmp 4)), none⟩,
   ⟨(some 166), (.call (.mk (.value (.func 22)) #[(.tmp 164), (.tmp 165)] #[3, 30])), none⟩,
   ⟨(some 163), (.move (.tmp 166)), none⟩,
   ⟨(some 167), (.extract (.tmp 163) 0), none⟩,
   ⟨(some 168), (.extract (.tmp 163) 1), none⟩,
   ⟨(some 169), (.extract (.tmp 163) 2), none⟩,
   ⟨(some 22), (.assign (.tmp 167)), none⟩,
   ⟨(some 23), (.assign (.tmp 168)), none⟩,
   ⟨(some 24), (.assign (.tmp 169)), none⟩])
 (.seq (.reg [⟨(some 170), (.move (.tmp 21)), none⟩,
   ⟨(some 171), (.move (.tmp 24)), none⟩,
   ⟨(some 172), (.binOp .neq 4 (.tmp 170) (.tmp 171) 4), none⟩,
   ⟨(some 173), (.move (.tmp 172)), none⟩,
   ⟨(some 174), (.move (.tmp 21)), (some (173, false))⟩,
   ⟨(some 175), (.move (.tmp 16)), (some (173, false))⟩,
   ⟨(some 176), (.binOp .neq 4 (.tmp 174) (.tmp 175) 4), (some (173, false))⟩,
   ⟨(some 177), (.pick (.tmp 173) (.const (.bool true)) (.tmp 176)), none⟩,
   ⟨(some 178), (.move (.tmp 177)), none⟩,
   ⟨(some 179), (.move (.tmp 20)), (some (178, false))⟩,
   ⟨(some 180), (.move (.tmp 23)), (some (178, false))⟩,
   ⟨(some 181), (.binOp .neq 3 (.tmp 179) (.tmp 180) 3), (some (178, false))⟩,
   ⟨(some 182), (.pick (.tmp 178) (.const (.bool true)) (.tmp 181)), none⟩,
   ⟨(some 183), (.move (.tmp 182)), none⟩,
   ⟨(some 184), (.move (.tmp 19)), (some (183, false))⟩,
   ⟨(some 185), (.move (.tmp 22)), (some (183, false))⟩,
   ⟨(some 186), (.call (.mk (.value (.func 20)) #[(.tmp 184), (.tmp 185)] #[22, 22])), (some (183, false))⟩,
   ⟨(some 187), (.unOp .not 4 (.tmp 186)), (some (183, false))⟩,
   ⟨(some 188), (.pick (.tmp 183) (.const (.bool true)) (.tmp 187)), none⟩,
   ⟨(some 189), (.move (.tmp 188)), none⟩,
   ⟨(some 190), (.move (.tmp 21)), (some (189, false))⟩,
   ⟨(some 191), (.move (.tmp 190)), (some (189, false))⟩,
   ⟨(some 192), (.move (.tmp 15)), (some (191, true))⟩,
   ⟨(some 193), (.call (.mk (.builtin .len) #[(.tmp 192)] #[22])), (some (191, true))⟩,
   ⟨(some 194), (.move (.tmp 19)), (some (191, true))⟩,
   ⟨(some 195), (.call (.mk (.builtin .len) #[(.tmp 194)] #[22])), (some (191, true))⟩,
   ⟨(some 196), (.binOp .gtr 3 (.tmp 193) (.tmp 195) 3), (some (191, true))⟩,
   ⟨(some 197), (.pick (.tmp 191) (.tmp 196) (.const (.bool false))), (some (189, false))⟩,
   ⟨(some 198), (.pick (.tmp 189) (.const (.bool true)) (.tmp 197)), none⟩])
 (.cond (.tmp 198) (.seq (.reg [⟨(some 2), (.assign (.const (.bool false))), none⟩])
 .ret) .skip)))
 (.seq (.reg [⟨(some 200), (.move (.tmp 3)), none⟩,
   ⟨(some 201), (.move (.tmp 4)), none⟩,
   ⟨(some 202), (.call (.mk (.value (.func 23)) #[(.tmp 200), (.tmp 201)] #[3, 30])), none⟩,
   ⟨(some 199), (.move (.tmp 202)), none⟩,
   ⟨(some 203), (.extract (.tmp 199) 0), none⟩,
   ⟨(some 204), (.extract (.tmp 199) 1), none⟩,
   ⟨(some 25), (.assign (.tmp 203)), none⟩,
   ⟨(some 26), (.assign (.tmp 204)), none⟩])
 (.seq (.seq (.reg [⟨(some 206), (.move (.tmp 3)), none⟩,
   ⟨(some 207), (.move (.tmp 4)), none⟩,
   ⟨(some 208), (.call (.mk (.value (.func 24)) #[(.tmp 206), (.tmp 207)] #[3, 30])), none⟩,
   ⟨(some 205), (.move (.tmp 208)), none⟩,
   ⟨(some 209), (.extract (.tmp 205) 0), none⟩,
   ⟨(some 210), (.extract (.tmp 205) 1), none⟩,
   ⟨(some 27), (.assign (.tmp 209)), none⟩,
   ⟨(some 28), (.assign (.tmp 210)), none⟩])
 (.seq (.reg [⟨(some 211), (.move (.tmp 26)), none⟩,
   ⟨(some 212), (.move (.tmp 28)), none⟩,
   ⟨(some 213), (.binOp .neq 4 (.tmp 211) (.tmp 212) 4), none⟩,
   ⟨(some 214), (.move (.tmp 213)), none⟩,
   ⟨(some 215), (.move (.tmp 25)), (some (214, false))⟩,
   ⟨(some 216), (.move (.tmp 27)), (some (214, false))⟩,
   ⟨(some 217), (.call (.mk (.value (.func 20)) #[(.tmp 215), (.tmp 216)] #[22, 22])), (some (214, false))⟩,
   ⟨(some 218), (.unOp .not 4 (.tmp 217)), (some (214, false))⟩,
   ⟨(some 219), (.pick (.tmp 214) (.const (.bool true)) (.tmp 218)), none⟩])
 (.cond (.tmp 219) (.seq (.reg [⟨(some 2), (.assign (.const (.bool false))), none⟩])
 .ret) .skip)))
 (.seq (.seq (.reg [⟨(some 29), (.assign (.const (.int .i64 0))), none⟩])
 (.block 2 (.loop (.seq (.seq (.reg [⟨(some 220), (.move (.tmp 29)), none⟩,
   ⟨(some 221), (.move (.tmp 19)), none⟩,
   ⟨(some 222), (.call (.mk (.builtin .len) #[(.tmp 221)] #[22])), none⟩,
   ⟨(some 223), (.binOp .lss 3 (.tmp 220) (.tmp 222) 3), none⟩])
 (.cond (.tmp 223) .skip (.exit 2)))
 (.seq (.block 3 (.seq (.reg [⟨(some 226), (.move (.tmp 25)), none⟩,
   ⟨(some 227), (.move (.tmp 19)), none⟩,
   ⟨(some 228), (.move (.tmp 29)), none⟩,
   ⟨(some 229), (.indexAddr 22 (.tmp 227) (.tmp 228)), none⟩,
   ⟨(some 230), (.load 3 (.tmp 229)), none⟩,
   ⟨(some 231), (.call (.mk (.value (.func 25)) #[(.tmp 226), (.tmp 230)] #[22, 3])), none⟩])
 (.cond (.tmp 231) (.seq (.reg [⟨(some 2), (.assign (.const (.bool false))), none⟩])
 .ret) .skip)))
 (.reg [⟨(some 224), (.move (.tmp 29)), none⟩,
   ⟨(some 225), (.binOp .add 3 (.tmp 224) (.const (.int .i64 1)) 3), none⟩,
   ⟨(some 29), (.assign (.tmp 225)), none⟩]))))))
 (.seq (.reg [⟨(some 233), (.move (.tmp 0)), none⟩,
   ⟨(some 234), (.call (.mk (.value (.func 26)) #[(.tmp 233)] #[28])), none⟩,
   ⟨(some 232), (.move (.tmp 234)), none⟩,
   ⟨(some 235), (.extract (.tmp 232) 0), none⟩,
   ⟨(some 236), (.extract (.tmp 232) 1), none⟩,
   ⟨(some 237), (.extract (.tmp 232) 2), none⟩,
   ⟨(some 30), (.assign (.tmp 235)), none⟩,
   ⟨(some 31), (.assign (.tmp 236)), none⟩,
   ⟨(some 32), (.assign (.tmp 237)), none⟩])
 (.seq (.reg [⟨(some 239), (.move (.tmp 30)), none⟩,
   ⟨(some 240), (.move (.tmp 31)), none⟩,
   ⟨(some 241), (.move (.tmp 32)), none⟩,
   ⟨(some 242), (.call (.mk (.value (.func 16)) #[(.tmp 239), (.tmp 240), (.tmp 241)] #[3, 30, 22])), none⟩,
   ⟨(some 238), (.move (.tmp 242)), none⟩,
   ⟨(some 243), (.extract (.tmp 238) 0), none⟩,
   ⟨(some 244), (.extract (.tmp 238) 1), none⟩,
   ⟨(some 33), (.assign (.tmp 243)), none⟩,
   ⟨(some 34), (.assign (.tmp 244)), none⟩])
 (.seq (.seq (.reg [⟨(some 246), (.move (.tmp 30)), none⟩,
   ⟨(some 247), (.move (.tmp 31)), none⟩,
   ⟨(some 248), (.move (.tmp 32)), none⟩,
   ⟨(some 249), (.call (.mk (.value (.func 27)) #[(.tmp 246), (.tmp 247), (.tmp 248)] #[3, 30, 22])), none⟩,
   ⟨(some 245), (.move (.tmp 249)), none⟩,
   ⟨(some 250), (.extract (.tmp 245) 0), none⟩,
   ⟨(some 251), (.extract (.tmp 245) 1), none⟩,
   ⟨(some 35), (.assign (.tmp 250)), none⟩,
   ⟨(some 36), (.assign (.tmp 251)), none⟩])
 (.seq (.reg [⟨(some 252), (.move (.tmp 33)), none⟩,
   ⟨(some 253), (.move (.tmp 35)), none⟩,
   ⟨(some 254), (.binOp .neq 4 (.tmp 252) (.tmp 253) 4), none⟩,
   ⟨(some 255), (.move (.tmp 254)), none⟩,
   ⟨(some 256), (.move (.tmp 34)), (some (255, false))⟩,
   ⟨(some 257), (.move (.tmp 36)), (some (255, false))⟩,
   ⟨(some 258), (.binOp .neq 4 (.tmp 256) (.tmp 257) 4), (some (255, false))⟩,
   ⟨(some 259), (.pick (.tmp 255) (.const (.bool true)) (.tmp 258)), none⟩])
 (.cond (.tmp 259) (.seq (.reg [⟨(some 2), (.assign (.const (.bool false))), none⟩])
 .ret) .skip)))
 (.seq (.reg [⟨(some 261), (.move (.tmp 30)), none⟩,
   ⟨(some 262), (.move (.tmp 31)), none⟩,
   ⟨(some 263), (.move (.tmp 32)), none⟩,
   ⟨(some 264), (.call (.mk (.value (.func 17)) #[(.tmp 261), (.tmp 262), (.tmp 263)] #[3, 30, 22])), none⟩,
   ⟨(some 260), (.move (.tmp 264)), none⟩,
   ⟨(some 265), (.extract (.tmp 260) 0), none⟩,
   ⟨(some 266), (.extract (.tmp 260) 1), none⟩,
   ⟨(some 37), (.assign (.tmp 265)), none⟩,
   ⟨(some 38), (.assign (.tmp 266)), none⟩])
 (.seq (.seq (.reg [⟨(some 268), (.move (.tmp 30)), none⟩,
   ⟨(some 269), (.move (.tmp 31)), none⟩,
   ⟨(some 270), (.move (.tmp 32)), none⟩,
   ⟨(some 271), (.call (.mk (.value (.func 28)) #[(.tmp 268), (.tmp 269), (.tmp 270)] #[3, 30, 22])), none⟩,
   ⟨(some 267), (.move (.tmp 271)), none⟩,
   ⟨(some 272), (.extract (.tmp 267) 0), none⟩,
   ⟨(some 273), (.extract (.tmp 267) 1), none⟩,
   ⟨(some 39), (.assign (.tmp 272)), none⟩,
   ⟨(some 40), (.assign (.tmp 273)), none⟩])
 (.seq (.reg [⟨(some 274), (.move (.tmp 37)), none⟩,
   ⟨(some 275), (.move (.tmp 39)), none⟩,
   ⟨(some 276), (.binOp .neq 3 (.tmp 274) (.tmp 275) 3), none⟩,
   ⟨(some 277), (.move (.tmp 276)), none⟩,
   ⟨(some 278), (.move (.tmp 38)), (some (277, false))⟩,
   ⟨(some 279), (.move (.tmp 40)), (some (277, false))⟩,
   ⟨(some 280), (.binOp .neq 4 (.tmp 278) (.tmp 279) 4), (some (277, false))⟩,
   ⟨(some 281), (.pick (.tmp 277) (.const (.bool true)) (.tmp 280)), none⟩,
   ⟨(some 282), (.move (.tmp 281)), none⟩,
   ⟨(some 283), (.move (.tmp 38)), (some (282, false))⟩,
   ⟨(some 284), (.move (.tmp 33)), (some (282, false))⟩,
   ⟨(some 285), (.binOp .neq 4 (.tmp 283) (.tmp 284) 4), (some (282, false))⟩,
   ⟨(some 286), (.pick (.tmp 282) (.const (.bool true)) (.tmp 285)), none⟩])
 (.cond (.tmp 286) (.seq (.reg [⟨(some 2), (.assign (.const (.bool false))), none⟩])
 .ret) .skip)))
 (.seq (.reg [⟨(some 287), (.move (.tmp 0)), none⟩,
   ⟨(some 288), (.call (.mk (.value (.func 29)) #[(.tmp 287)] #[28])), none⟩,
   ⟨(some 41), (.assign (.tmp 288)), none⟩])
 (.seq (.reg [⟨(some 290), (.move (.tmp 41)), none⟩,
   ⟨(some 291), (.call (.mk (.value (.func 7)) #[(.tmp 290)] #[22])), none⟩,
   ⟨(some 289), (.move (.tmp 291)), none⟩,
   ⟨(some 292), (.extract (.tmp 289) 0), none⟩,
   ⟨(some 293), (.extract (.tmp 289) 1), none⟩,
   ⟨(some 42), (.assign (.tmp 292)), none⟩,
   ⟨(some 43), (.assign (.tmp 293)), none⟩])
 (.seq (.reg [⟨(some 295), (.move (.tmp 41)), none⟩,
   ⟨(some 296), (.call (.mk (.value (.func 5)) #[(.tmp 295)] #[22])), none⟩,
   ⟨(some 294), (.move (.tmp 296)), none⟩,
   ⟨(some 297), (.extract (.tmp 294) 0), none⟩,
   ⟨(some 298), (.extract (.tmp 294) 1), none⟩,
   ⟨(some 44), (.assign (.tmp 297)), none⟩,
   ⟨(some 45), (.assign (.tmp 298)), none⟩])
 (.seq (.reg [⟨(some 299), (.move (.tmp 42)), none⟩,
   ⟨(some 300), (.move (.tmp 44)), none⟩,
   ⟨(some 301), (.binOp .eql 9 (.tmp 299) (.tmp 300) 9), none⟩,
   ⟨(some 302), (.move (.tmp 301)), none⟩,
   ⟨(some 303), (.move (.tmp 43)), (some (302, true))⟩,
   ⟨(some 304), (.move (.tmp 45)), (some (302, true))⟩,
   ⟨(some 305), (.binOp .eql 4 (.tmp 303) (.tmp 304) 4), (some (302, true))⟩,
   ⟨(some 306), (.pick (.tmp 302) (.tmp 305) (.const (.bool false))), none⟩,
   ⟨(some 2), (.assign (.tmp 306)), none⟩])
 .ret))))))))))))))))))))))
theorem x_laws_FnCircles : Txt Tryd.prog 4 c_laws_FnCircles [.tmp 2] 1 := ⟨by kernel_rfl, by kernel_rfl, _, _, Tryd.func4, rfl, by kernel_rfl, by kernel_rfl, by kernel_rfl, rfl, by decide⟩
/-- loop.example/g01062/spec.CircleText -/
def c_spec_CircleText : Cd :=
 (.seq (.reg [⟨(some 2), (.assign (.const (.string (ByteArray.mk #[])))), none⟩,
   ⟨(some 3), (.assign (.const (.bool false))), none⟩])
 (.seq (.seq (.reg [⟨(some 6), (.move (.tmp 0)), none⟩,
   ⟨(some 7), (.call (.mk (.value (.func 30)) #[(.const (.int .i64 8)), (.tmp 6)] #[3, 22])), none⟩,
   ⟨(some 8), (.unOp .not 4 (.tmp 7)), none⟩])
 (.cond (.tmp 8) (.seq (.reg [⟨(some 2), (.assign (.const (.string (ByteArray.mk #[])))), none⟩,
   ⟨(some 3), (.assign (.const (.bool false))), none⟩])
 .ret) .skip))
 (.seq (.reg [⟨(some 4), (.assign (.const (.string (ByteArray.mk #[])))), none⟩])
 (.seq (.seq (.reg [⟨(some 5), (.assign (.const (.int .i64 0))), none⟩])
 (.block 0 (.loop (.seq (.seq (.reg [⟨(some 9), (.move (.tmp 5)), none⟩,
   ⟨(some 10), (.move (.tmp 0)), none⟩,
   ⟨(some 11), (.call (.mk (.builtin .len) #[(.tmp 10)] #[22])), none⟩,
   ⟨(some 12), (.binOp .lss 3 (.tmp 9) (.tmp 11) 3), none⟩])
 (.cond (.tmp 12) .skip (.exit 0)))
 (.seq (.block 1 (.reg [⟨(some 15), (.move (.tmp 4)), none⟩,
   ⟨(some 16), (.move (.tmp 0)), none⟩,
   ⟨(some 17), (.move (.tmp 5)), none⟩,
   ⟨(some 18), (.indexAddr 22 (.tmp 16) (.tmp 17)), none⟩,
   ⟨(some 19), (.load 3 (.tmp 18)), none⟩,
   ⟨(some 20), (.call (.mk (.value (.func 31)) #[(.tmp 19)] #[3])), none⟩,
   ⟨(some 21), (.binOp .add 9 (.tmp 15) (.tmp 20) 9), none⟩,
   ⟨(some 22), (.binOp .add 9 (.tmp 21) (.const (.string (ByteArray.mk #[62]))) 9), none⟩,
   ⟨(some 4), (.assign (.tmp 22)), none⟩]))
 (.reg [⟨(some 13), (.move (.tmp 5)), none⟩,
   ⟨(some 14), (.binOp .add 3 (.tmp 13) (.const (.int .i64 1)) 3), none⟩,
   ⟨(some 5), (.assign (.tmp 14)), none⟩]))))))
 (.seq (.reg [⟨(some 23), (.move (.tmp 4)), none⟩,
   ⟨(some 24), (.move (.tmp 0)), none⟩,
   ⟨(some 25), (.indexAddr 22 (.tmp 24) (.const (.int .i64 0))), none⟩,
   ⟨(some 26), (.load 3 (.tmp 25)), none⟩,
   ⟨(some 27), (.call (.mk (.value (.func 31)) #[(.tmp 26)] #[3])), none⟩,
   ⟨(some 28), (.binOp .add 9 (.tmp 23) (.tmp 27) 9), none⟩,
   ⟨(some 2), (.assign (.tmp 28)), none⟩,
   ⟨(some 3), (.assign (.const (.bool true))), none⟩])
 .ret)))))
theorem x_spec_CircleText : Txt Tryd.prog 5 c_spec_CircleText [.tmp 2, .tmp 3] 1 := ⟨by kernel_rfl, by kernel_rfl, _, _, Tryd.func5, rfl, by kernel_rfl, by kernel_rfl, by kernel_rfl, rfl, by decide⟩
/-- loop.example/g01062/impl.CircleText -/
def c_impl_CircleText : Cd :=
 (.seq (.reg [⟨(some 2), (.assign (.const (.string (ByteArray.mk #[])))), none⟩,
   ⟨(some 3), (.assign (.const (.bool false))), none⟩])
 (.seq (.seq (.reg [⟨(some 4), (.move (.tmp 0)), none⟩,
   ⟨(some 5), (.call (.mk (.value (.func 32)) #[(.const (.int .i64 8)), (.tmp 4)] #[3, 22])), none⟩,
   ⟨(some 6), (.unOp .not 4 (.tmp 5)), none⟩])
 (.cond (.tmp 6) (.seq (.reg [⟨(some 2), (.assign (.const (.string (ByteArray.mk #[])))), none⟩,
   ⟨(some 3), (.assign (.const (.bool false))), none⟩])
 .ret) .skip))
 (.seq (.regq [⟨(some 7), (.move (.tmp 0)), none⟩,
   ⟨(some 8), (.call (.mk (.value (.func 33)) #[(.tmp 7), (.const (.string (ByteArray.mk #[62])))] #[22, 9])), none⟩,
   ⟨(some 9), (.binOp .add 9 (.tmp 8) (.const (.string (ByteArray.mk #[62]))) 9), none⟩,
   ⟨(some 10), (.move (.tmp 0)), none⟩,
   ⟨(some 11), (.indexAddr 22 (.tmp 10) (.const (.int .i64 0))), none⟩,
   ⟨(some 12), (.load 3 (.tmp 11)), none⟩,
   ⟨(some 13), (.call (.mk (.value (.func 34)) #[(.tmp 12)] #[3])), none⟩,
   ⟨(some 14), (.binOp .add 9 (.tmp 9) (.tmp 13) 9), none⟩,
   ⟨(some 2), (.assign (.tmp 14)), none⟩,
   ⟨(some 3), (.assign (.const (.bool true))), none⟩])
 .ret)))
theorem x_impl_CircleText : Txt Tryd.prog 7 c_impl_CircleText [.tmp 2, .tmp 3] 1 := ⟨by kernel_rfl, by kernel_rfl, _, _, Tryd.func7, rfl, by kernel_rfl, by kernel_rfl, by kernel_rfl, rfl, by decide⟩
/-- loop.example/g01062/laws.vBig -/
def c_laws_vBig : Cd :=
 (.seq (.reg [⟨(some 2), (.assign (.const (.bool false))), none⟩])
 (.seq (.reg [⟨(some 3), (.move (.tmp 0)), none⟩,
   ⟨(some 4), (.call (.mk (.builtin .len) #[(.tmp 3)] #[28])), none⟩,
   ⟨(some 5), (.binOp .gtr 3 (.tmp 4) (.const (.int .i64 65536)) 3), none⟩,
   ⟨(some 2), (.assign (.tmp 5)), none⟩])
 .ret))
theorem x_laws_vBig : Txt Tryd.prog 9 c_laws_vBig [.tmp 2] 1 := ⟨by kernel_rfl, by kernel_rfl, _, _, Tryd.func9, rfl, by kernel_rfl, by kernel_rfl, by kernel_rfl, rfl, by decide⟩
/-- loop.example/g01062/spec.DrawCirclesOf -/
def c_spec_DrawCirclesOf : Cd :=
 (.seq (.reg [⟨(some 2), (.assign (.const (.int .i64 0))), none⟩,
   ⟨(some 3), (.assign (.const (.slice none 0 0))), none⟩,
   ⟨(some 4), (.assign (.const (.int .i64 0))), none⟩])
 (.seq (.reg [⟨(some 8), (.move (.tmp 0)), none⟩,
   ⟨(some 9), (.build 56 #[(0, (.tmp 8))]), none⟩,
   ⟨(some 10), (.box 56 (.tmp 9)), none⟩,
   ⟨(some 5), (.assign (.tmp 10)), none⟩])
 (.seq (.reg [⟨(some 12), (.move (.tmp 5)), none⟩,
   ⟨(some 13), (.call (.mk (.value (.func 35)) #[(.tmp 12)] #[53])), none⟩,
   ⟨(some 11), (.move (.tmp 13)), none⟩,
   ⟨(some 14), (.extract (.tmp 11) 0), none⟩,
   ⟨(some 15), (.extract (.tmp 11) 1), none⟩,
   ⟨(some 6), (.assign (.tmp 14)), none⟩,
   ⟨(some 7), (.assign (.tmp 15)), none⟩])
 (.seq (.reg [⟨(some 16), (.move (.tmp 6)), none⟩,
   ⟨(some 17), (.move (.tmp 7)), none⟩,
   ⟨(some 18), (.move (.tmp 5)), none⟩,
   ⟨(some 19), (.call (.mk (.value (.func 36)) #[(.tmp 18), (.const (.int .i64 5))] #[53, 3])), none⟩,
   ⟨(some 20), (.move (.tmp 5)), none⟩,
   ⟨(some 21), (.call (.mk (.value (.func 36)) #[(.tmp 20), (.const (.int .i64 17))] #[53, 3])), none⟩,
   ⟨(some 22), (.binOp .quo 3 (.tmp 21) (.const (.int .i64 16)) 3), none⟩,
   ⟨(some 23), (.binOp .sub 3 (.tmp 19) (.tmp 22) 3), none⟩,
   ⟨(some 2), (.assign (.tmp 16)), none⟩,
   ⟨(some 3), (.assign (.tmp 17)), none⟩,
   ⟨(some 4), (.assign (.tmp 23)), none⟩])
 .ret))))
theorem x_spec_DrawCirclesOf : Txt Tryd.prog 10 c_spec_DrawCirclesOf [.tmp 2, .tmp 3, .tmp 4] 1 := ⟨by kernel_rfl, by kernel_rfl, _, _, Tryd.func10, rfl, by kernel_rfl, by kernel_rfl, by kernel_rfl, rfl, by decide⟩
/-- loop.example/g01062/impl.CirclesOf -/
def c_impl_CirclesOf : Cd :=
 (.seq (.reg [⟨(some 6), (.assign (.const (.slice none 0 0))), none⟩,
   ⟨(some 7), (.assign (.const (.bool false))), none⟩])
 (.seq (.seq (.reg [⟨(some 9), (.move (.tmp 0)), none⟩,
   ⟨(some 10), (.move (.tmp 1)), none⟩,
   ⟨(some 11), (.call (.mk (.value (.func 37)) #[(.tmp 9), (.tmp 10)] #[3, 30])), none⟩,
   ⟨(some 12), (.unOp .not 4 (.tmp 11)), none⟩,
   ⟨(some 13), (.move (.tmp 12)), none⟩,
   ⟨(some 14), (.move (.tmp 2)), (some (13, false))⟩,
   ⟨(some 15), (.move (.tmp 0)), (some (13, false))⟩,
   ⟨(some 16), (.binOp .sub 3 (.tmp 15) (.const (.int .i64 1)) 3), (some (13, false))⟩,
   ⟨(some 17), (.call (.mk (.value (.func 38)) #[(.tmp 14), (.const (.int .i64 0)), (.tmp 16)] #[3, 3, 3])), (some (13, false))⟩,
   ⟨(some 18), (.unOp .not 4 (.tmp 17)), (some (13, false))⟩,
   ⟨(some 19), (.pick (.tmp 13) (.const (.bool true)) (.tmp 18)), none⟩])
 (.cond (.tmp 19) (.seq (.reg [⟨(some 6), (.assign (.const (.slice none 0 0))), none⟩,
   ⟨(some 7), (.assign (.const (.bool false))), none⟩])
 .ret) .skip))
 (.seq (.reg [⟨(some 20), (.move (.tmp 0)), none⟩,
   ⟨(some 21), (.move (.tmp 1)), none⟩,
   ⟨(some 22), (.move (.tmp 2)), none⟩,
   ⟨(some 23), (.call (.mk (.value (.func 39)) #[(.tmp 20), (.tmp 21), (.tmp 22)] #[3, 30, 3])), none⟩,
   ⟨(some 8), (.assign (.tmp 23)), none⟩])
 (.seq (.seq (.reg [⟨(some 24), (.move (.tmp 8)), none⟩,
   ⟨(some 25), (.call (.mk (.builtin .len) #[(.tmp 24)] #[33])), none⟩,
   ⟨(some 26), (.binOp .gtr 3 (.tmp 25) (.const (.int .i64 200)) 3), none⟩])
 (.cond (.tmp 26) (.seq (.reg [⟨(some 6), (.assign (.const (.slice none 0 0))), none⟩,
   ⟨(some 7), (.assign (.const (.bool false))), none⟩])
 .ret) .skip))
 (.seq (.reg [⟨(some 27), (.move (.tmp 8)), none⟩,
   ⟨(some 6), (.assign (.tmp 27)), none⟩,
   ⟨(some 7), (.assign (.const (.bool true))), none⟩])
 .ret)))))
theorem x_impl_CirclesOf : Txt Tryd.prog 11 c_impl_CirclesOf [.tmp 6, .tmp 7] 3 := ⟨by kernel_rfl, by kernel_rfl, _, _, Tryd.func11, rfl, by kernel_rfl, by kernel_rfl, by kernel_rfl, rfl, by decide⟩
/-- loop.example/g01062/spec.CirclesOf -/
def c_spec_CirclesOf : Cd :=
 (.seq (.reg [⟨(some 6), (.assign (.const (.slice none 0 0))), none⟩,
   ⟨(some 7), (.assign (.const (.bool false))), none⟩])
 (.seq (.seq (.reg [⟨(some 9), (.move (.tmp 0)), none⟩,
   ⟨(some 10), (.move (.tmp 1)), none⟩,
   ⟨(some 11), (.call (.mk (.value (.func 40)) #[(.tmp 9), (.tmp 10)] #[3, 30])), none⟩,
   ⟨(some 12), (.unOp .not 4 (.tmp 11)), none⟩,
   ⟨(some 13), (.move (.tmp 12)), none⟩,
   ⟨(some 14), (.move (.tmp 0)), (some (13, false))⟩,
   ⟨(some 15), (.move (.tmp 2)), (some (13, false))⟩,
   ⟨(some 16), (.call (.mk (.value (.func 41)) #[(.tmp 14), (.tmp 15)] #[3, 3])), (some (13, false))⟩,
   ⟨(some 17), (.unOp .not 4 (.tmp 16)), (some (13, false))⟩,
   ⟨(some 18), (.pick (.tmp 13) (.const (.bool true)) (.tmp 17)), none⟩])
 (.cond (.tmp 18) (.seq (.reg [⟨(some 19), (.buildSlice 33 0 #[]), none⟩,
   ⟨(some 6), (.assign (.tmp 19)), none⟩,
   ⟨(some 7), (.assign (.const (.bool false))), none⟩])
 .ret) .skip))
 (.seq (.reg [⟨(some 20), (.move (.tmp 0)), none⟩,
   ⟨(some 21), (.move (.tmp 1)), none⟩,
   ⟨(some 22), (.move (.tmp 2)), none⟩,
   ⟨(some 23), (.buildSlice 22 1 #[(0, (.tmp 22))]), none⟩,
   ⟨(some 24), (.call (.mk (.value (.func 42)) #[(.tmp 20), (.tmp 21), (.tmp 23), (.const (.int .i64 201))] #[3, 30, 22, 3])), none⟩,
   ⟨(some 8), (.assign (.tmp 24)), none⟩])
 (.seq (.seq (.reg [⟨(some 25), (.move (.tmp 8)), none⟩,
   ⟨(some 26), (.call (.mk (.builtin .len) #[(.tmp 25)] #[33])), none⟩,
   ⟨(some 27), (.binOp .gtr 3 (.tmp 26) (.const (.int .i64 200)) 3), none⟩])
 (.cond (.tmp 27) (.seq (.reg [⟨(some 28), (.buildSlice 33 0 #[]), none⟩,
   ⟨(some 6), (.assign (.tmp 28)), none⟩,
   ⟨(some 7), (.assign (.const (.bool false))), none⟩])
 .ret) .skip))
 (.seq (.reg [⟨(some 29), (.move (.tmp 8)), none⟩,
   ⟨(some 6), (.assign (.tmp 29)), none⟩,
   ⟨(some 7), (.assign (.const (.bool true))), none⟩])
 .ret)))))
theorem x_spec_CirclesOf : Txt Tryd.prog 12 c_spec_CirclesOf [.tmp 6, .tmp 7] 3 := ⟨by kernel_rfl, by kernel_rfl, _, _, Tryd.func12, rfl, by kernel_rfl, by kernel_rfl, by kernel_rfl, rfl, by decide⟩
/-- loop.example/g01062/laws.vGrid -/
def c_laws_vGrid : Cd :=
 (.seq (.reg [⟨(some 4), (.assign (.const (.bool false))), none⟩])
 (.seq (.seq (.reg [⟨(some 6), (.move (.tmp 0)), none⟩,
   ⟨(some 7), (.call (.mk (.builtin .len) #[(.tmp 6)] #[33])), none⟩,
   ⟨(some 8), (.move (.tmp 1)), none⟩,
   ⟨(some 9), (.call (.mk (.builtin .len) #[(.tmp 8)] #[33])), none⟩,
   ⟨(some 10), (.binOp .neq 3 (.tmp 7) (.tmp 9) 3), none⟩])
 (.cond (.tmp 10) (.seq (.reg [⟨(some 4), (.assign (.const (.bool false))), none⟩])
 .ret) .skip))
 (.seq (.seq (.reg [⟨(some 5), (.assign (.const (.int .i64 0))), none⟩])
 (.block 0 (.loop (.seq (.seq (.reg [⟨(some 11), (.move (.tmp 5)), none⟩,
   ⟨(some 12), (.move (.tmp 0)), none⟩,
   ⟨(some 13), (.call (.mk (.builtin .len) #[(.tmp 12)] #[33])), none⟩,
   ⟨(some 14), (.binOp .lss 3 (.tmp 11) (.tmp 13) 3), none⟩])
 (.cond (.tmp 14) .skip (.exit 0)))
 (.seq (.block 1 (.seq (.regq [⟨(some 17), (.move (.tmp 0)), none⟩,
   ⟨(some 18), (.move (.tmp 5)), none⟩,
   ⟨(some 19), (.indexAddr 33 (.tmp 17) (.tmp 18)), none⟩,
   ⟨(some 20), (.load 22 (.tmp 19)), none⟩,
   ⟨(some 21), (.move (.tmp 1)), none⟩,
   ⟨(some 22), (.move (.tmp 5)), none⟩,
   ⟨(some 23), (.indexAddr 33 (.tmp 21) (.tmp 22)), none⟩,
   ⟨(some 24), (.load 22 (.tmp 23)), none⟩,
   ⟨(some 25), (.call (.mk (.value (.func 20)) #[(.tmp 20), (.tmp 24)] #[22, 22])), none⟩,
   ⟨(some 26), (.unOp .not 4 (.tmp 25)), none⟩])
 (.cond (.tmp 26) (.seq (.reg [⟨(some 4), (.assign (.const (.bool false))), none⟩])
 .ret) .skip)))
 (.reg [⟨(some 15), (.move (.tmp 5)), none⟩,
   ⟨(some 16), (.binOp .add 3 (.tmp 15) (.const (.int .i64 1)) 3), none⟩,
   ⟨(some 5), (.assign (.tmp 16)), none⟩]))))))
 (.seq (.reg [⟨(some 4), (.assign (.const (.bool true))), none⟩])
 .ret))))
theorem x_laws_vGrid : Txt Tryd.prog 13 c_laws_vGrid [.tmp 4] 2 := ⟨by kernel_rfl, by kernel_rfl, _, _, Tryd.func13, rfl, by kernel_rfl, by kernel_rfl, by kernel_rfl, rfl, by decide⟩
/-- loop.example/g01062/impl.AreWishes -/
def c_impl_AreWishes : Cd :=
 (.seq (.reg [⟨(some 4), (.assign (.const (.bool false))), none⟩])
 (.seq (.reg [⟨(some 5), (.move (.tmp 0)), none⟩,
   ⟨(some 6), (.move (.tmp 1)), none⟩,
   ⟨(some 7), (.call (.mk (.value (.func 37)) #[(.tmp 5), (.tmp 6)] #[3, 30])), none⟩,
   ⟨(some 4), (.assign (.tmp 7)), none⟩])
 .ret))
theorem x_impl_AreWishes : Txt Tryd.prog 14 c_impl_AreWishes [.tmp 4] 2 := ⟨by kernel_rfl, by kernel_rfl, _, _, Tryd.func14, rfl, by kernel_rfl, by kernel_rfl, by kernel_rfl, rfl, by decide⟩
/-- loop.example/g01062/spec.AreWishes -/
def c_spec_AreWishes : Cd :=
 (.seq (.reg [⟨(some 4), (.assign (.const (.bool false))), none⟩])
 (.seq (.reg [⟨(some 5), (.move (.tmp 0)), none⟩,
   ⟨(some 6), (.move (.tmp 1)), none⟩,
   ⟨(some 7), (.call (.mk (.value (.func 40)) #[(.tmp 5), (.tmp 6)] #[3, 30])), none⟩,
   ⟨(some 4), (.assign (.tmp 7)), none⟩])
 .ret))
theorem x_spec_AreWishes : Txt Tryd.prog 15 c_spec_AreWishes [.tmp 4] 2 := ⟨by kernel_rfl, by kernel_rfl, _, _, Tryd.func15, rfl, by kernel_rfl, by kernel_rfl, by kernel_rfl, rfl, by decide⟩
/-- loop.example/g01062/impl.IsCircle -/
def c_impl_IsCircle : Cd :=
 (.seq (.reg [⟨(some 6), (.assign (.const (.bool false))), none⟩,
   ⟨(some 7), (.assign (.const (.bool false))), none⟩])
 (.seq (.seq (.reg [⟨(some 8), (.move (.tmp 0)), none⟩,
   ⟨(some 9), (.move (.tmp 1)), none⟩,
   ⟨(some 10), (.call (.mk (.value (.func 37)) #[(.tmp 8), (.tmp 9)] #[3, 30])), none⟩,
   ⟨(some 11), (.unOp .not 4 (.tmp 10)), none⟩])
 (.cond (.tmp 11) (.seq (.reg [⟨(some 6), (.assign (.const (.bool false))), none⟩,
   ⟨(some 7), (.assign (.const (.bool false))), none⟩])
 .ret) .skip))
 (.seq (.reg [⟨(some 12), (.move (.tmp 0)), none⟩,
   ⟨(some 13), (.move (.tmp 1)), none⟩,
   ⟨(some 14), (.move (.tmp 2)), none⟩,
   ⟨(some 15), (.call (.mk (.value (.func 43)) #[(.tmp 12), (.tmp 13), (.tmp 14)] #[3, 30, 22])), none⟩,
   ⟨(some 6), (.assign (.tmp 15)), none⟩,
   ⟨(some 7), (.assign (.const (.bool true))), none⟩])
 .ret)))
theorem x_impl_IsCircle : Txt Tryd.prog 16 c_impl_IsCircle [.tmp 6, .tmp 7] 3 := ⟨by kernel_rfl, by kernel_rfl, _, _, Tryd.func16, rfl, by kernel_rfl, by kernel_rfl, by kernel_rfl, rfl, by decide⟩
/-- loop.example/g01062/impl.GainOf -/
def c_impl_GainOf : Cd :=
 (.seq (.reg [⟨(some 6), (.assign (.const (.int .i64 0))), none⟩,
   ⟨(some 7), (.assign (.const (.bool false))), none⟩])
 (.seq (.seq (.reg [⟨(some 8), (.move (.tmp 0)), none⟩,
   ⟨(some 9), (.move (.tmp 1)), none⟩,
   ⟨(some 10), (.call (.mk (.value (.func 37)) #[(.tmp 8), (.tmp 9)] #[3, 30])), none⟩,
   ⟨(some 11), (.unOp .not 4 (.tmp 10)), none⟩,
   ⟨(some 12), (.move (.tmp 11)), none⟩,
   ⟨(some 13), (.move (.tmp 0)), (some (12, false))⟩,
   ⟨(some 14), (.move (.tmp 1)), (some (12, false))⟩,
   ⟨(some 15), (.move (.tmp 2)), (some (12, false))⟩,
   ⟨(some 16), (.call (.mk (.value (.func 43)) #[(.tmp 13), (.tmp 14), (.tmp 15)] #[3, 30, 22])), (some (12, false))⟩,
   ⟨(some 17), (.unOp .not 4 (.tmp 16)), (some (12, false))⟩,
   ⟨(some 18), (.pick (.tmp 12) (.const (.bool true)) (.tmp 17)), none⟩])
 (.cond (.tmp 18) (.seq (.reg [⟨(some 6), (.assign (.const (.int .i64 0))), none⟩,
   ⟨(some 7), (.assign (.const (.bool false))), none⟩])
 .ret) .skip))
 (.seq (.reg [⟨(some 19), (.move (.tmp 1)), none⟩,
   ⟨(some 20), (.move (.tmp 2)), none⟩,
   ⟨(some 21), (.call (.mk (.value (.func 44)) #[(.tmp 19), (.tmp 20)] #[30, 22])), none⟩,
   ⟨(some 6), (.assign (.tmp 21)), none⟩,
   ⟨(some 7), (.assign (.const (.bool true))), none⟩])
 .ret)))
theorem x_impl_GainOf : Txt Tryd.prog 17 c_impl_GainOf [.tmp 6, .tmp 7] 3 := ⟨by kernel_rfl, by kernel_rfl, _, _, Tryd.func17, rfl, by kernel_rfl, by kernel_rfl, by kernel_rfl, rfl, by decide⟩
/-- loop.example/g01062/impl.ShortestCircle -/
def c_impl_ShortestCircle : Cd :=
 (.seq (.reg [⟨(some 4), (.assign (.const (.slice none 0 0))), none⟩,
   ⟨(some 5), (.assign (.const (.bool false))), none⟩])
 (.seq (.seq (.reg [⟨(some 9), (.move (.tmp 0)), none⟩,
   ⟨(some 10), (.move (.tmp 1)), none⟩,
   ⟨(some 11), (.call (.mk (.value (.func 37)) #[(.tmp 9), (.tmp 10)] #[3, 30])), none⟩,
   ⟨(some 12), (.unOp .not 4 (.tmp 11)), none⟩])
 (.cond (.tmp 12) (.seq (.reg [⟨(some 4), (.assign (.const (.slice none 0 0))), none⟩,
   ⟨(some 5), (.assign (.const (.bool false))), none⟩])
 .ret) .skip))
 (.seq (.reg [⟨(some 6), (.assign (.const (.slice none 0 0))), none⟩])
 (.seq (.seq (.reg [⟨(some 13), (.move (.tmp 0)), none⟩,
   ⟨(some 14), (.move (.tmp 1)), none⟩,
   ⟨(some 15), (.call (.mk (.value (.func 45)) #[(.tmp 13), (.tmp 14)] #[3, 30])), none⟩,
   ⟨(some 16), (.call (.mk (.builtin .len) #[(.tmp 15)] #[33])), none⟩,
   ⟨(some 17), (.move (.const (.int .i64 0))), none⟩])
 (.block 0 (.loop (.seq (.reg [⟨(some 18), (.binOp .lss 3 (.tmp 17) (.tmp 16) 3), none⟩])
 (.seq (.cond (.tmp 18) .skip (.exit 0))
 (.seq (.block 1 (.seq (.reg [⟨(some 19), (.indexAddr 33 (.tmp 15) (.tmp 17)), none⟩,
   ⟨(some 20), (.load 22 (.tmp 19)), none⟩,
   ⟨(some 8), (.assign (.tmp 20)), none⟩])
 (.seq (.reg [⟨(some 21), (.move (.tmp 6)), none⟩,
   ⟨(some 22), (.binOp .eql 22 (.tmp 21) (.const (.slice none 0 0)) 22), none⟩,
   ⟨(some 23), (.move (.tmp 22)), none⟩,
   ⟨(some 24), (.move (.tmp 8)), (some (23, false))⟩,
   ⟨(some 25), (.call (.mk (.builtin .len) #[(.tmp 24)] #[22])), (some (23, false))⟩,
   ⟨(some 26), (.move (.tmp 6)), (some (23, false))⟩,
   ⟨(some 27), (.call (.mk (.builtin .len) #[(.tmp 26)] #[22])), (some (23, false))⟩,
   ⟨(some 28), (.binOp .lss 3 (.tmp 25) (.tmp 27) 3), (some (23, false))⟩,
   ⟨(some 29), (.pick (.tmp 23) (.const (.bool true)) (.tmp 28)), none⟩])
 (.cond (.tmp 29) (.reg [⟨(some 30), (.move (.tmp 8)), none⟩,
   ⟨(some 6), (.assign (.tmp 30)), none⟩]) .skip))))
 (.reg [⟨(some 31), (.binOp .add 3 (.tmp 17) (.const (.int .i64 1)) 3), none⟩,
   ⟨(some 17), (.move (.tmp 31)), none⟩])))))))
 (.seq (.reg [⟨(some 32), (.move (.tmp 6)), none⟩,
   ⟨(some 33), (.move (.tmp 6)), none⟩,
   ⟨(some 34), (.binOp .neq 22 (.tmp 33) (.const (.slice none 0 0)) 22), none⟩,
   ⟨(some 4), (.assign (.tmp 32)), none⟩,
   ⟨(some 5), (.assign (.tmp 34)), none⟩])
 .ret)))))
theorem x_impl_ShortestCircle : Txt Tryd.prog 18 c_impl_ShortestCircle [.tmp 4, .tmp 5] 2 := ⟨by kernel_rfl, by kernel_rfl, _, _, Tryd.func18, rfl, by kernel_rfl, by kernel_rfl, by kernel_rfl, rfl, by decide⟩
/-- loop.example/g01062/spec.ShortestCircle -/
def c_spec_ShortestCircle : Cd :=
 (.seq (.reg [⟨(some 4), (.assign (.const (.slice none 0 0))), none⟩,
   ⟨(some 5), (.assign (.const (.bool false))), none⟩])
 (.seq (.seq (.reg [⟨(some 9), (.move (.tmp 0)), none⟩,
   ⟨(some 10), (.move (.tmp 1)), none⟩,
   ⟨(some 11), (.call (.mk (.value (.func 40)) #[(.tmp 9), (.tmp 10)] #[3, 30])), none⟩,
   ⟨(some 12), (.unOp .not 4 (.tmp 11)), none⟩])
 (.cond (.tmp 12) (.seq (.reg [⟨(some 13), (.buildSlice 22 0 #[]), none⟩,
   ⟨(some 4), (.assign (.tmp 13)), none⟩,
   ⟨(some 5), (.assign (.const (.bool false))), none⟩])
 .ret) .skip))
 (.seq (.reg [⟨(some 14), (.move (.tmp 0)), none⟩,
   ⟨(some 15), (.move (.tmp 1)), none⟩,
   ⟨(some 16), (.call (.mk (.value (.func 46)) #[(.tmp 14), (.tmp 15)] #[3, 30])), none⟩,
   ⟨(some 17), (.buildSlice 22 0 #[]), none⟩,
   ⟨(some 6), (.assign (.tmp 16)), none⟩,
   ⟨(some 7), (.assign (.tmp 17)), none⟩])
 (.seq (.seq (.reg [⟨(some 8), (.assign (.const (.int .i64 0))), none⟩])
 (.block 0 (.loop (.seq (.seq (.reg [⟨(some 18), (.move (.tmp 8)), none⟩,
   ⟨(some 19), (.move (.tmp 6)), none⟩,
   ⟨(some 20), (.call (.mk (.builtin .len) #[(.tmp 19)] #[33])), none⟩,
   ⟨(some 21), (.binOp .lss 3 (.tmp 18) (.tmp 20) 3), none⟩])
 (.cond (.tmp 21) .skip (.exit 0)))
 (.seq (.block 1 (.seq (.reg [⟨(some 24), (.move (.tmp 7)), none⟩,
   ⟨(some 25), (.call (.mk (.builtin .len) #[(.tmp 24)] #[22])), none⟩,
   ⟨(some 26), (.binOp .eql 3 (.tmp 25) (.const (.int .i64 0)) 3), none⟩,
   ⟨(some 27), (.move (.tmp 26)), none⟩,
   ⟨(some 28), (.move (.tmp 6)), (some (27, false))⟩,
   ⟨(some 29), (.move (.tmp 8)), (some (27, false))⟩,
   ⟨(some 30), (.indexAddr 33 (.tmp 28) (.tmp 29)), (some (27, false))⟩,
   ⟨(some 31), (.load 22 (.tmp 30)), (some (27, false))⟩,
   ⟨(some 32), (.call (.mk (.builtin .len) #[(.tmp 31)] #[22])), (some (27, false))⟩,
   ⟨(some 33), (.move (.tmp 7)), (some (27, false))⟩,
   ⟨(some 34), (.call (.mk (.builtin .len) #[(.tmp 33)] #[22])), (some (27, false))⟩,
   ⟨(some 35), (.binOp .lss 3 (.tmp 32) (.tmp 34) 3), (some (27, false))⟩,
   ⟨(some 36), (.pick (.tmp 27) (.const (.bool true)) (.tmp 35)), none⟩])
 (.cond (.tmp 36) (.reg [⟨(some 37), (.move (.tmp 6)), none⟩,
   ⟨(some 38), (.move (.tmp 8)), none⟩,
   ⟨(some 39), (.indexAddr 33 (.tmp 37) (.tmp 38)), none⟩,
   ⟨(some 40), (.load 22 (.tmp 39)), none⟩,
   ⟨(some 7), (.assign (.tmp 40)), none⟩]) .skip)))
 (.reg [⟨(some 22), (.move (.tmp 8)), none⟩,
   ⟨(some 23), (.binOp .add 3 (.tmp 22) (.const (.int .i64 1)) 3), none⟩,
   ⟨(some 8), (.assign (.tmp 23)), none⟩]))))))
 (.seq (.reg [⟨(some 41), (.move (.tmp 7)), none⟩,
   ⟨(some 42), (.move (.tmp 7)), none⟩,
   ⟨(some 43), (.call (.mk (.builtin .len) #[(.tmp 42)] #[22])), none⟩,
   ⟨(some 44), (.binOp .gtr 3 (.tmp 43) (.const (.int .i64 0)) 3), none⟩,
   ⟨(some 4), (.assign (.tmp 41)), none⟩,
   ⟨(some 5), (.assign (.tmp 44)), none⟩])
 .ret)))))
theorem x_spec_ShortestCircle : Txt Tryd.prog 19 c_spec_ShortestCircle [.tmp 4, .tmp 5] 2 := ⟨by kernel_rfl, by kernel_rfl, _, _, Tryd.func19, rfl, by kernel_rfl, by kernel_rfl, by kernel_rfl, rfl, by decide⟩
/-- loop.example/g01062/laws.vInts -/
def c_laws_vInts : Cd :=
 (.seq (.reg [⟨(some 4), (.assign (.const (.bool false))), none⟩])
 (.seq (.seq (.reg [⟨(some 6), (.move (.tmp 0)), none⟩,
   ⟨(some 7), (.call (.mk (.builtin .len) #[(.tmp 6)] #[22])), none⟩,
   ⟨(some 8), (.move (.tmp 1)), none⟩,
   ⟨(some 9), (.call (.mk (.builtin .len) #[(.tmp 8)] #[22])), none⟩,
   ⟨(some 10), (.binOp .neq 3 (.tmp 7) (.tmp 9) 3), none⟩])
 (.cond (.tmp 10) (.seq (.reg [⟨(some 4), (.assign (.const (.bool false))), none⟩])
 .ret) .skip))
 (.seq (.seq (.reg [⟨(some 5), (.assign (.const (.int .i64 0))), none⟩])
 (.block 0 (.loop (.seq (.seq (.reg [⟨(some 11), (.move (.tmp 5)), none⟩,
   ⟨(some 12), (.move (.tmp 0)), none⟩,
   ⟨(some 13), (.call (.mk (.builtin .len) #[(.tmp 12)] #[22])), none⟩,
   ⟨(some 14), (.binOp .lss 3 (.tmp 11) (.tmp 13) 3), none⟩])
 (.cond (.tmp 14) .skip (.exit 0)))
 (.seq (.block 1 (.seq (.regq [⟨(some 17), (.move (.tmp 0)), none⟩,
   ⟨(some 18), (.move (.tmp 5)), none⟩,
   ⟨(some 19), (.indexAddr 22 (.tmp 17) (.tmp 18)), none⟩,
   ⟨(some 20), (.load 3 (.tmp 19)), none⟩,
   ⟨(some 21), (.move (.tmp 1)), none⟩,
   ⟨(some 22), (.move (.tmp 5)), none⟩,
   ⟨(some 23), (.indexAddr 22 (.tmp 21) (.tmp 22)), none⟩,
   ⟨(some 24), (.load 3 (.tmp 23)), none⟩,
   ⟨(some 25), (.binOp .neq 3 (.tmp 20) (.tmp 24) 3), none⟩])
 (.cond (.tmp 25) (.seq (.reg [⟨(some 4), (.assign (.const (.bool false))), none⟩])
 .ret) .skip)))
 (.reg [⟨(some 15), (.move (.tmp 5)), none⟩,
   ⟨(some 16), (.binOp .add 3 (.tmp 15) (.const (.int .i64 1)) 3), none⟩,
   ⟨(some 5), (.assign (.tmp 16)), none⟩]))))))
 (.seq (.reg [⟨(some 4), (.assign (.const (.bool true))), none⟩])
 .ret))))
theorem x_laws_vInts : Txt Tryd.prog 20 c_laws_vInts [.tmp 4] 2 := ⟨by kernel_rfl, by kernel_rfl, _, _, Tryd.func20, rfl, by kernel_rfl, by kernel_rfl, by kernel_rfl, rfl, by decide⟩
/-- loop.example/g01062/impl.BestCircle -/
def c_impl_BestCircle : Cd :=
 (.seq (.reg [⟨(some 4), (.assign (.const (.slice none 0 0))), none⟩,
   ⟨(some 5), (.assign (.const (.int .i64 0))), none⟩,
   ⟨(some 6), (.assign (.const (.bool false))), none⟩])
 (.seq (.seq (.reg [⟨(some 12), (.move (.tmp 0)), none⟩,
   ⟨(some 13), (.move (.tmp 1)), none⟩,
   ⟨(some 14), (.call (.mk (.value (.func 37)) #[(.tmp 12), (.tmp 13)] #[3, 30])), none⟩,
   ⟨(some 15), (.unOp .not 4 (.tmp 14)), none⟩])
 (.cond (.tmp 15) (.seq (.reg [⟨(some 4), (.assign (.const (.slice none 0 0))), none⟩,
   ⟨(some 5), (.assign (.const (.int .i64 0))), none⟩,
   ⟨(some 6), (.assign (.const (.bool false))), none⟩])
 .ret) .skip))
 (.seq (.reg [⟨(some 7), (.assign (.const (.slice none 0 0))), none⟩])
 (.seq (.reg [⟨(some 8), (.assign (.const (.int .i64 0))), none⟩])
 (.seq (.seq (.reg [⟨(some 16), (.move (.tmp 0)), none⟩,
   ⟨(some 17), (.move (.tmp 1)), none⟩,
   ⟨(some 18), (.call (.mk (.value (.func 45)) #[(.tmp 16), (.tmp 17)] #[3, 30])), none⟩,
   ⟨(some 19), (.call (.mk (.builtin .len) #[(.tmp 18)] #[33])), none⟩,
   ⟨(some 20), (.move (.const (.int .i64 0))), none⟩])
 (.block 0 (.loop (.seq (.reg [⟨(some 21), (.binOp .lss 3 (.tmp 20) (.tmp 19) 3), none⟩])
 (.seq (.cond (.tmp 21) .skip (.exit 0))
 (.seq (.block 1 (.seq (.reg [⟨(some 22), (.indexAddr 33 (.tmp 18) (.tmp 20)), none⟩,
   ⟨(some 23), (.load 22 (.tmp 22)), none⟩,
   ⟨(some 10), (.assign (.tmp 23)), none⟩])
 (.seq (.reg [⟨(some 24), (.move (.tmp 1)), none⟩,
   ⟨(some 25), (.move (.tmp 10)), none⟩,
   ⟨(some 26), (.call (.mk (.value (.func 44)) #[(.tmp 24), (.tmp 25)] #[30, 22])), none⟩,
   ⟨(some 11), (.assign (.tmp 26)), none⟩])
 (.seq (.reg [⟨(some 27), (.move (.tmp 7)), none⟩,
   ⟨(some 28), (.binOp .eql 22 (.tmp 27) (.const (.slice none 0 0)) 22), none⟩,
   ⟨(some 29), (.move (.tmp 28)), none⟩,
   ⟨(some 30), (.move (.tmp 11)), (some (29, false))⟩,
   ⟨(some 31), (.move (.tmp 8)), (some (29, false))⟩,
   ⟨(some 32), (.binOp .gtr 3 (.tmp 30) (.tmp 31) 3), (some (29, false))⟩,
   ⟨(some 33), (.pick (.tmp 29) (.const (.bool true)) (.tmp 32)), none⟩,
   ⟨(some 34), (.move (.tmp 33)), none⟩,
   ⟨(some 35), (.move (.tmp 11)), (some (34, false))⟩,
   ⟨(some 36), (.move (.tmp 8)), (some (34, false))⟩,
   ⟨(some 37), (.binOp .eql 3 (.tmp 35) (.tmp 36) 3), (some (34, false))⟩,
   ⟨(some 38), (.move (.tmp 37)), (some (34, false))⟩,
   ⟨(some 39), (.move (.tmp 10)), (some (38, true))⟩,
   ⟨(some 40), (.call (.mk (.builtin .len) #[(.tmp 39)] #[22])), (some (38, true))⟩,
   ⟨(some 41), (.move (.tmp 7)), (some (38, true))⟩,
   ⟨(some 42), (.call (.mk (.builtin .len) #[(.tmp 41)] #[22])), (some (38, true))⟩,
   ⟨(some 43), (.binOp .lss 3 (.tmp 40) (.tmp 42) 3), (some (38, true))⟩,
   ⟨(some 44), (.pick (.tmp 38) (.tmp 43) (.const (.bool false))), (some (34, false))⟩,
   ⟨(some 45), (.pick (.tmp 34) (.const (.bool true)) (.tmp 44)), none⟩])
 (.cond (.tmp 45) (.reg [⟨(some 46), (.move (.tmp 10)), none⟩,
   ⟨(some 47), (.move (.tmp 11)), none⟩,
   ⟨(some 7), (.assign (.tmp 46)), none⟩,
   ⟨(some 8), (.assign (.tmp 47)), none⟩]) .skip)))))
 (.reg [⟨(some 48), (.binOp .add 3 (.tmp 20) (.const (.int .i64 1)) 3), none⟩,
   ⟨(some 20), (.move (.tmp 48)), none⟩])))))))
 (.seq (.reg [⟨(some 49), (.move (.tmp 7)), none⟩,
   ⟨(some 50), (.move (.tmp 8)), none⟩,
   ⟨(some 51), (.move (.tmp 7)), none⟩,
   ⟨(some 52), (.binOp .neq 22 (.tmp 51) (.const (.slice none 0 0)) 22), none⟩,
   ⟨(some 4), (.assign (.tmp 49)), none⟩,
   ⟨(some 5), (.assign (.tmp 50)), none⟩,
   ⟨(some 6), (.assign (.tmp 52)), none⟩])
 .ret))))))
theorem x_impl_BestCircle : Txt Tryd.prog 21 c_impl_BestCircle [.tmp 4, .tmp 5, .tmp 6] 2 := ⟨by kernel_rfl, by kernel_rfl, _, _, Tryd.func21, rfl, by kernel_rfl, by kernel_rfl, by kernel_rfl, rfl, by decide⟩
/-- loop.example/g01062/spec.BestCircle -/
def c_spec_BestCircle : Cd :=
 (.seq (.reg [⟨(some 4), (.assign (.const (.slice none 0 0))), none⟩,
   ⟨(some 5), (.assign (.const (.int .i64 0))), none⟩,
   ⟨(some 6), (.assign (.const (.bool false))), none⟩])
 (.seq (.seq (.reg [⟨(some 12), (.move (.tmp 0)), none⟩,
   ⟨(some 13), (.move (.tmp 1)), none⟩,
   ⟨(some 14), (.call (.mk (.value (.func 40)) #[(.tmp 12), (.tmp 13)] #[3, 30])), none⟩,
   ⟨(some 15), (.unOp .not 4 (.tmp 14)), none⟩])
 (.cond (.tmp 15) (.seq (.reg [⟨(some 16), (.buildSlice 22 0 #[]), none⟩,
   ⟨(some 4), (.assign (.tmp 16)), none⟩,
   ⟨(some 5), (.assign (.const (.int .i64 0))), none⟩,
   ⟨(some 6), (.assign (.const (.bool false))), none⟩])
 .ret) .skip))
 (.seq (.reg [⟨(some 17), (.move (.tmp 0)), none⟩,
   ⟨(some 18), (.move (.tmp 1)), none⟩,
   ⟨(some 19), (.call (.mk (.value (.func 46)) #[(.tmp 17), (.tmp 18)] #[3, 30])), none⟩,
   ⟨(some 20), (.buildSlice 22 0 #[]), none⟩,
   ⟨(some 7), (.assign (.tmp 19)), none⟩,
   ⟨(some 8), (.assign (.tmp 20)), none⟩,
   ⟨(some 9), (.assign (.const (.int .i64 0))), none⟩])
 (.seq (.seq (.reg [⟨(some 10), (.assign (.const (.int .i64 0))), none⟩])
 (.block 0 (.loop (.seq (.seq (.reg [⟨(some 21), (.move (.tmp 10)), none⟩,
   ⟨(some 22), (.move (.tmp 7)), none⟩,
   ⟨(some 23), (.call (.mk (.builtin .len) #[(.tmp 22)] #[33])), none⟩,
   ⟨(some 24), (.binOp .lss 3 (.tmp 21) (.tmp 23) 3), none⟩])
 (.cond (.tmp 24) .skip (.exit 0)))
 (.seq (.block 1 (.seq (.reg [⟨(some 27), (.move (.tmp 0)), none⟩,
   ⟨(some 28), (.move (.tmp 1)), none⟩,
   ⟨(some 29), (.move (.tmp 7)), none⟩,
   ⟨(some 30), (.move (.tmp 10)), none⟩,
   ⟨(some 31), (.indexAddr 33 (.tmp 29) (.tmp 30)), none⟩,
   ⟨(some 32), (.load 22 (.tmp 31)), none⟩,
   ⟨(some 33), (.call (.mk (.value (.func 47)) #[(.tmp 27), (.tmp 28), (.tmp 32)] #[3, 30, 22])), none⟩,
   ⟨(some 11), (.assign (.tmp 33)), none⟩])
 (.seq (.reg [⟨(some 34), (.move (.tmp 11)), none⟩,
   ⟨(some 35), (.move (.tmp 9)), none⟩,
   ⟨(some 36), (.binOp .gtr 3 (.tmp 34) (.tmp 35) 3), none⟩,
   ⟨(some 37), (.move (.tmp 36)), none⟩,
   ⟨(some 38), (.move (.tmp 11)), (some (37, false))⟩,
   ⟨(some 39), (.move (.tmp 9)), (some (37, false))⟩,
   ⟨(some 40), (.binOp .eql 3 (.tmp 38) (.tmp 39) 3), (some (37, false))⟩,
   ⟨(some 41), (.move (.tmp 40)), (some (37, false))⟩,
   ⟨(some 42), (.move (.tmp 7)), (some (41, true))⟩,
   ⟨(some 43), (.move (.tmp 10)), (some (41, true))⟩,
   ⟨(some 44), (.indexAddr 33 (.tmp 42) (.tmp 43)), (some (41, true))⟩,
   ⟨(some 45), (.load 22 (.tmp 44)), (some (41, true))⟩,
   ⟨(some 46), (.call (.mk (.builtin .len) #[(.tmp 45)] #[22])), (some (41, true))⟩,
   ⟨(some 47), (.move (.tmp 8)), (some (41, true))⟩,
   ⟨(some 48), (.call (.mk (.builtin .len) #[(.tmp 47)] #[22])), (some (41, true))⟩,
   ⟨(some 49), (.binOp .lss 3 (.tmp 46) (.tmp 48) 3), (some (41, true))⟩,
   ⟨(some 50), (.pick (.tmp 41) (.tmp 49) (.const (.bool false))), (some (37, false))⟩,
   ⟨(some 51), (.pick (.tmp 37) (.const (.bool true)) (.tmp 50)), none⟩])
 (.cond (.tmp 51) (.seq (.reg [⟨(some 52), (.move (.tmp 7)), none⟩,
   ⟨(some 53), (.move (.tmp 10)), none⟩,
   ⟨(some 54), (.indexAddr 33 (.tmp 52) (.tmp 53)), none⟩,
   ⟨(some 55), (.load 22 (.tmp 54)), none⟩,
   ⟨(some 8), (.assign (.tmp 55)), none⟩])
 (.reg [⟨(some 56), (.move (.tmp 11)), none⟩,
   ⟨(some 9), (.assign (.tmp 56)), none⟩])) .skip))))
 (.reg [⟨(some 25), (.move (.tmp 10)), none⟩,
   ⟨(some 26), (.binOp .add 3 (.tmp 25) (.const (.int .i64 1)) 3), none⟩,
   ⟨(some 10), (.assign (.tmp 26)), none⟩]))))))
 (.seq (.reg [⟨(some 57), (.move (.tmp 8)), none⟩,
   ⟨(some 58), (.move (.tmp 9)), none⟩,
   ⟨(some 59), (.move (.tmp 9)), none⟩,
   ⟨(some 60), (.binOp .gtr 3 (.tmp 59) (.const (.int .i64 0)) 3), none⟩,
   ⟨(some 4), (.assign (.tmp 57)), none⟩,
   ⟨(some 5), (.assign (.tmp 58)), none⟩,
   ⟨(some 6), (.assign (.tmp 60)), none⟩])
 .ret)))))
theorem x_spec_BestCircle : Txt Tryd.prog 22 c_spec_BestCircle [.tmp 4, .tmp 5, .tmp 6] 2 := ⟨by kernel_rfl, by kernel_rfl, _, _, Tryd.func22, rfl, by kernel_rfl, by kernel_rfl, by kernel_rfl, rfl, by decide⟩
/-- loop.example/g01062/impl.LeftAlone -/
def c_impl_LeftAlone : Cd :=
 (.seq (.reg [⟨(some 4), (.assign (.const (.slice none 0 0))), none⟩,
   ⟨(some 5), (.assign (.const (.bool false))), none⟩])
 (.seq (.seq (.reg [⟨(some 15), (.move (.tmp 0)), none⟩,
   ⟨(some 16), (.move (.tmp 1)), none⟩,
   ⟨(some 17), (.call (.mk (.value (.func 37)) #[(.tmp 15), (.tmp 16)] #[3, 30])), none⟩,
   ⟨(some 18), (.unOp .not 4 (.tmp 17)), none⟩])
 (.cond (.tmp 18) (.seq (.reg [⟨(some 4), (.assign (.const (.slice none 0 0))), none⟩,
   ⟨(some 5), (.assign (.const (.bool false))), none⟩])
 .ret) .skip))
 (.seq (.reg [⟨(some 19), (.move (.tmp 0)), none⟩,
   ⟨(some 20), (.makeSlice 68 (.tmp 19) (.tmp 19)), none⟩,
   ⟨(some 6), (.assign (.tmp 20)), none⟩])
 (.seq (.seq (.reg [⟨(some 21), (.move (.tmp 6)), none⟩,
   ⟨(some 22), (.call (.mk (.builtin .len) #[(.tmp 21)] #[68])), none⟩,
   ⟨(some 23), (.move (.const (.int .i64 0))), none⟩])
 (.block 0 (.loop (.seq (.reg [⟨(some 24), (.binOp .lss 3 (.tmp 23) (.tmp 22) 3), none⟩])
 (.seq (.cond (.tmp 24) .skip (.exit 0))
 (.seq (.block 1 (.seq (.reg [⟨(some 25), (.move (.tmp 23)), none⟩,
   ⟨(some 7), (.assign (.tmp 25)), none⟩])
 (.reg [⟨(some 26), (.move (.tmp 6)), none⟩,
   ⟨(some 27), (.move (.tmp 7)), none⟩,
   ⟨(some 28), (.indexAddr 68 (.tmp 26) (.tmp 27)), none⟩,
   ⟨none, (.store 4 (.tmp 28) (.const (.bool true))), none⟩])))
 (.reg [⟨(some 29), (.binOp .add 3 (.tmp 23) (.const (.int .i64 1)) 3), none⟩,
   ⟨(some 23), (.move (.tmp 29)), none⟩])))))))
 (.seq (.seq (.reg [⟨(some 30), (.move (.tmp 0)), none⟩,
   ⟨(some 31), (.move (.tmp 1)), none⟩,
   ⟨(some 32), (.call (.mk (.value (.func 45)) #[(.tmp 30), (.tmp 31)] #[3, 30])), none⟩,
   ⟨(some 33), (.call (.mk (.builtin .len) #[(.tmp 32)] #[33])), none⟩,
   ⟨(some 34), (.move (.const (.int .i64 0))), none⟩])
 (.block 2 (.loop (.seq (.reg [⟨(some 35), (.binOp .lss 3 (.tmp 34) (.tmp 33) 3), none⟩])
 (.seq (.cond (.tmp 35) .skip (.exit 2))
 (.seq (.block 3 (.seq (.reg [⟨(some 36), (.indexAddr 33 (.tmp 32) (.tmp 34)), none⟩,
   ⟨(some 37), (.load 22 (.tmp 36)), none⟩,
   ⟨(some 9), (.assign (.tmp 37)), none⟩])
 (.seq (.reg [⟨(some 38), (.move (.tmp 9)), none⟩,
   ⟨(some 39), (.call (.mk (.builtin .len) #[(.tmp 38)] #[22])), none⟩,
   ⟨(some 40), (.move (.const (.int .i64 0))), none⟩])
 (.block 4 (.loop (.seq (.reg [⟨(some 41), (.binOp .lss 3 (.tmp 40) (.tmp 39) 3), none⟩])
 (.seq (.cond (.tmp 41) .skip (.exit 4))
 (.seq (.block 5 (.seq (.reg [⟨(some 42), (.indexAddr 22 (.tmp 38) (.tmp 40)), none⟩,
   ⟨(some 43), (.load 3 (.tmp 42)), none⟩,
   ⟨(some 11), (.assign (.tmp 43)), none⟩])
 (.reg [⟨(some 44), (.move (.tmp 6)), none⟩,
   ⟨(some 45), (.move (.tmp 11)), none⟩,
   ⟨(some 46), (.indexAddr 68 (.tmp 44) (.tmp 45)), none⟩,
   ⟨none, (.store 4 (.tmp 46) (.const (.bool false))), none⟩])))
 (.reg [⟨(some 47), (.binOp .add 3 (.tmp 40) (.const (.int .i64 1)) 3), none⟩,
   ⟨(some 40), (.move (.tmp 47)), none⟩])))))))))
 (.reg [⟨(some 48), (.binOp .add 3 (.tmp 34) (.const (.int .i64 1)) 3), none⟩,
   ⟨(some 34), (.move (.tmp 48)), none⟩])))))))
 (.seq (.reg [⟨(some 12), (.assign (.const (.slice none 0 0))), none⟩])
 (.seq (.seq (.reg [⟨(some 49), (.move (.tmp 6)), none⟩,
   ⟨(some 50), (.call (.mk (.builtin .len) #[(.tmp 49)] #[68])), none⟩,
   ⟨(some 51), (.move (.const (.int .i64 0))), none⟩])
 (.block 6 (.loop (.seq (.reg [⟨(some 52), (.binOp .lss 3 (.tmp 51) (.tmp 50) 3), none⟩])
 (.seq (.cond (.tmp 52) .skip (.exit 6))
 (.seq (.block 7 (.seq (.reg [⟨(some 53), (.move (.tmp 51)), none⟩,
   ⟨(some 54), (.indexAddr 68 (.tmp 49) (.tmp 51)), none⟩,
   ⟨(some 55), (.load 4 (.tmp 54)), none⟩,
   ⟨(some 13), (.assign (.tmp 53)), none⟩,
   ⟨(some 14), (.assign (.tmp 55)), none⟩])
 (.seq (.reg [⟨(some 56), (.move (.tmp 14)), none⟩])
 (.cond (.tmp 56) (.reg [⟨(some 57), (.move (.tmp 12)), none⟩,
   ⟨(some 58), (.move (.tmp 13)), none⟩,
   ⟨(some 59), (.buildSlice 22 1 #[(0, (.tmp 58))]), none⟩,
   ⟨(some 60), (.call (.mk (.builtin .append) #[(.tmp 57), (.tmp 59)] #[22, 22])), none⟩,
   ⟨(some 12), (.assign (.tmp 60)), none⟩]) .skip))))
 (.reg [⟨(some 61), (.binOp .add 3 (.tmp 51) (.const (.int .i64 1)) 3), none⟩,
   ⟨(some 51), (.move (.tmp 61)), none⟩])))))))
 (.seq (.reg [⟨(some 62), (.move (.tmp 12)), none⟩,
   ⟨(some 4), (.assign (.tmp 62)), none⟩,
   ⟨(some 5), (.assign (.const (.bool true))), none⟩])
 .ret))))))))
theorem x_impl_LeftAlone : Txt Tryd.prog 23 c_impl_LeftAlone [.tmp 4, .tmp 5] 2 := ⟨by kernel_rfl, by kernel_rfl, _, _, Tryd.func23, rfl, by kernel_rfl, by kernel_rfl, by kernel_rfl, rfl, by decide⟩
/-- loop.example/g01062/spec.LeftAlone -/
def c_spec_LeftAlone : Cd :=
 (.seq (.reg [⟨(some 4), (.assign (.const (.slice none 0 0))), none⟩,
   ⟨(some 5), (.assign (.const (.bool false))), none⟩])
 (.seq (.reg [⟨(some 11), (.buildSlice 22 0 #[]), none⟩,
   ⟨(some 6), (.assign (.tmp 11)), none⟩])
 (.seq (.seq (.reg [⟨(some 12), (.move (.tmp 0)), none⟩,
   ⟨(some 13), (.move (.tmp 1)), none⟩,
   ⟨(some 14), (.call (.mk (.value (.func 40)) #[(.tmp 12), (.tmp 13)] #[3, 30])), none⟩,
   ⟨(some 15), (.unOp .not 4 (.tmp 14)), none⟩])
 (.cond (.tmp 15) (.seq (.reg [⟨(some 16), (.move (.tmp 6)), none⟩,
   ⟨(some 4), (.assign (.tmp 16)), none⟩,
   ⟨(some 5), (.assign (.const (.bool false))), none⟩])
 .ret) .skip))
 (.seq (.reg [⟨(some 17), (.move (.tmp 0)), none⟩,
   ⟨(some 18), (.move (.tmp 1)), none⟩,
   ⟨(some 19), (.call (.mk (.value (.func 46)) #[(.tmp 17), (.tmp 18)] #[3, 30])), none⟩,
   ⟨(some 7), (.assign (.tmp 19)), none⟩])
 (.seq (.seq (.reg [⟨(some 8), (.assign (.const (.int .i64 0))), none⟩])
 (.block 0 (.loop (.seq (.seq (.reg [⟨(some 20), (.move (.tmp 8)), none⟩,
   ⟨(some 21), (.move (.tmp 0)), none⟩,
   ⟨(some 22), (.binOp .lss 3 (.tmp 20) (.tmp 21) 3), none⟩])
 (.cond (.tmp 22) .skip (.exit 0)))
 (.seq (.block 1 (.seq (.reg [⟨(some 9), (.assign (.const (.bool true))), none⟩])
 (.seq (.seq (.reg [⟨(some 10), (.assign (.const (.int .i64 0))), none⟩])
 (.block 2 (.loop (.seq (.seq (.reg [⟨(some 25), (.move (.tmp 10)), none⟩,
   ⟨(some 26), (.move (.tmp 7)), none⟩,
   ⟨(some 27), (.call (.mk (.builtin .len) #[(.tmp 26)] #[33])), none⟩,
   ⟨(some 28), (.binOp .lss 3 (.tmp 25) (.tmp 27) 3), none⟩])
 (.cond (.tmp 28) .skip (.exit 2)))
 (.seq (.block 3 (.reg [⟨(some 31), (.move (.tmp 9)), none⟩,
   ⟨(some 32), (.move (.tmp 31)), none⟩,
   ⟨(some 33), (.move (.tmp 7)), (some (32, true))⟩,
   ⟨(some 34), (.move (.tmp 10)), (some (32, true))⟩,
   ⟨(some 35), (.indexAddr 33 (.tmp 33) (.tmp 34)), (some (32, true))⟩,
   ⟨(some 36), (.load 22 (.tmp 35)), (some (32, true))⟩,
   ⟨(some 37), (.move (.tmp 8)), (some (32, true))⟩,
   ⟨(some 38), (.call (.mk (.value (.func 48)) #[(.tmp 36), (.tmp 37)] #[22, 3])), (some (32, true))⟩,
   ⟨(some 39), (.unOp .not 4 (.tmp 38)), (some (32, true))⟩,
   ⟨(some 40), (.pick (.tmp 32) (.tmp 39) (.const (.bool false))), none⟩,
   ⟨(some 9), (.assign (.tmp 40)), none⟩]))
 (.reg [⟨(some 29), (.move (.tmp 10)), none⟩,
   ⟨(some 30), (.binOp .add 3 (.tmp 29) (.const (.int .i64 1)) 3), none⟩,
   ⟨(some 10), (.assign (.tmp 30)), none⟩]))))))
 (.seq (.reg [⟨(some 41), (.move (.tmp 9)), none⟩])
 (.cond (.tmp 41) (.reg [⟨(some 42), (.move (.tmp 6)), none⟩,
   ⟨(some 43), (.move (.tmp 8)), none⟩,
   ⟨(some 44), (.buildSlice 22 1 #[(0, (.tmp 43))]), none⟩,
   ⟨(some 45), (.call (.mk (.builtin .append) #[(.tmp 42), (.tmp 44)] #[22, 22])), none⟩,
   ⟨(some 6), (.assign (.tmp 45)), none⟩]) .skip)))))
 (.reg [⟨(some 23), (.move (.tmp 8)), none⟩,
   ⟨(some 24), (.binOp .add 3 (.tmp 23) (.const (.int .i64 1)) 3), none⟩,
   ⟨(some 8), (.assign (.tmp 24)), none⟩]))))))
 (.seq (.reg [⟨(some 46), (.move (.tmp 6)), none⟩,
   ⟨(some 4), (.assign (.tmp 46)), none⟩,
   ⟨(some 5), (.assign (.const (.bool true))), none⟩])
 .ret))))))
theorem x_spec_LeftAlone : Txt Tryd.prog 24 c_spec_LeftAlone [.tmp 4, .tmp 5] 2 := ⟨by kernel_rfl, by kernel_rfl, _, _, Tryd.func24, rfl, by kernel_rfl, by kernel_rfl, by kernel_rfl, rfl, by decide⟩
/-- loop.example/g01062/laws.vHas -/
def c_laws_vHas : Cd :=
 (.seq (.reg [⟨(some 4), (.assign (.const (.bool false))), none⟩])
 (.seq (.seq (.reg [⟨(some 5), (.assign (.const (.int .i64 0))), none⟩])
 (.block 0 (.loop (.seq (.seq (.reg [⟨(some 6), (.move (.tmp 5)), none⟩,
   ⟨(some 7), (.move (.tmp 0)), none⟩,
   ⟨(some 8), (.call (.mk (.builtin .len) #[(.tmp 7)] #[22])), none⟩,
   ⟨(some 9), (.binOp .lss 3 (.tmp 6) (.tmp 8) 3), none⟩])
 (.cond (.tmp 9) .skip (.exit 0)))
 (.seq (.block 1 (.seq (.reg [⟨(some 12), (.move (.tmp 0)), none⟩,
   ⟨(some 13), (.move (.tmp 5)), none⟩,
   ⟨(some 14), (.indexAddr 22 (.tmp 12) (.tmp 13)), none⟩,
   ⟨(some 15), (.load 3 (.tmp 14)), none⟩,
   ⟨(some 16), (.move (.tmp 1)), none⟩,
   ⟨(some 17), (.binOp .eql 3 (.tmp 15) (.tmp 16) 3), none⟩])
 (.cond (.tmp 17) (.seq (.reg [⟨(some 4), (.assign (.const (.bool true))), none⟩])
 .ret) .skip)))
 (.reg [⟨(some 10), (.move (.tmp 5)), none⟩,
   ⟨(some 11), (.binOp .add 3 (.tmp 10) (.const (.int .i64 1)) 3), none⟩,
   ⟨(some 5), (.assign (.tmp 11)), none⟩]))))))
 (.seq (.reg [⟨(some 4), (.assign (.const (.bool false))), none⟩])
 .ret)))
theorem x_laws_vHas : Txt Tryd.prog 25 c_laws_vHas [.tmp 4] 2 := ⟨by kernel_rfl, by kernel_rfl, _, _, Tryd.func25, rfl, by kernel_rfl, by kernel_rfl, by kernel_rfl, rfl, by decide⟩
/-- loop.example/g01062/spec.DrawIsCircle -/
def c_spec_DrawIsCircle : Cd :=
 (.seq (.reg [⟨(some 2), (.assign (.const (.int .i64 0))), none⟩,
   ⟨(some 3), (.assign (.const (.slice none 0 0))), none⟩,
   ⟨(some 4), (.assign (.const (.slice none 0 0))), none⟩])
 (.seq (.reg [⟨(some 8), (.move (.tmp 0)), none⟩,
   ⟨(some 9), (.build 56 #[(0, (.tmp 8))]), none⟩,
   ⟨(some 10), (.box 56 (.tmp 9)), none⟩,
   ⟨(some 5), (.assign (.tmp 10)), none⟩])
 (.seq (.reg [⟨(some 12), (.move (.tmp 5)), none⟩,
   ⟨(some 13), (.call (.mk (.value (.func 35)) #[(.tmp 12)] #[53])), none⟩,
   ⟨(some 11), (.move (.tmp 13)), none⟩,
   ⟨(some 14), (.extract (.tmp 11) 0), none⟩,
   ⟨(some 15), (.extract (.tmp 11) 1), none⟩,
   ⟨(some 6), (.assign (.tmp 14)), none⟩,
   ⟨(some 7), (.assign (.tmp 15)), none⟩])
 (.seq (.reg [⟨(some 16), (.move (.tmp 6)), none⟩,
   ⟨(some 17), (.move (.tmp 7)), none⟩,
   ⟨(some 18), (.move (.tmp 5)), none⟩,
   ⟨(some 19), (.move (.tmp 6)), none⟩,
   ⟨(some 20), (.move (.tmp 7)), none⟩,
   ⟨(some 21), (.call (.mk (.value (.func 49)) #[(.tmp 18), (.tmp 19), (.tmp 20)] #[53, 3, 30])), none⟩,
   ⟨(some 2), (.assign (.tmp 16)), none⟩,
   ⟨(some 3), (.assign (.tmp 17)), none⟩,
   ⟨(some 4), (.assign (.tmp 21)), none⟩])
 .ret))))
theorem x_spec_DrawIsCircle : Txt Tryd.prog 26 c_spec_DrawIsCircle [.tmp 2, .tmp 3, .tmp 4] 1 := ⟨by kernel_rfl, by kernel_rfl, _, _, Tryd.func26, rfl, by kernel_rfl, by kernel_rfl, by kernel_rfl, rfl, by decide⟩
/-- loop.example/g01062/spec.IsCircle -/
def c_spec_IsCircle : Cd :=
 (.seq (.reg [⟨(some 6), (.assign (.const (.bool false))), none⟩,
   ⟨(some 7), (.assign (.const (.bool false))), none⟩])
 (.seq (.seq (.reg [⟨(some 8), (.move (.tmp 0)), none⟩,
   ⟨(some 9), (.move (.tmp 1)), none⟩,
   ⟨(some 10), (.call (.mk (.value (.func 40)) #[(.tmp 8), (.tmp 9)] #[3, 30])), none⟩,
   ⟨(some 11), (.unOp .not 4 (.tmp 10)), none⟩])
 (.cond (.tmp 11) (.seq (.reg [⟨(some 6), (.assign (.const (.bool false))), none⟩,
   ⟨(some 7), (.assign (.const (.bool false))), none⟩])
 .ret) .skip))
 (.seq (.reg [⟨(some 12), (.move (.tmp 0)), none⟩,
   ⟨(some 13), (.move (.tmp 1)), none⟩,
   ⟨(some 14), (.move (.tmp 2)), none⟩,
   ⟨(some 15), (.call (.mk (.value (.func 47)) #[(.tmp 12), (.tmp 13), (.tmp 14)] #[3, 30, 22])), none⟩,
   ⟨(some 16), (.binOp .gtr 3 (.tmp 15) (.const (.int .i64 0)) 3), none⟩,
   ⟨(some 6), (.assign (.tmp 16)), none⟩,
   ⟨(some 7), (.assign (.const (.bool true))), none⟩])
 .ret)))
theorem x_spec_IsCircle : Txt Tryd.prog 27 c_spec_IsCircle [.tmp 6, .tmp 7] 3 := ⟨by kernel_rfl, by kernel_rfl, _, _, Tryd.func27, rfl, by kernel_rfl, by kernel_rfl, by kernel_rfl, rfl, by decide⟩
/-- loop.example/g01062/spec.GainOf -/
def c_spec_GainOf : Cd :=
 (.seq (.reg [⟨(some 6), (.assign (.const (.int .i64 0))), none⟩,
   ⟨(some 7), (.assign (.const (.bool false))), none⟩])
 (.seq (.seq (.reg [⟨(some 9), (.move (.tmp 0)), none⟩,
   ⟨(some 10), (.move (.tmp 1)), none⟩,
   ⟨(some 11), (.call (.mk (.value (.func 40)) #[(.tmp 9), (.tmp 10)] #[3, 30])), none⟩,
   ⟨(some 12), (.unOp .not 4 (.tmp 11)), none⟩])
 (.cond (.tmp 12) (.seq (.reg [⟨(some 6), (.assign (.const (.int .i64 0))), none⟩,
   ⟨(some 7), (.assign (.const (.bool false))), none⟩])
 .ret) .skip))
 (.seq (.reg [⟨(some 13), (.move (.tmp 0)), none⟩,
   ⟨(some 14), (.move (.tmp 1)), none⟩,
   ⟨(some 15), (.move (.tmp 2)), none⟩,
   ⟨(some 16), (.call (.mk (.value (.func 47)) #[(.tmp 13), (.tmp 14), (.tmp 15)] #[3, 30, 22])), none⟩,
   ⟨(some 8), (.assign (.tmp 16)), none⟩])
 (.seq (.reg [⟨(some 17), (.move (.tmp 8)), none⟩,
   ⟨(some 18), (.move (.tmp 8)), none⟩,
   ⟨(some 19), (.binOp .gtr 3 (.tmp 18) (.const (.int .i64 0)) 3), none⟩,
   ⟨(some 6), (.assign (.tmp 17)), none⟩,
   ⟨(some 7), (.assign (.tmp 19)), none⟩])
 .ret))))
theorem x_spec_GainOf : Txt Tryd.prog 28 c_spec_GainOf [.tmp 6, .tmp 7] 3 := ⟨by kernel_rfl, by kernel_rfl, _, _, Tryd.func28, rfl, by kernel_rfl, by kernel_rfl, by kernel_rfl, rfl, by decide⟩
/-- loop.example/g01062/spec.DrawCircleText -/
def c_spec_DrawCircleText : Cd :=
 (.seq (.reg [⟨(some 2), (.assign (.const (.slice none 0 0))), none⟩])
 (.seq (.reg [⟨(some 4), (.move (.tmp 0)), none⟩,
   ⟨(some 5), (.build 56 #[(0, (.tmp 4))]), none⟩,
   ⟨(some 6), (.box 56 (.tmp 5)), none⟩,
   ⟨(some 3), (.assign (.tmp 6)), none⟩])
 (.seq (.reg [⟨(some 7), (.buildSlice 22 2 #[(0, (.const (.int .i64 0))), (1, (.const (.int .i64 1)))]), none⟩,
   ⟨(some 8), (.buildSlice 22 3 #[(0, (.const (.int .i64 0))), (1, (.const (.int .i64 7))), (2, (.const (.int .i64 3)))]), none⟩,
   ⟨(some 9), (.buildSlice 22 4 #[(0, (.const (.int .i64 2))), (1, (.const (.int .i64 5))), (2, (.const (.int .i64 3))), (3, (.const (.int .i64 7)))]), none⟩,
   ⟨(some 10), (.buildSlice 22 2 #[(0, (.const (.int .i64 1))), (1, (.const (.int .i64 0)))]), none⟩,
   ⟨(some 11), (.buildSlice 22 1 #[(0, (.const (.int .i64 0)))]), none⟩,
   ⟨(some 12), (.buildSlice 22 2 #[(0, (.const (.int .i64 0))), (1, (.const (.int .i64 8)))]), none⟩,
   ⟨(some 13), (.buildSlice 22 8 #[(0, (.const (.int .i64 0))), (1, (.const (.int .i64 1))), (2, (.const (.int .i64 2))), (3, (.const (.int .i64 3))), (4, (.const (.int .i64 4))), (5, (.const (.int .i64 5))), (6, (.const (.int .i64 6))), (7, (.const (.int .i64 7)))]), none⟩,
   ⟨(some 14), (.buildSlice 22 3 #[(0, (.const (.int .i64 0))), (1, (.const (.int .i64 1))), (2, (.const (.int .i64 1)))]), none⟩,
   ⟨(some 15), (.buildSlice 33 8 #[(0, (.tmp 7)), (1, (.tmp 8)), (2, (.tmp 9)), (3, (.tmp 10)), (4, (.tmp 11)), (5, (.tmp 12)), (6, (.tmp 13)), (7, (.tmp 14))]), none⟩,
   ⟨(some 16), (.move (.tmp 3)), none⟩,
   ⟨(some 17), (.call (.mk (.value (.func 36)) #[(.tmp 16), (.const (.int .i64 8))] #[53, 3])), none⟩,
   ⟨(some 18), (.indexAddr 33 (.tmp 15) (.tmp 17)), none⟩,
   ⟨(some 19), (.load 22 (.tmp 18)), none⟩,
   ⟨(some 2), (.assign (.tmp 19)), none⟩])
 .ret)))
theorem x_spec_DrawCircleText : Txt Tryd.prog 29 c_spec_DrawCircleText [.tmp 2] 1 := ⟨by kernel_rfl, by kernel_rfl, _, _, Tryd.func29, rfl, by kernel_rfl, by kernel_rfl, by kernel_rfl, rfl, by decide⟩
/-- loop.example/g01062/spec.l20Ring -/
def c_spec_l20Ring : Cd :=
 (.seq (.reg [⟨(some 4), (.assign (.const (.bool false))), none⟩])
 (.seq (.seq (.reg [⟨(some 5), (.assign (.const (.int .i64 0))), none⟩])
 (.block 0 (.loop (.seq (.seq (.reg [⟨(some 7), (.move (.tmp 5)), none⟩,
   ⟨(some 8), (.move (.tmp 1)), none⟩,
   ⟨(some 9), (.call (.mk (.builtin .len) #[(.tmp 8)] #[22])), none⟩,
   ⟨(some 10), (.binOp .lss 3 (.tmp 7) (.tmp 9) 3), none⟩,
   ⟨(some 11), (.move (.tmp 10)), none⟩,
   ⟨(some 12), (.move (.tmp 5)), (some (11, true))⟩,
   ⟨(some 13), (.move (.tmp 0)), (some (11, true))⟩,
   ⟨(some 14), (.binOp .leq 3 (.tmp 12) (.tmp 13) 3), (some (11, true))⟩,
   ⟨(some 15), (.pick (.tmp 11) (.tmp 14) (.const (.bool false))), none⟩])
 (.cond (.tmp 15) .skip (.exit 0)))
 (.seq (.block 1 (.seq (.seq (.regq [⟨(some 18), (.move (.tmp 0)), none⟩,
   ⟨(some 19), (.move (.tmp 1)), none⟩,
   ⟨(some 20), (.move (.tmp 5)), none⟩,
   ⟨(some 21), (.indexAddr 22 (.tmp 19) (.tmp 20)), none⟩,
   ⟨(some 22), (.load 3 (.tmp 21)), none⟩,
   ⟨(some 23), (.call (.mk (.value (.func 41)) #[(.tmp 18), (.tmp 22)] #[3, 3])), none⟩,
   ⟨(some 24), (.unOp .not 4 (.tmp 23)), none⟩,
   ⟨(some 25), (.move (.tmp 24)), none⟩,
   ⟨(some 26), (.move (.tmp 1)), (some (25, false))⟩,
   ⟨(some 27), (.move (.tmp 5)), (some (25, false))⟩,
   ⟨(some 28), (.indexAddr 22 (.tmp 26) (.tmp 27)), (some (25, false))⟩,
   ⟨(some 29), (.load 3 (.tmp 28)), (some (25, false))⟩,
   ⟨(some 30), (.move (.tmp 1)), (some (25, false))⟩,
   ⟨(some 31), (.indexAddr 22 (.tmp 30) (.const (.int .i64 0))), (some (25, false))⟩,
   ⟨(some 32), (.load 3 (.tmp 31)), (some (25, false))⟩,
   ⟨(some 33), (.binOp .lss 3 (.tmp 29) (.tmp 32) 3), (some (25, false))⟩,
   ⟨(some 34), (.pick (.tmp 25) (.const (.bool true)) (.tmp 33)), none⟩])
 (.cond (.tmp 34) (.seq (.reg [⟨(some 4), (.assign (.const (.bool false))), none⟩])
 .ret) .skip))
 (.seq (.reg [⟨(some 6), (.assign (.const (.int .i64 0))), none⟩])
 (.block 2 (.loop (.seq (.seq (.reg [⟨(some 35), (.move (.tmp 6)), none⟩,
   ⟨(some 36), (.move (.tmp 5)), none⟩,
   ⟨(some 37), (.binOp .lss 3 (.tmp 35) (.tmp 36) 3), none⟩])
 (.cond (.tmp 37) .skip (.exit 2)))
 (.seq (.block 3 (.seq (.regq [⟨(some 40), (.move (.tmp 1)), none⟩,
   ⟨(some 41), (.move (.tmp 6)), none⟩,
   ⟨(some 42), (.indexAddr 22 (.tmp 40) (.tmp 41)), none⟩,
   ⟨(some 43), (.load 3 (.tmp 42)), none⟩,
   ⟨(some 44), (.move (.tmp 1)), none⟩,
   ⟨(some 45), (.move (.tmp 5)), none⟩,
   ⟨(some 46), (.indexAddr 22 (.tmp 44) (.tmp 45)), none⟩,
   ⟨(some 47), (.load 3 (.tmp 46)), none⟩,
   ⟨(some 48), (.binOp .eql 3 (.tmp 43) (.tmp 47) 3), none⟩])
 (.cond (.tmp 48) (.seq (.reg [⟨(some 4), (.assign (.const (.bool false))), none⟩])
 .ret) .skip)))
 (.reg [⟨(some 38), (.move (.tmp 6)), none⟩,
   ⟨(some 39), (.binOp .add 3 (.tmp 38) (.const (.int .i64 1)) 3), none⟩,
   ⟨(some 6), (.assign (.tmp 39)), none⟩]))))))))
 (.reg [⟨(some 16), (.move (.tmp 5)), none⟩,
   ⟨(some 17), (.binOp .add 3 (.tmp 16) (.const (.int .i64 1)) 3), none⟩,
   ⟨(some 5), (.assign (.tmp 17)), none⟩]))))))
 (.seq (.reg [⟨(some 49), (.move (.tmp 1)), none⟩,
   ⟨(some 50), (.call (.mk (.builtin .len) #[(.tmp 49)] #[22])), none⟩,
   ⟨(some 51), (.move (.tmp 0)), none⟩,
   ⟨(some 52), (.call (.mk (.value (.func 50)) #[(.tmp 50), (.const (.int .i64 2)), (.tmp 51)] #[3, 3, 3])), none⟩,
   ⟨(some 4), (.assign (.tmp 52)), none⟩])
 .ret)))
theorem x_spec_l20Ring : Txt Tryd.prog 30 c_spec_l20Ring [.tmp 4] 2 := ⟨by kernel_rfl, by kernel_rfl, _, _, Tryd.func30, rfl, by kernel_rfl, by kernel_rfl, by kernel_rfl, rfl, by decide⟩
/-- loop.example/g01062/spec.l1Num -/
def c_spec_l1Num : Cd :=
 (.seq (.reg [⟨(some 2), (.assign (.const (.string (ByteArray.mk #[])))), none⟩])
 (.seq (.seq (.reg [⟨(some 3), (.move (.tmp 0)), none⟩,
   ⟨(some 4), (.binOp .lss 3 (.tmp 3) (.const (.int .i64 0)) 3), none⟩])
 (.cond (.tmp 4) (.seq (.reg [⟨(some 5), (.move (.tmp 0)), none⟩,
   ⟨(some 6), (.unOp .neg 3 (.tmp 5)), none⟩,
   ⟨(some 7), (.call (.mk (.value (.func 31)) #[(.tmp 6)] #[3])), none⟩,
   ⟨(some 8), (.binOp .add 9 (.const (.string (ByteArray.mk #[45]))) (.tmp 7) 9), none⟩,
   ⟨(some 2), (.assign (.tmp 8)), none⟩])
 .ret) .skip))
 (.seq (.seq (.reg [⟨(some 9), (.move (.tmp 0)), none⟩,
   ⟨(some 10), (.binOp .lss 3 (.tmp 9) (.const (.int .i64 10)) 3), none⟩])
 (.cond (.tmp 10) (.seq (.reg [⟨(some 11), (.move (.tmp 0)), none⟩,
   ⟨(some 12), (.move (.tmp 0)), none⟩,
   ⟨(some 13), (.binOp .add 3 (.tmp 12) (.const (.int .i64 1)) 3), none⟩,
   ⟨(some 14), (.slice 9 (.const (.string (ByteArray.mk #[48, 49, 50, 51, 52, 53, 54, 55, 56, 57]))) (some (.tmp 11)) (some (.tmp 13)) none), none⟩,
   ⟨(some 2), (.assign (.tmp 14)), none⟩])
 .ret) .skip))
 (.seq (.regq [⟨(some 15), (.move (.tmp 0)), none⟩,
   ⟨(some 16), (.binOp .quo 3 (.tmp 15) (.const (.int .i64 10)) 3), none⟩,
   ⟨(some 17), (.call (.mk (.value (.func 31)) #[(.tmp 16)] #[3])), none⟩,
   ⟨(some 18), (.move (.tmp 0)), none⟩,
   ⟨(some 19), (.binOp .rem 3 (.tmp 18) (.const (.int .i64 10)) 3), none⟩,
   ⟨(some 20), (.move (.tmp 0)), none⟩,
   ⟨(some 21), (.binOp .rem 3 (.tmp 20) (.const (.int .i64 10)) 3), none⟩,
   ⟨(some 22), (.binOp .add 3 (.tmp 21) (.const (.int .i64 1)) 3), none⟩,
   ⟨(some 23), (.slice 9 (.const (.string (ByteArray.mk #[48, 49, 50, 51, 52, 53, 54, 55, 56, 57]))) (some (.tmp 19)) (some (.tmp 22)) none), none⟩,
   ⟨(some 24), (.binOp .add 9 (.tmp 17) (.tmp 23) 9), none⟩,
   ⟨(some 2), (.assign (.tmp 24)), none⟩])
 .ret))))
theorem x_spec_l1Num : Txt Tryd.prog 31 c_spec_l1Num [.tmp 2] 1 := ⟨by kernel_rfl, by kernel_rfl, _, _, Tryd.func31, rfl, by kernel_rfl, by kernel_rfl, by kernel_rfl, rfl, by decide⟩
/-- loop.example/g01062/impl.arePeople -/
def c_impl_arePeople : Cd :=
 (.seq (.reg [⟨(some 4), (.assign (.const (.bool false))), none⟩])
 (.seq (.seq (.reg [⟨(some 7), (.move (.tmp 1)), none⟩,
   ⟨(some 8), (.call (.mk (.builtin .len) #[(.tmp 7)] #[22])), none⟩,
   ⟨(some 9), (.move (.const (.int .i64 0))), none⟩])
 (.block 0 (.loop (.seq (.reg [⟨(some 10), (.binOp .lss 3 (.tmp 9) (.tmp 8) 3), none⟩])
 (.seq (.cond (.tmp 10) .skip (.exit 0))
 (.seq (.block 1 (.seq (.reg [⟨(some 11), (.move (.tmp 9)), none⟩,
   ⟨(some 12), (.indexAddr 22 (.tmp 7) (.tmp 9)), none⟩,
   ⟨(some 13), (.load 3 (.tmp 12)), none⟩,
   ⟨(some 5), (.assign (.tmp 11)), none⟩,
   ⟨(some 6), (.assign (.tmp 13)), none⟩])
 (.seq (.reg [⟨(some 14), (.move (.tmp 6)), none⟩,
   ⟨(some 15), (.move (.tmp 1)), none⟩,
   ⟨(some 16), (.indexAddr 22 (.tmp 15) (.const (.int .i64 0))), none⟩,
   ⟨(some 17), (.load 3 (.tmp 16)), none⟩,
   ⟨(some 18), (.move (.tmp 0)), none⟩,
   ⟨(some 19), (.binOp .sub 3 (.tmp 18) (.const (.int .i64 1)) 3), none⟩,
   ⟨(some 20), (.call (.mk (.value (.func 38)) #[(.tmp 14), (.tmp 17), (.tmp 19)] #[3, 3, 3])), none⟩,
   ⟨(some 21), (.unOp .not 4 (.tmp 20)), none⟩,
   ⟨(some 22), (.move (.tmp 21)), none⟩,
   ⟨(some 23), (.move (.tmp 1)), (some (22, false))⟩,
   ⟨(some 24), (.move (.tmp 5)), (some (22, false))⟩,
   ⟨(some 25), (.slice 22 (.tmp 23) none (some (.tmp 24)) none), (some (22, false))⟩,
   ⟨(some 26), (.move (.tmp 6)), (some (22, false))⟩,
   ⟨(some 27), (.call (.mk (.value (.func 51)) #[(.tmp 25), (.tmp 26)] #[22, 3])), (some (22, false))⟩,
   ⟨(some 28), (.pick (.tmp 22) (.const (.bool true)) (.tmp 27)), none⟩])
 (.cond (.tmp 28) (.seq (.reg [⟨(some 4), (.assign (.const (.bool false))), none⟩])
 .ret) .skip))))
 (.reg [⟨(some 29), (.binOp .add 3 (.tmp 9) (.const (.int .i64 1)) 3), none⟩,
   ⟨(some 9), (.move (.tmp 29)), none⟩])))))))
 (.seq (.reg [⟨(some 30), (.move (.tmp 1)), none⟩,
   ⟨(some 31), (.call (.mk (.builtin .len) #[(.tmp 30)] #[22])), none⟩,
   ⟨(some 32), (.move (.tmp 0)), none⟩,
   ⟨(some 33), (.call (.mk (.value (.func 38)) #[(.tmp 31), (.const (.int .i64 2)), (.tmp 32)] #[3, 3, 3])), none⟩,
   ⟨(some 34), (.move (.tmp 33)), none⟩,
   ⟨(some 35), (.move (.tmp 1)), (some (34, true))⟩,
   ⟨(some 36), (.indexAddr 22 (.tmp 35) (.const (.int .i64 0))), (some (34, true))⟩,
   ⟨(some 37), (.load 3 (.tmp 36)), (some (34, true))⟩,
   ⟨(some 38), (.binOp .geq 3 (.tmp 37) (.const (.int .i64 0)) 3), (some (34, true))⟩,
   ⟨(some 39), (.pick (.tmp 34) (.tmp 38) (.const (.bool false))), none⟩,
   ⟨(some 4), (.assign (.tmp 39)), none⟩])
 .ret)))
theorem x_impl_arePeople : Txt Tryd.prog 32 c_impl_arePeople [.tmp 4] 2 := ⟨by kernel_rfl, by kernel_rfl, _, _, Tryd.func32, rfl, by kernel_rfl, by kernel_rfl, by kernel_rfl, rfl, by decide⟩
/-- loop.example/g01062/impl.joinInts -/
def c_impl_joinInts : Cd :=
 (.seq (.reg [⟨(some 4), (.assign (.const (.string (ByteArray.mk #[])))), none⟩])
 (.seq (.reg [⟨(some 5), (.assign (.const (.slice none 0 0))), none⟩])
 (.seq (.seq (.reg [⟨(some 8), (.move (.tmp 0)), none⟩,
   ⟨(some 9), (.call (.mk (.builtin .len) #[(.tmp 8)] #[22])), none⟩,
   ⟨(some 10), (.move (.const (.int .i64 0))), none⟩])
 (.block 0 (.loop (.seq (.reg [⟨(some 11), (.binOp .lss 3 (.tmp 10) (.tmp 9) 3), none⟩])
 (.seq (.cond (.tmp 11) .skip (.exit 0))
 (.seq (.block 1 (.seq (.reg [⟨(some 12), (.indexAddr 22 (.tmp 8) (.tmp 10)), none⟩,
   ⟨(some 13), (.load 3 (.tmp 12)), none⟩,
   ⟨(some 7), (.assign (.tmp 13)), none⟩])
 (.reg [⟨(some 14), (.move (.tmp 5)), none⟩,
   ⟨(some 15), (.move (.tmp 7)), none⟩,
   ⟨(some 16), (.call (.mk (.value (.func 34)) #[(.tmp 15)] #[3])), none⟩,
   ⟨(some 17), (.buildSlice 70 1 #[(0, (.tmp 16))]), none⟩,
   ⟨(some 18), (.call (.mk (.builtin .append) #[(.tmp 14), (.tmp 17)] #[70, 70])), none⟩,
   ⟨(some 5), (.assign (.tmp 18)), none⟩])))
 (.reg [⟨(some 19), (.binOp .add 3 (.tmp 10) (.const (.int .i64 1)) 3), none⟩,
   ⟨(some 10), (.move (.tmp 19)), none⟩])))))))
 (.seq (.reg [⟨(some 20), (.move (.tmp 5)), none⟩,
   ⟨(some 21), (.move (.tmp 1)), none⟩,
   ⟨(some 22), (.call (.mk (.value (.func 52)) #[(.tmp 20), (.tmp 21)] #[70, 9])), none⟩,
   ⟨(some 4), (.assign (.tmp 22)), none⟩])
 .ret))))
theorem x_impl_joinInts : Txt Tryd.prog 33 c_impl_joinInts [.tmp 4] 2 := ⟨by kernel_rfl, by kernel_rfl, _, _, Tryd.func33, rfl, by kernel_rfl, by kernel_rfl, by kernel_rfl, rfl, by decide⟩
/-- (*loop.example/g01062/spec.l1Cur).wishes -/
def c_spec_l1Cur_wishes : Cd :=
 (.seq (.reg [⟨(some 2), (.assign (.const (.int .i64 0))), none⟩,
   ⟨(some 3), (.assign (.const (.slice none 0 0))), none⟩])
 (.seq (.reg [⟨(some 8), (.move (.tmp 0)), none⟩,
   ⟨(some 9), (.buildSlice 22 8 #[(0, (.const (.int .i64 1))), (1, (.const (.int .i64 2))), (2, (.const (.int .i64 3))), (3, (.const (.int .i64 4))), (4, (.const (.int .i64 4))), (5, (.const (.int .i64 5))), (6, (.const (.int .i64 6))), (7, (.const (.int .i64 7)))]), none⟩,
   ⟨(some 10), (.call (.mk (.value (.func 54)) #[(.tmp 8), (.tmp 9)] #[53, 22])), none⟩,
   ⟨(some 11), (.buildSlice 30 0 #[]), none⟩,
   ⟨(some 4), (.assign (.tmp 10)), none⟩,
   ⟨(some 5), (.assign (.tmp 11)), none⟩])
 (.seq (.seq (.reg [⟨(some 6), (.assign (.const (.int .i64 0))), none⟩])
 (.block 0 (.loop (.seq (.seq (.reg [⟨(some 12), (.move (.tmp 6)), none⟩,
   ⟨(some 13), (.move (.tmp 4)), none⟩,
   ⟨(some 14), (.binOp .lss 3 (.tmp 12) (.tmp 13) 3), none⟩])
 (.cond (.tmp 14) .skip (.exit 0)))
 (.seq (.block 1 (.seq (.reg [⟨(some 7), (.assign (.const (.int .i64 0))), none⟩])
 (.block 2 (.loop (.seq (.seq (.reg [⟨(some 17), (.move (.tmp 7)), none⟩,
   ⟨(some 18), (.move (.tmp 4)), none⟩,
   ⟨(some 19), (.binOp .lss 3 (.tmp 17) (.tmp 18) 3), none⟩])
 (.cond (.tmp 19) .skip (.exit 2)))
 (.seq (.block 3 (.seq (.reg [⟨(some 22), (.move (.tmp 6)), none⟩,
   ⟨(some 23), (.move (.tmp 7)), none⟩,
   ⟨(some 24), (.binOp .neq 3 (.tmp 22) (.tmp 23) 3), none⟩,
   ⟨(some 25), (.move (.tmp 24)), none⟩,
   ⟨(some 26), (.move (.tmp 0)), (some (25, true))⟩,
   ⟨(some 27), (.call (.mk (.value (.func 55)) #[(.tmp 26), (.const (.int .i64 3))] #[53, 3])), (some (25, true))⟩,
   ⟨(some 28), (.pick (.tmp 25) (.tmp 27) (.const (.bool false))), none⟩])
 (.cond (.tmp 28) (.reg [⟨(some 29), (.move (.tmp 5)), none⟩,
   ⟨(some 30), (.move (.tmp 6)), none⟩,
   ⟨(some 31), (.move (.tmp 7)), none⟩,
   ⟨(some 32), (.move (.tmp 0)), none⟩,
   ⟨(some 33), (.buildSlice 22 5 #[(0, (.const (.int .i64 1))), (1, (.const (.int .i64 5))), (2, (.const (.int .i64 5))), (3, (.const (.int .i64 10))), (4, (.const (.int .i64 1000)))]), none⟩,
   ⟨(some 34), (.call (.mk (.value (.func 54)) #[(.tmp 32), (.tmp 33)] #[53, 22])), none⟩,
   ⟨(some 35), (.build 75 #[(0, (.tmp 30)), (1, (.tmp 31)), (2, (.tmp 34))]), none⟩,
   ⟨(some 36), (.buildSlice 30 1 #[(0, (.tmp 35))]), none⟩,
   ⟨(some 37), (.call (.mk (.builtin .append) #[(.tmp 29), (.tmp 36)] #[30, 30])), none⟩,
   ⟨(some 5), (.assign (.tmp 37)), none⟩]) .skip)))
 (.reg [⟨(some 20), (.move (.tmp 7)), none⟩,
   ⟨(some 21), (.binOp .add 3 (.tmp 20) (.const (.int .i64 1)) 3), none⟩,
   ⟨(some 7), (.assign (.tmp 21)), none⟩])))))))
 (.reg [⟨(some 15), (.move (.tmp 6)), none⟩,
   ⟨(some 16), (.binOp .add 3 (.tmp 15) (.const (.int .i64 1)) 3), none⟩,
   ⟨(some 6), (.assign (.tmp 16)), none⟩]))))))
 (.seq (.seq (.reg [⟨(some 38), (.move (.tmp 0)), none⟩,
   ⟨(some 39), (.call (.mk (.value (.func 36)) #[(.tmp 38), (.const (.int .i64 32))] #[53, 3])), none⟩])
 (.block 4 (.seq (.reg [⟨(some 41), (.binOp .eql 3 (.tmp 39) (.const (.int .i64 0)) 3), none⟩,
   ⟨(some 40), (.assign (.tmp 41)), none⟩])
 (.cond (.tmp 40) (.reg [⟨(some 42), (.move (.tmp 0)), none⟩,
   ⟨(some 43), (.move (.tmp 4)), none⟩,
   ⟨(some 44), (.binOp .sub 3 (.tmp 43) (.const (.int .i64 1)) 3), none⟩,
   ⟨(some 45), (.buildSlice 22 4 #[(0, (.const (.int .i64 0))), (1, (.const (.int .i64 8))), (2, (.const (.int .i64 9))), (3, (.tmp 44))]), none⟩,
   ⟨(some 46), (.call (.mk (.value (.func 54)) #[(.tmp 42), (.tmp 45)] #[53, 22])), none⟩,
   ⟨(some 4), (.assign (.tmp 46)), none⟩]) (.seq (.reg [⟨(some 48), (.binOp .eql 3 (.tmp 39) (.const (.int .i64 1)) 3), none⟩,
   ⟨(some 47), (.assign (.tmp 48)), none⟩])
 (.cond (.tmp 47) (.reg [⟨(some 49), (.move (.tmp 5)), none⟩,
   ⟨(some 50), (.move (.tmp 0)), none⟩,
   ⟨(some 51), (.call (.mk (.value (.func 36)) #[(.tmp 50), (.const (.int .i64 3))] #[53, 3])), none⟩,
   ⟨(some 52), (.move (.tmp 0)), none⟩,
   ⟨(some 53), (.call (.mk (.value (.func 36)) #[(.tmp 52), (.const (.int .i64 3))] #[53, 3])), none⟩,
   ⟨(some 54), (.move (.tmp 0)), none⟩,
   ⟨(some 55), (.buildSlice 22 3 #[(0, (.const (.int .i64 0))), (1, (.const (.int .i64 1))), (2, (.const (.int .i64 1001)))]), none⟩,
   ⟨(some 56), (.call (.mk (.value (.func 54)) #[(.tmp 54), (.tmp 55)] #[53, 22])), none⟩,
   ⟨(some 57), (.build 75 #[(0, (.tmp 51)), (1, (.tmp 53)), (2, (.tmp 56))]), none⟩,
   ⟨(some 58), (.buildSlice 30 1 #[(0, (.tmp 57))]), none⟩,
   ⟨(some 59), (.call (.mk (.builtin .append) #[(.tmp 49), (.tmp 58)] #[30, 30])), none⟩,
   ⟨(some 5), (.assign (.tmp 59)), none⟩]) .skip))))))
 (.seq (.reg [⟨(some 60), (.move (.tmp 4)), none⟩,
   ⟨(some 61), (.move (.tmp 5)), none⟩,
   ⟨(some 2), (.assign (.tmp 60)), none⟩,
   ⟨(some 3), (.assign (.tmp 61)), none⟩])
 .ret)))))
theorem x_spec_l1Cur_wishes : Txt Tryd.prog 35 c_spec_l1Cur_wishes [.tmp 2, .tmp 3] 1 := ⟨by kernel_rfl, by kernel_rfl, _, _, Tryd.func35, rfl, by kernel_rfl, by kernel_rfl, by kernel_rfl, rfl, by decide⟩
/-- (*loop.example/g01062/spec.l1Cur).pick -/
def c_spec_l1Cur_pick : Cd :=
 (.seq (.reg [⟨(some 4), (.assign (.const (.int .i64 0))), none⟩])
 (.seq (.seq (.reg [⟨(some 6), (.move (.tmp 1)), none⟩,
   ⟨(some 7), (.binOp .leq 3 (.tmp 6) (.const (.int .i64 1)) 3), none⟩])
 (.cond (.tmp 7) (.seq (.reg [⟨(some 4), (.assign (.const (.int .i64 0))), none⟩])
 .ret) .skip))
 (.seq (.reg [⟨(some 8), (.move (.tmp 0)), none⟩,
   ⟨(some 9), (.call (.mk (.value (.func 56)) #[(.tmp 8)] #[53])), none⟩,
   ⟨(some 5), (.assign (.tmp 9)), none⟩])
 (.seq (.seq (.reg [⟨(some 10), (.move (.tmp 1)), none⟩,
   ⟨(some 11), (.binOp .gtr 3 (.tmp 10) (.const (.int .i64 200)) 3), none⟩])
 (.cond (.tmp 11) (.reg [⟨(some 12), (.move (.tmp 5)), none⟩,
   ⟨(some 13), (.binOp .mul 3 (.tmp 12) (.const (.int .i64 256)) 3), none⟩,
   ⟨(some 14), (.move (.tmp 0)), none⟩,
   ⟨(some 15), (.call (.mk (.value (.func 56)) #[(.tmp 14)] #[53])), none⟩,
   ⟨(some 16), (.binOp .add 3 (.tmp 13) (.tmp 15) 3), none⟩,
   ⟨(some 5), (.assign (.tmp 16)), none⟩]) .skip))
 (.seq (.reg [⟨(some 17), (.move (.tmp 5)), none⟩,
   ⟨(some 18), (.move (.tmp 1)), none⟩,
   ⟨(some 19), (.binOp .rem 3 (.tmp 17) (.tmp 18) 3), none⟩,
   ⟨(some 4), (.assign (.tmp 19)), none⟩])
 .ret)))))
theorem x_spec_l1Cur_pick : Txt Tryd.prog 36 c_spec_l1Cur_pick [.tmp 4] 2 := ⟨by kernel_rfl, by kernel_rfl, _, _, Tryd.func36, rfl, by kernel_rfl, by kernel_rfl, by kernel_rfl, rfl, by decide⟩
/-- loop.example/g01062/impl.areWishes -/
def c_impl_areWishes : Cd :=
 (.seq (.reg [⟨(some 4), (.assign (.const (.bool false))), none⟩])
 (.seq (.seq (.reg [⟨(some 7), (.move (.tmp 0)), none⟩,
   ⟨(some 8), (.call (.mk (.value (.func 38)) #[(.tmp 7), (.const (.int .i64 1)), (.const (.int .i64 8))] #[3, 3, 3])), none⟩,
   ⟨(some 9), (.unOp .not 4 (.tmp 8)), none⟩,
   ⟨(some 10), (.move (.tmp 9)), none⟩,
   ⟨(some 11), (.move (.tmp 1)), (some (10, false))⟩,
   ⟨(some 12), (.call (.mk (.builtin .len) #[(.tmp 11)] #[30])), (some (10, false))⟩,
   ⟨(some 13), (.binOp .gtr 3 (.tmp 12) (.const (.int .i64 30)) 3), (some (10, false))⟩,
   ⟨(some 14), (.pick (.tmp 10) (.const (.bool true)) (.tmp 13)), none⟩])
 (.cond (.tmp 14) (.seq (.reg [⟨(some 4), (.assign (.const (.bool false))), none⟩])
 .ret) .skip))
 (.seq (.seq (.reg [⟨(some 15), (.move (.tmp 1)), none⟩,
   ⟨(some 16), (.call (.mk (.builtin .len) #[(.tmp 15)] #[30])), none⟩,
   ⟨(some 17), (.move (.const (.int .i64 0))), none⟩])
 (.block 0 (.loop (.seq (.reg [⟨(some 18), (.binOp .lss 3 (.tmp 17) (.tmp 16) 3), none⟩])
 (.seq (.cond (.tmp 18) .skip (.exit 0))
 (.seq (.block 1 (.seq (.reg [⟨(some 19), (.move (.tmp 17)), none⟩,
   ⟨(some 20), (.indexAddr 30 (.tmp 15) (.tmp 17)), none⟩,
   ⟨(some 21), (.load 75 (.tmp 20)), none⟩,
   ⟨(some 6), (.alloc 75), none⟩,
   ⟨(some 5), (.assign (.tmp 19)), none⟩,
   ⟨none, (.store 75 (.tmp 6) (.tmp 21)), none⟩])
 (.seq (.seq (.reg [⟨(some 22), (.fieldAddr 75 (.tmp 6) 0), none⟩,
   ⟨(some 23), (.load 3 (.tmp 22)), none⟩,
   ⟨(some 24), (.move (.tmp 0)), none⟩,
   ⟨(some 25), (.binOp .sub 3 (.tmp 24) (.const (.int .i64 1)) 3), none⟩,
   ⟨(some 26), (.call (.mk (.value (.func 38)) #[(.tmp 23), (.const (.int .i64 0)), (.tmp 25)] #[3, 3, 3])), none⟩,
   ⟨(some 27), (.unOp .not 4 (.tmp 26)), none⟩,
   ⟨(some 28), (.move (.tmp 27)), none⟩,
   ⟨(some 29), (.fieldAddr 75 (.tmp 6) 1), (some (28, false))⟩,
   ⟨(some 30), (.load 3 (.tmp 29)), (some (28, false))⟩,
   ⟨(some 31), (.move (.tmp 0)), (some (28, false))⟩,
   ⟨(some 32), (.binOp .sub 3 (.tmp 31) (.const (.int .i64 1)) 3), (some (28, false))⟩,
   ⟨(some 33), (.call (.mk (.value (.func 38)) #[(.tmp 30), (.const (.int .i64 0)), (.tmp 32)] #[3, 3, 3])), (some (28, false))⟩,
   ⟨(some 34), (.unOp .not 4 (.tmp 33)), (some (28, false))⟩,
   ⟨(some 35), (.pick (.tmp 28) (.const (.bool true)) (.tmp 34)), none⟩,
   ⟨(some 36), (.move (.tmp 35)), none⟩,
   ⟨(some 37), (.fieldAddr 75 (.tmp 6) 0), (some (36, false))⟩,
   ⟨(some 38), (.load 3 (.tmp 37)), (some (36, false))⟩,
   ⟨(some 39), (.fieldAddr 75 (.tmp 6) 1), (some (36, false))⟩,
   ⟨(some 40), (.load 3 (.tmp 39)), (some (36, false))⟩,
   ⟨(some 41), (.binOp .eql 3 (.tmp 38) (.tmp 40) 3), (some (36, false))⟩,
   ⟨(some 42), (.pick (.tmp 36) (.const (.bool true)) (.tmp 41)), none⟩,
   ⟨(some 43), (.move (.tmp 42)), none⟩,
   ⟨(some 44), (.fieldAddr 75 (.tmp 6) 2), (some (43, false))⟩,
   ⟨(some 45), (.load 3 (.tmp 44)), (some (43, false))⟩,
   ⟨(some 46), (.call (.mk (.value (.func 38)) #[(.tmp 45), (.const (.int .i64 1)), (.const (.int .i64 1000))] #[3, 3, 3])), (some (43, false))⟩,
   ⟨(some 47), (.unOp .not 4 (.tmp 46)), (some (43, false))⟩,
   ⟨(some 48), (.pick (.tmp 43) (.const (.bool true)) (.tmp 47)), none⟩])
 (.cond (.tmp 48) (.seq (.reg [⟨(some 4), (.assign (.const (.bool false))), none⟩])
 .ret) .skip))
 (.seq (.regt [⟨(some 49), (.move (.tmp 5)), none⟩,
   ⟨(some 50), (.binOp .gtr 3 (.tmp 49) (.const (.int .i64 0)) 3), none⟩,
   ⟨(some 51), (.move (.tmp 50)), none⟩,
   ⟨(some 52), (.move (.tmp 1)), (some (51, true))⟩,
   ⟨(some 53), (.move (.tmp 5)), (some (51, true))⟩,
   ⟨(some 54), (.binOp .sub 3 (.tmp 53) (.const (.int .i64 1)) 3), (some (51, true))⟩,
   ⟨(some 55), (.indexAddr 30 (.tmp 52) (.tmp 54)), (some (51, true))⟩,
   ⟨(some 56), (.fieldAddr 75 (.tmp 55) 0), (some (51, true))⟩,
   ⟨(some 57), (.load 3 (.tmp 56)), (some (51, true))⟩,
   ⟨(some 58), (.fieldAddr 75 (.tmp 6) 0), (some (51, true))⟩,
   ⟨(some 59), (.load 3 (.tmp 58)), (some (51, true))⟩,
   ⟨(some 61), (.move (.tmp 1)), (some (51, true))⟩,
   ⟨(some 62), (.move (.tmp 5)), (some (51, true))⟩,
   ⟨(some 63), (.binOp .sub 3 (.tmp 62) (.const (.int .i64 1)) 3), (some (51, true))⟩,
   ⟨(some 64), (.indexAddr 30 (.tmp 61) (.tmp 63)), (some (51, true))⟩,
   ⟨(some 65), (.fieldAddr 75 (.tmp 64) 1), (some (51, true))⟩,
   ⟨(some 66), (.load 3 (.tmp 65)), (some (51, true))⟩,
   ⟨(some 67), (.fieldAddr 75 (.tmp 6) 1), (some (51, true))⟩,
   ⟨(some 68), (.load 3 (.tmp 67)), (some (51, true))⟩] (.one true ⟨(some 60), (.call (.mk (.value (.func 58)) #[(.tmp 57), (.tmp 59)] #[3, 3])), (some (51, true))⟩
   (.one false ⟨(some 69), (.call (.mk (.value (.func 58)) #[(.tmp 66), (.tmp 68)] #[3, 3])), (some (51, true))⟩
   (.one false ⟨(some 70), (.buildSlice 22 2 #[(0, (.tmp 60)), (1, (.tmp 69))]), (some (51, true))⟩
   (.one false ⟨(some 71), (.call (.mk (.value (.func 57)) #[(.tmp 70)] #[22])), (some (51, true))⟩
   (.one false ⟨(some 72), (.binOp .geq 3 (.tmp 71) (.const (.int .i64 0)) 3), (some (51, true))⟩
   (.one false ⟨(some 73), (.pick (.tmp 51) (.tmp 72) (.const (.bool false))), none⟩
   .done)))))) [])
 (.cond (.tmp 73) (.seq (.reg [⟨(some 4), (.assign (.const (.bool false))), none⟩])
 .ret) .skip)))))
 (.reg [⟨(some 74), (.binOp .add 3 (.tmp 17) (.const (.int .i64 1)) 3), none⟩,
   ⟨(some 17), (.move (.tmp 74)), none⟩])))))))
 (.seq (.reg [⟨(some 4), (.assign (.const (.bool true))), none⟩])
 .ret))))
theorem x_impl_areWishes : Txt Tryd.prog 37 c_impl_areWishes [.tmp 4] 2 := ⟨by kernel_rfl, by kernel_rfl, _, _, Tryd.func37, rfl, by kernel_rfl, by kernel_rfl, by kernel_rfl, rfl, by decide⟩
/-- loop.example/g01062/impl.inRange -/
def c_impl_inRange : Cd :=
 (.seq (.reg [⟨(some 6), (.assign (.const (.bool false))), none⟩])
 (.seq (.reg [⟨(some 7), (.move (.tmp 0)), none⟩,
   ⟨(some 8), (.move (.tmp 1)), none⟩,
   ⟨(some 9), (.binOp .geq 3 (.tmp 7) (.tmp 8) 3), none⟩,
   ⟨(some 10), (.move (.tmp 9)), none⟩,
   ⟨(some 11), (.move (.tmp 0)), (some (10, true))⟩,
   ⟨(some 12), (.move (.tmp 2)), (some (10, true))⟩,
   ⟨(some 13), (.binOp .leq 3 (.tmp 11) (.tmp 12) 3), (some (10, true))⟩,
   ⟨(some 14), (.pick (.tmp 10) (.tmp 13) (.const (.bool false))), none⟩,
   ⟨(some 6), (.assign (.tmp 14)), none⟩])
 .ret))
theorem x_impl_inRange : Txt Tryd.prog 38 c_impl_inRange [.tmp 6] 3 := ⟨by kernel_rfl, by kernel_rfl, _, _, Tryd.func38, rfl, by kernel_rfl, by kernel_rfl, by kernel_rfl, rfl, by decide⟩
/-- loop.example/g01062/impl.circlesOf -/
def c_impl_circlesOf : Cd :=
 (.seq (.reg [⟨(some 3), (.box 3 (.tmp 0)), none⟩,
   ⟨(some 4), (.box 30 (.tmp 1)), none⟩,
   ⟨(some 5), (.box 3 (.tmp 2)), none⟩,
   ⟨(some 6), (.assign (.const (.slice none 0 0))), none⟩])
 (.seq (.reg [⟨(some 7), (.alloc 33), none⟩])
 (.seq (.reg [⟨(some 8), (.alloc 79), none⟩])
 (.seq (.reg [⟨(some 9), (.makeFunc (.func 59) #[] #[(.tmp 4), (.tmp 5), (.tmp 7), (.tmp 3), (.tmp 8)]), none⟩,
   ⟨none, (.store 79 (.tmp 8) (.tmp 9)), none⟩])
 (.seq (.reg [⟨(some 10), (.load 79 (.tmp 8)), none⟩,
   ⟨(some 11), (.load 3 (.tmp 5)), none⟩,
   ⟨(some 12), (.buildSlice 22 1 #[(0, (.tmp 11))]), none⟩,
   ⟨(some 13), (.call (.mk (.value (.tmp 10)) #[(.tmp 12)] #[22])), none⟩])
 (.seq (.reg [⟨(some 14), (.load 33 (.tmp 7)), none⟩,
   ⟨(some 6), (.assign (.tmp 14)), none⟩])
 .ret))))))
theorem x_impl_circlesOf : Txt Tryd.prog 39 c_impl_circlesOf [.tmp 6] 3 := ⟨by kernel_rfl, by kernel_rfl, _, _, Tryd.func39, rfl, by kernel_rfl, by kernel_rfl, by kernel_rfl, rfl, by decide⟩
/-- loop.example/g01062/spec.l20Good -/
def c_spec_l20Good : Cd :=
 (.seq (.reg [⟨(some 4), (.assign (.const (.bool false))), none⟩])
 (.seq (.seq (.reg [⟨(some 7), (.move (.tmp 0)), none⟩,
   ⟨(some 8), (.call (.mk (.value (.func 50)) #[(.tmp 7), (.const (.int .i64 1)), (.const (.int .i64 8))] #[3, 3, 3])), none⟩,
   ⟨(some 9), (.unOp .not 4 (.tmp 8)), none⟩,
   ⟨(some 10), (.move (.tmp 9)), none⟩,
   ⟨(some 11), (.move (.tmp 1)), (some (10, false))⟩,
   ⟨(some 12), (.call (.mk (.builtin .len) #[(.tmp 11)] #[30])), (some (10, false))⟩,
   ⟨(some 13), (.binOp .gtr 3 (.tmp 12) (.const (.int .i64 30)) 3), (some (10, false))⟩,
   ⟨(some 14), (.pick (.tmp 10) (.const (.bool true)) (.tmp 13)), none⟩])
 (.cond (.tmp 14) (.seq (.reg [⟨(some 4), (.assign (.const (.bool false))), none⟩])
 .ret) .skip))
 (.seq (.seq (.reg [⟨(some 5), (.assign (.const (.int .i64 0))), none⟩])
 (.block 0 (.loop (.seq (.seq (.reg [⟨(some 15), (.move (.tmp 5)), none⟩,
   ⟨(some 16), (.move (.tmp 1)), none⟩,
   ⟨(some 17), (.call (.mk (.builtin .len) #[(.tmp 16)] #[30])), none⟩,
   ⟨(some 18), (.binOp .lss 3 (.tmp 15) (.tmp 17) 3), none⟩])
 (.cond (.tmp 18) .skip (.exit 0)))
 (.seq (.block 1 (.seq (.reg [⟨(some 21), (.move (.tmp 1)), none⟩,
   ⟨(some 22), (.move (.tmp 5)), none⟩,
   ⟨(some 23), (.indexAddr 30 (.tmp 21) (.tmp 22)), none⟩,
   ⟨(some 24), (.load 75 (.tmp 23)), none⟩,
   ⟨(some 6), (.alloc 75), none⟩,
   ⟨none, (.store 75 (.tmp 6) (.tmp 24)), none⟩])
 (.seq (.seq (.reg [⟨(some 25), (.move (.tmp 0)), none⟩,
   ⟨(some 26), (.fieldAddr 75 (.tmp 6) 0), none⟩,
   ⟨(some 27), (.load 3 (.tmp 26)), none⟩,
   ⟨(some 28), (.call (.mk (.value (.func 41)) #[(.tmp 25), (.tmp 27)] #[3, 3])), none⟩,
   ⟨(some 29), (.unOp .not 4 (.tmp 28)), none⟩,
   ⟨(some 30), (.move (.tmp 29)), none⟩,
   ⟨(some 31), (.move (.tmp 0)), (some (30, false))⟩,
   ⟨(some 32), (.fieldAddr 75 (.tmp 6) 1), (some (30, false))⟩,
   ⟨(some 33), (.load 3 (.tmp 32)), (some (30, false))⟩,
   ⟨(some 34), (.call (.mk (.value (.func 41)) #[(.tmp 31), (.tmp 33)] #[3, 3])), (some (30, false))⟩,
   ⟨(some 35), (.unOp .not 4 (.tmp 34)), (some (30, false))⟩,
   ⟨(some 36), (.pick (.tmp 30) (.const (.bool true)) (.tmp 35)), none⟩,
   ⟨(some 37), (.move (.tmp 36)), none⟩,
   ⟨(some 38), (.fieldAddr 75 (.tmp 6) 0), (some (37, false))⟩,
   ⟨(some 39), (.load 3 (.tmp 38)), (some (37, false))⟩,
   ⟨(some 40), (.fieldAddr 75 (.tmp 6) 1), (some (37, false))⟩,
   ⟨(some 41), (.load 3 (.tmp 40)), (some (37, false))⟩,
   ⟨(some 42), (.binOp .eql 3 (.tmp 39) (.tmp 41) 3), (some (37, false))⟩,
   ⟨(some 43), (.pick (.tmp 37) (.const (.bool true)) (.tmp 42)), none⟩,
   ⟨(some 44), (.move (.tmp 43)), none⟩,
   ⟨(some 45), (.fieldAddr 75 (.tmp 6) 2), (some (44, false))⟩,
   ⟨(some 46), (.load 3 (.tmp 45)), (some (44, false))⟩,
   ⟨(some 47), (.call (.mk (.value (.func 50)) #[(.tmp 46), (.const (.int .i64 1)), (.const (.int .i64 1000))] #[3, 3, 3])), (some (44, false))⟩,
   ⟨(some 48), (.unOp .not 4 (.tmp 47)), (some (44, false))⟩,
   ⟨(some 49), (.pick (.tmp 44) (.const (.bool true)) (.tmp 48)), none⟩])
 (.cond (.tmp 49) (.seq (.reg [⟨(some 4), (.assign (.const (.bool false))), none⟩])
 .ret) .skip))
 (.seq (.regq [⟨(some 50), (.move (.tmp 5)), none⟩,
   ⟨(some 51), (.binOp .gtr 3 (.tmp 50) (.const (.int .i64 0)) 3), none⟩,
   ⟨(some 52), (.move (.tmp 51)), none⟩,
   ⟨(some 53), (.move (.tmp 1)), (some (52, true))⟩,
   ⟨(some 54), (.move (.tmp 5)), (some (52, true))⟩,
   ⟨(some 55), (.binOp .sub 3 (.tmp 54) (.const (.int .i64 1)) 3), (some (52, true))⟩,
   ⟨(some 56), (.indexAddr 30 (.tmp 53) (.tmp 55)), (some (52, true))⟩,
   ⟨(some 57), (.fieldAddr 75 (.tmp 56) 0), (some (52, true))⟩,
   ⟨(some 58), (.load 3 (.tmp 57)), (some (52, true))⟩,
   ⟨(some 59), (.binOp .mul 3 (.const (.int .i64 10)) (.tmp 58) 3), (some (52, true))⟩,
   ⟨(some 60), (.move (.tmp 1)), (some (52, true))⟩,
   ⟨(some 61), (.move (.tmp 5)), (some (52, true))⟩,
   ⟨(some 62), (.binOp .sub 3 (.tmp 61) (.const (.int .i64 1)) 3), (some (52, true))⟩,
   ⟨(some 63), (.indexAddr 30 (.tmp 60) (.tmp 62)), (some (52, true))⟩,
   ⟨(some 64), (.fieldAddr 75 (.tmp 63) 1), (some (52, true))⟩,
   ⟨(some 65), (.load 3 (.tmp 64)), (some (52, true))⟩,
   ⟨(some 66), (.binOp .add 3 (.tmp 59) (.tmp 65) 3), (some (52, true))⟩,
   ⟨(some 67), (.fieldAddr 75 (.tmp 6) 0), (some (52, true))⟩,
   ⟨(some 68), (.load 3 (.tmp 67)), (some (52, true))⟩,
   ⟨(some 69), (.binOp .mul 3 (.const (.int .i64 10)) (.tmp 68) 3), (some (52, true))⟩,
   ⟨(some 70), (.fieldAddr 75 (.tmp 6) 1), (some (52, true))⟩,
   ⟨(some 71), (.load 3 (.tmp 70)), (some (52, true))⟩,
   ⟨(some 72), (.binOp .add 3 (.tmp 69) (.tmp 71) 3), (some (52, true))⟩,
   ⟨(some 73), (.binOp .geq 3 (.tmp 66) (.tmp 72) 3), (some (52, true))⟩,
   ⟨(some 74), (.pick (.tmp 52) (.tmp 73) (.const (.bool false))), none⟩])
 (.cond (.tmp 74) (.seq (.reg [⟨(some 4), (.assign (.const (.bool false))), none⟩])
 .ret) .skip)))))
 (.reg [⟨(some 19), (.move (.tmp 5)), none⟩,
   ⟨(some 20), (.binOp .add 3 (.tmp 19) (.const (.int .i64 1)) 3), none⟩,
   ⟨(some 5), (.assign (.tmp 20)), none⟩]))))))
 (.seq (.reg [⟨(some 4), (.assign (.const (.bool true))), none⟩])
 .ret))))
theorem x_spec_l20Good : Txt Tryd.prog 40 c_spec_l20Good [.tmp 4] 2 := ⟨by kernel_rfl, by kernel_rfl, _, _, Tryd.func40, rfl, by kernel_rfl, by kernel_rfl, by kernel_rfl, rfl, by decide⟩
/-- loop.example/g01062/spec.l20Person -/
def c_spec_l20Person : Cd :=
 (.seq (.reg [⟨(some 4), (.assign (.const (.bool false))), none⟩])
 (.seq (.reg [⟨(some 5), (.move (.tmp 1)), none⟩,
   ⟨(some 6), (.binOp .geq 3 (.tmp 5) (.const (.int .i64 0)) 3), none⟩,
   ⟨(some 7), (.move (.tmp 6)), none⟩,
   ⟨(some 8), (.move (.tmp 1)), (some (7, true))⟩,
   ⟨(some 9), (.move (.tmp 0)), (some (7, true))⟩,
   ⟨(some 10), (.binOp .lss 3 (.tmp 8) (.tmp 9) 3), (some (7, true))⟩,
   ⟨(some 11), (.pick (.tmp 7) (.tmp 10) (.const (.bool false))), none⟩,
   ⟨(some 4), (.assign (.tmp 11)), none⟩])
 .ret))
theorem x_spec_l20Person : Txt Tryd.prog 41 c_spec_l20Person [.tmp 4] 2 := ⟨by kernel_rfl, by kernel_rfl, _, _, Tryd.func41, rfl, by kernel_rfl, by kernel_rfl, by kernel_rfl, rfl, by decide⟩
/-- loop.example/g01062/spec.l20From -/
def c_spec_l20From : Cd :=
 (.seq (.reg [⟨(some 8), (.assign (.const (.slice none 0 0))), none⟩])
 (.seq (.reg [⟨(some 12), (.buildSlice 33 0 #[]), none⟩,
   ⟨(some 9), (.assign (.tmp 12)), none⟩])
 (.seq (.reg [⟨(some 13), (.move (.tmp 2)), none⟩,
   ⟨(some 14), (.move (.tmp 2)), none⟩,
   ⟨(some 15), (.call (.mk (.builtin .len) #[(.tmp 14)] #[22])), none⟩,
   ⟨(some 16), (.binOp .sub 3 (.tmp 15) (.const (.int .i64 1)) 3), none⟩,
   ⟨(some 17), (.indexAddr 22 (.tmp 13) (.tmp 16)), none⟩,
   ⟨(some 18), (.load 3 (.tmp 17)), none⟩,
   ⟨(some 10), (.assign (.tmp 18)), none⟩])
 (.seq (.seq (.reg [⟨(some 19), (.move (.tmp 2)), none⟩,
   ⟨(some 20), (.call (.mk (.builtin .len) #[(.tmp 19)] #[22])), none⟩,
   ⟨(some 21), (.binOp .gtr 3 (.tmp 20) (.const (.int .i64 1)) 3), none⟩,
   ⟨(some 22), (.move (.tmp 21)), none⟩,
   ⟨(some 23), (.move (.tmp 1)), (some (22, true))⟩,
   ⟨(some 24), (.move (.tmp 10)), (some (22, true))⟩,
   ⟨(some 25), (.move (.tmp 2)), (some (22, true))⟩,
   ⟨(some 26), (.indexAddr 22 (.tmp 25) (.const (.int .i64 0))), (some (22, true))⟩,
   ⟨(some 27), (.load 3 (.tmp 26)), (some (22, true))⟩,
   ⟨(some 28), (.call (.mk (.value (.func 62)) #[(.tmp 23), (.tmp 24), (.tmp 27)] #[30, 3, 3])), (some (22, true))⟩,
   ⟨(some 29), (.binOp .gtr 3 (.tmp 28) (.const (.int .i64 0)) 3), (some (22, true))⟩,
   ⟨(some 30), (.pick (.tmp 22) (.tmp 29) (.const (.bool false))), none⟩])
 (.cond (.tmp 30) (.reg [⟨(some 31), (.move (.tmp 9)), none⟩,
   ⟨(some 32), (.move (.tmp 2)), none⟩,
   ⟨(some 33), (.call (.mk (.value (.func 63)) #[(.tmp 32)] #[22])), none⟩,
   ⟨(some 34), (.buildSlice 33 1 #[(0, (.tmp 33))]), none⟩,
   ⟨(some 35), (.call (.mk (.builtin .append) #[(.tmp 31), (.tmp 34)] #[33, 33])), none⟩,
   ⟨(some 9), (.assign (.tmp 35)), none⟩]) .skip))
 (.seq (.seq (.reg [⟨(some 36), (.move (.tmp 2)), none⟩,
   ⟨(some 37), (.indexAddr 22 (.tmp 36) (.const (.int .i64 0))), none⟩,
   ⟨(some 38), (.load 3 (.tmp 37)), none⟩,
   ⟨(some 39), (.binOp .add 3 (.tmp 38) (.const (.int .i64 1)) 3), none⟩,
   ⟨(some 11), (.assign (.tmp 39)), none⟩])
 (.block 0 (.loop (.seq (.seq (.reg [⟨(some 40), (.move (.tmp 11)), none⟩,
   ⟨(some 41), (.move (.tmp 0)), none⟩,
   ⟨(some 42), (.binOp .lss 3 (.tmp 40) (.tmp 41) 3), none⟩,
   ⟨(some 43), (.move (.tmp 42)), none⟩,
   ⟨(some 44), (.move (.tmp 9)), (some (43, true))⟩,
   ⟨(some 45), (.call (.mk (.builtin .len) #[(.tmp 44)] #[33])), (some (43, true))⟩,
   ⟨(some 46), (.move (.tmp 3)), (some (43, true))⟩,
   ⟨(some 47), (.binOp .lss 3 (.tmp 45) (.tmp 46) 3), (some (43, true))⟩,
   ⟨(some 48), (.pick (.tmp 43) (.tmp 47) (.const (.bool false))), none⟩])
 (.cond (.tmp 48) .skip (.exit 0)))
 (.seq (.block 1 (.seq (.reg [⟨(some 51), (.move (.tmp 2)), none⟩,
   ⟨(some 52), (.move (.tmp 11)), none⟩,
   ⟨(some 53), (.call (.mk (.value (.func 48)) #[(.tmp 51), (.tmp 52)] #[22, 3])), none⟩,
   ⟨(some 54), (.unOp .not 4 (.tmp 53)), none⟩,
   ⟨(some 55), (.move (.tmp 54)), none⟩,
   ⟨(some 56), (.move (.tmp 1)), (some (55, true))⟩,
   ⟨(some 57), (.move (.tmp 10)), (some (55, true))⟩,
   ⟨(some 58), (.move (.tmp 11)), (some (55, true))⟩,
   ⟨(some 59), (.call (.mk (.value (.func 62)) #[(.tmp 56), (.tmp 57), (.tmp 58)] #[30, 3, 3])), (some (55, true))⟩,
   ⟨(some 60), (.binOp .gtr 3 (.tmp 59) (.const (.int .i64 0)) 3), (some (55, true))⟩,
   ⟨(some 61), (.pick (.tmp 55) (.tmp 60) (.const (.bool false))), none⟩])
 (.cond (.tmp 61) (.reg [⟨(some 62), (.move (.tmp 9)), none⟩,
   ⟨(some 63), (.move (.tmp 0)), none⟩,
   ⟨(some 64), (.move (.tmp 1)), none⟩,
   ⟨(some 65), (.move (.tmp 2)), none⟩,
   ⟨(some 66), (.call (.mk (.value (.func 63)) #[(.tmp 65)] #[22])), none⟩,
   ⟨(some 67), (.move (.tmp 11)), none⟩,
   ⟨(some 68), (.buildSlice 22 1 #[(0, (.tmp 67))]), none⟩,
   ⟨(some 69), (.call (.mk (.builtin .append) #[(.tmp 66), (.tmp 68)] #[22, 22])), none⟩,
   ⟨(some 70), (.move (.tmp 3)), none⟩,
   ⟨(some 71), (.call (.mk (.value (.func 42)) #[(.tmp 63), (.tmp 64), (.tmp 69), (.tmp 70)] #[3, 30, 22, 3])), none⟩,
   ⟨(some 72), (.call (.mk (.builtin .append) #[(.tmp 62), (.tmp 71)] #[33, 33])), none⟩,
   ⟨(some 9), (.assign (.tmp 72)), none⟩]) .skip)))
 (.reg [⟨(some 49), (.move (.tmp 11)), none⟩,
   ⟨(some 50), (.binOp .add 3 (.tmp 49) (.const (.int .i64 1)) 3), none⟩,
   ⟨(some 11), (.assign (.tmp 50)), none⟩]))))))
 (.seq (.reg [⟨(some 73), (.move (.tmp 9)), none⟩,
   ⟨(some 8), (.assign (.tmp 73)), none⟩])
 .ret))))))
theorem x_spec_l20From : Txt Tryd.prog 42 c_spec_l20From [.tmp 8] 4 := ⟨by kernel_rfl, by kernel_rfl, _, _, Tryd.func42, rfl, by kernel_rfl, by kernel_rfl, by kernel_rfl, rfl, by decide⟩
/-- loop.example/g01062/impl.isCircle -/
def c_impl_isCircle : Cd :=
 (.seq (.reg [⟨(some 6), (.assign (.const (.bool false))), none⟩])
 (.seq (.seq (.reg [⟨(some 9), (.move (.tmp 0)), none⟩,
   ⟨(some 10), (.move (.tmp 2)), none⟩,
   ⟨(some 11), (.call (.mk (.value (.func 32)) #[(.tmp 9), (.tmp 10)] #[3, 22])), none⟩,
   ⟨(some 12), (.unOp .not 4 (.tmp 11)), none⟩])
 (.cond (.tmp 12) (.seq (.reg [⟨(some 6), (.assign (.const (.bool false))), none⟩])
 .ret) .skip))
 (.seq (.seq (.reg [⟨(some 13), (.move (.tmp 2)), none⟩,
   ⟨(some 14), (.call (.mk (.builtin .len) #[(.tmp 13)] #[22])), none⟩,
   ⟨(some 15), (.move (.const (.int .i64 0))), none⟩])
 (.block 0 (.loop (.seq (.reg [⟨(some 16), (.binOp .lss 3 (.tmp 15) (.tmp 14) 3), none⟩])
 (.seq (.cond (.tmp 16) .skip (.exit 0))
 (.seq (.block 1 (.seq (.reg [⟨(some 17), (.move (.tmp 15)), none⟩,
   ⟨(some 18), (.indexAddr 22 (.tmp 13) (.tmp 15)), none⟩,
   ⟨(some 19), (.load 3 (.tmp 18)), none⟩,
   ⟨(some 7), (.assign (.tmp 17)), none⟩,
   ⟨(some 8), (.assign (.tmp 19)), none⟩])
 (.seq (.reg [⟨(some 20), (.move (.tmp 1)), none⟩,
   ⟨(some 21), (.move (.tmp 8)), none⟩,
   ⟨(some 22), (.move (.tmp 2)), none⟩,
   ⟨(some 23), (.move (.tmp 7)), none⟩,
   ⟨(some 24), (.binOp .add 3 (.tmp 23) (.const (.int .i64 1)) 3), none⟩,
   ⟨(some 25), (.move (.tmp 2)), none⟩,
   ⟨(some 26), (.call (.mk (.builtin .len) #[(.tmp 25)] #[22])), none⟩,
   ⟨(some 27), (.binOp .rem 3 (.tmp 24) (.tmp 26) 3), none⟩,
   ⟨(some 28), (.indexAddr 22 (.tmp 22) (.tmp 27)), none⟩,
   ⟨(some 29), (.load 3 (.tmp 28)), none⟩,
   ⟨(some 30), (.call (.mk (.value (.func 60)) #[(.tmp 20), (.tmp 21), (.tmp 29)] #[30, 3, 3])), none⟩,
   ⟨(some 31), (.binOp .eql 3 (.tmp 30) (.const (.int .i64 0)) 3), none⟩])
 (.cond (.tmp 31) (.seq (.reg [⟨(some 6), (.assign (.const (.bool false))), none⟩])
 .ret) .skip))))
 (.reg [⟨(some 32), (.binOp .add 3 (.tmp 15) (.const (.int .i64 1)) 3), none⟩,
   ⟨(some 15), (.move (.tmp 32)), none⟩])))))))
 (.seq (.reg [⟨(some 6), (.assign (.const (.bool true))), none⟩])
 .ret))))
theorem x_impl_isCircle : Txt Tryd.prog 43 c_impl_isCircle [.tmp 6] 3 := ⟨by kernel_rfl, by kernel_rfl, _, _, Tryd.func43, rfl, by kernel_rfl, by kernel_rfl, by kernel_rfl, rfl, by decide⟩
/-- loop.example/g01062/impl.gainOf -/
def c_impl_gainOf : Cd :=
 (.seq (.reg [⟨(some 4), (.assign (.const (.int .i64 0))), none⟩])
 (.seq (.reg [⟨(some 5), (.assign (.const (.int .i64 0))), none⟩])
 (.seq (.seq (.reg [⟨(some 8), (.move (.tmp 1)), none⟩,
   ⟨(some 9), (.call (.mk (.builtin .len) #[(.tmp 8)] #[22])), none⟩,
   ⟨(some 10), (.move (.const (.int .i64 0))), none⟩])
 (.block 0 (.loop (.seq (.reg [⟨(some 11), (.binOp .lss 3 (.tmp 10) (.tmp 9) 3), none⟩])
 (.seq (.cond (.tmp 11) .skip (.exit 0))
 (.seq (.block 1 (.seq (.reg [⟨(some 12), (.move (.tmp 10)), none⟩,
   ⟨(some 13), (.indexAddr 22 (.tmp 8) (.tmp 10)), none⟩,
   ⟨(some 14), (.load 3 (.tmp 13)), none⟩,
   ⟨(some 6), (.assign (.tmp 12)), none⟩,
   ⟨(some 7), (.assign (.tmp 14)), none⟩])
 (.reg [⟨(some 15), (.move (.tmp 5)), none⟩,
   ⟨(some 16), (.move (.tmp 0)), none⟩,
   ⟨(some 17), (.move (.tmp 7)), none⟩,
   ⟨(some 18), (.move (.tmp 1)), none⟩,
   ⟨(some 19), (.move (.tmp 6)), none⟩,
   ⟨(some 20), (.binOp .add 3 (.tmp 19) (.const (.int .i64 1)) 3), none⟩,
   ⟨(some 21), (.move (.tmp 1)), none⟩,
   ⟨(some 22), (.call (.mk (.builtin .len) #[(.tmp 21)] #[22])), none⟩,
   ⟨(some 23), (.binOp .rem 3 (.tmp 20) (.tmp 22) 3), none⟩,
   ⟨(some 24), (.indexAddr 22 (.tmp 18) (.tmp 23)), none⟩,
   ⟨(some 25), (.load 3 (.tmp 24)), none⟩,
   ⟨(some 26), (.call (.mk (.value (.func 60)) #[(.tmp 16), (.tmp 17), (.tmp 25)] #[30, 3, 3])), none⟩,
   ⟨(some 27), (.binOp .add 3 (.tmp 15) (.tmp 26) 3), none⟩,
   ⟨(some 5), (.assign (.tmp 27)), none⟩])))
 (.reg [⟨(some 28), (.binOp .add 3 (.tmp 10) (.const (.int .i64 1)) 3), none⟩,
   ⟨(some 10), (.move (.tmp 28)), none⟩])))))))
 (.seq (.reg [⟨(some 29), (.move (.tmp 5)), none⟩,
   ⟨(some 4), (.assign (.tmp 29)), none⟩])
 .ret))))
theorem x_impl_gainOf : Txt Tryd.prog 44 c_impl_gainOf [.tmp 4] 2 := ⟨by kernel_rfl, by kernel_rfl, _, _, Tryd.func44, rfl, by kernel_rfl, by kernel_rfl, by kernel_rfl, rfl, by decide⟩
/-- loop.example/g01062/impl.allCircles -/
def c_impl_allCircles : Cd :=
 (.seq (.reg [⟨(some 4), (.assign (.const (.slice none 0 0))), none⟩])
 (.seq (.reg [⟨(some 5), (.assign (.const (.slice none 0 0))), none⟩])
 (.seq (.seq (.reg [⟨(some 7), (.move (.tmp 0)), none⟩,
   ⟨(some 8), (.move (.const (.int .i64 0))), none⟩])
 (.block 0 (.loop (.seq (.reg [⟨(some 9), (.binOp .lss 3 (.tmp 8) (.tmp 7) 3), none⟩])
 (.seq (.cond (.tmp 9) .skip (.exit 0))
 (.seq (.block 1 (.seq (.reg [⟨(some 10), (.move (.tmp 8)), none⟩,
   ⟨(some 6), (.assign (.tmp 10)), none⟩])
 (.reg [⟨(some 11), (.move (.tmp 5)), none⟩,
   ⟨(some 12), (.move (.tmp 0)), none⟩,
   ⟨(some 13), (.move (.tmp 1)), none⟩,
   ⟨(some 14), (.move (.tmp 6)), none⟩,
   ⟨(some 15), (.call (.mk (.value (.func 39)) #[(.tmp 12), (.tmp 13), (.tmp 14)] #[3, 30, 3])), none⟩,
   ⟨(some 16), (.call (.mk (.builtin .append) #[(.tmp 11), (.tmp 15)] #[33, 33])), none⟩,
   ⟨(some 5), (.assign (.tmp 16)), none⟩])))
 (.reg [⟨(some 17), (.binOp .add 3 (.tmp 8) (.const (.int .i64 1)) 3), none⟩,
   ⟨(some 8), (.move (.tmp 17)), none⟩])))))))
 (.seq (.reg [⟨(some 18), (.move (.tmp 5)), none⟩,
   ⟨(some 4), (.assign (.tmp 18)), none⟩])
 .ret))))
theorem x_impl_allCircles : Txt Tryd.prog 45 c_impl_allCircles [.tmp 4] 2 := ⟨by kernel_rfl, by kernel_rfl, _, _, Tryd.func45, rfl, by kernel_rfl, by kernel_rfl, by kernel_rfl, rfl, by decide⟩
/-- loop.example/g01062/spec.l20All -/
def c_spec_l20All : Cd :=
 (.seq (.reg [⟨(some 4), (.assign (.const (.slice none 0 0))), none⟩])
 (.seq (.reg [⟨(some 7), (.buildSlice 33 0 #[]), none⟩,
   ⟨(some 5), (.assign (.tmp 7)), none⟩])
 (.seq (.seq (.reg [⟨(some 6), (.assign (.const (.int .i64 0))), none⟩])
 (.block 0 (.loop (.seq (.seq (.reg [⟨(some 8), (.move (.tmp 6)), none⟩,
   ⟨(some 9), (.move (.tmp 0)), none⟩,
   ⟨(some 10), (.binOp .lss 3 (.tmp 8) (.tmp 9) 3), none⟩])
 (.cond (.tmp 10) .skip (.exit 0)))
 (.seq (.block 1 (.reg [⟨(some 13), (.move (.tmp 5)), none⟩,
   ⟨(some 14), (.move (.tmp 0)), none⟩,
   ⟨(some 15), (.move (.tmp 1)), none⟩,
   ⟨(some 16), (.move (.tmp 6)), none⟩,
   ⟨(some 17), (.buildSlice 22 1 #[(0, (.tmp 16))]), none⟩,
   ⟨(some 18), (.call (.mk (.value (.func 42)) #[(.tmp 14), (.tmp 15), (.tmp 17), (.const (.int .i64 1000000))] #[3, 30, 22, 3])), none⟩,
   ⟨(some 19), (.call (.mk (.builtin .append) #[(.tmp 13), (.tmp 18)] #[33, 33])), none⟩,
   ⟨(some 5), (.assign (.tmp 19)), none⟩]))
 (.reg [⟨(some 11), (.move (.tmp 6)), none⟩,
   ⟨(some 12), (.binOp .add 3 (.tmp 11) (.const (.int .i64 1)) 3), none⟩,
   ⟨(some 6), (.assign (.tmp 12)), none⟩]))))))
 (.seq (.reg [⟨(some 20), (.move (.tmp 5)), none⟩,
   ⟨(some 4), (.assign (.tmp 20)), none⟩])
 .ret))))
theorem x_spec_l20All : Txt Tryd.prog 46 c_spec_l20All [.tmp 4] 2 := ⟨by kernel_rfl, by kernel_rfl, _, _, Tryd.func46, rfl, by kernel_rfl, by kernel_rfl, by kernel_rfl, rfl, by decide⟩
/-- loop.example/g01062/spec.l20Sum -/
def c_spec_l20Sum : Cd :=
 (.seq (.reg [⟨(some 6), (.assign (.const (.int .i64 0))), none⟩])
 (.seq (.seq (.reg [⟨(some 10), (.move (.tmp 0)), none⟩,
   ⟨(some 11), (.move (.tmp 2)), none⟩,
   ⟨(some 12), (.call (.mk (.value (.func 30)) #[(.tmp 10), (.tmp 11)] #[3, 22])), none⟩,
   ⟨(some 13), (.unOp .not 4 (.tmp 12)), none⟩])
 (.cond (.tmp 13) (.seq (.reg [⟨(some 6), (.assign (.const (.int .i64 0))), none⟩])
 .ret) .skip))
 (.seq (.reg [⟨(some 7), (.assign (.const (.int .i64 0))), none⟩])
 (.seq (.seq (.reg [⟨(some 8), (.assign (.const (.int .i64 0))), none⟩])
 (.block 0 (.loop (.seq (.seq (.reg [⟨(some 14), (.move (.tmp 8)), none⟩,
   ⟨(some 15), (.move (.tmp 2)), none⟩,
   ⟨(some 16), (.call (.mk (.builtin .len) #[(.tmp 15)] #[22])), none⟩,
   ⟨(some 17), (.binOp .lss 3 (.tmp 14) (.tmp 16) 3), none⟩])
 (.cond (.tmp 17) .skip (.exit 0)))
 (.seq (.block 1 (.seq (.regq [⟨(some 20), (.move (.tmp 1)), none⟩,
   ⟨(some 21), (.move (.tmp 2)), none⟩,
   ⟨(some 22), (.move (.tmp 8)), none⟩,
   ⟨(some 23), (.indexAddr 22 (.tmp 21) (.tmp 22)), none⟩,
   ⟨(some 24), (.load 3 (.tmp 23)), none⟩,
   ⟨(some 25), (.move (.tmp 2)), none⟩,
   ⟨(some 26), (.move (.tmp 8)), none⟩,
   ⟨(some 27), (.binOp .add 3 (.tmp 26) (.const (.int .i64 1)) 3), none⟩,
   ⟨(some 28), (.move (.tmp 2)), none⟩,
   ⟨(some 29), (.call (.mk (.builtin .len) #[(.tmp 28)] #[22])), none⟩,
   ⟨(some 30), (.binOp .rem 3 (.tmp 27) (.tmp 29) 3), none⟩,
   ⟨(some 31), (.indexAddr 22 (.tmp 25) (.tmp 30)), none⟩,
   ⟨(some 32), (.load 3 (.tmp 31)), none⟩,
   ⟨(some 33), (.call (.mk (.value (.func 62)) #[(.tmp 20), (.tmp 24), (.tmp 32)] #[30, 3, 3])), none⟩,
   ⟨(some 9), (.assign (.tmp 33)), none⟩])
 (.seq (.seq (.reg [⟨(some 34), (.move (.tmp 9)), none⟩,
   ⟨(some 35), (.binOp .eql 3 (.tmp 34) (.const (.int .i64 0)) 3), none⟩])
 (.cond (.tmp 35) (.seq (.reg [⟨(some 6), (.assign (.const (.int .i64 0))), none⟩])
 .ret) .skip))
 (.reg [⟨(some 36), (.move (.tmp 7)), none⟩,
   ⟨(some 37), (.move (.tmp 9)), none⟩,
   ⟨(some 38), (.binOp .add 3 (.tmp 36) (.tmp 37) 3), none⟩,
   ⟨(some 7), (.assign (.tmp 38)), none⟩]))))
 (.reg [⟨(some 18), (.move (.tmp 8)), none⟩,
   ⟨(some 19), (.binOp .add 3 (.tmp 18) (.const (.int .i64 1)) 3), none⟩,
   ⟨(some 8), (.assign (.tmp 19)), none⟩]))))))
 (.seq (.reg [⟨(some 39), (.move (.tmp 7)), none⟩,
   ⟨(some 6), (.assign (.tmp 39)), none⟩])
 .ret)))))
theorem x_spec_l20Sum : Txt Tryd.prog 47 c_spec_l20Sum [.tmp 6] 3 := ⟨by kernel_rfl, by kernel_rfl, _, _, Tryd.func47, rfl, by kernel_rfl, by kernel_rfl, by kernel_rfl, rfl, by decide⟩
/-- loop.example/g01062/spec.l1Has -/
def c_spec_l1Has : Cd :=
 (.seq (.reg [⟨(some 4), (.assign (.const (.bool false))), none⟩])
 (.seq (.seq (.reg [⟨(some 5), (.assign (.const (.int .i64 0))), none⟩])
 (.block 0 (.loop (.seq (.seq (.reg [⟨(some 6), (.move (.tmp 5)), none⟩,
   ⟨(some 7), (.move (.tmp 0)), none⟩,
   ⟨(some 8), (.call (.mk (.builtin .len) #[(.tmp 7)] #[22])), none⟩,
   ⟨(some 9), (.binOp .lss 3 (.tmp 6) (.tmp 8) 3), none⟩])
 (.cond (.tmp 9) .skip (.exit 0)))
 (.seq (.block 1 (.seq (.reg [⟨(some 12), (.move (.tmp 0)), none⟩,
   ⟨(some 13), (.move (.tmp 5)), none⟩,
   ⟨(some 14), (.indexAddr 22 (.tmp 12) (.tmp 13)), none⟩,
   ⟨(some 15), (.load 3 (.tmp 14)), none⟩,
   ⟨(some 16), (.move (.tmp 1)), none⟩,
   ⟨(some 17), (.binOp .eql 3 (.tmp 15) (.tmp 16) 3), none⟩])
 (.cond (.tmp 17) (.seq (.reg [⟨(some 4), (.assign (.const (.bool true))), none⟩])
 .ret) .skip)))
 (.reg [⟨(some 10), (.move (.tmp 5)), none⟩,
   ⟨(some 11), (.binOp .add 3 (.tmp 10) (.const (.int .i64 1)) 3), none⟩,
   ⟨(some 5), (.assign (.tmp 11)), none⟩]))))))
 (.seq (.reg [⟨(some 4), (.assign (.const (.bool false))), none⟩])
 .ret)))
theorem x_spec_l1Has : Txt Tryd.prog 48 c_spec_l1Has [.tmp 4] 2 := ⟨by kernel_rfl, by kernel_rfl, _, _, Tryd.func48, rfl, by kernel_rfl, by kernel_rfl, by kernel_rfl, rfl, by decide⟩
/-- (*loop.example/g01062/spec.l1Cur).circleOf -/
def c_spec_l1Cur_circleOf : Cd :=
 (.seq (.reg [⟨(some 6), (.assign (.const (.slice none 0 0))), none⟩])
 (.seq (.seq (.reg [⟨(some 8), (.move (.tmp 1)), none⟩,
   ⟨(some 9), (.move (.tmp 2)), none⟩,
   ⟨(some 10), (.call (.mk (.value (.func 40)) #[(.tmp 8), (.tmp 9)] #[3, 30])), none⟩,
   ⟨(some 11), (.move (.tmp 10)), none⟩,
   ⟨(some 12), (.move (.tmp 0)), (some (11, true))⟩,
   ⟨(some 13), (.call (.mk (.value (.func 55)) #[(.tmp 12), (.const (.int .i64 4))] #[53, 3])), (some (11, true))⟩,
   ⟨(some 14), (.unOp .not 4 (.tmp 13)), (some (11, true))⟩,
   ⟨(some 15), (.pick (.tmp 11) (.tmp 14) (.const (.bool false))), none⟩])
 (.cond (.tmp 15) (.seq (.reg [⟨(some 16), (.move (.tmp 1)), none⟩,
   ⟨(some 17), (.move (.tmp 2)), none⟩,
   ⟨(some 18), (.call (.mk (.value (.func 46)) #[(.tmp 16), (.tmp 17)] #[3, 30])), none⟩,
   ⟨(some 7), (.assign (.tmp 18)), none⟩])
 (.seq (.reg [⟨(some 19), (.move (.tmp 7)), none⟩,
   ⟨(some 20), (.call (.mk (.builtin .len) #[(.tmp 19)] #[33])), none⟩,
   ⟨(some 21), (.binOp .gtr 3 (.tmp 20) (.const (.int .i64 0)) 3), none⟩])
 (.cond (.tmp 21) (.seq (.reg [⟨(some 22), (.move (.tmp 7)), none⟩,
   ⟨(some 23), (.move (.tmp 0)), none⟩,
   ⟨(some 24), (.move (.tmp 7)), none⟩,
   ⟨(some 25), (.call (.mk (.builtin .len) #[(.tmp 24)] #[33])), none⟩,
   ⟨(some 26), (.call (.mk (.value (.func 36)) #[(.tmp 23), (.tmp 25)] #[53, 3])), none⟩,
   ⟨(some 27), (.indexAddr 33 (.tmp 22) (.tmp 26)), none⟩,
   ⟨(some 28), (.load 22 (.tmp 27)), none⟩,
   ⟨(some 29), (.call (.mk (.value (.func 63)) #[(.tmp 28)] #[22])), none⟩,
   ⟨(some 6), (.assign (.tmp 29)), none⟩])
 .ret) .skip))) .skip))
 (.seq (.reg [⟨(some 30), (.buildSlice 22 0 #[]), none⟩,
   ⟨(some 31), (.buildSlice 22 1 #[(0, (.const (.int .i64 0)))]), none⟩,
   ⟨(some 32), (.buildSlice 22 2 #[(0, (.const (.int .i64 0))), (1, (.const (.int .i64 1)))]), none⟩,
   ⟨(some 33), (.buildSlice 22 2 #[(0, (.const (.int .i64 1))), (1, (.const (.int .i64 0)))]), none⟩,
   ⟨(some 34), (.buildSlice 22 3 #[(0, (.const (.int .i64 0))), (1, (.const (.int .i64 1))), (2, (.const (.int .i64 2)))]), none⟩,
   ⟨(some 35), (.buildSlice 22 2 #[(0, (.const (.int .i64 0))), (1, (.const (.int .i64 0)))]), none⟩,
   ⟨(some 36), (.buildSlice 22 2 #[(0, (.const (.int .i64 0))), (1, (.const (.int .i64 9)))]), none⟩,
   ⟨(some 37), (.buildSlice 33 7 #[(0, (.tmp 30)), (1, (.tmp 31)), (2, (.tmp 32)), (3, (.tmp 33)), (4, (.tmp 34)), (5, (.tmp 35)), (6, (.tmp 36))]), none⟩,
   ⟨(some 38), (.move (.tmp 0)), none⟩,
   ⟨(some 39), (.call (.mk (.value (.func 36)) #[(.tmp 38), (.const (.int .i64 7))] #[53, 3])), none⟩,
   ⟨(some 40), (.indexAddr 33 (.tmp 37) (.tmp 39)), none⟩,
   ⟨(some 41), (.load 22 (.tmp 40)), none⟩,
   ⟨(some 6), (.assign (.tmp 41)), none⟩])
 .ret)))
theorem x_spec_l1Cur_circleOf : Txt Tryd.prog 49 c_spec_l1Cur_circleOf [.tmp 6] 3 := ⟨by kernel_rfl, by kernel_rfl, _, _, Tryd.func49, rfl, by kernel_rfl, by kernel_rfl, by kernel_rfl, rfl, by decide⟩
/-- loop.example/g01062/spec.l1In -/
def c_spec_l1In : Cd :=
 (.seq (.reg [⟨(some 6), (.assign (.const (.bool false))), none⟩])
 (.seq (.reg [⟨(some 7), (.move (.tmp 0)), none⟩,
   ⟨(some 8), (.move (.tmp 1)), none⟩,
   ⟨(some 9), (.binOp .geq 3 (.tmp 7) (.tmp 8) 3), none⟩,
   ⟨(some 10), (.move (.tmp 9)), none⟩,
   ⟨(some 11), (.move (.tmp 0)), (some (10, true))⟩,
   ⟨(some 12), (.move (.tmp 2)), (some (10, true))⟩,
   ⟨(some 13), (.binOp .leq 3 (.tmp 11) (.tmp 12) 3), (some (10, true))⟩,
   ⟨(some 14), (.pick (.tmp 10) (.tmp 13) (.const (.bool false))), none⟩,
   ⟨(some 6), (.assign (.tmp 14)), none⟩])
 .ret))
theorem x_spec_l1In : Txt Tryd.prog 50 c_spec_l1In [.tmp 6] 3 := ⟨by kernel_rfl, by kernel_rfl, _, _, Tryd.func50, rfl, by kernel_rfl, by kernel_rfl, by kernel_rfl, rfl, by decide⟩
/-- slices.Contains[[]int,int] -/
def c_slices_Contains_int : Cd :=
 (.seq (.reg [⟨(some 4), (.assign (.const (.bool false))), none⟩])
 (.seq (.reg [⟨(some 5), (.move (.tmp 0)), none⟩,
   ⟨(some 6), (.move (.tmp 1)), none⟩,
   ⟨(some 7), (.call (.mk (.value (.func 64)) #[(.tmp 5), (.tmp 6)] #[22, 3])), none⟩,
   ⟨(some 8), (.binOp .geq 3 (.tmp 7) (.const (.int .i64 0)) 3), none⟩,
   ⟨(some 4), (.assign (.tmp 8)), none⟩])
 .ret))
theorem x_slices_Contains_int : Txt Tryd.prog 51 c_slices_Contains_int [.tmp 4] 2 := ⟨by kernel_rfl, by kernel_rfl, _, _, Tryd.func51, rfl, by kernel_rfl, by kernel_rfl, by kernel_rfl, rfl, by decide⟩
/-- (*loop.example/g01062/spec.l1Cur).among -/
def c_spec_l1Cur_among : Cd :=
 (.seq (.reg [⟨(some 4), (.assign (.const (.int .i64 0))), none⟩])
 (.seq (.reg [⟨(some 5), (.move (.tmp 1)), none⟩,
   ⟨(some 6), (.move (.tmp 0)), none⟩,
   ⟨(some 7), (.move (.tmp 1)), none⟩,
   ⟨(some 8), (.call (.mk (.builtin .len) #[(.tmp 7)] #[22])), none⟩,
   ⟨(some 9), (.call (.mk (.value (.func 36)) #[(.tmp 6), (.tmp 8)] #[53, 3])), none⟩,
   ⟨(some 10), (.indexAddr 22 (.tmp 5) (.tmp 9)), none⟩,
   ⟨(some 11), (.load 3 (.tmp 10)), none⟩,
   ⟨(some 4), (.assign (.tmp 11)), none⟩])
 .ret))
theorem x_spec_l1Cur_among : Txt Tryd.prog 54 c_spec_l1Cur_among [.tmp 4] 2 := ⟨by kernel_rfl, by kernel_rfl, _, _, Tryd.func54, rfl, by kernel_rfl, by kernel_rfl, by kernel_rfl, rfl, by decide⟩
/-- (*loop.example/g01062/spec.l1Cur).one -/
def c_spec_l1Cur_one : Cd :=
 (.seq (.reg [⟨(some 4), (.assign (.const (.bool false))), none⟩])
 (.seq (.reg [⟨(some 5), (.move (.tmp 0)), none⟩,
   ⟨(some 6), (.move (.tmp 1)), none⟩,
   ⟨(some 7), (.call (.mk (.value (.func 36)) #[(.tmp 5), (.tmp 6)] #[53, 3])), none⟩,
   ⟨(some 8), (.binOp .eql 3 (.tmp 7) (.const (.int .i64 0)) 3), none⟩,
   ⟨(some 4), (.assign (.tmp 8)), none⟩])
 .ret))
theorem x_spec_l1Cur_one : Txt Tryd.prog 55 c_spec_l1Cur_one [.tmp 4] 2 := ⟨by kernel_rfl, by kernel_rfl, _, _, Tryd.func55, rfl, by kernel_rfl, by kernel_rfl, by kernel_rfl, rfl, by decide⟩
/-- (*loop.example/g01062/spec.l1Cur).next -/
def c_spec_l1Cur_next : Cd :=
 (.seq (.reg [⟨(some 2), (.assign (.const (.int .i64 0))), none⟩])
 (.seq (.reg [⟨(some 3), (.assign (.const (.int .i64 0))), none⟩])
 (.seq (.seq (.regq [⟨(some 4), (.move (.tmp 0)), none⟩,
   ⟨(some 5), (.nilCheck (.tmp 4)), none⟩,
   ⟨(some 6), (.fieldAddr 56 (.tmp 5) 1), none⟩,
   ⟨(some 7), (.load 3 (.tmp 6)), none⟩,
   ⟨(some 8), (.move (.tmp 0)), none⟩,
   ⟨(some 9), (.nilCheck (.tmp 8)), none⟩,
   ⟨(some 10), (.fieldAddr 56 (.tmp 9) 0), none⟩,
   ⟨(some 11), (.load 28 (.tmp 10)), none⟩,
   ⟨(some 12), (.call (.mk (.builtin .len) #[(.tmp 11)] #[28])), none⟩,
   ⟨(some 13), (.binOp .lss 3 (.tmp 7) (.tmp 12) 3), none⟩])
 (.cond (.tmp 13) (.regq [⟨(some 14), (.move (.tmp 0)), none⟩,
   ⟨(some 15), (.nilCheck (.tmp 14)), none⟩,
   ⟨(some 16), (.fieldAddr 56 (.tmp 15) 0), none⟩,
   ⟨(some 17), (.load 28 (.tmp 16)), none⟩,
   ⟨(some 18), (.move (.tmp 0)), none⟩,
   ⟨(some 19), (.nilCheck (.tmp 18)), none⟩,
   ⟨(some 20), (.fieldAddr 56 (.tmp 19) 1), none⟩,
   ⟨(some 21), (.load 3 (.tmp 20)), none⟩,
   ⟨(some 22), (.indexAddr 28 (.tmp 17) (.tmp 21)), none⟩,
   ⟨(some 23), (.load 5 (.tmp 22)), none⟩,
   ⟨(some 24), (.convert 5 3 (.tmp 23)), none⟩,
   ⟨(some 3), (.assign (.tmp 24)), none⟩]) .skip))
 (.seq (.reg [⟨(some 25), (.move (.tmp 0)), none⟩,
   ⟨(some 26), (.nilCheck (.tmp 25)), none⟩,
   ⟨(some 27), (.fieldAddr 56 (.tmp 26) 1), none⟩,
   ⟨(some 28), (.load 3 (.tmp 27)), none⟩,
   ⟨(some 29), (.binOp .add 3 (.tmp 28) (.const (.int .i64 1)) 3), none⟩,
   ⟨(some 30), (.nilCheck (.tmp 25)), none⟩,
   ⟨(some 31), (.fieldAddr 56 (.tmp 30) 1), none⟩,
   ⟨none, (.store 3 (.tmp 31) (.tmp 29)), none⟩])
 (.seq (.reg [⟨(some 32), (.move (.tmp 0)), none⟩,
   ⟨(some 33), (.move (.tmp 0)), none⟩,
   ⟨(some 34), (.nilCheck (.tmp 33)), none⟩,
   ⟨(some 35), (.fieldAddr 56 (.tmp 34) 2), none⟩,
   ⟨(some 36), (.load 54 (.tmp 35)), none⟩,
   ⟨(some 37), (.binOp .mul 54 (.tmp 36) (.const (.int .u64 6364136223846793005)) 54), none⟩,
   ⟨(some 38), (.move (.tmp 3)), none⟩,
   ⟨(some 39), (.convert 3 54 (.tmp 38)), none⟩,
   ⟨(some 40), (.binOp .add 54 (.tmp 37) (.tmp 39) 54), none⟩,
   ⟨(some 41), (.binOp .add 54 (.tmp 40) (.const (.int .u64 381907)) 54), none⟩,
   ⟨(some 42), (.nilCheck (.tmp 32)), none⟩,
   ⟨(some 43), (.fieldAddr 56 (.tmp 42) 2), none⟩,
   ⟨none, (.store 54 (.tmp 43) (.tmp 41)), none⟩])
 (.seq (.seq (.regq [⟨(some 44), (.move (.tmp 0)), none⟩,
   ⟨(some 45), (.nilCheck (.tmp 44)), none⟩,
   ⟨(some 46), (.fieldAddr 56 (.tmp 45) 1), none⟩,
   ⟨(some 47), (.load 3 (.tmp 46)), none⟩,
   ⟨(some 48), (.move (.tmp 0)), none⟩,
   ⟨(some 49), (.nilCheck (.tmp 48)), none⟩,
   ⟨(some 50), (.fieldAddr 56 (.tmp 49) 0), none⟩,
   ⟨(some 51), (.load 28 (.tmp 50)), none⟩,
   ⟨(some 52), (.call (.mk (.builtin .len) #[(.tmp 51)] #[28])), none⟩,
   ⟨(some 53), (.binOp .leq 3 (.tmp 47) (.tmp 52) 3), none⟩])
 (.cond (.tmp 53) (.seq (.reg [⟨(some 54), (.move (.tmp 3)), none⟩,
   ⟨(some 2), (.assign (.tmp 54)), none⟩])
 .ret) .skip))
 (.seq (.reg [⟨(some 55), (.move (.tmp 0)), none⟩,
   ⟨(some 56), (.nilCheck (.tmp 55)), none⟩,
   ⟨(some 57), (.fieldAddr 56 (.tmp 56) 2), none⟩,
   ⟨(some 58), (.load 54 (.tmp 57)), none⟩,
   ⟨(some 59), (.binOp .shr 54 (.tmp 58) (.const (.int .u64 40)) 92), none⟩,
   ⟨(some 60), (.binOp .and 54 (.tmp 59) (.const (.int .u64 255)) 54), none⟩,
   ⟨(some 61), (.convert 54 3 (.tmp 60)), none⟩,
   ⟨(some 2), (.assign (.tmp 61)), none⟩])
 .ret)))))))
theorem x_spec_l1Cur_next : Txt Tryd.prog 56 c_spec_l1Cur_next [.tmp 2] 1 := ⟨by kernel_rfl, by kernel_rfl, _, _, Tryd.func56, rfl, by kernel_rfl, by kernel_rfl, by kernel_rfl, rfl, by decide⟩
/-- cmp.Or[int] -/
def c_cmp_Or_int : Cd :=
 (.seq (.reg [⟨(some 2), (.assign (.const (.int .i64 0))), none⟩])
 (.seq (.reg [⟨(some 3), (.assign (.const (.int .i64 0))), none⟩])
 (.seq (.seq (.reg [⟨(some 6), (.move (.tmp 0)), none⟩,
   ⟨(some 7), (.call (.mk (.builtin .len) #[(.tmp 6)] #[22])), none⟩,
   ⟨(some 8), (.move (.const (.int .i64 0))), none⟩])
 (.block 0 (.loop (.seq (.reg [⟨(some 9), (.binOp .lss 3 (.tmp 8) (.tmp 7) 3), none⟩])
 (.seq (.cond (.tmp 9) .skip (.exit 0))
 (.seq (.block 1 (.seq (.reg [⟨(some 10), (.indexAddr 22 (.tmp 6) (.tmp 8)), none⟩,
   ⟨(some 11), (.load 3 (.tmp 10)), none⟩,
   ⟨(some 5), (.assign (.tmp 11)), none⟩])
 (.seq (.reg [⟨(some 12), (.move (.tmp 5)), none⟩,
   ⟨(some 13), (.move (.tmp 3)), none⟩,
   ⟨(some 14), (.binOp .neq 3 (.tmp 12) (.tmp 13) 3), none⟩])
 (.cond (.tmp 14) (.seq (.reg [⟨(some 15), (.move (.tmp 5)), none⟩,
   ⟨(some 2), (.assign (.tmp 15)), none⟩])
 .ret) .skip))))
 (.reg [⟨(some 16), (.binOp .add 3 (.tmp 8) (.const (.int .i64 1)) 3), none⟩,
   ⟨(some 8), (.move (.tmp 16)), none⟩])))))))
 (.seq (.reg [⟨(some 17), (.move (.tmp 3)), none⟩,
   ⟨(some 2), (.assign (.tmp 17)), none⟩])
 .ret))))
theorem x_cmp_Or_int : Txt Tryd.prog 57 c_cmp_Or_int [.tmp 2] 1 := ⟨by kernel_rfl, by kernel_rfl, _, _, Tryd.func57, rfl, by kernel_rfl, by kernel_rfl, by kernel_rfl, rfl, by decide⟩
/-- cmp.Compare[int] -/
def c_cmp_Compare_int : Cd :=
 (.seq (.reg [⟨(some 4), (.assign (.const (.int .i64 0))), none⟩])
 (.seq (.reg [⟨(some 7), (.move (.tmp 0)), none⟩,
   ⟨(some 8), (.call (.mk (.value (.func 69)) #[(.tmp 7)] #[3])), none⟩,
   ⟨(some 5), (.assign (.tmp 8)), none⟩])
 (.seq (.reg [⟨(some 9), (.move (.tmp 1)), none⟩,
   ⟨(some 10), (.call (.mk (.value (.func 69)) #[(.tmp 9)] #[3])), none⟩,
   ⟨(some 6), (.assign (.tmp 10)), none⟩])
 (.seq (.seq (.reg [⟨(some 11), (.move (.tmp 5)), none⟩])
 (.cond (.tmp 11) (.seq (.seq (.reg [⟨(some 12), (.move (.tmp 6)), none⟩])
 (.cond (.tmp 12) (.seq (.reg [⟨(some 4), (.assign (.const (.int .i64 0))), none⟩])
 .ret) .skip))
 (.seq (.reg [⟨(some 4), (.assign (.const (.int .i64 (-1)))), none⟩])
 .ret)) .skip))
 (.seq (.seq (.reg [⟨(some 13), (.move (.tmp 6)), none⟩])
 (.cond (.tmp 13) (.seq (.reg [⟨(some 4), (.assign (.const (.int .i64 1))), none⟩])
 .ret) .skip))
 (.seq (.seq (.reg [⟨(some 14), (.move (.tmp 0)), none⟩,
   ⟨(some 15), (.move (.tmp 1)), none⟩,
   ⟨(some 16), (.binOp .lss 3 (.tmp 14) (.tmp 15) 3), none⟩])
 (.cond (.tmp 16) (.seq (.reg [⟨(some 4), (.assign (.const (.int .i64 (-1)))), none⟩])
 .ret) .skip))
 (.seq (.seq (.reg [⟨(some 17), (.move (.tmp 0)), none⟩,
   ⟨(some 18), (.move (.tmp 1)), none⟩,
   ⟨(some 19), (.binOp .gtr 3 (.tmp 17) (.tmp 18) 3), none⟩])
 (.cond (.tmp 19) (.seq (.reg [⟨(some 4), (.assign (.const (.int .i64 1))), none⟩])
 .ret) .skip))
 (.seq (.reg [⟨(some 4), (.assign (.const (.int .i64 0))), none⟩])
 .ret))))))))
theorem x_cmp_Compare_int : Txt Tryd.prog 58 c_cmp_Compare_int [.tmp 4] 2 := ⟨by kernel_rfl, by kernel_rfl, _, _, Tryd.func58, rfl, by kernel_rfl, by kernel_rfl, by kernel_rfl, rfl, by decide⟩
/-- loop.example/g01062/impl.circlesOf closure 1 -/
def c_impl_circlesOf_1 : Cd :=
 (.seq (.reg [⟨(some 9), (.move (.tmp 0)), none⟩,
   ⟨(some 10), (.move (.tmp 0)), none⟩,
   ⟨(some 11), (.call (.mk (.builtin .len) #[(.tmp 10)] #[22])), none⟩,
   ⟨(some 12), (.binOp .sub 3 (.tmp 11) (.const (.int .i64 1)) 3), none⟩,
   ⟨(some 13), (.indexAddr 22 (.tmp 9) (.tmp 12)), none⟩,
   ⟨(some 14), (.load 3 (.tmp 13)), none⟩,
   ⟨(some 7), (.assign (.tmp 14)), none⟩])
 (.seq (.seq (.reg [⟨(some 15), (.move (.tmp 0)), none⟩,
   ⟨(some 16), (.call (.mk (.builtin .len) #[(.tmp 15)] #[22])), none⟩,
   ⟨(some 17), (.binOp .gtr 3 (.tmp 16) (.const (.int .i64 1)) 3), none⟩,
   ⟨(some 18), (.move (.tmp 17)), none⟩,
   ⟨(some 19), (.load 30 (.tmp 1)), (some (18, true))⟩,
   ⟨(some 20), (.move (.tmp 7)), (some (18, true))⟩,
   ⟨(some 21), (.load 3 (.tmp 2)), (some (18, true))⟩,
   ⟨(some 22), (.call (.mk (.value (.func 60)) #[(.tmp 19), (.tmp 20), (.tmp 21)] #[30, 3, 3])), (some (18, true))⟩,
   ⟨(some 23), (.binOp .gtr 3 (.tmp 22) (.const (.int .i64 0)) 3), (some (18, true))⟩,
   ⟨(some 24), (.pick (.tmp 18) (.tmp 23) (.const (.bool false))), none⟩])
 (.cond (.tmp 24) (.regt [⟨(some 25), (.load 33 (.tmp 3)), none⟩,
   ⟨(some 26), (.move (.tmp 0)), none⟩] (.one true ⟨(some 27), (.call (.mk (.value (.func 61)) #[(.tmp 26)] #[22])), none⟩
   (.one true ⟨(some 28), (.buildSlice 33 1 #[(0, (.tmp 27))]), none⟩
   (.one false ⟨(some 29), (.call (.mk (.builtin .append) #[(.tmp 25), (.tmp 28)] #[33, 33])), none⟩
   (.one false ⟨none, (.store 33 (.tmp 3) (.tmp 29)), none⟩
   .done)))) [(.tmp 3)]) .skip))
 (.seq (.reg [⟨(some 30), (.load 3 (.tmp 2)), none⟩,
   ⟨(some 31), (.binOp .add 3 (.tmp 30) (.const (.int .i64 1)) 3), none⟩,
   ⟨(some 8), (.assign (.tmp 31)), none⟩])
 (.block 0 (.loop (.seq (.seq (.reg [⟨(some 32), (.move (.tmp 8)), none⟩,
   ⟨(some 33), (.load 3 (.tmp 4)), none⟩,
   ⟨(some 34), (.binOp .lss 3 (.tmp 32) (.tmp 33) 3), none⟩])
 (.cond (.tmp 34) .skip (.exit 0)))
 (.seq (.block 1 (.seq (.reg [⟨(some 37), (.move (.tmp 0)), none⟩,
   ⟨(some 38), (.move (.tmp 8)), none⟩,
   ⟨(some 39), (.call (.mk (.value (.func 51)) #[(.tmp 37), (.tmp 38)] #[22, 3])), none⟩,
   ⟨(some 40), (.unOp .not 4 (.tmp 39)), none⟩,
   ⟨(some 41), (.move (.tmp 40)), none⟩,
   ⟨(some 42), (.load 30 (.tmp 1)), (some (41, true))⟩,
   ⟨(some 43), (.move (.tmp 7)), (some (41, true))⟩,
   ⟨(some 44), (.move (.tmp 8)), (some (41, true))⟩,
   ⟨(some 45), (.call (.mk (.value (.func 60)) #[(.tmp 42), (.tmp 43), (.tmp 44)] #[30, 3, 3])), (some (41, true))⟩,
   ⟨(some 46), (.binOp .gtr 3 (.tmp 45) (.const (.int .i64 0)) 3), (some (41, true))⟩,
   ⟨(some 47), (.pick (.tmp 41) (.tmp 46) (.const (.bool false))), none⟩])
 (.cond (.tmp 47) (.regt [⟨(some 48), (.load 79 (.tmp 5)), none⟩,
   ⟨(some 49), (.move (.tmp 0)), none⟩,
   ⟨(some 50), (.move (.tmp 8)), none⟩] (.one true ⟨(some 51), (.buildSlice 22 1 #[(0, (.tmp 50))]), none⟩
   (.one true ⟨(some 52), (.call (.mk (.builtin .append) #[(.tmp 49), (.tmp 51)] #[22, 22])), none⟩
   (.one false ⟨(some 53), (.call (.mk (.value (.tmp 48)) #[(.tmp 52)] #[22])), none⟩
   .done))) []) .skip)))
 (.reg [⟨(some 35), (.move (.tmp 8)), none⟩,
   ⟨(some 36), (.binOp .add 3 (.tmp 35) (.const (.int .i64 1)) 3), none⟩,
   ⟨(some 8), (.assign (.tmp 36)), none⟩]))))))))
theorem x_impl_circlesOf_1 : Txt Tryd.prog 59 c_impl_circlesOf_1 [] 6 := ⟨by kernel_rfl, by kernel_rfl, _, _, Tryd.func59, rfl, by kernel_rfl, by kernel_rfl, by kernel_rfl, rfl, by decide⟩
/-- loop.example/g01062/impl.gainBetween -/
def c_impl_gainBetween : Cd :=
 (.seq (.reg [⟨(some 6), (.assign (.const (.int .i64 0))), none⟩])
 (.seq (.seq (.reg [⟨(some 9), (.move (.tmp 0)), none⟩,
   ⟨(some 10), (.call (.mk (.builtin .len) #[(.tmp 9)] #[30])), none⟩,
   ⟨(some 11), (.move (.const (.int .i64 0))), none⟩])
 (.block 0 (.loop (.seq (.reg [⟨(some 12), (.binOp .lss 3 (.tmp 11) (.tmp 10) 3), none⟩])
 (.seq (.cond (.tmp 12) .skip (.exit 0))
 (.seq (.block 1 (.seq (.reg [⟨(some 13), (.indexAddr 30 (.tmp 9) (.tmp 11)), none⟩,
   ⟨(some 14), (.load 75 (.tmp 13)), none⟩,
   ⟨(some 8), (.alloc 75), none⟩,
   ⟨none, (.store 75 (.tmp 8) (.tmp 14)), none⟩])
 (.seq (.reg [⟨(some 15), (.fieldAddr 75 (.tmp 8) 0), none⟩,
   ⟨(some 16), (.load 3 (.tmp 15)), none⟩,
   ⟨(some 17), (.move (.tmp 1)), none⟩,
   ⟨(some 18), (.binOp .eql 3 (.tmp 16) (.tmp 17) 3), none⟩,
   ⟨(some 19), (.move (.tmp 18)), none⟩,
   ⟨(some 20), (.fieldAddr 75 (.tmp 8) 1), (some (19, true))⟩,
   ⟨(some 21), (.load 3 (.tmp 20)), (some (19, true))⟩,
   ⟨(some 22), (.move (.tmp 2)), (some (19, true))⟩,
   ⟨(some 23), (.binOp .eql 3 (.tmp 21) (.tmp 22) 3), (some (19, true))⟩,
   ⟨(some 24), (.pick (.tmp 19) (.tmp 23) (.const (.bool false))), none⟩])
 (.cond (.tmp 24) (.seq (.reg [⟨(some 25), (.fieldAddr 75 (.tmp 8) 2), none⟩,
   ⟨(some 26), (.load 3 (.tmp 25)), none⟩,
   ⟨(some 6), (.assign (.tmp 26)), none⟩])
 .ret) .skip))))
 (.reg [⟨(some 27), (.binOp .add 3 (.tmp 11) (.const (.int .i64 1)) 3), none⟩,
   ⟨(some 11), (.move (.tmp 27)), none⟩])))))))
 (.seq (.reg [⟨(some 6), (.assign (.const (.int .i64 0))), none⟩])
 .ret)))
theorem x_impl_gainBetween : Txt Tryd.prog 60 c_impl_gainBetween [.tmp 6] 3 := ⟨by kernel_rfl, by kernel_rfl, _, _, Tryd.func60, rfl, by kernel_rfl, by kernel_rfl, by kernel_rfl, rfl, by decide⟩
/-- slices.Clone[[]int,int] -/
def c_slices_Clone_int : Cd :=
 (.seq (.reg [⟨(some 2), (.assign (.const (.slice none 0 0))), none⟩])
 (.seq (.seq (.reg [⟨(some 3), (.move (.tmp 0)), none⟩,
   ⟨(some 4), (.binOp .eql 22 (.tmp 3) (.const (.slice none 0 0)) 22), none⟩])
 (.cond (.tmp 4) (.seq (.reg [⟨(some 2), (.assign (.const (.slice none 0 0))), none⟩])
 .ret) .skip))
 (.seq (.reg [⟨(some 5), (.buildSlice 22 0 #[]), none⟩,
   ⟨(some 6), (.move (.tmp 0)), none⟩,
   ⟨(some 7), (.call (.mk (.builtin .append) #[(.tmp 5), (.tmp 6)] #[22, 22])), none⟩,
   ⟨(some 2), (.assign (.tmp 7)), none⟩])
 .ret)))
theorem x_slices_Clone_int : Txt Tryd.prog 61 c_slices_Clone_int [.tmp 2] 1 := ⟨by kernel_rfl, by kernel_rfl, _, _, Tryd.func61, rfl, by kernel_rfl, by kernel_rfl, by kernel_rfl, rfl, by decide⟩
/-- loop.example/g01062/spec.l20Gain -/
def c_spec_l20Gain : Cd :=
 (.seq (.reg [⟨(some 6), (.assign (.const (.int .i64 0))), none⟩])
 (.seq (.seq (.reg [⟨(some 7), (.assign (.const (.int .i64 0))), none⟩])
 (.block 0 (.loop (.seq (.seq (.reg [⟨(some 8), (.move (.tmp 7)), none⟩,
   ⟨(some 9), (.move (.tmp 0)), none⟩,
   ⟨(some 10), (.call (.mk (.builtin .len) #[(.tmp 9)] #[30])), none⟩,
   ⟨(some 11), (.binOp .lss 3 (.tmp 8) (.tmp 10) 3), none⟩])
 (.cond (.tmp 11) .skip (.exit 0)))
 (.seq (.block 1 (.seq (.reg [⟨(some 14), (.move (.tmp 0)), none⟩,
   ⟨(some 15), (.move (.tmp 7)), none⟩,
   ⟨(some 16), (.indexAddr 30 (.tmp 14) (.tmp 15)), none⟩,
   ⟨(some 17), (.fieldAddr 75 (.tmp 16) 0), none⟩,
   ⟨(some 18), (.load 3 (.tmp 17)), none⟩,
   ⟨(some 19), (.move (.tmp 1)), none⟩,
   ⟨(some 20), (.binOp .eql 3 (.tmp 18) (.tmp 19) 3), none⟩,
   ⟨(some 21), (.move (.tmp 20)), none⟩,
   ⟨(some 22), (.move (.tmp 0)), (some (21, true))⟩,
   ⟨(some 23), (.move (.tmp 7)), (some (21, true))⟩,
   ⟨(some 24), (.indexAddr 30 (.tmp 22) (.tmp 23)), (some (21, true))⟩,
   ⟨(some 25), (.fieldAddr 75 (.tmp 24) 1), (some (21, true))⟩,
   ⟨(some 26), (.load 3 (.tmp 25)), (some (21, true))⟩,
   ⟨(some 27), (.move (.tmp 2)), (some (21, true))⟩,
   ⟨(some 28), (.binOp .eql 3 (.tmp 26) (.tmp 27) 3), (some (21, true))⟩,
   ⟨(some 29), (.pick (.tmp 21) (.tmp 28) (.const (.bool false))), none⟩])
 (.cond (.tmp 29) (.seq (.reg [⟨(some 30), (.move (.tmp 0)), none⟩,
   ⟨(some 31), (.move (.tmp 7)), none⟩,
   ⟨(some 32), (.indexAddr 30 (.tmp 30) (.tmp 31)), none⟩,
   ⟨(some 33), (.fieldAddr 75 (.tmp 32) 2), none⟩,
   ⟨(some 34), (.load 3 (.tmp 33)), none⟩,
   ⟨(some 6), (.assign (.tmp 34)), none⟩])
 .ret) .skip)))
 (.reg [⟨(some 12), (.move (.tmp 7)), none⟩,
   ⟨(some 13), (.binOp .add 3 (.tmp 12) (.const (.int .i64 1)) 3), none⟩,
   ⟨(some 7), (.assign (.tmp 13)), none⟩]))))))
 (.seq (.reg [⟨(some 6), (.assign (.const (.int .i64 0))), none⟩])
 .ret)))
theorem x_spec_l20Gain : Txt Tryd.prog 62 c_spec_l20Gain [.tmp 6] 3 := ⟨by kernel_rfl, by kernel_rfl, _, _, Tryd.func62, rfl, by kernel_rfl, by kernel_rfl, by kernel_rfl, rfl, by decide⟩
/-- loop.example/g01062/spec.l1Own -/
def c_spec_l1Own : Cd :=
 (.seq (.reg [⟨(some 2), (.assign (.const (.slice none 0 0))), none⟩])
 (.seq (.reg [⟨(some 3), (.buildSlice 22 0 #[]), none⟩,
   ⟨(some 4), (.move (.tmp 0)), none⟩,
   ⟨(some 5), (.call (.mk (.builtin .append) #[(.tmp 3), (.tmp 4)] #[22, 22])), none⟩,
   ⟨(some 2), (.assign (.tmp 5)), none⟩])
 .ret))
theorem x_spec_l1Own : Txt Tryd.prog 63 c_spec_l1Own [.tmp 2] 1 := ⟨by kernel_rfl, by kernel_rfl, _, _, Tryd.func63, rfl, by kernel_rfl, by kernel_rfl, by kernel_rfl, rfl, by decide⟩
/-- slices.Index[[]int,int] -/
def c_slices_Index_int : Cd :=
 (.seq (.reg [⟨(some 4), (.assign (.const (.int .i64 0))), none⟩])
 (.seq (.seq (.reg [⟨(some 6), (.move (.tmp 0)), none⟩,
   ⟨(some 7), (.call (.mk (.builtin .len) #[(.tmp 6)] #[22])), none⟩,
   ⟨(some 8), (.move (.const (.int .i64 0))), none⟩])
 (.block 0 (.loop (.seq (.reg [⟨(some 9), (.binOp .lss 3 (.tmp 8) (.tmp 7) 3), none⟩])
 (.seq (.cond (.tmp 9) .skip (.exit 0))
 (.seq (.block 1 (.seq (.reg [⟨(some 10), (.move (.tmp 8)), none⟩,
   ⟨(some 5), (.assign (.tmp 10)), none⟩])
 (.seq (.reg [⟨(some 11), (.move (.tmp 1)), none⟩,
   ⟨(some 12), (.move (.tmp 0)), none⟩,
   ⟨(some 13), (.move (.tmp 5)), none⟩,
   ⟨(some 14), (.indexAddr 22 (.tmp 12) (.tmp 13)), none⟩,
   ⟨(some 15), (.load 3 (.tmp 14)), none⟩,
   ⟨(some 16), (.binOp .eql 3 (.tmp 11) (.tmp 15) 3), none⟩])
 (.cond (.tmp 16) (.seq (.reg [⟨(some 17), (.move (.tmp 5)), none⟩,
   ⟨(some 4), (.assign (.tmp 17)), none⟩])
 .ret) .skip))))
 (.reg [⟨(some 18), (.binOp .add 3 (.tmp 8) (.const (.int .i64 1)) 3), none⟩,
   ⟨(some 8), (.move (.tmp 18)), none⟩])))))))
 (.seq (.reg [⟨(some 4), (.assign (.const (.int .i64 (-1)))), none⟩])
 .ret)))
theorem x_slices_Index_int : Txt Tryd.prog 64 c_slices_Index_int [.tmp 4] 2 := ⟨by kernel_rfl, by kernel_rfl, _, _, Tryd.func64, rfl, by kernel_rfl, by kernel_rfl, by kernel_rfl, rfl, by decide⟩
/-- cmp.isNaN[int] -/
def c_cmp_isNaN_int : Cd :=
 (.seq (.reg [⟨(some 2), (.assign (.const (.bool false))), none⟩])
 (.seq (.reg [⟨(some 3), (.move (.tmp 0)), none⟩,
   ⟨(some 4), (.move (.tmp 0)), none⟩,
   ⟨(some 5), (.binOp .neq 3 (.tmp 3) (.tmp 4) 3), none⟩,
   ⟨(some 2), (.assign (.tmp 5)), none⟩])
 .ret))
theorem x_cmp_isNaN_int : Txt Tryd.prog 69 c_cmp_isNaN_int [.tmp 2] 1 := ⟨by kernel_rfl, by kernel_rfl, _, _, Tryd.func69, rfl, by kernel_rfl, by kernel_rfl, by kernel_rfl, rfl, by decide⟩
theorem qs3 : qSize Tryd.prog 3 = some 1 := by kernel_rfl
theorem qb3 : qBytes Tryd.prog 3 = some 8 := by kernel_rfl
theorem qa3 : qAgg Tryd.prog 3 = some false := by kernel_rfl
theorem qz3 : qZero Tryd.prog 3 = some (.int .i64 0) := by kernel_rfl
theorem qk3 : qKind Tryd.prog 3 = some .i64 := by kernel_rfl
theorem qui3 : (Tryd.prog.underlying 3).isSome = true := by kernel_rfl
theorem qs4 : qSize Tryd.prog 4 = some 1 := by kernel_rfl
theorem qb4 : qBytes Tryd.prog 4 = some 1 := by kernel_rfl
theorem qa4 : qAgg Tryd.prog 4 = some false := by kernel_rfl
theorem qz4 : qZero Tryd.prog 4 = some (.bool false) := by kernel_rfl
theorem qo4 : qBool Tryd.prog 4 = true := by kernel_rfl
theorem qs5 : qSize Tryd.prog 5 = some 1 := by kernel_rfl
theorem qb5 : qBytes Tryd.prog 5 = some 1 := by kernel_rfl
theorem qa5 : qAgg Tryd.prog 5 = some false := by kernel_rfl
theorem qz5 : qZero Tryd.prog 5 = some (.int .u8 0) := by kernel_rfl
theorem qk5 : qKind Tryd.prog 5 = some .u8 := by kernel_rfl
theorem qui5 : (Tryd.prog.underlying 5).isSome = true := by kernel_rfl
theorem qs9 : qSize Tryd.prog 9 = some 1 := by kernel_rfl
theorem qb9 : qBytes Tryd.prog 9 = some 16 := by kernel_rfl
theorem qa9 : qAgg Tryd.prog 9 = some false := by kernel_rfl
theorem qz9 : qZero Tryd.prog 9 = some (.string ByteArray.empty) := by kernel_rfl
theorem qt9 : qStr Tryd.prog 9 = true := by kernel_rfl
theorem qs22 : qSize Tryd.prog 22 = some 1 := by kernel_rfl
theorem qb22 : qBytes Tryd.prog 22 = some 24 := by kernel_rfl
theorem qa22 : qAgg Tryd.prog 22 = some false := by kernel_rfl
theorem qz22 : qZero Tryd.prog 22 = some (.slice none 0 0) := by kernel_rfl
theorem qe22 : qElem Tryd.prog 22 = some 3 := by kernel_rfl
theorem qs28 : qSize Tryd.prog 28 = some 1 := by kernel_rfl
theorem qb28 : qBytes Tryd.prog 28 = some 24 := by kernel_rfl
theorem qa28 : qAgg Tryd.prog 28 = some false := by kernel_rfl
theorem qz28 : qZero Tryd.prog 28 = some (.slice none 0 0) := by kernel_rfl
theorem qe28 : qElem Tryd.prog 28 = some 5 := by kernel_rfl
theorem qs30 : qSize Tryd.prog 30 = some 1 := by kernel_rfl
theorem qb30 : qBytes Tryd.prog 30 = some 24 := by kernel_rfl
theorem qa30 : qAgg Tryd.prog 30 = some false := by kernel_rfl
theorem qz30 : qZero Tryd.prog 30 = some (.slice none 0 0) := by kernel_rfl
theorem qe30 : qElem Tryd.prog 30 = some 75 := by kernel_rfl
theorem qs33 : qSize Tryd.prog 33 = some 1 := by kernel_rfl
theorem qb33 : qBytes Tryd.prog 33 = some 24 := by kernel_rfl
theorem qa33 : qAgg Tryd.prog 33 = some false := by kernel_rfl
theorem qz33 : qZero Tryd.prog 33 = some (.slice none 0 0) := by kernel_rfl
theorem qe33 : qElem Tryd.prog 33 = some 22 := by kernel_rfl
theorem qs53 : qSize Tryd.prog 53 = some 1 := by kernel_rfl
theorem qb53 : qBytes Tryd.prog 53 = some 8 := by kernel_rfl
theorem qa53 : qAgg Tryd.prog 53 = some false := by kernel_rfl
theorem qz53 : qZero Tryd.prog 53 = some (.pointer none) := by kernel_rfl
theorem qs54 : qSize Tryd.prog 54 = some 1 := by kernel_rfl
theorem qb54 : qBytes Tryd.prog 54 = some 8 := by kernel_rfl
theorem qa54 : qAgg Tryd.prog 54 = some false := by kernel_rfl
theorem qz54 : qZero Tryd.prog 54 = some (.int .u64 0) := by kernel_rfl
theorem qk54 : qKind Tryd.prog 54 = some .u64 := by kernel_rfl
theorem qui54 : (Tryd.prog.underlying 54).isSome = true := by kernel_rfl
theorem qs56 : qSize Tryd.prog 56 = some 3 := by kernel_rfl
theorem qb56 : qBytes Tryd.prog 56 = some 40 := by kernel_rfl
theorem qa56 : qAgg Tryd.prog 56 = some true := by kernel_rfl
theorem qz56 : qZero Tryd.prog 56 = some (.agg #[.slice none 0 0, .int .i64 0, .int .u64 0]) := by kernel_rfl
theorem qg56 : qFields Tryd.prog 56 = some [(0, 1), (1, 1), (2, 1)] := by kernel_rfl
theorem qf56_0 : qField Tryd.prog 56 0 = some (0, 28) := by kernel_rfl
theorem qf56_1 : qField Tryd.prog 56 1 = some (1, 3) := by kernel_rfl
theorem qf56_2 : qField Tryd.prog 56 2 = some (2, 54) := by kernel_rfl
theorem qs68 : qSize Tryd.prog 68 = some 1 := by kernel_rfl
theorem qb68 : qBytes Tryd.prog 68 = some 24 := by kernel_rfl
theorem qa68 : qAgg Tryd.prog 68 = some false := by kernel_rfl
theorem qz68 : qZero Tryd.prog 68 = some (.slice none 0 0) := by kernel_rfl
theorem qe68 : qElem Tryd.prog 68 = some 4 := by kernel_rfl
theorem qs70 : qSize Tryd.prog 70 = some 1 := by kernel_rfl
theorem qb70 : qBytes Tryd.prog 70 = some 24 := by kernel_rfl
theorem qa70 : qAgg Tryd.prog 70 = some false := by kernel_rfl
theorem qz70 : qZero Tryd.prog 70 = some (.slice none 0 0) := by kernel_rfl
theorem qe70 : qElem Tryd.prog 70 = some 9 := by kernel_rfl
theorem qs75 : qSize Tryd.prog 75 = some 3 := by kernel_rfl
theorem qb75 : qBytes Tryd.prog 75 = some 24 := by kernel_rfl
theorem qa75 : qAgg Tryd.prog 75 = some true := by kernel_rfl
theorem qz75 : qZero Tryd.prog 75 = some (.agg #[.int .i64 0, .int .i64 0, .int .i64 0]) := by kernel_rfl
theorem qg75 : qFields Tryd.prog 75 = some [(0, 1), (1, 1), (2, 1)] := by kernel_rfl
theorem qi75 : qEqS Tryd.prog 75 3 = true := by kernel_rfl
theorem qf75_0 : qField Tryd.prog 75 0 = some (0, 3) := by kernel_rfl
theorem qf75_1 : qField Tryd.prog 75 1 = some (1, 3) := by kernel_rfl
theorem qf75_2 : qField Tryd.prog 75 2 = some (2, 3) := by kernel_rfl
theorem qs82 : qSize Tryd.prog 82 = some 1 := by kernel_rfl
theorem qb82 : qBytes Tryd.prog 82 = some 8 := by kernel_rfl
theorem qa82 : qAgg Tryd.prog 82 = some false := by kernel_rfl
theorem qz82 : qZero Tryd.prog 82 = some (.pointer none) := by kernel_rfl
theorem qs84 : qSize Tryd.prog 84 = some 2 := by kernel_rfl
theorem qb84 : qBytes Tryd.prog 84 = some 32 := by kernel_rfl
theorem qa84 : qAgg Tryd.prog 84 = some true := by kernel_rfl
theorem qz84 : qZero Tryd.prog 84 = some (.agg #[.pointer none, .slice none 0 0]) := by kernel_rfl
theorem qg84 : qFields Tryd.prog 84 = some [(0, 1), (1, 1)] := by kernel_rfl
theorem qf84_0 : qField Tryd.prog 84 0 = some (0, 82) := by kernel_rfl
theorem qf84_1 : qField Tryd.prog 84 1 = some (1, 28) := by kernel_rfl
set_option linter.defProp false
/-- The facts, in one name. -/
def fcT := And.intro @qs3 <| And.intro @qb3 <| And.intro @qa3 <| And.intro @qz3 <| And.intro @qk3 <| And.intro @qui3 <| And.intro @qs4 <| And.intro @qb4 <| And.intro @qa4 <| And.intro @qz4 <| And.intro @qo4 <| And.intro @qs5 <| And.intro @qb5 <| And.intro @qa5 <| And.intro @qz5 <| And.intro @qk5 <| And.intro @qui5 <| And.intro @qs9 <| And.intro @qb9 <| And.intro @qa9 <| And.intro @qz9 <| And.intro @qt9 <| And.intro @qs22 <| And.intro @qb22 <| And.intro @qa22 <| And.intro @qz22 <| And.intro @qe22 <| And.intro @qs28 <| And.intro @qb28 <| And.intro @qa28 <| And.intro @qz28 <| And.intro @qe28 <| And.intro @qs30 <| And.intro @qb30 <| And.intro @qa30 <| And.intro @qz30 <| And.intro @qe30 <| And.intro @qs33 <| And.intro @qb33 <| And.intro @qa33 <| And.intro @qz33 <| And.intro @qe33 <| And.intro @qs53 <| And.intro @qb53 <| And.intro @qa53 <| And.intro @qz53 <| And.intro @qs54 <| And.intro @qb54 <| And.intro @qa54 <| And.intro @qz54 <| And.intro @qk54 <| And.intro @qui54 <| And.intro @qs56 <| And.intro @qb56 <| And.intro @qa56 <| And.intro @qz56 <| And.intro @qg56 <| And.intro @qf56_0 <| And.intro @qf56_1 <| And.intro @qf56_2 <| And.intro @qs68 <| And.intro @qb68 <| And.intro @qa68 <| And.intro @qz68 <| And.intro @qe68 <| And.intro @qs70 <| And.intro @qb70 <| And.intro @qa70 <| And.intro @qz70 <| And.intro @qe70 <| And.intro @qs75 <| And.intro @qb75 <| And.intro @qa75 <| And.intro @qz75 <| And.intro @qg75 <| And.intro @qi75 <| And.intro @qf75_0 <| And.intro @qf75_1 <| And.intro @qf75_2 <| And.intro @qs82 <| And.intro @qb82 <| And.intro @qa82 <| And.intro @qz82 <| And.intro @qs84 <| And.intro @qb84 <| And.intro @qa84 <| And.intro @qz84 <| And.intro @qg84 <| And.intro @qf84_0 <| And.intro @qf84_1 <| True.intro
end Go.Proofs.YtnaldmmdhpobgaaDoor
