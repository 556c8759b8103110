/- The texts of the functions, edges struck, and closed facts on functions and types: written by program (gen.py). -/
import Derived.Test.YtnjlleopgjggpaaDoorD
import Derived.Test.YtnjlleopgjggpaaDoorProg
namespace Go.Proofs.YtnjlleopgjggpaaDoor
open Go Go.RowKit Go.Proofs
/-- loop.example/g01062/laws.FnShows -/
def c_laws_FnShows : Cd :=
 (.seq (.reg [⟨(some 2), (.assign (.const (.bool false))), none⟩])
 (.seq (.seq (.reg [⟨(some 37), (.move (.tmp 0)), none⟩,
   ⟨(some 38), (.call (.mk (.value (.func 6)) #[(.tmp 37)] #[22])), none⟩])
 (.cond (.tmp 38) (.seq (.reg [⟨(some 2), (.assign (.const (.bool true))), none⟩])
 .ret) .skip))
 (.seq (.reg [⟨(some 39), (.move (.tmp 0)), none⟩,
   ⟨(some 40), (.call (.mk (.value (.func 44)) #[(.tmp 39)] #[22])), none⟩,
   ⟨(some 3), (.assign (.tmp 40)), none⟩])
 (.seq (.reg [⟨(some 42), (.move (.tmp 3)), none⟩,
   ⟨(some 43), (.call (.mk (.value (.func 45)) #[(.tmp 42)] #[66])), none⟩,
   ⟨(some 41), (.move (.tmp 43)), none⟩,
   ⟨(some 44), (.extract (.tmp 41) 0), none⟩,
   ⟨(some 45), (.extract (.tmp 41) 1), none⟩,
   ⟨(some 4), (.assign (.tmp 44)), none⟩,
   ⟨(some 5), (.assign (.tmp 45)), none⟩])
 (.seq (.seq (.reg [⟨(some 47), (.move (.tmp 3)), none⟩,
   ⟨(some 48), (.call (.mk (.value (.func 46)) #[(.tmp 47)] #[66])), none⟩,
   ⟨(some 46), (.move (.tmp 48)), none⟩,
   ⟨(some 49), (.extract (.tmp 46) 0), none⟩,
   ⟨(some 50), (.extract (.tmp 46) 1), none⟩,
   ⟨(some 6), (.assign (.tmp 49)), none⟩,
   ⟨(some 7), (.assign (.tmp 50)), none⟩])
 (.seq (.reg [⟨(some 51), (.move (.tmp 5)), none⟩,
   ⟨(some 52), (.move (.tmp 7)), none⟩,
   ⟨(some 53), (.binOp .neq 4 (.tmp 51) (.tmp 52) 4), none⟩,
   ⟨(some 54), (.move (.tmp 53)), none⟩,
   ⟨(some 55), (.move (.tmp 4)), (some (54, false))⟩,
   ⟨(some 56), (.move (.tmp 6)), (some (54, false))⟩,
   ⟨(some 57), (.call (.mk (.value (.func 12)) #[(.tmp 55), (.tmp 56)] #[30, 30])), (some (54, false))⟩,
   ⟨(some 58), (.unOp .not 4 (.tmp 57)), (some (54, false))⟩,
   ⟨(some 59), (.pick (.tmp 54) (.const (.bool true)) (.tmp 58)), none⟩])
 (.cond (.tmp 59) (.seq (.reg [⟨(some 2), (.assign (.const (.bool false))), none⟩])
 .ret) .skip)))
 (.seq (.reg [⟨(some 8), (.assign (.const (.int .i64 0))), none⟩])
 (.seq (.seq (.reg [⟨(some 9), (.assign (.const (.int .i64 0))), none⟩])
 (.block 0 (.loop (.seq (.seq (.reg [⟨(some 60), (.move (.tmp 9)), none⟩,
   ⟨(some 61), (.move (.tmp 4)), none⟩,
   ⟨(some 62), (.call (.mk (.builtin .len) #[(.tmp 61)] #[30])), none⟩,
   ⟨(some 63), (.binOp .lss 3 (.tmp 60) (.tmp 62) 3), none⟩])
 (.cond (.tmp 63) .skip (.exit 0)))
 (.seq (.block 1 (.seq (.reg [⟨(some 67), (.move (.tmp 3)), none⟩,
   ⟨(some 68), (.move (.tmp 4)), none⟩,
   ⟨(some 69), (.move (.tmp 9)), none⟩,
   ⟨(some 70), (.indexAddr 30 (.tmp 68) (.tmp 69)), none⟩,
   ⟨(some 71), (.load 3 (.tmp 70)), none⟩,
   ⟨(some 72), (.call (.mk (.value (.func 47)) #[(.tmp 67), (.tmp 71)] #[66, 3])), none⟩,
   ⟨(some 66), (.move (.tmp 72)), none⟩,
   ⟨(some 73), (.extract (.tmp 66) 0), none⟩,
   ⟨(some 74), (.extract (.tmp 66) 1), none⟩,
   ⟨(some 10), (.assign (.tmp 73)), none⟩,
   ⟨(some 11), (.assign (.tmp 74)), none⟩])
 (.seq (.seq (.reg [⟨(some 75), (.move (.tmp 11)), none⟩,
   ⟨(some 76), (.unOp .not 4 (.tmp 75)), none⟩,
   ⟨(some 77), (.move (.tmp 76)), none⟩,
   ⟨(some 78), (.move (.tmp 10)), (some (77, false))⟩,
   ⟨(some 79), (.move (.tmp 8)), (some (77, false))⟩,
   ⟨(some 80), (.binOp .lss 3 (.tmp 78) (.tmp 79) 3), (some (77, false))⟩,
   ⟨(some 81), (.pick (.tmp 77) (.const (.bool true)) (.tmp 80)), none⟩,
   ⟨(some 82), (.move (.tmp 81)), none⟩,
   ⟨(some 83), (.move (.tmp 10)), (some (82, false))⟩,
   ⟨(some 84), (.move (.tmp 9)), (some (82, false))⟩,
   ⟨(some 85), (.binOp .add 3 (.tmp 84) (.const (.int .i64 1)) 3), (some (82, false))⟩,
   ⟨(some 86), (.binOp .gtr 3 (.tmp 83) (.tmp 85) 3), (some (82, false))⟩,
   ⟨(some 87), (.pick (.tmp 82) (.const (.bool true)) (.tmp 86)), none⟩,
   ⟨(some 88), (.move (.tmp 87)), none⟩,
   ⟨(some 89), (.move (.tmp 9)), (some (88, false))⟩,
   ⟨(some 90), (.binOp .eql 3 (.tmp 89) (.const (.int .i64 0)) 3), (some (88, false))⟩,
   ⟨(some 91), (.move (.tmp 90)), (some (88, false))⟩,
   ⟨(some 92), (.move (.tmp 10)), (some (91, true))⟩,
   ⟨(some 93), (.binOp .neq 3 (.tmp 92) (.const (.int .i64 1)) 3), (some (91, true))⟩,
   ⟨(some 94), (.pick (.tmp 91) (.tmp 93) (.const (.bool false))), (some (88, false))⟩,
   ⟨(some 95), (.pick (.tmp 88) (.const (.bool true)) (.tmp 94)), none⟩])
 (.cond (.tmp 95) (.seq (.reg [⟨(some 2), (.assign (.const (.bool false))), none⟩])
 .ret) .skip))
 (.reg [⟨(some 96), (.move (.tmp 10)), none⟩,
   ⟨(some 8), (.assign (.tmp 96)), none⟩]))))
 (.reg [⟨(some 64), (.move (.tmp 9)), none⟩,
   ⟨(some 65), (.binOp .add 3 (.tmp 64) (.const (.int .i64 1)) 3), none⟩,
   ⟨(some 9), (.assign (.tmp 65)), none⟩]))))))
 (.seq (.reg [⟨(some 98), (.move (.tmp 3)), none⟩,
   ⟨(some 99), (.call (.mk (.value (.func 48)) #[(.tmp 98)] #[66])), none⟩,
   ⟨(some 97), (.move (.tmp 99)), none⟩,
   ⟨(some 100), (.extract (.tmp 97) 0), none⟩,
   ⟨(some 101), (.extract (.tmp 97) 1), none⟩,
   ⟨(some 12), (.assign (.tmp 100)), none⟩,
   ⟨(some 13), (.assign (.tmp 101)), none⟩])
 (.seq (.seq (.reg [⟨(some 103), (.move (.tmp 3)), none⟩,
   ⟨(some 104), (.call (.mk (.value (.func 49)) #[(.tmp 103)] #[66])), none⟩,
   ⟨(some 102), (.move (.tmp 104)), none⟩,
   ⟨(some 105), (.extract (.tmp 102) 0), none⟩,
   ⟨(some 106), (.extract (.tmp 102) 1), none⟩,
   ⟨(some 14), (.assign (.tmp 105)), none⟩,
   ⟨(some 15), (.assign (.tmp 106)), none⟩])
 (.seq (.reg [⟨(some 107), (.move (.tmp 13)), none⟩,
   ⟨(some 108), (.move (.tmp 15)), none⟩,
   ⟨(some 109), (.binOp .neq 4 (.tmp 107) (.tmp 108) 4), none⟩,
   ⟨(some 110), (.move (.tmp 109)), none⟩,
   ⟨(some 111), (.move (.tmp 13)), (some (110, false))⟩,
   ⟨(some 112), (.move (.tmp 5)), (some (110, false))⟩,
   ⟨(some 113), (.binOp .neq 4 (.tmp 111) (.tmp 112) 4), (some (110, false))⟩,
   ⟨(some 114), (.pick (.tmp 110) (.const (.bool true)) (.tmp 113)), none⟩,
   ⟨(some 115), (.move (.tmp 114)), none⟩,
   ⟨(some 116), (.move (.tmp 12)), (some (115, false))⟩,
   ⟨(some 117), (.move (.tmp 14)), (some (115, false))⟩,
   ⟨(some 118), (.call (.mk (.value (.func 12)) #[(.tmp 116), (.tmp 117)] #[30, 30])), (some (115, false))⟩,
   ⟨(some 119), (.unOp .not 4 (.tmp 118)), (some (115, false))⟩,
   ⟨(some 120), (.pick (.tmp 115) (.const (.bool true)) (.tmp 119)), none⟩,
   ⟨(some 121), (.move (.tmp 120)), none⟩,
   ⟨(some 122), (.move (.tmp 13)), (some (121, false))⟩,
   ⟨(some 123), (.move (.tmp 122)), (some (121, false))⟩,
   ⟨(some 124), (.move (.tmp 12)), (some (123, true))⟩,
   ⟨(some 125), (.call (.mk (.value (.func 50)) #[(.tmp 124)] #[30])), (some (123, true))⟩,
   ⟨(some 126), (.move (.tmp 3)), (some (123, true))⟩,
   ⟨(some 127), (.call (.mk (.builtin .len) #[(.tmp 126)] #[66])), (some (123, true))⟩,
   ⟨(some 128), (.binOp .neq 3 (.tmp 125) (.tmp 127) 3), (some (123, true))⟩,
   ⟨(some 129), (.pick (.tmp 123) (.tmp 128) (.const (.bool false))), (some (121, false))⟩,
   ⟨(some 130), (.pick (.tmp 121) (.const (.bool true)) (.tmp 129)), none⟩])
 (.cond (.tmp 130) (.seq (.reg [⟨(some 2), (.assign (.const (.bool false))), none⟩])
 .ret) .skip)))
 (.seq (.reg [⟨(some 131), (.move (.tmp 0)), none⟩,
   ⟨(some 132), (.call (.mk (.value (.func 51)) #[(.tmp 131)] #[22])), none⟩,
   ⟨(some 16), (.alloc 72), none⟩,
   ⟨none, (.store 72 (.tmp 16) (.tmp 132)), none⟩])
 (.seq (.reg [⟨(some 134), (.load 72 (.tmp 16)), none⟩,
   ⟨(some 135), (.call (.mk (.value (.func 52)) #[(.tmp 134)] #[72])), none⟩,
   ⟨(some 133), (.move (.tmp 135)), none⟩,
   ⟨(some 136), (.extract (.tmp 133) 0), none⟩,
   ⟨(some 137), (.extract (.tmp 133) 1), none⟩,
   ⟨(some 138), (.extract (.tmp 133) 2), none⟩,
   ⟨(some 17), (.assign (.tmp 136)), none⟩,
   ⟨(some 18), (.assign (.tmp 137)), none⟩,
   ⟨(some 19), (.assign (.tmp 138)), none⟩])
 (.seq (.seq (.reg [⟨(some 140), (.load 72 (.tmp 16)), none⟩,
   ⟨(some 141), (.call (.mk (.value (.func 53)) #[(.tmp 140)] #[72])), none⟩,
   ⟨(some 139), (.move (.tmp 141)), none⟩,
   ⟨(some 142), (.extract (.tmp 139) 0), none⟩,
   ⟨(some 143), (.extract (.tmp 139) 1), none⟩,
   ⟨(some 144), (.extract (.tmp 139) 2), none⟩,
   ⟨(some 20), (.assign (.tmp 142)), none⟩,
   ⟨(some 21), (.assign (.tmp 143)), none⟩,
   ⟨(some 22), (.assign (.tmp 144)), none⟩])
 (.seq (.reg [⟨(some 145), (.move (.tmp 17)), none⟩,
   ⟨(some 146), (.move (.tmp 20)), none⟩,
   ⟨(some 147), (.binOp .neq 3 (.tmp 145) (.tmp 146) 3), none⟩,
   ⟨(some 148), (.move (.tmp 147)), none⟩,
   ⟨(some 149), (.move (.tmp 18)), (some (148, false))⟩,
   ⟨(some 150), (.move (.tmp 21)), (some (148, false))⟩,
   ⟨(some 151), (.binOp .neq 3 (.tmp 149) (.tmp 150) 3), (some (148, false))⟩,
   ⟨(some 152), (.pick (.tmp 148) (.const (.bool true)) (.tmp 151)), none⟩,
   ⟨(some 153), (.move (.tmp 152)), none⟩,
   ⟨(some 154), (.move (.tmp 19)), (some (153, false))⟩,
   ⟨(some 155), (.move (.tmp 22)), (some (153, false))⟩,
   ⟨(some 156), (.binOp .neq 4 (.tmp 154) (.tmp 155) 4), (some (153, false))⟩,
   ⟨(some 157), (.pick (.tmp 153) (.const (.bool true)) (.tmp 156)), none⟩])
 (.cond (.tmp 157) (.seq (.reg [⟨(some 2), (.assign (.const (.bool false))), none⟩])
 .ret) .skip)))
 (.seq (.reg [⟨(some 159), (.load 72 (.tmp 16)), none⟩,
   ⟨(some 160), (.call (.mk (.value (.func 54)) #[(.tmp 159)] #[72])), none⟩,
   ⟨(some 158), (.move (.tmp 160)), none⟩,
   ⟨(some 161), (.extract (.tmp 158) 0), none⟩,
   ⟨(some 162), (.extract (.tmp 158) 1), none⟩,
   ⟨(some 23), (.assign (.tmp 161)), none⟩,
   ⟨(some 24), (.assign (.tmp 162)), none⟩])
 (.seq (.seq (.reg [⟨(some 164), (.load 72 (.tmp 16)), none⟩,
   ⟨(some 165), (.call (.mk (.value (.func 55)) #[(.tmp 164)] #[72])), none⟩,
   ⟨(some 163), (.move (.tmp 165)), none⟩,
   ⟨(some 166), (.extract (.tmp 163) 0), none⟩,
   ⟨(some 167), (.extract (.tmp 163) 1), none⟩,
   ⟨(some 25), (.assign (.tmp 166)), none⟩,
   ⟨(some 26), (.assign (.tmp 167)), none⟩])
 (.seq (.reg [⟨(some 168), (.move (.tmp 23)), none⟩,
   ⟨(some 169), (.move (.tmp 25)), none⟩,
   ⟨(some 170), (.binOp .neq 3 (.tmp 168) (.tmp 169) 3), none⟩,
   ⟨(some 171), (.move (.tmp 170)), none⟩,
   ⟨(some 172), (.move (.tmp 24)), (some (171, false))⟩,
   ⟨(some 173), (.move (.tmp 26)), (some (171, false))⟩,
   ⟨(some 174), (.binOp .neq 4 (.tmp 172) (.tmp 173) 4), (some (171, false))⟩,
   ⟨(some 175), (.pick (.tmp 171) (.const (.bool true)) (.tmp 174)), none⟩,
   ⟨(some 176), (.move (.tmp 175)), none⟩,
   ⟨(some 177), (.move (.tmp 24)), (some (176, false))⟩,
   ⟨(some 178), (.move (.tmp 19)), (some (176, false))⟩,
   ⟨(some 179), (.binOp .neq 4 (.tmp 177) (.tmp 178) 4), (some (176, false))⟩,
   ⟨(some 180), (.pick (.tmp 176) (.const (.bool true)) (.tmp 179)), none⟩])
 (.cond (.tmp 180) (.seq (.reg [⟨(some 2), (.assign (.const (.bool false))), none⟩])
 .ret) .skip)))
 (.seq (.seq (.reg [⟨(some 181), (.move (.tmp 24)), none⟩,
   ⟨(some 182), (.move (.tmp 181)), none⟩,
   ⟨(some 183), (.move (.tmp 23)), (some (182, true))⟩,
   ⟨(some 184), (.binOp .eql 3 (.tmp 183) (.const (.int .i64 4)) 3), (some (182, true))⟩,
   ⟨(some 185), (.move (.tmp 17)), (some (182, true))⟩,
   ⟨(some 186), (.move (.tmp 18)), (some (182, true))⟩,
   ⟨(some 187), (.binOp .mul 3 (.const (.int .i64 85)) (.tmp 186) 3), (some (182, true))⟩,
   ⟨(some 188), (.binOp .geq 3 (.tmp 185) (.tmp 187) 3), (some (182, true))⟩,
   ⟨(some 189), (.binOp .neq 4 (.tmp 184) (.tmp 188) 4), (some (182, true))⟩,
   ⟨(some 190), (.move (.tmp 189)), (some (182, true))⟩,
   ⟨(some 191), (.move (.tmp 23)), (some (190, false))⟩,
   ⟨(some 192), (.binOp .eql 3 (.tmp 191) (.const (.int .i64 0)) 3), (some (190, false))⟩,
   ⟨(some 193), (.move (.tmp 17)), (some (190, false))⟩,
   ⟨(some 194), (.move (.tmp 18)), (some (190, false))⟩,
   ⟨(some 195), (.binOp .mul 3 (.const (.int .i64 40)) (.tmp 194) 3), (some (190, false))⟩,
   ⟨(some 196), (.binOp .lss 3 (.tmp 193) (.tmp 195) 3), (some (190, false))⟩,
   ⟨(some 197), (.binOp .neq 4 (.tmp 192) (.tmp 196) 4), (some (190, false))⟩,
   ⟨(some 198), (.pick (.tmp 190) (.const (.bool true)) (.tmp 197)), (some (182, true))⟩,
   ⟨(some 199), (.move (.tmp 198)), (some (182, true))⟩,
   ⟨(some 200), (.move (.tmp 23)), (some (199, false))⟩,
   ⟨(some 201), (.binOp .geq 3 (.tmp 200) (.const (.int .i64 3)) 3), (some (199, false))⟩,
   ⟨(some 202), (.move (.tmp 17)), (some (199, false))⟩,
   ⟨(some 203), (.move (.tmp 18)), (some (199, false))⟩,
   ⟨(some 204), (.binOp .mul 3 (.const (.int .i64 70)) (.tmp 203) 3), (some (199, false))⟩,
   ⟨(some 205), (.binOp .geq 3 (.tmp 202) (.tmp 204) 3), (some (199, false))⟩,
   ⟨(some 206), (.binOp .neq 4 (.tmp 201) (.tmp 205) 4), (some (199, false))⟩,
   ⟨(some 207), (.pick (.tmp 199) (.const (.bool true)) (.tmp 206)), (some (182, true))⟩,
   ⟨(some 208), (.move (.tmp 207)), (some (182, true))⟩,
   ⟨(some 209), (.move (.tmp 23)), (some (208, false))⟩,
   ⟨(some 210), (.binOp .geq 3 (.tmp 209) (.const (.int .i64 2)) 3), (some (208, false))⟩,
   ⟨(some 211), (.move (.tmp 17)), (some (208, false))⟩,
   ⟨(some 212), (.move (.tmp 18)), (some (208, false))⟩,
   ⟨(some 213), (.binOp .mul 3 (.const (.int .i64 55)) (.tmp 212) 3), (some (208, false))⟩,
   ⟨(some 214), (.binOp .geq 3 (.tmp 211) (.tmp 213) 3), (some (208, false))⟩,
   ⟨(some 215), (.binOp .neq 4 (.tmp 210) (.tmp 214) 4), (some (208, false))⟩,
   ⟨(some 216), (.pick (.tmp 208) (.const (.bool true)) (.tmp 215)), (some (182, true))⟩,
   ⟨(some 217), (.pick (.tmp 182) (.tmp 216) (.const (.bool false))), none⟩])
 (.cond (.tmp 217) (.seq (.reg [⟨(some 2), (.assign (.const (.bool false))), none⟩])
 .ret) .skip))
 (.seq (.reg [⟨(some 219), (.move (.tmp 0)), none⟩,
   ⟨(some 220), (.call (.mk (.value (.func 56)) #[(.tmp 219)] #[22])), none⟩,
   ⟨(some 218), (.move (.tmp 220)), none⟩,
   ⟨(some 221), (.extract (.tmp 218) 0), none⟩,
   ⟨(some 222), (.extract (.tmp 218) 1), none⟩,
   ⟨(some 27), (.assign (.tmp 221)), none⟩,
   ⟨(some 28), (.assign (.tmp 222)), none⟩])
 (.seq (.reg [⟨(some 224), (.move (.tmp 27)), none⟩,
   ⟨(some 225), (.move (.tmp 28)), none⟩,
   ⟨(some 226), (.call (.mk (.value (.func 47)) #[(.tmp 224), (.tmp 225)] #[66, 3])), none⟩,
   ⟨(some 223), (.move (.tmp 226)), none⟩,
   ⟨(some 227), (.extract (.tmp 223) 0), none⟩,
   ⟨(some 228), (.extract (.tmp 223) 1), none⟩,
   ⟨(some 29), (.assign (.tmp 227)), none⟩,
   ⟨(some 30), (.assign (.tmp 228)), none⟩])
 (.seq (.reg [⟨(some 230), (.move (.tmp 27)), none⟩,
   ⟨(some 231), (.move (.tmp 28)), none⟩,
   ⟨(some 232), (.call (.mk (.value (.func 57)) #[(.tmp 230), (.tmp 231)] #[66, 3])), none⟩,
   ⟨(some 229), (.move (.tmp 232)), none⟩,
   ⟨(some 233), (.extract (.tmp 229) 0), none⟩,
   ⟨(some 234), (.extract (.tmp 229) 1), none⟩,
   ⟨(some 31), (.assign (.tmp 233)), none⟩,
   ⟨(some 32), (.assign (.tmp 234)), none⟩])
 (.seq (.reg [⟨(some 236), (.load 72 (.tmp 16)), none⟩,
   ⟨(some 237), (.call (.mk (.value (.func 58)) #[(.tmp 236)] #[72])), none⟩,
   ⟨(some 235), (.move (.tmp 237)), none⟩,
   ⟨(some 238), (.extract (.tmp 235) 0), none⟩,
   ⟨(some 239), (.extract (.tmp 235) 1), none⟩,
   ⟨(some 33), (.assign (.tmp 238)), none⟩,
   ⟨(some 34), (.assign (.tmp 239)), none⟩])
 (.seq (.reg [⟨(some 241), (.load 72 (.tmp 16)), none⟩,
   ⟨(some 242), (.call (.mk (.value (.func 59)) #[(.tmp 241)] #[72])), none⟩,
   ⟨(some 240), (.move (.tmp 242)), none⟩,
   ⟨(some 243), (.extract (.tmp 240) 0), none⟩,
   ⟨(some 244), (.extract (.tmp 240) 1), none⟩,
   ⟨(some 35), (.assign (.tmp 243)), none⟩,
   ⟨(some 36), (.assign (.tmp 244)), none⟩])
 (.seq (.reg [⟨(some 245), (.move (.tmp 29)), none⟩,
   ⟨(some 246), (.move (.tmp 31)), none⟩,
   ⟨(some 247), (.binOp .eql 3 (.tmp 245) (.tmp 246) 3), none⟩,
   ⟨(some 248), (.move (.tmp 247)), none⟩,
   ⟨(some 249), (.move (.tmp 30)), (some (248, true))⟩,
   ⟨(some 250), (.move (.tmp 32)), (some (248, true))⟩,
   ⟨(some 251), (.binOp .eql 4 (.tmp 249) (.tmp 250) 4), (some (248, true))⟩,
   ⟨(some 252), (.pick (.tmp 248) (.tmp 251) (.const (.bool false))), none⟩,
   ⟨(some 253), (.move (.tmp 252)), none⟩,
   ⟨(some 254), (.move (.tmp 33)), (some (253, true))⟩,
   ⟨(some 255), (.move (.tmp 35)), (some (253, true))⟩,
   ⟨(some 256), (.binOp .eql 9 (.tmp 254) (.tmp 255) 9), (some (253, true))⟩,
   ⟨(some 257), (.pick (.tmp 253) (.tmp 256) (.const (.bool false))), none⟩,
   ⟨(some 258), (.move (.tmp 257)), none⟩,
   ⟨(some 259), (.move (.tmp 34)), (some (258, true))⟩,
   ⟨(some 260), (.move (.tmp 36)), (some (258, true))⟩,
   ⟨(some 261), (.binOp .eql 4 (.tmp 259) (.tmp 260) 4), (some (258, true))⟩,
   ⟨(some 262), (.pick (.tmp 258) (.tmp 261) (.const (.bool false))), none⟩,
   ⟨(some 263), (.move (.tmp 262)), none⟩,
   ⟨(some 264), (.move (.tmp 3)), (some (263, true))⟩,
   ⟨(some 265), (.call (.mk (.value (.func 60)) #[(.tmp 264)] #[66])), (some (263, true))⟩,
   ⟨(some 266), (.move (.tmp 3)), (some (263, true))⟩,
   ⟨(some 267), (.call (.mk (.value (.func 61)) #[(.tmp 266)] #[66])), (some (263, true))⟩,
   ⟨(some 268), (.binOp .eql 4 (.tmp 265) (.tmp 267) 4), (some (263, true))⟩,
   ⟨(some 269), (.pick (.tmp 263) (.tmp 268) (.const (.bool false))), none⟩,
   ⟨(some 2), (.assign (.tmp 269)), none⟩])
 .ret)))))))))))))))))))))
theorem x_laws_FnShows : Txt Tryd.prog 5 c_laws_FnShows [.tmp 2] 1 := ⟨by kernel_rfl, by kernel_rfl, _, _, Tryd.func5, rfl, by kernel_rfl, by kernel_rfl, by kernel_rfl, rfl, by decide⟩
/-- loop.example/g01062/laws.rBig -/
def c_laws_rBig : Cd :=
 (.seq (.reg [⟨(some 2), (.assign (.const (.bool false))), none⟩])
 (.seq (.reg [⟨(some 3), (.move (.tmp 0)), none⟩,
   ⟨(some 4), (.call (.mk (.builtin .len) #[(.tmp 3)] #[22])), none⟩,
   ⟨(some 5), (.binOp .gtr 3 (.tmp 4) (.const (.int .i64 65536)) 3), none⟩,
   ⟨(some 2), (.assign (.tmp 5)), none⟩])
 .ret))
theorem x_laws_rBig : Txt Tryd.prog 6 c_laws_rBig [.tmp 2] 1 := ⟨by kernel_rfl, by kernel_rfl, _, _, Tryd.func6, rfl, by kernel_rfl, by kernel_rfl, by kernel_rfl, rfl, by decide⟩
/-- loop.example/g01062/laws.rInts -/
def c_laws_rInts : Cd :=
 (.seq (.reg [⟨(some 4), (.assign (.const (.bool false))), none⟩])
 (.seq (.seq (.reg [⟨(some 6), (.move (.tmp 0)), none⟩,
   ⟨(some 7), (.call (.mk (.builtin .len) #[(.tmp 6)] #[30])), none⟩,
   ⟨(some 8), (.move (.tmp 1)), none⟩,
   ⟨(some 9), (.call (.mk (.builtin .len) #[(.tmp 8)] #[30])), none⟩,
   ⟨(some 10), (.binOp .neq 3 (.tmp 7) (.tmp 9) 3), none⟩])
 (.cond (.tmp 10) (.seq (.reg [⟨(some 4), (.assign (.const (.bool false))), none⟩])
 .ret) .skip))
 (.seq (.seq (.reg [⟨(some 5), (.assign (.const (.int .i64 0))), none⟩])
 (.block 0 (.loop (.seq (.seq (.reg [⟨(some 11), (.move (.tmp 5)), none⟩,
   ⟨(some 12), (.move (.tmp 0)), none⟩,
   ⟨(some 13), (.call (.mk (.builtin .len) #[(.tmp 12)] #[30])), none⟩,
   ⟨(some 14), (.binOp .lss 3 (.tmp 11) (.tmp 13) 3), none⟩])
 (.cond (.tmp 14) .skip (.exit 0)))
 (.seq (.block 1 (.seq (.regq [⟨(some 17), (.move (.tmp 0)), none⟩,
   ⟨(some 18), (.move (.tmp 5)), none⟩,
   ⟨(some 19), (.indexAddr 30 (.tmp 17) (.tmp 18)), none⟩,
   ⟨(some 20), (.load 3 (.tmp 19)), none⟩,
   ⟨(some 21), (.move (.tmp 1)), none⟩,
   ⟨(some 22), (.move (.tmp 5)), none⟩,
   ⟨(some 23), (.indexAddr 30 (.tmp 21) (.tmp 22)), none⟩,
   ⟨(some 24), (.load 3 (.tmp 23)), none⟩,
   ⟨(some 25), (.binOp .neq 3 (.tmp 20) (.tmp 24) 3), none⟩])
 (.cond (.tmp 25) (.seq (.reg [⟨(some 4), (.assign (.const (.bool false))), none⟩])
 .ret) .skip)))
 (.reg [⟨(some 15), (.move (.tmp 5)), none⟩,
   ⟨(some 16), (.binOp .add 3 (.tmp 15) (.const (.int .i64 1)) 3), none⟩,
   ⟨(some 5), (.assign (.tmp 16)), none⟩]))))))
 (.seq (.reg [⟨(some 4), (.assign (.const (.bool true))), none⟩])
 .ret))))
theorem x_laws_rInts : Txt Tryd.prog 12 c_laws_rInts [.tmp 4] 2 := ⟨by kernel_rfl, by kernel_rfl, _, _, Tryd.func12, rfl, by kernel_rfl, by kernel_rfl, by kernel_rfl, rfl, by decide⟩
/-- loop.example/g01062/spec.DrawRankShow -/
def c_spec_DrawRankShow : Cd :=
 (.seq (.reg [⟨(some 2), (.assign (.const (.slice none 0 0))), none⟩])
 (.seq (.reg [⟨(some 3), (.move (.tmp 0)), none⟩,
   ⟨(some 4), (.call (.mk (.value (.func 104)) #[(.tmp 3)] #[22])), none⟩,
   ⟨(some 2), (.assign (.tmp 4)), none⟩])
 .ret))
theorem x_spec_DrawRankShow : Txt Tryd.prog 44 c_spec_DrawRankShow [.tmp 2] 1 := ⟨by kernel_rfl, by kernel_rfl, _, _, Tryd.func44, rfl, by kernel_rfl, by kernel_rfl, by kernel_rfl, rfl, by decide⟩
/-- loop.example/g01062/impl.RankShow -/
def c_impl_RankShow : Cd :=
 (.seq (.reg [⟨(some 1), (.box 66 (.tmp 0)), none⟩,
   ⟨(some 2), (.assign (.const (.slice none 0 0))), none⟩,
   ⟨(some 3), (.assign (.const (.bool false))), none⟩])
 (.seq (.seq (.reg [⟨(some 8), (.load 66 (.tmp 1)), none⟩,
   ⟨(some 9), (.call (.mk (.value (.func 105)) #[(.tmp 8)] #[66])), none⟩,
   ⟨(some 10), (.unOp .not 4 (.tmp 9)), none⟩])
 (.cond (.tmp 10) (.seq (.reg [⟨(some 2), (.assign (.const (.slice none 0 0))), none⟩,
   ⟨(some 3), (.assign (.const (.bool false))), none⟩])
 .ret) .skip))
 (.seq (.reg [⟨(some 4), (.assign (.const (.slice none 0 0))), none⟩])
 (.seq (.seq (.reg [⟨(some 11), (.load 66 (.tmp 1)), none⟩,
   ⟨(some 12), (.call (.mk (.builtin .len) #[(.tmp 11)] #[66])), none⟩,
   ⟨(some 13), (.move (.const (.int .i64 0))), none⟩])
 (.block 0 (.loop (.seq (.reg [⟨(some 14), (.binOp .lss 3 (.tmp 13) (.tmp 12) 3), none⟩])
 (.seq (.cond (.tmp 14) .skip (.exit 0))
 (.seq (.block 1 (.seq (.reg [⟨(some 15), (.move (.tmp 13)), none⟩,
   ⟨(some 5), (.assign (.tmp 15)), none⟩])
 (.reg [⟨(some 16), (.move (.tmp 4)), none⟩,
   ⟨(some 17), (.move (.tmp 5)), none⟩,
   ⟨(some 18), (.buildSlice 30 1 #[(0, (.tmp 17))]), none⟩,
   ⟨(some 19), (.call (.mk (.builtin .append) #[(.tmp 16), (.tmp 18)] #[30, 30])), none⟩,
   ⟨(some 4), (.assign (.tmp 19)), none⟩])))
 (.reg [⟨(some 20), (.binOp .add 3 (.tmp 13) (.const (.int .i64 1)) 3), none⟩,
   ⟨(some 13), (.move (.tmp 20)), none⟩])))))))
 (.seq (.reg [⟨(some 21), (.move (.tmp 4)), none⟩,
   ⟨(some 22), (.makeFunc (.func 107) #[] #[(.tmp 1)]), none⟩,
   ⟨(some 23), (.call (.mk (.value (.func 106)) #[(.tmp 21), (.tmp 22)] #[30, 111])), none⟩])
 (.seq (.seq (.reg [⟨(some 24), (.move (.tmp 4)), none⟩,
   ⟨(some 25), (.call (.mk (.builtin .len) #[(.tmp 24)] #[30])), none⟩,
   ⟨(some 26), (.move (.const (.int .i64 0))), none⟩])
 (.block 2 (.loop (.seq (.reg [⟨(some 27), (.binOp .lss 3 (.tmp 26) (.tmp 25) 3), none⟩])
 (.seq (.cond (.tmp 27) .skip (.exit 2))
 (.seq (.block 3 (.seq (.reg [⟨(some 28), (.move (.tmp 26)), none⟩,
   ⟨(some 29), (.indexAddr 30 (.tmp 24) (.tmp 26)), none⟩,
   ⟨(some 30), (.load 3 (.tmp 29)), none⟩,
   ⟨(some 6), (.assign (.tmp 28)), none⟩,
   ⟨(some 7), (.assign (.tmp 30)), none⟩])
 (.reg [⟨(some 31), (.move (.tmp 4)), none⟩,
   ⟨(some 32), (.move (.tmp 6)), none⟩,
   ⟨(some 33), (.load 66 (.tmp 1)), none⟩,
   ⟨(some 34), (.move (.tmp 7)), none⟩,
   ⟨(some 35), (.indexAddr 66 (.tmp 33) (.tmp 34)), none⟩,
   ⟨(some 36), (.fieldAddr 72 (.tmp 35) 0), none⟩,
   ⟨(some 37), (.load 3 (.tmp 36)), none⟩,
   ⟨(some 38), (.indexAddr 30 (.tmp 31) (.tmp 32)), none⟩,
   ⟨none, (.store 3 (.tmp 38) (.tmp 37)), none⟩])))
 (.reg [⟨(some 39), (.binOp .add 3 (.tmp 26) (.const (.int .i64 1)) 3), none⟩,
   ⟨(some 26), (.move (.tmp 39)), none⟩])))))))
 (.seq (.reg [⟨(some 40), (.move (.tmp 4)), none⟩,
   ⟨(some 2), (.assign (.tmp 40)), none⟩,
   ⟨(some 3), (.assign (.const (.bool true))), none⟩])
 .ret)))))))
theorem x_impl_RankShow : Txt Tryd.prog 45 c_impl_RankShow [.tmp 2, .tmp 3] 1 := ⟨by kernel_rfl, by kernel_rfl, _, _, Tryd.func45, rfl, by kernel_rfl, by kernel_rfl, by kernel_rfl, rfl, by decide⟩
def c_spec_RankShow_r0 : Cd :=
 (.regt [⟨(some 40), (.move (.tmp 5)), none⟩,
   ⟨(some 41), (.move (.tmp 7)), none⟩,
   ⟨(some 42), (.slice 66 (.tmp 40) none (some (.tmp 41)) none), none⟩,
   ⟨(some 44), (.move (.tmp 0)), none⟩,
   ⟨(some 45), (.move (.tmp 6)), none⟩,
   ⟨(some 46), (.indexAddr 66 (.tmp 44) (.tmp 45)), none⟩,
   ⟨(some 47), (.load 72 (.tmp 46)), none⟩,
   ⟨(some 50), (.move (.tmp 5)), none⟩,
   ⟨(some 51), (.move (.tmp 7)), none⟩,
   ⟨(some 52), (.slice 66 (.tmp 50) (some (.tmp 51)) none none), none⟩] (.alt true ⟨(some 39), (.buildSlice 66 0 #[]), none⟩
   (.alt true ⟨(some 43), (.call (.mk (.builtin .append) #[(.tmp 39), (.tmp 42)] #[66, 66])), none⟩
   (.one false ⟨(some 48), (.buildSlice 66 1 #[(0, (.tmp 47))]), none⟩
   (.one false ⟨(some 49), (.call (.mk (.builtin .append) #[(.tmp 43), (.tmp 48)] #[66, 66])), none⟩
   (.one false ⟨(some 53), (.call (.mk (.builtin .append) #[(.tmp 49), (.tmp 52)] #[66, 66])), none⟩
   (.one false ⟨(some 5), (.assign (.tmp 53)), none⟩
   .done))))
   (.one false ⟨(some 48), (.buildSlice 66 1 #[(0, (.tmp 47))]), none⟩
   (.one true ⟨(some 43), (.call (.mk (.builtin .append) #[(.tmp 39), (.tmp 42)] #[66, 66])), none⟩
   (.one false ⟨(some 49), (.call (.mk (.builtin .append) #[(.tmp 43), (.tmp 48)] #[66, 66])), none⟩
   (.one false ⟨(some 53), (.call (.mk (.builtin .append) #[(.tmp 49), (.tmp 52)] #[66, 66])), none⟩
   (.one false ⟨(some 5), (.assign (.tmp 53)), none⟩
   .done))))))
   (.one false ⟨(some 48), (.buildSlice 66 1 #[(0, (.tmp 47))]), none⟩
   (.one true ⟨(some 39), (.buildSlice 66 0 #[]), none⟩
   (.one true ⟨(some 43), (.call (.mk (.builtin .append) #[(.tmp 39), (.tmp 42)] #[66, 66])), none⟩
   (.one false ⟨(some 49), (.call (.mk (.builtin .append) #[(.tmp 43), (.tmp 48)] #[66, 66])), none⟩
   (.one false ⟨(some 53), (.call (.mk (.builtin .append) #[(.tmp 49), (.tmp 52)] #[66, 66])), none⟩
   (.one false ⟨(some 5), (.assign (.tmp 53)), none⟩
   .done))))))) [])
/-- loop.example/g01062/spec.RankShow -/
def c_spec_RankShow : Cd :=
 (.seq (.reg [⟨(some 2), (.assign (.const (.slice none 0 0))), none⟩,
   ⟨(some 3), (.assign (.const (.bool false))), none⟩])
 (.seq (.reg [⟨(some 9), (.buildSlice 30 0 #[]), none⟩,
   ⟨(some 4), (.assign (.tmp 9)), none⟩])
 (.seq (.seq (.reg [⟨(some 10), (.move (.tmp 0)), none⟩,
   ⟨(some 11), (.call (.mk (.value (.func 109)) #[(.tmp 10)] #[66])), none⟩,
   ⟨(some 12), (.unOp .not 4 (.tmp 11)), none⟩])
 (.cond (.tmp 12) (.seq (.reg [⟨(some 13), (.move (.tmp 4)), none⟩,
   ⟨(some 2), (.assign (.tmp 13)), none⟩,
   ⟨(some 3), (.assign (.const (.bool false))), none⟩])
 .ret) .skip))
 (.seq (.reg [⟨(some 14), (.buildSlice 66 0 #[]), none⟩,
   ⟨(some 5), (.assign (.tmp 14)), none⟩])
 (.seq (.seq (.reg [⟨(some 6), (.assign (.const (.int .i64 0))), none⟩])
 (.block 0 (.loop (.seq (.seq (.reg [⟨(some 15), (.move (.tmp 6)), none⟩,
   ⟨(some 16), (.move (.tmp 0)), none⟩,
   ⟨(some 17), (.call (.mk (.builtin .len) #[(.tmp 16)] #[66])), none⟩,
   ⟨(some 18), (.binOp .lss 3 (.tmp 15) (.tmp 17) 3), none⟩])
 (.cond (.tmp 18) .skip (.exit 0)))
 (.seq (.block 1 (.seq (.reg [⟨(some 21), (.move (.tmp 5)), none⟩,
   ⟨(some 22), (.call (.mk (.builtin .len) #[(.tmp 21)] #[66])), none⟩,
   ⟨(some 7), (.assign (.tmp 22)), none⟩])
 (.seq (.block 2 (.loop (.seq (.seq (.regq [⟨(some 23), (.move (.tmp 7)), none⟩,
   ⟨(some 24), (.binOp .gtr 3 (.tmp 23) (.const (.int .i64 0)) 3), none⟩,
   ⟨(some 25), (.move (.tmp 24)), none⟩,
   ⟨(some 26), (.move (.tmp 0)), (some (25, true))⟩,
   ⟨(some 27), (.move (.tmp 6)), (some (25, true))⟩,
   ⟨(some 28), (.indexAddr 66 (.tmp 26) (.tmp 27)), (some (25, true))⟩,
   ⟨(some 29), (.load 72 (.tmp 28)), (some (25, true))⟩,
   ⟨(some 30), (.move (.tmp 5)), (some (25, true))⟩,
   ⟨(some 31), (.move (.tmp 7)), (some (25, true))⟩,
   ⟨(some 32), (.binOp .sub 3 (.tmp 31) (.const (.int .i64 1)) 3), (some (25, true))⟩,
   ⟨(some 33), (.indexAddr 66 (.tmp 30) (.tmp 32)), (some (25, true))⟩,
   ⟨(some 34), (.load 72 (.tmp 33)), (some (25, true))⟩,
   ⟨(some 35), (.call (.mk (.value (.func 110)) #[(.tmp 29), (.tmp 34)] #[72, 72])), (some (25, true))⟩,
   ⟨(some 36), (.pick (.tmp 25) (.tmp 35) (.const (.bool false))), none⟩])
 (.cond (.tmp 36) .skip (.exit 2)))
 (.block 3 (.reg [⟨(some 37), (.move (.tmp 7)), none⟩,
   ⟨(some 38), (.binOp .sub 3 (.tmp 37) (.const (.int .i64 1)) 3), none⟩,
   ⟨(some 7), (.assign (.tmp 38)), none⟩])))))
 c_spec_RankShow_r0)))
 (.reg [⟨(some 19), (.move (.tmp 6)), none⟩,
   ⟨(some 20), (.binOp .add 3 (.tmp 19) (.const (.int .i64 1)) 3), none⟩,
   ⟨(some 6), (.assign (.tmp 20)), none⟩]))))))
 (.seq (.seq (.reg [⟨(some 8), (.assign (.const (.int .i64 0))), none⟩])
 (.block 4 (.loop (.seq (.seq (.reg [⟨(some 54), (.move (.tmp 8)), none⟩,
   ⟨(some 55), (.move (.tmp 5)), none⟩,
   ⟨(some 56), (.call (.mk (.builtin .len) #[(.tmp 55)] #[66])), none⟩,
   ⟨(some 57), (.binOp .lss 3 (.tmp 54) (.tmp 56) 3), none⟩])
 (.cond (.tmp 57) .skip (.exit 4)))
 (.seq (.block 5 (.reg [⟨(some 60), (.move (.tmp 4)), none⟩,
   ⟨(some 61), (.move (.tmp 5)), none⟩,
   ⟨(some 62), (.move (.tmp 8)), none⟩,
   ⟨(some 63), (.indexAddr 66 (.tmp 61) (.tmp 62)), none⟩,
   ⟨(some 64), (.fieldAddr 72 (.tmp 63) 0), none⟩,
   ⟨(some 65), (.load 3 (.tmp 64)), none⟩,
   ⟨(some 66), (.buildSlice 30 1 #[(0, (.tmp 65))]), none⟩,
   ⟨(some 67), (.call (.mk (.builtin .append) #[(.tmp 60), (.tmp 66)] #[30, 30])), none⟩,
   ⟨(some 4), (.assign (.tmp 67)), none⟩]))
 (.reg [⟨(some 58), (.move (.tmp 8)), none⟩,
   ⟨(some 59), (.binOp .add 3 (.tmp 58) (.const (.int .i64 1)) 3), none⟩,
   ⟨(some 8), (.assign (.tmp 59)), none⟩]))))))
 (.seq (.reg [⟨(some 68), (.move (.tmp 4)), none⟩,
   ⟨(some 2), (.assign (.tmp 68)), none⟩,
   ⟨(some 3), (.assign (.const (.bool true))), none⟩])
 .ret)))))))
theorem x_spec_RankShow : Txt Tryd.prog 46 c_spec_RankShow [.tmp 2, .tmp 3] 1 := ⟨by kernel_rfl, by kernel_rfl, _, _, Tryd.func46, rfl, by kernel_rfl, by kernel_rfl, by kernel_rfl, rfl, by decide⟩
/-- loop.example/g01062/impl.PlaceOf -/
def c_impl_PlaceOf : Cd :=
 (.seq (.reg [⟨(some 4), (.assign (.const (.int .i64 0))), none⟩,
   ⟨(some 5), (.assign (.const (.bool false))), none⟩])
 (.seq (.reg [⟨(some 9), (.move (.tmp 0)), none⟩,
   ⟨(some 10), (.move (.tmp 1)), none⟩,
   ⟨(some 11), (.call (.mk (.value (.func 111)) #[(.tmp 9), (.tmp 10)] #[66, 3])), none⟩,
   ⟨(some 6), (.assign (.tmp 11)), none⟩])
 (.seq (.seq (.reg [⟨(some 12), (.move (.tmp 0)), none⟩,
   ⟨(some 13), (.call (.mk (.value (.func 105)) #[(.tmp 12)] #[66])), none⟩,
   ⟨(some 14), (.unOp .not 4 (.tmp 13)), none⟩,
   ⟨(some 15), (.move (.tmp 14)), none⟩,
   ⟨(some 16), (.move (.tmp 6)), (some (15, false))⟩,
   ⟨(some 17), (.binOp .lss 3 (.tmp 16) (.const (.int .i64 0)) 3), (some (15, false))⟩,
   ⟨(some 18), (.pick (.tmp 15) (.const (.bool true)) (.tmp 17)), none⟩])
 (.cond (.tmp 18) (.seq (.reg [⟨(some 4), (.assign (.const (.int .i64 0))), none⟩,
   ⟨(some 5), (.assign (.const (.bool false))), none⟩])
 .ret) .skip))
 (.seq (.reg [⟨(some 7), (.assign (.const (.int .i64 1))), none⟩])
 (.seq (.seq (.reg [⟨(some 19), (.move (.tmp 0)), none⟩,
   ⟨(some 20), (.call (.mk (.builtin .len) #[(.tmp 19)] #[66])), none⟩,
   ⟨(some 21), (.move (.const (.int .i64 0))), none⟩])
 (.block 0 (.loop (.seq (.reg [⟨(some 22), (.binOp .lss 3 (.tmp 21) (.tmp 20) 3), none⟩])
 (.seq (.cond (.tmp 22) .skip (.exit 0))
 (.seq (.block 1 (.seq (.reg [⟨(some 23), (.move (.tmp 21)), none⟩,
   ⟨(some 8), (.assign (.tmp 23)), none⟩])
 (.seq (.regq [⟨(some 24), (.move (.tmp 0)), none⟩,
   ⟨(some 25), (.move (.tmp 8)), none⟩,
   ⟨(some 26), (.indexAddr 66 (.tmp 24) (.tmp 25)), none⟩,
   ⟨(some 27), (.move (.tmp 0)), none⟩,
   ⟨(some 28), (.move (.tmp 6)), none⟩,
   ⟨(some 29), (.indexAddr 66 (.tmp 27) (.tmp 28)), none⟩,
   ⟨(some 30), (.call (.mk (.value (.func 108)) #[(.tmp 26), (.tmp 29)] #[110, 110])), none⟩,
   ⟨(some 31), (.binOp .gtr 3 (.tmp 30) (.const (.int .i64 0)) 3), none⟩])
 (.cond (.tmp 31) (.reg [⟨(some 32), (.move (.tmp 7)), none⟩,
   ⟨(some 33), (.binOp .add 3 (.tmp 32) (.const (.int .i64 1)) 3), none⟩,
   ⟨(some 7), (.assign (.tmp 33)), none⟩]) .skip))))
 (.reg [⟨(some 34), (.binOp .add 3 (.tmp 21) (.const (.int .i64 1)) 3), none⟩,
   ⟨(some 21), (.move (.tmp 34)), none⟩])))))))
 (.seq (.reg [⟨(some 35), (.move (.tmp 7)), none⟩,
   ⟨(some 4), (.assign (.tmp 35)), none⟩,
   ⟨(some 5), (.assign (.const (.bool true))), none⟩])
 .ret))))))
theorem x_impl_PlaceOf : Txt Tryd.prog 47 c_impl_PlaceOf [.tmp 4, .tmp 5] 2 := ⟨by kernel_rfl, by kernel_rfl, _, _, Tryd.func47, rfl, by kernel_rfl, by kernel_rfl, by kernel_rfl, rfl, by decide⟩
/-- loop.example/g01062/impl.MedalCounts -/
def c_impl_MedalCounts : Cd :=
 (.seq (.reg [⟨(some 2), (.assign (.const (.slice none 0 0))), none⟩,
   ⟨(some 3), (.assign (.const (.bool false))), none⟩])
 (.seq (.seq (.reg [⟨(some 7), (.move (.tmp 0)), none⟩,
   ⟨(some 8), (.call (.mk (.value (.func 105)) #[(.tmp 7)] #[66])), none⟩,
   ⟨(some 9), (.unOp .not 4 (.tmp 8)), none⟩])
 (.cond (.tmp 9) (.seq (.reg [⟨(some 2), (.assign (.const (.slice none 0 0))), none⟩,
   ⟨(some 3), (.assign (.const (.bool false))), none⟩])
 .ret) .skip))
 (.seq (.reg [⟨(some 10), (.makeSlice 30 (.const (.int .i64 5)) (.const (.int .i64 5))), none⟩,
   ⟨(some 4), (.assign (.tmp 10)), none⟩])
 (.seq (.seq (.reg [⟨(some 11), (.move (.tmp 0)), none⟩,
   ⟨(some 12), (.call (.mk (.builtin .len) #[(.tmp 11)] #[66])), none⟩,
   ⟨(some 13), (.move (.const (.int .i64 0))), none⟩])
 (.block 0 (.loop (.seq (.reg [⟨(some 14), (.binOp .lss 3 (.tmp 13) (.tmp 12) 3), none⟩])
 (.seq (.cond (.tmp 14) .skip (.exit 0))
 (.seq (.block 1 (.seq (.reg [⟨(some 15), (.indexAddr 66 (.tmp 11) (.tmp 13)), none⟩,
   ⟨(some 16), (.load 72 (.tmp 15)), none⟩,
   ⟨(some 6), (.alloc 72), none⟩,
   ⟨none, (.store 72 (.tmp 6) (.tmp 16)), none⟩])
 (.reg [⟨(some 17), (.move (.tmp 4)), none⟩,
   ⟨(some 18), (.fieldAddr 72 (.tmp 6) 3), none⟩,
   ⟨(some 19), (.load 30 (.tmp 18)), none⟩,
   ⟨(some 20), (.call (.mk (.value (.func 112)) #[(.tmp 19)] #[30])), none⟩,
   ⟨(some 21), (.indexAddr 30 (.tmp 17) (.tmp 20)), none⟩,
   ⟨(some 22), (.load 3 (.tmp 21)), none⟩,
   ⟨(some 23), (.binOp .add 3 (.tmp 22) (.const (.int .i64 1)) 3), none⟩,
   ⟨(some 24), (.indexAddr 30 (.tmp 17) (.tmp 20)), none⟩,
   ⟨none, (.store 3 (.tmp 24) (.tmp 23)), none⟩])))
 (.reg [⟨(some 25), (.binOp .add 3 (.tmp 13) (.const (.int .i64 1)) 3), none⟩,
   ⟨(some 13), (.move (.tmp 25)), none⟩])))))))
 (.seq (.reg [⟨(some 26), (.move (.tmp 4)), none⟩,
   ⟨(some 2), (.assign (.tmp 26)), none⟩,
   ⟨(some 3), (.assign (.const (.bool true))), none⟩])
 .ret)))))
theorem x_impl_MedalCounts : Txt Tryd.prog 48 c_impl_MedalCounts [.tmp 2, .tmp 3] 1 := ⟨by kernel_rfl, by kernel_rfl, _, _, Tryd.func48, rfl, by kernel_rfl, by kernel_rfl, by kernel_rfl, rfl, by decide⟩
/-- loop.example/g01062/spec.MedalCounts -/
def c_spec_MedalCounts : Cd :=
 (.seq (.reg [⟨(some 2), (.assign (.const (.slice none 0 0))), none⟩,
   ⟨(some 3), (.assign (.const (.bool false))), none⟩])
 (.seq (.seq (.reg [⟨(some 7), (.move (.tmp 0)), none⟩,
   ⟨(some 8), (.call (.mk (.value (.func 109)) #[(.tmp 7)] #[66])), none⟩,
   ⟨(some 9), (.unOp .not 4 (.tmp 8)), none⟩])
 (.cond (.tmp 9) (.seq (.reg [⟨(some 10), (.buildSlice 30 0 #[]), none⟩,
   ⟨(some 2), (.assign (.tmp 10)), none⟩,
   ⟨(some 3), (.assign (.const (.bool false))), none⟩])
 .ret) .skip))
 (.seq (.reg [⟨(some 11), (.makeSlice 30 (.const (.int .i64 5)) (.const (.int .i64 5))), none⟩,
   ⟨(some 4), (.assign (.tmp 11)), none⟩])
 (.seq (.seq (.reg [⟨(some 5), (.assign (.const (.int .i64 0))), none⟩])
 (.block 0 (.loop (.seq (.seq (.reg [⟨(some 12), (.move (.tmp 5)), none⟩,
   ⟨(some 13), (.move (.tmp 0)), none⟩,
   ⟨(some 14), (.call (.mk (.builtin .len) #[(.tmp 13)] #[66])), none⟩,
   ⟨(some 15), (.binOp .lss 3 (.tmp 12) (.tmp 14) 3), none⟩])
 (.cond (.tmp 15) .skip (.exit 0)))
 (.seq (.block 1 (.seq (.reg [⟨(some 18), (.move (.tmp 0)), none⟩,
   ⟨(some 19), (.move (.tmp 5)), none⟩,
   ⟨(some 20), (.indexAddr 66 (.tmp 18) (.tmp 19)), none⟩,
   ⟨(some 21), (.fieldAddr 72 (.tmp 20) 3), none⟩,
   ⟨(some 22), (.load 30 (.tmp 21)), none⟩,
   ⟨(some 23), (.call (.mk (.value (.func 113)) #[(.tmp 22)] #[30])), none⟩,
   ⟨(some 6), (.assign (.tmp 23)), none⟩])
 (.reg [⟨(some 24), (.move (.tmp 4)), none⟩,
   ⟨(some 25), (.move (.tmp 6)), none⟩,
   ⟨(some 26), (.move (.tmp 4)), none⟩,
   ⟨(some 27), (.move (.tmp 6)), none⟩,
   ⟨(some 28), (.indexAddr 30 (.tmp 26) (.tmp 27)), none⟩,
   ⟨(some 29), (.load 3 (.tmp 28)), none⟩,
   ⟨(some 30), (.binOp .add 3 (.tmp 29) (.const (.int .i64 1)) 3), none⟩,
   ⟨(some 31), (.indexAddr 30 (.tmp 24) (.tmp 25)), none⟩,
   ⟨none, (.store 3 (.tmp 31) (.tmp 30)), none⟩])))
 (.reg [⟨(some 16), (.move (.tmp 5)), none⟩,
   ⟨(some 17), (.binOp .add 3 (.tmp 16) (.const (.int .i64 1)) 3), none⟩,
   ⟨(some 5), (.assign (.tmp 17)), none⟩]))))))
 (.seq (.reg [⟨(some 32), (.move (.tmp 4)), none⟩,
   ⟨(some 2), (.assign (.tmp 32)), none⟩,
   ⟨(some 3), (.assign (.const (.bool true))), none⟩])
 .ret)))))
theorem x_spec_MedalCounts : Txt Tryd.prog 49 c_spec_MedalCounts [.tmp 2, .tmp 3] 1 := ⟨by kernel_rfl, by kernel_rfl, _, _, Tryd.func49, rfl, by kernel_rfl, by kernel_rfl, by kernel_rfl, rfl, by decide⟩
/-- loop.example/g01062/laws.rSum -/
def c_laws_rSum : Cd :=
 (.seq (.reg [⟨(some 2), (.assign (.const (.int .i64 0))), none⟩])
 (.seq (.reg [⟨(some 3), (.assign (.const (.int .i64 0))), none⟩])
 (.seq (.seq (.reg [⟨(some 4), (.assign (.const (.int .i64 0))), none⟩])
 (.block 0 (.loop (.seq (.seq (.reg [⟨(some 5), (.move (.tmp 4)), none⟩,
   ⟨(some 6), (.move (.tmp 0)), none⟩,
   ⟨(some 7), (.call (.mk (.builtin .len) #[(.tmp 6)] #[30])), none⟩,
   ⟨(some 8), (.binOp .lss 3 (.tmp 5) (.tmp 7) 3), none⟩])
 (.cond (.tmp 8) .skip (.exit 0)))
 (.seq (.block 1 (.reg [⟨(some 11), (.move (.tmp 3)), none⟩,
   ⟨(some 12), (.move (.tmp 0)), none⟩,
   ⟨(some 13), (.move (.tmp 4)), none⟩,
   ⟨(some 14), (.indexAddr 30 (.tmp 12) (.tmp 13)), none⟩,
   ⟨(some 15), (.load 3 (.tmp 14)), none⟩,
   ⟨(some 16), (.binOp .add 3 (.tmp 11) (.tmp 15) 3), none⟩,
   ⟨(some 3), (.assign (.tmp 16)), none⟩]))
 (.reg [⟨(some 9), (.move (.tmp 4)), none⟩,
   ⟨(some 10), (.binOp .add 3 (.tmp 9) (.const (.int .i64 1)) 3), none⟩,
   ⟨(some 4), (.assign (.tmp 10)), none⟩]))))))
 (.seq (.reg [⟨(some 17), (.move (.tmp 3)), none⟩,
   ⟨(some 2), (.assign (.tmp 17)), none⟩])
 .ret))))
theorem x_laws_rSum : Txt Tryd.prog 50 c_laws_rSum [.tmp 2] 1 := ⟨by kernel_rfl, by kernel_rfl, _, _, Tryd.func50, rfl, by kernel_rfl, by kernel_rfl, by kernel_rfl, rfl, by decide⟩
/-- loop.example/g01062/spec.DrawScoreOf -/
def c_spec_DrawScoreOf : Cd :=
 (.seq (.reg [⟨(some 2), (.alloc 72), none⟩])
 (.seq (.reg [⟨(some 4), (.move (.tmp 0)), none⟩,
   ⟨(some 5), (.build 83 #[(0, (.tmp 4))]), none⟩,
   ⟨(some 6), (.box 83 (.tmp 5)), none⟩,
   ⟨(some 3), (.assign (.tmp 6)), none⟩])
 (.seq (.reg [⟨(some 7), (.move (.tmp 3)), none⟩,
   ⟨(some 8), (.move (.tmp 3)), none⟩,
   ⟨(some 9), (.buildSlice 30 3 #[(0, (.const (.int .i64 1))), (1, (.const (.int .i64 42))), (2, (.const (.int .i64 99)))]), none⟩,
   ⟨(some 10), (.call (.mk (.value (.func 64)) #[(.tmp 8), (.tmp 9)] #[80, 30])), none⟩,
   ⟨(some 11), (.move (.tmp 3)), none⟩,
   ⟨(some 12), (.buildSlice 30 4 #[(0, (.const (.int .i64 3))), (1, (.const (.int .i64 4))), (2, (.const (.int .i64 5))), (3, (.const (.int .i64 7)))]), none⟩,
   ⟨(some 13), (.call (.mk (.value (.func 64)) #[(.tmp 11), (.tmp 12)] #[80, 30])), none⟩,
   ⟨(some 14), (.call (.mk (.value (.func 114)) #[(.tmp 7), (.tmp 10), (.tmp 13)] #[80, 3, 3])), none⟩,
   ⟨none, (.store 72 (.tmp 2) (.tmp 14)), none⟩])
 .ret)))
theorem x_spec_DrawScoreOf : Txt Tryd.prog 51 c_spec_DrawScoreOf [.cell 2 72] 1 := ⟨by kernel_rfl, by kernel_rfl, _, _, Tryd.func51, rfl, by kernel_rfl, by kernel_rfl, by kernel_rfl, rfl, by decide⟩
/-- loop.example/g01062/impl.ScoreOf -/
def c_impl_ScoreOf : Cd :=
 (.seq (.reg [⟨(some 1), (.box 72 (.tmp 0)), none⟩,
   ⟨(some 2), (.assign (.const (.int .i64 0))), none⟩,
   ⟨(some 3), (.assign (.const (.int .i64 0))), none⟩,
   ⟨(some 4), (.assign (.const (.bool false))), none⟩])
 (.seq (.seq (.reg [⟨(some 7), (.call (.mk (.value (.func 115)) #[(.tmp 1)] #[110])), none⟩,
   ⟨(some 8), (.unOp .not 4 (.tmp 7)), none⟩])
 (.cond (.tmp 8) (.seq (.reg [⟨(some 2), (.assign (.const (.int .i64 0))), none⟩,
   ⟨(some 3), (.assign (.const (.int .i64 0))), none⟩,
   ⟨(some 4), (.assign (.const (.bool false))), none⟩])
 .ret) .skip))
 (.seq (.regt [⟨(some 10), (.fieldAddr 72 (.tmp 1) 3), none⟩,
   ⟨(some 11), (.load 30 (.tmp 10)), none⟩,
   ⟨(some 13), (.fieldAddr 72 (.tmp 1) 3), none⟩,
   ⟨(some 14), (.load 30 (.tmp 13)), none⟩,
   ⟨(some 15), (.call (.mk (.builtin .len) #[(.tmp 14)] #[30])), none⟩,
   ⟨(some 16), (.binOp .sub 3 (.tmp 15) (.const (.int .i64 2)) 3), none⟩] (.one true ⟨(some 12), (.call (.mk (.value (.func 117)) #[(.tmp 11)] #[30])), none⟩
   (.one false ⟨(some 17), (.call (.mk (.value (.func 116)) #[(.tmp 12), (.tmp 16)] #[3, 3])), none⟩
   (.one false ⟨(some 9), (.move (.tmp 17)), none⟩
   (.now ⟨(some 18), (.extract (.tmp 9) 0), none⟩
   (.now ⟨(some 19), (.extract (.tmp 9) 1), none⟩
   (.one false ⟨(some 5), (.assign (.tmp 18)), none⟩
   (.one false ⟨(some 6), (.assign (.tmp 19)), none⟩
   .done))))))) [])
 (.seq (.reg [⟨(some 20), (.move (.tmp 5)), none⟩,
   ⟨(some 21), (.move (.tmp 6)), none⟩,
   ⟨(some 2), (.assign (.tmp 20)), none⟩,
   ⟨(some 3), (.assign (.tmp 21)), none⟩,
   ⟨(some 4), (.assign (.const (.bool true))), none⟩])
 .ret))))
theorem x_impl_ScoreOf : Txt Tryd.prog 52 c_impl_ScoreOf [.tmp 2, .tmp 3, .tmp 4] 1 := ⟨by kernel_rfl, by kernel_rfl, _, _, Tryd.func52, rfl, by kernel_rfl, by kernel_rfl, by kernel_rfl, rfl, by decide⟩
/-- loop.example/g01062/spec.ScoreOf -/
def c_spec_ScoreOf : Cd :=
 (.seq (.reg [⟨(some 1), (.box 72 (.tmp 0)), none⟩,
   ⟨(some 2), (.assign (.const (.int .i64 0))), none⟩,
   ⟨(some 3), (.assign (.const (.int .i64 0))), none⟩,
   ⟨(some 4), (.assign (.const (.bool false))), none⟩])
 (.seq (.seq (.reg [⟨(some 7), (.load 72 (.tmp 1)), none⟩,
   ⟨(some 8), (.call (.mk (.value (.func 118)) #[(.tmp 7)] #[72])), none⟩,
   ⟨(some 9), (.unOp .not 4 (.tmp 8)), none⟩])
 (.cond (.tmp 9) (.seq (.reg [⟨(some 2), (.assign (.const (.int .i64 0))), none⟩,
   ⟨(some 3), (.assign (.const (.int .i64 0))), none⟩,
   ⟨(some 4), (.assign (.const (.bool false))), none⟩])
 .ret) .skip))
 (.seq (.regt [⟨(some 11), (.fieldAddr 72 (.tmp 1) 3), none⟩,
   ⟨(some 12), (.load 30 (.tmp 11)), none⟩,
   ⟨(some 14), (.fieldAddr 72 (.tmp 1) 3), none⟩,
   ⟨(some 15), (.load 30 (.tmp 14)), none⟩,
   ⟨(some 16), (.call (.mk (.builtin .len) #[(.tmp 15)] #[30])), none⟩,
   ⟨(some 17), (.binOp .sub 3 (.tmp 16) (.const (.int .i64 2)) 3), none⟩] (.one true ⟨(some 13), (.call (.mk (.value (.func 120)) #[(.tmp 12)] #[30])), none⟩
   (.one false ⟨(some 18), (.call (.mk (.value (.func 119)) #[(.tmp 13), (.tmp 17)] #[3, 3])), none⟩
   (.one false ⟨(some 10), (.move (.tmp 18)), none⟩
   (.now ⟨(some 19), (.extract (.tmp 10) 0), none⟩
   (.now ⟨(some 20), (.extract (.tmp 10) 1), none⟩
   (.one false ⟨(some 5), (.assign (.tmp 19)), none⟩
   (.one false ⟨(some 6), (.assign (.tmp 20)), none⟩
   .done))))))) [])
 (.seq (.reg [⟨(some 21), (.move (.tmp 5)), none⟩,
   ⟨(some 22), (.move (.tmp 6)), none⟩,
   ⟨(some 2), (.assign (.tmp 21)), none⟩,
   ⟨(some 3), (.assign (.tmp 22)), none⟩,
   ⟨(some 4), (.assign (.const (.bool true))), none⟩])
 .ret))))
theorem x_spec_ScoreOf : Txt Tryd.prog 53 c_spec_ScoreOf [.tmp 2, .tmp 3, .tmp 4] 1 := ⟨by kernel_rfl, by kernel_rfl, _, _, Tryd.func53, rfl, by kernel_rfl, by kernel_rfl, by kernel_rfl, rfl, by decide⟩
/-- loop.example/g01062/impl.MedalOf -/
def c_impl_MedalOf : Cd :=
 (.seq (.reg [⟨(some 1), (.box 72 (.tmp 0)), none⟩,
   ⟨(some 2), (.assign (.const (.int .i64 0))), none⟩,
   ⟨(some 3), (.assign (.const (.bool false))), none⟩])
 (.seq (.seq (.reg [⟨(some 4), (.call (.mk (.value (.func 115)) #[(.tmp 1)] #[110])), none⟩,
   ⟨(some 5), (.unOp .not 4 (.tmp 4)), none⟩])
 (.cond (.tmp 5) (.seq (.reg [⟨(some 2), (.assign (.const (.int .i64 0))), none⟩,
   ⟨(some 3), (.assign (.const (.bool false))), none⟩])
 .ret) .skip))
 (.seq (.reg [⟨(some 6), (.fieldAddr 72 (.tmp 1) 3), none⟩,
   ⟨(some 7), (.load 30 (.tmp 6)), none⟩,
   ⟨(some 8), (.call (.mk (.value (.func 112)) #[(.tmp 7)] #[30])), none⟩,
   ⟨(some 2), (.assign (.tmp 8)), none⟩,
   ⟨(some 3), (.assign (.const (.bool true))), none⟩])
 .ret)))
theorem x_impl_MedalOf : Txt Tryd.prog 54 c_impl_MedalOf [.tmp 2, .tmp 3] 1 := ⟨by kernel_rfl, by kernel_rfl, _, _, Tryd.func54, rfl, by kernel_rfl, by kernel_rfl, by kernel_rfl, rfl, by decide⟩
/-- loop.example/g01062/spec.MedalOf -/
def c_spec_MedalOf : Cd :=
 (.seq (.reg [⟨(some 1), (.box 72 (.tmp 0)), none⟩,
   ⟨(some 2), (.assign (.const (.int .i64 0))), none⟩,
   ⟨(some 3), (.assign (.const (.bool false))), none⟩])
 (.seq (.seq (.reg [⟨(some 4), (.load 72 (.tmp 1)), none⟩,
   ⟨(some 5), (.call (.mk (.value (.func 118)) #[(.tmp 4)] #[72])), none⟩,
   ⟨(some 6), (.unOp .not 4 (.tmp 5)), none⟩])
 (.cond (.tmp 6) (.seq (.reg [⟨(some 2), (.assign (.const (.int .i64 0))), none⟩,
   ⟨(some 3), (.assign (.const (.bool false))), none⟩])
 .ret) .skip))
 (.seq (.reg [⟨(some 7), (.fieldAddr 72 (.tmp 1) 3), none⟩,
   ⟨(some 8), (.load 30 (.tmp 7)), none⟩,
   ⟨(some 9), (.call (.mk (.value (.func 113)) #[(.tmp 8)] #[30])), none⟩,
   ⟨(some 2), (.assign (.tmp 9)), none⟩,
   ⟨(some 3), (.assign (.const (.bool true))), none⟩])
 .ret)))
theorem x_spec_MedalOf : Txt Tryd.prog 55 c_spec_MedalOf [.tmp 2, .tmp 3] 1 := ⟨by kernel_rfl, by kernel_rfl, _, _, Tryd.func55, rfl, by kernel_rfl, by kernel_rfl, by kernel_rfl, rfl, by decide⟩
/-- loop.example/g01062/spec.DrawPlaceOf -/
def c_spec_DrawPlaceOf : Cd :=
 (.seq (.reg [⟨(some 2), (.assign (.const (.slice none 0 0))), none⟩,
   ⟨(some 3), (.assign (.const (.int .i64 0))), none⟩])
 (.seq (.reg [⟨(some 6), (.move (.tmp 0)), none⟩,
   ⟨(some 7), (.build 83 #[(0, (.tmp 6))]), none⟩,
   ⟨(some 8), (.box 83 (.tmp 7)), none⟩,
   ⟨(some 4), (.assign (.tmp 8)), none⟩])
 (.seq (.reg [⟨(some 9), (.move (.tmp 4)), none⟩,
   ⟨(some 10), (.call (.mk (.value (.func 121)) #[(.tmp 9)] #[80])), none⟩,
   ⟨(some 5), (.assign (.tmp 10)), none⟩])
 (.seq (.reg [⟨(some 11), (.move (.tmp 5)), none⟩,
   ⟨(some 12), (.move (.tmp 4)), none⟩,
   ⟨(some 13), (.move (.tmp 5)), none⟩,
   ⟨(some 14), (.call (.mk (.value (.func 122)) #[(.tmp 12), (.tmp 13)] #[80, 66])), none⟩,
   ⟨(some 2), (.assign (.tmp 11)), none⟩,
   ⟨(some 3), (.assign (.tmp 14)), none⟩])
 .ret))))
theorem x_spec_DrawPlaceOf : Txt Tryd.prog 56 c_spec_DrawPlaceOf [.tmp 2, .tmp 3] 1 := ⟨by kernel_rfl, by kernel_rfl, _, _, Tryd.func56, rfl, by kernel_rfl, by kernel_rfl, by kernel_rfl, rfl, by decide⟩
/-- loop.example/g01062/spec.PlaceOf -/
def c_spec_PlaceOf : Cd :=
 (.seq (.reg [⟨(some 4), (.assign (.const (.int .i64 0))), none⟩,
   ⟨(some 5), (.assign (.const (.bool false))), none⟩])
 (.seq (.reg [⟨(some 9), (.move (.tmp 0)), none⟩,
   ⟨(some 10), (.move (.tmp 1)), none⟩,
   ⟨(some 11), (.call (.mk (.value (.func 123)) #[(.tmp 9), (.tmp 10)] #[66, 3])), none⟩,
   ⟨(some 6), (.assign (.tmp 11)), none⟩])
 (.seq (.seq (.reg [⟨(some 12), (.move (.tmp 0)), none⟩,
   ⟨(some 13), (.call (.mk (.value (.func 109)) #[(.tmp 12)] #[66])), none⟩,
   ⟨(some 14), (.unOp .not 4 (.tmp 13)), none⟩,
   ⟨(some 15), (.move (.tmp 14)), none⟩,
   ⟨(some 16), (.move (.tmp 6)), (some (15, false))⟩,
   ⟨(some 17), (.binOp .lss 3 (.tmp 16) (.const (.int .i64 0)) 3), (some (15, false))⟩,
   ⟨(some 18), (.pick (.tmp 15) (.const (.bool true)) (.tmp 17)), none⟩])
 (.cond (.tmp 18) (.seq (.reg [⟨(some 4), (.assign (.const (.int .i64 0))), none⟩,
   ⟨(some 5), (.assign (.const (.bool false))), none⟩])
 .ret) .skip))
 (.seq (.reg [⟨(some 7), (.assign (.const (.int .i64 1))), none⟩])
 (.seq (.seq (.reg [⟨(some 8), (.assign (.const (.int .i64 0))), none⟩])
 (.block 0 (.loop (.seq (.seq (.reg [⟨(some 19), (.move (.tmp 8)), none⟩,
   ⟨(some 20), (.move (.tmp 0)), none⟩,
   ⟨(some 21), (.call (.mk (.builtin .len) #[(.tmp 20)] #[66])), none⟩,
   ⟨(some 22), (.binOp .lss 3 (.tmp 19) (.tmp 21) 3), none⟩])
 (.cond (.tmp 22) .skip (.exit 0)))
 (.seq (.block 1 (.seq (.regq [⟨(some 25), (.move (.tmp 0)), none⟩,
   ⟨(some 26), (.move (.tmp 8)), none⟩,
   ⟨(some 27), (.indexAddr 66 (.tmp 25) (.tmp 26)), none⟩,
   ⟨(some 28), (.load 72 (.tmp 27)), none⟩,
   ⟨(some 29), (.move (.tmp 0)), none⟩,
   ⟨(some 30), (.move (.tmp 6)), none⟩,
   ⟨(some 31), (.indexAddr 66 (.tmp 29) (.tmp 30)), none⟩,
   ⟨(some 32), (.load 72 (.tmp 31)), none⟩,
   ⟨(some 33), (.call (.mk (.value (.func 110)) #[(.tmp 28), (.tmp 32)] #[72, 72])), none⟩])
 (.cond (.tmp 33) (.reg [⟨(some 34), (.move (.tmp 7)), none⟩,
   ⟨(some 35), (.binOp .add 3 (.tmp 34) (.const (.int .i64 1)) 3), none⟩,
   ⟨(some 7), (.assign (.tmp 35)), none⟩]) .skip)))
 (.reg [⟨(some 23), (.move (.tmp 8)), none⟩,
   ⟨(some 24), (.binOp .add 3 (.tmp 23) (.const (.int .i64 1)) 3), none⟩,
   ⟨(some 8), (.assign (.tmp 24)), none⟩]))))))
 (.seq (.reg [⟨(some 36), (.move (.tmp 7)), none⟩,
   ⟨(some 4), (.assign (.tmp 36)), none⟩,
   ⟨(some 5), (.assign (.const (.bool true))), none⟩])
 .ret))))))
theorem x_spec_PlaceOf : Txt Tryd.prog 57 c_spec_PlaceOf [.tmp 4, .tmp 5] 2 := ⟨by kernel_rfl, by kernel_rfl, _, _, Tryd.func57, rfl, by kernel_rfl, by kernel_rfl, by kernel_rfl, rfl, by decide⟩
/-- loop.example/g01062/impl.ShowText -/
def c_impl_ShowText : Cd :=
 (.seq (.reg [⟨(some 1), (.box 72 (.tmp 0)), none⟩,
   ⟨(some 2), (.assign (.const (.string (ByteArray.mk #[])))), none⟩,
   ⟨(some 3), (.assign (.const (.bool false))), none⟩])
 (.seq (.seq (.reg [⟨(some 4), (.call (.mk (.value (.func 115)) #[(.tmp 1)] #[110])), none⟩,
   ⟨(some 5), (.unOp .not 4 (.tmp 4)), none⟩])
 (.cond (.tmp 5) (.seq (.reg [⟨(some 2), (.assign (.const (.string (ByteArray.mk #[])))), none⟩,
   ⟨(some 3), (.assign (.const (.bool false))), none⟩])
 .ret) .skip))
 (.seq (.regq [⟨(some 6), (.fieldAddr 72 (.tmp 1) 0), none⟩,
   ⟨(some 7), (.load 3 (.tmp 6)), none⟩,
   ⟨(some 8), (.call (.mk (.value (.func 79)) #[(.tmp 7)] #[3])), none⟩,
   ⟨(some 9), (.binOp .add 9 (.tmp 8) (.const (.string (ByteArray.mk #[32]))) 9), none⟩,
   ⟨(some 10), (.fieldAddr 72 (.tmp 1) 1), none⟩,
   ⟨(some 11), (.load 9 (.tmp 10)), none⟩,
   ⟨(some 12), (.binOp .add 9 (.tmp 9) (.tmp 11) 9), none⟩,
   ⟨(some 13), (.binOp .add 9 (.tmp 12) (.const (.string (ByteArray.mk #[32, 40]))) 9), none⟩,
   ⟨(some 14), (.fieldAddr 72 (.tmp 1) 2), none⟩,
   ⟨(some 15), (.load 3 (.tmp 14)), none⟩,
   ⟨(some 16), (.call (.mk (.value (.func 79)) #[(.tmp 15)] #[3])), none⟩,
   ⟨(some 17), (.binOp .add 9 (.tmp 13) (.tmp 16) 9), none⟩,
   ⟨(some 18), (.binOp .add 9 (.tmp 17) (.const (.string (ByteArray.mk #[102, 41, 58, 32]))) 9), none⟩,
   ⟨(some 19), (.build 121 #[(0, (.const (.string (ByteArray.mk #[116, 104, 97, 110, 107, 115])))), (1, (.const (.string (ByteArray.mk #[100, 105, 112, 108, 111, 109, 97])))), (2, (.const (.string (ByteArray.mk #[98, 114, 111, 110, 122, 101])))), (3, (.const (.string (ByteArray.mk #[115, 105, 108, 118, 101, 114])))), (4, (.const (.string (ByteArray.mk #[103, 111, 108, 100]))))]), none⟩,
   ⟨(some 20), (.fieldAddr 72 (.tmp 1) 3), none⟩,
   ⟨(some 21), (.load 30 (.tmp 20)), none⟩,
   ⟨(some 22), (.call (.mk (.value (.func 112)) #[(.tmp 21)] #[30])), none⟩,
   ⟨(some 23), (.index 121 (.tmp 19) (.tmp 22)), none⟩,
   ⟨(some 24), (.binOp .add 9 (.tmp 18) (.tmp 23) 9), none⟩,
   ⟨(some 2), (.assign (.tmp 24)), none⟩,
   ⟨(some 3), (.assign (.const (.bool true))), none⟩])
 .ret)))
theorem x_impl_ShowText : Txt Tryd.prog 58 c_impl_ShowText [.tmp 2, .tmp 3] 1 := ⟨by kernel_rfl, by kernel_rfl, _, _, Tryd.func58, rfl, by kernel_rfl, by kernel_rfl, by kernel_rfl, rfl, by decide⟩
/-- loop.example/g01062/spec.ShowText -/
def c_spec_ShowText : Cd :=
 (.seq (.reg [⟨(some 1), (.box 72 (.tmp 0)), none⟩,
   ⟨(some 2), (.assign (.const (.string (ByteArray.mk #[])))), none⟩,
   ⟨(some 3), (.assign (.const (.bool false))), none⟩])
 (.seq (.seq (.reg [⟨(some 4), (.load 72 (.tmp 1)), none⟩,
   ⟨(some 5), (.call (.mk (.value (.func 118)) #[(.tmp 4)] #[72])), none⟩,
   ⟨(some 6), (.unOp .not 4 (.tmp 5)), none⟩])
 (.cond (.tmp 6) (.seq (.reg [⟨(some 2), (.assign (.const (.string (ByteArray.mk #[])))), none⟩,
   ⟨(some 3), (.assign (.const (.bool false))), none⟩])
 .ret) .skip))
 (.seq (.regt [⟨(some 7), (.fieldAddr 72 (.tmp 1) 0), none⟩,
   ⟨(some 8), (.load 3 (.tmp 7)), none⟩,
   ⟨(some 11), (.fieldAddr 72 (.tmp 1) 1), none⟩,
   ⟨(some 12), (.load 9 (.tmp 11)), none⟩,
   ⟨(some 15), (.fieldAddr 72 (.tmp 1) 2), none⟩,
   ⟨(some 16), (.load 3 (.tmp 15)), none⟩,
   ⟨(some 21), (.fieldAddr 72 (.tmp 1) 3), none⟩,
   ⟨(some 22), (.load 30 (.tmp 21)), none⟩] (.alt true ⟨(some 9), (.call (.mk (.value (.func 80)) #[(.tmp 8)] #[3])), none⟩
   (.now ⟨(some 10), (.binOp .add 9 (.tmp 9) (.const (.string (ByteArray.mk #[32]))) 9), none⟩
   (.now ⟨(some 13), (.binOp .add 9 (.tmp 10) (.tmp 12) 9), none⟩
   (.now ⟨(some 14), (.binOp .add 9 (.tmp 13) (.const (.string (ByteArray.mk #[32, 40]))) 9), none⟩
   (.alt true ⟨(some 17), (.call (.mk (.value (.func 80)) #[(.tmp 16)] #[3])), none⟩
   (.now ⟨(some 18), (.binOp .add 9 (.tmp 14) (.tmp 17) 9), none⟩
   (.now ⟨(some 19), (.binOp .add 9 (.tmp 18) (.const (.string (ByteArray.mk #[102, 41, 58, 32]))) 9), none⟩
   (.alt true ⟨(some 20), (.buildSlice 122 5 #[(0, (.const (.string (ByteArray.mk #[116, 104, 97, 110, 107, 115])))), (1, (.const (.string (ByteArray.mk #[100, 105, 112, 108, 111, 109, 97])))), (2, (.const (.string (ByteArray.mk #[98, 114, 111, 110, 122, 101])))), (3, (.const (.string (ByteArray.mk #[115, 105, 108, 118, 101, 114])))), (4, (.const (.string (ByteArray.mk #[103, 111, 108, 100]))))]), none⟩
   (.one true ⟨(some 23), (.call (.mk (.value (.func 113)) #[(.tmp 22)] #[30])), none⟩
   (.one true ⟨(some 24), (.indexAddr 122 (.tmp 20) (.tmp 23)), none⟩
   (.one true ⟨(some 25), (.load 9 (.tmp 24)), none⟩
   (.one false ⟨(some 26), (.binOp .add 9 (.tmp 19) (.tmp 25) 9), none⟩
   (.one false ⟨(some 2), (.assign (.tmp 26)), none⟩
   (.one false ⟨(some 3), (.assign (.const (.bool true))), none⟩
   .done))))))
   (.one true ⟨(some 23), (.call (.mk (.value (.func 113)) #[(.tmp 22)] #[30])), none⟩
   (.one true ⟨(some 20), (.buildSlice 122 5 #[(0, (.const (.string (ByteArray.mk #[116, 104, 97, 110, 107, 115])))), (1, (.const (.string (ByteArray.mk #[100, 105, 112, 108, 111, 109, 97])))), (2, (.const (.string (ByteArray.mk #[98, 114, 111, 110, 122, 101])))), (3, (.const (.string (ByteArray.mk #[115, 105, 108, 118, 101, 114])))), (4, (.const (.string (ByteArray.mk #[103, 111, 108, 100]))))]), none⟩
   (.one true ⟨(some 24), (.indexAddr 122 (.tmp 20) (.tmp 23)), none⟩
   (.one true ⟨(some 25), (.load 9 (.tmp 24)), none⟩
   (.one false ⟨(some 26), (.binOp .add 9 (.tmp 19) (.tmp 25) 9), none⟩
   (.one false ⟨(some 2), (.assign (.tmp 26)), none⟩
   (.one false ⟨(some 3), (.assign (.const (.bool true))), none⟩
   .done))))))))))
   (.one true ⟨(some 20), (.buildSlice 122 5 #[(0, (.const (.string (ByteArray.mk #[116, 104, 97, 110, 107, 115])))), (1, (.const (.string (ByteArray.mk #[100, 105, 112, 108, 111, 109, 97])))), (2, (.const (.string (ByteArray.mk #[98, 114, 111, 110, 122, 101])))), (3, (.const (.string (ByteArray.mk #[115, 105, 108, 118, 101, 114])))), (4, (.const (.string (ByteArray.mk #[103, 111, 108, 100]))))]), none⟩
   (.one true ⟨(some 17), (.call (.mk (.value (.func 80)) #[(.tmp 16)] #[3])), none⟩
   (.now ⟨(some 18), (.binOp .add 9 (.tmp 14) (.tmp 17) 9), none⟩
   (.now ⟨(some 19), (.binOp .add 9 (.tmp 18) (.const (.string (ByteArray.mk #[102, 41, 58, 32]))) 9), none⟩
   (.one true ⟨(some 23), (.call (.mk (.value (.func 113)) #[(.tmp 22)] #[30])), none⟩
   (.one true ⟨(some 24), (.indexAddr 122 (.tmp 20) (.tmp 23)), none⟩
   (.one true ⟨(some 25), (.load 9 (.tmp 24)), none⟩
   (.one false ⟨(some 26), (.binOp .add 9 (.tmp 19) (.tmp 25) 9), none⟩
   (.one false ⟨(some 2), (.assign (.tmp 26)), none⟩
   (.one false ⟨(some 3), (.assign (.const (.bool true))), none⟩
   .done))))))))))))))
   (.one true ⟨(some 20), (.buildSlice 122 5 #[(0, (.const (.string (ByteArray.mk #[116, 104, 97, 110, 107, 115])))), (1, (.const (.string (ByteArray.mk #[100, 105, 112, 108, 111, 109, 97])))), (2, (.const (.string (ByteArray.mk #[98, 114, 111, 110, 122, 101])))), (3, (.const (.string (ByteArray.mk #[115, 105, 108, 118, 101, 114])))), (4, (.const (.string (ByteArray.mk #[103, 111, 108, 100]))))]), none⟩
   (.one true ⟨(some 9), (.call (.mk (.value (.func 80)) #[(.tmp 8)] #[3])), none⟩
   (.now ⟨(some 10), (.binOp .add 9 (.tmp 9) (.const (.string (ByteArray.mk #[32]))) 9), none⟩
   (.now ⟨(some 13), (.binOp .add 9 (.tmp 10) (.tmp 12) 9), none⟩
   (.now ⟨(some 14), (.binOp .add 9 (.tmp 13) (.const (.string (ByteArray.mk #[32, 40]))) 9), none⟩
   (.one true ⟨(some 17), (.call (.mk (.value (.func 80)) #[(.tmp 16)] #[3])), none⟩
   (.now ⟨(some 18), (.binOp .add 9 (.tmp 14) (.tmp 17) 9), none⟩
   (.now ⟨(some 19), (.binOp .add 9 (.tmp 18) (.const (.string (ByteArray.mk #[102, 41, 58, 32]))) 9), none⟩
   (.one true ⟨(some 23), (.call (.mk (.value (.func 113)) #[(.tmp 22)] #[30])), none⟩
   (.one true ⟨(some 24), (.indexAddr 122 (.tmp 20) (.tmp 23)), none⟩
   (.one true ⟨(some 25), (.load 9 (.tmp 24)), none⟩
   (.one false ⟨(some 26), (.binOp .add 9 (.tmp 19) (.tmp 25) 9), none⟩
   (.one false ⟨(some 2), (.assign (.tmp 26)), none⟩
   (.one false ⟨(some 3), (.assign (.const (.bool true))), none⟩
   .done))))))))))))))) [])
 .ret)))
theorem x_spec_ShowText : Txt Tryd.prog 59 c_spec_ShowText [.tmp 2, .tmp 3] 1 := ⟨by kernel_rfl, by kernel_rfl, _, _, Tryd.func59, rfl, by kernel_rfl, by kernel_rfl, by kernel_rfl, rfl, by decide⟩
/-- loop.example/g01062/impl.AreExhibits -/
def c_impl_AreExhibits : Cd :=
 (.seq (.reg [⟨(some 2), (.assign (.const (.bool false))), none⟩])
 (.seq (.reg [⟨(some 3), (.move (.tmp 0)), none⟩,
   ⟨(some 4), (.call (.mk (.value (.func 105)) #[(.tmp 3)] #[66])), none⟩,
   ⟨(some 2), (.assign (.tmp 4)), none⟩])
 .ret))
theorem x_impl_AreExhibits : Txt Tryd.prog 60 c_impl_AreExhibits [.tmp 2] 1 := ⟨by kernel_rfl, by kernel_rfl, _, _, Tryd.func60, rfl, by kernel_rfl, by kernel_rfl, by kernel_rfl, rfl, by decide⟩
/-- loop.example/g01062/spec.AreExhibits -/
def c_spec_AreExhibits : Cd :=
 (.seq (.reg [⟨(some 2), (.assign (.const (.bool false))), none⟩])
 (.seq (.reg [⟨(some 3), (.move (.tmp 0)), none⟩,
   ⟨(some 4), (.call (.mk (.value (.func 109)) #[(.tmp 3)] #[66])), none⟩,
   ⟨(some 2), (.assign (.tmp 4)), none⟩])
 .ret))
theorem x_spec_AreExhibits : Txt Tryd.prog 61 c_spec_AreExhibits [.tmp 2] 1 := ⟨by kernel_rfl, by kernel_rfl, _, _, Tryd.func61, rfl, by kernel_rfl, by kernel_rfl, by kernel_rfl, rfl, by decide⟩
/-- (*loop.example/g01062/spec.l1Cur).among -/
def c_spec_l1Cur_among : Cd :=
 (.seq (.reg [⟨(some 4), (.assign (.const (.int .i64 0))), none⟩])
 (.seq (.reg [⟨(some 5), (.move (.tmp 1)), none⟩,
   ⟨(some 6), (.move (.tmp 0)), none⟩,
   ⟨(some 7), (.move (.tmp 1)), none⟩,
   ⟨(some 8), (.call (.mk (.builtin .len) #[(.tmp 7)] #[30])), none⟩,
   ⟨(some 9), (.call (.mk (.value (.func 65)) #[(.tmp 6), (.tmp 8)] #[80, 3])), none⟩,
   ⟨(some 10), (.indexAddr 30 (.tmp 5) (.tmp 9)), none⟩,
   ⟨(some 11), (.load 3 (.tmp 10)), none⟩,
   ⟨(some 4), (.assign (.tmp 11)), none⟩])
 .ret))
theorem x_spec_l1Cur_among : Txt Tryd.prog 64 c_spec_l1Cur_among [.tmp 4] 2 := ⟨by kernel_rfl, by kernel_rfl, _, _, Tryd.func64, rfl, by kernel_rfl, by kernel_rfl, by kernel_rfl, rfl, by decide⟩
/-- (*loop.example/g01062/spec.l1Cur).pick -/
def c_spec_l1Cur_pick : Cd :=
 (.seq (.reg [⟨(some 4), (.assign (.const (.int .i64 0))), none⟩])
 (.seq (.seq (.reg [⟨(some 6), (.move (.tmp 1)), none⟩,
   ⟨(some 7), (.binOp .leq 3 (.tmp 6) (.const (.int .i64 1)) 3), none⟩])
 (.cond (.tmp 7) (.seq (.reg [⟨(some 4), (.assign (.const (.int .i64 0))), none⟩])
 .ret) .skip))
 (.seq (.reg [⟨(some 8), (.move (.tmp 0)), none⟩,
   ⟨(some 9), (.call (.mk (.value (.func 124)) #[(.tmp 8)] #[80])), none⟩,
   ⟨(some 5), (.assign (.tmp 9)), none⟩])
 (.seq (.seq (.reg [⟨(some 10), (.move (.tmp 1)), none⟩,
   ⟨(some 11), (.binOp .gtr 3 (.tmp 10) (.const (.int .i64 200)) 3), none⟩])
 (.cond (.tmp 11) (.reg [⟨(some 12), (.move (.tmp 5)), none⟩,
   ⟨(some 13), (.binOp .mul 3 (.tmp 12) (.const (.int .i64 256)) 3), none⟩,
   ⟨(some 14), (.move (.tmp 0)), none⟩,
   ⟨(some 15), (.call (.mk (.value (.func 124)) #[(.tmp 14)] #[80])), none⟩,
   ⟨(some 16), (.binOp .add 3 (.tmp 13) (.tmp 15) 3), none⟩,
   ⟨(some 5), (.assign (.tmp 16)), none⟩]) .skip))
 (.seq (.reg [⟨(some 17), (.move (.tmp 5)), none⟩,
   ⟨(some 18), (.move (.tmp 1)), none⟩,
   ⟨(some 19), (.binOp .rem 3 (.tmp 17) (.tmp 18) 3), none⟩,
   ⟨(some 4), (.assign (.tmp 19)), none⟩])
 .ret)))))
theorem x_spec_l1Cur_pick : Txt Tryd.prog 65 c_spec_l1Cur_pick [.tmp 4] 2 := ⟨by kernel_rfl, by kernel_rfl, _, _, Tryd.func65, rfl, by kernel_rfl, by kernel_rfl, by kernel_rfl, rfl, by decide⟩
/-- (*loop.example/g01062/spec.l1Cur).one -/
def c_spec_l1Cur_one : Cd :=
 (.seq (.reg [⟨(some 4), (.assign (.const (.bool false))), none⟩])
 (.seq (.reg [⟨(some 5), (.move (.tmp 0)), none⟩,
   ⟨(some 6), (.move (.tmp 1)), none⟩,
   ⟨(some 7), (.call (.mk (.value (.func 65)) #[(.tmp 5), (.tmp 6)] #[80, 3])), none⟩,
   ⟨(some 8), (.binOp .eql 3 (.tmp 7) (.const (.int .i64 0)) 3), none⟩,
   ⟨(some 4), (.assign (.tmp 8)), none⟩])
 .ret))
theorem x_spec_l1Cur_one : Txt Tryd.prog 73 c_spec_l1Cur_one [.tmp 4] 2 := ⟨by kernel_rfl, by kernel_rfl, _, _, Tryd.func73, rfl, by kernel_rfl, by kernel_rfl, by kernel_rfl, rfl, by decide⟩
/-- loop.example/g01062/spec.l1Num -/
def c_spec_l1Num : Cd :=
 (.seq (.reg [⟨(some 2), (.assign (.const (.string (ByteArray.mk #[])))), none⟩])
 (.seq (.seq (.reg [⟨(some 3), (.move (.tmp 0)), none⟩,
   ⟨(some 4), (.binOp .lss 3 (.tmp 3) (.const (.int .i64 0)) 3), none⟩])
 (.cond (.tmp 4) (.seq (.reg [⟨(some 5), (.move (.tmp 0)), none⟩,
   ⟨(some 6), (.unOp .neg 3 (.tmp 5)), none⟩,
   ⟨(some 7), (.call (.mk (.value (.func 80)) #[(.tmp 6)] #[3])), none⟩,
   ⟨(some 8), (.binOp .add 9 (.const (.string (ByteArray.mk #[45]))) (.tmp 7) 9), none⟩,
   ⟨(some 2), (.assign (.tmp 8)), none⟩])
 .ret) .skip))
 (.seq (.seq (.reg [⟨(some 9), (.move (.tmp 0)), none⟩,
   ⟨(some 10), (.binOp .lss 3 (.tmp 9) (.const (.int .i64 10)) 3), none⟩])
 (.cond (.tmp 10) (.seq (.reg [⟨(some 11), (.move (.tmp 0)), none⟩,
   ⟨(some 12), (.move (.tmp 0)), none⟩,
   ⟨(some 13), (.binOp .add 3 (.tmp 12) (.const (.int .i64 1)) 3), none⟩,
   ⟨(some 14), (.slice 9 (.const (.string (ByteArray.mk #[48, 49, 50, 51, 52, 53, 54, 55, 56, 57]))) (some (.tmp 11)) (some (.tmp 13)) none), none⟩,
   ⟨(some 2), (.assign (.tmp 14)), none⟩])
 .ret) .skip))
 (.seq (.regq [⟨(some 15), (.move (.tmp 0)), none⟩,
   ⟨(some 16), (.binOp .quo 3 (.tmp 15) (.const (.int .i64 10)) 3), none⟩,
   ⟨(some 17), (.call (.mk (.value (.func 80)) #[(.tmp 16)] #[3])), none⟩,
   ⟨(some 18), (.move (.tmp 0)), none⟩,
   ⟨(some 19), (.binOp .rem 3 (.tmp 18) (.const (.int .i64 10)) 3), none⟩,
   ⟨(some 20), (.move (.tmp 0)), none⟩,
   ⟨(some 21), (.binOp .rem 3 (.tmp 20) (.const (.int .i64 10)) 3), none⟩,
   ⟨(some 22), (.binOp .add 3 (.tmp 21) (.const (.int .i64 1)) 3), none⟩,
   ⟨(some 23), (.slice 9 (.const (.string (ByteArray.mk #[48, 49, 50, 51, 52, 53, 54, 55, 56, 57]))) (some (.tmp 19)) (some (.tmp 22)) none), none⟩,
   ⟨(some 24), (.binOp .add 9 (.tmp 17) (.tmp 23) 9), none⟩,
   ⟨(some 2), (.assign (.tmp 24)), none⟩])
 .ret))))
theorem x_spec_l1Num : Txt Tryd.prog 80 c_spec_l1Num [.tmp 2] 1 := ⟨by kernel_rfl, by kernel_rfl, _, _, Tryd.func80, rfl, by kernel_rfl, by kernel_rfl, by kernel_rfl, rfl, by decide⟩
end Go.Proofs.YtnjlleopgjggpaaDoor
