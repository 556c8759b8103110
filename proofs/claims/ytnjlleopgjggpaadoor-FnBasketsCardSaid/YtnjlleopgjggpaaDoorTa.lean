/- The texts of the functions, edges struck, and closed facts on functions and types: written by program (gen.py). -/
import Derived.Test.YtnjlleopgjggpaaDoorD
import Derived.Test.YtnjlleopgjggpaaDoorProg
namespace Go.Proofs.YtnjlleopgjggpaaDoor
open Go Go.RowKit Go.Proofs
/-- loop.example/g01062/laws.FnBaskets -/
def c_laws_FnBaskets : Cd :=
 (.seq (.reg [⟨(some 2), (.assign (.const (.bool false))), none⟩])
 (.seq (.seq (.reg [⟨(some 52), (.move (.tmp 0)), none⟩,
   ⟨(some 53), (.call (.mk (.value (.func 6)) #[(.tmp 52)] #[22])), none⟩])
 (.cond (.tmp 53) (.seq (.reg [⟨(some 2), (.assign (.const (.bool true))), none⟩])
 .ret) .skip))
 (.seq (.reg [⟨(some 55), (.move (.tmp 0)), none⟩,
   ⟨(some 56), (.call (.mk (.value (.func 25)) #[(.tmp 55)] #[22])), none⟩,
   ⟨(some 54), (.move (.tmp 56)), none⟩,
   ⟨(some 57), (.extract (.tmp 54) 0), none⟩,
   ⟨(some 58), (.extract (.tmp 54) 1), none⟩,
   ⟨(some 3), (.assign (.tmp 57)), none⟩,
   ⟨(some 4), (.assign (.tmp 58)), none⟩])
 (.seq (.reg [⟨(some 60), (.move (.tmp 3)), none⟩,
   ⟨(some 61), (.move (.tmp 4)), none⟩,
   ⟨(some 62), (.call (.mk (.value (.func 26)) #[(.tmp 60), (.tmp 61)] #[48, 3])), none⟩,
   ⟨(some 59), (.move (.tmp 62)), none⟩,
   ⟨(some 63), (.extract (.tmp 59) 0), none⟩,
   ⟨(some 64), (.extract (.tmp 59) 1), none⟩,
   ⟨(some 5), (.assign (.tmp 63)), none⟩,
   ⟨(some 6), (.assign (.tmp 64)), none⟩])
 (.seq (.seq (.reg [⟨(some 66), (.move (.tmp 3)), none⟩,
   ⟨(some 67), (.move (.tmp 4)), none⟩,
   ⟨(some 68), (.call (.mk (.value (.func 27)) #[(.tmp 66), (.tmp 67)] #[48, 3])), none⟩,
   ⟨(some 65), (.move (.tmp 68)), none⟩,
   ⟨(some 69), (.extract (.tmp 65) 0), none⟩,
   ⟨(some 70), (.extract (.tmp 65) 1), none⟩,
   ⟨(some 7), (.assign (.tmp 69)), none⟩,
   ⟨(some 8), (.assign (.tmp 70)), none⟩])
 (.seq (.reg [⟨(some 71), (.move (.tmp 6)), none⟩,
   ⟨(some 72), (.move (.tmp 8)), none⟩,
   ⟨(some 73), (.binOp .neq 4 (.tmp 71) (.tmp 72) 4), none⟩,
   ⟨(some 74), (.move (.tmp 73)), none⟩,
   ⟨(some 75), (.move (.tmp 5)), (some (74, false))⟩,
   ⟨(some 76), (.move (.tmp 7)), (some (74, false))⟩,
   ⟨(some 77), (.call (.mk (.value (.func 12)) #[(.tmp 75), (.tmp 76)] #[30, 30])), (some (74, false))⟩,
   ⟨(some 78), (.unOp .not 4 (.tmp 77)), (some (74, false))⟩,
   ⟨(some 79), (.pick (.tmp 74) (.const (.bool true)) (.tmp 78)), none⟩])
 (.cond (.tmp 79) (.seq (.reg [⟨(some 2), (.assign (.const (.bool false))), none⟩])
 .ret) .skip)))
 (.seq (.reg [⟨(some 81), (.move (.tmp 3)), none⟩,
   ⟨(some 82), (.move (.tmp 4)), none⟩,
   ⟨(some 83), (.call (.mk (.value (.func 28)) #[(.tmp 81), (.tmp 82)] #[48, 3])), none⟩,
   ⟨(some 80), (.move (.tmp 83)), none⟩,
   ⟨(some 84), (.extract (.tmp 80) 0), none⟩,
   ⟨(some 85), (.extract (.tmp 80) 1), none⟩,
   ⟨(some 86), (.extract (.tmp 80) 2), none⟩,
   ⟨(some 9), (.assign (.tmp 84)), none⟩,
   ⟨(some 10), (.assign (.tmp 85)), none⟩,
   ⟨(some 11), (.assign (.tmp 86)), none⟩])
 (.seq (.seq (.reg [⟨(some 88), (.move (.tmp 3)), none⟩,
   ⟨(some 89), (.move (.tmp 4)), none⟩,
   ⟨(some 90), (.call (.mk (.value (.func 29)) #[(.tmp 88), (.tmp 89)] #[48, 3])), none⟩,
   ⟨(some 87), (.move (.tmp 90)), none⟩,
   ⟨(some 91), (.extract (.tmp 87) 0), none⟩,
   ⟨(some 92), (.extract (.tmp 87) 1), none⟩,
   ⟨(some 93), (.extract (.tmp 87) 2), none⟩,
   ⟨(some 12), (.assign (.tmp 91)), none⟩,
   ⟨(some 13), (.assign (.tmp 92)), none⟩,
   ⟨(some 14), (.assign (.tmp 93)), none⟩])
 (.seq (.reg [⟨(some 94), (.move (.tmp 9)), none⟩,
   ⟨(some 95), (.move (.tmp 12)), none⟩,
   ⟨(some 96), (.binOp .neq 3 (.tmp 94) (.tmp 95) 3), none⟩,
   ⟨(some 97), (.move (.tmp 96)), none⟩,
   ⟨(some 98), (.move (.tmp 10)), (some (97, false))⟩,
   ⟨(some 99), (.move (.tmp 13)), (some (97, false))⟩,
   ⟨(some 100), (.binOp .neq 3 (.tmp 98) (.tmp 99) 3), (some (97, false))⟩,
   ⟨(some 101), (.pick (.tmp 97) (.const (.bool true)) (.tmp 100)), none⟩,
   ⟨(some 102), (.move (.tmp 101)), none⟩,
   ⟨(some 103), (.move (.tmp 11)), (some (102, false))⟩,
   ⟨(some 104), (.move (.tmp 14)), (some (102, false))⟩,
   ⟨(some 105), (.binOp .neq 4 (.tmp 103) (.tmp 104) 4), (some (102, false))⟩,
   ⟨(some 106), (.pick (.tmp 102) (.const (.bool true)) (.tmp 105)), none⟩,
   ⟨(some 107), (.move (.tmp 106)), none⟩,
   ⟨(some 108), (.move (.tmp 11)), (some (107, false))⟩,
   ⟨(some 109), (.move (.tmp 6)), (some (107, false))⟩,
   ⟨(some 110), (.move (.tmp 109)), (some (107, false))⟩,
   ⟨(some 111), (.move (.tmp 5)), (some (110, true))⟩,
   ⟨(some 112), (.call (.mk (.builtin .len) #[(.tmp 111)] #[30])), (some (110, true))⟩,
   ⟨(some 113), (.binOp .gtr 3 (.tmp 112) (.const (.int .i64 0)) 3), (some (110, true))⟩,
   ⟨(some 114), (.pick (.tmp 110) (.tmp 113) (.const (.bool false))), (some (107, false))⟩,
   ⟨(some 115), (.binOp .neq 4 (.tmp 108) (.tmp 114) 4), (some (107, false))⟩,
   ⟨(some 116), (.pick (.tmp 107) (.const (.bool true)) (.tmp 115)), none⟩])
 (.cond (.tmp 116) (.seq (.reg [⟨(some 2), (.assign (.const (.bool false))), none⟩])
 .ret) .skip)))
 (.seq (.seq (.reg [⟨(some 117), (.move (.tmp 11)), none⟩])
 (.cond (.tmp 117) (.seq (.reg [⟨(some 15), (.assign (.const (.int .i64 0))), none⟩])
 (.seq (.seq (.reg [⟨(some 16), (.assign (.const (.int .i64 0))), none⟩])
 (.block 0 (.loop (.seq (.seq (.reg [⟨(some 118), (.move (.tmp 16)), none⟩,
   ⟨(some 119), (.move (.tmp 5)), none⟩,
   ⟨(some 120), (.call (.mk (.builtin .len) #[(.tmp 119)] #[30])), none⟩,
   ⟨(some 121), (.binOp .lss 3 (.tmp 118) (.tmp 120) 3), none⟩])
 (.cond (.tmp 121) .skip (.exit 0)))
 (.seq (.block 1 (.seq (.reg [⟨(some 125), (.move (.tmp 3)), none⟩,
   ⟨(some 126), (.move (.tmp 5)), none⟩,
   ⟨(some 127), (.move (.tmp 16)), none⟩,
   ⟨(some 128), (.indexAddr 30 (.tmp 126) (.tmp 127)), none⟩,
   ⟨(some 129), (.load 3 (.tmp 128)), none⟩,
   ⟨(some 130), (.move (.tmp 4)), none⟩,
   ⟨(some 131), (.call (.mk (.value (.func 30)) #[(.tmp 125), (.tmp 129), (.tmp 130)] #[48, 3, 3])), none⟩,
   ⟨(some 124), (.move (.tmp 131)), none⟩,
   ⟨(some 132), (.extract (.tmp 124) 0), none⟩,
   ⟨(some 133), (.extract (.tmp 124) 1), none⟩,
   ⟨(some 17), (.assign (.tmp 132)), none⟩,
   ⟨(some 18), (.assign (.tmp 133)), none⟩])
 (.seq (.seq (.reg [⟨(some 134), (.move (.tmp 18)), none⟩,
   ⟨(some 135), (.unOp .not 4 (.tmp 134)), none⟩,
   ⟨(some 136), (.move (.tmp 135)), none⟩,
   ⟨(some 137), (.move (.tmp 17)), (some (136, false))⟩,
   ⟨(some 138), (.move (.tmp 10)), (some (136, false))⟩,
   ⟨(some 139), (.binOp .gtr 3 (.tmp 137) (.tmp 138) 3), (some (136, false))⟩,
   ⟨(some 140), (.pick (.tmp 136) (.const (.bool true)) (.tmp 139)), none⟩,
   ⟨(some 141), (.move (.tmp 140)), none⟩,
   ⟨(some 142), (.move (.tmp 5)), (some (141, false))⟩,
   ⟨(some 143), (.move (.tmp 16)), (some (141, false))⟩,
   ⟨(some 144), (.indexAddr 30 (.tmp 142) (.tmp 143)), (some (141, false))⟩,
   ⟨(some 145), (.load 3 (.tmp 144)), (some (141, false))⟩,
   ⟨(some 146), (.move (.tmp 9)), (some (141, false))⟩,
   ⟨(some 147), (.binOp .eql 3 (.tmp 145) (.tmp 146) 3), (some (141, false))⟩,
   ⟨(some 148), (.move (.tmp 147)), (some (141, false))⟩,
   ⟨(some 149), (.move (.tmp 17)), (some (148, true))⟩,
   ⟨(some 150), (.move (.tmp 10)), (some (148, true))⟩,
   ⟨(some 151), (.binOp .neq 3 (.tmp 149) (.tmp 150) 3), (some (148, true))⟩,
   ⟨(some 152), (.pick (.tmp 148) (.tmp 151) (.const (.bool false))), (some (141, false))⟩,
   ⟨(some 153), (.pick (.tmp 141) (.const (.bool true)) (.tmp 152)), none⟩])
 (.cond (.tmp 153) (.seq (.reg [⟨(some 2), (.assign (.const (.bool false))), none⟩])
 .ret) .skip))
 (.reg [⟨(some 154), (.move (.tmp 15)), none⟩,
   ⟨(some 155), (.move (.tmp 17)), none⟩,
   ⟨(some 156), (.binOp .add 3 (.tmp 154) (.tmp 155) 3), none⟩,
   ⟨(some 15), (.assign (.tmp 156)), none⟩]))))
 (.reg [⟨(some 122), (.move (.tmp 16)), none⟩,
   ⟨(some 123), (.binOp .add 3 (.tmp 122) (.const (.int .i64 1)) 3), none⟩,
   ⟨(some 16), (.assign (.tmp 123)), none⟩]))))))
 (.seq (.reg [⟨(some 157), (.move (.tmp 5)), none⟩,
   ⟨(some 158), (.call (.mk (.builtin .len) #[(.tmp 157)] #[30])), none⟩,
   ⟨(some 159), (.binOp .leq 3 (.tmp 158) (.const (.int .i64 12)) 3), none⟩])
 (.cond (.tmp 159) (.seq (.reg [⟨(some 161), (.move (.tmp 3)), none⟩,
   ⟨(some 162), (.move (.tmp 5)), none⟩,
   ⟨(some 163), (.move (.tmp 4)), none⟩,
   ⟨(some 164), (.call (.mk (.value (.func 31)) #[(.tmp 161), (.tmp 162), (.tmp 163)] #[48, 30, 3])), none⟩,
   ⟨(some 160), (.move (.tmp 164)), none⟩,
   ⟨(some 165), (.extract (.tmp 160) 0), none⟩,
   ⟨(some 166), (.extract (.tmp 160) 1), none⟩,
   ⟨(some 167), (.extract (.tmp 160) 2), none⟩,
   ⟨(some 19), (.assign (.tmp 165)), none⟩,
   ⟨(some 20), (.assign (.tmp 166)), none⟩,
   ⟨(some 21), (.assign (.tmp 167)), none⟩])
 (.seq (.reg [⟨(some 168), (.move (.tmp 21)), none⟩,
   ⟨(some 169), (.unOp .not 4 (.tmp 168)), none⟩,
   ⟨(some 170), (.move (.tmp 169)), none⟩,
   ⟨(some 171), (.move (.tmp 19)), (some (170, false))⟩,
   ⟨(some 172), (.move (.tmp 15)), (some (170, false))⟩,
   ⟨(some 173), (.binOp .neq 3 (.tmp 171) (.tmp 172) 3), (some (170, false))⟩,
   ⟨(some 174), (.pick (.tmp 170) (.const (.bool true)) (.tmp 173)), none⟩,
   ⟨(some 175), (.move (.tmp 174)), none⟩,
   ⟨(some 176), (.move (.tmp 20)), (some (175, false))⟩,
   ⟨(some 177), (.binOp .neq 3 (.tmp 176) (.const (.int .i64 0)) 3), (some (175, false))⟩,
   ⟨(some 178), (.pick (.tmp 175) (.const (.bool true)) (.tmp 177)), none⟩])
 (.cond (.tmp 178) (.seq (.reg [⟨(some 2), (.assign (.const (.bool false))), none⟩])
 .ret) .skip))) .skip)))) .skip))
 (.seq (.reg [⟨(some 180), (.move (.tmp 0)), none⟩,
   ⟨(some 181), (.call (.mk (.value (.func 32)) #[(.tmp 180)] #[22])), none⟩,
   ⟨(some 179), (.move (.tmp 181)), none⟩,
   ⟨(some 182), (.extract (.tmp 179) 0), none⟩,
   ⟨(some 183), (.extract (.tmp 179) 1), none⟩,
   ⟨(some 184), (.extract (.tmp 179) 2), none⟩,
   ⟨(some 22), (.assign (.tmp 182)), none⟩,
   ⟨(some 23), (.assign (.tmp 183)), none⟩,
   ⟨(some 24), (.assign (.tmp 184)), none⟩])
 (.seq (.reg [⟨(some 186), (.move (.tmp 22)), none⟩,
   ⟨(some 187), (.move (.tmp 23)), none⟩,
   ⟨(some 188), (.move (.tmp 24)), none⟩,
   ⟨(some 189), (.call (.mk (.value (.func 31)) #[(.tmp 186), (.tmp 187), (.tmp 188)] #[48, 30, 3])), none⟩,
   ⟨(some 185), (.move (.tmp 189)), none⟩,
   ⟨(some 190), (.extract (.tmp 185) 0), none⟩,
   ⟨(some 191), (.extract (.tmp 185) 1), none⟩,
   ⟨(some 192), (.extract (.tmp 185) 2), none⟩,
   ⟨(some 25), (.assign (.tmp 190)), none⟩,
   ⟨(some 26), (.assign (.tmp 191)), none⟩,
   ⟨(some 27), (.assign (.tmp 192)), none⟩])
 (.seq (.seq (.reg [⟨(some 194), (.move (.tmp 22)), none⟩,
   ⟨(some 195), (.move (.tmp 23)), none⟩,
   ⟨(some 196), (.move (.tmp 24)), none⟩,
   ⟨(some 197), (.call (.mk (.value (.func 33)) #[(.tmp 194), (.tmp 195), (.tmp 196)] #[48, 30, 3])), none⟩,
   ⟨(some 193), (.move (.tmp 197)), none⟩,
   ⟨(some 198), (.extract (.tmp 193) 0), none⟩,
   ⟨(some 199), (.extract (.tmp 193) 1), none⟩,
   ⟨(some 200), (.extract (.tmp 193) 2), none⟩,
   ⟨(some 28), (.assign (.tmp 198)), none⟩,
   ⟨(some 29), (.assign (.tmp 199)), none⟩,
   ⟨(some 30), (.assign (.tmp 200)), none⟩])
 (.seq (.reg [⟨(some 201), (.move (.tmp 25)), none⟩,
   ⟨(some 202), (.move (.tmp 28)), none⟩,
   ⟨(some 203), (.binOp .neq 3 (.tmp 201) (.tmp 202) 3), none⟩,
   ⟨(some 204), (.move (.tmp 203)), none⟩,
   ⟨(some 205), (.move (.tmp 26)), (some (204, false))⟩,
   ⟨(some 206), (.move (.tmp 29)), (some (204, false))⟩,
   ⟨(some 207), (.binOp .neq 3 (.tmp 205) (.tmp 206) 3), (some (204, false))⟩,
   ⟨(some 208), (.pick (.tmp 204) (.const (.bool true)) (.tmp 207)), none⟩,
   ⟨(some 209), (.move (.tmp 208)), none⟩,
   ⟨(some 210), (.move (.tmp 27)), (some (209, false))⟩,
   ⟨(some 211), (.move (.tmp 30)), (some (209, false))⟩,
   ⟨(some 212), (.binOp .neq 4 (.tmp 210) (.tmp 211) 4), (some (209, false))⟩,
   ⟨(some 213), (.pick (.tmp 209) (.const (.bool true)) (.tmp 212)), none⟩])
 (.cond (.tmp 213) (.seq (.reg [⟨(some 2), (.assign (.const (.bool false))), none⟩])
 .ret) .skip)))
 (.seq (.reg [⟨(some 215), (.move (.tmp 0)), none⟩,
   ⟨(some 216), (.call (.mk (.value (.func 34)) #[(.tmp 215)] #[22])), none⟩,
   ⟨(some 214), (.move (.tmp 216)), none⟩,
   ⟨(some 217), (.extract (.tmp 214) 0), none⟩,
   ⟨(some 218), (.extract (.tmp 214) 1), none⟩,
   ⟨(some 219), (.extract (.tmp 214) 2), none⟩,
   ⟨(some 31), (.assign (.tmp 217)), none⟩,
   ⟨(some 32), (.assign (.tmp 218)), none⟩,
   ⟨(some 33), (.assign (.tmp 219)), none⟩])
 (.seq (.reg [⟨(some 221), (.move (.tmp 31)), none⟩,
   ⟨(some 222), (.move (.tmp 32)), none⟩,
   ⟨(some 223), (.move (.tmp 33)), none⟩,
   ⟨(some 224), (.call (.mk (.value (.func 35)) #[(.tmp 221), (.tmp 222), (.tmp 223)] #[48, 3, 3])), none⟩,
   ⟨(some 220), (.move (.tmp 224)), none⟩,
   ⟨(some 225), (.extract (.tmp 220) 0), none⟩,
   ⟨(some 226), (.extract (.tmp 220) 1), none⟩,
   ⟨(some 34), (.assign (.tmp 225)), none⟩,
   ⟨(some 35), (.assign (.tmp 226)), none⟩])
 (.seq (.seq (.reg [⟨(some 228), (.move (.tmp 31)), none⟩,
   ⟨(some 229), (.move (.tmp 32)), none⟩,
   ⟨(some 230), (.move (.tmp 33)), none⟩,
   ⟨(some 231), (.call (.mk (.value (.func 36)) #[(.tmp 228), (.tmp 229), (.tmp 230)] #[48, 3, 3])), none⟩,
   ⟨(some 227), (.move (.tmp 231)), none⟩,
   ⟨(some 232), (.extract (.tmp 227) 0), none⟩,
   ⟨(some 233), (.extract (.tmp 227) 1), none⟩,
   ⟨(some 36), (.assign (.tmp 232)), none⟩,
   ⟨(some 37), (.assign (.tmp 233)), none⟩])
 (.seq (.reg [⟨(some 234), (.move (.tmp 35)), none⟩,
   ⟨(some 235), (.move (.tmp 37)), none⟩,
   ⟨(some 236), (.binOp .neq 4 (.tmp 234) (.tmp 235) 4), none⟩,
   ⟨(some 237), (.move (.tmp 236)), none⟩,
   ⟨(some 238), (.move (.tmp 34)), (some (237, false))⟩,
   ⟨(some 239), (.move (.tmp 36)), (some (237, false))⟩,
   ⟨(some 240), (.call (.mk (.value (.func 37)) #[(.tmp 238), (.tmp 239)] #[48, 48])), (some (237, false))⟩,
   ⟨(some 241), (.unOp .not 4 (.tmp 240)), (some (237, false))⟩,
   ⟨(some 242), (.pick (.tmp 237) (.const (.bool true)) (.tmp 241)), none⟩])
 (.cond (.tmp 242) (.seq (.reg [⟨(some 2), (.assign (.const (.bool false))), none⟩])
 .ret) .skip)))
 (.seq (.seq (.reg [⟨(some 38), (.assign (.const (.int .i64 0))), none⟩])
 (.block 2 (.loop (.seq (.seq (.reg [⟨(some 243), (.move (.tmp 38)), none⟩,
   ⟨(some 244), (.move (.tmp 31)), none⟩,
   ⟨(some 245), (.call (.mk (.builtin .len) #[(.tmp 244)] #[48])), none⟩,
   ⟨(some 246), (.binOp .lss 3 (.tmp 243) (.tmp 245) 3), none⟩,
   ⟨(some 247), (.move (.tmp 246)), none⟩,
   ⟨(some 248), (.move (.tmp 35)), (some (247, true))⟩,
   ⟨(some 249), (.pick (.tmp 247) (.tmp 248) (.const (.bool false))), none⟩])
 (.cond (.tmp 249) .skip (.exit 2)))
 (.seq (.block 3 (.seq (.regq [⟨(some 252), (.move (.tmp 34)), none⟩,
   ⟨(some 253), (.move (.tmp 38)), none⟩,
   ⟨(some 254), (.indexAddr 48 (.tmp 252) (.tmp 253)), none⟩,
   ⟨(some 255), (.fieldAddr 63 (.tmp 254) 2), none⟩,
   ⟨(some 256), (.load 3 (.tmp 255)), none⟩,
   ⟨(some 257), (.move (.tmp 31)), none⟩,
   ⟨(some 258), (.move (.tmp 38)), none⟩,
   ⟨(some 259), (.indexAddr 48 (.tmp 257) (.tmp 258)), none⟩,
   ⟨(some 260), (.fieldAddr 63 (.tmp 259) 2), none⟩,
   ⟨(some 261), (.load 3 (.tmp 260)), none⟩,
   ⟨(some 262), (.binOp .lss 3 (.tmp 256) (.tmp 261) 3), none⟩,
   ⟨(some 263), (.move (.tmp 262)), none⟩,
   ⟨(some 264), (.move (.tmp 31)), (some (263, false))⟩,
   ⟨(some 265), (.move (.tmp 38)), (some (263, false))⟩,
   ⟨(some 266), (.indexAddr 48 (.tmp 264) (.tmp 265)), (some (263, false))⟩,
   ⟨(some 267), (.fieldAddr 63 (.tmp 266) 1), (some (263, false))⟩,
   ⟨(some 268), (.load 3 (.tmp 267)), (some (263, false))⟩,
   ⟨(some 269), (.move (.tmp 32)), (some (263, false))⟩,
   ⟨(some 270), (.binOp .neq 3 (.tmp 268) (.tmp 269) 3), (some (263, false))⟩,
   ⟨(some 271), (.move (.tmp 270)), (some (263, false))⟩,
   ⟨(some 272), (.move (.tmp 34)), (some (271, true))⟩,
   ⟨(some 273), (.move (.tmp 38)), (some (271, true))⟩,
   ⟨(some 274), (.indexAddr 48 (.tmp 272) (.tmp 273)), (some (271, true))⟩,
   ⟨(some 275), (.load 63 (.tmp 274)), (some (271, true))⟩,
   ⟨(some 276), (.move (.tmp 31)), (some (271, true))⟩,
   ⟨(some 277), (.move (.tmp 38)), (some (271, true))⟩,
   ⟨(some 278), (.indexAddr 48 (.tmp 276) (.tmp 277)), (some (271, true))⟩,
   ⟨(some 279), (.load 63 (.tmp 278)), (some (271, true))⟩,
   ⟨(some 280), (.binOp .neq 63 (.tmp 275) (.tmp 279) 63), (some (271, true))⟩,
   ⟨(some 281), (.pick (.tmp 271) (.tmp 280) (.const (.bool false))), (some (263, false))⟩,
   ⟨(some 282), (.pick (.tmp 263) (.const (.bool true)) (.tmp 281)), none⟩])
 (.cond (.tmp 282) (.seq (.reg [⟨(some 2), (.assign (.const (.bool false))), none⟩])
 .ret) .skip)))
 (.reg [⟨(some 250), (.move (.tmp 38)), none⟩,
   ⟨(some 251), (.binOp .add 3 (.tmp 250) (.const (.int .i64 1)) 3), none⟩,
   ⟨(some 38), (.assign (.tmp 251)), none⟩]))))))
 (.seq (.reg [⟨(some 284), (.move (.tmp 0)), none⟩,
   ⟨(some 285), (.call (.mk (.value (.func 38)) #[(.tmp 284)] #[22])), none⟩,
   ⟨(some 283), (.move (.tmp 285)), none⟩,
   ⟨(some 286), (.extract (.tmp 283) 0), none⟩,
   ⟨(some 287), (.extract (.tmp 283) 1), none⟩,
   ⟨(some 39), (.assign (.tmp 286)), none⟩,
   ⟨(some 40), (.assign (.tmp 287)), none⟩])
 (.seq (.reg [⟨(some 289), (.move (.tmp 39)), none⟩,
   ⟨(some 290), (.move (.tmp 40)), none⟩,
   ⟨(some 291), (.call (.mk (.value (.func 39)) #[(.tmp 289), (.tmp 290)] #[48, 3])), none⟩,
   ⟨(some 288), (.move (.tmp 291)), none⟩,
   ⟨(some 292), (.extract (.tmp 288) 0), none⟩,
   ⟨(some 293), (.extract (.tmp 288) 1), none⟩,
   ⟨(some 294), (.extract (.tmp 288) 2), none⟩,
   ⟨(some 41), (.assign (.tmp 292)), none⟩,
   ⟨(some 42), (.assign (.tmp 293)), none⟩,
   ⟨(some 43), (.assign (.tmp 294)), none⟩])
 (.seq (.reg [⟨(some 296), (.move (.tmp 39)), none⟩,
   ⟨(some 297), (.move (.tmp 40)), none⟩,
   ⟨(some 298), (.call (.mk (.value (.func 40)) #[(.tmp 296), (.tmp 297)] #[48, 3])), none⟩,
   ⟨(some 295), (.move (.tmp 298)), none⟩,
   ⟨(some 299), (.extract (.tmp 295) 0), none⟩,
   ⟨(some 300), (.extract (.tmp 295) 1), none⟩,
   ⟨(some 301), (.extract (.tmp 295) 2), none⟩,
   ⟨(some 44), (.assign (.tmp 299)), none⟩,
   ⟨(some 45), (.assign (.tmp 300)), none⟩,
   ⟨(some 46), (.assign (.tmp 301)), none⟩])
 (.seq (.reg [⟨(some 302), (.move (.tmp 0)), none⟩,
   ⟨(some 303), (.call (.mk (.value (.func 41)) #[(.tmp 302)] #[22])), none⟩,
   ⟨(some 47), (.alloc 63), none⟩,
   ⟨none, (.store 63 (.tmp 47) (.tmp 303)), none⟩])
 (.seq (.reg [⟨(some 305), (.load 63 (.tmp 47)), none⟩,
   ⟨(some 306), (.call (.mk (.value (.func 42)) #[(.tmp 305)] #[63])), none⟩,
   ⟨(some 304), (.move (.tmp 306)), none⟩,
   ⟨(some 307), (.extract (.tmp 304) 0), none⟩,
   ⟨(some 308), (.extract (.tmp 304) 1), none⟩,
   ⟨(some 48), (.assign (.tmp 307)), none⟩,
   ⟨(some 49), (.assign (.tmp 308)), none⟩])
 (.seq (.reg [⟨(some 310), (.load 63 (.tmp 47)), none⟩,
   ⟨(some 311), (.call (.mk (.value (.func 43)) #[(.tmp 310)] #[63])), none⟩,
   ⟨(some 309), (.move (.tmp 311)), none⟩,
   ⟨(some 312), (.extract (.tmp 309) 0), none⟩,
   ⟨(some 313), (.extract (.tmp 309) 1), none⟩,
   ⟨(some 50), (.assign (.tmp 312)), none⟩,
   ⟨(some 51), (.assign (.tmp 313)), none⟩])
 (.seq (.reg [⟨(some 314), (.move (.tmp 41)), none⟩,
   ⟨(some 315), (.move (.tmp 44)), none⟩,
   ⟨(some 316), (.binOp .eql 3 (.tmp 314) (.tmp 315) 3), none⟩,
   ⟨(some 317), (.move (.tmp 316)), none⟩,
   ⟨(some 318), (.move (.tmp 42)), (some (317, true))⟩,
   ⟨(some 319), (.move (.tmp 45)), (some (317, true))⟩,
   ⟨(some 320), (.binOp .eql 3 (.tmp 318) (.tmp 319) 3), (some (317, true))⟩,
   ⟨(some 321), (.pick (.tmp 317) (.tmp 320) (.const (.bool false))), none⟩,
   ⟨(some 322), (.move (.tmp 321)), none⟩,
   ⟨(some 323), (.move (.tmp 43)), (some (322, true))⟩,
   ⟨(some 324), (.move (.tmp 46)), (some (322, true))⟩,
   ⟨(some 325), (.binOp .eql 4 (.tmp 323) (.tmp 324) 4), (some (322, true))⟩,
   ⟨(some 326), (.pick (.tmp 322) (.tmp 325) (.const (.bool false))), none⟩,
   ⟨(some 327), (.move (.tmp 326)), none⟩,
   ⟨(some 328), (.move (.tmp 48)), (some (327, true))⟩,
   ⟨(some 329), (.move (.tmp 50)), (some (327, true))⟩,
   ⟨(some 330), (.binOp .eql 9 (.tmp 328) (.tmp 329) 9), (some (327, true))⟩,
   ⟨(some 331), (.pick (.tmp 327) (.tmp 330) (.const (.bool false))), none⟩,
   ⟨(some 332), (.move (.tmp 331)), none⟩,
   ⟨(some 333), (.move (.tmp 49)), (some (332, true))⟩,
   ⟨(some 334), (.move (.tmp 51)), (some (332, true))⟩,
   ⟨(some 335), (.binOp .eql 4 (.tmp 333) (.tmp 334) 4), (some (332, true))⟩,
   ⟨(some 336), (.pick (.tmp 332) (.tmp 335) (.const (.bool false))), none⟩,
   ⟨(some 2), (.assign (.tmp 336)), none⟩])
 .ret))))))))))))))))))))))
theorem x_laws_FnBaskets : Txt Tryd.prog 4 c_laws_FnBaskets [.tmp 2] 1 := ⟨by kernel_rfl, by kernel_rfl, _, _, Tryd.func4, rfl, by kernel_rfl, by kernel_rfl, by kernel_rfl, rfl, by decide⟩
/-- loop.example/g01062/laws.rBig -/
def c_laws_rBig : Cd :=
 (.seq (.reg [⟨(some 2), (.assign (.const (.bool false))), none⟩])
 (.seq (.reg [⟨(some 3), (.move (.tmp 0)), none⟩,
   ⟨(some 4), (.call (.mk (.builtin .len) #[(.tmp 3)] #[22])), none⟩,
   ⟨(some 5), (.binOp .gtr 3 (.tmp 4) (.const (.int .i64 65536)) 3), none⟩,
   ⟨(some 2), (.assign (.tmp 5)), none⟩])
 .ret))
theorem x_laws_rBig : Txt Tryd.prog 6 c_laws_rBig [.tmp 2] 1 := ⟨by kernel_rfl, by kernel_rfl, _, _, Tryd.func6, rfl, by kernel_rfl, by kernel_rfl, by kernel_rfl, rfl, by decide⟩
/-- loop.example/g01062/laws.rInts -/
def c_laws_rInts : Cd :=
 (.seq (.reg [⟨(some 4), (.assign (.const (.bool false))), none⟩])
 (.seq (.seq (.reg [⟨(some 6), (.move (.tmp 0)), none⟩,
   ⟨(some 7), (.call (.mk (.builtin .len) #[(.tmp 6)] #[30])), none⟩,
   ⟨(some 8), (.move (.tmp 1)), none⟩,
   ⟨(some 9), (.call (.mk (.builtin .len) #[(.tmp 8)] #[30])), none⟩,
   ⟨(some 10), (.binOp .neq 3 (.tmp 7) (.tmp 9) 3), none⟩])
 (.cond (.tmp 10) (.seq (.reg [⟨(some 4), (.assign (.const (.bool false))), none⟩])
 .ret) .skip))
 (.seq (.seq (.reg [⟨(some 5), (.assign (.const (.int .i64 0))), none⟩])
 (.block 0 (.loop (.seq (.seq (.reg [⟨(some 11), (.move (.tmp 5)), none⟩,
   ⟨(some 12), (.move (.tmp 0)), none⟩,
   ⟨(some 13), (.call (.mk (.builtin .len) #[(.tmp 12)] #[30])), none⟩,
   ⟨(some 14), (.binOp .lss 3 (.tmp 11) (.tmp 13) 3), none⟩])
 (.cond (.tmp 14) .skip (.exit 0)))
 (.seq (.block 1 (.seq (.regq [⟨(some 17), (.move (.tmp 0)), none⟩,
   ⟨(some 18), (.move (.tmp 5)), none⟩,
   ⟨(some 19), (.indexAddr 30 (.tmp 17) (.tmp 18)), none⟩,
   ⟨(some 20), (.load 3 (.tmp 19)), none⟩,
   ⟨(some 21), (.move (.tmp 1)), none⟩,
   ⟨(some 22), (.move (.tmp 5)), none⟩,
   ⟨(some 23), (.indexAddr 30 (.tmp 21) (.tmp 22)), none⟩,
   ⟨(some 24), (.load 3 (.tmp 23)), none⟩,
   ⟨(some 25), (.binOp .neq 3 (.tmp 20) (.tmp 24) 3), none⟩])
 (.cond (.tmp 25) (.seq (.reg [⟨(some 4), (.assign (.const (.bool false))), none⟩])
 .ret) .skip)))
 (.reg [⟨(some 15), (.move (.tmp 5)), none⟩,
   ⟨(some 16), (.binOp .add 3 (.tmp 15) (.const (.int .i64 1)) 3), none⟩,
   ⟨(some 5), (.assign (.tmp 16)), none⟩]))))))
 (.seq (.reg [⟨(some 4), (.assign (.const (.bool true))), none⟩])
 .ret))))
theorem x_laws_rInts : Txt Tryd.prog 12 c_laws_rInts [.tmp 4] 2 := ⟨by kernel_rfl, by kernel_rfl, _, _, Tryd.func12, rfl, by kernel_rfl, by kernel_rfl, by kernel_rfl, rfl, by decide⟩
/-- loop.example/g01062/spec.DrawItemsPriced -/
def c_spec_DrawItemsPriced : Cd :=
 (.seq (.reg [⟨(some 2), (.assign (.const (.slice none 0 0))), none⟩,
   ⟨(some 3), (.assign (.const (.int .i64 0))), none⟩])
 (.seq (.reg [⟨(some 6), (.move (.tmp 0)), none⟩,
   ⟨(some 7), (.build 83 #[(0, (.tmp 6))]), none⟩,
   ⟨(some 8), (.box 83 (.tmp 7)), none⟩,
   ⟨(some 4), (.assign (.tmp 8)), none⟩])
 (.seq (.reg [⟨(some 9), (.move (.tmp 4)), none⟩,
   ⟨(some 10), (.call (.mk (.value (.func 82)) #[(.tmp 9)] #[80])), none⟩,
   ⟨(some 5), (.assign (.tmp 10)), none⟩])
 (.seq (.reg [⟨(some 11), (.move (.tmp 5)), none⟩,
   ⟨(some 12), (.move (.tmp 4)), none⟩,
   ⟨(some 13), (.move (.tmp 5)), none⟩,
   ⟨(some 14), (.call (.mk (.value (.func 83)) #[(.tmp 12), (.tmp 13)] #[80, 48])), none⟩,
   ⟨(some 2), (.assign (.tmp 11)), none⟩,
   ⟨(some 3), (.assign (.tmp 14)), none⟩])
 .ret))))
theorem x_spec_DrawItemsPriced : Txt Tryd.prog 25 c_spec_DrawItemsPriced [.tmp 2, .tmp 3] 1 := ⟨by kernel_rfl, by kernel_rfl, _, _, Tryd.func25, rfl, by kernel_rfl, by kernel_rfl, by kernel_rfl, rfl, by decide⟩
/-- loop.example/g01062/impl.ItemsPriced -/
def c_impl_ItemsPriced : Cd :=
 (.seq (.reg [⟨(some 4), (.assign (.const (.slice none 0 0))), none⟩,
   ⟨(some 5), (.assign (.const (.bool false))), none⟩])
 (.seq (.seq (.reg [⟨(some 6), (.move (.tmp 0)), none⟩,
   ⟨(some 7), (.call (.mk (.value (.func 84)) #[(.tmp 6)] #[48])), none⟩,
   ⟨(some 8), (.unOp .not 4 (.tmp 7)), none⟩,
   ⟨(some 9), (.move (.tmp 8)), none⟩,
   ⟨(some 10), (.move (.tmp 1)), (some (9, false))⟩,
   ⟨(some 11), (.call (.mk (.value (.func 85)) #[(.tmp 10)] #[3])), (some (9, false))⟩,
   ⟨(some 12), (.unOp .not 4 (.tmp 11)), (some (9, false))⟩,
   ⟨(some 13), (.pick (.tmp 9) (.const (.bool true)) (.tmp 12)), none⟩])
 (.cond (.tmp 13) (.seq (.reg [⟨(some 4), (.assign (.const (.slice none 0 0))), none⟩,
   ⟨(some 5), (.assign (.const (.bool false))), none⟩])
 .ret) .skip))
 (.seq (.reg [⟨(some 14), (.move (.tmp 0)), none⟩,
   ⟨(some 15), (.move (.tmp 1)), none⟩,
   ⟨(some 16), (.call (.mk (.value (.func 86)) #[(.tmp 14), (.tmp 15)] #[48, 3])), none⟩,
   ⟨(some 4), (.assign (.tmp 16)), none⟩,
   ⟨(some 5), (.assign (.const (.bool true))), none⟩])
 .ret)))
theorem x_impl_ItemsPriced : Txt Tryd.prog 26 c_impl_ItemsPriced [.tmp 4, .tmp 5] 2 := ⟨by kernel_rfl, by kernel_rfl, _, _, Tryd.func26, rfl, by kernel_rfl, by kernel_rfl, by kernel_rfl, rfl, by decide⟩
/-- loop.example/g01062/spec.ItemsPriced -/
def c_spec_ItemsPriced : Cd :=
 (.seq (.reg [⟨(some 4), (.assign (.const (.slice none 0 0))), none⟩,
   ⟨(some 5), (.assign (.const (.bool false))), none⟩])
 (.seq (.reg [⟨(some 8), (.buildSlice 30 0 #[]), none⟩,
   ⟨(some 6), (.assign (.tmp 8)), none⟩])
 (.seq (.seq (.reg [⟨(some 9), (.move (.tmp 0)), none⟩,
   ⟨(some 10), (.call (.mk (.value (.func 87)) #[(.tmp 9)] #[48])), none⟩,
   ⟨(some 11), (.unOp .not 4 (.tmp 10)), none⟩,
   ⟨(some 12), (.move (.tmp 11)), none⟩,
   ⟨(some 13), (.move (.tmp 1)), (some (12, false))⟩,
   ⟨(some 14), (.call (.mk (.value (.func 88)) #[(.tmp 13)] #[3])), (some (12, false))⟩,
   ⟨(some 15), (.unOp .not 4 (.tmp 14)), (some (12, false))⟩,
   ⟨(some 16), (.pick (.tmp 12) (.const (.bool true)) (.tmp 15)), none⟩])
 (.cond (.tmp 16) (.seq (.reg [⟨(some 17), (.move (.tmp 6)), none⟩,
   ⟨(some 4), (.assign (.tmp 17)), none⟩,
   ⟨(some 5), (.assign (.const (.bool false))), none⟩])
 .ret) .skip))
 (.seq (.seq (.reg [⟨(some 7), (.assign (.const (.int .i64 0))), none⟩])
 (.block 0 (.loop (.seq (.seq (.reg [⟨(some 18), (.move (.tmp 7)), none⟩,
   ⟨(some 19), (.move (.tmp 0)), none⟩,
   ⟨(some 20), (.call (.mk (.builtin .len) #[(.tmp 19)] #[48])), none⟩,
   ⟨(some 21), (.binOp .lss 3 (.tmp 18) (.tmp 20) 3), none⟩])
 (.cond (.tmp 21) .skip (.exit 0)))
 (.seq (.block 1 (.seq (.reg [⟨(some 24), (.move (.tmp 0)), none⟩,
   ⟨(some 25), (.move (.tmp 0)), none⟩,
   ⟨(some 26), (.move (.tmp 7)), none⟩,
   ⟨(some 27), (.indexAddr 48 (.tmp 25) (.tmp 26)), none⟩,
   ⟨(some 28), (.fieldAddr 63 (.tmp 27) 0), none⟩,
   ⟨(some 29), (.load 3 (.tmp 28)), none⟩,
   ⟨(some 30), (.move (.tmp 1)), none⟩,
   ⟨(some 31), (.call (.mk (.value (.func 89)) #[(.tmp 24), (.tmp 29), (.tmp 30)] #[48, 3, 3])), none⟩,
   ⟨(some 32), (.binOp .gtr 3 (.tmp 31) (.const (.int .i64 0)) 3), none⟩])
 (.cond (.tmp 32) (.reg [⟨(some 33), (.move (.tmp 6)), none⟩,
   ⟨(some 34), (.move (.tmp 0)), none⟩,
   ⟨(some 35), (.move (.tmp 7)), none⟩,
   ⟨(some 36), (.indexAddr 48 (.tmp 34) (.tmp 35)), none⟩,
   ⟨(some 37), (.fieldAddr 63 (.tmp 36) 0), none⟩,
   ⟨(some 38), (.load 3 (.tmp 37)), none⟩,
   ⟨(some 39), (.call (.mk (.value (.func 90)) #[(.tmp 33), (.tmp 38)] #[30, 3])), none⟩,
   ⟨(some 6), (.assign (.tmp 39)), none⟩]) .skip)))
 (.reg [⟨(some 22), (.move (.tmp 7)), none⟩,
   ⟨(some 23), (.binOp .add 3 (.tmp 22) (.const (.int .i64 1)) 3), none⟩,
   ⟨(some 7), (.assign (.tmp 23)), none⟩]))))))
 (.seq (.reg [⟨(some 40), (.move (.tmp 6)), none⟩,
   ⟨(some 4), (.assign (.tmp 40)), none⟩,
   ⟨(some 5), (.assign (.const (.bool true))), none⟩])
 .ret)))))
theorem x_spec_ItemsPriced : Txt Tryd.prog 27 c_spec_ItemsPriced [.tmp 4, .tmp 5] 2 := ⟨by kernel_rfl, by kernel_rfl, _, _, Tryd.func27, rfl, by kernel_rfl, by kernel_rfl, by kernel_rfl, rfl, by decide⟩
/-- loop.example/g01062/impl.DearestIn -/
def c_impl_DearestIn : Cd :=
 (.seq (.reg [⟨(some 4), (.assign (.const (.int .i64 0))), none⟩,
   ⟨(some 5), (.assign (.const (.int .i64 0))), none⟩,
   ⟨(some 6), (.assign (.const (.bool false))), none⟩])
 (.seq (.seq (.reg [⟨(some 13), (.move (.tmp 0)), none⟩,
   ⟨(some 14), (.call (.mk (.value (.func 84)) #[(.tmp 13)] #[48])), none⟩,
   ⟨(some 15), (.unOp .not 4 (.tmp 14)), none⟩,
   ⟨(some 16), (.move (.tmp 15)), none⟩,
   ⟨(some 17), (.move (.tmp 1)), (some (16, false))⟩,
   ⟨(some 18), (.call (.mk (.value (.func 85)) #[(.tmp 17)] #[3])), (some (16, false))⟩,
   ⟨(some 19), (.unOp .not 4 (.tmp 18)), (some (16, false))⟩,
   ⟨(some 20), (.pick (.tmp 16) (.const (.bool true)) (.tmp 19)), none⟩])
 (.cond (.tmp 20) (.seq (.reg [⟨(some 4), (.assign (.const (.int .i64 0))), none⟩,
   ⟨(some 5), (.assign (.const (.int .i64 0))), none⟩,
   ⟨(some 6), (.assign (.const (.bool false))), none⟩])
 .ret) .skip))
 (.seq (.reg [⟨(some 7), (.assign (.const (.int .i64 0))), none⟩,
   ⟨(some 8), (.assign (.const (.int .i64 0))), none⟩])
 (.seq (.seq (.reg [⟨(some 21), (.move (.tmp 0)), none⟩,
   ⟨(some 22), (.move (.tmp 1)), none⟩,
   ⟨(some 23), (.call (.mk (.value (.func 86)) #[(.tmp 21), (.tmp 22)] #[48, 3])), none⟩,
   ⟨(some 24), (.call (.mk (.builtin .len) #[(.tmp 23)] #[30])), none⟩,
   ⟨(some 25), (.move (.const (.int .i64 0))), none⟩])
 (.block 0 (.loop (.seq (.reg [⟨(some 26), (.binOp .lss 3 (.tmp 25) (.tmp 24) 3), none⟩])
 (.seq (.cond (.tmp 26) .skip (.exit 0))
 (.seq (.block 1 (.seq (.reg [⟨(some 27), (.indexAddr 30 (.tmp 23) (.tmp 25)), none⟩,
   ⟨(some 28), (.load 3 (.tmp 27)), none⟩,
   ⟨(some 10), (.assign (.tmp 28)), none⟩])
 (.seq (.reg [⟨(some 30), (.move (.tmp 0)), none⟩,
   ⟨(some 31), (.move (.tmp 10)), none⟩,
   ⟨(some 32), (.move (.tmp 1)), none⟩,
   ⟨(some 33), (.call (.mk (.value (.func 91)) #[(.tmp 30), (.tmp 31), (.tmp 32)] #[48, 3, 3])), none⟩,
   ⟨(some 29), (.move (.tmp 33)), none⟩,
   ⟨(some 34), (.extract (.tmp 29) 0), none⟩,
   ⟨(some 35), (.extract (.tmp 29) 1), none⟩,
   ⟨(some 11), (.assign (.tmp 34)), none⟩,
   ⟨(some 12), (.assign (.tmp 35)), none⟩])
 (.seq (.reg [⟨(some 36), (.move (.tmp 11)), none⟩,
   ⟨(some 37), (.move (.tmp 8)), none⟩,
   ⟨(some 38), (.binOp .gtr 3 (.tmp 36) (.tmp 37) 3), none⟩])
 (.cond (.tmp 38) (.reg [⟨(some 39), (.move (.tmp 10)), none⟩,
   ⟨(some 40), (.move (.tmp 11)), none⟩,
   ⟨(some 7), (.assign (.tmp 39)), none⟩,
   ⟨(some 8), (.assign (.tmp 40)), none⟩]) .skip)))))
 (.reg [⟨(some 41), (.binOp .add 3 (.tmp 25) (.const (.int .i64 1)) 3), none⟩,
   ⟨(some 25), (.move (.tmp 41)), none⟩])))))))
 (.seq (.reg [⟨(some 42), (.move (.tmp 7)), none⟩,
   ⟨(some 43), (.move (.tmp 8)), none⟩,
   ⟨(some 44), (.move (.tmp 7)), none⟩,
   ⟨(some 45), (.binOp .gtr 3 (.tmp 44) (.const (.int .i64 0)) 3), none⟩,
   ⟨(some 4), (.assign (.tmp 42)), none⟩,
   ⟨(some 5), (.assign (.tmp 43)), none⟩,
   ⟨(some 6), (.assign (.tmp 45)), none⟩])
 .ret)))))
theorem x_impl_DearestIn : Txt Tryd.prog 28 c_impl_DearestIn [.tmp 4, .tmp 5, .tmp 6] 2 := ⟨by kernel_rfl, by kernel_rfl, _, _, Tryd.func28, rfl, by kernel_rfl, by kernel_rfl, by kernel_rfl, rfl, by decide⟩
/-- loop.example/g01062/spec.DearestIn -/
def c_spec_DearestIn : Cd :=
 (.seq (.reg [⟨(some 4), (.assign (.const (.int .i64 0))), none⟩,
   ⟨(some 5), (.assign (.const (.int .i64 0))), none⟩,
   ⟨(some 6), (.assign (.const (.bool false))), none⟩])
 (.seq (.seq (.reg [⟨(some 11), (.move (.tmp 0)), none⟩,
   ⟨(some 12), (.call (.mk (.value (.func 87)) #[(.tmp 11)] #[48])), none⟩,
   ⟨(some 13), (.unOp .not 4 (.tmp 12)), none⟩,
   ⟨(some 14), (.move (.tmp 13)), none⟩,
   ⟨(some 15), (.move (.tmp 1)), (some (14, false))⟩,
   ⟨(some 16), (.call (.mk (.value (.func 88)) #[(.tmp 15)] #[3])), (some (14, false))⟩,
   ⟨(some 17), (.unOp .not 4 (.tmp 16)), (some (14, false))⟩,
   ⟨(some 18), (.pick (.tmp 14) (.const (.bool true)) (.tmp 17)), none⟩])
 (.cond (.tmp 18) (.seq (.reg [⟨(some 4), (.assign (.const (.int .i64 0))), none⟩,
   ⟨(some 5), (.assign (.const (.int .i64 0))), none⟩,
   ⟨(some 6), (.assign (.const (.bool false))), none⟩])
 .ret) .skip))
 (.seq (.reg [⟨(some 7), (.assign (.const (.int .i64 0))), none⟩,
   ⟨(some 8), (.assign (.const (.int .i64 0))), none⟩])
 (.seq (.seq (.reg [⟨(some 9), (.assign (.const (.int .i64 0))), none⟩])
 (.block 0 (.loop (.seq (.seq (.reg [⟨(some 19), (.move (.tmp 9)), none⟩,
   ⟨(some 20), (.move (.tmp 0)), none⟩,
   ⟨(some 21), (.call (.mk (.builtin .len) #[(.tmp 20)] #[48])), none⟩,
   ⟨(some 22), (.binOp .lss 3 (.tmp 19) (.tmp 21) 3), none⟩])
 (.cond (.tmp 22) .skip (.exit 0)))
 (.seq (.block 1 (.seq (.reg [⟨(some 25), (.move (.tmp 0)), none⟩,
   ⟨(some 26), (.move (.tmp 0)), none⟩,
   ⟨(some 27), (.move (.tmp 9)), none⟩,
   ⟨(some 28), (.indexAddr 48 (.tmp 26) (.tmp 27)), none⟩,
   ⟨(some 29), (.fieldAddr 63 (.tmp 28) 0), none⟩,
   ⟨(some 30), (.load 3 (.tmp 29)), none⟩,
   ⟨(some 31), (.move (.tmp 1)), none⟩,
   ⟨(some 32), (.call (.mk (.value (.func 89)) #[(.tmp 25), (.tmp 30), (.tmp 31)] #[48, 3, 3])), none⟩,
   ⟨(some 10), (.assign (.tmp 32)), none⟩])
 (.seq (.reg [⟨(some 33), (.move (.tmp 10)), none⟩,
   ⟨(some 34), (.move (.tmp 8)), none⟩,
   ⟨(some 35), (.binOp .gtr 3 (.tmp 33) (.tmp 34) 3), none⟩])
 (.cond (.tmp 35) (.seq (.reg [⟨(some 36), (.move (.tmp 0)), none⟩,
   ⟨(some 37), (.move (.tmp 9)), none⟩,
   ⟨(some 38), (.indexAddr 48 (.tmp 36) (.tmp 37)), none⟩,
   ⟨(some 39), (.fieldAddr 63 (.tmp 38) 0), none⟩,
   ⟨(some 40), (.load 3 (.tmp 39)), none⟩,
   ⟨(some 7), (.assign (.tmp 40)), none⟩])
 (.reg [⟨(some 41), (.move (.tmp 10)), none⟩,
   ⟨(some 8), (.assign (.tmp 41)), none⟩])) .skip))))
 (.reg [⟨(some 23), (.move (.tmp 9)), none⟩,
   ⟨(some 24), (.binOp .add 3 (.tmp 23) (.const (.int .i64 1)) 3), none⟩,
   ⟨(some 9), (.assign (.tmp 24)), none⟩]))))))
 (.seq (.reg [⟨(some 42), (.move (.tmp 7)), none⟩,
   ⟨(some 43), (.move (.tmp 8)), none⟩,
   ⟨(some 44), (.move (.tmp 7)), none⟩,
   ⟨(some 45), (.binOp .gtr 3 (.tmp 44) (.const (.int .i64 0)) 3), none⟩,
   ⟨(some 4), (.assign (.tmp 42)), none⟩,
   ⟨(some 5), (.assign (.tmp 43)), none⟩,
   ⟨(some 6), (.assign (.tmp 45)), none⟩])
 .ret)))))
theorem x_spec_DearestIn : Txt Tryd.prog 29 c_spec_DearestIn [.tmp 4, .tmp 5, .tmp 6] 2 := ⟨by kernel_rfl, by kernel_rfl, _, _, Tryd.func29, rfl, by kernel_rfl, by kernel_rfl, by kernel_rfl, rfl, by decide⟩
/-- loop.example/g01062/impl.PriceIn -/
def c_impl_PriceIn : Cd :=
 (.seq (.reg [⟨(some 6), (.assign (.const (.int .i64 0))), none⟩,
   ⟨(some 7), (.assign (.const (.bool false))), none⟩])
 (.seq (.seq (.reg [⟨(some 8), (.move (.tmp 0)), none⟩,
   ⟨(some 9), (.call (.mk (.value (.func 84)) #[(.tmp 8)] #[48])), none⟩,
   ⟨(some 10), (.unOp .not 4 (.tmp 9)), none⟩,
   ⟨(some 11), (.move (.tmp 10)), none⟩,
   ⟨(some 12), (.move (.tmp 1)), (some (11, false))⟩,
   ⟨(some 13), (.call (.mk (.value (.func 92)) #[(.tmp 12)] #[3])), (some (11, false))⟩,
   ⟨(some 14), (.unOp .not 4 (.tmp 13)), (some (11, false))⟩,
   ⟨(some 15), (.pick (.tmp 11) (.const (.bool true)) (.tmp 14)), none⟩,
   ⟨(some 16), (.move (.tmp 15)), none⟩,
   ⟨(some 17), (.move (.tmp 2)), (some (16, false))⟩,
   ⟨(some 18), (.call (.mk (.value (.func 85)) #[(.tmp 17)] #[3])), (some (16, false))⟩,
   ⟨(some 19), (.unOp .not 4 (.tmp 18)), (some (16, false))⟩,
   ⟨(some 20), (.pick (.tmp 16) (.const (.bool true)) (.tmp 19)), none⟩])
 (.cond (.tmp 20) (.seq (.reg [⟨(some 6), (.assign (.const (.int .i64 0))), none⟩,
   ⟨(some 7), (.assign (.const (.bool false))), none⟩])
 .ret) .skip))
 (.seq (.reg [⟨(some 21), (.move (.tmp 0)), none⟩,
   ⟨(some 22), (.move (.tmp 1)), none⟩,
   ⟨(some 23), (.move (.tmp 2)), none⟩,
   ⟨(some 24), (.call (.mk (.value (.func 91)) #[(.tmp 21), (.tmp 22), (.tmp 23)] #[48, 3, 3])), none⟩,
   ⟨(some 25), (.extract (.tmp 24) 0), none⟩,
   ⟨(some 26), (.extract (.tmp 24) 1), none⟩,
   ⟨(some 6), (.assign (.tmp 25)), none⟩,
   ⟨(some 7), (.assign (.tmp 26)), none⟩])
 .ret)))
theorem x_impl_PriceIn : Txt Tryd.prog 30 c_impl_PriceIn [.tmp 6, .tmp 7] 3 := ⟨by kernel_rfl, by kernel_rfl, _, _, Tryd.func30, rfl, by kernel_rfl, by kernel_rfl, by kernel_rfl, rfl, by decide⟩
/-- loop.example/g01062/impl.BasketIn -/
def c_impl_BasketIn : Cd :=
 (.seq (.reg [⟨(some 6), (.assign (.const (.int .i64 0))), none⟩,
   ⟨(some 7), (.assign (.const (.int .i64 0))), none⟩,
   ⟨(some 8), (.assign (.const (.bool false))), none⟩])
 (.seq (.seq (.reg [⟨(some 15), (.move (.tmp 0)), none⟩,
   ⟨(some 16), (.call (.mk (.value (.func 84)) #[(.tmp 15)] #[48])), none⟩,
   ⟨(some 17), (.unOp .not 4 (.tmp 16)), none⟩,
   ⟨(some 18), (.move (.tmp 17)), none⟩,
   ⟨(some 19), (.move (.tmp 1)), (some (18, false))⟩,
   ⟨(some 20), (.call (.mk (.builtin .len) #[(.tmp 19)] #[30])), (some (18, false))⟩,
   ⟨(some 21), (.binOp .gtr 3 (.tmp 20) (.const (.int .i64 12)) 3), (some (18, false))⟩,
   ⟨(some 22), (.pick (.tmp 18) (.const (.bool true)) (.tmp 21)), none⟩,
   ⟨(some 23), (.move (.tmp 22)), none⟩,
   ⟨(some 24), (.move (.tmp 1)), (some (23, false))⟩,
   ⟨(some 25), (.call (.mk (.value (.func 93)) #[(.tmp 24), (.func 94)] #[30, 88])), (some (23, false))⟩,
   ⟨(some 26), (.pick (.tmp 23) (.const (.bool true)) (.tmp 25)), none⟩,
   ⟨(some 27), (.move (.tmp 26)), none⟩,
   ⟨(some 28), (.move (.tmp 2)), (some (27, false))⟩,
   ⟨(some 29), (.call (.mk (.value (.func 85)) #[(.tmp 28)] #[3])), (some (27, false))⟩,
   ⟨(some 30), (.unOp .not 4 (.tmp 29)), (some (27, false))⟩,
   ⟨(some 31), (.pick (.tmp 27) (.const (.bool true)) (.tmp 30)), none⟩])
 (.cond (.tmp 31) (.seq (.reg [⟨(some 6), (.assign (.const (.int .i64 0))), none⟩,
   ⟨(some 7), (.assign (.const (.int .i64 0))), none⟩,
   ⟨(some 8), (.assign (.const (.bool false))), none⟩])
 .ret) .skip))
 (.seq (.reg [⟨(some 9), (.assign (.const (.int .i64 0))), none⟩,
   ⟨(some 10), (.assign (.const (.int .i64 0))), none⟩])
 (.seq (.seq (.reg [⟨(some 32), (.move (.tmp 1)), none⟩,
   ⟨(some 33), (.call (.mk (.builtin .len) #[(.tmp 32)] #[30])), none⟩,
   ⟨(some 34), (.move (.const (.int .i64 0))), none⟩])
 (.block 0 (.loop (.seq (.reg [⟨(some 35), (.binOp .lss 3 (.tmp 34) (.tmp 33) 3), none⟩])
 (.seq (.cond (.tmp 35) .skip (.exit 0))
 (.seq (.block 1 (.seq (.reg [⟨(some 36), (.indexAddr 30 (.tmp 32) (.tmp 34)), none⟩,
   ⟨(some 37), (.load 3 (.tmp 36)), none⟩,
   ⟨(some 12), (.assign (.tmp 37)), none⟩])
 (.seq (.reg [⟨(some 39), (.move (.tmp 0)), none⟩,
   ⟨(some 40), (.move (.tmp 12)), none⟩,
   ⟨(some 41), (.move (.tmp 2)), none⟩,
   ⟨(some 42), (.call (.mk (.value (.func 91)) #[(.tmp 39), (.tmp 40), (.tmp 41)] #[48, 3, 3])), none⟩,
   ⟨(some 38), (.move (.tmp 42)), none⟩,
   ⟨(some 43), (.extract (.tmp 38) 0), none⟩,
   ⟨(some 44), (.extract (.tmp 38) 1), none⟩,
   ⟨(some 13), (.assign (.tmp 43)), none⟩,
   ⟨(some 14), (.assign (.tmp 44)), none⟩])
 (.seq (.reg [⟨(some 45), (.move (.tmp 14)), none⟩])
 (.cond (.tmp 45) (.reg [⟨(some 46), (.move (.tmp 9)), none⟩,
   ⟨(some 47), (.move (.tmp 13)), none⟩,
   ⟨(some 48), (.binOp .add 3 (.tmp 46) (.tmp 47) 3), none⟩,
   ⟨(some 9), (.assign (.tmp 48)), none⟩]) (.reg [⟨(some 49), (.move (.tmp 10)), none⟩,
   ⟨(some 50), (.binOp .add 3 (.tmp 49) (.const (.int .i64 1)) 3), none⟩,
   ⟨(some 10), (.assign (.tmp 50)), none⟩]))))))
 (.reg [⟨(some 51), (.binOp .add 3 (.tmp 34) (.const (.int .i64 1)) 3), none⟩,
   ⟨(some 34), (.move (.tmp 51)), none⟩])))))))
 (.seq (.reg [⟨(some 52), (.move (.tmp 9)), none⟩,
   ⟨(some 53), (.move (.tmp 10)), none⟩,
   ⟨(some 6), (.assign (.tmp 52)), none⟩,
   ⟨(some 7), (.assign (.tmp 53)), none⟩,
   ⟨(some 8), (.assign (.const (.bool true))), none⟩])
 .ret)))))
theorem x_impl_BasketIn : Txt Tryd.prog 31 c_impl_BasketIn [.tmp 6, .tmp 7, .tmp 8] 3 := ⟨by kernel_rfl, by kernel_rfl, _, _, Tryd.func31, rfl, by kernel_rfl, by kernel_rfl, by kernel_rfl, rfl, by decide⟩
/-- loop.example/g01062/spec.DrawBasketIn -/
def c_spec_DrawBasketIn : Cd :=
 (.seq (.reg [⟨(some 2), (.assign (.const (.slice none 0 0))), none⟩,
   ⟨(some 3), (.assign (.const (.slice none 0 0))), none⟩,
   ⟨(some 4), (.assign (.const (.int .i64 0))), none⟩])
 (.seq (.reg [⟨(some 9), (.move (.tmp 0)), none⟩,
   ⟨(some 10), (.build 83 #[(0, (.tmp 9))]), none⟩,
   ⟨(some 11), (.box 83 (.tmp 10)), none⟩,
   ⟨(some 5), (.assign (.tmp 11)), none⟩])
 (.seq (.reg [⟨(some 12), (.move (.tmp 5)), none⟩,
   ⟨(some 13), (.call (.mk (.value (.func 82)) #[(.tmp 12)] #[80])), none⟩,
   ⟨(some 6), (.assign (.tmp 13)), none⟩])
 (.seq (.reg [⟨(some 14), (.buildSlice 30 0 #[]), none⟩,
   ⟨(some 7), (.assign (.tmp 14)), none⟩])
 (.seq (.seq (.reg [⟨(some 15), (.move (.tmp 5)), none⟩,
   ⟨(some 16), (.buildSlice 30 6 #[(0, (.const (.int .i64 0))), (1, (.const (.int .i64 1))), (2, (.const (.int .i64 2))), (3, (.const (.int .i64 3))), (4, (.const (.int .i64 12))), (5, (.const (.int .i64 13)))]), none⟩,
   ⟨(some 17), (.move (.tmp 5)), none⟩,
   ⟨(some 18), (.call (.mk (.value (.func 65)) #[(.tmp 17), (.const (.int .i64 24))] #[80, 3])), none⟩,
   ⟨(some 19), (.binOp .quo 3 (.tmp 18) (.const (.int .i64 12)) 3), none⟩,
   ⟨(some 20), (.binOp .add 3 (.const (.int .i64 5)) (.tmp 19) 3), none⟩,
   ⟨(some 21), (.slice 30 (.tmp 16) none (some (.tmp 20)) none), none⟩,
   ⟨(some 22), (.call (.mk (.value (.func 64)) #[(.tmp 15), (.tmp 21)] #[80, 30])), none⟩,
   ⟨(some 8), (.assign (.tmp 22)), none⟩])
 (.block 0 (.loop (.seq (.seq (.reg [⟨(some 23), (.move (.tmp 8)), none⟩,
   ⟨(some 24), (.binOp .gtr 3 (.tmp 23) (.const (.int .i64 0)) 3), none⟩])
 (.cond (.tmp 24) .skip (.exit 0)))
 (.seq (.block 1 (.reg [⟨(some 27), (.move (.tmp 7)), none⟩,
   ⟨(some 28), (.move (.tmp 5)), none⟩,
   ⟨(some 29), (.move (.tmp 6)), none⟩,
   ⟨(some 30), (.call (.mk (.value (.func 95)) #[(.tmp 28), (.tmp 29)] #[80, 48])), none⟩,
   ⟨(some 31), (.buildSlice 30 1 #[(0, (.tmp 30))]), none⟩,
   ⟨(some 32), (.call (.mk (.builtin .append) #[(.tmp 27), (.tmp 31)] #[30, 30])), none⟩,
   ⟨(some 7), (.assign (.tmp 32)), none⟩]))
 (.reg [⟨(some 25), (.move (.tmp 8)), none⟩,
   ⟨(some 26), (.binOp .sub 3 (.tmp 25) (.const (.int .i64 1)) 3), none⟩,
   ⟨(some 8), (.assign (.tmp 26)), none⟩]))))))
 (.seq (.reg [⟨(some 33), (.move (.tmp 6)), none⟩,
   ⟨(some 34), (.move (.tmp 7)), none⟩,
   ⟨(some 35), (.move (.tmp 5)), none⟩,
   ⟨(some 36), (.move (.tmp 6)), none⟩,
   ⟨(some 37), (.call (.mk (.value (.func 83)) #[(.tmp 35), (.tmp 36)] #[80, 48])), none⟩,
   ⟨(some 2), (.assign (.tmp 33)), none⟩,
   ⟨(some 3), (.assign (.tmp 34)), none⟩,
   ⟨(some 4), (.assign (.tmp 37)), none⟩])
 .ret))))))
theorem x_spec_DrawBasketIn : Txt Tryd.prog 32 c_spec_DrawBasketIn [.tmp 2, .tmp 3, .tmp 4] 1 := ⟨by kernel_rfl, by kernel_rfl, _, _, Tryd.func32, rfl, by kernel_rfl, by kernel_rfl, by kernel_rfl, rfl, by decide⟩
/-- loop.example/g01062/spec.BasketIn -/
def c_spec_BasketIn : Cd :=
 (.seq (.reg [⟨(some 6), (.assign (.const (.int .i64 0))), none⟩,
   ⟨(some 7), (.assign (.const (.int .i64 0))), none⟩,
   ⟨(some 8), (.assign (.const (.bool false))), none⟩])
 (.seq (.seq (.reg [⟨(some 13), (.move (.tmp 0)), none⟩,
   ⟨(some 14), (.call (.mk (.value (.func 87)) #[(.tmp 13)] #[48])), none⟩,
   ⟨(some 15), (.unOp .not 4 (.tmp 14)), none⟩,
   ⟨(some 16), (.move (.tmp 15)), none⟩,
   ⟨(some 17), (.move (.tmp 2)), (some (16, false))⟩,
   ⟨(some 18), (.call (.mk (.value (.func 88)) #[(.tmp 17)] #[3])), (some (16, false))⟩,
   ⟨(some 19), (.unOp .not 4 (.tmp 18)), (some (16, false))⟩,
   ⟨(some 20), (.pick (.tmp 16) (.const (.bool true)) (.tmp 19)), none⟩,
   ⟨(some 21), (.move (.tmp 20)), none⟩,
   ⟨(some 22), (.move (.tmp 1)), (some (21, false))⟩,
   ⟨(some 23), (.call (.mk (.builtin .len) #[(.tmp 22)] #[30])), (some (21, false))⟩,
   ⟨(some 24), (.binOp .gtr 3 (.tmp 23) (.const (.int .i64 12)) 3), (some (21, false))⟩,
   ⟨(some 25), (.pick (.tmp 21) (.const (.bool true)) (.tmp 24)), none⟩])
 (.cond (.tmp 25) (.seq (.reg [⟨(some 6), (.assign (.const (.int .i64 0))), none⟩,
   ⟨(some 7), (.assign (.const (.int .i64 0))), none⟩,
   ⟨(some 8), (.assign (.const (.bool false))), none⟩])
 .ret) .skip))
 (.seq (.reg [⟨(some 9), (.assign (.const (.int .i64 0))), none⟩,
   ⟨(some 10), (.assign (.const (.int .i64 0))), none⟩])
 (.seq (.seq (.reg [⟨(some 11), (.assign (.const (.int .i64 0))), none⟩])
 (.block 0 (.loop (.seq (.seq (.reg [⟨(some 26), (.move (.tmp 11)), none⟩,
   ⟨(some 27), (.move (.tmp 1)), none⟩,
   ⟨(some 28), (.call (.mk (.builtin .len) #[(.tmp 27)] #[30])), none⟩,
   ⟨(some 29), (.binOp .lss 3 (.tmp 26) (.tmp 28) 3), none⟩])
 (.cond (.tmp 29) .skip (.exit 0)))
 (.seq (.block 1 (.seq (.seq (.reg [⟨(some 32), (.move (.tmp 1)), none⟩,
   ⟨(some 33), (.move (.tmp 11)), none⟩,
   ⟨(some 34), (.indexAddr 30 (.tmp 32) (.tmp 33)), none⟩,
   ⟨(some 35), (.load 3 (.tmp 34)), none⟩,
   ⟨(some 36), (.call (.mk (.value (.func 96)) #[(.tmp 35)] #[3])), none⟩,
   ⟨(some 37), (.unOp .not 4 (.tmp 36)), none⟩])
 (.cond (.tmp 37) (.seq (.reg [⟨(some 6), (.assign (.const (.int .i64 0))), none⟩,
   ⟨(some 7), (.assign (.const (.int .i64 0))), none⟩,
   ⟨(some 8), (.assign (.const (.bool false))), none⟩])
 .ret) .skip))
 (.seq (.reg [⟨(some 38), (.move (.tmp 0)), none⟩,
   ⟨(some 39), (.move (.tmp 1)), none⟩,
   ⟨(some 40), (.move (.tmp 11)), none⟩,
   ⟨(some 41), (.indexAddr 30 (.tmp 39) (.tmp 40)), none⟩,
   ⟨(some 42), (.load 3 (.tmp 41)), none⟩,
   ⟨(some 43), (.move (.tmp 2)), none⟩,
   ⟨(some 44), (.call (.mk (.value (.func 89)) #[(.tmp 38), (.tmp 42), (.tmp 43)] #[48, 3, 3])), none⟩,
   ⟨(some 12), (.assign (.tmp 44)), none⟩])
 (.seq (.reg [⟨(some 45), (.move (.tmp 9)), none⟩,
   ⟨(some 46), (.move (.tmp 12)), none⟩,
   ⟨(some 47), (.binOp .add 3 (.tmp 45) (.tmp 46) 3), none⟩,
   ⟨(some 9), (.assign (.tmp 47)), none⟩])
 (.seq (.reg [⟨(some 48), (.move (.tmp 12)), none⟩,
   ⟨(some 49), (.binOp .eql 3 (.tmp 48) (.const (.int .i64 0)) 3), none⟩])
 (.cond (.tmp 49) (.reg [⟨(some 50), (.move (.tmp 10)), none⟩,
   ⟨(some 51), (.binOp .add 3 (.tmp 50) (.const (.int .i64 1)) 3), none⟩,
   ⟨(some 10), (.assign (.tmp 51)), none⟩]) .skip))))))
 (.reg [⟨(some 30), (.move (.tmp 11)), none⟩,
   ⟨(some 31), (.binOp .add 3 (.tmp 30) (.const (.int .i64 1)) 3), none⟩,
   ⟨(some 11), (.assign (.tmp 31)), none⟩]))))))
 (.seq (.reg [⟨(some 52), (.move (.tmp 9)), none⟩,
   ⟨(some 53), (.move (.tmp 10)), none⟩,
   ⟨(some 6), (.assign (.tmp 52)), none⟩,
   ⟨(some 7), (.assign (.tmp 53)), none⟩,
   ⟨(some 8), (.assign (.const (.bool true))), none⟩])
 .ret)))))
theorem x_spec_BasketIn : Txt Tryd.prog 33 c_spec_BasketIn [.tmp 6, .tmp 7, .tmp 8] 3 := ⟨by kernel_rfl, by kernel_rfl, _, _, Tryd.func33, rfl, by kernel_rfl, by kernel_rfl, by kernel_rfl, rfl, by decide⟩
/-- loop.example/g01062/spec.DrawRaiseAll -/
def c_spec_DrawRaiseAll : Cd :=
 (.seq (.reg [⟨(some 2), (.assign (.const (.slice none 0 0))), none⟩,
   ⟨(some 3), (.assign (.const (.int .i64 0))), none⟩,
   ⟨(some 4), (.assign (.const (.int .i64 0))), none⟩])
 (.seq (.reg [⟨(some 7), (.move (.tmp 0)), none⟩,
   ⟨(some 8), (.build 83 #[(0, (.tmp 7))]), none⟩,
   ⟨(some 9), (.box 83 (.tmp 8)), none⟩,
   ⟨(some 5), (.assign (.tmp 9)), none⟩])
 (.seq (.reg [⟨(some 10), (.move (.tmp 5)), none⟩,
   ⟨(some 11), (.call (.mk (.value (.func 82)) #[(.tmp 10)] #[80])), none⟩,
   ⟨(some 6), (.assign (.tmp 11)), none⟩])
 (.seq (.reg [⟨(some 12), (.move (.tmp 6)), none⟩,
   ⟨(some 13), (.move (.tmp 5)), none⟩,
   ⟨(some 14), (.move (.tmp 6)), none⟩,
   ⟨(some 15), (.call (.mk (.value (.func 83)) #[(.tmp 13), (.tmp 14)] #[80, 48])), none⟩,
   ⟨(some 16), (.move (.tmp 5)), none⟩,
   ⟨(some 17), (.buildSlice 30 7 #[(0, (.const (.int .i64 0))), (1, (.const (.int .i64 1))), (2, (.const (.int .i64 10))), (3, (.const (.int .i64 33))), (4, (.const (.int .i64 100))), (5, (.const (.int .i64 (-1)))), (6, (.const (.int .i64 101)))]), none⟩,
   ⟨(some 18), (.move (.tmp 5)), none⟩,
   ⟨(some 19), (.call (.mk (.value (.func 65)) #[(.tmp 18), (.const (.int .i64 24))] #[80, 3])), none⟩,
   ⟨(some 20), (.binOp .quo 3 (.tmp 19) (.const (.int .i64 11)) 3), none⟩,
   ⟨(some 21), (.binOp .add 3 (.const (.int .i64 5)) (.tmp 20) 3), none⟩,
   ⟨(some 22), (.slice 30 (.tmp 17) none (some (.tmp 21)) none), none⟩,
   ⟨(some 23), (.call (.mk (.value (.func 64)) #[(.tmp 16), (.tmp 22)] #[80, 30])), none⟩,
   ⟨(some 2), (.assign (.tmp 12)), none⟩,
   ⟨(some 3), (.assign (.tmp 15)), none⟩,
   ⟨(some 4), (.assign (.tmp 23)), none⟩])
 .ret))))
theorem x_spec_DrawRaiseAll : Txt Tryd.prog 34 c_spec_DrawRaiseAll [.tmp 2, .tmp 3, .tmp 4] 1 := ⟨by kernel_rfl, by kernel_rfl, _, _, Tryd.func34, rfl, by kernel_rfl, by kernel_rfl, by kernel_rfl, rfl, by decide⟩
/-- loop.example/g01062/impl.RaiseAll -/
def c_impl_RaiseAll : Cd :=
 (.seq (.reg [⟨(some 6), (.assign (.const (.slice none 0 0))), none⟩,
   ⟨(some 7), (.assign (.const (.bool false))), none⟩])
 (.seq (.seq (.reg [⟨(some 11), (.move (.tmp 0)), none⟩,
   ⟨(some 12), (.call (.mk (.value (.func 84)) #[(.tmp 11)] #[48])), none⟩,
   ⟨(some 13), (.unOp .not 4 (.tmp 12)), none⟩,
   ⟨(some 14), (.move (.tmp 13)), none⟩,
   ⟨(some 15), (.move (.tmp 1)), (some (14, false))⟩,
   ⟨(some 16), (.call (.mk (.value (.func 85)) #[(.tmp 15)] #[3])), (some (14, false))⟩,
   ⟨(some 17), (.unOp .not 4 (.tmp 16)), (some (14, false))⟩,
   ⟨(some 18), (.pick (.tmp 14) (.const (.bool true)) (.tmp 17)), none⟩,
   ⟨(some 19), (.move (.tmp 18)), none⟩,
   ⟨(some 20), (.move (.tmp 2)), (some (19, false))⟩,
   ⟨(some 21), (.call (.mk (.value (.func 97)) #[(.tmp 20), (.const (.int .i64 0)), (.const (.int .i64 100))] #[3, 3, 3])), (some (19, false))⟩,
   ⟨(some 22), (.unOp .not 4 (.tmp 21)), (some (19, false))⟩,
   ⟨(some 23), (.pick (.tmp 19) (.const (.bool true)) (.tmp 22)), none⟩])
 (.cond (.tmp 23) (.seq (.reg [⟨(some 6), (.assign (.const (.slice none 0 0))), none⟩,
   ⟨(some 7), (.assign (.const (.bool false))), none⟩])
 .ret) .skip))
 (.seq (.reg [⟨(some 24), (.move (.tmp 0)), none⟩,
   ⟨(some 25), (.call (.mk (.value (.func 98)) #[(.tmp 24)] #[48])), none⟩,
   ⟨(some 8), (.assign (.tmp 25)), none⟩])
 (.seq (.seq (.reg [⟨(some 26), (.move (.tmp 8)), none⟩,
   ⟨(some 27), (.call (.mk (.builtin .len) #[(.tmp 26)] #[48])), none⟩,
   ⟨(some 28), (.move (.const (.int .i64 0))), none⟩])
 (.block 0 (.loop (.seq (.reg [⟨(some 29), (.binOp .lss 3 (.tmp 28) (.tmp 27) 3), none⟩])
 (.seq (.cond (.tmp 29) .skip (.exit 0))
 (.seq (.block 1 (.seq (.reg [⟨(some 30), (.move (.tmp 28)), none⟩,
   ⟨(some 31), (.indexAddr 48 (.tmp 26) (.tmp 28)), none⟩,
   ⟨(some 32), (.load 63 (.tmp 31)), none⟩,
   ⟨(some 10), (.alloc 63), none⟩,
   ⟨(some 9), (.assign (.tmp 30)), none⟩,
   ⟨none, (.store 63 (.tmp 10) (.tmp 32)), none⟩])
 (.seq (.reg [⟨(some 33), (.fieldAddr 63 (.tmp 10) 1), none⟩,
   ⟨(some 34), (.load 3 (.tmp 33)), none⟩,
   ⟨(some 35), (.move (.tmp 1)), none⟩,
   ⟨(some 36), (.binOp .eql 3 (.tmp 34) (.tmp 35) 3), none⟩])
 (.cond (.tmp 36) (.reg [⟨(some 37), (.move (.tmp 8)), none⟩,
   ⟨(some 38), (.move (.tmp 9)), none⟩,
   ⟨(some 39), (.fieldAddr 63 (.tmp 10) 2), none⟩,
   ⟨(some 40), (.load 3 (.tmp 39)), none⟩,
   ⟨(some 41), (.move (.tmp 2)), none⟩,
   ⟨(some 42), (.binOp .add 3 (.const (.int .i64 100)) (.tmp 41) 3), none⟩,
   ⟨(some 43), (.binOp .mul 3 (.tmp 40) (.tmp 42) 3), none⟩,
   ⟨(some 44), (.binOp .add 3 (.tmp 43) (.const (.int .i64 99)) 3), none⟩,
   ⟨(some 45), (.binOp .quo 3 (.tmp 44) (.const (.int .i64 100)) 3), none⟩,
   ⟨(some 46), (.indexAddr 48 (.tmp 37) (.tmp 38)), none⟩,
   ⟨(some 47), (.fieldAddr 63 (.tmp 46) 2), none⟩,
   ⟨none, (.store 3 (.tmp 47) (.tmp 45)), none⟩]) .skip))))
 (.reg [⟨(some 48), (.binOp .add 3 (.tmp 28) (.const (.int .i64 1)) 3), none⟩,
   ⟨(some 28), (.move (.tmp 48)), none⟩])))))))
 (.seq (.seq (.reg [⟨(some 49), (.move (.tmp 8)), none⟩,
   ⟨(some 50), (.call (.mk (.value (.func 84)) #[(.tmp 49)] #[48])), none⟩,
   ⟨(some 51), (.unOp .not 4 (.tmp 50)), none⟩])
 (.cond (.tmp 51) (.seq (.reg [⟨(some 6), (.assign (.const (.slice none 0 0))), none⟩,
   ⟨(some 7), (.assign (.const (.bool false))), none⟩])
 .ret) .skip))
 (.seq (.reg [⟨(some 52), (.move (.tmp 8)), none⟩,
   ⟨(some 6), (.assign (.tmp 52)), none⟩,
   ⟨(some 7), (.assign (.const (.bool true))), none⟩])
 .ret))))))
theorem x_impl_RaiseAll : Txt Tryd.prog 35 c_impl_RaiseAll [.tmp 6, .tmp 7] 3 := ⟨by kernel_rfl, by kernel_rfl, _, _, Tryd.func35, rfl, by kernel_rfl, by kernel_rfl, by kernel_rfl, rfl, by decide⟩
/-- loop.example/g01062/spec.RaiseAll -/
def c_spec_RaiseAll : Cd :=
 (.seq (.reg [⟨(some 6), (.assign (.const (.slice none 0 0))), none⟩,
   ⟨(some 7), (.assign (.const (.bool false))), none⟩])
 (.seq (.seq (.reg [⟨(some 11), (.move (.tmp 0)), none⟩,
   ⟨(some 12), (.call (.mk (.value (.func 87)) #[(.tmp 11)] #[48])), none⟩,
   ⟨(some 13), (.unOp .not 4 (.tmp 12)), none⟩,
   ⟨(some 14), (.move (.tmp 13)), none⟩,
   ⟨(some 15), (.move (.tmp 1)), (some (14, false))⟩,
   ⟨(some 16), (.call (.mk (.value (.func 88)) #[(.tmp 15)] #[3])), (some (14, false))⟩,
   ⟨(some 17), (.unOp .not 4 (.tmp 16)), (some (14, false))⟩,
   ⟨(some 18), (.pick (.tmp 14) (.const (.bool true)) (.tmp 17)), none⟩,
   ⟨(some 19), (.move (.tmp 18)), none⟩,
   ⟨(some 20), (.move (.tmp 2)), (some (19, false))⟩,
   ⟨(some 21), (.call (.mk (.value (.func 99)) #[(.tmp 20), (.const (.int .i64 0)), (.const (.int .i64 100))] #[3, 3, 3])), (some (19, false))⟩,
   ⟨(some 22), (.unOp .not 4 (.tmp 21)), (some (19, false))⟩,
   ⟨(some 23), (.pick (.tmp 19) (.const (.bool true)) (.tmp 22)), none⟩])
 (.cond (.tmp 23) (.seq (.reg [⟨(some 24), (.buildSlice 48 0 #[]), none⟩,
   ⟨(some 6), (.assign (.tmp 24)), none⟩,
   ⟨(some 7), (.assign (.const (.bool false))), none⟩])
 .ret) .skip))
 (.seq (.reg [⟨(some 25), (.buildSlice 48 0 #[]), none⟩,
   ⟨(some 8), (.assign (.tmp 25)), none⟩])
 (.seq (.seq (.reg [⟨(some 9), (.assign (.const (.int .i64 0))), none⟩])
 (.block 0 (.loop (.seq (.seq (.reg [⟨(some 26), (.move (.tmp 9)), none⟩,
   ⟨(some 27), (.move (.tmp 0)), none⟩,
   ⟨(some 28), (.call (.mk (.builtin .len) #[(.tmp 27)] #[48])), none⟩,
   ⟨(some 29), (.binOp .lss 3 (.tmp 26) (.tmp 28) 3), none⟩])
 (.cond (.tmp 29) .skip (.exit 0)))
 (.seq (.block 1 (.seq (.reg [⟨(some 32), (.move (.tmp 0)), none⟩,
   ⟨(some 33), (.move (.tmp 9)), none⟩,
   ⟨(some 34), (.indexAddr 48 (.tmp 32) (.tmp 33)), none⟩,
   ⟨(some 35), (.load 63 (.tmp 34)), none⟩,
   ⟨(some 10), (.alloc 63), none⟩,
   ⟨none, (.store 63 (.tmp 10) (.tmp 35)), none⟩])
 (.seq (.seq (.reg [⟨(some 36), (.fieldAddr 63 (.tmp 10) 1), none⟩,
   ⟨(some 37), (.load 3 (.tmp 36)), none⟩,
   ⟨(some 38), (.move (.tmp 1)), none⟩,
   ⟨(some 39), (.binOp .eql 3 (.tmp 37) (.tmp 38) 3), none⟩])
 (.cond (.tmp 39) (.reg [⟨(some 40), (.fieldAddr 63 (.tmp 10) 2), none⟩,
   ⟨(some 41), (.load 3 (.tmp 40)), none⟩,
   ⟨(some 42), (.move (.tmp 2)), none⟩,
   ⟨(some 43), (.binOp .add 3 (.const (.int .i64 100)) (.tmp 42) 3), none⟩,
   ⟨(some 44), (.binOp .mul 3 (.tmp 41) (.tmp 43) 3), none⟩,
   ⟨(some 45), (.binOp .add 3 (.tmp 44) (.const (.int .i64 99)) 3), none⟩,
   ⟨(some 46), (.binOp .quo 3 (.tmp 45) (.const (.int .i64 100)) 3), none⟩,
   ⟨(some 47), (.fieldAddr 63 (.tmp 10) 2), none⟩,
   ⟨none, (.store 3 (.tmp 47) (.tmp 46)), none⟩]) .skip))
 (.reg [⟨(some 48), (.move (.tmp 8)), none⟩,
   ⟨(some 49), (.load 63 (.tmp 10)), none⟩,
   ⟨(some 50), (.buildSlice 48 1 #[(0, (.tmp 49))]), none⟩,
   ⟨(some 51), (.call (.mk (.builtin .append) #[(.tmp 48), (.tmp 50)] #[48, 48])), none⟩,
   ⟨(some 8), (.assign (.tmp 51)), none⟩]))))
 (.reg [⟨(some 30), (.move (.tmp 9)), none⟩,
   ⟨(some 31), (.binOp .add 3 (.tmp 30) (.const (.int .i64 1)) 3), none⟩,
   ⟨(some 9), (.assign (.tmp 31)), none⟩]))))))
 (.seq (.seq (.reg [⟨(some 52), (.move (.tmp 8)), none⟩,
   ⟨(some 53), (.call (.mk (.value (.func 87)) #[(.tmp 52)] #[48])), none⟩,
   ⟨(some 54), (.unOp .not 4 (.tmp 53)), none⟩])
 (.cond (.tmp 54) (.seq (.reg [⟨(some 55), (.buildSlice 48 0 #[]), none⟩,
   ⟨(some 6), (.assign (.tmp 55)), none⟩,
   ⟨(some 7), (.assign (.const (.bool false))), none⟩])
 .ret) .skip))
 (.seq (.reg [⟨(some 56), (.move (.tmp 8)), none⟩,
   ⟨(some 6), (.assign (.tmp 56)), none⟩,
   ⟨(some 7), (.assign (.const (.bool true))), none⟩])
 .ret))))))
theorem x_spec_RaiseAll : Txt Tryd.prog 36 c_spec_RaiseAll [.tmp 6, .tmp 7] 3 := ⟨by kernel_rfl, by kernel_rfl, _, _, Tryd.func36, rfl, by kernel_rfl, by kernel_rfl, by kernel_rfl, rfl, by decide⟩
/-- loop.example/g01062/laws.rPrices -/
def c_laws_rPrices : Cd :=
 (.seq (.reg [⟨(some 4), (.assign (.const (.bool false))), none⟩])
 (.seq (.seq (.reg [⟨(some 6), (.move (.tmp 0)), none⟩,
   ⟨(some 7), (.call (.mk (.builtin .len) #[(.tmp 6)] #[48])), none⟩,
   ⟨(some 8), (.move (.tmp 1)), none⟩,
   ⟨(some 9), (.call (.mk (.builtin .len) #[(.tmp 8)] #[48])), none⟩,
   ⟨(some 10), (.binOp .neq 3 (.tmp 7) (.tmp 9) 3), none⟩])
 (.cond (.tmp 10) (.seq (.reg [⟨(some 4), (.assign (.const (.bool false))), none⟩])
 .ret) .skip))
 (.seq (.seq (.reg [⟨(some 5), (.assign (.const (.int .i64 0))), none⟩])
 (.block 0 (.loop (.seq (.seq (.reg [⟨(some 11), (.move (.tmp 5)), none⟩,
   ⟨(some 12), (.move (.tmp 0)), none⟩,
   ⟨(some 13), (.call (.mk (.builtin .len) #[(.tmp 12)] #[48])), none⟩,
   ⟨(some 14), (.binOp .lss 3 (.tmp 11) (.tmp 13) 3), none⟩])
 (.cond (.tmp 14) .skip (.exit 0)))
 (.seq (.block 1 (.seq (.regq [⟨(some 17), (.move (.tmp 0)), none⟩,
   ⟨(some 18), (.move (.tmp 5)), none⟩,
   ⟨(some 19), (.indexAddr 48 (.tmp 17) (.tmp 18)), none⟩,
   ⟨(some 20), (.load 63 (.tmp 19)), none⟩,
   ⟨(some 21), (.move (.tmp 1)), none⟩,
   ⟨(some 22), (.move (.tmp 5)), none⟩,
   ⟨(some 23), (.indexAddr 48 (.tmp 21) (.tmp 22)), none⟩,
   ⟨(some 24), (.load 63 (.tmp 23)), none⟩,
   ⟨(some 25), (.binOp .neq 63 (.tmp 20) (.tmp 24) 63), none⟩])
 (.cond (.tmp 25) (.seq (.reg [⟨(some 4), (.assign (.const (.bool false))), none⟩])
 .ret) .skip)))
 (.reg [⟨(some 15), (.move (.tmp 5)), none⟩,
   ⟨(some 16), (.binOp .add 3 (.tmp 15) (.const (.int .i64 1)) 3), none⟩,
   ⟨(some 5), (.assign (.tmp 16)), none⟩]))))))
 (.seq (.reg [⟨(some 4), (.assign (.const (.bool true))), none⟩])
 .ret))))
theorem x_laws_rPrices : Txt Tryd.prog 37 c_laws_rPrices [.tmp 4] 2 := ⟨by kernel_rfl, by kernel_rfl, _, _, Tryd.func37, rfl, by kernel_rfl, by kernel_rfl, by kernel_rfl, rfl, by decide⟩
/-- loop.example/g01062/spec.DrawSteepestYears -/
def c_spec_DrawSteepestYears : Cd :=
 (.seq (.reg [⟨(some 2), (.assign (.const (.slice none 0 0))), none⟩,
   ⟨(some 3), (.assign (.const (.int .i64 0))), none⟩])
 (.seq (.reg [⟨(some 6), (.move (.tmp 0)), none⟩,
   ⟨(some 7), (.build 83 #[(0, (.tmp 6))]), none⟩,
   ⟨(some 8), (.box 83 (.tmp 7)), none⟩,
   ⟨(some 4), (.assign (.tmp 8)), none⟩])
 (.seq (.reg [⟨(some 9), (.move (.tmp 4)), none⟩,
   ⟨(some 10), (.call (.mk (.value (.func 82)) #[(.tmp 9)] #[80])), none⟩,
   ⟨(some 5), (.assign (.tmp 10)), none⟩])
 (.seq (.reg [⟨(some 11), (.move (.tmp 5)), none⟩,
   ⟨(some 12), (.move (.tmp 4)), none⟩,
   ⟨(some 13), (.move (.tmp 5)), none⟩,
   ⟨(some 14), (.call (.mk (.value (.func 95)) #[(.tmp 12), (.tmp 13)] #[80, 48])), none⟩,
   ⟨(some 2), (.assign (.tmp 11)), none⟩,
   ⟨(some 3), (.assign (.tmp 14)), none⟩])
 .ret))))
theorem x_spec_DrawSteepestYears : Txt Tryd.prog 38 c_spec_DrawSteepestYears [.tmp 2, .tmp 3] 1 := ⟨by kernel_rfl, by kernel_rfl, _, _, Tryd.func38, rfl, by kernel_rfl, by kernel_rfl, by kernel_rfl, rfl, by decide⟩
/-- loop.example/g01062/impl.SteepestYears -/
def c_impl_SteepestYears : Cd :=
 (.seq (.reg [⟨(some 4), (.assign (.const (.int .i64 0))), none⟩,
   ⟨(some 5), (.assign (.const (.int .i64 0))), none⟩,
   ⟨(some 6), (.assign (.const (.bool false))), none⟩])
 (.seq (.seq (.reg [⟨(some 9), (.move (.tmp 0)), none⟩,
   ⟨(some 10), (.call (.mk (.value (.func 84)) #[(.tmp 9)] #[48])), none⟩,
   ⟨(some 11), (.unOp .not 4 (.tmp 10)), none⟩,
   ⟨(some 12), (.move (.tmp 11)), none⟩,
   ⟨(some 13), (.move (.tmp 1)), (some (12, false))⟩,
   ⟨(some 14), (.call (.mk (.value (.func 92)) #[(.tmp 13)] #[3])), (some (12, false))⟩,
   ⟨(some 15), (.unOp .not 4 (.tmp 14)), (some (12, false))⟩,
   ⟨(some 16), (.pick (.tmp 12) (.const (.bool true)) (.tmp 15)), none⟩])
 (.cond (.tmp 16) (.seq (.reg [⟨(some 4), (.assign (.const (.int .i64 0))), none⟩,
   ⟨(some 5), (.assign (.const (.int .i64 0))), none⟩,
   ⟨(some 6), (.assign (.const (.bool false))), none⟩])
 .ret) .skip))
 (.seq (.reg [⟨(some 7), (.assign (.const (.int .i64 (-1)))), none⟩])
 (.seq (.seq (.reg [⟨(some 8), (.assign (.const (.int .i64 0))), none⟩])
 (.block 0 (.loop (.seq (.seq (.reg [⟨(some 17), (.move (.tmp 8)), none⟩,
   ⟨(some 18), (.binOp .add 3 (.tmp 17) (.const (.int .i64 1)) 3), none⟩,
   ⟨(some 19), (.move (.tmp 0)), none⟩,
   ⟨(some 20), (.call (.mk (.builtin .len) #[(.tmp 19)] #[48])), none⟩,
   ⟨(some 21), (.binOp .lss 3 (.tmp 18) (.tmp 20) 3), none⟩])
 (.cond (.tmp 21) .skip (.exit 0)))
 (.seq (.block 1 (.seq (.seq (.reg [⟨(some 24), (.move (.tmp 0)), none⟩,
   ⟨(some 25), (.move (.tmp 8)), none⟩,
   ⟨(some 26), (.indexAddr 48 (.tmp 24) (.tmp 25)), none⟩,
   ⟨(some 27), (.fieldAddr 63 (.tmp 26) 0), none⟩,
   ⟨(some 28), (.load 3 (.tmp 27)), none⟩,
   ⟨(some 29), (.move (.tmp 1)), none⟩,
   ⟨(some 30), (.binOp .neq 3 (.tmp 28) (.tmp 29) 3), none⟩,
   ⟨(some 31), (.move (.tmp 30)), none⟩,
   ⟨(some 32), (.move (.tmp 0)), (some (31, false))⟩,
   ⟨(some 33), (.move (.tmp 8)), (some (31, false))⟩,
   ⟨(some 34), (.binOp .add 3 (.tmp 33) (.const (.int .i64 1)) 3), (some (31, false))⟩,
   ⟨(some 35), (.indexAddr 48 (.tmp 32) (.tmp 34)), (some (31, false))⟩,
   ⟨(some 36), (.fieldAddr 63 (.tmp 35) 0), (some (31, false))⟩,
   ⟨(some 37), (.load 3 (.tmp 36)), (some (31, false))⟩,
   ⟨(some 38), (.move (.tmp 1)), (some (31, false))⟩,
   ⟨(some 39), (.binOp .neq 3 (.tmp 37) (.tmp 38) 3), (some (31, false))⟩,
   ⟨(some 40), (.pick (.tmp 31) (.const (.bool true)) (.tmp 39)), none⟩])
 (.cond (.tmp 40) (.exit 1) .skip))
 (.seq (.regq [⟨(some 41), (.move (.tmp 7)), none⟩,
   ⟨(some 42), (.binOp .lss 3 (.tmp 41) (.const (.int .i64 0)) 3), none⟩,
   ⟨(some 43), (.move (.tmp 42)), none⟩,
   ⟨(some 44), (.move (.tmp 0)), (some (43, false))⟩,
   ⟨(some 45), (.move (.tmp 8)), (some (43, false))⟩,
   ⟨(some 46), (.binOp .add 3 (.tmp 45) (.const (.int .i64 1)) 3), (some (43, false))⟩,
   ⟨(some 47), (.indexAddr 48 (.tmp 44) (.tmp 46)), (some (43, false))⟩,
   ⟨(some 48), (.fieldAddr 63 (.tmp 47) 2), (some (43, false))⟩,
   ⟨(some 49), (.load 3 (.tmp 48)), (some (43, false))⟩,
   ⟨(some 50), (.move (.tmp 0)), (some (43, false))⟩,
   ⟨(some 51), (.move (.tmp 8)), (some (43, false))⟩,
   ⟨(some 52), (.indexAddr 48 (.tmp 50) (.tmp 51)), (some (43, false))⟩,
   ⟨(some 53), (.fieldAddr 63 (.tmp 52) 2), (some (43, false))⟩,
   ⟨(some 54), (.load 3 (.tmp 53)), (some (43, false))⟩,
   ⟨(some 55), (.binOp .sub 3 (.tmp 49) (.tmp 54) 3), (some (43, false))⟩,
   ⟨(some 56), (.move (.tmp 0)), (some (43, false))⟩,
   ⟨(some 57), (.move (.tmp 7)), (some (43, false))⟩,
   ⟨(some 58), (.binOp .add 3 (.tmp 57) (.const (.int .i64 1)) 3), (some (43, false))⟩,
   ⟨(some 59), (.indexAddr 48 (.tmp 56) (.tmp 58)), (some (43, false))⟩,
   ⟨(some 60), (.fieldAddr 63 (.tmp 59) 1), (some (43, false))⟩,
   ⟨(some 61), (.load 3 (.tmp 60)), (some (43, false))⟩,
   ⟨(some 62), (.move (.tmp 0)), (some (43, false))⟩,
   ⟨(some 63), (.move (.tmp 7)), (some (43, false))⟩,
   ⟨(some 64), (.indexAddr 48 (.tmp 62) (.tmp 63)), (some (43, false))⟩,
   ⟨(some 65), (.fieldAddr 63 (.tmp 64) 1), (some (43, false))⟩,
   ⟨(some 66), (.load 3 (.tmp 65)), (some (43, false))⟩,
   ⟨(some 67), (.binOp .sub 3 (.tmp 61) (.tmp 66) 3), (some (43, false))⟩,
   ⟨(some 68), (.binOp .mul 3 (.tmp 55) (.tmp 67) 3), (some (43, false))⟩,
   ⟨(some 69), (.move (.tmp 0)), (some (43, false))⟩,
   ⟨(some 70), (.move (.tmp 7)), (some (43, false))⟩,
   ⟨(some 71), (.binOp .add 3 (.tmp 70) (.const (.int .i64 1)) 3), (some (43, false))⟩,
   ⟨(some 72), (.indexAddr 48 (.tmp 69) (.tmp 71)), (some (43, false))⟩,
   ⟨(some 73), (.fieldAddr 63 (.tmp 72) 2), (some (43, false))⟩,
   ⟨(some 74), (.load 3 (.tmp 73)), (some (43, false))⟩,
   ⟨(some 75), (.move (.tmp 0)), (some (43, false))⟩,
   ⟨(some 76), (.move (.tmp 7)), (some (43, false))⟩,
   ⟨(some 77), (.indexAddr 48 (.tmp 75) (.tmp 76)), (some (43, false))⟩,
   ⟨(some 78), (.fieldAddr 63 (.tmp 77) 2), (some (43, false))⟩,
   ⟨(some 79), (.load 3 (.tmp 78)), (some (43, false))⟩,
   ⟨(some 80), (.binOp .sub 3 (.tmp 74) (.tmp 79) 3), (some (43, false))⟩,
   ⟨(some 81), (.move (.tmp 0)), (some (43, false))⟩,
   ⟨(some 82), (.move (.tmp 8)), (some (43, false))⟩,
   ⟨(some 83), (.binOp .add 3 (.tmp 82) (.const (.int .i64 1)) 3), (some (43, false))⟩,
   ⟨(some 84), (.indexAddr 48 (.tmp 81) (.tmp 83)), (some (43, false))⟩,
   ⟨(some 85), (.fieldAddr 63 (.tmp 84) 1), (some (43, false))⟩,
   ⟨(some 86), (.load 3 (.tmp 85)), (some (43, false))⟩,
   ⟨(some 87), (.move (.tmp 0)), (some (43, false))⟩,
   ⟨(some 88), (.move (.tmp 8)), (some (43, false))⟩,
   ⟨(some 89), (.indexAddr 48 (.tmp 87) (.tmp 88)), (some (43, false))⟩,
   ⟨(some 90), (.fieldAddr 63 (.tmp 89) 1), (some (43, false))⟩,
   ⟨(some 91), (.load 3 (.tmp 90)), (some (43, false))⟩,
   ⟨(some 92), (.binOp .sub 3 (.tmp 86) (.tmp 91) 3), (some (43, false))⟩,
   ⟨(some 93), (.binOp .mul 3 (.tmp 80) (.tmp 92) 3), (some (43, false))⟩,
   ⟨(some 94), (.binOp .gtr 3 (.tmp 68) (.tmp 93) 3), (some (43, false))⟩,
   ⟨(some 95), (.pick (.tmp 43) (.const (.bool true)) (.tmp 94)), none⟩])
 (.cond (.tmp 95) (.reg [⟨(some 96), (.move (.tmp 8)), none⟩,
   ⟨(some 7), (.assign (.tmp 96)), none⟩]) .skip))))
 (.reg [⟨(some 22), (.move (.tmp 8)), none⟩,
   ⟨(some 23), (.binOp .add 3 (.tmp 22) (.const (.int .i64 1)) 3), none⟩,
   ⟨(some 8), (.assign (.tmp 23)), none⟩]))))))
 (.seq (.seq (.reg [⟨(some 97), (.move (.tmp 7)), none⟩,
   ⟨(some 98), (.binOp .lss 3 (.tmp 97) (.const (.int .i64 0)) 3), none⟩])
 (.cond (.tmp 98) (.seq (.reg [⟨(some 4), (.assign (.const (.int .i64 0))), none⟩,
   ⟨(some 5), (.assign (.const (.int .i64 0))), none⟩,
   ⟨(some 6), (.assign (.const (.bool false))), none⟩])
 .ret) .skip))
 (.seq (.regq [⟨(some 99), (.move (.tmp 0)), none⟩,
   ⟨(some 100), (.move (.tmp 7)), none⟩,
   ⟨(some 101), (.indexAddr 48 (.tmp 99) (.tmp 100)), none⟩,
   ⟨(some 102), (.fieldAddr 63 (.tmp 101) 1), none⟩,
   ⟨(some 103), (.load 3 (.tmp 102)), none⟩,
   ⟨(some 104), (.move (.tmp 0)), none⟩,
   ⟨(some 105), (.move (.tmp 7)), none⟩,
   ⟨(some 106), (.binOp .add 3 (.tmp 105) (.const (.int .i64 1)) 3), none⟩,
   ⟨(some 107), (.indexAddr 48 (.tmp 104) (.tmp 106)), none⟩,
   ⟨(some 108), (.fieldAddr 63 (.tmp 107) 1), none⟩,
   ⟨(some 109), (.load 3 (.tmp 108)), none⟩,
   ⟨(some 4), (.assign (.tmp 103)), none⟩,
   ⟨(some 5), (.assign (.tmp 109)), none⟩,
   ⟨(some 6), (.assign (.const (.bool true))), none⟩])
 .ret))))))
theorem x_impl_SteepestYears : Txt Tryd.prog 39 c_impl_SteepestYears [.tmp 4, .tmp 5, .tmp 6] 2 := ⟨by kernel_rfl, by kernel_rfl, _, _, Tryd.func39, rfl, by kernel_rfl, by kernel_rfl, by kernel_rfl, rfl, by decide⟩
/-- loop.example/g01062/spec.SteepestYears -/
def c_spec_SteepestYears : Cd :=
 (.seq (.reg [⟨(some 4), (.assign (.const (.int .i64 0))), none⟩,
   ⟨(some 5), (.assign (.const (.int .i64 0))), none⟩,
   ⟨(some 6), (.assign (.const (.bool false))), none⟩])
 (.seq (.seq (.reg [⟨(some 13), (.move (.tmp 0)), none⟩,
   ⟨(some 14), (.call (.mk (.value (.func 87)) #[(.tmp 13)] #[48])), none⟩,
   ⟨(some 15), (.unOp .not 4 (.tmp 14)), none⟩,
   ⟨(some 16), (.move (.tmp 15)), none⟩,
   ⟨(some 17), (.move (.tmp 1)), (some (16, false))⟩,
   ⟨(some 18), (.call (.mk (.value (.func 96)) #[(.tmp 17)] #[3])), (some (16, false))⟩,
   ⟨(some 19), (.unOp .not 4 (.tmp 18)), (some (16, false))⟩,
   ⟨(some 20), (.pick (.tmp 16) (.const (.bool true)) (.tmp 19)), none⟩])
 (.cond (.tmp 20) (.seq (.reg [⟨(some 4), (.assign (.const (.int .i64 0))), none⟩,
   ⟨(some 5), (.assign (.const (.int .i64 0))), none⟩,
   ⟨(some 6), (.assign (.const (.bool false))), none⟩])
 .ret) .skip))
 (.seq (.reg [⟨(some 7), (.assign (.const (.int .i64 0))), none⟩])
 (.seq (.seq (.reg [⟨(some 8), (.assign (.const (.int .i64 1))), none⟩])
 (.block 0 (.loop (.seq (.seq (.reg [⟨(some 21), (.move (.tmp 8)), none⟩,
   ⟨(some 22), (.move (.tmp 0)), none⟩,
   ⟨(some 23), (.call (.mk (.builtin .len) #[(.tmp 22)] #[48])), none⟩,
   ⟨(some 24), (.binOp .lss 3 (.tmp 21) (.tmp 23) 3), none⟩])
 (.cond (.tmp 24) .skip (.exit 0)))
 (.seq (.block 1 (.seq (.seq (.reg [⟨(some 27), (.move (.tmp 0)), none⟩,
   ⟨(some 28), (.move (.tmp 8)), none⟩,
   ⟨(some 29), (.indexAddr 48 (.tmp 27) (.tmp 28)), none⟩,
   ⟨(some 30), (.fieldAddr 63 (.tmp 29) 0), none⟩,
   ⟨(some 31), (.load 3 (.tmp 30)), none⟩,
   ⟨(some 32), (.move (.tmp 1)), none⟩,
   ⟨(some 33), (.binOp .neq 3 (.tmp 31) (.tmp 32) 3), none⟩,
   ⟨(some 34), (.move (.tmp 33)), none⟩,
   ⟨(some 35), (.move (.tmp 0)), (some (34, false))⟩,
   ⟨(some 36), (.move (.tmp 8)), (some (34, false))⟩,
   ⟨(some 37), (.binOp .sub 3 (.tmp 36) (.const (.int .i64 1)) 3), (some (34, false))⟩,
   ⟨(some 38), (.indexAddr 48 (.tmp 35) (.tmp 37)), (some (34, false))⟩,
   ⟨(some 39), (.fieldAddr 63 (.tmp 38) 0), (some (34, false))⟩,
   ⟨(some 40), (.load 3 (.tmp 39)), (some (34, false))⟩,
   ⟨(some 41), (.move (.tmp 1)), (some (34, false))⟩,
   ⟨(some 42), (.binOp .neq 3 (.tmp 40) (.tmp 41) 3), (some (34, false))⟩,
   ⟨(some 43), (.pick (.tmp 34) (.const (.bool true)) (.tmp 42)), none⟩])
 (.cond (.tmp 43) (.exit 1) .skip))
 (.seq (.seq (.reg [⟨(some 44), (.move (.tmp 7)), none⟩,
   ⟨(some 45), (.binOp .eql 3 (.tmp 44) (.const (.int .i64 0)) 3), none⟩])
 (.cond (.tmp 45) (.seq (.reg [⟨(some 46), (.move (.tmp 8)), none⟩,
   ⟨(some 7), (.assign (.tmp 46)), none⟩])
 (.exit 1)) .skip))
 (.seq (.regq [⟨(some 47), (.move (.tmp 0)), none⟩,
   ⟨(some 48), (.move (.tmp 8)), none⟩,
   ⟨(some 49), (.indexAddr 48 (.tmp 47) (.tmp 48)), none⟩,
   ⟨(some 50), (.fieldAddr 63 (.tmp 49) 2), none⟩,
   ⟨(some 51), (.load 3 (.tmp 50)), none⟩,
   ⟨(some 52), (.move (.tmp 0)), none⟩,
   ⟨(some 53), (.move (.tmp 8)), none⟩,
   ⟨(some 54), (.binOp .sub 3 (.tmp 53) (.const (.int .i64 1)) 3), none⟩,
   ⟨(some 55), (.indexAddr 48 (.tmp 52) (.tmp 54)), none⟩,
   ⟨(some 56), (.fieldAddr 63 (.tmp 55) 2), none⟩,
   ⟨(some 57), (.load 3 (.tmp 56)), none⟩,
   ⟨(some 58), (.binOp .sub 3 (.tmp 51) (.tmp 57) 3), none⟩,
   ⟨(some 59), (.move (.tmp 0)), none⟩,
   ⟨(some 60), (.move (.tmp 8)), none⟩,
   ⟨(some 61), (.indexAddr 48 (.tmp 59) (.tmp 60)), none⟩,
   ⟨(some 62), (.fieldAddr 63 (.tmp 61) 1), none⟩,
   ⟨(some 63), (.load 3 (.tmp 62)), none⟩,
   ⟨(some 64), (.move (.tmp 0)), none⟩,
   ⟨(some 65), (.move (.tmp 8)), none⟩,
   ⟨(some 66), (.binOp .sub 3 (.tmp 65) (.const (.int .i64 1)) 3), none⟩,
   ⟨(some 67), (.indexAddr 48 (.tmp 64) (.tmp 66)), none⟩,
   ⟨(some 68), (.fieldAddr 63 (.tmp 67) 1), none⟩,
   ⟨(some 69), (.load 3 (.tmp 68)), none⟩,
   ⟨(some 70), (.binOp .sub 3 (.tmp 63) (.tmp 69) 3), none⟩,
   ⟨(some 9), (.assign (.tmp 58)), none⟩,
   ⟨(some 10), (.assign (.tmp 70)), none⟩])
 (.seq (.regq [⟨(some 71), (.move (.tmp 0)), none⟩,
   ⟨(some 72), (.move (.tmp 7)), none⟩,
   ⟨(some 73), (.indexAddr 48 (.tmp 71) (.tmp 72)), none⟩,
   ⟨(some 74), (.fieldAddr 63 (.tmp 73) 2), none⟩,
   ⟨(some 75), (.load 3 (.tmp 74)), none⟩,
   ⟨(some 76), (.move (.tmp 0)), none⟩,
   ⟨(some 77), (.move (.tmp 7)), none⟩,
   ⟨(some 78), (.binOp .sub 3 (.tmp 77) (.const (.int .i64 1)) 3), none⟩,
   ⟨(some 79), (.indexAddr 48 (.tmp 76) (.tmp 78)), none⟩,
   ⟨(some 80), (.fieldAddr 63 (.tmp 79) 2), none⟩,
   ⟨(some 81), (.load 3 (.tmp 80)), none⟩,
   ⟨(some 82), (.binOp .sub 3 (.tmp 75) (.tmp 81) 3), none⟩,
   ⟨(some 83), (.move (.tmp 0)), none⟩,
   ⟨(some 84), (.move (.tmp 7)), none⟩,
   ⟨(some 85), (.indexAddr 48 (.tmp 83) (.tmp 84)), none⟩,
   ⟨(some 86), (.fieldAddr 63 (.tmp 85) 1), none⟩,
   ⟨(some 87), (.load 3 (.tmp 86)), none⟩,
   ⟨(some 88), (.move (.tmp 0)), none⟩,
   ⟨(some 89), (.move (.tmp 7)), none⟩,
   ⟨(some 90), (.binOp .sub 3 (.tmp 89) (.const (.int .i64 1)) 3), none⟩,
   ⟨(some 91), (.indexAddr 48 (.tmp 88) (.tmp 90)), none⟩,
   ⟨(some 92), (.fieldAddr 63 (.tmp 91) 1), none⟩,
   ⟨(some 93), (.load 3 (.tmp 92)), none⟩,
   ⟨(some 94), (.binOp .sub 3 (.tmp 87) (.tmp 93) 3), none⟩,
   ⟨(some 11), (.assign (.tmp 82)), none⟩,
   ⟨(some 12), (.assign (.tmp 94)), none⟩])
 (.seq (.reg [⟨(some 95), (.move (.tmp 9)), none⟩,
   ⟨(some 96), (.move (.tmp 12)), none⟩,
   ⟨(some 97), (.binOp .mul 3 (.tmp 95) (.tmp 96) 3), none⟩,
   ⟨(some 98), (.move (.tmp 11)), none⟩,
   ⟨(some 99), (.move (.tmp 10)), none⟩,
   ⟨(some 100), (.binOp .mul 3 (.tmp 98) (.tmp 99) 3), none⟩,
   ⟨(some 101), (.binOp .gtr 3 (.tmp 97) (.tmp 100) 3), none⟩])
 (.cond (.tmp 101) (.reg [⟨(some 102), (.move (.tmp 8)), none⟩,
   ⟨(some 7), (.assign (.tmp 102)), none⟩]) .skip)))))))
 (.reg [⟨(some 25), (.move (.tmp 8)), none⟩,
   ⟨(some 26), (.binOp .add 3 (.tmp 25) (.const (.int .i64 1)) 3), none⟩,
   ⟨(some 8), (.assign (.tmp 26)), none⟩]))))))
 (.seq (.seq (.reg [⟨(some 103), (.move (.tmp 7)), none⟩,
   ⟨(some 104), (.binOp .eql 3 (.tmp 103) (.const (.int .i64 0)) 3), none⟩])
 (.cond (.tmp 104) (.seq (.reg [⟨(some 4), (.assign (.const (.int .i64 0))), none⟩,
   ⟨(some 5), (.assign (.const (.int .i64 0))), none⟩,
   ⟨(some 6), (.assign (.const (.bool false))), none⟩])
 .ret) .skip))
 (.seq (.regq [⟨(some 105), (.move (.tmp 0)), none⟩,
   ⟨(some 106), (.move (.tmp 7)), none⟩,
   ⟨(some 107), (.binOp .sub 3 (.tmp 106) (.const (.int .i64 1)) 3), none⟩,
   ⟨(some 108), (.indexAddr 48 (.tmp 105) (.tmp 107)), none⟩,
   ⟨(some 109), (.fieldAddr 63 (.tmp 108) 1), none⟩,
   ⟨(some 110), (.load 3 (.tmp 109)), none⟩,
   ⟨(some 111), (.move (.tmp 0)), none⟩,
   ⟨(some 112), (.move (.tmp 7)), none⟩,
   ⟨(some 113), (.indexAddr 48 (.tmp 111) (.tmp 112)), none⟩,
   ⟨(some 114), (.fieldAddr 63 (.tmp 113) 1), none⟩,
   ⟨(some 115), (.load 3 (.tmp 114)), none⟩,
   ⟨(some 4), (.assign (.tmp 110)), none⟩,
   ⟨(some 5), (.assign (.tmp 115)), none⟩,
   ⟨(some 6), (.assign (.const (.bool true))), none⟩])
 .ret))))))
theorem x_spec_SteepestYears : Txt Tryd.prog 40 c_spec_SteepestYears [.tmp 4, .tmp 5, .tmp 6] 2 := ⟨by kernel_rfl, by kernel_rfl, _, _, Tryd.func40, rfl, by kernel_rfl, by kernel_rfl, by kernel_rfl, rfl, by decide⟩
/-- loop.example/g01062/spec.DrawPriceText -/
def c_spec_DrawPriceText : Cd :=
 (.seq (.reg [⟨(some 2), (.alloc 63), none⟩])
 (.seq (.reg [⟨(some 4), (.move (.tmp 0)), none⟩,
   ⟨(some 5), (.build 83 #[(0, (.tmp 4))]), none⟩,
   ⟨(some 6), (.box 83 (.tmp 5)), none⟩,
   ⟨(some 3), (.assign (.tmp 6)), none⟩])
 (.seq (.reg [⟨(some 7), (.move (.tmp 3)), none⟩,
   ⟨(some 8), (.move (.tmp 3)), none⟩,
   ⟨(some 9), (.buildSlice 30 3 #[(0, (.const (.int .i64 1))), (1, (.const (.int .i64 42))), (2, (.const (.int .i64 999)))]), none⟩,
   ⟨(some 10), (.call (.mk (.value (.func 64)) #[(.tmp 8), (.tmp 9)] #[80, 30])), none⟩,
   ⟨(some 11), (.move (.tmp 3)), none⟩,
   ⟨(some 12), (.buildSlice 30 3 #[(0, (.const (.int .i64 1840))), (1, (.const (.int .i64 1999))), (2, (.const (.int .i64 2100)))]), none⟩,
   ⟨(some 13), (.call (.mk (.value (.func 64)) #[(.tmp 11), (.tmp 12)] #[80, 30])), none⟩,
   ⟨(some 14), (.call (.mk (.value (.func 100)) #[(.tmp 7), (.tmp 10), (.tmp 13)] #[80, 3, 3])), none⟩,
   ⟨none, (.store 63 (.tmp 2) (.tmp 14)), none⟩])
 .ret)))
theorem x_spec_DrawPriceText : Txt Tryd.prog 41 c_spec_DrawPriceText [.cell 2 63] 1 := ⟨by kernel_rfl, by kernel_rfl, _, _, Tryd.func41, rfl, by kernel_rfl, by kernel_rfl, by kernel_rfl, rfl, by decide⟩
/-- loop.example/g01062/impl.PriceText -/
def c_impl_PriceText : Cd :=
 (.seq (.reg [⟨(some 1), (.box 63 (.tmp 0)), none⟩,
   ⟨(some 2), (.assign (.const (.string (ByteArray.mk #[])))), none⟩,
   ⟨(some 3), (.assign (.const (.bool false))), none⟩])
 (.seq (.seq (.reg [⟨(some 4), (.load 63 (.tmp 1)), none⟩,
   ⟨(some 5), (.call (.mk (.value (.func 101)) #[(.tmp 4)] #[63])), none⟩,
   ⟨(some 6), (.unOp .not 4 (.tmp 5)), none⟩])
 (.cond (.tmp 6) (.seq (.reg [⟨(some 2), (.assign (.const (.string (ByteArray.mk #[])))), none⟩,
   ⟨(some 3), (.assign (.const (.bool false))), none⟩])
 .ret) .skip))
 (.seq (.regq [⟨(some 7), (.fieldAddr 63 (.tmp 1) 0), none⟩,
   ⟨(some 8), (.load 3 (.tmp 7)), none⟩,
   ⟨(some 9), (.call (.mk (.value (.func 79)) #[(.tmp 8)] #[3])), none⟩,
   ⟨(some 10), (.binOp .add 9 (.const (.string (ByteArray.mk #[105]))) (.tmp 9) 9), none⟩,
   ⟨(some 11), (.binOp .add 9 (.tmp 10) (.const (.string (ByteArray.mk #[32]))) 9), none⟩,
   ⟨(some 12), (.fieldAddr 63 (.tmp 1) 1), none⟩,
   ⟨(some 13), (.load 3 (.tmp 12)), none⟩,
   ⟨(some 14), (.call (.mk (.value (.func 79)) #[(.tmp 13)] #[3])), none⟩,
   ⟨(some 15), (.binOp .add 9 (.tmp 11) (.tmp 14) 9), none⟩,
   ⟨(some 16), (.binOp .add 9 (.tmp 15) (.const (.string (ByteArray.mk #[58, 32]))) 9), none⟩,
   ⟨(some 17), (.fieldAddr 63 (.tmp 1) 2), none⟩,
   ⟨(some 18), (.load 3 (.tmp 17)), none⟩,
   ⟨(some 19), (.call (.mk (.value (.func 102)) #[(.tmp 18)] #[3])), none⟩,
   ⟨(some 20), (.binOp .add 9 (.tmp 16) (.tmp 19) 9), none⟩,
   ⟨(some 2), (.assign (.tmp 20)), none⟩,
   ⟨(some 3), (.assign (.const (.bool true))), none⟩])
 .ret)))
theorem x_impl_PriceText : Txt Tryd.prog 42 c_impl_PriceText [.tmp 2, .tmp 3] 1 := ⟨by kernel_rfl, by kernel_rfl, _, _, Tryd.func42, rfl, by kernel_rfl, by kernel_rfl, by kernel_rfl, rfl, by decide⟩
/-- loop.example/g01062/spec.PriceText -/
def c_spec_PriceText : Cd :=
 (.seq (.reg [⟨(some 1), (.box 63 (.tmp 0)), none⟩,
   ⟨(some 2), (.assign (.const (.string (ByteArray.mk #[])))), none⟩,
   ⟨(some 3), (.assign (.const (.bool false))), none⟩])
 (.seq (.seq (.reg [⟨(some 4), (.load 63 (.tmp 1)), none⟩,
   ⟨(some 5), (.call (.mk (.value (.func 103)) #[(.tmp 4)] #[63])), none⟩,
   ⟨(some 6), (.unOp .not 4 (.tmp 5)), none⟩])
 (.cond (.tmp 6) (.seq (.reg [⟨(some 2), (.assign (.const (.string (ByteArray.mk #[])))), none⟩,
   ⟨(some 3), (.assign (.const (.bool false))), none⟩])
 .ret) .skip))
 (.seq (.regq [⟨(some 7), (.fieldAddr 63 (.tmp 1) 0), none⟩,
   ⟨(some 8), (.load 3 (.tmp 7)), none⟩,
   ⟨(some 9), (.call (.mk (.value (.func 80)) #[(.tmp 8)] #[3])), none⟩,
   ⟨(some 10), (.binOp .add 9 (.const (.string (ByteArray.mk #[105]))) (.tmp 9) 9), none⟩,
   ⟨(some 11), (.binOp .add 9 (.tmp 10) (.const (.string (ByteArray.mk #[32]))) 9), none⟩,
   ⟨(some 12), (.fieldAddr 63 (.tmp 1) 1), none⟩,
   ⟨(some 13), (.load 3 (.tmp 12)), none⟩,
   ⟨(some 14), (.call (.mk (.value (.func 80)) #[(.tmp 13)] #[3])), none⟩,
   ⟨(some 15), (.binOp .add 9 (.tmp 11) (.tmp 14) 9), none⟩,
   ⟨(some 16), (.binOp .add 9 (.tmp 15) (.const (.string (ByteArray.mk #[58, 32]))) 9), none⟩,
   ⟨(some 17), (.fieldAddr 63 (.tmp 1) 2), none⟩,
   ⟨(some 18), (.load 3 (.tmp 17)), none⟩,
   ⟨(some 19), (.binOp .quo 3 (.tmp 18) (.const (.int .i64 100)) 3), none⟩,
   ⟨(some 20), (.call (.mk (.value (.func 80)) #[(.tmp 19)] #[3])), none⟩,
   ⟨(some 21), (.binOp .add 9 (.tmp 16) (.tmp 20) 9), none⟩,
   ⟨(some 22), (.binOp .add 9 (.tmp 21) (.const (.string (ByteArray.mk #[46]))) 9), none⟩,
   ⟨(some 23), (.fieldAddr 63 (.tmp 1) 2), none⟩,
   ⟨(some 24), (.load 3 (.tmp 23)), none⟩,
   ⟨(some 25), (.binOp .quo 3 (.tmp 24) (.const (.int .i64 10)) 3), none⟩,
   ⟨(some 26), (.binOp .rem 3 (.tmp 25) (.const (.int .i64 10)) 3), none⟩,
   ⟨(some 27), (.call (.mk (.value (.func 80)) #[(.tmp 26)] #[3])), none⟩,
   ⟨(some 28), (.binOp .add 9 (.tmp 22) (.tmp 27) 9), none⟩,
   ⟨(some 29), (.fieldAddr 63 (.tmp 1) 2), none⟩,
   ⟨(some 30), (.load 3 (.tmp 29)), none⟩,
   ⟨(some 31), (.binOp .rem 3 (.tmp 30) (.const (.int .i64 10)) 3), none⟩,
   ⟨(some 32), (.call (.mk (.value (.func 80)) #[(.tmp 31)] #[3])), none⟩,
   ⟨(some 33), (.binOp .add 9 (.tmp 28) (.tmp 32) 9), none⟩,
   ⟨(some 2), (.assign (.tmp 33)), none⟩,
   ⟨(some 3), (.assign (.const (.bool true))), none⟩])
 .ret)))
theorem x_spec_PriceText : Txt Tryd.prog 43 c_spec_PriceText [.tmp 2, .tmp 3] 1 := ⟨by kernel_rfl, by kernel_rfl, _, _, Tryd.func43, rfl, by kernel_rfl, by kernel_rfl, by kernel_rfl, rfl, by decide⟩
/-- (*loop.example/g01062/spec.l1Cur).among -/
def c_spec_l1Cur_among : Cd :=
 (.seq (.reg [⟨(some 4), (.assign (.const (.int .i64 0))), none⟩])
 (.seq (.reg [⟨(some 5), (.move (.tmp 1)), none⟩,
   ⟨(some 6), (.move (.tmp 0)), none⟩,
   ⟨(some 7), (.move (.tmp 1)), none⟩,
   ⟨(some 8), (.call (.mk (.builtin .len) #[(.tmp 7)] #[30])), none⟩,
   ⟨(some 9), (.call (.mk (.value (.func 65)) #[(.tmp 6), (.tmp 8)] #[80, 3])), none⟩,
   ⟨(some 10), (.indexAddr 30 (.tmp 5) (.tmp 9)), none⟩,
   ⟨(some 11), (.load 3 (.tmp 10)), none⟩,
   ⟨(some 4), (.assign (.tmp 11)), none⟩])
 .ret))
theorem x_spec_l1Cur_among : Txt Tryd.prog 64 c_spec_l1Cur_among [.tmp 4] 2 := ⟨by kernel_rfl, by kernel_rfl, _, _, Tryd.func64, rfl, by kernel_rfl, by kernel_rfl, by kernel_rfl, rfl, by decide⟩
/-- (*loop.example/g01062/spec.l1Cur).pick -/
def c_spec_l1Cur_pick : Cd :=
 (.seq (.reg [⟨(some 4), (.assign (.const (.int .i64 0))), none⟩])
 (.seq (.seq (.reg [⟨(some 6), (.move (.tmp 1)), none⟩,
   ⟨(some 7), (.binOp .leq 3 (.tmp 6) (.const (.int .i64 1)) 3), none⟩])
 (.cond (.tmp 7) (.seq (.reg [⟨(some 4), (.assign (.const (.int .i64 0))), none⟩])
 .ret) .skip))
 (.seq (.reg [⟨(some 8), (.move (.tmp 0)), none⟩,
   ⟨(some 9), (.call (.mk (.value (.func 124)) #[(.tmp 8)] #[80])), none⟩,
   ⟨(some 5), (.assign (.tmp 9)), none⟩])
 (.seq (.seq (.reg [⟨(some 10), (.move (.tmp 1)), none⟩,
   ⟨(some 11), (.binOp .gtr 3 (.tmp 10) (.const (.int .i64 200)) 3), none⟩])
 (.cond (.tmp 11) (.reg [⟨(some 12), (.move (.tmp 5)), none⟩,
   ⟨(some 13), (.binOp .mul 3 (.tmp 12) (.const (.int .i64 256)) 3), none⟩,
   ⟨(some 14), (.move (.tmp 0)), none⟩,
   ⟨(some 15), (.call (.mk (.value (.func 124)) #[(.tmp 14)] #[80])), none⟩,
   ⟨(some 16), (.binOp .add 3 (.tmp 13) (.tmp 15) 3), none⟩,
   ⟨(some 5), (.assign (.tmp 16)), none⟩]) .skip))
 (.seq (.reg [⟨(some 17), (.move (.tmp 5)), none⟩,
   ⟨(some 18), (.move (.tmp 1)), none⟩,
   ⟨(some 19), (.binOp .rem 3 (.tmp 17) (.tmp 18) 3), none⟩,
   ⟨(some 4), (.assign (.tmp 19)), none⟩])
 .ret)))))
theorem x_spec_l1Cur_pick : Txt Tryd.prog 65 c_spec_l1Cur_pick [.tmp 4] 2 := ⟨by kernel_rfl, by kernel_rfl, _, _, Tryd.func65, rfl, by kernel_rfl, by kernel_rfl, by kernel_rfl, rfl, by decide⟩
/-- (*loop.example/g01062/spec.l1Cur).one -/
def c_spec_l1Cur_one : Cd :=
 (.seq (.reg [⟨(some 4), (.assign (.const (.bool false))), none⟩])
 (.seq (.reg [⟨(some 5), (.move (.tmp 0)), none⟩,
   ⟨(some 6), (.move (.tmp 1)), none⟩,
   ⟨(some 7), (.call (.mk (.value (.func 65)) #[(.tmp 5), (.tmp 6)] #[80, 3])), none⟩,
   ⟨(some 8), (.binOp .eql 3 (.tmp 7) (.const (.int .i64 0)) 3), none⟩,
   ⟨(some 4), (.assign (.tmp 8)), none⟩])
 .ret))
theorem x_spec_l1Cur_one : Txt Tryd.prog 73 c_spec_l1Cur_one [.tmp 4] 2 := ⟨by kernel_rfl, by kernel_rfl, _, _, Tryd.func73, rfl, by kernel_rfl, by kernel_rfl, by kernel_rfl, rfl, by decide⟩
/-- loop.example/g01062/spec.l1Num -/
def c_spec_l1Num : Cd :=
 (.seq (.reg [⟨(some 2), (.assign (.const (.string (ByteArray.mk #[])))), none⟩])
 (.seq (.seq (.reg [⟨(some 3), (.move (.tmp 0)), none⟩,
   ⟨(some 4), (.binOp .lss 3 (.tmp 3) (.const (.int .i64 0)) 3), none⟩])
 (.cond (.tmp 4) (.seq (.reg [⟨(some 5), (.move (.tmp 0)), none⟩,
   ⟨(some 6), (.unOp .neg 3 (.tmp 5)), none⟩,
   ⟨(some 7), (.call (.mk (.value (.func 80)) #[(.tmp 6)] #[3])), none⟩,
   ⟨(some 8), (.binOp .add 9 (.const (.string (ByteArray.mk #[45]))) (.tmp 7) 9), none⟩,
   ⟨(some 2), (.assign (.tmp 8)), none⟩])
 .ret) .skip))
 (.seq (.seq (.reg [⟨(some 9), (.move (.tmp 0)), none⟩,
   ⟨(some 10), (.binOp .lss 3 (.tmp 9) (.const (.int .i64 10)) 3), none⟩])
 (.cond (.tmp 10) (.seq (.reg [⟨(some 11), (.move (.tmp 0)), none⟩,
   ⟨(some 12), (.move (.tmp 0)), none⟩,
   ⟨(some 13), (.binOp .add 3 (.tmp 12) (.const (.int .i64 1)) 3), none⟩,
   ⟨(some 14), (.slice 9 (.const (.string (ByteArray.mk #[48, 49, 50, 51, 52, 53, 54, 55, 56, 57]))) (some (.tmp 11)) (some (.tmp 13)) none), none⟩,
   ⟨(some 2), (.assign (.tmp 14)), none⟩])
 .ret) .skip))
 (.seq (.regq [⟨(some 15), (.move (.tmp 0)), none⟩,
   ⟨(some 16), (.binOp .quo 3 (.tmp 15) (.const (.int .i64 10)) 3), none⟩,
   ⟨(some 17), (.call (.mk (.value (.func 80)) #[(.tmp 16)] #[3])), none⟩,
   ⟨(some 18), (.move (.tmp 0)), none⟩,
   ⟨(some 19), (.binOp .rem 3 (.tmp 18) (.const (.int .i64 10)) 3), none⟩,
   ⟨(some 20), (.move (.tmp 0)), none⟩,
   ⟨(some 21), (.binOp .rem 3 (.tmp 20) (.const (.int .i64 10)) 3), none⟩,
   ⟨(some 22), (.binOp .add 3 (.tmp 21) (.const (.int .i64 1)) 3), none⟩,
   ⟨(some 23), (.slice 9 (.const (.string (ByteArray.mk #[48, 49, 50, 51, 52, 53, 54, 55, 56, 57]))) (some (.tmp 19)) (some (.tmp 22)) none), none⟩,
   ⟨(some 24), (.binOp .add 9 (.tmp 17) (.tmp 23) 9), none⟩,
   ⟨(some 2), (.assign (.tmp 24)), none⟩])
 .ret))))
theorem x_spec_l1Num : Txt Tryd.prog 80 c_spec_l1Num [.tmp 2] 1 := ⟨by kernel_rfl, by kernel_rfl, _, _, Tryd.func80, rfl, by kernel_rfl, by kernel_rfl, by kernel_rfl, rfl, by decide⟩
end Go.Proofs.YtnjlleopgjggpaaDoor
