/- The texts of the functions, edges struck, and closed facts on functions and types: written by program (gen.py). -/
import Derived.Test.YtnaldmmdhpobgaaD
import Derived.Test.YtnaldmmdhpobgaaProg
namespace Go.Proofs.Ytnaldmmdhpobgaa
open Go Go.RowKit Go.Proofs
/-- loop.example/g01062/laws.FnExchanges -/
def c_laws_FnExchanges : Cd :=
 (.seq (.reg [⟨(some 2), (.assign (.const (.bool false))), none⟩])
 (.seq (.seq (.reg [⟨(some 33), (.move (.tmp 0)), none⟩,
   ⟨(some 34), (.call (.mk (.value (.func 41)) #[(.tmp 33)] #[53])), none⟩])
 (.cond (.tmp 34) (.seq (.reg [⟨(some 2), (.assign (.const (.bool true))), none⟩])
 .ret) .skip))
 (.seq (.reg [⟨(some 36), (.move (.tmp 0)), none⟩,
   ⟨(some 37), (.call (.mk (.value (.func 42)) #[(.tmp 36)] #[53])), none⟩,
   ⟨(some 35), (.move (.tmp 37)), none⟩,
   ⟨(some 38), (.extract (.tmp 35) 0), none⟩,
   ⟨(some 39), (.extract (.tmp 35) 1), none⟩,
   ⟨(some 3), (.assign (.tmp 38)), none⟩,
   ⟨(some 4), (.assign (.tmp 39)), none⟩])
 (.seq (.reg [⟨(some 41), (.move (.tmp 3)), none⟩,
   ⟨(some 42), (.move (.tmp 4)), none⟩,
   ⟨(some 43), (.call (.mk (.value (.func 40)) #[(.tmp 41), (.tmp 42)] #[3, 27])), none⟩,
   ⟨(some 40), (.move (.tmp 43)), none⟩,
   ⟨(some 44), (.extract (.tmp 40) 0), none⟩,
   ⟨(some 45), (.extract (.tmp 40) 1), none⟩,
   ⟨(some 46), (.extract (.tmp 40) 2), none⟩,
   ⟨(some 5), (.assign (.tmp 44)), none⟩,
   ⟨(some 6), (.assign (.tmp 45)), none⟩,
   ⟨(some 7), (.assign (.tmp 46)), none⟩])
 (.seq (.seq (.reg [⟨(some 48), (.move (.tmp 3)), none⟩,
   ⟨(some 49), (.move (.tmp 4)), none⟩,
   ⟨(some 50), (.call (.mk (.value (.func 39)) #[(.tmp 48), (.tmp 49)] #[3, 27])), none⟩,
   ⟨(some 47), (.move (.tmp 50)), none⟩,
   ⟨(some 51), (.extract (.tmp 47) 0), none⟩,
   ⟨(some 52), (.extract (.tmp 47) 1), none⟩,
   ⟨(some 53), (.extract (.tmp 47) 2), none⟩,
   ⟨(some 8), (.assign (.tmp 51)), none⟩,
   ⟨(some 9), (.assign (.tmp 52)), none⟩,
   ⟨(some 10), (.assign (.tmp 53)), none⟩])
 (.seq (.reg [⟨(some 54), (.move (.tmp 7)), none⟩,
   ⟨(some 55), (.move (.tmp 10)), none⟩,
   ⟨(some 56), (.binOp .neq 4 (.tmp 54) (.tmp 55) 4), none⟩,
   ⟨(some 57), (.move (.tmp 56)), none⟩,
   ⟨(some 58), (.move (.tmp 6)), (some (57, false))⟩,
   ⟨(some 59), (.move (.tmp 9)), (some (57, false))⟩,
   ⟨(some 60), (.binOp .neq 3 (.tmp 58) (.tmp 59) 3), (some (57, false))⟩,
   ⟨(some 61), (.pick (.tmp 57) (.const (.bool true)) (.tmp 60)), none⟩,
   ⟨(some 62), (.move (.tmp 61)), none⟩,
   ⟨(some 63), (.move (.tmp 5)), (some (62, false))⟩,
   ⟨(some 64), (.move (.tmp 8)), (some (62, false))⟩,
   ⟨(some 65), (.call (.mk (.value (.func 43)) #[(.tmp 63), (.tmp 64)] #[33, 33])), (some (62, false))⟩,
   ⟨(some 66), (.unOp .not 4 (.tmp 65)), (some (62, false))⟩,
   ⟨(some 67), (.pick (.tmp 62) (.const (.bool true)) (.tmp 66)), none⟩])
 (.cond (.tmp 67) (.seq (.reg [⟨(some 2), (.assign (.const (.bool false))), none⟩])
 .ret) .skip)))
 (.seq (.reg [⟨(some 69), (.move (.tmp 3)), none⟩,
   ⟨(some 70), (.move (.tmp 4)), none⟩,
   ⟨(some 71), (.call (.mk (.value (.func 38)) #[(.tmp 69), (.tmp 70)] #[3, 27])), none⟩,
   ⟨(some 68), (.move (.tmp 71)), none⟩,
   ⟨(some 72), (.extract (.tmp 68) 0), none⟩,
   ⟨(some 73), (.extract (.tmp 68) 1), none⟩,
   ⟨(some 11), (.assign (.tmp 72)), none⟩,
   ⟨(some 12), (.assign (.tmp 73)), none⟩])
 (.seq (.seq (.reg [⟨(some 75), (.move (.tmp 3)), none⟩,
   ⟨(some 76), (.move (.tmp 4)), none⟩,
   ⟨(some 77), (.call (.mk (.value (.func 37)) #[(.tmp 75), (.tmp 76)] #[3, 27])), none⟩,
   ⟨(some 74), (.move (.tmp 77)), none⟩,
   ⟨(some 78), (.extract (.tmp 74) 0), none⟩,
   ⟨(some 79), (.extract (.tmp 74) 1), none⟩,
   ⟨(some 13), (.assign (.tmp 78)), none⟩,
   ⟨(some 14), (.assign (.tmp 79)), none⟩])
 (.seq (.reg [⟨(some 80), (.move (.tmp 11)), none⟩,
   ⟨(some 81), (.move (.tmp 13)), none⟩,
   ⟨(some 82), (.binOp .neq 3 (.tmp 80) (.tmp 81) 3), none⟩,
   ⟨(some 83), (.move (.tmp 82)), none⟩,
   ⟨(some 84), (.move (.tmp 12)), (some (83, false))⟩,
   ⟨(some 85), (.move (.tmp 14)), (some (83, false))⟩,
   ⟨(some 86), (.binOp .neq 4 (.tmp 84) (.tmp 85) 4), (some (83, false))⟩,
   ⟨(some 87), (.pick (.tmp 83) (.const (.bool true)) (.tmp 86)), none⟩,
   ⟨(some 88), (.move (.tmp 87)), none⟩,
   ⟨(some 89), (.move (.tmp 12)), (some (88, false))⟩,
   ⟨(some 90), (.move (.tmp 7)), (some (88, false))⟩,
   ⟨(some 91), (.binOp .neq 4 (.tmp 89) (.tmp 90) 4), (some (88, false))⟩,
   ⟨(some 92), (.pick (.tmp 88) (.const (.bool true)) (.tmp 91)), none⟩])
 (.cond (.tmp 92) (.seq (.reg [⟨(some 2), (.assign (.const (.bool false))), none⟩])
 .ret) .skip)))
 (.seq (.seq (.reg [⟨(some 93), (.move (.tmp 7)), none⟩])
 (.cond (.tmp 93) (.seq (.reg [⟨(some 95), (.move (.tmp 3)), none⟩,
   ⟨(some 96), (.move (.tmp 4)), none⟩,
   ⟨(some 97), (.move (.tmp 5)), none⟩,
   ⟨(some 98), (.call (.mk (.value (.func 34)) #[(.tmp 95), (.tmp 96), (.tmp 97)] #[3, 27, 33])), none⟩,
   ⟨(some 94), (.move (.tmp 98)), none⟩,
   ⟨(some 99), (.extract (.tmp 94) 0), none⟩,
   ⟨(some 100), (.extract (.tmp 94) 1), none⟩,
   ⟨(some 15), (.assign (.tmp 99)), none⟩,
   ⟨(some 16), (.assign (.tmp 100)), none⟩])
 (.seq (.reg [⟨(some 101), (.buildSlice 23 0 #[]), none⟩,
   ⟨(some 17), (.assign (.tmp 101)), none⟩,
   ⟨(some 18), (.assign (.const (.int .i64 0))), none⟩])
 (.seq (.seq (.reg [⟨(some 19), (.assign (.const (.int .i64 0))), none⟩])
 (.block 0 (.loop (.seq (.seq (.reg [⟨(some 102), (.move (.tmp 19)), none⟩,
   ⟨(some 103), (.move (.tmp 5)), none⟩,
   ⟨(some 104), (.call (.mk (.builtin .len) #[(.tmp 103)] #[33])), none⟩,
   ⟨(some 105), (.binOp .lss 3 (.tmp 102) (.tmp 104) 3), none⟩])
 (.cond (.tmp 105) .skip (.exit 0)))
 (.seq (.block 1 (.seq (.reg [⟨(some 109), (.move (.tmp 3)), none⟩,
   ⟨(some 110), (.move (.tmp 4)), none⟩,
   ⟨(some 111), (.move (.tmp 5)), none⟩,
   ⟨(some 112), (.move (.tmp 19)), none⟩,
   ⟨(some 113), (.indexAddr 33 (.tmp 111) (.tmp 112)), none⟩,
   ⟨(some 114), (.load 23 (.tmp 113)), none⟩,
   ⟨(some 115), (.call (.mk (.value (.func 16)) #[(.tmp 109), (.tmp 110), (.tmp 114)] #[3, 27, 23])), none⟩,
   ⟨(some 108), (.move (.tmp 115)), none⟩,
   ⟨(some 116), (.extract (.tmp 108) 0), none⟩,
   ⟨(some 117), (.extract (.tmp 108) 1), none⟩,
   ⟨(some 20), (.assign (.tmp 116)), none⟩,
   ⟨(some 21), (.assign (.tmp 117)), none⟩])
 (.seq (.seq (.reg [⟨(some 118), (.move (.tmp 21)), none⟩,
   ⟨(some 119), (.unOp .not 4 (.tmp 118)), none⟩])
 (.cond (.tmp 119) (.seq (.reg [⟨(some 2), (.assign (.const (.bool false))), none⟩])
 .ret) .skip))
 (.seq (.reg [⟨(some 120), (.move (.tmp 18)), none⟩,
   ⟨(some 121), (.move (.tmp 20)), none⟩,
   ⟨(some 122), (.binOp .add 3 (.tmp 120) (.tmp 121) 3), none⟩,
   ⟨(some 18), (.assign (.tmp 122)), none⟩])
 (.seq (.reg [⟨(some 22), (.assign (.const (.int .i64 0))), none⟩])
 (.block 2 (.loop (.seq (.seq (.reg [⟨(some 123), (.move (.tmp 22)), none⟩,
   ⟨(some 124), (.move (.tmp 5)), none⟩,
   ⟨(some 125), (.move (.tmp 19)), none⟩,
   ⟨(some 126), (.indexAddr 33 (.tmp 124) (.tmp 125)), none⟩,
   ⟨(some 127), (.load 23 (.tmp 126)), none⟩,
   ⟨(some 128), (.call (.mk (.builtin .len) #[(.tmp 127)] #[23])), none⟩,
   ⟨(some 129), (.binOp .lss 3 (.tmp 123) (.tmp 128) 3), none⟩])
 (.cond (.tmp 129) .skip (.exit 2)))
 (.seq (.block 3 (.seq (.seq (.reg [⟨(some 132), (.move (.tmp 17)), none⟩,
   ⟨(some 133), (.move (.tmp 5)), none⟩,
   ⟨(some 134), (.move (.tmp 19)), none⟩,
   ⟨(some 135), (.indexAddr 33 (.tmp 133) (.tmp 134)), none⟩,
   ⟨(some 136), (.load 23 (.tmp 135)), none⟩,
   ⟨(some 137), (.move (.tmp 22)), none⟩,
   ⟨(some 138), (.indexAddr 23 (.tmp 136) (.tmp 137)), none⟩,
   ⟨(some 139), (.load 3 (.tmp 138)), none⟩,
   ⟨(some 140), (.call (.mk (.value (.func 44)) #[(.tmp 132), (.tmp 139)] #[23, 3])), none⟩])
 (.cond (.tmp 140) (.seq (.reg [⟨(some 2), (.assign (.const (.bool false))), none⟩])
 .ret) .skip))
 (.reg [⟨(some 141), (.move (.tmp 17)), none⟩,
   ⟨(some 142), (.move (.tmp 5)), none⟩,
   ⟨(some 143), (.move (.tmp 19)), none⟩,
   ⟨(some 144), (.indexAddr 33 (.tmp 142) (.tmp 143)), none⟩,
   ⟨(some 145), (.load 23 (.tmp 144)), none⟩,
   ⟨(some 146), (.move (.tmp 22)), none⟩,
   ⟨(some 147), (.indexAddr 23 (.tmp 145) (.tmp 146)), none⟩,
   ⟨(some 148), (.load 3 (.tmp 147)), none⟩,
   ⟨(some 149), (.buildSlice 23 1 #[(0, (.tmp 148))]), none⟩,
   ⟨(some 150), (.call (.mk (.builtin .append) #[(.tmp 141), (.tmp 149)] #[23, 23])), none⟩,
   ⟨(some 17), (.assign (.tmp 150)), none⟩])))
 (.reg [⟨(some 130), (.move (.tmp 22)), none⟩,
   ⟨(some 131), (.binOp .add 3 (.tmp 130) (.const (.int .i64 1)) 3), none⟩,
   ⟨(some 22), (.assign (.tmp 131)), none⟩]))))))))))
 (.reg [⟨(some 106), (.move (.tmp 19)), none⟩,
   ⟨(some 107), (.binOp .add 3 (.tmp 106) (.const (.int .i64 1)) 3), none⟩,
   ⟨(some 19), (.assign (.tmp 107)), none⟩]))))))
 (.seq (.reg [⟨(some 152), (.move (.tmp 3)), none⟩,
   ⟨(some 153), (.move (.tmp 4)), none⟩,
   ⟨(some 154), (.call (.mk (.value (.func 30)) #[(.tmp 152), (.tmp 153)] #[3, 27])), none⟩,
   ⟨(some 151), (.move (.tmp 154)), none⟩,
   ⟨(some 155), (.extract (.tmp 151) 0), none⟩,
   ⟨(some 156), (.extract (.tmp 151) 1), none⟩,
   ⟨(some 157), (.extract (.tmp 151) 2), none⟩,
   ⟨(some 23), (.assign (.tmp 155)), none⟩,
   ⟨(some 24), (.assign (.tmp 156)), none⟩,
   ⟨(some 25), (.assign (.tmp 157)), none⟩])
 (.seq (.reg [⟨(some 158), (.move (.tmp 16)), none⟩,
   ⟨(some 159), (.unOp .not 4 (.tmp 158)), none⟩,
   ⟨(some 160), (.move (.tmp 159)), none⟩,
   ⟨(some 161), (.move (.tmp 15)), (some (160, false))⟩,
   ⟨(some 162), (.unOp .not 4 (.tmp 161)), (some (160, false))⟩,
   ⟨(some 163), (.pick (.tmp 160) (.const (.bool true)) (.tmp 162)), none⟩,
   ⟨(some 164), (.move (.tmp 163)), none⟩,
   ⟨(some 165), (.move (.tmp 18)), (some (164, false))⟩,
   ⟨(some 166), (.move (.tmp 6)), (some (164, false))⟩,
   ⟨(some 167), (.binOp .neq 3 (.tmp 165) (.tmp 166) 3), (some (164, false))⟩,
   ⟨(some 168), (.pick (.tmp 164) (.const (.bool true)) (.tmp 167)), none⟩,
   ⟨(some 169), (.move (.tmp 168)), none⟩,
   ⟨(some 170), (.move (.tmp 17)), (some (169, false))⟩,
   ⟨(some 171), (.call (.mk (.builtin .len) #[(.tmp 170)] #[23])), (some (169, false))⟩,
   ⟨(some 172), (.move (.tmp 11)), (some (169, false))⟩,
   ⟨(some 173), (.binOp .gtr 3 (.tmp 171) (.tmp 172) 3), (some (169, false))⟩,
   ⟨(some 174), (.pick (.tmp 169) (.const (.bool true)) (.tmp 173)), none⟩,
   ⟨(some 175), (.move (.tmp 174)), none⟩,
   ⟨(some 176), (.move (.tmp 11)), (some (175, false))⟩,
   ⟨(some 177), (.move (.tmp 3)), (some (175, false))⟩,
   ⟨(some 178), (.binOp .gtr 3 (.tmp 176) (.tmp 177) 3), (some (175, false))⟩,
   ⟨(some 179), (.pick (.tmp 175) (.const (.bool true)) (.tmp 178)), none⟩,
   ⟨(some 180), (.move (.tmp 179)), none⟩,
   ⟨(some 181), (.move (.tmp 25)), (some (180, false))⟩,
   ⟨(some 182), (.move (.tmp 181)), (some (180, false))⟩,
   ⟨(some 183), (.move (.tmp 24)), (some (182, true))⟩,
   ⟨(some 184), (.move (.tmp 6)), (some (182, true))⟩,
   ⟨(some 185), (.binOp .gtr 3 (.tmp 183) (.tmp 184) 3), (some (182, true))⟩,
   ⟨(some 186), (.pick (.tmp 182) (.tmp 185) (.const (.bool false))), (some (180, false))⟩,
   ⟨(some 187), (.pick (.tmp 180) (.const (.bool true)) (.tmp 186)), none⟩])
 (.cond (.tmp 187) (.seq (.reg [⟨(some 2), (.assign (.const (.bool false))), none⟩])
 .ret) .skip)))))) .skip))
 (.seq (.reg [⟨(some 189), (.move (.tmp 0)), none⟩,
   ⟨(some 190), (.call (.mk (.value (.func 45)) #[(.tmp 189)] #[53])), none⟩,
   ⟨(some 188), (.move (.tmp 190)), none⟩,
   ⟨(some 191), (.extract (.tmp 188) 0), none⟩,
   ⟨(some 192), (.extract (.tmp 188) 1), none⟩,
   ⟨(some 193), (.extract (.tmp 188) 2), none⟩,
   ⟨(some 26), (.assign (.tmp 191)), none⟩,
   ⟨(some 27), (.assign (.tmp 192)), none⟩,
   ⟨(some 28), (.assign (.tmp 193)), none⟩])
 (.seq (.reg [⟨(some 195), (.move (.tmp 26)), none⟩,
   ⟨(some 196), (.move (.tmp 27)), none⟩,
   ⟨(some 197), (.move (.tmp 28)), none⟩,
   ⟨(some 198), (.call (.mk (.value (.func 34)) #[(.tmp 195), (.tmp 196), (.tmp 197)] #[3, 27, 33])), none⟩,
   ⟨(some 194), (.move (.tmp 198)), none⟩,
   ⟨(some 199), (.extract (.tmp 194) 0), none⟩,
   ⟨(some 200), (.extract (.tmp 194) 1), none⟩,
   ⟨(some 29), (.assign (.tmp 199)), none⟩,
   ⟨(some 30), (.assign (.tmp 200)), none⟩])
 (.seq (.reg [⟨(some 202), (.move (.tmp 26)), none⟩,
   ⟨(some 203), (.move (.tmp 27)), none⟩,
   ⟨(some 204), (.move (.tmp 28)), none⟩,
   ⟨(some 205), (.call (.mk (.value (.func 32)) #[(.tmp 202), (.tmp 203), (.tmp 204)] #[3, 27, 33])), none⟩,
   ⟨(some 201), (.move (.tmp 205)), none⟩,
   ⟨(some 206), (.extract (.tmp 201) 0), none⟩,
   ⟨(some 207), (.extract (.tmp 201) 1), none⟩,
   ⟨(some 31), (.assign (.tmp 206)), none⟩,
   ⟨(some 32), (.assign (.tmp 207)), none⟩])
 (.seq (.reg [⟨(some 208), (.move (.tmp 29)), none⟩,
   ⟨(some 209), (.move (.tmp 31)), none⟩,
   ⟨(some 210), (.binOp .eql 4 (.tmp 208) (.tmp 209) 4), none⟩,
   ⟨(some 211), (.move (.tmp 210)), none⟩,
   ⟨(some 212), (.move (.tmp 30)), (some (211, true))⟩,
   ⟨(some 213), (.move (.tmp 32)), (some (211, true))⟩,
   ⟨(some 214), (.binOp .eql 4 (.tmp 212) (.tmp 213) 4), (some (211, true))⟩,
   ⟨(some 215), (.pick (.tmp 211) (.tmp 214) (.const (.bool false))), none⟩,
   ⟨(some 2), (.assign (.tmp 215)), none⟩])
 .ret))))))))))))
theorem x_laws_FnExchanges : Txt Try.prog 11 c_laws_FnExchanges [.tmp 2] 1 := ⟨by kernel_rfl, by kernel_rfl, _, _, Try.func11, rfl, by kernel_rfl, by kernel_rfl, by kernel_rfl, rfl, by decide⟩
/-- loop.example/g01062/laws.toWishS -/
def c_laws_toWishS : Cd :=
 (.seq (.reg [⟨(some 2), (.assign (.const (.slice none 0 0))), none⟩])
 (.seq (.reg [⟨(some 5), (.move (.tmp 0)), none⟩,
   ⟨(some 6), (.call (.mk (.builtin .len) #[(.tmp 5)] #[22])), none⟩,
   ⟨(some 7), (.makeSlice 27 (.tmp 6) (.tmp 6)), none⟩,
   ⟨(some 3), (.assign (.tmp 7)), none⟩])
 (.seq (.seq (.reg [⟨(some 4), (.assign (.const (.int .i64 0))), none⟩])
 (.block 0 (.loop (.seq (.seq (.reg [⟨(some 8), (.move (.tmp 4)), none⟩,
   ⟨(some 9), (.move (.tmp 0)), none⟩,
   ⟨(some 10), (.call (.mk (.builtin .len) #[(.tmp 9)] #[22])), none⟩,
   ⟨(some 11), (.binOp .lss 3 (.tmp 8) (.tmp 10) 3), none⟩])
 (.cond (.tmp 11) .skip (.exit 0)))
 (.seq (.block 1 (.reg [⟨(some 14), (.move (.tmp 3)), none⟩,
   ⟨(some 15), (.move (.tmp 4)), none⟩,
   ⟨(some 16), (.move (.tmp 0)), none⟩,
   ⟨(some 17), (.move (.tmp 4)), none⟩,
   ⟨(some 18), (.indexAddr 22 (.tmp 16) (.tmp 17)), none⟩,
   ⟨(some 19), (.load 65 (.tmp 18)), none⟩,
   ⟨(some 20), (.call (.mk (.value (.func 48)) #[(.tmp 19)] #[65])), none⟩,
   ⟨(some 21), (.indexAddr 27 (.tmp 14) (.tmp 15)), none⟩,
   ⟨none, (.store 63 (.tmp 21) (.tmp 20)), none⟩]))
 (.reg [⟨(some 12), (.move (.tmp 4)), none⟩,
   ⟨(some 13), (.binOp .add 3 (.tmp 12) (.const (.int .i64 1)) 3), none⟩,
   ⟨(some 4), (.assign (.tmp 13)), none⟩]))))))
 (.seq (.reg [⟨(some 22), (.move (.tmp 3)), none⟩,
   ⟨(some 2), (.assign (.tmp 22)), none⟩])
 .ret))))
theorem x_laws_toWishS : Txt Try.prog 14 c_laws_toWishS [.tmp 2] 1 := ⟨by kernel_rfl, by kernel_rfl, _, _, Try.func14, rfl, by kernel_rfl, by kernel_rfl, by kernel_rfl, rfl, by decide⟩
/-- loop.example/g01062/laws.toIntS -/
def c_laws_toIntS : Cd :=
 (.seq (.reg [⟨(some 2), (.assign (.const (.slice none 0 0))), none⟩])
 (.seq (.reg [⟨(some 5), (.move (.tmp 0)), none⟩,
   ⟨(some 6), (.call (.mk (.builtin .len) #[(.tmp 5)] #[23])), none⟩,
   ⟨(some 7), (.makeSlice 23 (.tmp 6) (.tmp 6)), none⟩,
   ⟨(some 3), (.assign (.tmp 7)), none⟩])
 (.seq (.seq (.reg [⟨(some 4), (.assign (.const (.int .i64 0))), none⟩])
 (.block 0 (.loop (.seq (.seq (.reg [⟨(some 8), (.move (.tmp 4)), none⟩,
   ⟨(some 9), (.move (.tmp 0)), none⟩,
   ⟨(some 10), (.call (.mk (.builtin .len) #[(.tmp 9)] #[23])), none⟩,
   ⟨(some 11), (.binOp .lss 3 (.tmp 8) (.tmp 10) 3), none⟩])
 (.cond (.tmp 11) .skip (.exit 0)))
 (.seq (.block 1 (.reg [⟨(some 14), (.move (.tmp 3)), none⟩,
   ⟨(some 15), (.move (.tmp 4)), none⟩,
   ⟨(some 16), (.move (.tmp 0)), none⟩,
   ⟨(some 17), (.move (.tmp 4)), none⟩,
   ⟨(some 18), (.indexAddr 23 (.tmp 16) (.tmp 17)), none⟩,
   ⟨(some 19), (.load 3 (.tmp 18)), none⟩,
   ⟨(some 20), (.indexAddr 23 (.tmp 14) (.tmp 15)), none⟩,
   ⟨none, (.store 3 (.tmp 20) (.tmp 19)), none⟩]))
 (.reg [⟨(some 12), (.move (.tmp 4)), none⟩,
   ⟨(some 13), (.binOp .add 3 (.tmp 12) (.const (.int .i64 1)) 3), none⟩,
   ⟨(some 4), (.assign (.tmp 13)), none⟩]))))))
 (.seq (.reg [⟨(some 21), (.move (.tmp 3)), none⟩,
   ⟨(some 2), (.assign (.tmp 21)), none⟩])
 .ret))))
theorem x_laws_toIntS : Txt Try.prog 15 c_laws_toIntS [.tmp 2] 1 := ⟨by kernel_rfl, by kernel_rfl, _, _, Try.func15, rfl, by kernel_rfl, by kernel_rfl, by kernel_rfl, rfl, by decide⟩
/-- loop.example/g01062/impl.GainOf -/
def c_impl_GainOf : Cd :=
 (.seq (.reg [⟨(some 6), (.assign (.const (.int .i64 0))), none⟩,
   ⟨(some 7), (.assign (.const (.bool false))), none⟩])
 (.seq (.seq (.reg [⟨(some 8), (.move (.tmp 0)), none⟩,
   ⟨(some 9), (.move (.tmp 1)), none⟩,
   ⟨(some 10), (.call (.mk (.value (.func 49)) #[(.tmp 8), (.tmp 9)] #[3, 27])), none⟩,
   ⟨(some 11), (.unOp .not 4 (.tmp 10)), none⟩,
   ⟨(some 12), (.move (.tmp 11)), none⟩,
   ⟨(some 13), (.move (.tmp 0)), (some (12, false))⟩,
   ⟨(some 14), (.move (.tmp 1)), (some (12, false))⟩,
   ⟨(some 15), (.move (.tmp 2)), (some (12, false))⟩,
   ⟨(some 16), (.call (.mk (.value (.func 50)) #[(.tmp 13), (.tmp 14), (.tmp 15)] #[3, 27, 23])), (some (12, false))⟩,
   ⟨(some 17), (.unOp .not 4 (.tmp 16)), (some (12, false))⟩,
   ⟨(some 18), (.pick (.tmp 12) (.const (.bool true)) (.tmp 17)), none⟩])
 (.cond (.tmp 18) (.seq (.reg [⟨(some 6), (.assign (.const (.int .i64 0))), none⟩,
   ⟨(some 7), (.assign (.const (.bool false))), none⟩])
 .ret) .skip))
 (.seq (.reg [⟨(some 19), (.move (.tmp 1)), none⟩,
   ⟨(some 20), (.move (.tmp 2)), none⟩,
   ⟨(some 21), (.call (.mk (.value (.func 51)) #[(.tmp 19), (.tmp 20)] #[27, 23])), none⟩,
   ⟨(some 6), (.assign (.tmp 21)), none⟩,
   ⟨(some 7), (.assign (.const (.bool true))), none⟩])
 .ret)))
theorem x_impl_GainOf : Txt Try.prog 16 c_impl_GainOf [.tmp 6, .tmp 7] 3 := ⟨by kernel_rfl, by kernel_rfl, _, _, Try.func16, rfl, by kernel_rfl, by kernel_rfl, by kernel_rfl, rfl, by decide⟩
/-- loop.example/g01062/laws.eqWishS -/
def c_laws_eqWishS : Cd :=
 (.seq (.reg [⟨(some 4), (.assign (.const (.bool false))), none⟩])
 (.seq (.seq (.reg [⟨(some 6), (.move (.tmp 0)), none⟩,
   ⟨(some 7), (.call (.mk (.builtin .len) #[(.tmp 6)] #[27])), none⟩,
   ⟨(some 8), (.move (.tmp 1)), none⟩,
   ⟨(some 9), (.call (.mk (.builtin .len) #[(.tmp 8)] #[27])), none⟩,
   ⟨(some 10), (.binOp .neq 3 (.tmp 7) (.tmp 9) 3), none⟩])
 (.cond (.tmp 10) (.seq (.reg [⟨(some 4), (.assign (.const (.bool false))), none⟩])
 .ret) .skip))
 (.seq (.seq (.reg [⟨(some 5), (.assign (.const (.int .i64 0))), none⟩])
 (.block 0 (.loop (.seq (.seq (.reg [⟨(some 11), (.move (.tmp 5)), none⟩,
   ⟨(some 12), (.move (.tmp 0)), none⟩,
   ⟨(some 13), (.call (.mk (.builtin .len) #[(.tmp 12)] #[27])), none⟩,
   ⟨(some 14), (.binOp .lss 3 (.tmp 11) (.tmp 13) 3), none⟩])
 (.cond (.tmp 14) .skip (.exit 0)))
 (.seq (.block 1 (.seq (.regq [⟨(some 17), (.move (.tmp 0)), none⟩,
   ⟨(some 18), (.move (.tmp 5)), none⟩,
   ⟨(some 19), (.indexAddr 27 (.tmp 17) (.tmp 18)), none⟩,
   ⟨(some 20), (.load 63 (.tmp 19)), none⟩,
   ⟨(some 21), (.move (.tmp 1)), none⟩,
   ⟨(some 22), (.move (.tmp 5)), none⟩,
   ⟨(some 23), (.indexAddr 27 (.tmp 21) (.tmp 22)), none⟩,
   ⟨(some 24), (.load 63 (.tmp 23)), none⟩,
   ⟨(some 25), (.call (.mk (.value (.func 52)) #[(.tmp 20), (.tmp 24)] #[63, 63])), none⟩,
   ⟨(some 26), (.unOp .not 4 (.tmp 25)), none⟩])
 (.cond (.tmp 26) (.seq (.reg [⟨(some 4), (.assign (.const (.bool false))), none⟩])
 .ret) .skip)))
 (.reg [⟨(some 15), (.move (.tmp 5)), none⟩,
   ⟨(some 16), (.binOp .add 3 (.tmp 15) (.const (.int .i64 1)) 3), none⟩,
   ⟨(some 5), (.assign (.tmp 16)), none⟩]))))))
 (.seq (.reg [⟨(some 4), (.assign (.const (.bool true))), none⟩])
 .ret))))
theorem x_laws_eqWishS : Txt Try.prog 17 c_laws_eqWishS [.tmp 4] 2 := ⟨by kernel_rfl, by kernel_rfl, _, _, Try.func17, rfl, by kernel_rfl, by kernel_rfl, by kernel_rfl, rfl, by decide⟩
/-- loop.example/g01062/laws.eqIntS -/
def c_laws_eqIntS : Cd :=
 (.seq (.reg [⟨(some 4), (.assign (.const (.bool false))), none⟩])
 (.seq (.seq (.reg [⟨(some 6), (.move (.tmp 0)), none⟩,
   ⟨(some 7), (.call (.mk (.builtin .len) #[(.tmp 6)] #[23])), none⟩,
   ⟨(some 8), (.move (.tmp 1)), none⟩,
   ⟨(some 9), (.call (.mk (.builtin .len) #[(.tmp 8)] #[23])), none⟩,
   ⟨(some 10), (.binOp .neq 3 (.tmp 7) (.tmp 9) 3), none⟩])
 (.cond (.tmp 10) (.seq (.reg [⟨(some 4), (.assign (.const (.bool false))), none⟩])
 .ret) .skip))
 (.seq (.seq (.reg [⟨(some 5), (.assign (.const (.int .i64 0))), none⟩])
 (.block 0 (.loop (.seq (.seq (.reg [⟨(some 11), (.move (.tmp 5)), none⟩,
   ⟨(some 12), (.move (.tmp 0)), none⟩,
   ⟨(some 13), (.call (.mk (.builtin .len) #[(.tmp 12)] #[23])), none⟩,
   ⟨(some 14), (.binOp .lss 3 (.tmp 11) (.tmp 13) 3), none⟩])
 (.cond (.tmp 14) .skip (.exit 0)))
 (.seq (.block 1 (.seq (.regq [⟨(some 17), (.move (.tmp 0)), none⟩,
   ⟨(some 18), (.move (.tmp 5)), none⟩,
   ⟨(some 19), (.indexAddr 23 (.tmp 17) (.tmp 18)), none⟩,
   ⟨(some 20), (.load 3 (.tmp 19)), none⟩,
   ⟨(some 21), (.move (.tmp 1)), none⟩,
   ⟨(some 22), (.move (.tmp 5)), none⟩,
   ⟨(some 23), (.indexAddr 23 (.tmp 21) (.tmp 22)), none⟩,
   ⟨(some 24), (.load 3 (.tmp 23)), none⟩,
   ⟨(some 25), (.binOp .neq 3 (.tmp 20) (.tmp 24) 3), none⟩])
 (.cond (.tmp 25) (.seq (.reg [⟨(some 4), (.assign (.const (.bool false))), none⟩])
 .ret) .skip)))
 (.reg [⟨(some 15), (.move (.tmp 5)), none⟩,
   ⟨(some 16), (.binOp .add 3 (.tmp 15) (.const (.int .i64 1)) 3), none⟩,
   ⟨(some 5), (.assign (.tmp 16)), none⟩]))))))
 (.seq (.reg [⟨(some 4), (.assign (.const (.bool true))), none⟩])
 .ret))))
theorem x_laws_eqIntS : Txt Try.prog 18 c_laws_eqIntS [.tmp 4] 2 := ⟨by kernel_rfl, by kernel_rfl, _, _, Try.func18, rfl, by kernel_rfl, by kernel_rfl, by kernel_rfl, rfl, by decide⟩
/-- loop.example/g01062/impl.CirclesOf -/
def c_impl_CirclesOf : Cd :=
 (.seq (.reg [⟨(some 6), (.assign (.const (.slice none 0 0))), none⟩,
   ⟨(some 7), (.assign (.const (.bool false))), none⟩])
 (.seq (.seq (.reg [⟨(some 9), (.move (.tmp 0)), none⟩,
   ⟨(some 10), (.move (.tmp 1)), none⟩,
   ⟨(some 11), (.call (.mk (.value (.func 49)) #[(.tmp 9), (.tmp 10)] #[3, 27])), none⟩,
   ⟨(some 12), (.unOp .not 4 (.tmp 11)), none⟩,
   ⟨(some 13), (.move (.tmp 12)), none⟩,
   ⟨(some 14), (.move (.tmp 2)), (some (13, false))⟩,
   ⟨(some 15), (.move (.tmp 0)), (some (13, false))⟩,
   ⟨(some 16), (.binOp .sub 3 (.tmp 15) (.const (.int .i64 1)) 3), (some (13, false))⟩,
   ⟨(some 17), (.call (.mk (.value (.func 55)) #[(.tmp 14), (.const (.int .i64 0)), (.tmp 16)] #[3, 3, 3])), (some (13, false))⟩,
   ⟨(some 18), (.unOp .not 4 (.tmp 17)), (some (13, false))⟩,
   ⟨(some 19), (.pick (.tmp 13) (.const (.bool true)) (.tmp 18)), none⟩])
 (.cond (.tmp 19) (.seq (.reg [⟨(some 6), (.assign (.const (.slice none 0 0))), none⟩,
   ⟨(some 7), (.assign (.const (.bool false))), none⟩])
 .ret) .skip))
 (.seq (.reg [⟨(some 20), (.move (.tmp 0)), none⟩,
   ⟨(some 21), (.move (.tmp 1)), none⟩,
   ⟨(some 22), (.move (.tmp 2)), none⟩,
   ⟨(some 23), (.call (.mk (.value (.func 56)) #[(.tmp 20), (.tmp 21), (.tmp 22)] #[3, 27, 3])), none⟩,
   ⟨(some 8), (.assign (.tmp 23)), none⟩])
 (.seq (.seq (.reg [⟨(some 24), (.move (.tmp 8)), none⟩,
   ⟨(some 25), (.call (.mk (.builtin .len) #[(.tmp 24)] #[33])), none⟩,
   ⟨(some 26), (.binOp .gtr 3 (.tmp 25) (.const (.int .i64 200)) 3), none⟩])
 (.cond (.tmp 26) (.seq (.reg [⟨(some 6), (.assign (.const (.slice none 0 0))), none⟩,
   ⟨(some 7), (.assign (.const (.bool false))), none⟩])
 .ret) .skip))
 (.seq (.reg [⟨(some 27), (.move (.tmp 8)), none⟩,
   ⟨(some 6), (.assign (.tmp 27)), none⟩,
   ⟨(some 7), (.assign (.const (.bool true))), none⟩])
 .ret)))))
theorem x_impl_CirclesOf : Txt Try.prog 20 c_impl_CirclesOf [.tmp 6, .tmp 7] 3 := ⟨by kernel_rfl, by kernel_rfl, _, _, Try.func20, rfl, by kernel_rfl, by kernel_rfl, by kernel_rfl, rfl, by decide⟩
/-- loop.example/g01062/laws.markWishS -/
def c_laws_markWishS : Cd :=
 (.seq (.reg [⟨(some 4), (.assign (.const (.int .i64 0))), none⟩])
 (.seq (.seq (.reg [⟨(some 5), (.assign (.const (.int .i64 0))), none⟩])
 (.block 0 (.loop (.seq (.seq (.reg [⟨(some 6), (.move (.tmp 5)), none⟩,
   ⟨(some 7), (.move (.tmp 0)), none⟩,
   ⟨(some 8), (.call (.mk (.builtin .len) #[(.tmp 7)] #[27])), none⟩,
   ⟨(some 9), (.binOp .lss 3 (.tmp 6) (.tmp 8) 3), none⟩])
 (.cond (.tmp 9) .skip (.exit 0)))
 (.seq (.block 1 (.seq (.reg [⟨(some 12), (.move (.tmp 0)), none⟩,
   ⟨(some 13), (.move (.tmp 5)), none⟩,
   ⟨(some 14), (.move (.tmp 1)), none⟩,
   ⟨(some 15), (.indexAddr 27 (.tmp 12) (.tmp 13)), none⟩,
   ⟨(some 16), (.fieldAddr 63 (.tmp 15) 0), none⟩,
   ⟨none, (.store 3 (.tmp 16) (.tmp 14)), none⟩])
 (.seq (.reg [⟨(some 17), (.move (.tmp 1)), none⟩,
   ⟨(some 18), (.binOp .add 3 (.tmp 17) (.const (.int .i64 1)) 3), none⟩,
   ⟨(some 1), (.assign (.tmp 18)), none⟩])
 (.seq (.reg [⟨(some 19), (.move (.tmp 0)), none⟩,
   ⟨(some 20), (.move (.tmp 5)), none⟩,
   ⟨(some 21), (.move (.tmp 1)), none⟩,
   ⟨(some 22), (.indexAddr 27 (.tmp 19) (.tmp 20)), none⟩,
   ⟨(some 23), (.fieldAddr 63 (.tmp 22) 1), none⟩,
   ⟨none, (.store 3 (.tmp 23) (.tmp 21)), none⟩])
 (.seq (.reg [⟨(some 24), (.move (.tmp 1)), none⟩,
   ⟨(some 25), (.binOp .add 3 (.tmp 24) (.const (.int .i64 1)) 3), none⟩,
   ⟨(some 1), (.assign (.tmp 25)), none⟩])
 (.seq (.reg [⟨(some 26), (.move (.tmp 0)), none⟩,
   ⟨(some 27), (.move (.tmp 5)), none⟩,
   ⟨(some 28), (.move (.tmp 1)), none⟩,
   ⟨(some 29), (.indexAddr 27 (.tmp 26) (.tmp 27)), none⟩,
   ⟨(some 30), (.fieldAddr 63 (.tmp 29) 2), none⟩,
   ⟨none, (.store 3 (.tmp 30) (.tmp 28)), none⟩])
 (.reg [⟨(some 31), (.move (.tmp 1)), none⟩,
   ⟨(some 32), (.binOp .add 3 (.tmp 31) (.const (.int .i64 1)) 3), none⟩,
   ⟨(some 1), (.assign (.tmp 32)), none⟩])))))))
 (.reg [⟨(some 10), (.move (.tmp 5)), none⟩,
   ⟨(some 11), (.binOp .add 3 (.tmp 10) (.const (.int .i64 1)) 3), none⟩,
   ⟨(some 5), (.assign (.tmp 11)), none⟩]))))))
 (.seq (.reg [⟨(some 33), (.move (.tmp 1)), none⟩,
   ⟨(some 4), (.assign (.tmp 33)), none⟩])
 .ret)))
theorem x_laws_markWishS : Txt Try.prog 22 c_laws_markWishS [.tmp 4] 2 := ⟨by kernel_rfl, by kernel_rfl, _, _, Try.func22, rfl, by kernel_rfl, by kernel_rfl, by kernel_rfl, rfl, by decide⟩
/-- loop.example/g01062/impl.ShortestCircle -/
def c_impl_ShortestCircle : Cd :=
 (.seq (.reg [⟨(some 4), (.assign (.const (.slice none 0 0))), none⟩,
   ⟨(some 5), (.assign (.const (.bool false))), none⟩])
 (.seq (.seq (.reg [⟨(some 9), (.move (.tmp 0)), none⟩,
   ⟨(some 10), (.move (.tmp 1)), none⟩,
   ⟨(some 11), (.call (.mk (.value (.func 49)) #[(.tmp 9), (.tmp 10)] #[3, 27])), none⟩,
   ⟨(some 12), (.unOp .not 4 (.tmp 11)), none⟩])
 (.cond (.tmp 12) (.seq (.reg [⟨(some 4), (.assign (.const (.slice none 0 0))), none⟩,
   ⟨(some 5), (.assign (.const (.bool false))), none⟩])
 .ret) .skip))
 (.seq (.reg [⟨(some 6), (.assign (.const (.slice none 0 0))), none⟩])
 (.seq (.seq (.reg [⟨(some 13), (.move (.tmp 0)), none⟩,
   ⟨(some 14), (.move (.tmp 1)), none⟩,
   ⟨(some 15), (.call (.mk (.value (.func 58)) #[(.tmp 13), (.tmp 14)] #[3, 27])), none⟩,
   ⟨(some 16), (.call (.mk (.builtin .len) #[(.tmp 15)] #[33])), none⟩,
   ⟨(some 17), (.move (.const (.int .i64 0))), none⟩])
 (.block 0 (.loop (.seq (.reg [⟨(some 18), (.binOp .lss 3 (.tmp 17) (.tmp 16) 3), none⟩])
 (.seq (.cond (.tmp 18) .skip (.exit 0))
 (.seq (.block 1 (.seq (.reg [⟨(some 19), (.indexAddr 33 (.tmp 15) (.tmp 17)), none⟩,
   ⟨(some 20), (.load 23 (.tmp 19)), none⟩,
   ⟨(some 8), (.assign (.tmp 20)), none⟩])
 (.seq (.reg [⟨(some 21), (.move (.tmp 6)), none⟩,
   ⟨(some 22), (.binOp .eql 23 (.tmp 21) (.const (.slice none 0 0)) 23), none⟩,
   ⟨(some 23), (.move (.tmp 22)), none⟩,
   ⟨(some 24), (.move (.tmp 8)), (some (23, false))⟩,
   ⟨(some 25), (.call (.mk (.builtin .len) #[(.tmp 24)] #[23])), (some (23, false))⟩,
   ⟨(some 26), (.move (.tmp 6)), (some (23, false))⟩,
   ⟨(some 27), (.call (.mk (.builtin .len) #[(.tmp 26)] #[23])), (some (23, false))⟩,
   ⟨(some 28), (.binOp .lss 3 (.tmp 25) (.tmp 27) 3), (some (23, false))⟩,
   ⟨(some 29), (.pick (.tmp 23) (.const (.bool true)) (.tmp 28)), none⟩])
 (.cond (.tmp 29) (.reg [⟨(some 30), (.move (.tmp 8)), none⟩,
   ⟨(some 6), (.assign (.tmp 30)), none⟩]) .skip))))
 (.reg [⟨(some 31), (.binOp .add 3 (.tmp 17) (.const (.int .i64 1)) 3), none⟩,
   ⟨(some 17), (.move (.tmp 31)), none⟩])))))))
 (.seq (.reg [⟨(some 32), (.move (.tmp 6)), none⟩,
   ⟨(some 33), (.move (.tmp 6)), none⟩,
   ⟨(some 34), (.binOp .neq 23 (.tmp 33) (.const (.slice none 0 0)) 23), none⟩,
   ⟨(some 4), (.assign (.tmp 32)), none⟩,
   ⟨(some 5), (.assign (.tmp 34)), none⟩])
 .ret)))))
theorem x_impl_ShortestCircle : Txt Try.prog 26 c_impl_ShortestCircle [.tmp 4, .tmp 5] 2 := ⟨by kernel_rfl, by kernel_rfl, _, _, Try.func26, rfl, by kernel_rfl, by kernel_rfl, by kernel_rfl, rfl, by decide⟩
/-- loop.example/g01062/laws.markIntS -/
def c_laws_markIntS : Cd :=
 (.seq (.reg [⟨(some 4), (.assign (.const (.int .i64 0))), none⟩])
 (.seq (.seq (.reg [⟨(some 5), (.assign (.const (.int .i64 0))), none⟩])
 (.block 0 (.loop (.seq (.seq (.reg [⟨(some 6), (.move (.tmp 5)), none⟩,
   ⟨(some 7), (.move (.tmp 0)), none⟩,
   ⟨(some 8), (.call (.mk (.builtin .len) #[(.tmp 7)] #[23])), none⟩,
   ⟨(some 9), (.binOp .lss 3 (.tmp 6) (.tmp 8) 3), none⟩])
 (.cond (.tmp 9) .skip (.exit 0)))
 (.seq (.block 1 (.seq (.reg [⟨(some 12), (.move (.tmp 0)), none⟩,
   ⟨(some 13), (.move (.tmp 5)), none⟩,
   ⟨(some 14), (.move (.tmp 1)), none⟩,
   ⟨(some 15), (.indexAddr 23 (.tmp 12) (.tmp 13)), none⟩,
   ⟨none, (.store 3 (.tmp 15) (.tmp 14)), none⟩])
 (.reg [⟨(some 16), (.move (.tmp 1)), none⟩,
   ⟨(some 17), (.binOp .add 3 (.tmp 16) (.const (.int .i64 1)) 3), none⟩,
   ⟨(some 1), (.assign (.tmp 17)), none⟩])))
 (.reg [⟨(some 10), (.move (.tmp 5)), none⟩,
   ⟨(some 11), (.binOp .add 3 (.tmp 10) (.const (.int .i64 1)) 3), none⟩,
   ⟨(some 5), (.assign (.tmp 11)), none⟩]))))))
 (.seq (.reg [⟨(some 18), (.move (.tmp 1)), none⟩,
   ⟨(some 4), (.assign (.tmp 18)), none⟩])
 .ret)))
theorem x_laws_markIntS : Txt Try.prog 27 c_laws_markIntS [.tmp 4] 2 := ⟨by kernel_rfl, by kernel_rfl, _, _, Try.func27, rfl, by kernel_rfl, by kernel_rfl, by kernel_rfl, rfl, by decide⟩
/-- loop.example/g01062/laws.heldIntS -/
def c_laws_heldIntS : Cd :=
 (.seq (.reg [⟨(some 4), (.assign (.const (.int .i64 0))), none⟩])
 (.seq (.seq (.reg [⟨(some 5), (.assign (.const (.int .i64 0))), none⟩])
 (.block 0 (.loop (.seq (.seq (.reg [⟨(some 6), (.move (.tmp 5)), none⟩,
   ⟨(some 7), (.move (.tmp 0)), none⟩,
   ⟨(some 8), (.call (.mk (.builtin .len) #[(.tmp 7)] #[23])), none⟩,
   ⟨(some 9), (.binOp .lss 3 (.tmp 6) (.tmp 8) 3), none⟩])
 (.cond (.tmp 9) .skip (.exit 0)))
 (.seq (.block 1 (.seq (.seq (.reg [⟨(some 12), (.move (.tmp 0)), none⟩,
   ⟨(some 13), (.move (.tmp 5)), none⟩,
   ⟨(some 14), (.indexAddr 23 (.tmp 12) (.tmp 13)), none⟩,
   ⟨(some 15), (.load 3 (.tmp 14)), none⟩,
   ⟨(some 16), (.move (.tmp 1)), none⟩,
   ⟨(some 17), (.binOp .neq 3 (.tmp 15) (.tmp 16) 3), none⟩])
 (.cond (.tmp 17) (.seq (.reg [⟨(some 4), (.assign (.const (.int .i64 (-1)))), none⟩])
 .ret) .skip))
 (.reg [⟨(some 18), (.move (.tmp 1)), none⟩,
   ⟨(some 19), (.binOp .add 3 (.tmp 18) (.const (.int .i64 1)) 3), none⟩,
   ⟨(some 1), (.assign (.tmp 19)), none⟩])))
 (.reg [⟨(some 10), (.move (.tmp 5)), none⟩,
   ⟨(some 11), (.binOp .add 3 (.tmp 10) (.const (.int .i64 1)) 3), none⟩,
   ⟨(some 5), (.assign (.tmp 11)), none⟩]))))))
 (.seq (.reg [⟨(some 20), (.move (.tmp 1)), none⟩,
   ⟨(some 4), (.assign (.tmp 20)), none⟩])
 .ret)))
theorem x_laws_heldIntS : Txt Try.prog 28 c_laws_heldIntS [.tmp 4] 2 := ⟨by kernel_rfl, by kernel_rfl, _, _, Try.func28, rfl, by kernel_rfl, by kernel_rfl, by kernel_rfl, rfl, by decide⟩
/-- loop.example/g01062/impl.BestCircle -/
def c_impl_BestCircle : Cd :=
 (.seq (.reg [⟨(some 4), (.assign (.const (.slice none 0 0))), none⟩,
   ⟨(some 5), (.assign (.const (.int .i64 0))), none⟩,
   ⟨(some 6), (.assign (.const (.bool false))), none⟩])
 (.seq (.seq (.reg [⟨(some 12), (.move (.tmp 0)), none⟩,
   ⟨(some 13), (.move (.tmp 1)), none⟩,
   ⟨(some 14), (.call (.mk (.value (.func 49)) #[(.tmp 12), (.tmp 13)] #[3, 27])), none⟩,
   ⟨(some 15), (.unOp .not 4 (.tmp 14)), none⟩])
 (.cond (.tmp 15) (.seq (.reg [⟨(some 4), (.assign (.const (.slice none 0 0))), none⟩,
   ⟨(some 5), (.assign (.const (.int .i64 0))), none⟩,
   ⟨(some 6), (.assign (.const (.bool false))), none⟩])
 .ret) .skip))
 (.seq (.reg [⟨(some 7), (.assign (.const (.slice none 0 0))), none⟩])
 (.seq (.reg [⟨(some 8), (.assign (.const (.int .i64 0))), none⟩])
 (.seq (.seq (.reg [⟨(some 16), (.move (.tmp 0)), none⟩,
   ⟨(some 17), (.move (.tmp 1)), none⟩,
   ⟨(some 18), (.call (.mk (.value (.func 58)) #[(.tmp 16), (.tmp 17)] #[3, 27])), none⟩,
   ⟨(some 19), (.call (.mk (.builtin .len) #[(.tmp 18)] #[33])), none⟩,
   ⟨(some 20), (.move (.const (.int .i64 0))), none⟩])
 (.block 0 (.loop (.seq (.reg [⟨(some 21), (.binOp .lss 3 (.tmp 20) (.tmp 19) 3), none⟩])
 (.seq (.cond (.tmp 21) .skip (.exit 0))
 (.seq (.block 1 (.seq (.reg [⟨(some 22), (.indexAddr 33 (.tmp 18) (.tmp 20)), none⟩,
   ⟨(some 23), (.load 23 (.tmp 22)), none⟩,
   ⟨(some 10), (.assign (.tmp 23)), none⟩])
 (.seq (.reg [⟨(some 24), (.move (.tmp 1)), none⟩,
   ⟨(some 25), (.move (.tmp 10)), none⟩,
   ⟨(some 26), (.call (.mk (.value (.func 51)) #[(.tmp 24), (.tmp 25)] #[27, 23])), none⟩,
   ⟨(some 11), (.assign (.tmp 26)), none⟩])
 (.seq (.reg [⟨(some 27), (.move (.tmp 7)), none⟩,
   ⟨(some 28), (.binOp .eql 23 (.tmp 27) (.const (.slice none 0 0)) 23), none⟩,
   ⟨(some 29), (.move (.tmp 28)), none⟩,
   ⟨(some 30), (.move (.tmp 11)), (some (29, false))⟩,
   ⟨(some 31), (.move (.tmp 8)), (some (29, false))⟩,
   ⟨(some 32), (.binOp .gtr 3 (.tmp 30) (.tmp 31) 3), (some (29, false))⟩,
   ⟨(some 33), (.pick (.tmp 29) (.const (.bool true)) (.tmp 32)), none⟩,
   ⟨(some 34), (.move (.tmp 33)), none⟩,
   ⟨(some 35), (.move (.tmp 11)), (some (34, false))⟩,
   ⟨(some 36), (.move (.tmp 8)), (some (34, false))⟩,
   ⟨(some 37), (.binOp .eql 3 (.tmp 35) (.tmp 36) 3), (some (34, false))⟩,
   ⟨(some 38), (.move (.tmp 37)), (some (34, false))⟩,
   ⟨(some 39), (.move (.tmp 10)), (some (38, true))⟩,
   ⟨(some 40), (.call (.mk (.builtin .len) #[(.tmp 39)] #[23])), (some (38, true))⟩,
   ⟨(some 41), (.move (.tmp 7)), (some (38, true))⟩,
   ⟨(some 42), (.call (.mk (.builtin .len) #[(.tmp 41)] #[23])), (some (38, true))⟩,
   ⟨(some 43), (.binOp .lss 3 (.tmp 40) (.tmp 42) 3), (some (38, true))⟩,
   ⟨(some 44), (.pick (.tmp 38) (.tmp 43) (.const (.bool false))), (some (34, false))⟩,
   ⟨(some 45), (.pick (.tmp 34) (.const (.bool true)) (.tmp 44)), none⟩])
 (.cond (.tmp 45) (.reg [⟨(some 46), (.move (.tmp 10)), none⟩,
   ⟨(some 47), (.move (.tmp 11)), none⟩,
   ⟨(some 7), (.assign (.tmp 46)), none⟩,
   ⟨(some 8), (.assign (.tmp 47)), none⟩]) .skip)))))
 (.reg [⟨(some 48), (.binOp .add 3 (.tmp 20) (.const (.int .i64 1)) 3), none⟩,
   ⟨(some 20), (.move (.tmp 48)), none⟩])))))))
 (.seq (.reg [⟨(some 49), (.move (.tmp 7)), none⟩,
   ⟨(some 50), (.move (.tmp 8)), none⟩,
   ⟨(some 51), (.move (.tmp 7)), none⟩,
   ⟨(some 52), (.binOp .neq 23 (.tmp 51) (.const (.slice none 0 0)) 23), none⟩,
   ⟨(some 4), (.assign (.tmp 49)), none⟩,
   ⟨(some 5), (.assign (.tmp 50)), none⟩,
   ⟨(some 6), (.assign (.tmp 52)), none⟩])
 .ret))))))
theorem x_impl_BestCircle : Txt Try.prog 30 c_impl_BestCircle [.tmp 4, .tmp 5, .tmp 6] 2 := ⟨by kernel_rfl, by kernel_rfl, _, _, Try.func30, rfl, by kernel_rfl, by kernel_rfl, by kernel_rfl, rfl, by decide⟩
/-- loop.example/g01062/laws.szIntSS -/
def c_laws_szIntSS : Cd :=
 (.seq (.reg [⟨(some 4), (.assign (.const (.int .i64 0))), none⟩])
 (.seq (.reg [⟨(some 6), (.move (.tmp 1)), none⟩,
   ⟨(some 7), (.move (.tmp 0)), none⟩,
   ⟨(some 8), (.call (.mk (.builtin .len) #[(.tmp 7)] #[33])), none⟩,
   ⟨(some 9), (.binOp .sub 3 (.tmp 6) (.tmp 8) 3), none⟩,
   ⟨(some 1), (.assign (.tmp 9)), none⟩])
 (.seq (.seq (.reg [⟨(some 10), (.move (.tmp 1)), none⟩,
   ⟨(some 11), (.binOp .lss 3 (.tmp 10) (.const (.int .i64 0)) 3), none⟩])
 (.cond (.tmp 11) (.seq (.reg [⟨(some 4), (.assign (.const (.int .i64 (-1)))), none⟩])
 .ret) .skip))
 (.seq (.seq (.reg [⟨(some 5), (.assign (.const (.int .i64 0))), none⟩])
 (.block 0 (.loop (.seq (.seq (.reg [⟨(some 12), (.move (.tmp 5)), none⟩,
   ⟨(some 13), (.move (.tmp 0)), none⟩,
   ⟨(some 14), (.call (.mk (.builtin .len) #[(.tmp 13)] #[33])), none⟩,
   ⟨(some 15), (.binOp .lss 3 (.tmp 12) (.tmp 14) 3), none⟩])
 (.cond (.tmp 15) .skip (.exit 0)))
 (.seq (.block 1 (.seq (.reg [⟨(some 18), (.move (.tmp 0)), none⟩,
   ⟨(some 19), (.move (.tmp 5)), none⟩,
   ⟨(some 20), (.indexAddr 33 (.tmp 18) (.tmp 19)), none⟩,
   ⟨(some 21), (.load 23 (.tmp 20)), none⟩,
   ⟨(some 22), (.move (.tmp 1)), none⟩,
   ⟨(some 23), (.call (.mk (.value (.func 59)) #[(.tmp 21), (.tmp 22)] #[23, 3])), none⟩,
   ⟨(some 1), (.assign (.tmp 23)), none⟩])
 (.seq (.reg [⟨(some 24), (.move (.tmp 1)), none⟩,
   ⟨(some 25), (.binOp .lss 3 (.tmp 24) (.const (.int .i64 0)) 3), none⟩])
 (.cond (.tmp 25) (.seq (.reg [⟨(some 4), (.assign (.const (.int .i64 (-1)))), none⟩])
 .ret) .skip))))
 (.reg [⟨(some 16), (.move (.tmp 5)), none⟩,
   ⟨(some 17), (.binOp .add 3 (.tmp 16) (.const (.int .i64 1)) 3), none⟩,
   ⟨(some 5), (.assign (.tmp 17)), none⟩]))))))
 (.seq (.reg [⟨(some 26), (.move (.tmp 1)), none⟩,
   ⟨(some 4), (.assign (.tmp 26)), none⟩])
 .ret)))))
theorem x_laws_szIntSS : Txt Try.prog 31 c_laws_szIntSS [.tmp 4] 2 := ⟨by kernel_rfl, by kernel_rfl, _, _, Try.func31, rfl, by kernel_rfl, by kernel_rfl, by kernel_rfl, rfl, by decide⟩
/-- loop.example/g01062/spec.IsExchange -/
def c_spec_IsExchange : Cd :=
 (.seq (.reg [⟨(some 6), (.assign (.const (.bool false))), none⟩,
   ⟨(some 7), (.assign (.const (.bool false))), none⟩])
 (.seq (.seq (.reg [⟨(some 10), (.move (.tmp 0)), none⟩,
   ⟨(some 11), (.move (.tmp 1)), none⟩,
   ⟨(some 12), (.call (.mk (.value (.func 46)) #[(.tmp 10), (.tmp 11)] #[3, 27])), none⟩,
   ⟨(some 13), (.unOp .not 4 (.tmp 12)), none⟩])
 (.cond (.tmp 13) (.seq (.reg [⟨(some 6), (.assign (.const (.bool false))), none⟩,
   ⟨(some 7), (.assign (.const (.bool false))), none⟩])
 .ret) .skip))
 (.seq (.seq (.reg [⟨(some 8), (.assign (.const (.int .i64 0))), none⟩])
 (.block 0 (.loop (.seq (.seq (.reg [⟨(some 14), (.move (.tmp 8)), none⟩,
   ⟨(some 15), (.move (.tmp 2)), none⟩,
   ⟨(some 16), (.call (.mk (.builtin .len) #[(.tmp 15)] #[33])), none⟩,
   ⟨(some 17), (.binOp .lss 3 (.tmp 14) (.tmp 16) 3), none⟩,
   ⟨(some 18), (.move (.tmp 17)), none⟩,
   ⟨(some 19), (.move (.tmp 8)), (some (18, true))⟩,
   ⟨(some 20), (.move (.tmp 0)), (some (18, true))⟩,
   ⟨(some 21), (.binOp .leq 3 (.tmp 19) (.tmp 20) 3), (some (18, true))⟩,
   ⟨(some 22), (.pick (.tmp 18) (.tmp 21) (.const (.bool false))), none⟩])
 (.cond (.tmp 22) .skip (.exit 0)))
 (.seq (.block 1 (.seq (.seq (.regq [⟨(some 25), (.move (.tmp 0)), none⟩,
   ⟨(some 26), (.move (.tmp 1)), none⟩,
   ⟨(some 27), (.move (.tmp 2)), none⟩,
   ⟨(some 28), (.move (.tmp 8)), none⟩,
   ⟨(some 29), (.indexAddr 33 (.tmp 27) (.tmp 28)), none⟩,
   ⟨(some 30), (.load 23 (.tmp 29)), none⟩,
   ⟨(some 31), (.call (.mk (.value (.func 47)) #[(.tmp 25), (.tmp 26), (.tmp 30)] #[3, 27, 23])), none⟩,
   ⟨(some 32), (.binOp .eql 3 (.tmp 31) (.const (.int .i64 0)) 3), none⟩,
   ⟨(some 33), (.move (.tmp 32)), none⟩,
   ⟨(some 34), (.move (.tmp 8)), (some (33, false))⟩,
   ⟨(some 35), (.binOp .gtr 3 (.tmp 34) (.const (.int .i64 0)) 3), (some (33, false))⟩,
   ⟨(some 36), (.move (.tmp 35)), (some (33, false))⟩,
   ⟨(some 37), (.move (.tmp 2)), (some (36, true))⟩,
   ⟨(some 38), (.move (.tmp 8)), (some (36, true))⟩,
   ⟨(some 39), (.binOp .sub 3 (.tmp 38) (.const (.int .i64 1)) 3), (some (36, true))⟩,
   ⟨(some 40), (.indexAddr 33 (.tmp 37) (.tmp 39)), (some (36, true))⟩,
   ⟨(some 41), (.load 23 (.tmp 40)), (some (36, true))⟩,
   ⟨(some 42), (.indexAddr 23 (.tmp 41) (.const (.int .i64 0))), (some (36, true))⟩,
   ⟨(some 43), (.load 3 (.tmp 42)), (some (36, true))⟩,
   ⟨(some 44), (.move (.tmp 2)), (some (36, true))⟩,
   ⟨(some 45), (.move (.tmp 8)), (some (36, true))⟩,
   ⟨(some 46), (.indexAddr 33 (.tmp 44) (.tmp 45)), (some (36, true))⟩,
   ⟨(some 47), (.load 23 (.tmp 46)), (some (36, true))⟩,
   ⟨(some 48), (.indexAddr 23 (.tmp 47) (.const (.int .i64 0))), (some (36, true))⟩,
   ⟨(some 49), (.load 3 (.tmp 48)), (some (36, true))⟩,
   ⟨(some 50), (.binOp .geq 3 (.tmp 43) (.tmp 49) 3), (some (36, true))⟩,
   ⟨(some 51), (.pick (.tmp 36) (.tmp 50) (.const (.bool false))), (some (33, false))⟩,
   ⟨(some 52), (.pick (.tmp 33) (.const (.bool true)) (.tmp 51)), none⟩])
 (.cond (.tmp 52) (.seq (.reg [⟨(some 6), (.assign (.const (.bool false))), none⟩,
   ⟨(some 7), (.assign (.const (.bool true))), none⟩])
 .ret) .skip))
 (.seq (.reg [⟨(some 9), (.assign (.const (.int .i64 0))), none⟩])
 (.block 2 (.loop (.seq (.seq (.reg [⟨(some 53), (.move (.tmp 9)), none⟩,
   ⟨(some 54), (.move (.tmp 8)), none⟩,
   ⟨(some 55), (.binOp .lss 3 (.tmp 53) (.tmp 54) 3), none⟩])
 (.cond (.tmp 55) .skip (.exit 2)))
 (.seq (.block 3 (.seq (.regq [⟨(some 58), (.move (.tmp 2)), none⟩,
   ⟨(some 59), (.move (.tmp 9)), none⟩,
   ⟨(some 60), (.indexAddr 33 (.tmp 58) (.tmp 59)), none⟩,
   ⟨(some 61), (.load 23 (.tmp 60)), none⟩,
   ⟨(some 62), (.move (.tmp 2)), none⟩,
   ⟨(some 63), (.move (.tmp 8)), none⟩,
   ⟨(some 64), (.indexAddr 33 (.tmp 62) (.tmp 63)), none⟩,
   ⟨(some 65), (.load 23 (.tmp 64)), none⟩,
   ⟨(some 66), (.call (.mk (.value (.func 60)) #[(.tmp 61), (.tmp 65)] #[23, 23])), none⟩,
   ⟨(some 67), (.unOp .not 4 (.tmp 66)), none⟩])
 (.cond (.tmp 67) (.seq (.reg [⟨(some 6), (.assign (.const (.bool false))), none⟩,
   ⟨(some 7), (.assign (.const (.bool true))), none⟩])
 .ret) .skip)))
 (.reg [⟨(some 56), (.move (.tmp 9)), none⟩,
   ⟨(some 57), (.binOp .add 3 (.tmp 56) (.const (.int .i64 1)) 3), none⟩,
   ⟨(some 9), (.assign (.tmp 57)), none⟩]))))))))
 (.reg [⟨(some 23), (.move (.tmp 8)), none⟩,
   ⟨(some 24), (.binOp .add 3 (.tmp 23) (.const (.int .i64 1)) 3), none⟩,
   ⟨(some 8), (.assign (.tmp 24)), none⟩]))))))
 (.seq (.reg [⟨(some 68), (.move (.tmp 2)), none⟩,
   ⟨(some 69), (.call (.mk (.builtin .len) #[(.tmp 68)] #[33])), none⟩,
   ⟨(some 70), (.move (.tmp 0)), none⟩,
   ⟨(some 71), (.binOp .leq 3 (.tmp 69) (.tmp 70) 3), none⟩,
   ⟨(some 6), (.assign (.tmp 71)), none⟩,
   ⟨(some 7), (.assign (.const (.bool true))), none⟩])
 .ret))))
theorem x_spec_IsExchange : Txt Try.prog 32 c_spec_IsExchange [.tmp 6, .tmp 7] 3 := ⟨by kernel_rfl, by kernel_rfl, _, _, Try.func32, rfl, by kernel_rfl, by kernel_rfl, by kernel_rfl, rfl, by decide⟩
/-- loop.example/g01062/impl.IsExchange -/
def c_impl_IsExchange : Cd :=
 (.seq (.reg [⟨(some 6), (.assign (.const (.bool false))), none⟩,
   ⟨(some 7), (.assign (.const (.bool false))), none⟩])
 (.seq (.seq (.reg [⟨(some 13), (.move (.tmp 0)), none⟩,
   ⟨(some 14), (.move (.tmp 1)), none⟩,
   ⟨(some 15), (.call (.mk (.value (.func 49)) #[(.tmp 13), (.tmp 14)] #[3, 27])), none⟩,
   ⟨(some 16), (.unOp .not 4 (.tmp 15)), none⟩])
 (.cond (.tmp 16) (.seq (.reg [⟨(some 6), (.assign (.const (.bool false))), none⟩,
   ⟨(some 7), (.assign (.const (.bool false))), none⟩])
 .ret) .skip))
 (.seq (.reg [⟨(some 17), (.move (.tmp 0)), none⟩,
   ⟨(some 18), (.makeSlice 74 (.tmp 17) (.tmp 17)), none⟩,
   ⟨(some 8), (.assign (.tmp 18)), none⟩])
 (.seq (.seq (.reg [⟨(some 19), (.move (.tmp 2)), none⟩,
   ⟨(some 20), (.call (.mk (.builtin .len) #[(.tmp 19)] #[33])), none⟩,
   ⟨(some 21), (.move (.const (.int .i64 0))), none⟩])
 (.block 0 (.loop (.seq (.reg [⟨(some 22), (.binOp .lss 3 (.tmp 21) (.tmp 20) 3), none⟩])
 (.seq (.cond (.tmp 22) .skip (.exit 0))
 (.seq (.block 1 (.seq (.reg [⟨(some 23), (.move (.tmp 21)), none⟩,
   ⟨(some 24), (.indexAddr 33 (.tmp 19) (.tmp 21)), none⟩,
   ⟨(some 25), (.load 23 (.tmp 24)), none⟩,
   ⟨(some 9), (.assign (.tmp 23)), none⟩,
   ⟨(some 10), (.assign (.tmp 25)), none⟩])
 (.seq (.seq (.regq [⟨(some 26), (.move (.tmp 0)), none⟩,
   ⟨(some 27), (.move (.tmp 1)), none⟩,
   ⟨(some 28), (.move (.tmp 10)), none⟩,
   ⟨(some 29), (.call (.mk (.value (.func 50)) #[(.tmp 26), (.tmp 27), (.tmp 28)] #[3, 27, 23])), none⟩,
   ⟨(some 30), (.unOp .not 4 (.tmp 29)), none⟩,
   ⟨(some 31), (.move (.tmp 30)), none⟩,
   ⟨(some 32), (.move (.tmp 9)), (some (31, false))⟩,
   ⟨(some 33), (.binOp .gtr 3 (.tmp 32) (.const (.int .i64 0)) 3), (some (31, false))⟩,
   ⟨(some 34), (.move (.tmp 33)), (some (31, false))⟩,
   ⟨(some 35), (.move (.tmp 2)), (some (34, true))⟩,
   ⟨(some 36), (.move (.tmp 9)), (some (34, true))⟩,
   ⟨(some 37), (.binOp .sub 3 (.tmp 36) (.const (.int .i64 1)) 3), (some (34, true))⟩,
   ⟨(some 38), (.indexAddr 33 (.tmp 35) (.tmp 37)), (some (34, true))⟩,
   ⟨(some 39), (.load 23 (.tmp 38)), (some (34, true))⟩,
   ⟨(some 40), (.indexAddr 23 (.tmp 39) (.const (.int .i64 0))), (some (34, true))⟩,
   ⟨(some 41), (.load 3 (.tmp 40)), (some (34, true))⟩,
   ⟨(some 42), (.move (.tmp 10)), (some (34, true))⟩,
   ⟨(some 43), (.indexAddr 23 (.tmp 42) (.const (.int .i64 0))), (some (34, true))⟩,
   ⟨(some 44), (.load 3 (.tmp 43)), (some (34, true))⟩,
   ⟨(some 45), (.binOp .geq 3 (.tmp 41) (.tmp 44) 3), (some (34, true))⟩,
   ⟨(some 46), (.pick (.tmp 34) (.tmp 45) (.const (.bool false))), (some (31, false))⟩,
   ⟨(some 47), (.pick (.tmp 31) (.const (.bool true)) (.tmp 46)), none⟩])
 (.cond (.tmp 47) (.seq (.reg [⟨(some 6), (.assign (.const (.bool false))), none⟩,
   ⟨(some 7), (.assign (.const (.bool true))), none⟩])
 .ret) .skip))
 (.seq (.reg [⟨(some 48), (.move (.tmp 10)), none⟩,
   ⟨(some 49), (.call (.mk (.builtin .len) #[(.tmp 48)] #[23])), none⟩,
   ⟨(some 50), (.move (.const (.int .i64 0))), none⟩])
 (.block 2 (.loop (.seq (.reg [⟨(some 51), (.binOp .lss 3 (.tmp 50) (.tmp 49) 3), none⟩])
 (.seq (.cond (.tmp 51) .skip (.exit 2))
 (.seq (.block 3 (.seq (.reg [⟨(some 52), (.indexAddr 23 (.tmp 48) (.tmp 50)), none⟩,
   ⟨(some 53), (.load 3 (.tmp 52)), none⟩,
   ⟨(some 12), (.assign (.tmp 53)), none⟩])
 (.seq (.seq (.reg [⟨(some 54), (.move (.tmp 8)), none⟩,
   ⟨(some 55), (.move (.tmp 12)), none⟩,
   ⟨(some 56), (.indexAddr 74 (.tmp 54) (.tmp 55)), none⟩,
   ⟨(some 57), (.load 4 (.tmp 56)), none⟩])
 (.cond (.tmp 57) (.seq (.reg [⟨(some 6), (.assign (.const (.bool false))), none⟩,
   ⟨(some 7), (.assign (.const (.bool true))), none⟩])
 .ret) .skip))
 (.reg [⟨(some 58), (.move (.tmp 8)), none⟩,
   ⟨(some 59), (.move (.tmp 12)), none⟩,
   ⟨(some 60), (.indexAddr 74 (.tmp 58) (.tmp 59)), none⟩,
   ⟨none, (.store 4 (.tmp 60) (.const (.bool true))), none⟩]))))
 (.reg [⟨(some 61), (.binOp .add 3 (.tmp 50) (.const (.int .i64 1)) 3), none⟩,
   ⟨(some 50), (.move (.tmp 61)), none⟩]))))))))))
 (.reg [⟨(some 62), (.binOp .add 3 (.tmp 21) (.const (.int .i64 1)) 3), none⟩,
   ⟨(some 21), (.move (.tmp 62)), none⟩])))))))
 (.seq (.reg [⟨(some 6), (.assign (.const (.bool true))), none⟩,
   ⟨(some 7), (.assign (.const (.bool true))), none⟩])
 .ret)))))
theorem x_impl_IsExchange : Txt Try.prog 34 c_impl_IsExchange [.tmp 6, .tmp 7] 3 := ⟨by kernel_rfl, by kernel_rfl, _, _, Try.func34, rfl, by kernel_rfl, by kernel_rfl, by kernel_rfl, rfl, by decide⟩
/-- loop.example/g01062/spec.MostPeople -/
def c_spec_MostPeople : Cd :=
 (.seq (.reg [⟨(some 4), (.assign (.const (.int .i64 0))), none⟩,
   ⟨(some 5), (.assign (.const (.bool false))), none⟩])
 (.seq (.seq (.reg [⟨(some 8), (.move (.tmp 0)), none⟩,
   ⟨(some 9), (.move (.tmp 1)), none⟩,
   ⟨(some 10), (.call (.mk (.value (.func 46)) #[(.tmp 8), (.tmp 9)] #[3, 27])), none⟩,
   ⟨(some 11), (.unOp .not 4 (.tmp 10)), none⟩,
   ⟨(some 12), (.move (.tmp 11)), none⟩,
   ⟨(some 13), (.move (.tmp 0)), (some (12, false))⟩,
   ⟨(some 14), (.binOp .gtr 3 (.tmp 13) (.const (.int .i64 6)) 3), (some (12, false))⟩,
   ⟨(some 15), (.pick (.tmp 12) (.const (.bool true)) (.tmp 14)), none⟩])
 (.cond (.tmp 15) (.seq (.reg [⟨(some 4), (.assign (.const (.int .i64 0))), none⟩,
   ⟨(some 5), (.assign (.const (.bool false))), none⟩])
 .ret) .skip))
 (.seq (.reg [⟨(some 17), (.move (.tmp 0)), none⟩,
   ⟨(some 18), (.move (.tmp 1)), none⟩,
   ⟨(some 19), (.move (.tmp 0)), none⟩,
   ⟨(some 20), (.move (.tmp 1)), none⟩,
   ⟨(some 21), (.call (.mk (.value (.func 57)) #[(.tmp 19), (.tmp 20)] #[3, 27])), none⟩,
   ⟨(some 22), (.buildSlice 33 0 #[]), none⟩,
   ⟨(some 23), (.buildSlice 33 0 #[]), none⟩,
   ⟨(some 24), (.call (.mk (.value (.func 62)) #[(.tmp 17), (.tmp 18), (.tmp 21), (.const (.int .i64 0)), (.tmp 22), (.const (.int .i64 0)), (.tmp 23), (.const (.int .i64 0)), (.const (.bool true))] #[3, 27, 33, 3, 33, 3, 33, 3, 4])), none⟩,
   ⟨(some 16), (.move (.tmp 24)), none⟩,
   ⟨(some 25), (.extract (.tmp 16) 0), none⟩,
   ⟨(some 26), (.extract (.tmp 16) 1), none⟩,
   ⟨(some 6), (.assign (.tmp 25)), none⟩,
   ⟨(some 7), (.assign (.tmp 26)), none⟩])
 (.seq (.reg [⟨(some 27), (.move (.tmp 7)), none⟩,
   ⟨(some 4), (.assign (.tmp 27)), none⟩,
   ⟨(some 5), (.assign (.const (.bool true))), none⟩])
 .ret))))
theorem x_spec_MostPeople : Txt Try.prog 37 c_spec_MostPeople [.tmp 4, .tmp 5] 2 := ⟨by kernel_rfl, by kernel_rfl, _, _, Try.func37, rfl, by kernel_rfl, by kernel_rfl, by kernel_rfl, rfl, by decide⟩
/-- loop.example/g01062/impl.MostPeople -/
def c_impl_MostPeople : Cd :=
 (.seq (.reg [⟨(some 4), (.assign (.const (.int .i64 0))), none⟩,
   ⟨(some 5), (.assign (.const (.bool false))), none⟩])
 (.seq (.seq (.reg [⟨(some 7), (.move (.tmp 0)), none⟩,
   ⟨(some 8), (.move (.tmp 1)), none⟩,
   ⟨(some 9), (.call (.mk (.value (.func 49)) #[(.tmp 7), (.tmp 8)] #[3, 27])), none⟩,
   ⟨(some 10), (.unOp .not 4 (.tmp 9)), none⟩,
   ⟨(some 11), (.move (.tmp 10)), none⟩,
   ⟨(some 12), (.move (.tmp 0)), (some (11, false))⟩,
   ⟨(some 13), (.binOp .gtr 3 (.tmp 12) (.const (.int .i64 6)) 3), (some (11, false))⟩,
   ⟨(some 14), (.pick (.tmp 11) (.const (.bool true)) (.tmp 13)), none⟩])
 (.cond (.tmp 14) (.seq (.reg [⟨(some 4), (.assign (.const (.int .i64 0))), none⟩,
   ⟨(some 5), (.assign (.const (.bool false))), none⟩])
 .ret) .skip))
 (.seq (.reg [⟨(some 6), (.alloc 3), none⟩,
   ⟨none, (.store 3 (.tmp 6) (.const (.int .i64 0))), none⟩])
 (.seq (.reg [⟨(some 15), (.move (.tmp 0)), none⟩,
   ⟨(some 16), (.move (.tmp 1)), none⟩,
   ⟨(some 17), (.makeFunc (.func 64) #[] #[(.tmp 6)]), none⟩,
   ⟨(some 18), (.call (.mk (.value (.func 63)) #[(.tmp 15), (.tmp 16), (.tmp 17)] #[3, 27, 78])), none⟩])
 (.seq (.reg [⟨(some 19), (.load 3 (.tmp 6)), none⟩,
   ⟨(some 4), (.assign (.tmp 19)), none⟩,
   ⟨(some 5), (.assign (.const (.bool true))), none⟩])
 .ret)))))
theorem x_impl_MostPeople : Txt Try.prog 38 c_impl_MostPeople [.tmp 4, .tmp 5] 2 := ⟨by kernel_rfl, by kernel_rfl, _, _, Try.func38, rfl, by kernel_rfl, by kernel_rfl, by kernel_rfl, rfl, by decide⟩
/-- loop.example/g01062/spec.GreatestExchange -/
def c_spec_GreatestExchange : Cd :=
 (.seq (.reg [⟨(some 4), (.assign (.const (.slice none 0 0))), none⟩,
   ⟨(some 5), (.assign (.const (.int .i64 0))), none⟩,
   ⟨(some 6), (.assign (.const (.bool false))), none⟩])
 (.seq (.seq (.reg [⟨(some 11), (.move (.tmp 0)), none⟩,
   ⟨(some 12), (.move (.tmp 1)), none⟩,
   ⟨(some 13), (.call (.mk (.value (.func 46)) #[(.tmp 11), (.tmp 12)] #[3, 27])), none⟩,
   ⟨(some 14), (.unOp .not 4 (.tmp 13)), none⟩,
   ⟨(some 15), (.move (.tmp 14)), none⟩,
   ⟨(some 16), (.move (.tmp 0)), (some (15, false))⟩,
   ⟨(some 17), (.binOp .gtr 3 (.tmp 16) (.const (.int .i64 6)) 3), (some (15, false))⟩,
   ⟨(some 18), (.pick (.tmp 15) (.const (.bool true)) (.tmp 17)), none⟩])
 (.cond (.tmp 18) (.seq (.reg [⟨(some 19), (.buildSlice 33 0 #[]), none⟩,
   ⟨(some 4), (.assign (.tmp 19)), none⟩,
   ⟨(some 5), (.assign (.const (.int .i64 0))), none⟩,
   ⟨(some 6), (.assign (.const (.bool false))), none⟩])
 .ret) .skip))
 (.seq (.reg [⟨(some 21), (.move (.tmp 0)), none⟩,
   ⟨(some 22), (.move (.tmp 1)), none⟩,
   ⟨(some 23), (.move (.tmp 0)), none⟩,
   ⟨(some 24), (.move (.tmp 1)), none⟩,
   ⟨(some 25), (.call (.mk (.value (.func 57)) #[(.tmp 23), (.tmp 24)] #[3, 27])), none⟩,
   ⟨(some 26), (.buildSlice 33 0 #[]), none⟩,
   ⟨(some 27), (.buildSlice 33 0 #[]), none⟩,
   ⟨(some 28), (.call (.mk (.value (.func 62)) #[(.tmp 21), (.tmp 22), (.tmp 25), (.const (.int .i64 0)), (.tmp 26), (.const (.int .i64 0)), (.tmp 27), (.const (.int .i64 0)), (.const (.bool false))] #[3, 27, 33, 3, 33, 3, 33, 3, 4])), none⟩,
   ⟨(some 20), (.move (.tmp 28)), none⟩,
   ⟨(some 29), (.extract (.tmp 20) 0), none⟩,
   ⟨(some 30), (.extract (.tmp 20) 1), none⟩,
   ⟨(some 7), (.assign (.tmp 29)), none⟩,
   ⟨(some 8), (.assign (.tmp 30)), none⟩])
 (.seq (.reg [⟨(some 31), (.buildSlice 33 0 #[]), none⟩,
   ⟨(some 9), (.assign (.tmp 31)), none⟩])
 (.seq (.seq (.reg [⟨(some 10), (.assign (.const (.int .i64 0))), none⟩])
 (.block 0 (.loop (.seq (.seq (.reg [⟨(some 32), (.move (.tmp 10)), none⟩,
   ⟨(some 33), (.move (.tmp 7)), none⟩,
   ⟨(some 34), (.call (.mk (.builtin .len) #[(.tmp 33)] #[33])), none⟩,
   ⟨(some 35), (.binOp .lss 3 (.tmp 32) (.tmp 34) 3), none⟩])
 (.cond (.tmp 35) .skip (.exit 0)))
 (.seq (.block 1 (.reg [⟨(some 38), (.move (.tmp 9)), none⟩,
   ⟨(some 39), (.move (.tmp 7)), none⟩,
   ⟨(some 40), (.move (.tmp 10)), none⟩,
   ⟨(some 41), (.indexAddr 33 (.tmp 39) (.tmp 40)), none⟩,
   ⟨(some 42), (.load 23 (.tmp 41)), none⟩,
   ⟨(some 43), (.call (.mk (.value (.func 65)) #[(.tmp 42)] #[23])), none⟩,
   ⟨(some 44), (.buildSlice 33 1 #[(0, (.tmp 43))]), none⟩,
   ⟨(some 45), (.call (.mk (.builtin .append) #[(.tmp 38), (.tmp 44)] #[33, 33])), none⟩,
   ⟨(some 9), (.assign (.tmp 45)), none⟩]))
 (.reg [⟨(some 36), (.move (.tmp 10)), none⟩,
   ⟨(some 37), (.binOp .add 3 (.tmp 36) (.const (.int .i64 1)) 3), none⟩,
   ⟨(some 10), (.assign (.tmp 37)), none⟩]))))))
 (.seq (.reg [⟨(some 46), (.move (.tmp 9)), none⟩,
   ⟨(some 47), (.move (.tmp 8)), none⟩,
   ⟨(some 4), (.assign (.tmp 46)), none⟩,
   ⟨(some 5), (.assign (.tmp 47)), none⟩,
   ⟨(some 6), (.assign (.const (.bool true))), none⟩])
 .ret))))))
theorem x_spec_GreatestExchange : Txt Try.prog 39 c_spec_GreatestExchange [.tmp 4, .tmp 5, .tmp 6] 2 := ⟨by kernel_rfl, by kernel_rfl, _, _, Try.func39, rfl, by kernel_rfl, by kernel_rfl, by kernel_rfl, rfl, by decide⟩
/-- loop.example/g01062/impl.GreatestExchange -/
def c_impl_GreatestExchange : Cd :=
 (.seq (.reg [⟨(some 4), (.assign (.const (.slice none 0 0))), none⟩,
   ⟨(some 5), (.assign (.const (.int .i64 0))), none⟩,
   ⟨(some 6), (.assign (.const (.bool false))), none⟩])
 (.seq (.seq (.reg [⟨(some 10), (.move (.tmp 0)), none⟩,
   ⟨(some 11), (.move (.tmp 1)), none⟩,
   ⟨(some 12), (.call (.mk (.value (.func 49)) #[(.tmp 10), (.tmp 11)] #[3, 27])), none⟩,
   ⟨(some 13), (.unOp .not 4 (.tmp 12)), none⟩,
   ⟨(some 14), (.move (.tmp 13)), none⟩,
   ⟨(some 15), (.move (.tmp 0)), (some (14, false))⟩,
   ⟨(some 16), (.binOp .gtr 3 (.tmp 15) (.const (.int .i64 6)) 3), (some (14, false))⟩,
   ⟨(some 17), (.pick (.tmp 14) (.const (.bool true)) (.tmp 16)), none⟩])
 (.cond (.tmp 17) (.seq (.reg [⟨(some 4), (.assign (.const (.slice none 0 0))), none⟩,
   ⟨(some 5), (.assign (.const (.int .i64 0))), none⟩,
   ⟨(some 6), (.assign (.const (.bool false))), none⟩])
 .ret) .skip))
 (.seq (.reg [⟨(some 7), (.alloc 33), none⟩])
 (.seq (.reg [⟨(some 8), (.alloc 3), none⟩,
   ⟨(some 9), (.alloc 3), none⟩,
   ⟨none, (.store 3 (.tmp 8) (.const (.int .i64 (-1)))), none⟩,
   ⟨none, (.store 3 (.tmp 9) (.const (.int .i64 0))), none⟩])
 (.seq (.reg [⟨(some 18), (.move (.tmp 0)), none⟩,
   ⟨(some 19), (.move (.tmp 1)), none⟩,
   ⟨(some 20), (.makeFunc (.func 66) #[] #[(.tmp 8), (.tmp 9), (.tmp 7)]), none⟩,
   ⟨(some 21), (.call (.mk (.value (.func 63)) #[(.tmp 18), (.tmp 19), (.tmp 20)] #[3, 27, 78])), none⟩])
 (.seq (.regq [⟨(some 22), (.load 33 (.tmp 7)), none⟩,
   ⟨(some 23), (.load 3 (.tmp 8)), none⟩,
   ⟨(some 4), (.assign (.tmp 22)), none⟩,
   ⟨(some 5), (.assign (.tmp 23)), none⟩,
   ⟨(some 6), (.assign (.const (.bool true))), none⟩])
 .ret))))))
theorem x_impl_GreatestExchange : Txt Try.prog 40 c_impl_GreatestExchange [.tmp 4, .tmp 5, .tmp 6] 2 := ⟨by kernel_rfl, by kernel_rfl, _, _, Try.func40, rfl, by kernel_rfl, by kernel_rfl, by kernel_rfl, rfl, by decide⟩
/-- loop.example/g01062/laws.vBig -/
def c_laws_vBig : Cd :=
 (.seq (.reg [⟨(some 2), (.assign (.const (.bool false))), none⟩])
 (.seq (.reg [⟨(some 3), (.move (.tmp 0)), none⟩,
   ⟨(some 4), (.call (.mk (.builtin .len) #[(.tmp 3)] #[53])), none⟩,
   ⟨(some 5), (.binOp .gtr 3 (.tmp 4) (.const (.int .i64 65536)) 3), none⟩,
   ⟨(some 2), (.assign (.tmp 5)), none⟩])
 .ret))
theorem x_laws_vBig : Txt Try.prog 41 c_laws_vBig [.tmp 2] 1 := ⟨by kernel_rfl, by kernel_rfl, _, _, Try.func41, rfl, by kernel_rfl, by kernel_rfl, by kernel_rfl, rfl, by decide⟩
/-- loop.example/g01062/spec.DrawGreatestExchange -/
def c_spec_DrawGreatestExchange : Cd :=
 (.seq (.reg [⟨(some 2), (.assign (.const (.int .i64 0))), none⟩,
   ⟨(some 3), (.assign (.const (.slice none 0 0))), none⟩])
 (.seq (.reg [⟨(some 4), (.move (.tmp 0)), none⟩,
   ⟨(some 5), (.call (.mk (.value (.func 68)) #[(.tmp 4)] #[53])), none⟩,
   ⟨(some 6), (.extract (.tmp 5) 0), none⟩,
   ⟨(some 7), (.extract (.tmp 5) 1), none⟩,
   ⟨(some 2), (.assign (.tmp 6)), none⟩,
   ⟨(some 3), (.assign (.tmp 7)), none⟩])
 .ret))
theorem x_spec_DrawGreatestExchange : Txt Try.prog 42 c_spec_DrawGreatestExchange [.tmp 2, .tmp 3] 1 := ⟨by kernel_rfl, by kernel_rfl, _, _, Try.func42, rfl, by kernel_rfl, by kernel_rfl, by kernel_rfl, rfl, by decide⟩
/-- loop.example/g01062/laws.vGrid -/
def c_laws_vGrid : Cd :=
 (.seq (.reg [⟨(some 4), (.assign (.const (.bool false))), none⟩])
 (.seq (.seq (.reg [⟨(some 6), (.move (.tmp 0)), none⟩,
   ⟨(some 7), (.call (.mk (.builtin .len) #[(.tmp 6)] #[33])), none⟩,
   ⟨(some 8), (.move (.tmp 1)), none⟩,
   ⟨(some 9), (.call (.mk (.builtin .len) #[(.tmp 8)] #[33])), none⟩,
   ⟨(some 10), (.binOp .neq 3 (.tmp 7) (.tmp 9) 3), none⟩])
 (.cond (.tmp 10) (.seq (.reg [⟨(some 4), (.assign (.const (.bool false))), none⟩])
 .ret) .skip))
 (.seq (.seq (.reg [⟨(some 5), (.assign (.const (.int .i64 0))), none⟩])
 (.block 0 (.loop (.seq (.seq (.reg [⟨(some 11), (.move (.tmp 5)), none⟩,
   ⟨(some 12), (.move (.tmp 0)), none⟩,
   ⟨(some 13), (.call (.mk (.builtin .len) #[(.tmp 12)] #[33])), none⟩,
   ⟨(some 14), (.binOp .lss 3 (.tmp 11) (.tmp 13) 3), none⟩])
 (.cond (.tmp 14) .skip (.exit 0)))
 (.seq (.block 1 (.seq (.regq [⟨(some 17), (.move (.tmp 0)), none⟩,
   ⟨(some 18), (.move (.tmp 5)), none⟩,
   ⟨(some 19), (.indexAddr 33 (.tmp 17) (.tmp 18)), none⟩,
   ⟨(some 20), (.load 23 (.tmp 19)), none⟩,
   ⟨(some 21), (.move (.tmp 1)), none⟩,
   ⟨(some 22), (.move (.tmp 5)), none⟩,
   ⟨(some 23), (.indexAddr 33 (.tmp 21) (.tmp 22)), none⟩,
   ⟨(some 24), (.load 23 (.tmp 23)), none⟩,
   ⟨(some 25), (.call (.mk (.value (.func 69)) #[(.tmp 20), (.tmp 24)] #[23, 23])), none⟩,
   ⟨(some 26), (.unOp .not 4 (.tmp 25)), none⟩])
 (.cond (.tmp 26) (.seq (.reg [⟨(some 4), (.assign (.const (.bool false))), none⟩])
 .ret) .skip)))
 (.reg [⟨(some 15), (.move (.tmp 5)), none⟩,
   ⟨(some 16), (.binOp .add 3 (.tmp 15) (.const (.int .i64 1)) 3), none⟩,
   ⟨(some 5), (.assign (.tmp 16)), none⟩]))))))
 (.seq (.reg [⟨(some 4), (.assign (.const (.bool true))), none⟩])
 .ret))))
theorem x_laws_vGrid : Txt Try.prog 43 c_laws_vGrid [.tmp 4] 2 := ⟨by kernel_rfl, by kernel_rfl, _, _, Try.func43, rfl, by kernel_rfl, by kernel_rfl, by kernel_rfl, rfl, by decide⟩
/-- loop.example/g01062/laws.vHas -/
def c_laws_vHas : Cd :=
 (.seq (.reg [⟨(some 4), (.assign (.const (.bool false))), none⟩])
 (.seq (.seq (.reg [⟨(some 5), (.assign (.const (.int .i64 0))), none⟩])
 (.block 0 (.loop (.seq (.seq (.reg [⟨(some 6), (.move (.tmp 5)), none⟩,
   ⟨(some 7), (.move (.tmp 0)), none⟩,
   ⟨(some 8), (.call (.mk (.builtin .len) #[(.tmp 7)] #[23])), none⟩,
   ⟨(some 9), (.binOp .lss 3 (.tmp 6) (.tmp 8) 3), none⟩])
 (.cond (.tmp 9) .skip (.exit 0)))
 (.seq (.block 1 (.seq (.reg [⟨(some 12), (.move (.tmp 0)), none⟩,
   ⟨(some 13), (.move (.tmp 5)), none⟩,
   ⟨(some 14), (.indexAddr 23 (.tmp 12) (.tmp 13)), none⟩,
   ⟨(some 15), (.load 3 (.tmp 14)), none⟩,
   ⟨(some 16), (.move (.tmp 1)), none⟩,
   ⟨(some 17), (.binOp .eql 3 (.tmp 15) (.tmp 16) 3), none⟩])
 (.cond (.tmp 17) (.seq (.reg [⟨(some 4), (.assign (.const (.bool true))), none⟩])
 .ret) .skip)))
 (.reg [⟨(some 10), (.move (.tmp 5)), none⟩,
   ⟨(some 11), (.binOp .add 3 (.tmp 10) (.const (.int .i64 1)) 3), none⟩,
   ⟨(some 5), (.assign (.tmp 11)), none⟩]))))))
 (.seq (.reg [⟨(some 4), (.assign (.const (.bool false))), none⟩])
 .ret)))
theorem x_laws_vHas : Txt Try.prog 44 c_laws_vHas [.tmp 4] 2 := ⟨by kernel_rfl, by kernel_rfl, _, _, Try.func44, rfl, by kernel_rfl, by kernel_rfl, by kernel_rfl, rfl, by decide⟩
/-- loop.example/g01062/spec.DrawIsExchange -/
def c_spec_DrawIsExchange : Cd :=
 (.seq (.reg [⟨(some 2), (.assign (.const (.int .i64 0))), none⟩,
   ⟨(some 3), (.assign (.const (.slice none 0 0))), none⟩,
   ⟨(some 4), (.assign (.const (.slice none 0 0))), none⟩])
 (.seq (.reg [⟨(some 11), (.move (.tmp 0)), none⟩,
   ⟨(some 12), (.build 82 #[(0, (.tmp 11))]), none⟩,
   ⟨(some 13), (.box 82 (.tmp 12)), none⟩,
   ⟨(some 5), (.assign (.tmp 13)), none⟩])
 (.seq (.reg [⟨(some 15), (.move (.tmp 5)), none⟩,
   ⟨(some 16), (.call (.mk (.value (.func 70)) #[(.tmp 15)] #[79])), none⟩,
   ⟨(some 14), (.move (.tmp 16)), none⟩,
   ⟨(some 17), (.extract (.tmp 14) 0), none⟩,
   ⟨(some 18), (.extract (.tmp 14) 1), none⟩,
   ⟨(some 6), (.assign (.tmp 17)), none⟩,
   ⟨(some 7), (.assign (.tmp 18)), none⟩])
 (.seq (.reg [⟨(some 20), (.move (.tmp 6)), none⟩,
   ⟨(some 21), (.move (.tmp 7)), none⟩,
   ⟨(some 22), (.call (.mk (.value (.func 39)) #[(.tmp 20), (.tmp 21)] #[3, 27])), none⟩,
   ⟨(some 19), (.move (.tmp 22)), none⟩,
   ⟨(some 23), (.extract (.tmp 19) 0), none⟩,
   ⟨(some 24), (.extract (.tmp 19) 1), none⟩,
   ⟨(some 25), (.extract (.tmp 19) 2), none⟩,
   ⟨(some 8), (.assign (.tmp 23)), none⟩,
   ⟨(some 9), (.assign (.tmp 24)), none⟩,
   ⟨(some 10), (.assign (.tmp 25)), none⟩])
 (.seq (.seq (.reg [⟨(some 26), (.move (.tmp 5)), none⟩,
   ⟨(some 27), (.call (.mk (.value (.func 71)) #[(.tmp 26), (.const (.int .i64 5))] #[79, 3])), none⟩])
 (.block 0 (.seq (.reg [⟨(some 29), (.binOp .eql 3 (.tmp 27) (.const (.int .i64 0)) 3), none⟩,
   ⟨(some 28), (.assign (.tmp 29)), none⟩])
 (.cond (.tmp 28) (.reg [⟨(some 30), (.move (.tmp 8)), none⟩,
   ⟨(some 31), (.move (.tmp 5)), none⟩,
   ⟨(some 32), (.move (.tmp 6)), none⟩,
   ⟨(some 33), (.move (.tmp 7)), none⟩,
   ⟨(some 34), (.call (.mk (.value (.func 72)) #[(.tmp 31), (.tmp 32), (.tmp 33)] #[79, 3, 27])), none⟩,
   ⟨(some 35), (.buildSlice 33 1 #[(0, (.tmp 34))]), none⟩,
   ⟨(some 36), (.call (.mk (.builtin .append) #[(.tmp 30), (.tmp 35)] #[33, 33])), none⟩,
   ⟨(some 8), (.assign (.tmp 36)), none⟩]) (.seq (.reg [⟨(some 38), (.binOp .eql 3 (.tmp 27) (.const (.int .i64 1)) 3), none⟩,
   ⟨(some 37), (.assign (.tmp 38)), none⟩])
 (.cond (.tmp 37) (.seq (.reg [⟨(some 39), (.move (.tmp 8)), none⟩,
   ⟨(some 40), (.call (.mk (.builtin .len) #[(.tmp 39)] #[33])), none⟩,
   ⟨(some 41), (.binOp .gtr 3 (.tmp 40) (.const (.int .i64 0)) 3), none⟩])
 (.cond (.tmp 41) (.reg [⟨(some 42), (.move (.tmp 8)), none⟩,
   ⟨(some 43), (.slice 33 (.tmp 42) (some (.const (.int .i64 1))) none none), none⟩,
   ⟨(some 8), (.assign (.tmp 43)), none⟩]) .skip)) (.seq (.reg [⟨(some 45), (.binOp .eql 3 (.tmp 27) (.const (.int .i64 2)) 3), none⟩,
   ⟨(some 44), (.assign (.tmp 45)), none⟩])
 (.cond (.tmp 44) (.reg [⟨(some 46), (.move (.tmp 5)), none⟩,
   ⟨(some 47), (.move (.tmp 6)), none⟩,
   ⟨(some 48), (.move (.tmp 7)), none⟩,
   ⟨(some 49), (.call (.mk (.value (.func 72)) #[(.tmp 46), (.tmp 47), (.tmp 48)] #[79, 3, 27])), none⟩,
   ⟨(some 50), (.buildSlice 33 1 #[(0, (.tmp 49))]), none⟩,
   ⟨(some 8), (.assign (.tmp 50)), none⟩]) .skip))))))))
 (.seq (.reg [⟨(some 51), (.move (.tmp 6)), none⟩,
   ⟨(some 52), (.move (.tmp 7)), none⟩,
   ⟨(some 53), (.move (.tmp 8)), none⟩,
   ⟨(some 2), (.assign (.tmp 51)), none⟩,
   ⟨(some 3), (.assign (.tmp 52)), none⟩,
   ⟨(some 4), (.assign (.tmp 53)), none⟩])
 .ret))))))
theorem x_spec_DrawIsExchange : Txt Try.prog 45 c_spec_DrawIsExchange [.tmp 2, .tmp 3, .tmp 4] 1 := ⟨by kernel_rfl, by kernel_rfl, _, _, Try.func45, rfl, by kernel_rfl, by kernel_rfl, by kernel_rfl, rfl, by decide⟩
/-- loop.example/g01062/spec.l20Good -/
def c_spec_l20Good : Cd :=
 (.seq (.reg [⟨(some 4), (.assign (.const (.bool false))), none⟩])
 (.seq (.seq (.reg [⟨(some 7), (.move (.tmp 0)), none⟩,
   ⟨(some 8), (.call (.mk (.value (.func 73)) #[(.tmp 7), (.const (.int .i64 1)), (.const (.int .i64 8))] #[3, 3, 3])), none⟩,
   ⟨(some 9), (.unOp .not 4 (.tmp 8)), none⟩,
   ⟨(some 10), (.move (.tmp 9)), none⟩,
   ⟨(some 11), (.move (.tmp 1)), (some (10, false))⟩,
   ⟨(some 12), (.call (.mk (.builtin .len) #[(.tmp 11)] #[27])), (some (10, false))⟩,
   ⟨(some 13), (.binOp .gtr 3 (.tmp 12) (.const (.int .i64 30)) 3), (some (10, false))⟩,
   ⟨(some 14), (.pick (.tmp 10) (.const (.bool true)) (.tmp 13)), none⟩])
 (.cond (.tmp 14) (.seq (.reg [⟨(some 4), (.assign (.const (.bool false))), none⟩])
 .ret) .skip))
 (.seq (.seq (.reg [⟨(some 5), (.assign (.const (.int .i64 0))), none⟩])
 (.block 0 (.loop (.seq (.seq (.reg [⟨(some 15), (.move (.tmp 5)), none⟩,
   ⟨(some 16), (.move (.tmp 1)), none⟩,
   ⟨(some 17), (.call (.mk (.builtin .len) #[(.tmp 16)] #[27])), none⟩,
   ⟨(some 18), (.binOp .lss 3 (.tmp 15) (.tmp 17) 3), none⟩])
 (.cond (.tmp 18) .skip (.exit 0)))
 (.seq (.block 1 (.seq (.reg [⟨(some 21), (.move (.tmp 1)), none⟩,
   ⟨(some 22), (.move (.tmp 5)), none⟩,
   ⟨(some 23), (.indexAddr 27 (.tmp 21) (.tmp 22)), none⟩,
   ⟨(some 24), (.load 63 (.tmp 23)), none⟩,
   ⟨(some 6), (.alloc 63), none⟩,
   ⟨none, (.store 63 (.tmp 6) (.tmp 24)), none⟩])
 (.seq (.seq (.reg [⟨(some 25), (.move (.tmp 0)), none⟩,
   ⟨(some 26), (.fieldAddr 63 (.tmp 6) 0), none⟩,
   ⟨(some 27), (.load 3 (.tmp 26)), none⟩,
   ⟨(some 28), (.call (.mk (.value (.func 53)) #[(.tmp 25), (.tmp 27)] #[3, 3])), none⟩,
   ⟨(some 29), (.unOp .not 4 (.tmp 28)), none⟩,
   ⟨(some 30), (.move (.tmp 29)), none⟩,
   ⟨(some 31), (.move (.tmp 0)), (some (30, false))⟩,
   ⟨(some 32), (.fieldAddr 63 (.tmp 6) 1), (some (30, false))⟩,
   ⟨(some 33), (.load 3 (.tmp 32)), (some (30, false))⟩,
   ⟨(some 34), (.call (.mk (.value (.func 53)) #[(.tmp 31), (.tmp 33)] #[3, 3])), (some (30, false))⟩,
   ⟨(some 35), (.unOp .not 4 (.tmp 34)), (some (30, false))⟩,
   ⟨(some 36), (.pick (.tmp 30) (.const (.bool true)) (.tmp 35)), none⟩,
   ⟨(some 37), (.move (.tmp 36)), none⟩,
   ⟨(some 38), (.fieldAddr 63 (.tmp 6) 0), (some (37, false))⟩,
   ⟨(some 39), (.load 3 (.tmp 38)), (some (37, false))⟩,
   ⟨(some 40), (.fieldAddr 63 (.tmp 6) 1), (some (37, false))⟩,
   ⟨(some 41), (.load 3 (.tmp 40)), (some (37, false))⟩,
   ⟨(some 42), (.binOp .eql 3 (.tmp 39) (.tmp 41) 3), (some (37, false))⟩,
   ⟨(some 43), (.pick (.tmp 37) (.const (.bool true)) (.tmp 42)), none⟩,
   ⟨(some 44), (.move (.tmp 43)), none⟩,
   ⟨(some 45), (.fieldAddr 63 (.tmp 6) 2), (some (44, false))⟩,
   ⟨(some 46), (.load 3 (.tmp 45)), (some (44, false))⟩,
   ⟨(some 47), (.call (.mk (.value (.func 73)) #[(.tmp 46), (.const (.int .i64 1)), (.const (.int .i64 1000))] #[3, 3, 3])), (some (44, false))⟩,
   ⟨(some 48), (.unOp .not 4 (.tmp 47)), (some (44, false))⟩,
   ⟨(some 49), (.pick (.tmp 44) (.const (.bool true)) (.tmp 48)), none⟩])
 (.cond (.tmp 49) (.seq (.reg [⟨(some 4), (.assign (.const (.bool false))), none⟩])
 .ret) .skip))
 (.seq (.regq [⟨(some 50), (.move (.tmp 5)), none⟩,
   ⟨(some 51), (.binOp .gtr 3 (.tmp 50) (.const (.int .i64 0)) 3), none⟩,
   ⟨(some 52), (.move (.tmp 51)), none⟩,
   ⟨(some 53), (.move (.tmp 1)), (some (52, true))⟩,
   ⟨(some 54), (.move (.tmp 5)), (some (52, true))⟩,
   ⟨(some 55), (.binOp .sub 3 (.tmp 54) (.const (.int .i64 1)) 3), (some (52, true))⟩,
   ⟨(some 56), (.indexAddr 27 (.tmp 53) (.tmp 55)), (some (52, true))⟩,
   ⟨(some 57), (.fieldAddr 63 (.tmp 56) 0), (some (52, true))⟩,
   ⟨(some 58), (.load 3 (.tmp 57)), (some (52, true))⟩,
   ⟨(some 59), (.binOp .mul 3 (.const (.int .i64 10)) (.tmp 58) 3), (some (52, true))⟩,
   ⟨(some 60), (.move (.tmp 1)), (some (52, true))⟩,
   ⟨(some 61), (.move (.tmp 5)), (some (52, true))⟩,
   ⟨(some 62), (.binOp .sub 3 (.tmp 61) (.const (.int .i64 1)) 3), (some (52, true))⟩,
   ⟨(some 63), (.indexAddr 27 (.tmp 60) (.tmp 62)), (some (52, true))⟩,
   ⟨(some 64), (.fieldAddr 63 (.tmp 63) 1), (some (52, true))⟩,
   ⟨(some 65), (.load 3 (.tmp 64)), (some (52, true))⟩,
   ⟨(some 66), (.binOp .add 3 (.tmp 59) (.tmp 65) 3), (some (52, true))⟩,
   ⟨(some 67), (.fieldAddr 63 (.tmp 6) 0), (some (52, true))⟩,
   ⟨(some 68), (.load 3 (.tmp 67)), (some (52, true))⟩,
   ⟨(some 69), (.binOp .mul 3 (.const (.int .i64 10)) (.tmp 68) 3), (some (52, true))⟩,
   ⟨(some 70), (.fieldAddr 63 (.tmp 6) 1), (some (52, true))⟩,
   ⟨(some 71), (.load 3 (.tmp 70)), (some (52, true))⟩,
   ⟨(some 72), (.binOp .add 3 (.tmp 69) (.tmp 71) 3), (some (52, true))⟩,
   ⟨(some 73), (.binOp .geq 3 (.tmp 66) (.tmp 72) 3), (some (52, true))⟩,
   ⟨(some 74), (.pick (.tmp 52) (.tmp 73) (.const (.bool false))), none⟩])
 (.cond (.tmp 74) (.seq (.reg [⟨(some 4), (.assign (.const (.bool false))), none⟩])
 .ret) .skip)))))
 (.reg [⟨(some 19), (.move (.tmp 5)), none⟩,
   ⟨(some 20), (.binOp .add 3 (.tmp 19) (.const (.int .i64 1)) 3), none⟩,
   ⟨(some 5), (.assign (.tmp 20)), none⟩]))))))
 (.seq (.reg [⟨(some 4), (.assign (.const (.bool true))), none⟩])
 .ret))))
theorem x_spec_l20Good : Txt Try.prog 46 c_spec_l20Good [.tmp 4] 2 := ⟨by kernel_rfl, by kernel_rfl, _, _, Try.func46, rfl, by kernel_rfl, by kernel_rfl, by kernel_rfl, rfl, by decide⟩
/-- loop.example/g01062/spec.l20Sum -/
def c_spec_l20Sum : Cd :=
 (.seq (.reg [⟨(some 6), (.assign (.const (.int .i64 0))), none⟩])
 (.seq (.seq (.reg [⟨(some 10), (.move (.tmp 0)), none⟩,
   ⟨(some 11), (.move (.tmp 2)), none⟩,
   ⟨(some 12), (.call (.mk (.value (.func 74)) #[(.tmp 10), (.tmp 11)] #[3, 23])), none⟩,
   ⟨(some 13), (.unOp .not 4 (.tmp 12)), none⟩])
 (.cond (.tmp 13) (.seq (.reg [⟨(some 6), (.assign (.const (.int .i64 0))), none⟩])
 .ret) .skip))
 (.seq (.reg [⟨(some 7), (.assign (.const (.int .i64 0))), none⟩])
 (.seq (.seq (.reg [⟨(some 8), (.assign (.const (.int .i64 0))), none⟩])
 (.block 0 (.loop (.seq (.seq (.reg [⟨(some 14), (.move (.tmp 8)), none⟩,
   ⟨(some 15), (.move (.tmp 2)), none⟩,
   ⟨(some 16), (.call (.mk (.builtin .len) #[(.tmp 15)] #[23])), none⟩,
   ⟨(some 17), (.binOp .lss 3 (.tmp 14) (.tmp 16) 3), none⟩])
 (.cond (.tmp 17) .skip (.exit 0)))
 (.seq (.block 1 (.seq (.regq [⟨(some 20), (.move (.tmp 1)), none⟩,
   ⟨(some 21), (.move (.tmp 2)), none⟩,
   ⟨(some 22), (.move (.tmp 8)), none⟩,
   ⟨(some 23), (.indexAddr 23 (.tmp 21) (.tmp 22)), none⟩,
   ⟨(some 24), (.load 3 (.tmp 23)), none⟩,
   ⟨(some 25), (.move (.tmp 2)), none⟩,
   ⟨(some 26), (.move (.tmp 8)), none⟩,
   ⟨(some 27), (.binOp .add 3 (.tmp 26) (.const (.int .i64 1)) 3), none⟩,
   ⟨(some 28), (.move (.tmp 2)), none⟩,
   ⟨(some 29), (.call (.mk (.builtin .len) #[(.tmp 28)] #[23])), none⟩,
   ⟨(some 30), (.binOp .rem 3 (.tmp 27) (.tmp 29) 3), none⟩,
   ⟨(some 31), (.indexAddr 23 (.tmp 25) (.tmp 30)), none⟩,
   ⟨(some 32), (.load 3 (.tmp 31)), none⟩,
   ⟨(some 33), (.call (.mk (.value (.func 75)) #[(.tmp 20), (.tmp 24), (.tmp 32)] #[27, 3, 3])), none⟩,
   ⟨(some 9), (.assign (.tmp 33)), none⟩])
 (.seq (.seq (.reg [⟨(some 34), (.move (.tmp 9)), none⟩,
   ⟨(some 35), (.binOp .eql 3 (.tmp 34) (.const (.int .i64 0)) 3), none⟩])
 (.cond (.tmp 35) (.seq (.reg [⟨(some 6), (.assign (.const (.int .i64 0))), none⟩])
 .ret) .skip))
 (.reg [⟨(some 36), (.move (.tmp 7)), none⟩,
   ⟨(some 37), (.move (.tmp 9)), none⟩,
   ⟨(some 38), (.binOp .add 3 (.tmp 36) (.tmp 37) 3), none⟩,
   ⟨(some 7), (.assign (.tmp 38)), none⟩]))))
 (.reg [⟨(some 18), (.move (.tmp 8)), none⟩,
   ⟨(some 19), (.binOp .add 3 (.tmp 18) (.const (.int .i64 1)) 3), none⟩,
   ⟨(some 8), (.assign (.tmp 19)), none⟩]))))))
 (.seq (.reg [⟨(some 39), (.move (.tmp 7)), none⟩,
   ⟨(some 6), (.assign (.tmp 39)), none⟩])
 .ret)))))
theorem x_spec_l20Sum : Txt Try.prog 47 c_spec_l20Sum [.tmp 6] 3 := ⟨by kernel_rfl, by kernel_rfl, _, _, Try.func47, rfl, by kernel_rfl, by kernel_rfl, by kernel_rfl, rfl, by decide⟩
/-- loop.example/g01062/laws.toWish -/
def c_laws_toWish : Cd :=
 (.seq (.reg [⟨(some 1), (.box 65 (.tmp 0)), none⟩,
   ⟨(some 2), (.alloc 63), none⟩])
 (.seq (.reg [⟨(some 3), (.alloc 63), none⟩])
 (.seq (.reg [⟨(some 4), (.fieldAddr 65 (.tmp 1) 0), none⟩,
   ⟨(some 5), (.load 3 (.tmp 4)), none⟩,
   ⟨(some 6), (.fieldAddr 63 (.tmp 3) 0), none⟩,
   ⟨none, (.store 3 (.tmp 6) (.tmp 5)), none⟩])
 (.seq (.reg [⟨(some 7), (.fieldAddr 65 (.tmp 1) 1), none⟩,
   ⟨(some 8), (.load 3 (.tmp 7)), none⟩,
   ⟨(some 9), (.fieldAddr 63 (.tmp 3) 1), none⟩,
   ⟨none, (.store 3 (.tmp 9) (.tmp 8)), none⟩])
 (.seq (.reg [⟨(some 10), (.fieldAddr 65 (.tmp 1) 2), none⟩,
   ⟨(some 11), (.load 3 (.tmp 10)), none⟩,
   ⟨(some 12), (.fieldAddr 63 (.tmp 3) 2), none⟩,
   ⟨none, (.store 3 (.tmp 12) (.tmp 11)), none⟩])
 (.seq (.reg [⟨(some 13), (.load 63 (.tmp 3)), none⟩,
   ⟨none, (.store 63 (.tmp 2) (.tmp 13)), none⟩])
 .ret))))))
theorem x_laws_toWish : Txt Try.prog 48 c_laws_toWish [.cell 2 63] 1 := ⟨by kernel_rfl, by kernel_rfl, _, _, Try.func48, rfl, by kernel_rfl, by kernel_rfl, by kernel_rfl, rfl, by decide⟩
/-- loop.example/g01062/impl.areWishes -/
def c_impl_areWishes : Cd :=
 (.seq (.reg [⟨(some 4), (.assign (.const (.bool false))), none⟩])
 (.seq (.seq (.reg [⟨(some 7), (.move (.tmp 0)), none⟩,
   ⟨(some 8), (.call (.mk (.value (.func 55)) #[(.tmp 7), (.const (.int .i64 1)), (.const (.int .i64 8))] #[3, 3, 3])), none⟩,
   ⟨(some 9), (.unOp .not 4 (.tmp 8)), none⟩,
   ⟨(some 10), (.move (.tmp 9)), none⟩,
   ⟨(some 11), (.move (.tmp 1)), (some (10, false))⟩,
   ⟨(some 12), (.call (.mk (.builtin .len) #[(.tmp 11)] #[27])), (some (10, false))⟩,
   ⟨(some 13), (.binOp .gtr 3 (.tmp 12) (.const (.int .i64 30)) 3), (some (10, false))⟩,
   ⟨(some 14), (.pick (.tmp 10) (.const (.bool true)) (.tmp 13)), none⟩])
 (.cond (.tmp 14) (.seq (.reg [⟨(some 4), (.assign (.const (.bool false))), none⟩])
 .ret) .skip))
 (.seq (.seq (.reg [⟨(some 15), (.move (.tmp 1)), none⟩,
   ⟨(some 16), (.call (.mk (.builtin .len) #[(.tmp 15)] #[27])), none⟩,
   ⟨(some 17), (.move (.const (.int .i64 0))), none⟩])
 (.block 0 (.loop (.seq (.reg [⟨(some 18), (.binOp .lss 3 (.tmp 17) (.tmp 16) 3), none⟩])
 (.seq (.cond (.tmp 18) .skip (.exit 0))
 (.seq (.block 1 (.seq (.reg [⟨(some 19), (.move (.tmp 17)), none⟩,
   ⟨(some 20), (.indexAddr 27 (.tmp 15) (.tmp 17)), none⟩,
   ⟨(some 21), (.load 63 (.tmp 20)), none⟩,
   ⟨(some 6), (.alloc 63), none⟩,
   ⟨(some 5), (.assign (.tmp 19)), none⟩,
   ⟨none, (.store 63 (.tmp 6) (.tmp 21)), none⟩])
 (.seq (.seq (.reg [⟨(some 22), (.fieldAddr 63 (.tmp 6) 0), none⟩,
   ⟨(some 23), (.load 3 (.tmp 22)), none⟩,
   ⟨(some 24), (.move (.tmp 0)), none⟩,
   ⟨(some 25), (.binOp .sub 3 (.tmp 24) (.const (.int .i64 1)) 3), none⟩,
   ⟨(some 26), (.call (.mk (.value (.func 55)) #[(.tmp 23), (.const (.int .i64 0)), (.tmp 25)] #[3, 3, 3])), none⟩,
   ⟨(some 27), (.unOp .not 4 (.tmp 26)), none⟩,
   ⟨(some 28), (.move (.tmp 27)), none⟩,
   ⟨(some 29), (.fieldAddr 63 (.tmp 6) 1), (some (28, false))⟩,
   ⟨(some 30), (.load 3 (.tmp 29)), (some (28, false))⟩,
   ⟨(some 31), (.move (.tmp 0)), (some (28, false))⟩,
   ⟨(some 32), (.binOp .sub 3 (.tmp 31) (.const (.int .i64 1)) 3), (some (28, false))⟩,
   ⟨(some 33), (.call (.mk (.value (.func 55)) #[(.tmp 30), (.const (.int .i64 0)), (.tmp 32)] #[3, 3, 3])), (some (28, false))⟩,
   ⟨(some 34), (.unOp .not 4 (.tmp 33)), (some (28, false))⟩,
   ⟨(some 35), (.pick (.tmp 28) (.const (.bool true)) (.tmp 34)), none⟩,
   ⟨(some 36), (.move (.tmp 35)), none⟩,
   ⟨(some 37), (.fieldAddr 63 (.tmp 6) 0), (some (36, false))⟩,
   ⟨(some 38), (.load 3 (.tmp 37)), (some (36, false))⟩,
   ⟨(some 39), (.fieldAddr 63 (.tmp 6) 1), (some (36, false))⟩,
   ⟨(some 40), (.load 3 (.tmp 39)), (some (36, false))⟩,
   ⟨(some 41), (.binOp .eql 3 (.tmp 38) (.tmp 40) 3), (some (36, false))⟩,
   ⟨(some 42), (.pick (.tmp 36) (.const (.bool true)) (.tmp 41)), none⟩,
   ⟨(some 43), (.move (.tmp 42)), none⟩,
   ⟨(some 44), (.fieldAddr 63 (.tmp 6) 2), (some (43, false))⟩,
   ⟨(some 45), (.load 3 (.tmp 44)), (some (43, false))⟩,
   ⟨(some 46), (.call (.mk (.value (.func 55)) #[(.tmp 45), (.const (.int .i64 1)), (.const (.int .i64 1000))] #[3, 3, 3])), (some (43, false))⟩,
   ⟨(some 47), (.unOp .not 4 (.tmp 46)), (some (43, false))⟩,
   ⟨(some 48), (.pick (.tmp 43) (.const (.bool true)) (.tmp 47)), none⟩])
 (.cond (.tmp 48) (.seq (.reg [⟨(some 4), (.assign (.const (.bool false))), none⟩])
 .ret) .skip))
 (.seq (.regt [⟨(some 49), (.move (.tmp 5)), none⟩,
   ⟨(some 50), (.binOp .gtr 3 (.tmp 49) (.const (.int .i64 0)) 3), none⟩,
   ⟨(some 51), (.move (.tmp 50)), none⟩,
   ⟨(some 52), (.move (.tmp 1)), (some (51, true))⟩,
   ⟨(some 53), (.move (.tmp 5)), (some (51, true))⟩,
   ⟨(some 54), (.binOp .sub 3 (.tmp 53) (.const (.int .i64 1)) 3), (some (51, true))⟩,
   ⟨(some 55), (.indexAddr 27 (.tmp 52) (.tmp 54)), (some (51, true))⟩,
   ⟨(some 56), (.fieldAddr 63 (.tmp 55) 0), (some (51, true))⟩,
   ⟨(some 57), (.load 3 (.tmp 56)), (some (51, true))⟩,
   ⟨(some 58), (.fieldAddr 63 (.tmp 6) 0), (some (51, true))⟩,
   ⟨(some 59), (.load 3 (.tmp 58)), (some (51, true))⟩,
   ⟨(some 61), (.move (.tmp 1)), (some (51, true))⟩,
   ⟨(some 62), (.move (.tmp 5)), (some (51, true))⟩,
   ⟨(some 63), (.binOp .sub 3 (.tmp 62) (.const (.int .i64 1)) 3), (some (51, true))⟩,
   ⟨(some 64), (.indexAddr 27 (.tmp 61) (.tmp 63)), (some (51, true))⟩,
   ⟨(some 65), (.fieldAddr 63 (.tmp 64) 1), (some (51, true))⟩,
   ⟨(some 66), (.load 3 (.tmp 65)), (some (51, true))⟩,
   ⟨(some 67), (.fieldAddr 63 (.tmp 6) 1), (some (51, true))⟩,
   ⟨(some 68), (.load 3 (.tmp 67)), (some (51, true))⟩] (.one true ⟨(some 60), (.call (.mk (.value (.func 77)) #[(.tmp 57), (.tmp 59)] #[3, 3])), (some (51, true))⟩
   (.one false ⟨(some 69), (.call (.mk (.value (.func 77)) #[(.tmp 66), (.tmp 68)] #[3, 3])), (some (51, true))⟩
   (.one false ⟨(some 70), (.buildSlice 23 2 #[(0, (.tmp 60)), (1, (.tmp 69))]), (some (51, true))⟩
   (.one false ⟨(some 71), (.call (.mk (.value (.func 76)) #[(.tmp 70)] #[23])), (some (51, true))⟩
   (.one false ⟨(some 72), (.binOp .geq 3 (.tmp 71) (.const (.int .i64 0)) 3), (some (51, true))⟩
   (.one false ⟨(some 73), (.pick (.tmp 51) (.tmp 72) (.const (.bool false))), none⟩
   .done)))))) [])
 (.cond (.tmp 73) (.seq (.reg [⟨(some 4), (.assign (.const (.bool false))), none⟩])
 .ret) .skip)))))
 (.reg [⟨(some 74), (.binOp .add 3 (.tmp 17) (.const (.int .i64 1)) 3), none⟩,
   ⟨(some 17), (.move (.tmp 74)), none⟩])))))))
 (.seq (.reg [⟨(some 4), (.assign (.const (.bool true))), none⟩])
 .ret))))
theorem x_impl_areWishes : Txt Try.prog 49 c_impl_areWishes [.tmp 4] 2 := ⟨by kernel_rfl, by kernel_rfl, _, _, Try.func49, rfl, by kernel_rfl, by kernel_rfl, by kernel_rfl, rfl, by decide⟩
/-- loop.example/g01062/impl.isCircle -/
def c_impl_isCircle : Cd :=
 (.seq (.reg [⟨(some 6), (.assign (.const (.bool false))), none⟩])
 (.seq (.seq (.reg [⟨(some 9), (.move (.tmp 0)), none⟩,
   ⟨(some 10), (.move (.tmp 2)), none⟩,
   ⟨(some 11), (.call (.mk (.value (.func 78)) #[(.tmp 9), (.tmp 10)] #[3, 23])), none⟩,
   ⟨(some 12), (.unOp .not 4 (.tmp 11)), none⟩])
 (.cond (.tmp 12) (.seq (.reg [⟨(some 6), (.assign (.const (.bool false))), none⟩])
 .ret) .skip))
 (.seq (.seq (.reg [⟨(some 13), (.move (.tmp 2)), none⟩,
   ⟨(some 14), (.call (.mk (.builtin .len) #[(.tmp 13)] #[23])), none⟩,
   ⟨(some 15), (.move (.const (.int .i64 0))), none⟩])
 (.block 0 (.loop (.seq (.reg [⟨(some 16), (.binOp .lss 3 (.tmp 15) (.tmp 14) 3), none⟩])
 (.seq (.cond (.tmp 16) .skip (.exit 0))
 (.seq (.block 1 (.seq (.reg [⟨(some 17), (.move (.tmp 15)), none⟩,
   ⟨(some 18), (.indexAddr 23 (.tmp 13) (.tmp 15)), none⟩,
   ⟨(some 19), (.load 3 (.tmp 18)), none⟩,
   ⟨(some 7), (.assign (.tmp 17)), none⟩,
   ⟨(some 8), (.assign (.tmp 19)), none⟩])
 (.seq (.reg [⟨(some 20), (.move (.tmp 1)), none⟩,
   ⟨(some 21), (.move (.tmp 8)), none⟩,
   ⟨(some 22), (.move (.tmp 2)), none⟩,
   ⟨(some 23), (.move (.tmp 7)), none⟩,
   ⟨(some 24), (.binOp .add 3 (.tmp 23) (.const (.int .i64 1)) 3), none⟩,
   ⟨(some 25), (.move (.tmp 2)), none⟩,
   ⟨(some 26), (.call (.mk (.builtin .len) #[(.tmp 25)] #[23])), none⟩,
   ⟨(some 27), (.binOp .rem 3 (.tmp 24) (.tmp 26) 3), none⟩,
   ⟨(some 28), (.indexAddr 23 (.tmp 22) (.tmp 27)), none⟩,
   ⟨(some 29), (.load 3 (.tmp 28)), none⟩,
   ⟨(some 30), (.call (.mk (.value (.func 79)) #[(.tmp 20), (.tmp 21), (.tmp 29)] #[27, 3, 3])), none⟩,
   ⟨(some 31), (.binOp .eql 3 (.tmp 30) (.const (.int .i64 0)) 3), none⟩])
 (.cond (.tmp 31) (.seq (.reg [⟨(some 6), (.assign (.const (.bool false))), none⟩])
 .ret) .skip))))
 (.reg [⟨(some 32), (.binOp .add 3 (.tmp 15) (.const (.int .i64 1)) 3), none⟩,
   ⟨(some 15), (.move (.tmp 32)), none⟩])))))))
 (.seq (.reg [⟨(some 6), (.assign (.const (.bool true))), none⟩])
 .ret))))
theorem x_impl_isCircle : Txt Try.prog 50 c_impl_isCircle [.tmp 6] 3 := ⟨by kernel_rfl, by kernel_rfl, _, _, Try.func50, rfl, by kernel_rfl, by kernel_rfl, by kernel_rfl, rfl, by decide⟩
/-- loop.example/g01062/impl.gainOf -/
def c_impl_gainOf : Cd :=
 (.seq (.reg [⟨(some 4), (.assign (.const (.int .i64 0))), none⟩])
 (.seq (.reg [⟨(some 5), (.assign (.const (.int .i64 0))), none⟩])
 (.seq (.seq (.reg [⟨(some 8), (.move (.tmp 1)), none⟩,
   ⟨(some 9), (.call (.mk (.builtin .len) #[(.tmp 8)] #[23])), none⟩,
   ⟨(some 10), (.move (.const (.int .i64 0))), none⟩])
 (.block 0 (.loop (.seq (.reg [⟨(some 11), (.binOp .lss 3 (.tmp 10) (.tmp 9) 3), none⟩])
 (.seq (.cond (.tmp 11) .skip (.exit 0))
 (.seq (.block 1 (.seq (.reg [⟨(some 12), (.move (.tmp 10)), none⟩,
   ⟨(some 13), (.indexAddr 23 (.tmp 8) (.tmp 10)), none⟩,
   ⟨(some 14), (.load 3 (.tmp 13)), none⟩,
   ⟨(some 6), (.assign (.tmp 12)), none⟩,
   ⟨(some 7), (.assign (.tmp 14)), none⟩])
 (.reg [⟨(some 15), (.move (.tmp 5)), none⟩,
   ⟨(some 16), (.move (.tmp 0)), none⟩,
   ⟨(some 17), (.move (.tmp 7)), none⟩,
   ⟨(some 18), (.move (.tmp 1)), none⟩,
   ⟨(some 19), (.move (.tmp 6)), none⟩,
   ⟨(some 20), (.binOp .add 3 (.tmp 19) (.const (.int .i64 1)) 3), none⟩,
   ⟨(some 21), (.move (.tmp 1)), none⟩,
   ⟨(some 22), (.call (.mk (.builtin .len) #[(.tmp 21)] #[23])), none⟩,
   ⟨(some 23), (.binOp .rem 3 (.tmp 20) (.tmp 22) 3), none⟩,
   ⟨(some 24), (.indexAddr 23 (.tmp 18) (.tmp 23)), none⟩,
   ⟨(some 25), (.load 3 (.tmp 24)), none⟩,
   ⟨(some 26), (.call (.mk (.value (.func 79)) #[(.tmp 16), (.tmp 17), (.tmp 25)] #[27, 3, 3])), none⟩,
   ⟨(some 27), (.binOp .add 3 (.tmp 15) (.tmp 26) 3), none⟩,
   ⟨(some 5), (.assign (.tmp 27)), none⟩])))
 (.reg [⟨(some 28), (.binOp .add 3 (.tmp 10) (.const (.int .i64 1)) 3), none⟩,
   ⟨(some 10), (.move (.tmp 28)), none⟩])))))))
 (.seq (.reg [⟨(some 29), (.move (.tmp 5)), none⟩,
   ⟨(some 4), (.assign (.tmp 29)), none⟩])
 .ret))))
theorem x_impl_gainOf : Txt Try.prog 51 c_impl_gainOf [.tmp 4] 2 := ⟨by kernel_rfl, by kernel_rfl, _, _, Try.func51, rfl, by kernel_rfl, by kernel_rfl, by kernel_rfl, rfl, by decide⟩
/-- loop.example/g01062/laws.eqWish -/
def c_laws_eqWish : Cd :=
 (.seq (.reg [⟨(some 2), (.box 63 (.tmp 0)), none⟩,
   ⟨(some 3), (.box 63 (.tmp 1)), none⟩,
   ⟨(some 4), (.assign (.const (.bool false))), none⟩])
 (.seq (.seq (.reg [⟨(some 5), (.fieldAddr 63 (.tmp 2) 0), none⟩,
   ⟨(some 6), (.load 3 (.tmp 5)), none⟩,
   ⟨(some 7), (.fieldAddr 63 (.tmp 3) 0), none⟩,
   ⟨(some 8), (.load 3 (.tmp 7)), none⟩,
   ⟨(some 9), (.binOp .neq 3 (.tmp 6) (.tmp 8) 3), none⟩])
 (.cond (.tmp 9) (.seq (.reg [⟨(some 4), (.assign (.const (.bool false))), none⟩])
 .ret) .skip))
 (.seq (.seq (.reg [⟨(some 10), (.fieldAddr 63 (.tmp 2) 1), none⟩,
   ⟨(some 11), (.load 3 (.tmp 10)), none⟩,
   ⟨(some 12), (.fieldAddr 63 (.tmp 3) 1), none⟩,
   ⟨(some 13), (.load 3 (.tmp 12)), none⟩,
   ⟨(some 14), (.binOp .neq 3 (.tmp 11) (.tmp 13) 3), none⟩])
 (.cond (.tmp 14) (.seq (.reg [⟨(some 4), (.assign (.const (.bool false))), none⟩])
 .ret) .skip))
 (.seq (.seq (.reg [⟨(some 15), (.fieldAddr 63 (.tmp 2) 2), none⟩,
   ⟨(some 16), (.load 3 (.tmp 15)), none⟩,
   ⟨(some 17), (.fieldAddr 63 (.tmp 3) 2), none⟩,
   ⟨(some 18), (.load 3 (.tmp 17)), none⟩,
   ⟨(some 19), (.binOp .neq 3 (.tmp 16) (.tmp 18) 3), none⟩])
 (.cond (.tmp 19) (.seq (.reg [⟨(some 4), (.assign (.const (.bool false))), none⟩])
 .ret) .skip))
 (.seq (.reg [⟨(some 4), (.assign (.const (.bool true))), none⟩])
 .ret)))))
theorem x_laws_eqWish : Txt Try.prog 52 c_laws_eqWish [.tmp 4] 2 := ⟨by kernel_rfl, by kernel_rfl, _, _, Try.func52, rfl, by kernel_rfl, by kernel_rfl, by kernel_rfl, rfl, by decide⟩
/-- loop.example/g01062/spec.l20Person -/
def c_spec_l20Person : Cd :=
 (.seq (.reg [⟨(some 4), (.assign (.const (.bool false))), none⟩])
 (.seq (.reg [⟨(some 5), (.move (.tmp 1)), none⟩,
   ⟨(some 6), (.binOp .geq 3 (.tmp 5) (.const (.int .i64 0)) 3), none⟩,
   ⟨(some 7), (.move (.tmp 6)), none⟩,
   ⟨(some 8), (.move (.tmp 1)), (some (7, true))⟩,
   ⟨(some 9), (.move (.tmp 0)), (some (7, true))⟩,
   ⟨(some 10), (.binOp .lss 3 (.tmp 8) (.tmp 9) 3), (some (7, true))⟩,
   ⟨(some 11), (.pick (.tmp 7) (.tmp 10) (.const (.bool false))), none⟩,
   ⟨(some 4), (.assign (.tmp 11)), none⟩])
 .ret))
theorem x_spec_l20Person : Txt Try.prog 53 c_spec_l20Person [.tmp 4] 2 := ⟨by kernel_rfl, by kernel_rfl, _, _, Try.func53, rfl, by kernel_rfl, by kernel_rfl, by kernel_rfl, rfl, by decide⟩
/-- loop.example/g01062/spec.l20From -/
def c_spec_l20From : Cd :=
 (.seq (.reg [⟨(some 8), (.assign (.const (.slice none 0 0))), none⟩])
 (.seq (.reg [⟨(some 12), (.buildSlice 33 0 #[]), none⟩,
   ⟨(some 9), (.assign (.tmp 12)), none⟩])
 (.seq (.reg [⟨(some 13), (.move (.tmp 2)), none⟩,
   ⟨(some 14), (.move (.tmp 2)), none⟩,
   ⟨(some 15), (.call (.mk (.builtin .len) #[(.tmp 14)] #[23])), none⟩,
   ⟨(some 16), (.binOp .sub 3 (.tmp 15) (.const (.int .i64 1)) 3), none⟩,
   ⟨(some 17), (.indexAddr 23 (.tmp 13) (.tmp 16)), none⟩,
   ⟨(some 18), (.load 3 (.tmp 17)), none⟩,
   ⟨(some 10), (.assign (.tmp 18)), none⟩])
 (.seq (.seq (.reg [⟨(some 19), (.move (.tmp 2)), none⟩,
   ⟨(some 20), (.call (.mk (.builtin .len) #[(.tmp 19)] #[23])), none⟩,
   ⟨(some 21), (.binOp .gtr 3 (.tmp 20) (.const (.int .i64 1)) 3), none⟩,
   ⟨(some 22), (.move (.tmp 21)), none⟩,
   ⟨(some 23), (.move (.tmp 1)), (some (22, true))⟩,
   ⟨(some 24), (.move (.tmp 10)), (some (22, true))⟩,
   ⟨(some 25), (.move (.tmp 2)), (some (22, true))⟩,
   ⟨(some 26), (.indexAddr 23 (.tmp 25) (.const (.int .i64 0))), (some (22, true))⟩,
   ⟨(some 27), (.load 3 (.tmp 26)), (some (22, true))⟩,
   ⟨(some 28), (.call (.mk (.value (.func 75)) #[(.tmp 23), (.tmp 24), (.tmp 27)] #[27, 3, 3])), (some (22, true))⟩,
   ⟨(some 29), (.binOp .gtr 3 (.tmp 28) (.const (.int .i64 0)) 3), (some (22, true))⟩,
   ⟨(some 30), (.pick (.tmp 22) (.tmp 29) (.const (.bool false))), none⟩])
 (.cond (.tmp 30) (.reg [⟨(some 31), (.move (.tmp 9)), none⟩,
   ⟨(some 32), (.move (.tmp 2)), none⟩,
   ⟨(some 33), (.call (.mk (.value (.func 65)) #[(.tmp 32)] #[23])), none⟩,
   ⟨(some 34), (.buildSlice 33 1 #[(0, (.tmp 33))]), none⟩,
   ⟨(some 35), (.call (.mk (.builtin .append) #[(.tmp 31), (.tmp 34)] #[33, 33])), none⟩,
   ⟨(some 9), (.assign (.tmp 35)), none⟩]) .skip))
 (.seq (.seq (.reg [⟨(some 36), (.move (.tmp 2)), none⟩,
   ⟨(some 37), (.indexAddr 23 (.tmp 36) (.const (.int .i64 0))), none⟩,
   ⟨(some 38), (.load 3 (.tmp 37)), none⟩,
   ⟨(some 39), (.binOp .add 3 (.tmp 38) (.const (.int .i64 1)) 3), none⟩,
   ⟨(some 11), (.assign (.tmp 39)), none⟩])
 (.block 0 (.loop (.seq (.seq (.reg [⟨(some 40), (.move (.tmp 11)), none⟩,
   ⟨(some 41), (.move (.tmp 0)), none⟩,
   ⟨(some 42), (.binOp .lss 3 (.tmp 40) (.tmp 41) 3), none⟩,
   ⟨(some 43), (.move (.tmp 42)), none⟩,
   ⟨(some 44), (.move (.tmp 9)), (some (43, true))⟩,
   ⟨(some 45), (.call (.mk (.builtin .len) #[(.tmp 44)] #[33])), (some (43, true))⟩,
   ⟨(some 46), (.move (.tmp 3)), (some (43, true))⟩,
   ⟨(some 47), (.binOp .lss 3 (.tmp 45) (.tmp 46) 3), (some (43, true))⟩,
   ⟨(some 48), (.pick (.tmp 43) (.tmp 47) (.const (.bool false))), none⟩])
 (.cond (.tmp 48) .skip (.exit 0)))
 (.seq (.block 1 (.seq (.reg [⟨(some 51), (.move (.tmp 2)), none⟩,
   ⟨(some 52), (.move (.tmp 11)), none⟩,
   ⟨(some 53), (.call (.mk (.value (.func 61)) #[(.tmp 51), (.tmp 52)] #[23, 3])), none⟩,
   ⟨(some 54), (.unOp .not 4 (.tmp 53)), none⟩,
   ⟨(some 55), (.move (.tmp 54)), none⟩,
   ⟨(some 56), (.move (.tmp 1)), (some (55, true))⟩,
   ⟨(some 57), (.move (.tmp 10)), (some (55, true))⟩,
   ⟨(some 58), (.move (.tmp 11)), (some (55, true))⟩,
   ⟨(some 59), (.call (.mk (.value (.func 75)) #[(.tmp 56), (.tmp 57), (.tmp 58)] #[27, 3, 3])), (some (55, true))⟩,
   ⟨(some 60), (.binOp .gtr 3 (.tmp 59) (.const (.int .i64 0)) 3), (some (55, true))⟩,
   ⟨(some 61), (.pick (.tmp 55) (.tmp 60) (.const (.bool false))), none⟩])
 (.cond (.tmp 61) (.reg [⟨(some 62), (.move (.tmp 9)), none⟩,
   ⟨(some 63), (.move (.tmp 0)), none⟩,
   ⟨(some 64), (.move (.tmp 1)), none⟩,
   ⟨(some 65), (.move (.tmp 2)), none⟩,
   ⟨(some 66), (.call (.mk (.value (.func 65)) #[(.tmp 65)] #[23])), none⟩,
   ⟨(some 67), (.move (.tmp 11)), none⟩,
   ⟨(some 68), (.buildSlice 23 1 #[(0, (.tmp 67))]), none⟩,
   ⟨(some 69), (.call (.mk (.builtin .append) #[(.tmp 66), (.tmp 68)] #[23, 23])), none⟩,
   ⟨(some 70), (.move (.tmp 3)), none⟩,
   ⟨(some 71), (.call (.mk (.value (.func 54)) #[(.tmp 63), (.tmp 64), (.tmp 69), (.tmp 70)] #[3, 27, 23, 3])), none⟩,
   ⟨(some 72), (.call (.mk (.builtin .append) #[(.tmp 62), (.tmp 71)] #[33, 33])), none⟩,
   ⟨(some 9), (.assign (.tmp 72)), none⟩]) .skip)))
 (.reg [⟨(some 49), (.move (.tmp 11)), none⟩,
   ⟨(some 50), (.binOp .add 3 (.tmp 49) (.const (.int .i64 1)) 3), none⟩,
   ⟨(some 11), (.assign (.tmp 50)), none⟩]))))))
 (.seq (.reg [⟨(some 73), (.move (.tmp 9)), none⟩,
   ⟨(some 8), (.assign (.tmp 73)), none⟩])
 .ret))))))
theorem x_spec_l20From : Txt Try.prog 54 c_spec_l20From [.tmp 8] 4 := ⟨by kernel_rfl, by kernel_rfl, _, _, Try.func54, rfl, by kernel_rfl, by kernel_rfl, by kernel_rfl, rfl, by decide⟩
/-- loop.example/g01062/impl.inRange -/
def c_impl_inRange : Cd :=
 (.seq (.reg [⟨(some 6), (.assign (.const (.bool false))), none⟩])
 (.seq (.reg [⟨(some 7), (.move (.tmp 0)), none⟩,
   ⟨(some 8), (.move (.tmp 1)), none⟩,
   ⟨(some 9), (.binOp .geq 3 (.tmp 7) (.tmp 8) 3), none⟩,
   ⟨(some 10), (.move (.tmp 9)), none⟩,
   ⟨(some 11), (.move (.tmp 0)), (some (10, true))⟩,
   ⟨(some 12), (.move (.tmp 2)), (some (10, true))⟩,
   ⟨(some 13), (.binOp .leq 3 (.tmp 11) (.tmp 12) 3), (some (10, true))⟩,
   ⟨(some 14), (.pick (.tmp 10) (.tmp 13) (.const (.bool false))), none⟩,
   ⟨(some 6), (.assign (.tmp 14)), none⟩])
 .ret))
theorem x_impl_inRange : Txt Try.prog 55 c_impl_inRange [.tmp 6] 3 := ⟨by kernel_rfl, by kernel_rfl, _, _, Try.func55, rfl, by kernel_rfl, by kernel_rfl, by kernel_rfl, rfl, by decide⟩
/-- loop.example/g01062/impl.circlesOf -/
def c_impl_circlesOf : Cd :=
 (.seq (.reg [⟨(some 3), (.box 3 (.tmp 0)), none⟩,
   ⟨(some 4), (.box 27 (.tmp 1)), none⟩,
   ⟨(some 5), (.box 3 (.tmp 2)), none⟩,
   ⟨(some 6), (.assign (.const (.slice none 0 0))), none⟩])
 (.seq (.reg [⟨(some 7), (.alloc 33), none⟩])
 (.seq (.reg [⟨(some 8), (.alloc 90), none⟩])
 (.seq (.reg [⟨(some 9), (.makeFunc (.func 80) #[] #[(.tmp 4), (.tmp 5), (.tmp 7), (.tmp 3), (.tmp 8)]), none⟩,
   ⟨none, (.store 90 (.tmp 8) (.tmp 9)), none⟩])
 (.seq (.reg [⟨(some 10), (.load 90 (.tmp 8)), none⟩,
   ⟨(some 11), (.load 3 (.tmp 5)), none⟩,
   ⟨(some 12), (.buildSlice 23 1 #[(0, (.tmp 11))]), none⟩,
   ⟨(some 13), (.call (.mk (.value (.tmp 10)) #[(.tmp 12)] #[23])), none⟩])
 (.seq (.reg [⟨(some 14), (.load 33 (.tmp 7)), none⟩,
   ⟨(some 6), (.assign (.tmp 14)), none⟩])
 .ret))))))
theorem x_impl_circlesOf : Txt Try.prog 56 c_impl_circlesOf [.tmp 6] 3 := ⟨by kernel_rfl, by kernel_rfl, _, _, Try.func56, rfl, by kernel_rfl, by kernel_rfl, by kernel_rfl, rfl, by decide⟩
/-- loop.example/g01062/spec.l20All -/
def c_spec_l20All : Cd :=
 (.seq (.reg [⟨(some 4), (.assign (.const (.slice none 0 0))), none⟩])
 (.seq (.reg [⟨(some 7), (.buildSlice 33 0 #[]), none⟩,
   ⟨(some 5), (.assign (.tmp 7)), none⟩])
 (.seq (.seq (.reg [⟨(some 6), (.assign (.const (.int .i64 0))), none⟩])
 (.block 0 (.loop (.seq (.seq (.reg [⟨(some 8), (.move (.tmp 6)), none⟩,
   ⟨(some 9), (.move (.tmp 0)), none⟩,
   ⟨(some 10), (.binOp .lss 3 (.tmp 8) (.tmp 9) 3), none⟩])
 (.cond (.tmp 10) .skip (.exit 0)))
 (.seq (.block 1 (.reg [⟨(some 13), (.move (.tmp 5)), none⟩,
   ⟨(some 14), (.move (.tmp 0)), none⟩,
   ⟨(some 15), (.move (.tmp 1)), none⟩,
   ⟨(some 16), (.move (.tmp 6)), none⟩,
   ⟨(some 17), (.buildSlice 23 1 #[(0, (.tmp 16))]), none⟩,
   ⟨(some 18), (.call (.mk (.value (.func 54)) #[(.tmp 14), (.tmp 15), (.tmp 17), (.const (.int .i64 1000000))] #[3, 27, 23, 3])), none⟩,
   ⟨(some 19), (.call (.mk (.builtin .append) #[(.tmp 13), (.tmp 18)] #[33, 33])), none⟩,
   ⟨(some 5), (.assign (.tmp 19)), none⟩]))
 (.reg [⟨(some 11), (.move (.tmp 6)), none⟩,
   ⟨(some 12), (.binOp .add 3 (.tmp 11) (.const (.int .i64 1)) 3), none⟩,
   ⟨(some 6), (.assign (.tmp 12)), none⟩]))))))
 (.seq (.reg [⟨(some 20), (.move (.tmp 5)), none⟩,
   ⟨(some 4), (.assign (.tmp 20)), none⟩])
 .ret))))
theorem x_spec_l20All : Txt Try.prog 57 c_spec_l20All [.tmp 4] 2 := ⟨by kernel_rfl, by kernel_rfl, _, _, Try.func57, rfl, by kernel_rfl, by kernel_rfl, by kernel_rfl, rfl, by decide⟩
/-- loop.example/g01062/impl.allCircles -/
def c_impl_allCircles : Cd :=
 (.seq (.reg [⟨(some 4), (.assign (.const (.slice none 0 0))), none⟩])
 (.seq (.reg [⟨(some 5), (.assign (.const (.slice none 0 0))), none⟩])
 (.seq (.seq (.reg [⟨(some 7), (.move (.tmp 0)), none⟩,
   ⟨(some 8), (.move (.const (.int .i64 0))), none⟩])
 (.block 0 (.loop (.seq (.reg [⟨(some 9), (.binOp .lss 3 (.tmp 8) (.tmp 7) 3), none⟩])
 (.seq (.cond (.tmp 9) .skip (.exit 0))
 (.seq (.block 1 (.seq (.reg [⟨(some 10), (.move (.tmp 8)), none⟩,
   ⟨(some 6), (.assign (.tmp 10)), none⟩])
 (.reg [⟨(some 11), (.move (.tmp 5)), none⟩,
   ⟨(some 12), (.move (.tmp 0)), none⟩,
   ⟨(some 13), (.move (.tmp 1)), none⟩,
   ⟨(some 14), (.move (.tmp 6)), none⟩,
   ⟨(some 15), (.call (.mk (.value (.func 56)) #[(.tmp 12), (.tmp 13), (.tmp 14)] #[3, 27, 3])), none⟩,
   ⟨(some 16), (.call (.mk (.builtin .append) #[(.tmp 11), (.tmp 15)] #[33, 33])), none⟩,
   ⟨(some 5), (.assign (.tmp 16)), none⟩])))
 (.reg [⟨(some 17), (.binOp .add 3 (.tmp 8) (.const (.int .i64 1)) 3), none⟩,
   ⟨(some 8), (.move (.tmp 17)), none⟩])))))))
 (.seq (.reg [⟨(some 18), (.move (.tmp 5)), none⟩,
   ⟨(some 4), (.assign (.tmp 18)), none⟩])
 .ret))))
theorem x_impl_allCircles : Txt Try.prog 58 c_impl_allCircles [.tmp 4] 2 := ⟨by kernel_rfl, by kernel_rfl, _, _, Try.func58, rfl, by kernel_rfl, by kernel_rfl, by kernel_rfl, rfl, by decide⟩
/-- loop.example/g01062/laws.szIntS -/
def c_laws_szIntS : Cd :=
 (.seq (.reg [⟨(some 4), (.assign (.const (.int .i64 0))), none⟩])
 (.seq (.reg [⟨(some 5), (.move (.tmp 1)), none⟩,
   ⟨(some 6), (.move (.tmp 0)), none⟩,
   ⟨(some 7), (.call (.mk (.builtin .len) #[(.tmp 6)] #[23])), none⟩,
   ⟨(some 8), (.binOp .sub 3 (.tmp 5) (.tmp 7) 3), none⟩,
   ⟨(some 1), (.assign (.tmp 8)), none⟩])
 (.seq (.seq (.reg [⟨(some 9), (.move (.tmp 1)), none⟩,
   ⟨(some 10), (.binOp .lss 3 (.tmp 9) (.const (.int .i64 0)) 3), none⟩])
 (.cond (.tmp 10) (.seq (.reg [⟨(some 4), (.assign (.const (.int .i64 (-1)))), none⟩])
 .ret) .skip))
 (.seq (.reg [⟨(some 11), (.move (.tmp 1)), none⟩,
   ⟨(some 4), (.assign (.tmp 11)), none⟩])
 .ret))))
theorem x_laws_szIntS : Txt Try.prog 59 c_laws_szIntS [.tmp 4] 2 := ⟨by kernel_rfl, by kernel_rfl, _, _, Try.func59, rfl, by kernel_rfl, by kernel_rfl, by kernel_rfl, rfl, by decide⟩
/-- loop.example/g01062/spec.l20Apart -/
def c_spec_l20Apart : Cd :=
 (.seq (.reg [⟨(some 4), (.assign (.const (.bool false))), none⟩])
 (.seq (.seq (.reg [⟨(some 5), (.assign (.const (.int .i64 0))), none⟩])
 (.block 0 (.loop (.seq (.seq (.reg [⟨(some 6), (.move (.tmp 5)), none⟩,
   ⟨(some 7), (.move (.tmp 0)), none⟩,
   ⟨(some 8), (.call (.mk (.builtin .len) #[(.tmp 7)] #[23])), none⟩,
   ⟨(some 9), (.binOp .lss 3 (.tmp 6) (.tmp 8) 3), none⟩])
 (.cond (.tmp 9) .skip (.exit 0)))
 (.seq (.block 1 (.seq (.reg [⟨(some 12), (.move (.tmp 1)), none⟩,
   ⟨(some 13), (.move (.tmp 0)), none⟩,
   ⟨(some 14), (.move (.tmp 5)), none⟩,
   ⟨(some 15), (.indexAddr 23 (.tmp 13) (.tmp 14)), none⟩,
   ⟨(some 16), (.load 3 (.tmp 15)), none⟩,
   ⟨(some 17), (.call (.mk (.value (.func 61)) #[(.tmp 12), (.tmp 16)] #[23, 3])), none⟩])
 (.cond (.tmp 17) (.seq (.reg [⟨(some 4), (.assign (.const (.bool false))), none⟩])
 .ret) .skip)))
 (.reg [⟨(some 10), (.move (.tmp 5)), none⟩,
   ⟨(some 11), (.binOp .add 3 (.tmp 10) (.const (.int .i64 1)) 3), none⟩,
   ⟨(some 5), (.assign (.tmp 11)), none⟩]))))))
 (.seq (.reg [⟨(some 4), (.assign (.const (.bool true))), none⟩])
 .ret)))
theorem x_spec_l20Apart : Txt Try.prog 60 c_spec_l20Apart [.tmp 4] 2 := ⟨by kernel_rfl, by kernel_rfl, _, _, Try.func60, rfl, by kernel_rfl, by kernel_rfl, by kernel_rfl, rfl, by decide⟩
/-- loop.example/g01062/spec.l1Has -/
def c_spec_l1Has : Cd :=
 (.seq (.reg [⟨(some 4), (.assign (.const (.bool false))), none⟩])
 (.seq (.seq (.reg [⟨(some 5), (.assign (.const (.int .i64 0))), none⟩])
 (.block 0 (.loop (.seq (.seq (.reg [⟨(some 6), (.move (.tmp 5)), none⟩,
   ⟨(some 7), (.move (.tmp 0)), none⟩,
   ⟨(some 8), (.call (.mk (.builtin .len) #[(.tmp 7)] #[23])), none⟩,
   ⟨(some 9), (.binOp .lss 3 (.tmp 6) (.tmp 8) 3), none⟩])
 (.cond (.tmp 9) .skip (.exit 0)))
 (.seq (.block 1 (.seq (.reg [⟨(some 12), (.move (.tmp 0)), none⟩,
   ⟨(some 13), (.move (.tmp 5)), none⟩,
   ⟨(some 14), (.indexAddr 23 (.tmp 12) (.tmp 13)), none⟩,
   ⟨(some 15), (.load 3 (.tmp 14)), none⟩,
   ⟨(some 16), (.move (.tmp 1)), none⟩,
   ⟨(some 17), (.binOp .eql 3 (.tmp 15) (.tmp 16) 3), none⟩])
 (.cond (.tmp 17) (.seq (.reg [⟨(some 4), (.assign (.const (.bool true))), none⟩])
 .ret) .skip)))
 (.reg [⟨(some 10), (.move (.tmp 5)), none⟩,
   ⟨(some 11), (.binOp .add 3 (.tmp 10) (.const (.int .i64 1)) 3), none⟩,
   ⟨(some 5), (.assign (.tmp 11)), none⟩]))))))
 (.seq (.reg [⟨(some 4), (.assign (.const (.bool false))), none⟩])
 .ret)))
theorem x_spec_l1Has : Txt Try.prog 61 c_spec_l1Has [.tmp 4] 2 := ⟨by kernel_rfl, by kernel_rfl, _, _, Try.func61, rfl, by kernel_rfl, by kernel_rfl, by kernel_rfl, rfl, by decide⟩
/-- loop.example/g01062/spec.l20Search -/
def c_spec_l20Search : Cd :=
 (.seq (.reg [⟨(some 18), (.assign (.const (.slice none 0 0))), none⟩,
   ⟨(some 19), (.assign (.const (.int .i64 0))), none⟩])
 (.seq (.seq (.reg [⟨(some 25), (.move (.tmp 5)), none⟩,
   ⟨(some 26), (.move (.tmp 7)), none⟩,
   ⟨(some 27), (.binOp .gtr 3 (.tmp 25) (.tmp 26) 3), none⟩,
   ⟨(some 28), (.move (.tmp 27)), none⟩,
   ⟨(some 29), (.move (.tmp 5)), (some (28, false))⟩,
   ⟨(some 30), (.move (.tmp 7)), (some (28, false))⟩,
   ⟨(some 31), (.binOp .eql 3 (.tmp 29) (.tmp 30) 3), (some (28, false))⟩,
   ⟨(some 32), (.move (.tmp 31)), (some (28, false))⟩,
   ⟨(some 33), (.move (.tmp 4)), (some (32, true))⟩,
   ⟨(some 34), (.call (.mk (.value (.func 83)) #[(.tmp 33)] #[33])), (some (32, true))⟩,
   ⟨(some 35), (.move (.tmp 6)), (some (32, true))⟩,
   ⟨(some 36), (.call (.mk (.value (.func 83)) #[(.tmp 35)] #[33])), (some (32, true))⟩,
   ⟨(some 37), (.binOp .lss 3 (.tmp 34) (.tmp 36) 3), (some (32, true))⟩,
   ⟨(some 38), (.pick (.tmp 32) (.tmp 37) (.const (.bool false))), (some (28, false))⟩,
   ⟨(some 39), (.pick (.tmp 28) (.const (.bool true)) (.tmp 38)), none⟩])
 (.cond (.tmp 39) (.seq (.reg [⟨(some 40), (.move (.tmp 4)), none⟩,
   ⟨(some 6), (.assign (.tmp 40)), none⟩])
 (.reg [⟨(some 41), (.move (.tmp 5)), none⟩,
   ⟨(some 7), (.assign (.tmp 41)), none⟩])) .skip))
 (.seq (.seq (.reg [⟨(some 42), (.move (.tmp 3)), none⟩,
   ⟨(some 20), (.assign (.tmp 42)), none⟩])
 (.block 0 (.loop (.seq (.seq (.reg [⟨(some 43), (.move (.tmp 20)), none⟩,
   ⟨(some 44), (.move (.tmp 2)), none⟩,
   ⟨(some 45), (.call (.mk (.builtin .len) #[(.tmp 44)] #[33])), none⟩,
   ⟨(some 46), (.binOp .lss 3 (.tmp 43) (.tmp 45) 3), none⟩])
 (.cond (.tmp 46) .skip (.exit 0)))
 (.seq (.block 1 (.seq (.reg [⟨(some 21), (.assign (.const (.bool true))), none⟩])
 (.seq (.seq (.reg [⟨(some 22), (.assign (.const (.int .i64 0))), none⟩])
 (.block 2 (.loop (.seq (.seq (.reg [⟨(some 49), (.move (.tmp 22)), none⟩,
   ⟨(some 50), (.move (.tmp 4)), none⟩,
   ⟨(some 51), (.call (.mk (.builtin .len) #[(.tmp 50)] #[33])), none⟩,
   ⟨(some 52), (.binOp .lss 3 (.tmp 49) (.tmp 51) 3), none⟩])
 (.cond (.tmp 52) .skip (.exit 2)))
 (.seq (.block 3 (.regq [⟨(some 55), (.move (.tmp 21)), none⟩,
   ⟨(some 56), (.move (.tmp 55)), none⟩,
   ⟨(some 57), (.move (.tmp 4)), (some (56, true))⟩,
   ⟨(some 58), (.move (.tmp 22)), (some (56, true))⟩,
   ⟨(some 59), (.indexAddr 33 (.tmp 57) (.tmp 58)), (some (56, true))⟩,
   ⟨(some 60), (.load 23 (.tmp 59)), (some (56, true))⟩,
   ⟨(some 61), (.move (.tmp 2)), (some (56, true))⟩,
   ⟨(some 62), (.move (.tmp 20)), (some (56, true))⟩,
   ⟨(some 63), (.indexAddr 33 (.tmp 61) (.tmp 62)), (some (56, true))⟩,
   ⟨(some 64), (.load 23 (.tmp 63)), (some (56, true))⟩,
   ⟨(some 65), (.call (.mk (.value (.func 60)) #[(.tmp 60), (.tmp 64)] #[23, 23])), (some (56, true))⟩,
   ⟨(some 66), (.pick (.tmp 56) (.tmp 65) (.const (.bool false))), none⟩,
   ⟨(some 21), (.assign (.tmp 66)), none⟩]))
 (.reg [⟨(some 53), (.move (.tmp 22)), none⟩,
   ⟨(some 54), (.binOp .add 3 (.tmp 53) (.const (.int .i64 1)) 3), none⟩,
   ⟨(some 22), (.assign (.tmp 54)), none⟩]))))))
 (.seq (.seq (.reg [⟨(some 67), (.move (.tmp 21)), none⟩,
   ⟨(some 68), (.unOp .not 4 (.tmp 67)), none⟩])
 (.cond (.tmp 68) (.exit 1) .skip))
 (.seq (.reg [⟨(some 69), (.move (.tmp 0)), none⟩,
   ⟨(some 70), (.move (.tmp 1)), none⟩,
   ⟨(some 71), (.move (.tmp 2)), none⟩,
   ⟨(some 72), (.move (.tmp 20)), none⟩,
   ⟨(some 73), (.indexAddr 33 (.tmp 71) (.tmp 72)), none⟩,
   ⟨(some 74), (.load 23 (.tmp 73)), none⟩,
   ⟨(some 75), (.call (.mk (.value (.func 47)) #[(.tmp 69), (.tmp 70), (.tmp 74)] #[3, 27, 23])), none⟩,
   ⟨(some 23), (.assign (.tmp 75)), none⟩])
 (.seq (.seq (.reg [⟨(some 76), (.move (.tmp 8)), none⟩])
 (.cond (.tmp 76) (.reg [⟨(some 77), (.move (.tmp 2)), none⟩,
   ⟨(some 78), (.move (.tmp 20)), none⟩,
   ⟨(some 79), (.indexAddr 33 (.tmp 77) (.tmp 78)), none⟩,
   ⟨(some 80), (.load 23 (.tmp 79)), none⟩,
   ⟨(some 81), (.call (.mk (.builtin .len) #[(.tmp 80)] #[23])), none⟩,
   ⟨(some 23), (.assign (.tmp 81)), none⟩]) .skip))
 (.seq (.regt [⟨(some 83), (.move (.tmp 4)), none⟩,
   ⟨(some 85), (.move (.tmp 2)), none⟩,
   ⟨(some 86), (.move (.tmp 20)), none⟩,
   ⟨(some 87), (.indexAddr 33 (.tmp 85) (.tmp 86)), none⟩,
   ⟨(some 88), (.load 23 (.tmp 87)), none⟩] (.alt true ⟨(some 82), (.buildSlice 33 0 #[]), none⟩
   (.alt true ⟨(some 84), (.call (.mk (.builtin .append) #[(.tmp 82), (.tmp 83)] #[33, 33])), none⟩
   (.one false ⟨(some 89), (.buildSlice 33 1 #[(0, (.tmp 88))]), none⟩
   (.one false ⟨(some 90), (.call (.mk (.builtin .append) #[(.tmp 84), (.tmp 89)] #[33, 33])), none⟩
   (.one false ⟨(some 24), (.assign (.tmp 90)), none⟩
   .done)))
   (.one false ⟨(some 89), (.buildSlice 33 1 #[(0, (.tmp 88))]), none⟩
   (.one true ⟨(some 84), (.call (.mk (.builtin .append) #[(.tmp 82), (.tmp 83)] #[33, 33])), none⟩
   (.one false ⟨(some 90), (.call (.mk (.builtin .append) #[(.tmp 84), (.tmp 89)] #[33, 33])), none⟩
   (.one false ⟨(some 24), (.assign (.tmp 90)), none⟩
   .done)))))
   (.one false ⟨(some 89), (.buildSlice 33 1 #[(0, (.tmp 88))]), none⟩
   (.one true ⟨(some 82), (.buildSlice 33 0 #[]), none⟩
   (.one true ⟨(some 84), (.call (.mk (.builtin .append) #[(.tmp 82), (.tmp 83)] #[33, 33])), none⟩
   (.one false ⟨(some 90), (.call (.mk (.builtin .append) #[(.tmp 84), (.tmp 89)] #[33, 33])), none⟩
   (.one false ⟨(some 24), (.assign (.tmp 90)), none⟩
   .done)))))) [])
 (.reg [⟨(some 92), (.move (.tmp 0)), none⟩,
   ⟨(some 93), (.move (.tmp 1)), none⟩,
   ⟨(some 94), (.move (.tmp 2)), none⟩,
   ⟨(some 95), (.move (.tmp 20)), none⟩,
   ⟨(some 96), (.binOp .add 3 (.tmp 95) (.const (.int .i64 1)) 3), none⟩,
   ⟨(some 97), (.move (.tmp 24)), none⟩,
   ⟨(some 98), (.move (.tmp 5)), none⟩,
   ⟨(some 99), (.move (.tmp 23)), none⟩,
   ⟨(some 100), (.binOp .add 3 (.tmp 98) (.tmp 99) 3), none⟩,
   ⟨(some 101), (.move (.tmp 6)), none⟩,
   ⟨(some 102), (.move (.tmp 7)), none⟩,
   ⟨(some 103), (.move (.tmp 8)), none⟩,
   ⟨(some 104), (.call (.mk (.value (.func 62)) #[(.tmp 92), (.tmp 93), (.tmp 94), (.tmp 96), (.tmp 97), (.tmp 100), (.tmp 101), (.tmp 102), (.tmp 103)] #[3, 27, 33, 3, 33, 3, 33, 3, 4])), none⟩,
   ⟨(some 91), (.move (.tmp 104)), none⟩,
   ⟨(some 105), (.extract (.tmp 91) 0), none⟩,
   ⟨(some 106), (.extract (.tmp 91) 1), none⟩,
   ⟨(some 6), (.assign (.tmp 105)), none⟩,
   ⟨(some 7), (.assign (.tmp 106)), none⟩]))))))))
 (.reg [⟨(some 47), (.move (.tmp 20)), none⟩,
   ⟨(some 48), (.binOp .add 3 (.tmp 47) (.const (.int .i64 1)) 3), none⟩,
   ⟨(some 20), (.assign (.tmp 48)), none⟩]))))))
 (.seq (.reg [⟨(some 107), (.move (.tmp 6)), none⟩,
   ⟨(some 108), (.move (.tmp 7)), none⟩,
   ⟨(some 18), (.assign (.tmp 107)), none⟩,
   ⟨(some 19), (.assign (.tmp 108)), none⟩])
 .ret))))
theorem x_spec_l20Search : Txt Try.prog 62 c_spec_l20Search [.tmp 18, .tmp 19] 9 := ⟨by kernel_rfl, by kernel_rfl, _, _, Try.func62, rfl, by kernel_rfl, by kernel_rfl, by kernel_rfl, rfl, by decide⟩
/-- loop.example/g01062/impl.exchanges -/
def c_impl_exchanges : Cd :=
 (.seq (.reg [⟨(some 4), (.box 27 (.tmp 1)), none⟩,
   ⟨(some 5), (.box 78 (.tmp 2)), none⟩])
 (.seq (.reg [⟨(some 8), (.move (.tmp 0)), none⟩,
   ⟨(some 9), (.load 27 (.tmp 4)), none⟩,
   ⟨(some 10), (.call (.mk (.value (.func 58)) #[(.tmp 8), (.tmp 9)] #[3, 27])), none⟩,
   ⟨(some 6), (.alloc 33), none⟩,
   ⟨none, (.store 33 (.tmp 6) (.tmp 10)), none⟩])
 (.seq (.reg [⟨(some 7), (.alloc 92), none⟩])
 (.seq (.reg [⟨(some 11), (.makeFunc (.func 84) #[] #[(.tmp 5), (.tmp 6), (.tmp 7), (.tmp 4)]), none⟩,
   ⟨none, (.store 92 (.tmp 7) (.tmp 11)), none⟩])
 (.reg [⟨(some 12), (.load 92 (.tmp 7)), none⟩,
   ⟨(some 13), (.call (.mk (.value (.tmp 12)) #[(.const (.int .i64 0)), (.const (.slice none 0 0)), (.const (.int .i64 0)), (.const (.int .i64 0)), (.const (.int .i64 0))] #[3, 33, 3, 3, 3])), none⟩])))))
theorem x_impl_exchanges : Txt Try.prog 63 c_impl_exchanges [] 3 := ⟨by kernel_rfl, by kernel_rfl, _, _, Try.func63, rfl, by kernel_rfl, by kernel_rfl, by kernel_rfl, rfl, by decide⟩
/-- loop.example/g01062/impl.MostPeople closure 1 -/
def c_impl_MostPeople_1 : Cd :=
 (.reg [⟨(some 7), (.load 3 (.tmp 3)), none⟩,
   ⟨(some 8), (.move (.tmp 1)), none⟩,
   ⟨(some 9), (.call (.mk (.builtin .max) #[(.tmp 7), (.tmp 8)] #[3, 3])), none⟩,
   ⟨none, (.store 3 (.tmp 3) (.tmp 9)), none⟩])
theorem x_impl_MostPeople_1 : Txt Try.prog 64 c_impl_MostPeople_1 [] 4 := ⟨by kernel_rfl, by kernel_rfl, _, _, Try.func64, rfl, by kernel_rfl, by kernel_rfl, by kernel_rfl, rfl, by decide⟩
/-- loop.example/g01062/spec.l1Own -/
def c_spec_l1Own : Cd :=
 (.seq (.reg [⟨(some 2), (.assign (.const (.slice none 0 0))), none⟩])
 (.seq (.reg [⟨(some 3), (.buildSlice 23 0 #[]), none⟩,
   ⟨(some 4), (.move (.tmp 0)), none⟩,
   ⟨(some 5), (.call (.mk (.builtin .append) #[(.tmp 3), (.tmp 4)] #[23, 23])), none⟩,
   ⟨(some 2), (.assign (.tmp 5)), none⟩])
 .ret))
theorem x_spec_l1Own : Txt Try.prog 65 c_spec_l1Own [.tmp 2] 1 := ⟨by kernel_rfl, by kernel_rfl, _, _, Try.func65, rfl, by kernel_rfl, by kernel_rfl, by kernel_rfl, rfl, by decide⟩
/-- loop.example/g01062/impl.GreatestExchange closure 1 -/
def c_impl_GreatestExchange_1 : Cd :=
 (.seq (.reg [⟨(some 9), (.move (.tmp 2)), none⟩,
   ⟨(some 10), (.load 3 (.tmp 3)), none⟩,
   ⟨(some 11), (.binOp .gtr 3 (.tmp 9) (.tmp 10) 3), none⟩,
   ⟨(some 12), (.move (.tmp 11)), none⟩,
   ⟨(some 13), (.move (.tmp 2)), (some (12, false))⟩,
   ⟨(some 14), (.load 3 (.tmp 3)), (some (12, false))⟩,
   ⟨(some 15), (.binOp .eql 3 (.tmp 13) (.tmp 14) 3), (some (12, false))⟩,
   ⟨(some 16), (.move (.tmp 15)), (some (12, false))⟩,
   ⟨(some 17), (.move (.tmp 1)), (some (16, true))⟩,
   ⟨(some 18), (.load 3 (.tmp 4)), (some (16, true))⟩,
   ⟨(some 19), (.binOp .lss 3 (.tmp 17) (.tmp 18) 3), (some (16, true))⟩,
   ⟨(some 20), (.pick (.tmp 16) (.tmp 19) (.const (.bool false))), (some (12, false))⟩,
   ⟨(some 21), (.pick (.tmp 12) (.const (.bool true)) (.tmp 20)), none⟩])
 (.cond (.tmp 21) (.reg [⟨(some 22), (.move (.tmp 0)), none⟩,
   ⟨(some 23), (.call (.mk (.value (.func 67)) #[(.tmp 22)] #[33])), none⟩,
   ⟨(some 24), (.move (.tmp 2)), none⟩,
   ⟨(some 25), (.move (.tmp 1)), none⟩,
   ⟨none, (.store 33 (.tmp 5) (.tmp 23)), none⟩,
   ⟨none, (.store 3 (.tmp 3) (.tmp 24)), none⟩,
   ⟨none, (.store 3 (.tmp 4) (.tmp 25)), none⟩]) .skip))
theorem x_impl_GreatestExchange_1 : Txt Try.prog 66 c_impl_GreatestExchange_1 [] 6 := ⟨by kernel_rfl, by kernel_rfl, _, _, Try.func66, rfl, by kernel_rfl, by kernel_rfl, by kernel_rfl, rfl, by decide⟩
/-- loop.example/g01062/impl.copyLists[int] -/
def c_impl_copyLists_int : Cd :=
 (.seq (.reg [⟨(some 2), (.assign (.const (.slice none 0 0))), none⟩])
 (.seq (.reg [⟨(some 3), (.assign (.const (.slice none 0 0))), none⟩])
 (.seq (.seq (.reg [⟨(some 6), (.move (.tmp 0)), none⟩,
   ⟨(some 7), (.call (.mk (.builtin .len) #[(.tmp 6)] #[33])), none⟩,
   ⟨(some 8), (.move (.const (.int .i64 0))), none⟩])
 (.block 0 (.loop (.seq (.reg [⟨(some 9), (.binOp .lss 3 (.tmp 8) (.tmp 7) 3), none⟩])
 (.seq (.cond (.tmp 9) .skip (.exit 0))
 (.seq (.block 1 (.seq (.reg [⟨(some 10), (.indexAddr 33 (.tmp 6) (.tmp 8)), none⟩,
   ⟨(some 11), (.load 23 (.tmp 10)), none⟩,
   ⟨(some 5), (.assign (.tmp 11)), none⟩])
 (.reg [⟨(some 12), (.move (.tmp 3)), none⟩,
   ⟨(some 13), (.move (.tmp 5)), none⟩,
   ⟨(some 14), (.call (.mk (.builtin .append) #[(.const (.slice none 0 0)), (.tmp 13)] #[23, 23])), none⟩,
   ⟨(some 15), (.buildSlice 33 1 #[(0, (.tmp 14))]), none⟩,
   ⟨(some 16), (.call (.mk (.builtin .append) #[(.tmp 12), (.tmp 15)] #[33, 33])), none⟩,
   ⟨(some 3), (.assign (.tmp 16)), none⟩])))
 (.reg [⟨(some 17), (.binOp .add 3 (.tmp 8) (.const (.int .i64 1)) 3), none⟩,
   ⟨(some 8), (.move (.tmp 17)), none⟩])))))))
 (.seq (.reg [⟨(some 18), (.move (.tmp 3)), none⟩,
   ⟨(some 2), (.assign (.tmp 18)), none⟩])
 .ret))))
theorem x_impl_copyLists_int : Txt Try.prog 67 c_impl_copyLists_int [.tmp 2] 1 := ⟨by kernel_rfl, by kernel_rfl, _, _, Try.func67, rfl, by kernel_rfl, by kernel_rfl, by kernel_rfl, rfl, by decide⟩
/-- loop.example/g01062/spec.DrawAreWishes -/
def c_spec_DrawAreWishes : Cd :=
 (.seq (.reg [⟨(some 2), (.assign (.const (.int .i64 0))), none⟩,
   ⟨(some 3), (.assign (.const (.slice none 0 0))), none⟩])
 (.seq (.reg [⟨(some 7), (.move (.tmp 0)), none⟩,
   ⟨(some 8), (.build 82 #[(0, (.tmp 7))]), none⟩,
   ⟨(some 9), (.box 82 (.tmp 8)), none⟩,
   ⟨(some 4), (.assign (.tmp 9)), none⟩])
 (.seq (.reg [⟨(some 11), (.move (.tmp 4)), none⟩,
   ⟨(some 12), (.call (.mk (.value (.func 70)) #[(.tmp 11)] #[79])), none⟩,
   ⟨(some 10), (.move (.tmp 12)), none⟩,
   ⟨(some 13), (.extract (.tmp 10) 0), none⟩,
   ⟨(some 14), (.extract (.tmp 10) 1), none⟩,
   ⟨(some 5), (.assign (.tmp 13)), none⟩,
   ⟨(some 6), (.assign (.tmp 14)), none⟩])
 (.seq (.reg [⟨(some 15), (.move (.tmp 5)), none⟩,
   ⟨(some 16), (.move (.tmp 6)), none⟩,
   ⟨(some 2), (.assign (.tmp 15)), none⟩,
   ⟨(some 3), (.assign (.tmp 16)), none⟩])
 .ret))))
theorem x_spec_DrawAreWishes : Txt Try.prog 68 c_spec_DrawAreWishes [.tmp 2, .tmp 3] 1 := ⟨by kernel_rfl, by kernel_rfl, _, _, Try.func68, rfl, by kernel_rfl, by kernel_rfl, by kernel_rfl, rfl, by decide⟩
/-- loop.example/g01062/laws.vInts -/
def c_laws_vInts : Cd :=
 (.seq (.reg [⟨(some 4), (.assign (.const (.bool false))), none⟩])
 (.seq (.seq (.reg [⟨(some 6), (.move (.tmp 0)), none⟩,
   ⟨(some 7), (.call (.mk (.builtin .len) #[(.tmp 6)] #[23])), none⟩,
   ⟨(some 8), (.move (.tmp 1)), none⟩,
   ⟨(some 9), (.call (.mk (.builtin .len) #[(.tmp 8)] #[23])), none⟩,
   ⟨(some 10), (.binOp .neq 3 (.tmp 7) (.tmp 9) 3), none⟩])
 (.cond (.tmp 10) (.seq (.reg [⟨(some 4), (.assign (.const (.bool false))), none⟩])
 .ret) .skip))
 (.seq (.seq (.reg [⟨(some 5), (.assign (.const (.int .i64 0))), none⟩])
 (.block 0 (.loop (.seq (.seq (.reg [⟨(some 11), (.move (.tmp 5)), none⟩,
   ⟨(some 12), (.move (.tmp 0)), none⟩,
   ⟨(some 13), (.call (.mk (.builtin .len) #[(.tmp 12)] #[23])), none⟩,
   ⟨(some 14), (.binOp .lss 3 (.tmp 11) (.tmp 13) 3), none⟩])
 (.cond (.tmp 14) .skip (.exit 0)))
 (.seq (.block 1 (.seq (.regq [⟨(some 17), (.move (.tmp 0)), none⟩,
   ⟨(some 18), (.move (.tmp 5)), none⟩,
   ⟨(some 19), (.indexAddr 23 (.tmp 17) (.tmp 18)), none⟩,
   ⟨(some 20), (.load 3 (.tmp 19)), none⟩,
   ⟨(some 21), (.move (.tmp 1)), none⟩,
   ⟨(some 22), (.move (.tmp 5)), none⟩,
   ⟨(some 23), (.indexAddr 23 (.tmp 21) (.tmp 22)), none⟩,
   ⟨(some 24), (.load 3 (.tmp 23)), none⟩,
   ⟨(some 25), (.binOp .neq 3 (.tmp 20) (.tmp 24) 3), none⟩])
 (.cond (.tmp 25) (.seq (.reg [⟨(some 4), (.assign (.const (.bool false))), none⟩])
 .ret) .skip)))
 (.reg [⟨(some 15), (.move (.tmp 5)), none⟩,
   ⟨(some 16), (.binOp .add 3 (.tmp 15) (.const (.int .i64 1)) 3), none⟩,
   ⟨(some 5), (.assign (.tmp 16)), none⟩]))))))
 (.seq (.reg [⟨(some 4), (.assign (.const (.bool true))), none⟩])
 .ret))))
theorem x_laws_vInts : Txt Try.prog 69 c_laws_vInts [.tmp 4] 2 := ⟨by kernel_rfl, by kernel_rfl, _, _, Try.func69, rfl, by kernel_rfl, by kernel_rfl, by kernel_rfl, rfl, by decide⟩
/-- (*loop.example/g01062/spec.l1Cur).wishes -/
def c_spec_l1Cur_wishes : Cd :=
 (.seq (.reg [⟨(some 2), (.assign (.const (.int .i64 0))), none⟩,
   ⟨(some 3), (.assign (.const (.slice none 0 0))), none⟩])
 (.seq (.reg [⟨(some 8), (.move (.tmp 0)), none⟩,
   ⟨(some 9), (.buildSlice 23 8 #[(0, (.const (.int .i64 1))), (1, (.const (.int .i64 2))), (2, (.const (.int .i64 3))), (3, (.const (.int .i64 4))), (4, (.const (.int .i64 4))), (5, (.const (.int .i64 5))), (6, (.const (.int .i64 6))), (7, (.const (.int .i64 7)))]), none⟩,
   ⟨(some 10), (.call (.mk (.value (.func 85)) #[(.tmp 8), (.tmp 9)] #[79, 23])), none⟩,
   ⟨(some 11), (.buildSlice 27 0 #[]), none⟩,
   ⟨(some 4), (.assign (.tmp 10)), none⟩,
   ⟨(some 5), (.assign (.tmp 11)), none⟩])
 (.seq (.seq (.reg [⟨(some 6), (.assign (.const (.int .i64 0))), none⟩])
 (.block 0 (.loop (.seq (.seq (.reg [⟨(some 12), (.move (.tmp 6)), none⟩,
   ⟨(some 13), (.move (.tmp 4)), none⟩,
   ⟨(some 14), (.binOp .lss 3 (.tmp 12) (.tmp 13) 3), none⟩])
 (.cond (.tmp 14) .skip (.exit 0)))
 (.seq (.block 1 (.seq (.reg [⟨(some 7), (.assign (.const (.int .i64 0))), none⟩])
 (.block 2 (.loop (.seq (.seq (.reg [⟨(some 17), (.move (.tmp 7)), none⟩,
   ⟨(some 18), (.move (.tmp 4)), none⟩,
   ⟨(some 19), (.binOp .lss 3 (.tmp 17) (.tmp 18) 3), none⟩])
 (.cond (.tmp 19) .skip (.exit 2)))
 (.seq (.block 3 (.seq (.reg [⟨(some 22), (.move (.tmp 6)), none⟩,
   ⟨(some 23), (.move (.tmp 7)), none⟩,
   ⟨(some 24), (.binOp .neq 3 (.tmp 22) (.tmp 23) 3), none⟩,
   ⟨(some 25), (.move (.tmp 24)), none⟩,
   ⟨(some 26), (.move (.tmp 0)), (some (25, true))⟩,
   ⟨(some 27), (.call (.mk (.value (.func 86)) #[(.tmp 26), (.const (.int .i64 3))] #[79, 3])), (some (25, true))⟩,
   ⟨(some 28), (.pick (.tmp 25) (.tmp 27) (.const (.bool false))), none⟩])
 (.cond (.tmp 28) (.reg [⟨(some 29), (.move (.tmp 5)), none⟩,
   ⟨(some 30), (.move (.tmp 6)), none⟩,
   ⟨(some 31), (.move (.tmp 7)), none⟩,
   ⟨(some 32), (.move (.tmp 0)), none⟩,
   ⟨(some 33), (.buildSlice 23 5 #[(0, (.const (.int .i64 1))), (1, (.const (.int .i64 5))), (2, (.const (.int .i64 5))), (3, (.const (.int .i64 10))), (4, (.const (.int .i64 1000)))]), none⟩,
   ⟨(some 34), (.call (.mk (.value (.func 85)) #[(.tmp 32), (.tmp 33)] #[79, 23])), none⟩,
   ⟨(some 35), (.build 63 #[(0, (.tmp 30)), (1, (.tmp 31)), (2, (.tmp 34))]), none⟩,
   ⟨(some 36), (.buildSlice 27 1 #[(0, (.tmp 35))]), none⟩,
   ⟨(some 37), (.call (.mk (.builtin .append) #[(.tmp 29), (.tmp 36)] #[27, 27])), none⟩,
   ⟨(some 5), (.assign (.tmp 37)), none⟩]) .skip)))
 (.reg [⟨(some 20), (.move (.tmp 7)), none⟩,
   ⟨(some 21), (.binOp .add 3 (.tmp 20) (.const (.int .i64 1)) 3), none⟩,
   ⟨(some 7), (.assign (.tmp 21)), none⟩])))))))
 (.reg [⟨(some 15), (.move (.tmp 6)), none⟩,
   ⟨(some 16), (.binOp .add 3 (.tmp 15) (.const (.int .i64 1)) 3), none⟩,
   ⟨(some 6), (.assign (.tmp 16)), none⟩]))))))
 (.seq (.seq (.reg [⟨(some 38), (.move (.tmp 0)), none⟩,
   ⟨(some 39), (.call (.mk (.value (.func 71)) #[(.tmp 38), (.const (.int .i64 32))] #[79, 3])), none⟩])
 (.block 4 (.seq (.reg [⟨(some 41), (.binOp .eql 3 (.tmp 39) (.const (.int .i64 0)) 3), none⟩,
   ⟨(some 40), (.assign (.tmp 41)), none⟩])
 (.cond (.tmp 40) (.reg [⟨(some 42), (.move (.tmp 0)), none⟩,
   ⟨(some 43), (.move (.tmp 4)), none⟩,
   ⟨(some 44), (.binOp .sub 3 (.tmp 43) (.const (.int .i64 1)) 3), none⟩,
   ⟨(some 45), (.buildSlice 23 4 #[(0, (.const (.int .i64 0))), (1, (.const (.int .i64 8))), (2, (.const (.int .i64 9))), (3, (.tmp 44))]), none⟩,
   ⟨(some 46), (.call (.mk (.value (.func 85)) #[(.tmp 42), (.tmp 45)] #[79, 23])), none⟩,
   ⟨(some 4), (.assign (.tmp 46)), none⟩]) (.seq (.reg [⟨(some 48), (.binOp .eql 3 (.tmp 39) (.const (.int .i64 1)) 3), none⟩,
   ⟨(some 47), (.assign (.tmp 48)), none⟩])
 (.cond (.tmp 47) (.reg [⟨(some 49), (.move (.tmp 5)), none⟩,
   ⟨(some 50), (.move (.tmp 0)), none⟩,
   ⟨(some 51), (.call (.mk (.value (.func 71)) #[(.tmp 50), (.const (.int .i64 3))] #[79, 3])), none⟩,
   ⟨(some 52), (.move (.tmp 0)), none⟩,
   ⟨(some 53), (.call (.mk (.value (.func 71)) #[(.tmp 52), (.const (.int .i64 3))] #[79, 3])), none⟩,
   ⟨(some 54), (.move (.tmp 0)), none⟩,
   ⟨(some 55), (.buildSlice 23 3 #[(0, (.const (.int .i64 0))), (1, (.const (.int .i64 1))), (2, (.const (.int .i64 1001)))]), none⟩,
   ⟨(some 56), (.call (.mk (.value (.func 85)) #[(.tmp 54), (.tmp 55)] #[79, 23])), none⟩,
   ⟨(some 57), (.build 63 #[(0, (.tmp 51)), (1, (.tmp 53)), (2, (.tmp 56))]), none⟩,
   ⟨(some 58), (.buildSlice 27 1 #[(0, (.tmp 57))]), none⟩,
   ⟨(some 59), (.call (.mk (.builtin .append) #[(.tmp 49), (.tmp 58)] #[27, 27])), none⟩,
   ⟨(some 5), (.assign (.tmp 59)), none⟩]) .skip))))))
 (.seq (.reg [⟨(some 60), (.move (.tmp 4)), none⟩,
   ⟨(some 61), (.move (.tmp 5)), none⟩,
   ⟨(some 2), (.assign (.tmp 60)), none⟩,
   ⟨(some 3), (.assign (.tmp 61)), none⟩])
 .ret)))))
theorem x_spec_l1Cur_wishes : Txt Try.prog 70 c_spec_l1Cur_wishes [.tmp 2, .tmp 3] 1 := ⟨by kernel_rfl, by kernel_rfl, _, _, Try.func70, rfl, by kernel_rfl, by kernel_rfl, by kernel_rfl, rfl, by decide⟩
/-- (*loop.example/g01062/spec.l1Cur).pick -/
def c_spec_l1Cur_pick : Cd :=
 (.seq (.reg [⟨(some 4), (.assign (.const (.int .i64 0))), none⟩])
 (.seq (.seq (.reg [⟨(some 6), (.move (.tmp 1)), none⟩,
   ⟨(some 7), (.binOp .leq 3 (.tmp 6) (.const (.int .i64 1)) 3), none⟩])
 (.cond (.tmp 7) (.seq (.reg [⟨(some 4), (.assign (.const (.int .i64 0))), none⟩])
 .ret) .skip))
 (.seq (.reg [⟨(some 8), (.move (.tmp 0)), none⟩,
   ⟨(some 9), (.call (.mk (.value (.func 87)) #[(.tmp 8)] #[79])), none⟩,
   ⟨(some 5), (.assign (.tmp 9)), none⟩])
 (.seq (.seq (.reg [⟨(some 10), (.move (.tmp 1)), none⟩,
   ⟨(some 11), (.binOp .gtr 3 (.tmp 10) (.const (.int .i64 200)) 3), none⟩])
 (.cond (.tmp 11) (.reg [⟨(some 12), (.move (.tmp 5)), none⟩,
   ⟨(some 13), (.binOp .mul 3 (.tmp 12) (.const (.int .i64 256)) 3), none⟩,
   ⟨(some 14), (.move (.tmp 0)), none⟩,
   ⟨(some 15), (.call (.mk (.value (.func 87)) #[(.tmp 14)] #[79])), none⟩,
   ⟨(some 16), (.binOp .add 3 (.tmp 13) (.tmp 15) 3), none⟩,
   ⟨(some 5), (.assign (.tmp 16)), none⟩]) .skip))
 (.seq (.reg [⟨(some 17), (.move (.tmp 5)), none⟩,
   ⟨(some 18), (.move (.tmp 1)), none⟩,
   ⟨(some 19), (.binOp .rem 3 (.tmp 17) (.tmp 18) 3), none⟩,
   ⟨(some 4), (.assign (.tmp 19)), none⟩])
 .ret)))))
theorem x_spec_l1Cur_pick : Txt Try.prog 71 c_spec_l1Cur_pick [.tmp 4] 2 := ⟨by kernel_rfl, by kernel_rfl, _, _, Try.func71, rfl, by kernel_rfl, by kernel_rfl, by kernel_rfl, rfl, by decide⟩
/-- (*loop.example/g01062/spec.l1Cur).circleOf -/
def c_spec_l1Cur_circleOf : Cd :=
 (.seq (.reg [⟨(some 6), (.assign (.const (.slice none 0 0))), none⟩])
 (.seq (.seq (.reg [⟨(some 8), (.move (.tmp 1)), none⟩,
   ⟨(some 9), (.move (.tmp 2)), none⟩,
   ⟨(some 10), (.call (.mk (.value (.func 46)) #[(.tmp 8), (.tmp 9)] #[3, 27])), none⟩,
   ⟨(some 11), (.move (.tmp 10)), none⟩,
   ⟨(some 12), (.move (.tmp 0)), (some (11, true))⟩,
   ⟨(some 13), (.call (.mk (.value (.func 86)) #[(.tmp 12), (.const (.int .i64 4))] #[79, 3])), (some (11, true))⟩,
   ⟨(some 14), (.unOp .not 4 (.tmp 13)), (some (11, true))⟩,
   ⟨(some 15), (.pick (.tmp 11) (.tmp 14) (.const (.bool false))), none⟩])
 (.cond (.tmp 15) (.seq (.reg [⟨(some 16), (.move (.tmp 1)), none⟩,
   ⟨(some 17), (.move (.tmp 2)), none⟩,
   ⟨(some 18), (.call (.mk (.value (.func 57)) #[(.tmp 16), (.tmp 17)] #[3, 27])), none⟩,
   ⟨(some 7), (.assign (.tmp 18)), none⟩])
 (.seq (.reg [⟨(some 19), (.move (.tmp 7)), none⟩,
   ⟨(some 20), (.call (.mk (.builtin .len) #[(.tmp 19)] #[33])), none⟩,
   ⟨(some 21), (.binOp .gtr 3 (.tmp 20) (.const (.int .i64 0)) 3), none⟩])
 (.cond (.tmp 21) (.seq (.reg [⟨(some 22), (.move (.tmp 7)), none⟩,
   ⟨(some 23), (.move (.tmp 0)), none⟩,
   ⟨(some 24), (.move (.tmp 7)), none⟩,
   ⟨(some 25), (.call (.mk (.builtin .len) #[(.tmp 24)] #[33])), none⟩,
   ⟨(some 26), (.call (.mk (.value (.func 71)) #[(.tmp 23), (.tmp 25)] #[79, 3])), none⟩,
   ⟨(some 27), (.indexAddr 33 (.tmp 22) (.tmp 26)), none⟩,
   ⟨(some 28), (.load 23 (.tmp 27)), none⟩,
   ⟨(some 29), (.call (.mk (.value (.func 65)) #[(.tmp 28)] #[23])), none⟩,
   ⟨(some 6), (.assign (.tmp 29)), none⟩])
 .ret) .skip))) .skip))
 (.seq (.reg [⟨(some 30), (.buildSlice 23 0 #[]), none⟩,
   ⟨(some 31), (.buildSlice 23 1 #[(0, (.const (.int .i64 0)))]), none⟩,
   ⟨(some 32), (.buildSlice 23 2 #[(0, (.const (.int .i64 0))), (1, (.const (.int .i64 1)))]), none⟩,
   ⟨(some 33), (.buildSlice 23 2 #[(0, (.const (.int .i64 1))), (1, (.const (.int .i64 0)))]), none⟩,
   ⟨(some 34), (.buildSlice 23 3 #[(0, (.const (.int .i64 0))), (1, (.const (.int .i64 1))), (2, (.const (.int .i64 2)))]), none⟩,
   ⟨(some 35), (.buildSlice 23 2 #[(0, (.const (.int .i64 0))), (1, (.const (.int .i64 0)))]), none⟩,
   ⟨(some 36), (.buildSlice 23 2 #[(0, (.const (.int .i64 0))), (1, (.const (.int .i64 9)))]), none⟩,
   ⟨(some 37), (.buildSlice 33 7 #[(0, (.tmp 30)), (1, (.tmp 31)), (2, (.tmp 32)), (3, (.tmp 33)), (4, (.tmp 34)), (5, (.tmp 35)), (6, (.tmp 36))]), none⟩,
   ⟨(some 38), (.move (.tmp 0)), none⟩,
   ⟨(some 39), (.call (.mk (.value (.func 71)) #[(.tmp 38), (.const (.int .i64 7))] #[79, 3])), none⟩,
   ⟨(some 40), (.indexAddr 33 (.tmp 37) (.tmp 39)), none⟩,
   ⟨(some 41), (.load 23 (.tmp 40)), none⟩,
   ⟨(some 6), (.assign (.tmp 41)), none⟩])
 .ret)))
theorem x_spec_l1Cur_circleOf : Txt Try.prog 72 c_spec_l1Cur_circleOf [.tmp 6] 3 := ⟨by kernel_rfl, by kernel_rfl, _, _, Try.func72, rfl, by kernel_rfl, by kernel_rfl, by kernel_rfl, rfl, by decide⟩
/-- loop.example/g01062/spec.l1In -/
def c_spec_l1In : Cd :=
 (.seq (.reg [⟨(some 6), (.assign (.const (.bool false))), none⟩])
 (.seq (.reg [⟨(some 7), (.move (.tmp 0)), none⟩,
   ⟨(some 8), (.move (.tmp 1)), none⟩,
   ⟨(some 9), (.binOp .geq 3 (.tmp 7) (.tmp 8) 3), none⟩,
   ⟨(some 10), (.move (.tmp 9)), none⟩,
   ⟨(some 11), (.move (.tmp 0)), (some (10, true))⟩,
   ⟨(some 12), (.move (.tmp 2)), (some (10, true))⟩,
   ⟨(some 13), (.binOp .leq 3 (.tmp 11) (.tmp 12) 3), (some (10, true))⟩,
   ⟨(some 14), (.pick (.tmp 10) (.tmp 13) (.const (.bool false))), none⟩,
   ⟨(some 6), (.assign (.tmp 14)), none⟩])
 .ret))
theorem x_spec_l1In : Txt Try.prog 73 c_spec_l1In [.tmp 6] 3 := ⟨by kernel_rfl, by kernel_rfl, _, _, Try.func73, rfl, by kernel_rfl, by kernel_rfl, by kernel_rfl, rfl, by decide⟩
/-- loop.example/g01062/spec.l20Ring -/
def c_spec_l20Ring : Cd :=
 (.seq (.reg [⟨(some 4), (.assign (.const (.bool false))), none⟩])
 (.seq (.seq (.reg [⟨(some 5), (.assign (.const (.int .i64 0))), none⟩])
 (.block 0 (.loop (.seq (.seq (.reg [⟨(some 7), (.move (.tmp 5)), none⟩,
   ⟨(some 8), (.move (.tmp 1)), none⟩,
   ⟨(some 9), (.call (.mk (.builtin .len) #[(.tmp 8)] #[23])), none⟩,
   ⟨(some 10), (.binOp .lss 3 (.tmp 7) (.tmp 9) 3), none⟩,
   ⟨(some 11), (.move (.tmp 10)), none⟩,
   ⟨(some 12), (.move (.tmp 5)), (some (11, true))⟩,
   ⟨(some 13), (.move (.tmp 0)), (some (11, true))⟩,
   ⟨(some 14), (.binOp .leq 3 (.tmp 12) (.tmp 13) 3), (some (11, true))⟩,
   ⟨(some 15), (.pick (.tmp 11) (.tmp 14) (.const (.bool false))), none⟩])
 (.cond (.tmp 15) .skip (.exit 0)))
 (.seq (.block 1 (.seq (.seq (.regq [⟨(some 18), (.move (.tmp 0)), none⟩,
   ⟨(some 19), (.move (.tmp 1)), none⟩,
   ⟨(some 20), (.move (.tmp 5)), none⟩,
   ⟨(some 21), (.indexAddr 23 (.tmp 19) (.tmp 20)), none⟩,
   ⟨(some 22), (.load 3 (.tmp 21)), none⟩,
   ⟨(some 23), (.call (.mk (.value (.func 53)) #[(.tmp 18), (.tmp 22)] #[3, 3])), none⟩,
   ⟨(some 24), (.unOp .not 4 (.tmp 23)), none⟩,
   ⟨(some 25), (.move (.tmp 24)), none⟩,
   ⟨(some 26), (.move (.tmp 1)), (some (25, false))⟩,
   ⟨(some 27), (.move (.tmp 5)), (some (25, false))⟩,
   ⟨(some 28), (.indexAddr 23 (.tmp 26) (.tmp 27)), (some (25, false))⟩,
   ⟨(some 29), (.load 3 (.tmp 28)), (some (25, false))⟩,
   ⟨(some 30), (.move (.tmp 1)), (some (25, false))⟩,
   ⟨(some 31), (.indexAddr 23 (.tmp 30) (.const (.int .i64 0))), (some (25, false))⟩,
   ⟨(some 32), (.load 3 (.tmp 31)), (some (25, false))⟩,
   ⟨(some 33), (.binOp .lss 3 (.tmp 29) (.tmp 32) 3), (some (25, false))⟩,
   ⟨(some 34), (.pick (.tmp 25) (.const (.bool true)) (.tmp 33)), none⟩])
 (.cond (.tmp 34) (.seq (.reg [⟨(some 4), (.assign (.const (.bool false))), none⟩])
 .ret) .skip))
 (.seq (.reg [⟨(some 6), (.assign (.const (.int .i64 0))), none⟩])
 (.block 2 (.loop (.seq (.seq (.reg [⟨(some 35), (.move (.tmp 6)), none⟩,
   ⟨(some 36), (.move (.tmp 5)), none⟩,
   ⟨(some 37), (.binOp .lss 3 (.tmp 35) (.tmp 36) 3), none⟩])
 (.cond (.tmp 37) .skip (.exit 2)))
 (.seq (.block 3 (.seq (.regq [⟨(some 40), (.move (.tmp 1)), none⟩,
   ⟨(some 41), (.move (.tmp 6)), none⟩,
   ⟨(some 42), (.indexAddr 23 (.tmp 40) (.tmp 41)), none⟩,
   ⟨(some 43), (.load 3 (.tmp 42)), none⟩,
   ⟨(some 44), (.move (.tmp 1)), none⟩,
   ⟨(some 45), (.move (.tmp 5)), none⟩,
   ⟨(some 46), (.indexAddr 23 (.tmp 44) (.tmp 45)), none⟩,
   ⟨(some 47), (.load 3 (.tmp 46)), none⟩,
   ⟨(some 48), (.binOp .eql 3 (.tmp 43) (.tmp 47) 3), none⟩])
 (.cond (.tmp 48) (.seq (.reg [⟨(some 4), (.assign (.const (.bool false))), none⟩])
 .ret) .skip)))
 (.reg [⟨(some 38), (.move (.tmp 6)), none⟩,
   ⟨(some 39), (.binOp .add 3 (.tmp 38) (.const (.int .i64 1)) 3), none⟩,
   ⟨(some 6), (.assign (.tmp 39)), none⟩]))))))))
 (.reg [⟨(some 16), (.move (.tmp 5)), none⟩,
   ⟨(some 17), (.binOp .add 3 (.tmp 16) (.const (.int .i64 1)) 3), none⟩,
   ⟨(some 5), (.assign (.tmp 17)), none⟩]))))))
 (.seq (.reg [⟨(some 49), (.move (.tmp 1)), none⟩,
   ⟨(some 50), (.call (.mk (.builtin .len) #[(.tmp 49)] #[23])), none⟩,
   ⟨(some 51), (.move (.tmp 0)), none⟩,
   ⟨(some 52), (.call (.mk (.value (.func 73)) #[(.tmp 50), (.const (.int .i64 2)), (.tmp 51)] #[3, 3, 3])), none⟩,
   ⟨(some 4), (.assign (.tmp 52)), none⟩])
 .ret)))
theorem x_spec_l20Ring : Txt Try.prog 74 c_spec_l20Ring [.tmp 4] 2 := ⟨by kernel_rfl, by kernel_rfl, _, _, Try.func74, rfl, by kernel_rfl, by kernel_rfl, by kernel_rfl, rfl, by decide⟩
/-- loop.example/g01062/spec.l20Gain -/
def c_spec_l20Gain : Cd :=
 (.seq (.reg [⟨(some 6), (.assign (.const (.int .i64 0))), none⟩])
 (.seq (.seq (.reg [⟨(some 7), (.assign (.const (.int .i64 0))), none⟩])
 (.block 0 (.loop (.seq (.seq (.reg [⟨(some 8), (.move (.tmp 7)), none⟩,
   ⟨(some 9), (.move (.tmp 0)), none⟩,
   ⟨(some 10), (.call (.mk (.builtin .len) #[(.tmp 9)] #[27])), none⟩,
   ⟨(some 11), (.binOp .lss 3 (.tmp 8) (.tmp 10) 3), none⟩])
 (.cond (.tmp 11) .skip (.exit 0)))
 (.seq (.block 1 (.seq (.reg [⟨(some 14), (.move (.tmp 0)), none⟩,
   ⟨(some 15), (.move (.tmp 7)), none⟩,
   ⟨(some 16), (.indexAddr 27 (.tmp 14) (.tmp 15)), none⟩,
   ⟨(some 17), (.fieldAddr 63 (.tmp 16) 0), none⟩,
   ⟨(some 18), (.load 3 (.tmp 17)), none⟩,
   ⟨(some 19), (.move (.tmp 1)), none⟩,
   ⟨(some 20), (.binOp .eql 3 (.tmp 18) (.tmp 19) 3), none⟩,
   ⟨(some 21), (.move (.tmp 20)), none⟩,
   ⟨(some 22), (.move (.tmp 0)), (some (21, true))⟩,
   ⟨(some 23), (.move (.tmp 7)), (some (21, true))⟩,
   ⟨(some 24), (.indexAddr 27 (.tmp 22) (.tmp 23)), (some (21, true))⟩,
   ⟨(some 25), (.fieldAddr 63 (.tmp 24) 1), (some (21, true))⟩,
   ⟨(some 26), (.load 3 (.tmp 25)), (some (21, true))⟩,
   ⟨(some 27), (.move (.tmp 2)), (some (21, true))⟩,
   ⟨(some 28), (.binOp .eql 3 (.tmp 26) (.tmp 27) 3), (some (21, true))⟩,
   ⟨(some 29), (.pick (.tmp 21) (.tmp 28) (.const (.bool false))), none⟩])
 (.cond (.tmp 29) (.seq (.reg [⟨(some 30), (.move (.tmp 0)), none⟩,
   ⟨(some 31), (.move (.tmp 7)), none⟩,
   ⟨(some 32), (.indexAddr 27 (.tmp 30) (.tmp 31)), none⟩,
   ⟨(some 33), (.fieldAddr 63 (.tmp 32) 2), none⟩,
   ⟨(some 34), (.load 3 (.tmp 33)), none⟩,
   ⟨(some 6), (.assign (.tmp 34)), none⟩])
 .ret) .skip)))
 (.reg [⟨(some 12), (.move (.tmp 7)), none⟩,
   ⟨(some 13), (.binOp .add 3 (.tmp 12) (.const (.int .i64 1)) 3), none⟩,
   ⟨(some 7), (.assign (.tmp 13)), none⟩]))))))
 (.seq (.reg [⟨(some 6), (.assign (.const (.int .i64 0))), none⟩])
 .ret)))
theorem x_spec_l20Gain : Txt Try.prog 75 c_spec_l20Gain [.tmp 6] 3 := ⟨by kernel_rfl, by kernel_rfl, _, _, Try.func75, rfl, by kernel_rfl, by kernel_rfl, by kernel_rfl, rfl, by decide⟩
/-- cmp.Or[int] -/
def c_cmp_Or_int : Cd :=
 (.seq (.reg [⟨(some 2), (.assign (.const (.int .i64 0))), none⟩])
 (.seq (.reg [⟨(some 3), (.assign (.const (.int .i64 0))), none⟩])
 (.seq (.seq (.reg [⟨(some 6), (.move (.tmp 0)), none⟩,
   ⟨(some 7), (.call (.mk (.builtin .len) #[(.tmp 6)] #[23])), none⟩,
   ⟨(some 8), (.move (.const (.int .i64 0))), none⟩])
 (.block 0 (.loop (.seq (.reg [⟨(some 9), (.binOp .lss 3 (.tmp 8) (.tmp 7) 3), none⟩])
 (.seq (.cond (.tmp 9) .skip (.exit 0))
 (.seq (.block 1 (.seq (.reg [⟨(some 10), (.indexAddr 23 (.tmp 6) (.tmp 8)), none⟩,
   ⟨(some 11), (.load 3 (.tmp 10)), none⟩,
   ⟨(some 5), (.assign (.tmp 11)), none⟩])
 (.seq (.reg [⟨(some 12), (.move (.tmp 5)), none⟩,
   ⟨(some 13), (.move (.tmp 3)), none⟩,
   ⟨(some 14), (.binOp .neq 3 (.tmp 12) (.tmp 13) 3), none⟩])
 (.cond (.tmp 14) (.seq (.reg [⟨(some 15), (.move (.tmp 5)), none⟩,
   ⟨(some 2), (.assign (.tmp 15)), none⟩])
 .ret) .skip))))
 (.reg [⟨(some 16), (.binOp .add 3 (.tmp 8) (.const (.int .i64 1)) 3), none⟩,
   ⟨(some 8), (.move (.tmp 16)), none⟩])))))))
 (.seq (.reg [⟨(some 17), (.move (.tmp 3)), none⟩,
   ⟨(some 2), (.assign (.tmp 17)), none⟩])
 .ret))))
theorem x_cmp_Or_int : Txt Try.prog 76 c_cmp_Or_int [.tmp 2] 1 := ⟨by kernel_rfl, by kernel_rfl, _, _, Try.func76, rfl, by kernel_rfl, by kernel_rfl, by kernel_rfl, rfl, by decide⟩
/-- cmp.Compare[int] -/
def c_cmp_Compare_int : Cd :=
 (.seq (.reg [⟨(some 4), (.assign (.const (.int .i64 0))), none⟩])
 (.seq (.reg [⟨(some 7), (.move (.tmp 0)), none⟩,
   ⟨(some 8), (.call (.mk (.value (.func 88)) #[(.tmp 7)] #[3])), none⟩,
   ⟨(some 5), (.assign (.tmp 8)), none⟩])
 (.seq (.reg [⟨(some 9), (.move (.tmp 1)), none⟩,
   ⟨(some 10), (.call (.mk (.value (.func 88)) #[(.tmp 9)] #[3])), none⟩,
   ⟨(some 6), (.assign (.tmp 10)), none⟩])
 (.seq (.seq (.reg [⟨(some 11), (.move (.tmp 5)), none⟩])
 (.cond (.tmp 11) (.seq (.seq (.reg [⟨(some 12), (.move (.tmp 6)), none⟩])
 (.cond (.tmp 12) (.seq (.reg [⟨(some 4), (.assign (.const (.int .i64 0))), none⟩])
 .ret) .skip))
 (.seq (.reg [⟨(some 4), (.assign (.const (.int .i64 (-1)))), none⟩])
 .ret)) .skip))
 (.seq (.seq (.reg [⟨(some 13), (.move (.tmp 6)), none⟩])
 (.cond (.tmp 13) (.seq (.reg [⟨(some 4), (.assign (.const (.int .i64 1))), none⟩])
 .ret) .skip))
 (.seq (.seq (.reg [⟨(some 14), (.move (.tmp 0)), none⟩,
   ⟨(some 15), (.move (.tmp 1)), none⟩,
   ⟨(some 16), (.binOp .lss 3 (.tmp 14) (.tmp 15) 3), none⟩])
 (.cond (.tmp 16) (.seq (.reg [⟨(some 4), (.assign (.const (.int .i64 (-1)))), none⟩])
 .ret) .skip))
 (.seq (.seq (.reg [⟨(some 17), (.move (.tmp 0)), none⟩,
   ⟨(some 18), (.move (.tmp 1)), none⟩,
   ⟨(some 19), (.binOp .gtr 3 (.tmp 17) (.tmp 18) 3), none⟩])
 (.cond (.tmp 19) (.seq (.reg [⟨(some 4), (.assign (.const (.int .i64 1))), none⟩])
 .ret) .skip))
 (.seq (.reg [⟨(some 4), (.assign (.const (.int .i64 0))), none⟩])
 .ret))))))))
theorem x_cmp_Compare_int : Txt Try.prog 77 c_cmp_Compare_int [.tmp 4] 2 := ⟨by kernel_rfl, by kernel_rfl, _, _, Try.func77, rfl, by kernel_rfl, by kernel_rfl, by kernel_rfl, rfl, by decide⟩
/-- loop.example/g01062/impl.arePeople -/
def c_impl_arePeople : Cd :=
 (.seq (.reg [⟨(some 4), (.assign (.const (.bool false))), none⟩])
 (.seq (.seq (.reg [⟨(some 7), (.move (.tmp 1)), none⟩,
   ⟨(some 8), (.call (.mk (.builtin .len) #[(.tmp 7)] #[23])), none⟩,
   ⟨(some 9), (.move (.const (.int .i64 0))), none⟩])
 (.block 0 (.loop (.seq (.reg [⟨(some 10), (.binOp .lss 3 (.tmp 9) (.tmp 8) 3), none⟩])
 (.seq (.cond (.tmp 10) .skip (.exit 0))
 (.seq (.block 1 (.seq (.reg [⟨(some 11), (.move (.tmp 9)), none⟩,
   ⟨(some 12), (.indexAddr 23 (.tmp 7) (.tmp 9)), none⟩,
   ⟨(some 13), (.load 3 (.tmp 12)), none⟩,
   ⟨(some 5), (.assign (.tmp 11)), none⟩,
   ⟨(some 6), (.assign (.tmp 13)), none⟩])
 (.seq (.reg [⟨(some 14), (.move (.tmp 6)), none⟩,
   ⟨(some 15), (.move (.tmp 1)), none⟩,
   ⟨(some 16), (.indexAddr 23 (.tmp 15) (.const (.int .i64 0))), none⟩,
   ⟨(some 17), (.load 3 (.tmp 16)), none⟩,
   ⟨(some 18), (.move (.tmp 0)), none⟩,
   ⟨(some 19), (.binOp .sub 3 (.tmp 18) (.const (.int .i64 1)) 3), none⟩,
   ⟨(some 20), (.call (.mk (.value (.func 55)) #[(.tmp 14), (.tmp 17), (.tmp 19)] #[3, 3, 3])), none⟩,
   ⟨(some 21), (.unOp .not 4 (.tmp 20)), none⟩,
   ⟨(some 22), (.move (.tmp 21)), none⟩,
   ⟨(some 23), (.move (.tmp 1)), (some (22, false))⟩,
   ⟨(some 24), (.move (.tmp 5)), (some (22, false))⟩,
   ⟨(some 25), (.slice 23 (.tmp 23) none (some (.tmp 24)) none), (some (22, false))⟩,
   ⟨(some 26), (.move (.tmp 6)), (some (22, false))⟩,
   ⟨(some 27), (.call (.mk (.value (.func 82)) #[(.tmp 25), (.tmp 26)] #[23, 3])), (some (22, false))⟩,
   ⟨(some 28), (.pick (.tmp 22) (.const (.bool true)) (.tmp 27)), none⟩])
 (.cond (.tmp 28) (.seq (.reg [⟨(some 4), (.assign (.const (.bool false))), none⟩])
 .ret) .skip))))
 (.reg [⟨(some 29), (.binOp .add 3 (.tmp 9) (.const (.int .i64 1)) 3), none⟩,
   ⟨(some 9), (.move (.tmp 29)), none⟩])))))))
 (.seq (.reg [⟨(some 30), (.move (.tmp 1)), none⟩,
   ⟨(some 31), (.call (.mk (.builtin .len) #[(.tmp 30)] #[23])), none⟩,
   ⟨(some 32), (.move (.tmp 0)), none⟩,
   ⟨(some 33), (.call (.mk (.value (.func 55)) #[(.tmp 31), (.const (.int .i64 2)), (.tmp 32)] #[3, 3, 3])), none⟩,
   ⟨(some 34), (.move (.tmp 33)), none⟩,
   ⟨(some 35), (.move (.tmp 1)), (some (34, true))⟩,
   ⟨(some 36), (.indexAddr 23 (.tmp 35) (.const (.int .i64 0))), (some (34, true))⟩,
   ⟨(some 37), (.load 3 (.tmp 36)), (some (34, true))⟩,
   ⟨(some 38), (.binOp .geq 3 (.tmp 37) (.const (.int .i64 0)) 3), (some (34, true))⟩,
   ⟨(some 39), (.pick (.tmp 34) (.tmp 38) (.const (.bool false))), none⟩,
   ⟨(some 4), (.assign (.tmp 39)), none⟩])
 .ret)))
theorem x_impl_arePeople : Txt Try.prog 78 c_impl_arePeople [.tmp 4] 2 := ⟨by kernel_rfl, by kernel_rfl, _, _, Try.func78, rfl, by kernel_rfl, by kernel_rfl, by kernel_rfl, rfl, by decide⟩
/-- loop.example/g01062/impl.gainBetween -/
def c_impl_gainBetween : Cd :=
 (.seq (.reg [⟨(some 6), (.assign (.const (.int .i64 0))), none⟩])
 (.seq (.seq (.reg [⟨(some 9), (.move (.tmp 0)), none⟩,
   ⟨(some 10), (.call (.mk (.builtin .len) #[(.tmp 9)] #[27])), none⟩,
   ⟨(some 11), (.move (.const (.int .i64 0))), none⟩])
 (.block 0 (.loop (.seq (.reg [⟨(some 12), (.binOp .lss 3 (.tmp 11) (.tmp 10) 3), none⟩])
 (.seq (.cond (.tmp 12) .skip (.exit 0))
 (.seq (.block 1 (.seq (.reg [⟨(some 13), (.indexAddr 27 (.tmp 9) (.tmp 11)), none⟩,
   ⟨(some 14), (.load 63 (.tmp 13)), none⟩,
   ⟨(some 8), (.alloc 63), none⟩,
   ⟨none, (.store 63 (.tmp 8) (.tmp 14)), none⟩])
 (.seq (.reg [⟨(some 15), (.fieldAddr 63 (.tmp 8) 0), none⟩,
   ⟨(some 16), (.load 3 (.tmp 15)), none⟩,
   ⟨(some 17), (.move (.tmp 1)), none⟩,
   ⟨(some 18), (.binOp .eql 3 (.tmp 16) (.tmp 17) 3), none⟩,
   ⟨(some 19), (.move (.tmp 18)), none⟩,
   ⟨(some 20), (.fieldAddr 63 (.tmp 8) 1), (some (19, true))⟩,
   ⟨(some 21), (.load 3 (.tmp 20)), (some (19, true))⟩,
   ⟨(some 22), (.move (.tmp 2)), (some (19, true))⟩,
   ⟨(some 23), (.binOp .eql 3 (.tmp 21) (.tmp 22) 3), (some (19, true))⟩,
   ⟨(some 24), (.pick (.tmp 19) (.tmp 23) (.const (.bool false))), none⟩])
 (.cond (.tmp 24) (.seq (.reg [⟨(some 25), (.fieldAddr 63 (.tmp 8) 2), none⟩,
   ⟨(some 26), (.load 3 (.tmp 25)), none⟩,
   ⟨(some 6), (.assign (.tmp 26)), none⟩])
 .ret) .skip))))
 (.reg [⟨(some 27), (.binOp .add 3 (.tmp 11) (.const (.int .i64 1)) 3), none⟩,
   ⟨(some 11), (.move (.tmp 27)), none⟩])))))))
 (.seq (.reg [⟨(some 6), (.assign (.const (.int .i64 0))), none⟩])
 .ret)))
theorem x_impl_gainBetween : Txt Try.prog 79 c_impl_gainBetween [.tmp 6] 3 := ⟨by kernel_rfl, by kernel_rfl, _, _, Try.func79, rfl, by kernel_rfl, by kernel_rfl, by kernel_rfl, rfl, by decide⟩
/-- loop.example/g01062/impl.circlesOf closure 1 -/
def c_impl_circlesOf_1 : Cd :=
 (.seq (.reg [⟨(some 9), (.move (.tmp 0)), none⟩,
   ⟨(some 10), (.move (.tmp 0)), none⟩,
   ⟨(some 11), (.call (.mk (.builtin .len) #[(.tmp 10)] #[23])), none⟩,
   ⟨(some 12), (.binOp .sub 3 (.tmp 11) (.const (.int .i64 1)) 3), none⟩,
   ⟨(some 13), (.indexAddr 23 (.tmp 9) (.tmp 12)), none⟩,
   ⟨(some 14), (.load 3 (.tmp 13)), none⟩,
   ⟨(some 7), (.assign (.tmp 14)), none⟩])
 (.seq (.seq (.reg [⟨(some 15), (.move (.tmp 0)), none⟩,
   ⟨(some 16), (.call (.mk (.builtin .len) #[(.tmp 15)] #[23])), none⟩,
   ⟨(some 17), (.binOp .gtr 3 (.tmp 16) (.const (.int .i64 1)) 3), none⟩,
   ⟨(some 18), (.move (.tmp 17)), none⟩,
   ⟨(some 19), (.load 27 (.tmp 1)), (some (18, true))⟩,
   ⟨(some 20), (.move (.tmp 7)), (some (18, true))⟩,
   ⟨(some 21), (.load 3 (.tmp 2)), (some (18, true))⟩,
   ⟨(some 22), (.call (.mk (.value (.func 79)) #[(.tmp 19), (.tmp 20), (.tmp 21)] #[27, 3, 3])), (some (18, true))⟩,
   ⟨(some 23), (.binOp .gtr 3 (.tmp 22) (.const (.int .i64 0)) 3), (some (18, true))⟩,
   ⟨(some 24), (.pick (.tmp 18) (.tmp 23) (.const (.bool false))), none⟩])
 (.cond (.tmp 24) (.regt [⟨(some 25), (.load 33 (.tmp 3)), none⟩,
   ⟨(some 26), (.move (.tmp 0)), none⟩] (.one true ⟨(some 27), (.call (.mk (.value (.func 81)) #[(.tmp 26)] #[23])), none⟩
   (.one true ⟨(some 28), (.buildSlice 33 1 #[(0, (.tmp 27))]), none⟩
   (.one false ⟨(some 29), (.call (.mk (.builtin .append) #[(.tmp 25), (.tmp 28)] #[33, 33])), none⟩
   (.one false ⟨none, (.store 33 (.tmp 3) (.tmp 29)), none⟩
   .done)))) [(.tmp 3)]) .skip))
 (.seq (.reg [⟨(some 30), (.load 3 (.tmp 2)), none⟩,
   ⟨(some 31), (.binOp .add 3 (.tmp 30) (.const (.int .i64 1)) 3), none⟩,
   ⟨(some 8), (.assign (.tmp 31)), none⟩])
 (.block 0 (.loop (.seq (.seq (.reg [⟨(some 32), (.move (.tmp 8)), none⟩,
   ⟨(some 33), (.load 3 (.tmp 4)), none⟩,
   ⟨(some 34), (.binOp .lss 3 (.tmp 32) (.tmp 33) 3), none⟩])
 (.cond (.tmp 34) .skip (.exit 0)))
 (.seq (.block 1 (.seq (.reg [⟨(some 37), (.move (.tmp 0)), none⟩,
   ⟨(some 38), (.move (.tmp 8)), none⟩,
   ⟨(some 39), (.call (.mk (.value (.func 82)) #[(.tmp 37), (.tmp 38)] #[23, 3])), none⟩,
   ⟨(some 40), (.unOp .not 4 (.tmp 39)), none⟩,
   ⟨(some 41), (.move (.tmp 40)), none⟩,
   ⟨(some 42), (.load 27 (.tmp 1)), (some (41, true))⟩,
   ⟨(some 43), (.move (.tmp 7)), (some (41, true))⟩,
   ⟨(some 44), (.move (.tmp 8)), (some (41, true))⟩,
   ⟨(some 45), (.call (.mk (.value (.func 79)) #[(.tmp 42), (.tmp 43), (.tmp 44)] #[27, 3, 3])), (some (41, true))⟩,
   ⟨(some 46), (.binOp .gtr 3 (.tmp 45) (.const (.int .i64 0)) 3), (some (41, true))⟩,
   ⟨(some 47), (.pick (.tmp 41) (.tmp 46) (.const (.bool false))), none⟩])
 (.cond (.tmp 47) (.regt [⟨(some 48), (.load 90 (.tmp 5)), none⟩,
   ⟨(some 49), (.move (.tmp 0)), none⟩,
   ⟨(some 50), (.move (.tmp 8)), none⟩] (.one true ⟨(some 51), (.buildSlice 23 1 #[(0, (.tmp 50))]), none⟩
   (.one true ⟨(some 52), (.call (.mk (.builtin .append) #[(.tmp 49), (.tmp 51)] #[23, 23])), none⟩
   (.one false ⟨(some 53), (.call (.mk (.value (.tmp 48)) #[(.tmp 52)] #[23])), none⟩
   .done))) []) .skip)))
 (.reg [⟨(some 35), (.move (.tmp 8)), none⟩,
   ⟨(some 36), (.binOp .add 3 (.tmp 35) (.const (.int .i64 1)) 3), none⟩,
   ⟨(some 8), (.assign (.tmp 36)), none⟩]))))))))
theorem x_impl_circlesOf_1 : Txt Try.prog 80 c_impl_circlesOf_1 [] 6 := ⟨by kernel_rfl, by kernel_rfl, _, _, Try.func80, rfl, by kernel_rfl, by kernel_rfl, by kernel_rfl, rfl, by decide⟩
/-- slices.Clone[[]int,int] -/
def c_slices_Clone_int : Cd :=
 (.seq (.reg [⟨(some 2), (.assign (.const (.slice none 0 0))), none⟩])
 (.seq (.seq (.reg [⟨(some 3), (.move (.tmp 0)), none⟩,
   ⟨(some 4), (.binOp .eql 23 (.tmp 3) (.const (.slice none 0 0)) 23), none⟩])
 (.cond (.tmp 4) (.seq (.reg [⟨(some 2), (.assign (.const (.slice none 0 0))), none⟩])
 .ret) .skip))
 (.seq (.reg [⟨(some 5), (.buildSlice 23 0 #[]), none⟩,
   ⟨(some 6), (.move (.tmp 0)), none⟩,
   ⟨(some 7), (.call (.mk (.builtin .append) #[(.tmp 5), (.tmp 6)] #[23, 23])), none⟩,
   ⟨(some 2), (.assign (.tmp 7)), none⟩])
 .ret)))
theorem x_slices_Clone_int : Txt Try.prog 81 c_slices_Clone_int [.tmp 2] 1 := ⟨by kernel_rfl, by kernel_rfl, _, _, Try.func81, rfl, by kernel_rfl, by kernel_rfl, by kernel_rfl, rfl, by decide⟩
/-- slices.Contains[[]int,int] -/
def c_slices_Contains_int : Cd :=
 (.seq (.reg [⟨(some 4), (.assign (.const (.bool false))), none⟩])
 (.seq (.reg [⟨(some 5), (.move (.tmp 0)), none⟩,
   ⟨(some 6), (.move (.tmp 1)), none⟩,
   ⟨(some 7), (.call (.mk (.value (.func 89)) #[(.tmp 5), (.tmp 6)] #[23, 3])), none⟩,
   ⟨(some 8), (.binOp .geq 3 (.tmp 7) (.const (.int .i64 0)) 3), none⟩,
   ⟨(some 4), (.assign (.tmp 8)), none⟩])
 .ret))
theorem x_slices_Contains_int : Txt Try.prog 82 c_slices_Contains_int [.tmp 4] 2 := ⟨by kernel_rfl, by kernel_rfl, _, _, Try.func82, rfl, by kernel_rfl, by kernel_rfl, by kernel_rfl, rfl, by decide⟩
/-- loop.example/g01062/spec.l20People -/
def c_spec_l20People : Cd :=
 (.seq (.reg [⟨(some 2), (.assign (.const (.int .i64 0))), none⟩])
 (.seq (.reg [⟨(some 3), (.assign (.const (.int .i64 0))), none⟩])
 (.seq (.seq (.reg [⟨(some 4), (.assign (.const (.int .i64 0))), none⟩])
 (.block 0 (.loop (.seq (.seq (.reg [⟨(some 5), (.move (.tmp 4)), none⟩,
   ⟨(some 6), (.move (.tmp 0)), none⟩,
   ⟨(some 7), (.call (.mk (.builtin .len) #[(.tmp 6)] #[33])), none⟩,
   ⟨(some 8), (.binOp .lss 3 (.tmp 5) (.tmp 7) 3), none⟩])
 (.cond (.tmp 8) .skip (.exit 0)))
 (.seq (.block 1 (.reg [⟨(some 11), (.move (.tmp 3)), none⟩,
   ⟨(some 12), (.move (.tmp 0)), none⟩,
   ⟨(some 13), (.move (.tmp 4)), none⟩,
   ⟨(some 14), (.indexAddr 33 (.tmp 12) (.tmp 13)), none⟩,
   ⟨(some 15), (.load 23 (.tmp 14)), none⟩,
   ⟨(some 16), (.call (.mk (.builtin .len) #[(.tmp 15)] #[23])), none⟩,
   ⟨(some 17), (.binOp .add 3 (.tmp 11) (.tmp 16) 3), none⟩,
   ⟨(some 3), (.assign (.tmp 17)), none⟩]))
 (.reg [⟨(some 9), (.move (.tmp 4)), none⟩,
   ⟨(some 10), (.binOp .add 3 (.tmp 9) (.const (.int .i64 1)) 3), none⟩,
   ⟨(some 4), (.assign (.tmp 10)), none⟩]))))))
 (.seq (.reg [⟨(some 18), (.move (.tmp 3)), none⟩,
   ⟨(some 2), (.assign (.tmp 18)), none⟩])
 .ret))))
theorem x_spec_l20People : Txt Try.prog 83 c_spec_l20People [.tmp 2] 1 := ⟨by kernel_rfl, by kernel_rfl, _, _, Try.func83, rfl, by kernel_rfl, by kernel_rfl, by kernel_rfl, rfl, by decide⟩
/-- loop.example/g01062/impl.exchanges closure 1 -/
def c_impl_exchanges_1 : Cd :=
 (.seq (.reg [⟨(some 18), (.load 78 (.tmp 5)), none⟩,
   ⟨(some 19), (.move (.tmp 1)), none⟩,
   ⟨(some 20), (.move (.tmp 3)), none⟩,
   ⟨(some 21), (.move (.tmp 4)), none⟩,
   ⟨(some 22), (.call (.mk (.value (.tmp 18)) #[(.tmp 19), (.tmp 20), (.tmp 21)] #[33, 3, 3])), none⟩])
 (.seq (.reg [⟨(some 23), (.move (.tmp 0)), none⟩,
   ⟨(some 14), (.assign (.tmp 23)), none⟩])
 (.block 0 (.loop (.seq (.seq (.reg [⟨(some 24), (.move (.tmp 14)), none⟩,
   ⟨(some 25), (.load 33 (.tmp 6)), none⟩,
   ⟨(some 26), (.call (.mk (.builtin .len) #[(.tmp 25)] #[33])), none⟩,
   ⟨(some 27), (.binOp .lss 3 (.tmp 24) (.tmp 26) 3), none⟩])
 (.cond (.tmp 27) .skip (.exit 0)))
 (.seq (.block 1 (.seq (.reg [⟨(some 15), (.assign (.const (.int .i64 0))), none⟩])
 (.seq (.seq (.reg [⟨(some 30), (.load 33 (.tmp 6)), none⟩,
   ⟨(some 31), (.move (.tmp 14)), none⟩,
   ⟨(some 32), (.indexAddr 33 (.tmp 30) (.tmp 31)), none⟩,
   ⟨(some 33), (.load 23 (.tmp 32)), none⟩,
   ⟨(some 34), (.call (.mk (.builtin .len) #[(.tmp 33)] #[23])), none⟩,
   ⟨(some 35), (.move (.const (.int .i64 0))), none⟩])
 (.block 2 (.loop (.seq (.reg [⟨(some 36), (.binOp .lss 3 (.tmp 35) (.tmp 34) 3), none⟩])
 (.seq (.cond (.tmp 36) .skip (.exit 2))
 (.seq (.block 3 (.seq (.reg [⟨(some 37), (.indexAddr 23 (.tmp 33) (.tmp 35)), none⟩,
   ⟨(some 38), (.load 3 (.tmp 37)), none⟩,
   ⟨(some 17), (.assign (.tmp 38)), none⟩])
 (.reg [⟨(some 39), (.move (.tmp 15)), none⟩,
   ⟨(some 40), (.move (.tmp 17)), none⟩,
   ⟨(some 41), (.binOp .shl 3 (.const (.int .i64 1)) (.tmp 40) 3), none⟩,
   ⟨(some 42), (.binOp .or 3 (.tmp 39) (.tmp 41) 3), none⟩,
   ⟨(some 15), (.assign (.tmp 42)), none⟩])))
 (.reg [⟨(some 43), (.binOp .add 3 (.tmp 35) (.const (.int .i64 1)) 3), none⟩,
   ⟨(some 35), (.move (.tmp 43)), none⟩])))))))
 (.seq (.reg [⟨(some 44), (.move (.tmp 15)), none⟩,
   ⟨(some 45), (.move (.tmp 2)), none⟩,
   ⟨(some 46), (.binOp .and 3 (.tmp 44) (.tmp 45) 3), none⟩,
   ⟨(some 47), (.binOp .eql 3 (.tmp 46) (.const (.int .i64 0)) 3), none⟩])
 (.cond (.tmp 47) (.regt [⟨(some 48), (.load 92 (.tmp 7)), none⟩,
   ⟨(some 49), (.move (.tmp 14)), none⟩,
   ⟨(some 50), (.binOp .add 3 (.tmp 49) (.const (.int .i64 1)) 3), none⟩,
   ⟨(some 51), (.move (.tmp 1)), none⟩,
   ⟨(some 52), (.load 33 (.tmp 6)), none⟩,
   ⟨(some 53), (.move (.tmp 14)), none⟩,
   ⟨(some 54), (.indexAddr 33 (.tmp 52) (.tmp 53)), none⟩,
   ⟨(some 55), (.load 23 (.tmp 54)), none⟩,
   ⟨(some 58), (.move (.tmp 2)), none⟩,
   ⟨(some 59), (.move (.tmp 15)), none⟩,
   ⟨(some 60), (.binOp .or 3 (.tmp 58) (.tmp 59) 3), none⟩,
   ⟨(some 61), (.move (.tmp 3)), none⟩,
   ⟨(some 62), (.load 33 (.tmp 6)), none⟩,
   ⟨(some 63), (.move (.tmp 14)), none⟩,
   ⟨(some 64), (.indexAddr 33 (.tmp 62) (.tmp 63)), none⟩,
   ⟨(some 65), (.load 23 (.tmp 64)), none⟩,
   ⟨(some 66), (.call (.mk (.builtin .len) #[(.tmp 65)] #[23])), none⟩,
   ⟨(some 67), (.binOp .add 3 (.tmp 61) (.tmp 66) 3), none⟩,
   ⟨(some 68), (.move (.tmp 4)), none⟩,
   ⟨(some 69), (.load 27 (.tmp 8)), none⟩,
   ⟨(some 70), (.load 33 (.tmp 6)), none⟩,
   ⟨(some 71), (.move (.tmp 14)), none⟩,
   ⟨(some 72), (.indexAddr 33 (.tmp 70) (.tmp 71)), none⟩,
   ⟨(some 73), (.load 23 (.tmp 72)), none⟩] (.one true ⟨(some 56), (.buildSlice 33 1 #[(0, (.tmp 55))]), none⟩
   (.one true ⟨(some 57), (.call (.mk (.builtin .append) #[(.tmp 51), (.tmp 56)] #[33, 33])), none⟩
   (.one true ⟨(some 74), (.call (.mk (.value (.func 51)) #[(.tmp 69), (.tmp 73)] #[27, 23])), none⟩
   (.one true ⟨(some 75), (.binOp .add 3 (.tmp 68) (.tmp 74) 3), none⟩
   (.one false ⟨(some 76), (.call (.mk (.value (.tmp 48)) #[(.tmp 50), (.tmp 57), (.tmp 60), (.tmp 67), (.tmp 75)] #[3, 33, 3, 3, 3])), none⟩
   .done))))) []) .skip)))))
 (.reg [⟨(some 28), (.move (.tmp 14)), none⟩,
   ⟨(some 29), (.binOp .add 3 (.tmp 28) (.const (.int .i64 1)) 3), none⟩,
   ⟨(some 14), (.assign (.tmp 29)), none⟩])))))))
theorem x_impl_exchanges_1 : Txt Try.prog 84 c_impl_exchanges_1 [] 9 := ⟨by kernel_rfl, by kernel_rfl, _, _, Try.func84, rfl, by kernel_rfl, by kernel_rfl, by kernel_rfl, rfl, by decide⟩
/-- (*loop.example/g01062/spec.l1Cur).among -/
def c_spec_l1Cur_among : Cd :=
 (.seq (.reg [⟨(some 4), (.assign (.const (.int .i64 0))), none⟩])
 (.seq (.reg [⟨(some 5), (.move (.tmp 1)), none⟩,
   ⟨(some 6), (.move (.tmp 0)), none⟩,
   ⟨(some 7), (.move (.tmp 1)), none⟩,
   ⟨(some 8), (.call (.mk (.builtin .len) #[(.tmp 7)] #[23])), none⟩,
   ⟨(some 9), (.call (.mk (.value (.func 71)) #[(.tmp 6), (.tmp 8)] #[79, 3])), none⟩,
   ⟨(some 10), (.indexAddr 23 (.tmp 5) (.tmp 9)), none⟩,
   ⟨(some 11), (.load 3 (.tmp 10)), none⟩,
   ⟨(some 4), (.assign (.tmp 11)), none⟩])
 .ret))
theorem x_spec_l1Cur_among : Txt Try.prog 85 c_spec_l1Cur_among [.tmp 4] 2 := ⟨by kernel_rfl, by kernel_rfl, _, _, Try.func85, rfl, by kernel_rfl, by kernel_rfl, by kernel_rfl, rfl, by decide⟩
/-- (*loop.example/g01062/spec.l1Cur).one -/
def c_spec_l1Cur_one : Cd :=
 (.seq (.reg [⟨(some 4), (.assign (.const (.bool false))), none⟩])
 (.seq (.reg [⟨(some 5), (.move (.tmp 0)), none⟩,
   ⟨(some 6), (.move (.tmp 1)), none⟩,
   ⟨(some 7), (.call (.mk (.value (.func 71)) #[(.tmp 5), (.tmp 6)] #[79, 3])), none⟩,
   ⟨(some 8), (.binOp .eql 3 (.tmp 7) (.const (.int .i64 0)) 3), none⟩,
   ⟨(some 4), (.assign (.tmp 8)), none⟩])
 .ret))
theorem x_spec_l1Cur_one : Txt Try.prog 86 c_spec_l1Cur_one [.tmp 4] 2 := ⟨by kernel_rfl, by kernel_rfl, _, _, Try.func86, rfl, by kernel_rfl, by kernel_rfl, by kernel_rfl, rfl, by decide⟩
/-- (*loop.example/g01062/spec.l1Cur).next -/
def c_spec_l1Cur_next : Cd :=
 (.seq (.reg [⟨(some 2), (.assign (.const (.int .i64 0))), none⟩])
 (.seq (.reg [⟨(some 3), (.assign (.const (.int .i64 0))), none⟩])
 (.seq (.seq (.regq [⟨(some 4), (.move (.tmp 0)), none⟩,
   ⟨(some 5), (.nilCheck (.tmp 4)), none⟩,
   ⟨(some 6), (.fieldAddr 82 (.tmp 5) 1), none⟩,
   ⟨(some 7), (.load 3 (.tmp 6)), none⟩,
   ⟨(some 8), (.move (.tmp 0)), none⟩,
   ⟨(some 9), (.nilCheck (.tmp 8)), none⟩,
   ⟨(some 10), (.fieldAddr 82 (.tmp 9) 0), none⟩,
   ⟨(some 11), (.load 53 (.tmp 10)), none⟩,
   ⟨(some 12), (.call (.mk (.builtin .len) #[(.tmp 11)] #[53])), none⟩,
   ⟨(some 13), (.binOp .lss 3 (.tmp 7) (.tmp 12) 3), none⟩])
 (.cond (.tmp 13) (.regq [⟨(some 14), (.move (.tmp 0)), none⟩,
   ⟨(some 15), (.nilCheck (.tmp 14)), none⟩,
   ⟨(some 16), (.fieldAddr 82 (.tmp 15) 0), none⟩,
   ⟨(some 17), (.load 53 (.tmp 16)), none⟩,
   ⟨(some 18), (.move (.tmp 0)), none⟩,
   ⟨(some 19), (.nilCheck (.tmp 18)), none⟩,
   ⟨(some 20), (.fieldAddr 82 (.tmp 19) 1), none⟩,
   ⟨(some 21), (.load 3 (.tmp 20)), none⟩,
   ⟨(some 22), (.indexAddr 53 (.tmp 17) (.tmp 21)), none⟩,
   ⟨(some 23), (.load 5 (.tmp 22)), none⟩,
   ⟨(some 24), (.convert 5 3 (.tmp 23)), none⟩,
   ⟨(some 3), (.assign (.tmp 24)), none⟩]) .skip))
 (.seq (.reg [⟨(some 25), (.move (.tmp 0)), none⟩,
   ⟨(some 26), (.nilCheck (.tmp 25)), none⟩,
   ⟨(some 27), (.fieldAddr 82 (.tmp 26) 1), none⟩,
   ⟨(some 28), (.load 3 (.tmp 27)), none⟩,
   ⟨(some 29), (.binOp .add 3 (.tmp 28) (.const (.int .i64 1)) 3), none⟩,
   ⟨(some 30), (.nilCheck (.tmp 25)), none⟩,
   ⟨(some 31), (.fieldAddr 82 (.tmp 30) 1), none⟩,
   ⟨none, (.store 3 (.tmp 31) (.tmp 29)), none⟩])
 (.seq (.reg [⟨(some 32), (.move (.tmp 0)), none⟩,
   ⟨(some 33), (.move (.tmp 0)), none⟩,
   ⟨(some 34), (.nilCheck (.tmp 33)), none⟩,
   ⟨(some 35), (.fieldAddr 82 (.tmp 34) 2), none⟩,
   ⟨(some 36), (.load 80 (.tmp 35)), none⟩,
   ⟨(some 37), (.binOp .mul 80 (.tmp 36) (.const (.int .u64 6364136223846793005)) 80), none⟩,
   ⟨(some 38), (.move (.tmp 3)), none⟩,
   ⟨(some 39), (.convert 3 80 (.tmp 38)), none⟩,
   ⟨(some 40), (.binOp .add 80 (.tmp 37) (.tmp 39) 80), none⟩,
   ⟨(some 41), (.binOp .add 80 (.tmp 40) (.const (.int .u64 381907)) 80), none⟩,
   ⟨(some 42), (.nilCheck (.tmp 32)), none⟩,
   ⟨(some 43), (.fieldAddr 82 (.tmp 42) 2), none⟩,
   ⟨none, (.store 80 (.tmp 43) (.tmp 41)), none⟩])
 (.seq (.seq (.regq [⟨(some 44), (.move (.tmp 0)), none⟩,
   ⟨(some 45), (.nilCheck (.tmp 44)), none⟩,
   ⟨(some 46), (.fieldAddr 82 (.tmp 45) 1), none⟩,
   ⟨(some 47), (.load 3 (.tmp 46)), none⟩,
   ⟨(some 48), (.move (.tmp 0)), none⟩,
   ⟨(some 49), (.nilCheck (.tmp 48)), none⟩,
   ⟨(some 50), (.fieldAddr 82 (.tmp 49) 0), none⟩,
   ⟨(some 51), (.load 53 (.tmp 50)), none⟩,
   ⟨(some 52), (.call (.mk (.builtin .len) #[(.tmp 51)] #[53])), none⟩,
   ⟨(some 53), (.binOp .leq 3 (.tmp 47) (.tmp 52) 3), none⟩])
 (.cond (.tmp 53) (.seq (.reg [⟨(some 54), (.move (.tmp 3)), none⟩,
   ⟨(some 2), (.assign (.tmp 54)), none⟩])
 .ret) .skip))
 (.seq (.reg [⟨(some 55), (.move (.tmp 0)), none⟩,
   ⟨(some 56), (.nilCheck (.tmp 55)), none⟩,
   ⟨(some 57), (.fieldAddr 82 (.tmp 56) 2), none⟩,
   ⟨(some 58), (.load 80 (.tmp 57)), none⟩,
   ⟨(some 59), (.binOp .shr 80 (.tmp 58) (.const (.int .u64 40)) 96), none⟩,
   ⟨(some 60), (.binOp .and 80 (.tmp 59) (.const (.int .u64 255)) 80), none⟩,
   ⟨(some 61), (.convert 80 3 (.tmp 60)), none⟩,
   ⟨(some 2), (.assign (.tmp 61)), none⟩])
 .ret)))))))
theorem x_spec_l1Cur_next : Txt Try.prog 87 c_spec_l1Cur_next [.tmp 2] 1 := ⟨by kernel_rfl, by kernel_rfl, _, _, Try.func87, rfl, by kernel_rfl, by kernel_rfl, by kernel_rfl, rfl, by decide⟩
/-- cmp.isNaN[int] -/
def c_cmp_isNaN_int : Cd :=
 (.seq (.reg [⟨(some 2), (.assign (.const (.bool false))), none⟩])
 (.seq (.reg [⟨(some 3), (.move (.tmp 0)), none⟩,
   ⟨(some 4), (.move (.tmp 0)), none⟩,
   ⟨(some 5), (.binOp .neq 3 (.tmp 3) (.tmp 4) 3), none⟩,
   ⟨(some 2), (.assign (.tmp 5)), none⟩])
 .ret))
theorem x_cmp_isNaN_int : Txt Try.prog 88 c_cmp_isNaN_int [.tmp 2] 1 := ⟨by kernel_rfl, by kernel_rfl, _, _, Try.func88, rfl, by kernel_rfl, by kernel_rfl, by kernel_rfl, rfl, by decide⟩
/-- slices.Index[[]int,int] -/
def c_slices_Index_int : Cd :=
 (.seq (.reg [⟨(some 4), (.assign (.const (.int .i64 0))), none⟩])
 (.seq (.seq (.reg [⟨(some 6), (.move (.tmp 0)), none⟩,
   ⟨(some 7), (.call (.mk (.builtin .len) #[(.tmp 6)] #[23])), none⟩,
   ⟨(some 8), (.move (.const (.int .i64 0))), none⟩])
 (.block 0 (.loop (.seq (.reg [⟨(some 9), (.binOp .lss 3 (.tmp 8) (.tmp 7) 3), none⟩])
 (.seq (.cond (.tmp 9) .skip (.exit 0))
 (.seq (.block 1 (.seq (.reg [⟨(some 10), (.move (.tmp 8)), none⟩,
   ⟨(some 5), (.assign (.tmp 10)), none⟩])
 (.seq (.reg [⟨(some 11), (.move (.tmp 1)), none⟩,
   ⟨(some 12), (.move (.tmp 0)), none⟩,
   ⟨(some 13), (.move (.tmp 5)), none⟩,
   ⟨(some 14), (.indexAddr 23 (.tmp 12) (.tmp 13)), none⟩,
   ⟨(some 15), (.load 3 (.tmp 14)), none⟩,
   ⟨(some 16), (.binOp .eql 3 (.tmp 11) (.tmp 15) 3), none⟩])
 (.cond (.tmp 16) (.seq (.reg [⟨(some 17), (.move (.tmp 5)), none⟩,
   ⟨(some 4), (.assign (.tmp 17)), none⟩])
 .ret) .skip))))
 (.reg [⟨(some 18), (.binOp .add 3 (.tmp 8) (.const (.int .i64 1)) 3), none⟩,
   ⟨(some 8), (.move (.tmp 18)), none⟩])))))))
 (.seq (.reg [⟨(some 4), (.assign (.const (.int .i64 (-1)))), none⟩])
 .ret)))
theorem x_slices_Index_int : Txt Try.prog 89 c_slices_Index_int [.tmp 4] 2 := ⟨by kernel_rfl, by kernel_rfl, _, _, Try.func89, rfl, by kernel_rfl, by kernel_rfl, by kernel_rfl, rfl, by decide⟩
theorem qs3 : qSize Try.prog 3 = some 1 := by kernel_rfl
theorem qb3 : qBytes Try.prog 3 = some 8 := by kernel_rfl
theorem qa3 : qAgg Try.prog 3 = some false := by kernel_rfl
theorem qz3 : qZero Try.prog 3 = some (.int .i64 0) := by kernel_rfl
theorem qk3 : qKind Try.prog 3 = some .i64 := by kernel_rfl
theorem qui3 : (Try.prog.underlying 3).isSome = true := by kernel_rfl
theorem qs4 : qSize Try.prog 4 = some 1 := by kernel_rfl
theorem qb4 : qBytes Try.prog 4 = some 1 := by kernel_rfl
theorem qa4 : qAgg Try.prog 4 = some false := by kernel_rfl
theorem qz4 : qZero Try.prog 4 = some (.bool false) := by kernel_rfl
theorem qo4 : qBool Try.prog 4 = true := by kernel_rfl
theorem qs5 : qSize Try.prog 5 = some 1 := by kernel_rfl
theorem qb5 : qBytes Try.prog 5 = some 1 := by kernel_rfl
theorem qa5 : qAgg Try.prog 5 = some false := by kernel_rfl
theorem qz5 : qZero Try.prog 5 = some (.int .u8 0) := by kernel_rfl
theorem qk5 : qKind Try.prog 5 = some .u8 := by kernel_rfl
theorem qui5 : (Try.prog.underlying 5).isSome = true := by kernel_rfl
theorem qs22 : qSize Try.prog 22 = some 1 := by kernel_rfl
theorem qb22 : qBytes Try.prog 22 = some 24 := by kernel_rfl
theorem qa22 : qAgg Try.prog 22 = some false := by kernel_rfl
theorem qz22 : qZero Try.prog 22 = some (.slice none 0 0) := by kernel_rfl
theorem qe22 : qElem Try.prog 22 = some 65 := by kernel_rfl
theorem qs23 : qSize Try.prog 23 = some 1 := by kernel_rfl
theorem qb23 : qBytes Try.prog 23 = some 24 := by kernel_rfl
theorem qa23 : qAgg Try.prog 23 = some false := by kernel_rfl
theorem qz23 : qZero Try.prog 23 = some (.slice none 0 0) := by kernel_rfl
theorem qe23 : qElem Try.prog 23 = some 3 := by kernel_rfl
theorem qs27 : qSize Try.prog 27 = some 1 := by kernel_rfl
theorem qb27 : qBytes Try.prog 27 = some 24 := by kernel_rfl
theorem qa27 : qAgg Try.prog 27 = some false := by kernel_rfl
theorem qz27 : qZero Try.prog 27 = some (.slice none 0 0) := by kernel_rfl
theorem qe27 : qElem Try.prog 27 = some 63 := by kernel_rfl
theorem qs33 : qSize Try.prog 33 = some 1 := by kernel_rfl
theorem qb33 : qBytes Try.prog 33 = some 24 := by kernel_rfl
theorem qa33 : qAgg Try.prog 33 = some false := by kernel_rfl
theorem qz33 : qZero Try.prog 33 = some (.slice none 0 0) := by kernel_rfl
theorem qe33 : qElem Try.prog 33 = some 23 := by kernel_rfl
theorem qs53 : qSize Try.prog 53 = some 1 := by kernel_rfl
theorem qb53 : qBytes Try.prog 53 = some 24 := by kernel_rfl
theorem qa53 : qAgg Try.prog 53 = some false := by kernel_rfl
theorem qz53 : qZero Try.prog 53 = some (.slice none 0 0) := by kernel_rfl
theorem qe53 : qElem Try.prog 53 = some 5 := by kernel_rfl
theorem qs63 : qSize Try.prog 63 = some 3 := by kernel_rfl
theorem qb63 : qBytes Try.prog 63 = some 24 := by kernel_rfl
theorem qa63 : qAgg Try.prog 63 = some true := by kernel_rfl
theorem qz63 : qZero Try.prog 63 = some (.agg #[.int .i64 0, .int .i64 0, .int .i64 0]) := by kernel_rfl
theorem qg63 : qFields Try.prog 63 = some [(0, 1), (1, 1), (2, 1)] := by kernel_rfl
theorem qf63_0 : qField Try.prog 63 0 = some (0, 3) := by kernel_rfl
theorem qf63_1 : qField Try.prog 63 1 = some (1, 3) := by kernel_rfl
theorem qf63_2 : qField Try.prog 63 2 = some (2, 3) := by kernel_rfl
theorem qs65 : qSize Try.prog 65 = some 3 := by kernel_rfl
theorem qb65 : qBytes Try.prog 65 = some 24 := by kernel_rfl
theorem qa65 : qAgg Try.prog 65 = some true := by kernel_rfl
theorem qz65 : qZero Try.prog 65 = some (.agg #[.int .i64 0, .int .i64 0, .int .i64 0]) := by kernel_rfl
theorem qg65 : qFields Try.prog 65 = some [(0, 1), (1, 1), (2, 1)] := by kernel_rfl
theorem qf65_0 : qField Try.prog 65 0 = some (0, 3) := by kernel_rfl
theorem qf65_1 : qField Try.prog 65 1 = some (1, 3) := by kernel_rfl
theorem qf65_2 : qField Try.prog 65 2 = some (2, 3) := by kernel_rfl
theorem qs74 : qSize Try.prog 74 = some 1 := by kernel_rfl
theorem qb74 : qBytes Try.prog 74 = some 24 := by kernel_rfl
theorem qa74 : qAgg Try.prog 74 = some false := by kernel_rfl
theorem qz74 : qZero Try.prog 74 = some (.slice none 0 0) := by kernel_rfl
theorem qe74 : qElem Try.prog 74 = some 4 := by kernel_rfl
theorem qs79 : qSize Try.prog 79 = some 1 := by kernel_rfl
theorem qb79 : qBytes Try.prog 79 = some 8 := by kernel_rfl
theorem qa79 : qAgg Try.prog 79 = some false := by kernel_rfl
theorem qz79 : qZero Try.prog 79 = some (.pointer none) := by kernel_rfl
theorem qs80 : qSize Try.prog 80 = some 1 := by kernel_rfl
theorem qb80 : qBytes Try.prog 80 = some 8 := by kernel_rfl
theorem qa80 : qAgg Try.prog 80 = some false := by kernel_rfl
theorem qz80 : qZero Try.prog 80 = some (.int .u64 0) := by kernel_rfl
theorem qk80 : qKind Try.prog 80 = some .u64 := by kernel_rfl
theorem qui80 : (Try.prog.underlying 80).isSome = true := by kernel_rfl
theorem qs82 : qSize Try.prog 82 = some 3 := by kernel_rfl
theorem qb82 : qBytes Try.prog 82 = some 40 := by kernel_rfl
theorem qa82 : qAgg Try.prog 82 = some true := by kernel_rfl
theorem qz82 : qZero Try.prog 82 = some (.agg #[.slice none 0 0, .int .i64 0, .int .u64 0]) := by kernel_rfl
theorem qg82 : qFields Try.prog 82 = some [(0, 1), (1, 1), (2, 1)] := by kernel_rfl
theorem qf82_0 : qField Try.prog 82 0 = some (0, 53) := by kernel_rfl
theorem qf82_1 : qField Try.prog 82 1 = some (1, 3) := by kernel_rfl
theorem qf82_2 : qField Try.prog 82 2 = some (2, 80) := by kernel_rfl
set_option linter.defProp false
/-- The facts, in one name. -/
def fcT := And.intro @qs3 <| And.intro @qb3 <| And.intro @qa3 <| And.intro @qz3 <| And.intro @qk3 <| And.intro @qui3 <| And.intro @qs4 <| And.intro @qb4 <| And.intro @qa4 <| And.intro @qz4 <| And.intro @qo4 <| And.intro @qs5 <| And.intro @qb5 <| And.intro @qa5 <| And.intro @qz5 <| And.intro @qk5 <| And.intro @qui5 <| And.intro @qs22 <| And.intro @qb22 <| And.intro @qa22 <| And.intro @qz22 <| And.intro @qe22 <| And.intro @qs23 <| And.intro @qb23 <| And.intro @qa23 <| And.intro @qz23 <| And.intro @qe23 <| And.intro @qs27 <| And.intro @qb27 <| And.intro @qa27 <| And.intro @qz27 <| And.intro @qe27 <| And.intro @qs33 <| And.intro @qb33 <| And.intro @qa33 <| And.intro @qz33 <| And.intro @qe33 <| And.intro @qs53 <| And.intro @qb53 <| And.intro @qa53 <| And.intro @qz53 <| And.intro @qe53 <| And.intro @qs63 <| And.intro @qb63 <| And.intro @qa63 <| And.intro @qz63 <| And.intro @qg63 <| And.intro @qf63_0 <| And.intro @qf63_1 <| And.intro @qf63_2 <| And.intro @qs65 <| And.intro @qb65 <| And.intro @qa65 <| And.intro @qz65 <| And.intro @qg65 <| And.intro @qf65_0 <| And.intro @qf65_1 <| And.intro @qf65_2 <| And.intro @qs74 <| And.intro @qb74 <| And.intro @qa74 <| And.intro @qz74 <| And.intro @qe74 <| And.intro @qs79 <| And.intro @qb79 <| And.intro @qa79 <| And.intro @qz79 <| And.intro @qs80 <| And.intro @qb80 <| And.intro @qa80 <| And.intro @qz80 <| And.intro @qk80 <| And.intro @qui80 <| And.intro @qs82 <| And.intro @qb82 <| And.intro @qa82 <| And.intro @qz82 <| And.intro @qg82 <| And.intro @qf82_0 <| And.intro @qf82_1 <| And.intro @qf82_2 <| True.intro
end Go.Proofs.Ytnaldmmdhpobgaa
