/- The texts of the functions, edges struck, and closed facts on functions and types: written by program (gen.py). -/
import Derived.Test.YtbhabpenlaklcaaDoorD
import Derived.Test.YtbhabpenlaklcaaDoorProg
namespace Go.Proofs.YtbhabpenlaklcaaDoor
open Go Go.RowKit Go.Proofs
/-- loop.example/g01062/laws.FnSeals -/
def c_laws_FnSeals : Cd :=
 (.seq (.reg [⟨(some 2), (.assign (.const (.bool false))), none⟩])
 (.seq (.seq (.reg [⟨(some 30), (.move (.tmp 0)), none⟩,
   ⟨(some 31), (.call (.mk (.value (.func 10)) #[(.tmp 30)] #[32])), none⟩])
 (.cond (.tmp 31) (.seq (.reg [⟨(some 2), (.assign (.const (.bool true))), none⟩])
 .ret) .skip))
 (.seq (.reg [⟨(some 32), (.move (.tmp 0)), none⟩,
   ⟨(some 33), (.call (.mk (.value (.func 11)) #[(.tmp 32)] #[32])), none⟩,
   ⟨(some 3), (.alloc 28), none⟩,
   ⟨none, (.store 28 (.tmp 3) (.tmp 33)), none⟩])
 (.seq (.reg [⟨(some 35), (.load 28 (.tmp 3)), none⟩,
   ⟨(some 36), (.call (.mk (.value (.func 12)) #[(.tmp 35)] #[28])), none⟩,
   ⟨(some 34), (.move (.tmp 36)), none⟩,
   ⟨(some 37), (.extract (.tmp 34) 0), none⟩,
   ⟨(some 38), (.extract (.tmp 34) 1), none⟩,
   ⟨(some 4), (.assign (.tmp 37)), none⟩,
   ⟨(some 5), (.assign (.tmp 38)), none⟩])
 (.seq (.seq (.reg [⟨(some 40), (.load 28 (.tmp 3)), none⟩,
   ⟨(some 41), (.call (.mk (.value (.func 13)) #[(.tmp 40)] #[28])), none⟩,
   ⟨(some 39), (.move (.tmp 41)), none⟩,
   ⟨(some 42), (.extract (.tmp 39) 0), none⟩,
   ⟨(some 43), (.extract (.tmp 39) 1), none⟩,
   ⟨(some 6), (.assign (.tmp 42)), none⟩,
   ⟨(some 7), (.assign (.tmp 43)), none⟩])
 (.seq (.reg [⟨(some 44), (.move (.tmp 4)), none⟩,
   ⟨(some 45), (.move (.tmp 6)), none⟩,
   ⟨(some 46), (.binOp .neq 3 (.tmp 44) (.tmp 45) 3), none⟩,
   ⟨(some 47), (.move (.tmp 46)), none⟩,
   ⟨(some 48), (.move (.tmp 5)), (some (47, false))⟩,
   ⟨(some 49), (.move (.tmp 7)), (some (47, false))⟩,
   ⟨(some 50), (.binOp .neq 4 (.tmp 48) (.tmp 49) 4), (some (47, false))⟩,
   ⟨(some 51), (.pick (.tmp 47) (.const (.bool true)) (.tmp 50)), none⟩])
 (.cond (.tmp 51) (.seq (.reg [⟨(some 2), (.assign (.const (.bool false))), none⟩])
 .ret) .skip)))
 (.seq (.reg [⟨(some 53), (.load 28 (.tmp 3)), none⟩,
   ⟨(some 54), (.call (.mk (.value (.func 14)) #[(.tmp 53)] #[28])), none⟩,
   ⟨(some 52), (.move (.tmp 54)), none⟩,
   ⟨(some 55), (.extract (.tmp 52) 0), none⟩,
   ⟨(some 56), (.extract (.tmp 52) 1), none⟩,
   ⟨(some 8), (.assign (.tmp 55)), none⟩,
   ⟨(some 9), (.assign (.tmp 56)), none⟩])
 (.seq (.seq (.reg [⟨(some 58), (.load 28 (.tmp 3)), none⟩,
   ⟨(some 59), (.call (.mk (.value (.func 15)) #[(.tmp 58)] #[28])), none⟩,
   ⟨(some 57), (.move (.tmp 59)), none⟩,
   ⟨(some 60), (.extract (.tmp 57) 0), none⟩,
   ⟨(some 61), (.extract (.tmp 57) 1), none⟩,
   ⟨(some 10), (.assign (.tmp 60)), none⟩,
   ⟨(some 11), (.assign (.tmp 61)), none⟩])
 (.seq (.reg [⟨(some 62), (.move (.tmp 9)), none⟩,
   ⟨(some 63), (.move (.tmp 11)), none⟩,
   ⟨(some 64), (.binOp .neq 4 (.tmp 62) (.tmp 63) 4), none⟩,
   ⟨(some 65), (.move (.tmp 64)), none⟩,
   ⟨(some 66), (.move (.tmp 9)), (some (65, false))⟩,
   ⟨(some 67), (.move (.tmp 5)), (some (65, false))⟩,
   ⟨(some 68), (.binOp .neq 4 (.tmp 66) (.tmp 67) 4), (some (65, false))⟩,
   ⟨(some 69), (.pick (.tmp 65) (.const (.bool true)) (.tmp 68)), none⟩,
   ⟨(some 70), (.move (.tmp 69)), none⟩,
   ⟨(some 71), (.move (.tmp 8)), (some (70, false))⟩,
   ⟨(some 72), (.move (.tmp 10)), (some (70, false))⟩,
   ⟨(some 73), (.call (.mk (.value (.func 16)) #[(.tmp 71), (.tmp 72)] #[22, 22])), (some (70, false))⟩,
   ⟨(some 74), (.unOp .not 4 (.tmp 73)), (some (70, false))⟩,
   ⟨(some 75), (.pick (.tmp 70) (.const (.bool true)) (.tmp 74)), none⟩])
 (.cond (.tmp 75) (.seq (.reg [⟨(some 2), (.assign (.const (.bool false))), none⟩])
 .ret) .skip)))
 (.seq (.seq (.reg [⟨(some 76), (.move (.tmp 5)), none⟩,
   ⟨(some 77), (.move (.tmp 76)), none⟩,
   ⟨(some 78), (.move (.tmp 8)), (some (77, true))⟩,
   ⟨(some 79), (.call (.mk (.builtin .len) #[(.tmp 78)] #[22])), (some (77, true))⟩,
   ⟨(some 80), (.binOp .lss 3 (.tmp 79) (.const (.int .i64 19)) 3), (some (77, true))⟩,
   ⟨(some 81), (.pick (.tmp 77) (.tmp 80) (.const (.bool false))), none⟩])
 (.cond (.tmp 81) (.seq (.reg [⟨(some 82), (.build 41 #[(0, (.const (.int .i64 2)))]), none⟩,
   ⟨(some 83), (.buildSlice 42 1 #[(0, (.tmp 82))]), none⟩,
   ⟨(some 12), (.assign (.tmp 83)), none⟩])
 (.seq (.seq (.reg [⟨(some 13), (.assign (.const (.int .i64 0))), none⟩])
 (.block 0 (.loop (.seq (.seq (.reg [⟨(some 84), (.move (.tmp 13)), none⟩,
   ⟨(some 85), (.move (.tmp 8)), none⟩,
   ⟨(some 86), (.call (.mk (.builtin .len) #[(.tmp 85)] #[22])), none⟩,
   ⟨(some 87), (.binOp .lss 3 (.tmp 84) (.tmp 86) 3), none⟩])
 (.cond (.tmp 87) .skip (.exit 0)))
 (.seq (.block 1 (.reg [⟨(some 90), (.move (.tmp 12)), none⟩,
   ⟨(some 91), (.move (.tmp 8)), none⟩,
   ⟨(some 92), (.move (.tmp 13)), none⟩,
   ⟨(some 93), (.indexAddr 22 (.tmp 91) (.tmp 92)), none⟩,
   ⟨(some 94), (.load 3 (.tmp 93)), none⟩,
   ⟨(some 95), (.build 41 #[(0, (.const (.int .i64 1))), (1, (.tmp 94))]), none⟩,
   ⟨(some 96), (.build 41 #[(0, (.const (.int .i64 2)))]), none⟩,
   ⟨(some 97), (.buildSlice 42 2 #[(0, (.tmp 95)), (1, (.tmp 96))]), none⟩,
   ⟨(some 98), (.call (.mk (.builtin .append) #[(.tmp 90), (.tmp 97)] #[42, 42])), none⟩,
   ⟨(some 12), (.assign (.tmp 98)), none⟩]))
 (.reg [⟨(some 88), (.move (.tmp 13)), none⟩,
   ⟨(some 89), (.binOp .add 3 (.tmp 88) (.const (.int .i64 1)) 3), none⟩,
   ⟨(some 13), (.assign (.tmp 89)), none⟩]))))))
 (.seq (.regt [⟨(some 100), (.load 28 (.tmp 3)), none⟩,
   ⟨(some 101), (.move (.tmp 12)), none⟩,
   ⟨(some 102), (.build 41 #[(0, (.const (.int .i64 5)))]), none⟩] (.alt true ⟨(some 103), (.buildSlice 42 1 #[(0, (.tmp 102))]), none⟩
   (.alt true ⟨(some 104), (.call (.mk (.builtin .append) #[(.tmp 101), (.tmp 103)] #[42, 42])), none⟩
   (.alt false ⟨(some 105), (.call (.mk (.value (.func 17)) #[(.tmp 100), (.tmp 104)] #[28, 42])), none⟩
   (.now ⟨(some 99), (.move (.tmp 105)), none⟩
   (.now ⟨(some 106), (.extract (.tmp 99) 0), none⟩
   (.now ⟨(some 107), (.extract (.tmp 99) 1), none⟩
   (.now ⟨(some 108), (.extract (.tmp 99) 2), none⟩
   (.one true ⟨(some 14), (.alloc 28), none⟩
   (.one false ⟨none, (.store 28 (.tmp 14) (.tmp 106)), none⟩
   (.one false ⟨(some 15), (.assign (.tmp 107)), none⟩
   (.one false ⟨(some 16), (.assign (.tmp 108)), none⟩
   .done))))))))
   (.one true ⟨(some 14), (.alloc 28), none⟩
   (.one false ⟨(some 105), (.call (.mk (.value (.func 17)) #[(.tmp 100), (.tmp 104)] #[28, 42])), none⟩
   (.one false ⟨(some 99), (.move (.tmp 105)), none⟩
   (.now ⟨(some 106), (.extract (.tmp 99) 0), none⟩
   (.now ⟨(some 107), (.extract (.tmp 99) 1), none⟩
   (.now ⟨(some 108), (.extract (.tmp 99) 2), none⟩
   (.one false ⟨none, (.store 28 (.tmp 14) (.tmp 106)), none⟩
   (.one false ⟨(some 15), (.assign (.tmp 107)), none⟩
   (.one false ⟨(some 16), (.assign (.tmp 108)), none⟩
   .done))))))))))
   (.one true ⟨(some 14), (.alloc 28), none⟩
   (.one true ⟨(some 104), (.call (.mk (.builtin .append) #[(.tmp 101), (.tmp 103)] #[42, 42])), none⟩
   (.one false ⟨(some 105), (.call (.mk (.value (.func 17)) #[(.tmp 100), (.tmp 104)] #[28, 42])), none⟩
   (.one false ⟨(some 99), (.move (.tmp 105)), none⟩
   (.now ⟨(some 106), (.extract (.tmp 99) 0), none⟩
   (.now ⟨(some 107), (.extract (.tmp 99) 1), none⟩
   (.now ⟨(some 108), (.extract (.tmp 99) 2), none⟩
   (.one false ⟨none, (.store 28 (.tmp 14) (.tmp 106)), none⟩
   (.one false ⟨(some 15), (.assign (.tmp 107)), none⟩
   (.one false ⟨(some 16), (.assign (.tmp 108)), none⟩
   .done)))))))))))
   (.one true ⟨(some 14), (.alloc 28), none⟩
   (.one true ⟨(some 103), (.buildSlice 42 1 #[(0, (.tmp 102))]), none⟩
   (.one true ⟨(some 104), (.call (.mk (.builtin .append) #[(.tmp 101), (.tmp 103)] #[42, 42])), none⟩
   (.one false ⟨(some 105), (.call (.mk (.value (.func 17)) #[(.tmp 100), (.tmp 104)] #[28, 42])), none⟩
   (.one false ⟨(some 99), (.move (.tmp 105)), none⟩
   (.now ⟨(some 106), (.extract (.tmp 99) 0), none⟩
   (.now ⟨(some 107), (.extract (.tmp 99) 1), none⟩
   (.now ⟨(some 108), (.extract (.tmp 99) 2), none⟩
   (.one false ⟨none, (.store 28 (.tmp 14) (.tmp 106)), none⟩
   (.one false ⟨(some 15), (.assign (.tmp 107)), none⟩
   (.one false ⟨(some 16), (.assign (.tmp 108)), none⟩
   .done)))))))))))) [])
 (.seq (.reg [⟨(some 109), (.move (.tmp 16)), none⟩,
   ⟨(some 110), (.unOp .not 4 (.tmp 109)), none⟩,
   ⟨(some 111), (.move (.tmp 110)), none⟩,
   ⟨(some 112), (.move (.tmp 15)), (some (111, false))⟩,
   ⟨(some 113), (.move (.tmp 4)), (some (111, false))⟩,
   ⟨(some 114), (.binOp .neq 3 (.tmp 112) (.tmp 113) 3), (some (111, false))⟩,
   ⟨(some 115), (.pick (.tmp 111) (.const (.bool true)) (.tmp 114)), none⟩,
   ⟨(some 116), (.move (.tmp 115)), none⟩,
   ⟨(some 117), (.fieldAddr 28 (.tmp 14) 4), (some (116, false))⟩,
   ⟨(some 118), (.load 4 (.tmp 117)), (some (116, false))⟩,
   ⟨(some 119), (.unOp .not 4 (.tmp 118)), (some (116, false))⟩,
   ⟨(some 120), (.pick (.tmp 116) (.const (.bool true)) (.tmp 119)), none⟩])
 (.cond (.tmp 120) (.seq (.reg [⟨(some 2), (.assign (.const (.bool false))), none⟩])
 .ret) .skip))))) .skip))
 (.seq (.reg [⟨(some 122), (.move (.tmp 0)), none⟩,
   ⟨(some 123), (.call (.mk (.value (.func 18)) #[(.tmp 122)] #[32])), none⟩,
   ⟨(some 121), (.move (.tmp 123)), none⟩,
   ⟨(some 124), (.extract (.tmp 121) 0), none⟩,
   ⟨(some 125), (.extract (.tmp 121) 1), none⟩,
   ⟨(some 17), (.alloc 28), none⟩,
   ⟨none, (.store 28 (.tmp 17) (.tmp 124)), none⟩,
   ⟨(some 18), (.assign (.tmp 125)), none⟩])
 (.seq (.reg [⟨(some 127), (.load 28 (.tmp 17)), none⟩,
   ⟨(some 128), (.move (.tmp 18)), none⟩,
   ⟨(some 129), (.call (.mk (.value (.func 19)) #[(.tmp 127), (.tmp 128)] #[28, 3])), none⟩,
   ⟨(some 126), (.move (.tmp 129)), none⟩,
   ⟨(some 130), (.extract (.tmp 126) 0), none⟩,
   ⟨(some 131), (.extract (.tmp 126) 1), none⟩,
   ⟨(some 19), (.assign (.tmp 130)), none⟩,
   ⟨(some 20), (.assign (.tmp 131)), none⟩])
 (.seq (.seq (.reg [⟨(some 133), (.load 28 (.tmp 17)), none⟩,
   ⟨(some 134), (.move (.tmp 18)), none⟩,
   ⟨(some 135), (.call (.mk (.value (.func 20)) #[(.tmp 133), (.tmp 134)] #[28, 3])), none⟩,
   ⟨(some 132), (.move (.tmp 135)), none⟩,
   ⟨(some 136), (.extract (.tmp 132) 0), none⟩,
   ⟨(some 137), (.extract (.tmp 132) 1), none⟩,
   ⟨(some 21), (.assign (.tmp 136)), none⟩,
   ⟨(some 22), (.assign (.tmp 137)), none⟩])
 (.seq (.reg [⟨(some 138), (.move (.tmp 19)), none⟩,
   ⟨(some 139), (.move (.tmp 21)), none⟩,
   ⟨(some 140), (.binOp .neq 3 (.tmp 138) (.tmp 139) 3), none⟩,
   ⟨(some 141), (.move (.tmp 140)), none⟩,
   ⟨(some 142), (.move (.tmp 20)), (some (141, false))⟩,
   ⟨(some 143), (.move (.tmp 22)), (some (141, false))⟩,
   ⟨(some 144), (.binOp .neq 4 (.tmp 142) (.tmp 143) 4), (some (141, false))⟩,
   ⟨(some 145), (.pick (.tmp 141) (.const (.bool true)) (.tmp 144)), none⟩])
 (.cond (.tmp 145) (.seq (.reg [⟨(some 2), (.assign (.const (.bool false))), none⟩])
 .ret) .skip)))
 (.seq (.seq (.reg [⟨(some 146), (.move (.tmp 20)), none⟩,
   ⟨(some 147), (.move (.tmp 146)), none⟩,
   ⟨(some 148), (.move (.tmp 19)), (some (147, true))⟩,
   ⟨(some 149), (.binOp .eql 3 (.tmp 148) (.const (.int .i64 0)) 3), (some (147, true))⟩,
   ⟨(some 150), (.pick (.tmp 147) (.tmp 149) (.const (.bool false))), none⟩,
   ⟨(some 151), (.move (.tmp 150)), none⟩,
   ⟨(some 152), (.fieldAddr 28 (.tmp 17) 2), (some (151, true))⟩,
   ⟨(some 153), (.load 3 (.tmp 152)), (some (151, true))⟩,
   ⟨(some 154), (.binOp .eql 3 (.tmp 153) (.const (.int .i64 0)) 3), (some (151, true))⟩,
   ⟨(some 155), (.pick (.tmp 151) (.tmp 154) (.const (.bool false))), none⟩,
   ⟨(some 156), (.move (.tmp 155)), none⟩,
   ⟨(some 157), (.fieldAddr 28 (.tmp 17) 4), (some (156, true))⟩,
   ⟨(some 158), (.load 4 (.tmp 157)), (some (156, true))⟩,
   ⟨(some 159), (.unOp .not 4 (.tmp 158)), (some (156, true))⟩,
   ⟨(some 160), (.pick (.tmp 156) (.tmp 159) (.const (.bool false))), none⟩])
 (.cond (.tmp 160) (.seq (.reg [⟨(some 162), (.load 28 (.tmp 17)), none⟩,
   ⟨(some 163), (.move (.tmp 18)), none⟩,
   ⟨(some 164), (.build 41 #[(0, (.const (.int .i64 3))), (1, (.tmp 163))]), none⟩,
   ⟨(some 165), (.call (.mk (.value (.func 21)) #[(.tmp 162), (.tmp 164)] #[28, 41])), none⟩,
   ⟨(some 161), (.move (.tmp 165)), none⟩,
   ⟨(some 166), (.extract (.tmp 161) 0), none⟩,
   ⟨(some 167), (.extract (.tmp 161) 1), none⟩,
   ⟨(some 23), (.alloc 28), none⟩,
   ⟨none, (.store 28 (.tmp 23) (.tmp 166)), none⟩,
   ⟨(some 24), (.assign (.tmp 167)), none⟩])
 (.seq (.reg [⟨(some 168), (.move (.tmp 24)), none⟩,
   ⟨(some 169), (.unOp .not 4 (.tmp 168)), none⟩,
   ⟨(some 170), (.move (.tmp 169)), none⟩,
   ⟨(some 171), (.fieldAddr 28 (.tmp 23) 2), (some (170, false))⟩,
   ⟨(some 172), (.load 3 (.tmp 171)), (some (170, false))⟩,
   ⟨(some 173), (.move (.tmp 18)), (some (170, false))⟩,
   ⟨(some 174), (.binOp .neq 3 (.tmp 172) (.tmp 173) 3), (some (170, false))⟩,
   ⟨(some 175), (.pick (.tmp 170) (.const (.bool true)) (.tmp 174)), none⟩])
 (.cond (.tmp 175) (.seq (.reg [⟨(some 2), (.assign (.const (.bool false))), none⟩])
 .ret) .skip))) .skip))
 (.seq (.reg [⟨(some 176), (.move (.tmp 0)), none⟩,
   ⟨(some 177), (.call (.mk (.value (.func 22)) #[(.tmp 176)] #[32])), none⟩,
   ⟨(some 25), (.alloc 28), none⟩,
   ⟨none, (.store 28 (.tmp 25) (.tmp 177)), none⟩])
 (.seq (.reg [⟨(some 179), (.load 28 (.tmp 25)), none⟩,
   ⟨(some 180), (.call (.mk (.value (.func 8)) #[(.tmp 179)] #[28])), none⟩,
   ⟨(some 178), (.move (.tmp 180)), none⟩,
   ⟨(some 181), (.extract (.tmp 178) 0), none⟩,
   ⟨(some 182), (.extract (.tmp 178) 1), none⟩,
   ⟨(some 26), (.assign (.tmp 181)), none⟩,
   ⟨(some 27), (.assign (.tmp 182)), none⟩])
 (.seq (.reg [⟨(some 184), (.load 28 (.tmp 25)), none⟩,
   ⟨(some 185), (.call (.mk (.value (.func 6)) #[(.tmp 184)] #[28])), none⟩,
   ⟨(some 183), (.move (.tmp 185)), none⟩,
   ⟨(some 186), (.extract (.tmp 183) 0), none⟩,
   ⟨(some 187), (.extract (.tmp 183) 1), none⟩,
   ⟨(some 28), (.assign (.tmp 186)), none⟩,
   ⟨(some 29), (.assign (.tmp 187)), none⟩])
 (.seq (.reg [⟨(some 188), (.move (.tmp 26)), none⟩,
   ⟨(some 189), (.move (.tmp 28)), none⟩,
   ⟨(some 190), (.binOp .eql 9 (.tmp 188) (.tmp 189) 9), none⟩,
   ⟨(some 191), (.move (.tmp 190)), none⟩,
   ⟨(some 192), (.move (.tmp 27)), (some (191, true))⟩,
   ⟨(some 193), (.move (.tmp 29)), (some (191, true))⟩,
   ⟨(some 194), (.binOp .eql 4 (.tmp 192) (.tmp 193) 4), (some (191, true))⟩,
   ⟨(some 195), (.pick (.tmp 191) (.tmp 194) (.const (.bool false))), none⟩,
   ⟨(some 196), (.move (.tmp 195)), none⟩,
   ⟨(some 197), (.move (.tmp 27)), (some (196, true))⟩,
   ⟨(some 198), (.load 28 (.tmp 25)), (some (196, true))⟩,
   ⟨(some 199), (.call (.mk (.value (.func 23)) #[(.tmp 198)] #[28])), (some (196, true))⟩,
   ⟨(some 200), (.binOp .eql 4 (.tmp 197) (.tmp 199) 4), (some (196, true))⟩,
   ⟨(some 201), (.pick (.tmp 196) (.tmp 200) (.const (.bool false))), none⟩,
   ⟨(some 2), (.assign (.tmp 201)), none⟩])
 .ret))))))))))))))))
theorem x_laws_FnSeals : Txt Tryd.prog 4 c_laws_FnSeals [.tmp 2] 1 := ⟨by kernel_rfl, by kernel_rfl, _, _, Tryd.func4, rfl, by kernel_rfl, by kernel_rfl, by kernel_rfl, rfl, by decide⟩
/-- loop.example/g01062/laws.szPuzzle -/
def c_laws_szPuzzle : Cd :=
 (.seq (.reg [⟨(some 2), (.box 24 (.tmp 0)), none⟩,
   ⟨(some 4), (.assign (.const (.int .i64 0))), none⟩])
 (.seq (.reg [⟨(some 5), (.fieldAddr 24 (.tmp 2) 1), none⟩,
   ⟨(some 6), (.load 22 (.tmp 5)), none⟩,
   ⟨(some 7), (.move (.tmp 1)), none⟩,
   ⟨(some 8), (.call (.mk (.value (.func 24)) #[(.tmp 6), (.tmp 7)] #[22, 3])), none⟩,
   ⟨(some 1), (.assign (.tmp 8)), none⟩])
 (.seq (.seq (.reg [⟨(some 9), (.move (.tmp 1)), none⟩,
   ⟨(some 10), (.binOp .lss 3 (.tmp 9) (.const (.int .i64 0)) 3), none⟩])
 (.cond (.tmp 10) (.seq (.reg [⟨(some 4), (.assign (.const (.int .i64 (-1)))), none⟩])
 .ret) .skip))
 (.seq (.reg [⟨(some 11), (.fieldAddr 24 (.tmp 2) 3), none⟩,
   ⟨(some 12), (.load 22 (.tmp 11)), none⟩,
   ⟨(some 13), (.move (.tmp 1)), none⟩,
   ⟨(some 14), (.call (.mk (.value (.func 24)) #[(.tmp 12), (.tmp 13)] #[22, 3])), none⟩,
   ⟨(some 1), (.assign (.tmp 14)), none⟩])
 (.seq (.seq (.reg [⟨(some 15), (.move (.tmp 1)), none⟩,
   ⟨(some 16), (.binOp .lss 3 (.tmp 15) (.const (.int .i64 0)) 3), none⟩])
 (.cond (.tmp 16) (.seq (.reg [⟨(some 4), (.assign (.const (.int .i64 (-1)))), none⟩])
 .ret) .skip))
 (.seq (.reg [⟨(some 17), (.move (.tmp 1)), none⟩,
   ⟨(some 4), (.assign (.tmp 17)), none⟩])
 .ret))))))
theorem x_laws_szPuzzle : Txt Tryd.prog 5 c_laws_szPuzzle [.tmp 4] 2 := ⟨by kernel_rfl, by kernel_rfl, _, _, Tryd.func5, rfl, by kernel_rfl, by kernel_rfl, by kernel_rfl, rfl, by decide⟩
/-- loop.example/g01062/spec.PuzzleText -/
def c_spec_PuzzleText : Cd :=
 (.seq (.reg [⟨(some 1), (.box 28 (.tmp 0)), none⟩,
   ⟨(some 2), (.assign (.const (.string (ByteArray.mk #[])))), none⟩,
   ⟨(some 3), (.assign (.const (.bool false))), none⟩])
 (.seq (.seq (.reg [⟨(some 5), (.load 28 (.tmp 1)), none⟩,
   ⟨(some 6), (.call (.mk (.value (.func 25)) #[(.tmp 5)] #[28])), none⟩,
   ⟨(some 7), (.unOp .not 4 (.tmp 6)), none⟩])
 (.cond (.tmp 7) (.seq (.reg [⟨(some 2), (.assign (.const (.string (ByteArray.mk #[])))), none⟩,
   ⟨(some 3), (.assign (.const (.bool false))), none⟩])
 .ret) .skip))
 (.seq (.reg [⟨(some 8), (.fieldAddr 28 (.tmp 1) 1), none⟩,
   ⟨(some 9), (.load 22 (.tmp 8)), none⟩,
   ⟨(some 10), (.call (.mk (.value (.func 26)) #[(.tmp 9)] #[22])), none⟩,
   ⟨(some 11), (.binOp .add 9 (.tmp 10) (.const (.string (ByteArray.mk #[32, 104, 97, 110, 100, 32]))) 9), none⟩,
   ⟨(some 4), (.assign (.tmp 11)), none⟩])
 (.seq (.seq (.reg [⟨(some 12), (.fieldAddr 28 (.tmp 1) 2), none⟩,
   ⟨(some 13), (.load 3 (.tmp 12)), none⟩,
   ⟨(some 14), (.binOp .eql 3 (.tmp 13) (.const (.int .i64 0)) 3), none⟩])
 (.cond (.tmp 14) (.reg [⟨(some 15), (.move (.tmp 4)), none⟩,
   ⟨(some 16), (.binOp .add 9 (.tmp 15) (.const (.string (ByteArray.mk #[45]))) 9), none⟩,
   ⟨(some 4), (.assign (.tmp 16)), none⟩]) (.reg [⟨(some 17), (.move (.tmp 4)), none⟩,
   ⟨(some 18), (.fieldAddr 28 (.tmp 1) 2), none⟩,
   ⟨(some 19), (.load 3 (.tmp 18)), none⟩,
   ⟨(some 20), (.call (.mk (.value (.func 27)) #[(.tmp 19)] #[3])), none⟩,
   ⟨(some 21), (.binOp .add 9 (.tmp 17) (.tmp 20) 9), none⟩,
   ⟨(some 4), (.assign (.tmp 21)), none⟩])))
 (.seq (.reg [⟨(some 22), (.move (.tmp 4)), none⟩,
   ⟨(some 23), (.binOp .add 9 (.tmp 22) (.const (.string (ByteArray.mk #[32, 111, 117, 116, 32]))) 9), none⟩,
   ⟨(some 24), (.fieldAddr 28 (.tmp 1) 3), none⟩,
   ⟨(some 25), (.load 22 (.tmp 24)), none⟩,
   ⟨(some 26), (.call (.mk (.value (.func 26)) #[(.tmp 25)] #[22])), none⟩,
   ⟨(some 27), (.binOp .add 9 (.tmp 23) (.tmp 26) 9), none⟩,
   ⟨(some 4), (.assign (.tmp 27)), none⟩])
 (.seq (.seq (.reg [⟨(some 28), (.fieldAddr 28 (.tmp 1) 4), none⟩,
   ⟨(some 29), (.load 4 (.tmp 28)), none⟩])
 (.cond (.tmp 29) (.reg [⟨(some 30), (.move (.tmp 4)), none⟩,
   ⟨(some 31), (.binOp .add 9 (.tmp 30) (.const (.string (ByteArray.mk #[32, 115, 101, 97, 108, 101, 100]))) 9), none⟩,
   ⟨(some 4), (.assign (.tmp 31)), none⟩]) .skip))
 (.seq (.reg [⟨(some 32), (.move (.tmp 4)), none⟩,
   ⟨(some 2), (.assign (.tmp 32)), none⟩,
   ⟨(some 3), (.assign (.const (.bool true))), none⟩])
 .ret)))))))
theorem x_spec_PuzzleText : Txt Tryd.prog 6 c_spec_PuzzleText [.tmp 2, .tmp 3] 1 := ⟨by kernel_rfl, by kernel_rfl, _, _, Tryd.func6, rfl, by kernel_rfl, by kernel_rfl, by kernel_rfl, rfl, by decide⟩
/-- loop.example/g01062/laws.toPuzzle -/
def c_laws_toPuzzle : Cd :=
 (.seq (.reg [⟨(some 1), (.box 24 (.tmp 0)), none⟩,
   ⟨(some 2), (.alloc 28), none⟩])
 (.seq (.reg [⟨(some 3), (.alloc 28), none⟩])
 (.seq (.reg [⟨(some 4), (.fieldAddr 24 (.tmp 1) 0), none⟩,
   ⟨(some 5), (.load 3 (.tmp 4)), none⟩,
   ⟨(some 6), (.fieldAddr 28 (.tmp 3) 0), none⟩,
   ⟨none, (.store 3 (.tmp 6) (.tmp 5)), none⟩])
 (.seq (.reg [⟨(some 7), (.fieldAddr 24 (.tmp 1) 1), none⟩,
   ⟨(some 8), (.load 22 (.tmp 7)), none⟩,
   ⟨(some 9), (.call (.mk (.value (.func 28)) #[(.tmp 8)] #[22])), none⟩,
   ⟨(some 10), (.fieldAddr 28 (.tmp 3) 1), none⟩,
   ⟨none, (.store 22 (.tmp 10) (.tmp 9)), none⟩])
 (.seq (.reg [⟨(some 11), (.fieldAddr 24 (.tmp 1) 2), none⟩,
   ⟨(some 12), (.load 3 (.tmp 11)), none⟩,
   ⟨(some 13), (.fieldAddr 28 (.tmp 3) 2), none⟩,
   ⟨none, (.store 3 (.tmp 13) (.tmp 12)), none⟩])
 (.seq (.reg [⟨(some 14), (.fieldAddr 24 (.tmp 1) 3), none⟩,
   ⟨(some 15), (.load 22 (.tmp 14)), none⟩,
   ⟨(some 16), (.call (.mk (.value (.func 28)) #[(.tmp 15)] #[22])), none⟩,
   ⟨(some 17), (.fieldAddr 28 (.tmp 3) 3), none⟩,
   ⟨none, (.store 22 (.tmp 17) (.tmp 16)), none⟩])
 (.seq (.reg [⟨(some 18), (.fieldAddr 24 (.tmp 1) 4), none⟩,
   ⟨(some 19), (.load 4 (.tmp 18)), none⟩,
   ⟨(some 20), (.fieldAddr 28 (.tmp 3) 4), none⟩,
   ⟨none, (.store 4 (.tmp 20) (.tmp 19)), none⟩])
 (.seq (.reg [⟨(some 21), (.load 28 (.tmp 3)), none⟩,
   ⟨none, (.store 28 (.tmp 2) (.tmp 21)), none⟩])
 .ret))))))))
theorem x_laws_toPuzzle : Txt Tryd.prog 7 c_laws_toPuzzle [.cell 2 28] 1 := ⟨by kernel_rfl, by kernel_rfl, _, _, Tryd.func7, rfl, by kernel_rfl, by kernel_rfl, by kernel_rfl, rfl, by decide⟩
/-- loop.example/g01062/impl.PuzzleText -/
def c_impl_PuzzleText : Cd :=
 (.seq (.reg [⟨(some 1), (.box 28 (.tmp 0)), none⟩,
   ⟨(some 2), (.assign (.const (.string (ByteArray.mk #[])))), none⟩,
   ⟨(some 3), (.assign (.const (.bool false))), none⟩])
 (.seq (.seq (.reg [⟨(some 6), (.call (.mk (.value (.func 29)) #[(.tmp 1)] #[56])), none⟩,
   ⟨(some 7), (.unOp .not 4 (.tmp 6)), none⟩])
 (.cond (.tmp 7) (.seq (.reg [⟨(some 2), (.assign (.const (.string (ByteArray.mk #[])))), none⟩,
   ⟨(some 3), (.assign (.const (.bool false))), none⟩])
 .ret) .skip))
 (.seq (.reg [⟨(some 4), (.assign (.const (.string (ByteArray.mk #[45])))), none⟩])
 (.seq (.seq (.reg [⟨(some 8), (.fieldAddr 28 (.tmp 1) 2), none⟩,
   ⟨(some 9), (.load 3 (.tmp 8)), none⟩,
   ⟨(some 10), (.binOp .gtr 3 (.tmp 9) (.const (.int .i64 0)) 3), none⟩])
 (.cond (.tmp 10) (.reg [⟨(some 11), (.fieldAddr 28 (.tmp 1) 2), none⟩,
   ⟨(some 12), (.load 3 (.tmp 11)), none⟩,
   ⟨(some 13), (.call (.mk (.value (.func 30)) #[(.tmp 12)] #[3])), none⟩,
   ⟨(some 4), (.assign (.tmp 13)), none⟩]) .skip))
 (.seq (.regq [⟨(some 14), (.fieldAddr 28 (.tmp 1) 1), none⟩,
   ⟨(some 15), (.load 22 (.tmp 14)), none⟩,
   ⟨(some 16), (.call (.mk (.value (.func 31)) #[(.tmp 15)] #[22])), none⟩,
   ⟨(some 17), (.binOp .add 9 (.tmp 16) (.const (.string (ByteArray.mk #[32, 104, 97, 110, 100, 32]))) 9), none⟩,
   ⟨(some 18), (.move (.tmp 4)), none⟩,
   ⟨(some 19), (.binOp .add 9 (.tmp 17) (.tmp 18) 9), none⟩,
   ⟨(some 20), (.binOp .add 9 (.tmp 19) (.const (.string (ByteArray.mk #[32, 111, 117, 116, 32]))) 9), none⟩,
   ⟨(some 21), (.fieldAddr 28 (.tmp 1) 3), none⟩,
   ⟨(some 22), (.load 22 (.tmp 21)), none⟩,
   ⟨(some 23), (.call (.mk (.value (.func 31)) #[(.tmp 22)] #[22])), none⟩,
   ⟨(some 24), (.binOp .add 9 (.tmp 20) (.tmp 23) 9), none⟩,
   ⟨(some 5), (.assign (.tmp 24)), none⟩])
 (.seq (.seq (.reg [⟨(some 25), (.fieldAddr 28 (.tmp 1) 4), none⟩,
   ⟨(some 26), (.load 4 (.tmp 25)), none⟩])
 (.cond (.tmp 26) (.reg [⟨(some 27), (.move (.tmp 5)), none⟩,
   ⟨(some 28), (.binOp .add 9 (.tmp 27) (.const (.string (ByteArray.mk #[32, 115, 101, 97, 108, 101, 100]))) 9), none⟩,
   ⟨(some 5), (.assign (.tmp 28)), none⟩]) .skip))
 (.seq (.reg [⟨(some 29), (.move (.tmp 5)), none⟩,
   ⟨(some 2), (.assign (.tmp 29)), none⟩,
   ⟨(some 3), (.assign (.const (.bool true))), none⟩])
 .ret)))))))
theorem x_impl_PuzzleText : Txt Tryd.prog 8 c_impl_PuzzleText [.tmp 2, .tmp 3] 1 := ⟨by kernel_rfl, by kernel_rfl, _, _, Tryd.func8, rfl, by kernel_rfl, by kernel_rfl, by kernel_rfl, rfl, by decide⟩
/-- loop.example/g01062/laws.vBig -/
def c_laws_vBig : Cd :=
 (.seq (.reg [⟨(some 2), (.assign (.const (.bool false))), none⟩])
 (.seq (.reg [⟨(some 3), (.move (.tmp 0)), none⟩,
   ⟨(some 4), (.call (.mk (.builtin .len) #[(.tmp 3)] #[32])), none⟩,
   ⟨(some 5), (.binOp .gtr 3 (.tmp 4) (.const (.int .i64 65536)) 3), none⟩,
   ⟨(some 2), (.assign (.tmp 5)), none⟩])
 .ret))
theorem x_laws_vBig : Txt Tryd.prog 10 c_laws_vBig [.tmp 2] 1 := ⟨by kernel_rfl, by kernel_rfl, _, _, Tryd.func10, rfl, by kernel_rfl, by kernel_rfl, by kernel_rfl, rfl, by decide⟩
/-- loop.example/g01062/spec.DrawStepsToSeal -/
def c_spec_DrawStepsToSeal : Cd :=
 (.seq (.reg [⟨(some 2), (.alloc 28), none⟩])
 (.seq (.reg [⟨(some 3), (.move (.tmp 0)), none⟩,
   ⟨(some 4), (.call (.mk (.value (.func 33)) #[(.tmp 3)] #[32])), none⟩,
   ⟨none, (.store 28 (.tmp 2) (.tmp 4)), none⟩])
 .ret))
theorem x_spec_DrawStepsToSeal : Txt Tryd.prog 11 c_spec_DrawStepsToSeal [.cell 2 28] 1 := ⟨by kernel_rfl, by kernel_rfl, _, _, Tryd.func11, rfl, by kernel_rfl, by kernel_rfl, by kernel_rfl, rfl, by decide⟩
/-- loop.example/g01062/impl.StepsToSeal -/
def c_impl_StepsToSeal : Cd :=
 (.seq (.reg [⟨(some 1), (.box 28 (.tmp 0)), none⟩,
   ⟨(some 2), (.assign (.const (.int .i64 0))), none⟩,
   ⟨(some 3), (.assign (.const (.bool false))), none⟩])
 (.seq (.seq (.reg [⟨(some 5), (.call (.mk (.value (.func 29)) #[(.tmp 1)] #[56])), none⟩,
   ⟨(some 6), (.unOp .not 4 (.tmp 5)), none⟩])
 (.cond (.tmp 6) (.seq (.reg [⟨(some 2), (.assign (.const (.int .i64 0))), none⟩,
   ⟨(some 3), (.assign (.const (.bool false))), none⟩])
 .ret) .skip))
 (.seq (.seq (.reg [⟨(some 7), (.fieldAddr 28 (.tmp 1) 4), none⟩,
   ⟨(some 8), (.load 4 (.tmp 7)), none⟩])
 (.cond (.tmp 8) (.seq (.reg [⟨(some 2), (.assign (.const (.int .i64 0))), none⟩,
   ⟨(some 3), (.assign (.const (.bool true))), none⟩])
 .ret) .skip))
 (.seq (.reg [⟨(some 9), (.call (.mk (.value (.func 34)) #[(.tmp 1)] #[28])), none⟩,
   ⟨(some 10), (.call (.mk (.builtin .len) #[(.tmp 9)] #[22])), none⟩,
   ⟨(some 11), (.binOp .mul 3 (.const (.int .i64 2)) (.tmp 10) 3), none⟩,
   ⟨(some 12), (.binOp .add 3 (.const (.int .i64 1)) (.tmp 11) 3), none⟩,
   ⟨(some 4), (.assign (.tmp 12)), none⟩])
 (.seq (.seq (.reg [⟨(some 13), (.fieldAddr 28 (.tmp 1) 2), none⟩,
   ⟨(some 14), (.load 3 (.tmp 13)), none⟩,
   ⟨(some 15), (.binOp .gtr 3 (.tmp 14) (.const (.int .i64 0)) 3), none⟩])
 (.cond (.tmp 15) (.reg [⟨(some 16), (.move (.tmp 4)), none⟩,
   ⟨(some 17), (.binOp .add 3 (.tmp 16) (.const (.int .i64 1)) 3), none⟩,
   ⟨(some 4), (.assign (.tmp 17)), none⟩]) .skip))
 (.seq (.reg [⟨(some 18), (.move (.tmp 4)), none⟩,
   ⟨(some 2), (.assign (.tmp 18)), none⟩,
   ⟨(some 3), (.assign (.const (.bool true))), none⟩])
 .ret))))))
theorem x_impl_StepsToSeal : Txt Tryd.prog 12 c_impl_StepsToSeal [.tmp 2, .tmp 3] 1 := ⟨by kernel_rfl, by kernel_rfl, _, _, Tryd.func12, rfl, by kernel_rfl, by kernel_rfl, by kernel_rfl, rfl, by decide⟩
/-- loop.example/g01062/spec.StepsToSeal -/
def c_spec_StepsToSeal : Cd :=
 (.seq (.reg [⟨(some 1), (.box 28 (.tmp 0)), none⟩,
   ⟨(some 2), (.assign (.const (.int .i64 0))), none⟩,
   ⟨(some 3), (.assign (.const (.bool false))), none⟩])
 (.seq (.seq (.reg [⟨(some 5), (.load 28 (.tmp 1)), none⟩,
   ⟨(some 6), (.call (.mk (.value (.func 25)) #[(.tmp 5)] #[28])), none⟩,
   ⟨(some 7), (.unOp .not 4 (.tmp 6)), none⟩])
 (.cond (.tmp 7) (.seq (.reg [⟨(some 2), (.assign (.const (.int .i64 0))), none⟩,
   ⟨(some 3), (.assign (.const (.bool false))), none⟩])
 .ret) .skip))
 (.seq (.seq (.reg [⟨(some 8), (.fieldAddr 28 (.tmp 1) 4), none⟩,
   ⟨(some 9), (.load 4 (.tmp 8)), none⟩])
 (.cond (.tmp 9) (.seq (.reg [⟨(some 2), (.assign (.const (.int .i64 0))), none⟩,
   ⟨(some 3), (.assign (.const (.bool true))), none⟩])
 .ret) .skip))
 (.seq (.reg [⟨(some 10), (.load 28 (.tmp 1)), none⟩,
   ⟨(some 11), (.call (.mk (.value (.func 35)) #[(.tmp 10)] #[28])), none⟩,
   ⟨(some 12), (.call (.mk (.builtin .len) #[(.tmp 11)] #[22])), none⟩,
   ⟨(some 13), (.binOp .mul 3 (.const (.int .i64 2)) (.tmp 12) 3), none⟩,
   ⟨(some 14), (.binOp .add 3 (.tmp 13) (.const (.int .i64 1)) 3), none⟩,
   ⟨(some 4), (.assign (.tmp 14)), none⟩])
 (.seq (.seq (.reg [⟨(some 15), (.fieldAddr 28 (.tmp 1) 2), none⟩,
   ⟨(some 16), (.load 3 (.tmp 15)), none⟩,
   ⟨(some 17), (.binOp .gtr 3 (.tmp 16) (.const (.int .i64 0)) 3), none⟩])
 (.cond (.tmp 17) (.reg [⟨(some 18), (.move (.tmp 4)), none⟩,
   ⟨(some 19), (.binOp .add 3 (.tmp 18) (.const (.int .i64 1)) 3), none⟩,
   ⟨(some 4), (.assign (.tmp 19)), none⟩]) .skip))
 (.seq (.reg [⟨(some 20), (.move (.tmp 4)), none⟩,
   ⟨(some 2), (.assign (.tmp 20)), none⟩,
   ⟨(some 3), (.assign (.const (.bool true))), none⟩])
 .ret))))))
theorem x_spec_StepsToSeal : Txt Tryd.prog 13 c_spec_StepsToSeal [.tmp 2, .tmp 3] 1 := ⟨by kernel_rfl, by kernel_rfl, _, _, Tryd.func13, rfl, by kernel_rfl, by kernel_rfl, by kernel_rfl, rfl, by decide⟩
/-- loop.example/g01062/impl.PiecesWaiting -/
def c_impl_PiecesWaiting : Cd :=
 (.seq (.reg [⟨(some 1), (.box 28 (.tmp 0)), none⟩,
   ⟨(some 2), (.assign (.const (.slice none 0 0))), none⟩,
   ⟨(some 3), (.assign (.const (.bool false))), none⟩])
 (.seq (.seq (.reg [⟨(some 4), (.call (.mk (.value (.func 29)) #[(.tmp 1)] #[56])), none⟩,
   ⟨(some 5), (.unOp .not 4 (.tmp 4)), none⟩])
 (.cond (.tmp 5) (.seq (.reg [⟨(some 2), (.assign (.const (.slice none 0 0))), none⟩,
   ⟨(some 3), (.assign (.const (.bool false))), none⟩])
 .ret) .skip))
 (.seq (.reg [⟨(some 6), (.call (.mk (.value (.func 34)) #[(.tmp 1)] #[28])), none⟩,
   ⟨(some 2), (.assign (.tmp 6)), none⟩,
   ⟨(some 3), (.assign (.const (.bool true))), none⟩])
 .ret)))
theorem x_impl_PiecesWaiting : Txt Tryd.prog 14 c_impl_PiecesWaiting [.tmp 2, .tmp 3] 1 := ⟨by kernel_rfl, by kernel_rfl, _, _, Tryd.func14, rfl, by kernel_rfl, by kernel_rfl, by kernel_rfl, rfl, by decide⟩
/-- loop.example/g01062/spec.PiecesWaiting -/
def c_spec_PiecesWaiting : Cd :=
 (.seq (.reg [⟨(some 1), (.box 28 (.tmp 0)), none⟩,
   ⟨(some 2), (.assign (.const (.slice none 0 0))), none⟩,
   ⟨(some 3), (.assign (.const (.bool false))), none⟩])
 (.seq (.seq (.reg [⟨(some 4), (.load 28 (.tmp 1)), none⟩,
   ⟨(some 5), (.call (.mk (.value (.func 25)) #[(.tmp 4)] #[28])), none⟩,
   ⟨(some 6), (.unOp .not 4 (.tmp 5)), none⟩])
 (.cond (.tmp 6) (.seq (.reg [⟨(some 7), (.buildSlice 22 0 #[]), none⟩,
   ⟨(some 2), (.assign (.tmp 7)), none⟩,
   ⟨(some 3), (.assign (.const (.bool false))), none⟩])
 .ret) .skip))
 (.seq (.reg [⟨(some 8), (.load 28 (.tmp 1)), none⟩,
   ⟨(some 9), (.call (.mk (.value (.func 35)) #[(.tmp 8)] #[28])), none⟩,
   ⟨(some 2), (.assign (.tmp 9)), none⟩,
   ⟨(some 3), (.assign (.const (.bool true))), none⟩])
 .ret)))
theorem x_spec_PiecesWaiting : Txt Tryd.prog 15 c_spec_PiecesWaiting [.tmp 2, .tmp 3] 1 := ⟨by kernel_rfl, by kernel_rfl, _, _, Tryd.func15, rfl, by kernel_rfl, by kernel_rfl, by kernel_rfl, rfl, by decide⟩
/-- loop.example/g01062/laws.vInts -/
def c_laws_vInts : Cd :=
 (.seq (.reg [⟨(some 4), (.assign (.const (.bool false))), none⟩])
 (.seq (.seq (.reg [⟨(some 6), (.move (.tmp 0)), none⟩,
   ⟨(some 7), (.call (.mk (.builtin .len) #[(.tmp 6)] #[22])), none⟩,
   ⟨(some 8), (.move (.tmp 1)), none⟩,
   ⟨(some 9), (.call (.mk (.builtin .len) #[(.tmp 8)] #[22])), none⟩,
   ⟨(some 10), (.binOp .neq 3 (.tmp 7) (.tmp 9) 3), none⟩])
 (.cond (.tmp 10) (.seq (.reg [⟨(some 4), (.assign (.const (.bool false))), none⟩])
 .ret) .skip))
 (.seq (.seq (.reg [⟨(some 5), (.assign (.const (.int .i64 0))), none⟩])
 (.block 0 (.loop (.seq (.seq (.reg [⟨(some 11), (.move (.tmp 5)), none⟩,
   ⟨(some 12), (.move (.tmp 0)), none⟩,
   ⟨(some 13), (.call (.mk (.builtin .len) #[(.tmp 12)] #[22])), none⟩,
   ⟨(some 14), (.binOp .lss 3 (.tmp 11) (.tmp 13) 3), none⟩])
 (.cond (.tmp 14) .skip (.exit 0)))
 (.seq (.block 1 (.seq (.regq [⟨(some 17), (.move (.tmp 0)), none⟩,
   ⟨(some 18), (.move (.tmp 5)), none⟩,
   ⟨(some 19), (.indexAddr 22 (.tmp 17) (.tmp 18)), none⟩,
   ⟨(some 20), (.load 3 (.tmp 19)), none⟩,
   ⟨(some 21), (.move (.tmp 1)), none⟩,
   ⟨(some 22), (.move (.tmp 5)), none⟩,
   ⟨(some 23), (.indexAddr 22 (.tmp 21) (.tmp 22)), none⟩,
   ⟨(some 24), (.load 3 (.tmp 23)), none⟩,
   ⟨(some 25), (.binOp .neq 3 (.tmp 20) (.tmp 24) 3), none⟩])
 (.cond (.tmp 25) (.seq (.reg [⟨(some 4), (.assign (.const (.bool false))), none⟩])
 .ret) .skip)))
 (.reg [⟨(some 15), (.move (.tmp 5)), none⟩,
   ⟨(some 16), (.binOp .add 3 (.tmp 15) (.const (.int .i64 1)) 3), none⟩,
   ⟨(some 5), (.assign (.tmp 16)), none⟩]))))))
 (.seq (.reg [⟨(some 4), (.assign (.const (.bool true))), none⟩])
 .ret))))
theorem x_laws_vInts : Txt Tryd.prog 16 c_laws_vInts [.tmp 4] 2 := ⟨by kernel_rfl, by kernel_rfl, _, _, Tryd.func16, rfl, by kernel_rfl, by kernel_rfl, by kernel_rfl, rfl, by decide⟩
/-- loop.example/g01062/impl.RunPuzzle -/
def c_impl_RunPuzzle : Cd :=
 (.seq (.reg [⟨(some 2), (.box 28 (.tmp 0)), none⟩,
   ⟨(some 4), (.alloc 28), none⟩,
   ⟨(some 5), (.assign (.const (.int .i64 0))), none⟩,
   ⟨(some 6), (.assign (.const (.bool false))), none⟩])
 (.seq (.seq (.reg [⟨(some 13), (.call (.mk (.value (.func 29)) #[(.tmp 2)] #[56])), none⟩,
   ⟨(some 14), (.unOp .not 4 (.tmp 13)), none⟩,
   ⟨(some 15), (.move (.tmp 14)), none⟩,
   ⟨(some 16), (.move (.tmp 1)), (some (15, false))⟩,
   ⟨(some 17), (.call (.mk (.builtin .len) #[(.tmp 16)] #[42])), (some (15, false))⟩,
   ⟨(some 18), (.binOp .gtr 3 (.tmp 17) (.const (.int .i64 40)) 3), (some (15, false))⟩,
   ⟨(some 19), (.pick (.tmp 15) (.const (.bool true)) (.tmp 18)), none⟩])
 (.cond (.tmp 19) (.seq (.reg [⟨(some 20), (.build 28 #[]), none⟩,
   ⟨none, (.store 28 (.tmp 4) (.tmp 20)), none⟩,
   ⟨(some 5), (.assign (.const (.int .i64 0))), none⟩,
   ⟨(some 6), (.assign (.const (.bool false))), none⟩])
 .ret) .skip))
 (.seq (.reg [⟨(some 21), (.call (.mk (.value (.func 36)) #[(.tmp 2)] #[56])), none⟩,
   ⟨(some 7), (.alloc 28), none⟩,
   ⟨none, (.store 28 (.tmp 7) (.tmp 21)), none⟩,
   ⟨(some 8), (.assign (.const (.int .i64 0))), none⟩])
 (.seq (.seq (.reg [⟨(some 22), (.move (.tmp 1)), none⟩,
   ⟨(some 23), (.call (.mk (.builtin .len) #[(.tmp 22)] #[42])), none⟩,
   ⟨(some 24), (.move (.const (.int .i64 0))), none⟩])
 (.block 0 (.loop (.seq (.reg [⟨(some 25), (.binOp .lss 3 (.tmp 24) (.tmp 23) 3), none⟩])
 (.seq (.cond (.tmp 25) .skip (.exit 0))
 (.seq (.block 1 (.seq (.reg [⟨(some 26), (.indexAddr 42 (.tmp 22) (.tmp 24)), none⟩,
   ⟨(some 27), (.load 41 (.tmp 26)), none⟩,
   ⟨(some 10), (.alloc 41), none⟩,
   ⟨none, (.store 41 (.tmp 10) (.tmp 27)), none⟩])
 (.seq (.seq (.reg [⟨(some 28), (.load 41 (.tmp 10)), none⟩,
   ⟨(some 29), (.call (.mk (.value (.func 37)) #[(.tmp 28)] #[41])), none⟩,
   ⟨(some 30), (.unOp .not 4 (.tmp 29)), none⟩])
 (.cond (.tmp 30) (.exit 1) .skip))
 (.seq (.reg [⟨(some 32), (.load 41 (.tmp 10)), none⟩,
   ⟨(some 33), (.call (.mk (.value (.func 38)) #[(.tmp 7), (.tmp 32)] #[56, 41])), none⟩,
   ⟨(some 31), (.move (.tmp 33)), none⟩,
   ⟨(some 34), (.extract (.tmp 31) 0), none⟩,
   ⟨(some 35), (.extract (.tmp 31) 1), none⟩,
   ⟨(some 11), (.alloc 28), none⟩,
   ⟨none, (.store 28 (.tmp 11) (.tmp 34)), none⟩,
   ⟨(some 12), (.assign (.tmp 35)), none⟩])
 (.seq (.reg [⟨(some 36), (.move (.tmp 12)), none⟩])
 (.cond (.tmp 36) (.seq (.reg [⟨(some 37), (.load 28 (.tmp 11)), none⟩,
   ⟨none, (.store 28 (.tmp 7) (.tmp 37)), none⟩])
 (.reg [⟨(some 38), (.move (.tmp 8)), none⟩,
   ⟨(some 39), (.binOp .add 3 (.tmp 38) (.const (.int .i64 1)) 3), none⟩,
   ⟨(some 8), (.assign (.tmp 39)), none⟩])) .skip))))))
 (.reg [⟨(some 40), (.binOp .add 3 (.tmp 24) (.const (.int .i64 1)) 3), none⟩,
   ⟨(some 24), (.move (.tmp 40)), none⟩])))))))
 (.seq (.reg [⟨(some 41), (.load 28 (.tmp 7)), none⟩,
   ⟨(some 42), (.move (.tmp 8)), none⟩,
   ⟨none, (.store 28 (.tmp 4) (.tmp 41)), none⟩,
   ⟨(some 5), (.assign (.tmp 42)), none⟩,
   ⟨(some 6), (.assign (.const (.bool true))), none⟩])
 .ret)))))
theorem x_impl_RunPuzzle : Txt Tryd.prog 17 c_impl_RunPuzzle [.cell 4 28, .tmp 5, .tmp 6] 2 := ⟨by kernel_rfl, by kernel_rfl, _, _, Tryd.func17, rfl, by kernel_rfl, by kernel_rfl, by kernel_rfl, rfl, by decide⟩
/-- loop.example/g01062/spec.DrawUndoSteps -/
def c_spec_DrawUndoSteps : Cd :=
 (.seq (.reg [⟨(some 2), (.alloc 28), none⟩,
   ⟨(some 3), (.assign (.const (.int .i64 0))), none⟩])
 (.seq (.reg [⟨(some 6), (.move (.tmp 0)), none⟩,
   ⟨(some 7), (.build 65 #[(0, (.tmp 6))]), none⟩,
   ⟨(some 8), (.box 65 (.tmp 7)), none⟩,
   ⟨(some 4), (.assign (.tmp 8)), none⟩])
 (.seq (.reg [⟨(some 9), (.move (.tmp 4)), none⟩,
   ⟨(some 10), (.call (.mk (.value (.func 39)) #[(.tmp 9)] #[62])), none⟩,
   ⟨(some 5), (.alloc 28), none⟩,
   ⟨none, (.store 28 (.tmp 5) (.tmp 10)), none⟩])
 (.seq (.seq (.reg [⟨(some 11), (.fieldAddr 28 (.tmp 5) 1), none⟩,
   ⟨(some 12), (.load 22 (.tmp 11)), none⟩,
   ⟨(some 13), (.call (.mk (.builtin .len) #[(.tmp 12)] #[22])), none⟩,
   ⟨(some 14), (.binOp .gtr 3 (.tmp 13) (.const (.int .i64 0)) 3), none⟩,
   ⟨(some 15), (.move (.tmp 14)), none⟩,
   ⟨(some 16), (.move (.tmp 4)), (some (15, true))⟩,
   ⟨(some 17), (.call (.mk (.value (.func 40)) #[(.tmp 16), (.const (.int .i64 6))] #[62, 3])), (some (15, true))⟩,
   ⟨(some 18), (.unOp .not 4 (.tmp 17)), (some (15, true))⟩,
   ⟨(some 19), (.pick (.tmp 15) (.tmp 18) (.const (.bool false))), none⟩])
 (.cond (.tmp 19) (.seq (.regt [⟨(some 20), (.load 28 (.tmp 5)), none⟩,
   ⟨(some 21), (.fieldAddr 28 (.tmp 5) 1), none⟩,
   ⟨(some 22), (.load 22 (.tmp 21)), none⟩,
   ⟨(some 23), (.move (.tmp 4)), none⟩,
   ⟨(some 24), (.fieldAddr 28 (.tmp 5) 1), none⟩,
   ⟨(some 25), (.load 22 (.tmp 24)), none⟩,
   ⟨(some 26), (.call (.mk (.builtin .len) #[(.tmp 25)] #[22])), none⟩] (.one true ⟨(some 27), (.call (.mk (.value (.func 41)) #[(.tmp 23), (.tmp 26)] #[62, 3])), none⟩
   (.now ⟨(some 28), (.indexAddr 22 (.tmp 22) (.tmp 27)), none⟩
   (.alt true ⟨(some 29), (.load 3 (.tmp 28)), none⟩
   (.one true ⟨none, (.store 28 (.tmp 2) (.tmp 20)), none⟩
   (.one false ⟨(some 3), (.assign (.tmp 29)), none⟩
   .done))
   (.one true ⟨none, (.store 28 (.tmp 2) (.tmp 20)), none⟩
   (.one true ⟨(some 29), (.load 3 (.tmp 28)), none⟩
   (.one false ⟨(some 3), (.assign (.tmp 29)), none⟩
   .done)))))) [(.tmp 2)])
 .ret) .skip))
 (.seq (.regt [⟨(some 30), (.load 28 (.tmp 5)), none⟩,
   ⟨(some 31), (.move (.tmp 4)), none⟩] (.one true ⟨(some 32), (.buildSlice 22 3 #[(0, (.const (.int .i64 0))), (1, (.const (.int .i64 1))), (2, (.const (.int .i64 21)))]), none⟩
   (.one true ⟨(some 33), (.call (.mk (.value (.func 42)) #[(.tmp 31), (.tmp 32)] #[62, 22])), none⟩
   (.one false ⟨none, (.store 28 (.tmp 2) (.tmp 30)), none⟩
   (.one false ⟨(some 3), (.assign (.tmp 33)), none⟩
   .done)))) [(.tmp 2)])
 .ret)))))
theorem x_spec_DrawUndoSteps : Txt Tryd.prog 18 c_spec_DrawUndoSteps [.cell 2 28, .tmp 3] 1 := ⟨by kernel_rfl, by kernel_rfl, _, _, Tryd.func18, rfl, by kernel_rfl, by kernel_rfl, by kernel_rfl, rfl, by decide⟩
/-- loop.example/g01062/impl.UndoSteps -/
def c_impl_UndoSteps : Cd :=
 (.seq (.reg [⟨(some 2), (.box 28 (.tmp 0)), none⟩,
   ⟨(some 4), (.assign (.const (.int .i64 0))), none⟩,
   ⟨(some 5), (.assign (.const (.bool false))), none⟩])
 (.seq (.seq (.reg [⟨(some 7), (.call (.mk (.value (.func 29)) #[(.tmp 2)] #[56])), none⟩,
   ⟨(some 8), (.unOp .not 4 (.tmp 7)), none⟩])
 (.cond (.tmp 8) (.seq (.reg [⟨(some 4), (.assign (.const (.int .i64 0))), none⟩,
   ⟨(some 5), (.assign (.const (.bool false))), none⟩])
 .ret) .skip))
 (.seq (.reg [⟨(some 9), (.fieldAddr 28 (.tmp 2) 1), none⟩,
   ⟨(some 10), (.load 22 (.tmp 9)), none⟩,
   ⟨(some 11), (.move (.tmp 1)), none⟩,
   ⟨(some 12), (.call (.mk (.value (.func 43)) #[(.tmp 10), (.tmp 11)] #[22, 3])), none⟩,
   ⟨(some 6), (.assign (.tmp 12)), none⟩])
 (.seq (.seq (.reg [⟨(some 13), (.move (.tmp 6)), none⟩,
   ⟨(some 14), (.binOp .lss 3 (.tmp 13) (.const (.int .i64 0)) 3), none⟩])
 (.cond (.tmp 14) (.seq (.reg [⟨(some 4), (.assign (.const (.int .i64 0))), none⟩,
   ⟨(some 5), (.assign (.const (.bool false))), none⟩])
 .ret) .skip))
 (.seq (.reg [⟨(some 15), (.fieldAddr 28 (.tmp 2) 1), none⟩,
   ⟨(some 16), (.load 22 (.tmp 15)), none⟩,
   ⟨(some 17), (.call (.mk (.builtin .len) #[(.tmp 16)] #[22])), none⟩,
   ⟨(some 18), (.binOp .sub 3 (.tmp 17) (.const (.int .i64 1)) 3), none⟩,
   ⟨(some 19), (.move (.tmp 6)), none⟩,
   ⟨(some 20), (.binOp .sub 3 (.tmp 18) (.tmp 19) 3), none⟩,
   ⟨(some 4), (.assign (.tmp 20)), none⟩,
   ⟨(some 5), (.assign (.const (.bool true))), none⟩])
 .ret)))))
theorem x_impl_UndoSteps : Txt Tryd.prog 19 c_impl_UndoSteps [.tmp 4, .tmp 5] 2 := ⟨by kernel_rfl, by kernel_rfl, _, _, Tryd.func19, rfl, by kernel_rfl, by kernel_rfl, by kernel_rfl, rfl, by decide⟩
/-- loop.example/g01062/spec.UndoSteps -/
def c_spec_UndoSteps : Cd :=
 (.seq (.reg [⟨(some 2), (.box 28 (.tmp 0)), none⟩,
   ⟨(some 4), (.assign (.const (.int .i64 0))), none⟩,
   ⟨(some 5), (.assign (.const (.bool false))), none⟩])
 (.seq (.seq (.reg [⟨(some 7), (.load 28 (.tmp 2)), none⟩,
   ⟨(some 8), (.call (.mk (.value (.func 25)) #[(.tmp 7)] #[28])), none⟩,
   ⟨(some 9), (.unOp .not 4 (.tmp 8)), none⟩])
 (.cond (.tmp 9) (.seq (.reg [⟨(some 4), (.assign (.const (.int .i64 0))), none⟩,
   ⟨(some 5), (.assign (.const (.bool false))), none⟩])
 .ret) .skip))
 (.seq (.seq (.reg [⟨(some 6), (.assign (.const (.int .i64 0))), none⟩])
 (.block 0 (.loop (.seq (.seq (.reg [⟨(some 10), (.move (.tmp 6)), none⟩,
   ⟨(some 11), (.fieldAddr 28 (.tmp 2) 1), none⟩,
   ⟨(some 12), (.load 22 (.tmp 11)), none⟩,
   ⟨(some 13), (.call (.mk (.builtin .len) #[(.tmp 12)] #[22])), none⟩,
   ⟨(some 14), (.binOp .lss 3 (.tmp 10) (.tmp 13) 3), none⟩])
 (.cond (.tmp 14) .skip (.exit 0)))
 (.seq (.block 1 (.seq (.reg [⟨(some 17), (.fieldAddr 28 (.tmp 2) 1), none⟩,
   ⟨(some 18), (.load 22 (.tmp 17)), none⟩,
   ⟨(some 19), (.move (.tmp 6)), none⟩,
   ⟨(some 20), (.indexAddr 22 (.tmp 18) (.tmp 19)), none⟩,
   ⟨(some 21), (.load 3 (.tmp 20)), none⟩,
   ⟨(some 22), (.move (.tmp 1)), none⟩,
   ⟨(some 23), (.binOp .eql 3 (.tmp 21) (.tmp 22) 3), none⟩])
 (.cond (.tmp 23) (.seq (.reg [⟨(some 24), (.fieldAddr 28 (.tmp 2) 1), none⟩,
   ⟨(some 25), (.load 22 (.tmp 24)), none⟩,
   ⟨(some 26), (.call (.mk (.builtin .len) #[(.tmp 25)] #[22])), none⟩,
   ⟨(some 27), (.binOp .sub 3 (.tmp 26) (.const (.int .i64 1)) 3), none⟩,
   ⟨(some 28), (.move (.tmp 6)), none⟩,
   ⟨(some 29), (.binOp .sub 3 (.tmp 27) (.tmp 28) 3), none⟩,
   ⟨(some 4), (.assign (.tmp 29)), none⟩,
   ⟨(some 5), (.assign (.const (.bool true))), none⟩])
 .ret) .skip)))
 (.reg [⟨(some 15), (.move (.tmp 6)), none⟩,
   ⟨(some 16), (.binOp .add 3 (.tmp 15) (.const (.int .i64 1)) 3), none⟩,
   ⟨(some 6), (.assign (.tmp 16)), none⟩]))))))
 (.seq (.reg [⟨(some 4), (.assign (.const (.int .i64 0))), none⟩,
   ⟨(some 5), (.assign (.const (.bool false))), none⟩])
 .ret))))
theorem x_spec_UndoSteps : Txt Tryd.prog 20 c_spec_UndoSteps [.tmp 4, .tmp 5] 2 := ⟨by kernel_rfl, by kernel_rfl, _, _, Tryd.func20, rfl, by kernel_rfl, by kernel_rfl, by kernel_rfl, rfl, by decide⟩
/-- loop.example/g01062/impl.StepPuzzle -/
def c_impl_StepPuzzle : Cd :=
 (.seq (.reg [⟨(some 2), (.box 28 (.tmp 0)), none⟩,
   ⟨(some 3), (.box 41 (.tmp 1)), none⟩,
   ⟨(some 4), (.alloc 28), none⟩,
   ⟨(some 5), (.assign (.const (.bool false))), none⟩])
 (.seq (.seq (.reg [⟨(some 6), (.call (.mk (.value (.func 29)) #[(.tmp 2)] #[56])), none⟩,
   ⟨(some 7), (.unOp .not 4 (.tmp 6)), none⟩,
   ⟨(some 8), (.move (.tmp 7)), none⟩,
   ⟨(some 9), (.load 41 (.tmp 3)), (some (8, false))⟩,
   ⟨(some 10), (.call (.mk (.value (.func 37)) #[(.tmp 9)] #[41])), (some (8, false))⟩,
   ⟨(some 11), (.unOp .not 4 (.tmp 10)), (some (8, false))⟩,
   ⟨(some 12), (.pick (.tmp 8) (.const (.bool true)) (.tmp 11)), none⟩])
 (.cond (.tmp 12) (.seq (.reg [⟨(some 13), (.build 28 #[]), none⟩,
   ⟨none, (.store 28 (.tmp 4) (.tmp 13)), none⟩,
   ⟨(some 5), (.assign (.const (.bool false))), none⟩])
 .ret) .skip))
 (.seq (.reg [⟨(some 14), (.load 41 (.tmp 3)), none⟩,
   ⟨(some 15), (.call (.mk (.value (.func 38)) #[(.tmp 2), (.tmp 14)] #[56, 41])), none⟩,
   ⟨(some 16), (.extract (.tmp 15) 0), none⟩,
   ⟨(some 17), (.extract (.tmp 15) 1), none⟩,
   ⟨none, (.store 28 (.tmp 4) (.tmp 16)), none⟩,
   ⟨(some 5), (.assign (.tmp 17)), none⟩])
 .ret)))
theorem x_impl_StepPuzzle : Txt Tryd.prog 21 c_impl_StepPuzzle [.cell 4 28, .tmp 5] 2 := ⟨by kernel_rfl, by kernel_rfl, _, _, Tryd.func21, rfl, by kernel_rfl, by kernel_rfl, by kernel_rfl, rfl, by decide⟩
/-- loop.example/g01062/spec.DrawPuzzleText -/
def c_spec_DrawPuzzleText : Cd :=
 (.seq (.reg [⟨(some 2), (.alloc 28), none⟩])
 (.seq (.reg [⟨(some 3), (.move (.tmp 0)), none⟩,
   ⟨(some 4), (.call (.mk (.value (.func 33)) #[(.tmp 3)] #[32])), none⟩,
   ⟨none, (.store 28 (.tmp 2) (.tmp 4)), none⟩])
 .ret))
theorem x_spec_DrawPuzzleText : Txt Tryd.prog 22 c_spec_DrawPuzzleText [.cell 2 28] 1 := ⟨by kernel_rfl, by kernel_rfl, _, _, Tryd.func22, rfl, by kernel_rfl, by kernel_rfl, by kernel_rfl, rfl, by decide⟩
/-- loop.example/g01062/impl.IsPuzzle -/
def c_impl_IsPuzzle : Cd :=
 (.seq (.reg [⟨(some 1), (.box 28 (.tmp 0)), none⟩,
   ⟨(some 2), (.assign (.const (.bool false))), none⟩])
 (.seq (.reg [⟨(some 3), (.call (.mk (.value (.func 29)) #[(.tmp 1)] #[56])), none⟩,
   ⟨(some 2), (.assign (.tmp 3)), none⟩])
 .ret))
theorem x_impl_IsPuzzle : Txt Tryd.prog 23 c_impl_IsPuzzle [.tmp 2] 1 := ⟨by kernel_rfl, by kernel_rfl, _, _, Tryd.func23, rfl, by kernel_rfl, by kernel_rfl, by kernel_rfl, rfl, by decide⟩
/-- loop.example/g01062/laws.szIntS -/
def c_laws_szIntS : Cd :=
 (.seq (.reg [⟨(some 4), (.assign (.const (.int .i64 0))), none⟩])
 (.seq (.reg [⟨(some 5), (.move (.tmp 1)), none⟩,
   ⟨(some 6), (.move (.tmp 0)), none⟩,
   ⟨(some 7), (.call (.mk (.builtin .len) #[(.tmp 6)] #[22])), none⟩,
   ⟨(some 8), (.binOp .sub 3 (.tmp 5) (.tmp 7) 3), none⟩,
   ⟨(some 1), (.assign (.tmp 8)), none⟩])
 (.seq (.seq (.reg [⟨(some 9), (.move (.tmp 1)), none⟩,
   ⟨(some 10), (.binOp .lss 3 (.tmp 9) (.const (.int .i64 0)) 3), none⟩])
 (.cond (.tmp 10) (.seq (.reg [⟨(some 4), (.assign (.const (.int .i64 (-1)))), none⟩])
 .ret) .skip))
 (.seq (.reg [⟨(some 11), (.move (.tmp 1)), none⟩,
   ⟨(some 4), (.assign (.tmp 11)), none⟩])
 .ret))))
theorem x_laws_szIntS : Txt Tryd.prog 24 c_laws_szIntS [.tmp 4] 2 := ⟨by kernel_rfl, by kernel_rfl, _, _, Tryd.func24, rfl, by kernel_rfl, by kernel_rfl, by kernel_rfl, rfl, by decide⟩
/-- loop.example/g01062/spec.l21Good -/
def c_spec_l21Good : Cd :=
 (.seq (.reg [⟨(some 1), (.box 28 (.tmp 0)), none⟩,
   ⟨(some 2), (.assign (.const (.bool false))), none⟩])
 (.seq (.seq (.reg [⟨(some 5), (.fieldAddr 28 (.tmp 1) 0), none⟩,
   ⟨(some 6), (.load 3 (.tmp 5)), none⟩,
   ⟨(some 7), (.call (.mk (.value (.func 44)) #[(.tmp 6), (.const (.int .i64 1)), (.const (.int .i64 20))] #[3, 3, 3])), none⟩,
   ⟨(some 8), (.unOp .not 4 (.tmp 7)), none⟩,
   ⟨(some 9), (.move (.tmp 8)), none⟩,
   ⟨(some 10), (.fieldAddr 28 (.tmp 1) 2), (some (9, false))⟩,
   ⟨(some 11), (.load 3 (.tmp 10)), (some (9, false))⟩,
   ⟨(some 12), (.fieldAddr 28 (.tmp 1) 0), (some (9, false))⟩,
   ⟨(some 13), (.load 3 (.tmp 12)), (some (9, false))⟩,
   ⟨(some 14), (.call (.mk (.value (.func 44)) #[(.tmp 11), (.const (.int .i64 0)), (.tmp 13)] #[3, 3, 3])), (some (9, false))⟩,
   ⟨(some 15), (.unOp .not 4 (.tmp 14)), (some (9, false))⟩,
   ⟨(some 16), (.pick (.tmp 9) (.const (.bool true)) (.tmp 15)), none⟩,
   ⟨(some 17), (.move (.tmp 16)), none⟩,
   ⟨(some 18), (.fieldAddr 28 (.tmp 1) 1), (some (17, false))⟩,
   ⟨(some 19), (.load 22 (.tmp 18)), (some (17, false))⟩,
   ⟨(some 20), (.call (.mk (.builtin .len) #[(.tmp 19)] #[22])), (some (17, false))⟩,
   ⟨(some 21), (.fieldAddr 28 (.tmp 1) 0), (some (17, false))⟩,
   ⟨(some 22), (.load 3 (.tmp 21)), (some (17, false))⟩,
   ⟨(some 23), (.binOp .gtr 3 (.tmp 20) (.tmp 22) 3), (some (17, false))⟩,
   ⟨(some 24), (.pick (.tmp 17) (.const (.bool true)) (.tmp 23)), none⟩,
   ⟨(some 25), (.move (.tmp 24)), none⟩,
   ⟨(some 26), (.fieldAddr 28 (.tmp 1) 3), (some (25, false))⟩,
   ⟨(some 27), (.load 22 (.tmp 26)), (some (25, false))⟩,
   ⟨(some 28), (.fieldAddr 28 (.tmp 1) 0), (some (25, false))⟩,
   ⟨(some 29), (.load 3 (.tmp 28)), (some (25, false))⟩,
   ⟨(some 30), (.call (.mk (.value (.func 45)) #[(.tmp 27), (.const (.int .i64 1)), (.tmp 29)] #[22, 3, 3])), (some (25, false))⟩,
   ⟨(some 31), (.unOp .not 4 (.tmp 30)), (some (25, false))⟩,
   ⟨(some 32), (.pick (.tmp 25) (.const (.bool true)) (.tmp 31)), none⟩])
 (.cond (.tmp 32) (.seq (.reg [⟨(some 2), (.assign (.const (.bool false))), none⟩])
 .ret) .skip))
 (.seq (.seq (.reg [⟨(some 3), (.assign (.const (.int .i64 0))), none⟩])
 (.block 0 (.loop (.seq (.seq (.reg [⟨(some 33), (.move (.tmp 3)), none⟩,
   ⟨(some 34), (.fieldAddr 28 (.tmp 1) 1), none⟩,
   ⟨(some 35), (.load 22 (.tmp 34)), none⟩,
   ⟨(some 36), (.call (.mk (.builtin .len) #[(.tmp 35)] #[22])), none⟩,
   ⟨(some 37), (.binOp .lss 3 (.tmp 33) (.tmp 36) 3), none⟩])
 (.cond (.tmp 37) .skip (.exit 0)))
 (.seq (.block 1 (.seq (.reg [⟨(some 40), (.fieldAddr 28 (.tmp 1) 1), none⟩,
   ⟨(some 41), (.load 22 (.tmp 40)), none⟩,
   ⟨(some 42), (.move (.tmp 3)), none⟩,
   ⟨(some 43), (.indexAddr 22 (.tmp 41) (.tmp 42)), none⟩,
   ⟨(some 44), (.load 3 (.tmp 43)), none⟩,
   ⟨(some 4), (.assign (.tmp 44)), none⟩])
 (.seq (.reg [⟨(some 45), (.move (.tmp 4)), none⟩,
   ⟨(some 46), (.fieldAddr 28 (.tmp 1) 0), none⟩,
   ⟨(some 47), (.load 3 (.tmp 46)), none⟩,
   ⟨(some 48), (.call (.mk (.value (.func 44)) #[(.tmp 45), (.const (.int .i64 1)), (.tmp 47)] #[3, 3, 3])), none⟩,
   ⟨(some 49), (.unOp .not 4 (.tmp 48)), none⟩,
   ⟨(some 50), (.move (.tmp 49)), none⟩,
   ⟨(some 51), (.move (.tmp 4)), (some (50, false))⟩,
   ⟨(some 52), (.fieldAddr 28 (.tmp 1) 2), (some (50, false))⟩,
   ⟨(some 53), (.load 3 (.tmp 52)), (some (50, false))⟩,
   ⟨(some 54), (.binOp .eql 3 (.tmp 51) (.tmp 53) 3), (some (50, false))⟩,
   ⟨(some 55), (.pick (.tmp 50) (.const (.bool true)) (.tmp 54)), none⟩,
   ⟨(some 56), (.move (.tmp 55)), none⟩,
   ⟨(some 57), (.fieldAddr 28 (.tmp 1) 1), (some (56, false))⟩,
   ⟨(some 58), (.load 22 (.tmp 57)), (some (56, false))⟩,
   ⟨(some 59), (.move (.tmp 3)), (some (56, false))⟩,
   ⟨(some 60), (.slice 22 (.tmp 58) none (some (.tmp 59)) none), (some (56, false))⟩,
   ⟨(some 61), (.move (.tmp 4)), (some (56, false))⟩,
   ⟨(some 62), (.call (.mk (.value (.func 46)) #[(.tmp 60), (.tmp 61)] #[22, 3])), (some (56, false))⟩,
   ⟨(some 63), (.pick (.tmp 56) (.const (.bool true)) (.tmp 62)), none⟩,
   ⟨(some 64), (.move (.tmp 63)), none⟩,
   ⟨(some 65), (.fieldAddr 28 (.tmp 1) 3), (some (64, false))⟩,
   ⟨(some 66), (.load 22 (.tmp 65)), (some (64, false))⟩,
   ⟨(some 67), (.move (.tmp 4)), (some (64, false))⟩,
   ⟨(some 68), (.call (.mk (.value (.func 46)) #[(.tmp 66), (.tmp 67)] #[22, 3])), (some (64, false))⟩,
   ⟨(some 69), (.pick (.tmp 64) (.const (.bool true)) (.tmp 68)), none⟩])
 (.cond (.tmp 69) (.seq (.reg [⟨(some 2), (.assign (.const (.bool false))), none⟩])
 .ret) .skip))))
 (.reg [⟨(some 38), (.move (.tmp 3)), none⟩,
   ⟨(some 39), (.binOp .add 3 (.tmp 38) (.const (.int .i64 1)) 3), none⟩,
   ⟨(some 3), (.assign (.tmp 39)), none⟩]))))))
 (.seq (.seq (.reg [⟨(some 70), (.fieldAddr 28 (.tmp 1) 2), none⟩,
   ⟨(some 71), (.load 3 (.tmp 70)), none⟩,
   ⟨(some 72), (.binOp .gtr 3 (.tmp 71) (.const (.int .i64 0)) 3), none⟩,
   ⟨(some 73), (.move (.tmp 72)), none⟩,
   ⟨(some 74), (.fieldAddr 28 (.tmp 1) 3), (some (73, true))⟩,
   ⟨(some 75), (.load 22 (.tmp 74)), (some (73, true))⟩,
   ⟨(some 76), (.fieldAddr 28 (.tmp 1) 2), (some (73, true))⟩,
   ⟨(some 77), (.load 3 (.tmp 76)), (some (73, true))⟩,
   ⟨(some 78), (.call (.mk (.value (.func 46)) #[(.tmp 75), (.tmp 77)] #[22, 3])), (some (73, true))⟩,
   ⟨(some 79), (.pick (.tmp 73) (.tmp 78) (.const (.bool false))), none⟩])
 (.cond (.tmp 79) (.seq (.reg [⟨(some 2), (.assign (.const (.bool false))), none⟩])
 .ret) .skip))
 (.seq (.reg [⟨(some 80), (.fieldAddr 28 (.tmp 1) 4), none⟩,
   ⟨(some 81), (.load 4 (.tmp 80)), none⟩,
   ⟨(some 82), (.unOp .not 4 (.tmp 81)), none⟩,
   ⟨(some 83), (.move (.tmp 82)), none⟩,
   ⟨(some 84), (.fieldAddr 28 (.tmp 1) 2), (some (83, false))⟩,
   ⟨(some 85), (.load 3 (.tmp 84)), (some (83, false))⟩,
   ⟨(some 86), (.binOp .eql 3 (.tmp 85) (.const (.int .i64 0)) 3), (some (83, false))⟩,
   ⟨(some 87), (.move (.tmp 86)), (some (83, false))⟩,
   ⟨(some 88), (.load 28 (.tmp 1)), (some (87, true))⟩,
   ⟨(some 89), (.call (.mk (.value (.func 35)) #[(.tmp 88)] #[28])), (some (87, true))⟩,
   ⟨(some 90), (.call (.mk (.builtin .len) #[(.tmp 89)] #[22])), (some (87, true))⟩,
   ⟨(some 91), (.binOp .eql 3 (.tmp 90) (.const (.int .i64 0)) 3), (some (87, true))⟩,
   ⟨(some 92), (.pick (.tmp 87) (.tmp 91) (.const (.bool false))), (some (83, false))⟩,
   ⟨(some 93), (.pick (.tmp 83) (.const (.bool true)) (.tmp 92)), none⟩,
   ⟨(some 2), (.assign (.tmp 93)), none⟩])
 .ret)))))
theorem x_spec_l21Good : Txt Tryd.prog 25 c_spec_l21Good [.tmp 2] 1 := ⟨by kernel_rfl, by kernel_rfl, _, _, Tryd.func25, rfl, by kernel_rfl, by kernel_rfl, by kernel_rfl, rfl, by decide⟩
/-- loop.example/g01062/spec.l21List -/
def c_spec_l21List : Cd :=
 (.seq (.reg [⟨(some 2), (.assign (.const (.string (ByteArray.mk #[])))), none⟩])
 (.seq (.reg [⟨(some 3), (.assign (.const (.string (ByteArray.mk #[])))), none⟩])
 (.seq (.seq (.reg [⟨(some 4), (.assign (.const (.int .i64 0))), none⟩])
 (.block 0 (.loop (.seq (.seq (.reg [⟨(some 5), (.move (.tmp 4)), none⟩,
   ⟨(some 6), (.move (.tmp 0)), none⟩,
   ⟨(some 7), (.call (.mk (.builtin .len) #[(.tmp 6)] #[22])), none⟩,
   ⟨(some 8), (.binOp .lss 3 (.tmp 5) (.tmp 7) 3), none⟩])
 (.cond (.tmp 8) .skip (.exit 0)))
 (.seq (.block 1 (.seq (.seq (.reg [⟨(some 11), (.move (.tmp 4)), none⟩,
   ⟨(some 12), (.binOp .gtr 3 (.tmp 11) (.const (.int .i64 0)) 3), none⟩])
 (.cond (.tmp 12) (.reg [⟨(some 13), (.move (.tmp 3)), none⟩,
   ⟨(some 14), (.binOp .add 9 (.tmp 13) (.const (.string (ByteArray.mk #[44]))) 9), none⟩,
   ⟨(some 3), (.assign (.tmp 14)), none⟩]) .skip))
 (.reg [⟨(some 15), (.move (.tmp 3)), none⟩,
   ⟨(some 16), (.move (.tmp 0)), none⟩,
   ⟨(some 17), (.move (.tmp 4)), none⟩,
   ⟨(some 18), (.indexAddr 22 (.tmp 16) (.tmp 17)), none⟩,
   ⟨(some 19), (.load 3 (.tmp 18)), none⟩,
   ⟨(some 20), (.call (.mk (.value (.func 27)) #[(.tmp 19)] #[3])), none⟩,
   ⟨(some 21), (.binOp .add 9 (.tmp 15) (.tmp 20) 9), none⟩,
   ⟨(some 3), (.assign (.tmp 21)), none⟩])))
 (.reg [⟨(some 9), (.move (.tmp 4)), none⟩,
   ⟨(some 10), (.binOp .add 3 (.tmp 9) (.const (.int .i64 1)) 3), none⟩,
   ⟨(some 4), (.assign (.tmp 10)), none⟩]))))))
 (.seq (.seq (.reg [⟨(some 22), (.move (.tmp 3)), none⟩,
   ⟨(some 23), (.binOp .eql 9 (.tmp 22) (.const (.string (ByteArray.mk #[]))) 9), none⟩])
 (.cond (.tmp 23) (.seq (.reg [⟨(some 2), (.assign (.const (.string (ByteArray.mk #[45])))), none⟩])
 .ret) .skip))
 (.seq (.reg [⟨(some 24), (.move (.tmp 3)), none⟩,
   ⟨(some 2), (.assign (.tmp 24)), none⟩])
 .ret)))))
theorem x_spec_l21List : Txt Tryd.prog 26 c_spec_l21List [.tmp 2] 1 := ⟨by kernel_rfl, by kernel_rfl, _, _, Tryd.func26, rfl, by kernel_rfl, by kernel_rfl, by kernel_rfl, rfl, by decide⟩
/-- loop.example/g01062/spec.l1Num -/
def c_spec_l1Num : Cd :=
 (.seq (.reg [⟨(some 2), (.assign (.const (.string (ByteArray.mk #[])))), none⟩])
 (.seq (.seq (.reg [⟨(some 3), (.move (.tmp 0)), none⟩,
   ⟨(some 4), (.binOp .lss 3 (.tmp 3) (.const (.int .i64 0)) 3), none⟩])
 (.cond (.tmp 4) (.seq (.reg [⟨(some 5), (.move (.tmp 0)), none⟩,
   ⟨(some 6), (.unOp .neg 3 (.tmp 5)), none⟩,
   ⟨(some 7), (.call (.mk (.value (.func 27)) #[(.tmp 6)] #[3])), none⟩,
   ⟨(some 8), (.binOp .add 9 (.const (.string (ByteArray.mk #[45]))) (.tmp 7) 9), none⟩,
   ⟨(some 2), (.assign (.tmp 8)), none⟩])
 .ret) .skip))
 (.seq (.seq (.reg [⟨(some 9), (.move (.tmp 0)), none⟩,
   ⟨(some 10), (.binOp .lss 3 (.tmp 9) (.const (.int .i64 10)) 3), none⟩])
 (.cond (.tmp 10) (.seq (.reg [⟨(some 11), (.move (.tmp 0)), none⟩,
   ⟨(some 12), (.move (.tmp 0)), none⟩,
   ⟨(some 13), (.binOp .add 3 (.tmp 12) (.const (.int .i64 1)) 3), none⟩,
   ⟨(some 14), (.slice 9 (.const (.string (ByteArray.mk #[48, 49, 50, 51, 52, 53, 54, 55, 56, 57]))) (some (.tmp 11)) (some (.tmp 13)) none), none⟩,
   ⟨(some 2), (.assign (.tmp 14)), none⟩])
 .ret) .skip))
 (.seq (.regq [⟨(some 15), (.move (.tmp 0)), none⟩,
   ⟨(some 16), (.binOp .quo 3 (.tmp 15) (.const (.int .i64 10)) 3), none⟩,
   ⟨(some 17), (.call (.mk (.value (.func 27)) #[(.tmp 16)] #[3])), none⟩,
   ⟨(some 18), (.move (.tmp 0)), none⟩,
   ⟨(some 19), (.binOp .rem 3 (.tmp 18) (.const (.int .i64 10)) 3), none⟩,
   ⟨(some 20), (.move (.tmp 0)), none⟩,
   ⟨(some 21), (.binOp .rem 3 (.tmp 20) (.const (.int .i64 10)) 3), none⟩,
   ⟨(some 22), (.binOp .add 3 (.tmp 21) (.const (.int .i64 1)) 3), none⟩,
   ⟨(some 23), (.slice 9 (.const (.string (ByteArray.mk #[48, 49, 50, 51, 52, 53, 54, 55, 56, 57]))) (some (.tmp 19)) (some (.tmp 22)) none), none⟩,
   ⟨(some 24), (.binOp .add 9 (.tmp 17) (.tmp 23) 9), none⟩,
   ⟨(some 2), (.assign (.tmp 24)), none⟩])
 .ret))))
theorem x_spec_l1Num : Txt Tryd.prog 27 c_spec_l1Num [.tmp 2] 1 := ⟨by kernel_rfl, by kernel_rfl, _, _, Tryd.func27, rfl, by kernel_rfl, by kernel_rfl, by kernel_rfl, rfl, by decide⟩
/-- loop.example/g01062/laws.toIntS -/
def c_laws_toIntS : Cd :=
 (.seq (.reg [⟨(some 2), (.assign (.const (.slice none 0 0))), none⟩])
 (.seq (.reg [⟨(some 5), (.move (.tmp 0)), none⟩,
   ⟨(some 6), (.call (.mk (.builtin .len) #[(.tmp 5)] #[22])), none⟩,
   ⟨(some 7), (.makeSlice 22 (.tmp 6) (.tmp 6)), none⟩,
   ⟨(some 3), (.assign (.tmp 7)), none⟩])
 (.seq (.seq (.reg [⟨(some 4), (.assign (.const (.int .i64 0))), none⟩])
 (.block 0 (.loop (.seq (.seq (.reg [⟨(some 8), (.move (.tmp 4)), none⟩,
   ⟨(some 9), (.move (.tmp 0)), none⟩,
   ⟨(some 10), (.call (.mk (.builtin .len) #[(.tmp 9)] #[22])), none⟩,
   ⟨(some 11), (.binOp .lss 3 (.tmp 8) (.tmp 10) 3), none⟩])
 (.cond (.tmp 11) .skip (.exit 0)))
 (.seq (.block 1 (.reg [⟨(some 14), (.move (.tmp 3)), none⟩,
   ⟨(some 15), (.move (.tmp 4)), none⟩,
   ⟨(some 16), (.move (.tmp 0)), none⟩,
   ⟨(some 17), (.move (.tmp 4)), none⟩,
   ⟨(some 18), (.indexAddr 22 (.tmp 16) (.tmp 17)), none⟩,
   ⟨(some 19), (.load 3 (.tmp 18)), none⟩,
   ⟨(some 20), (.indexAddr 22 (.tmp 14) (.tmp 15)), none⟩,
   ⟨none, (.store 3 (.tmp 20) (.tmp 19)), none⟩]))
 (.reg [⟨(some 12), (.move (.tmp 4)), none⟩,
   ⟨(some 13), (.binOp .add 3 (.tmp 12) (.const (.int .i64 1)) 3), none⟩,
   ⟨(some 4), (.assign (.tmp 13)), none⟩]))))))
 (.seq (.reg [⟨(some 21), (.move (.tmp 3)), none⟩,
   ⟨(some 2), (.assign (.tmp 21)), none⟩])
 .ret))))
theorem x_laws_toIntS : Txt Tryd.prog 28 c_laws_toIntS [.tmp 2] 1 := ⟨by kernel_rfl, by kernel_rfl, _, _, Tryd.func28, rfl, by kernel_rfl, by kernel_rfl, by kernel_rfl, rfl, by decide⟩
/-- loop.example/g01062/impl.isPuzzle -/
def c_impl_isPuzzle : Cd :=
 (.seq (.reg [⟨(some 2), (.assign (.const (.bool false))), none⟩])
 (.seq (.seq (.reg [⟨(some 6), (.move (.tmp 0)), none⟩,
   ⟨(some 7), (.nilCheck (.tmp 6)), none⟩,
   ⟨(some 8), (.fieldAddr 28 (.tmp 7) 0), none⟩,
   ⟨(some 9), (.load 3 (.tmp 8)), none⟩,
   ⟨(some 10), (.call (.mk (.value (.func 47)) #[(.tmp 9), (.const (.int .i64 1)), (.const (.int .i64 20))] #[3, 3, 3])), none⟩,
   ⟨(some 11), (.unOp .not 4 (.tmp 10)), none⟩,
   ⟨(some 12), (.move (.tmp 11)), none⟩,
   ⟨(some 13), (.move (.tmp 0)), (some (12, false))⟩,
   ⟨(some 14), (.nilCheck (.tmp 13)), (some (12, false))⟩,
   ⟨(some 15), (.fieldAddr 28 (.tmp 14) 3), (some (12, false))⟩,
   ⟨(some 16), (.load 22 (.tmp 15)), (some (12, false))⟩,
   ⟨(some 17), (.call (.mk (.value (.func 48)) #[(.tmp 16)] #[22])), (some (12, false))⟩,
   ⟨(some 18), (.unOp .not 4 (.tmp 17)), (some (12, false))⟩,
   ⟨(some 19), (.pick (.tmp 12) (.const (.bool true)) (.tmp 18)), none⟩])
 (.cond (.tmp 19) (.seq (.reg [⟨(some 2), (.assign (.const (.bool false))), none⟩])
 .ret) .skip))
 (.seq (.regt [⟨(some 20), (.move (.tmp 0)), none⟩,
   ⟨(some 21), (.nilCheck (.tmp 20)), none⟩,
   ⟨(some 22), (.fieldAddr 28 (.tmp 21) 1), none⟩,
   ⟨(some 23), (.load 22 (.tmp 22)), none⟩,
   ⟨(some 24), (.move (.tmp 0)), none⟩,
   ⟨(some 25), (.nilCheck (.tmp 24)), none⟩,
   ⟨(some 26), (.fieldAddr 28 (.tmp 25) 3), none⟩,
   ⟨(some 27), (.load 22 (.tmp 26)), none⟩] (.one false ⟨(some 28), (.buildSlice 80 2 #[(0, (.tmp 23)), (1, (.tmp 27))]), none⟩
   (.one false ⟨(some 29), (.call (.mk (.value (.func 49)) #[(.tmp 28)] #[80])), none⟩
   (.one false ⟨(some 3), (.assign (.tmp 29)), none⟩
   .done))) [])
 (.seq (.seq (.reg [⟨(some 30), (.move (.tmp 0)), none⟩,
   ⟨(some 31), (.nilCheck (.tmp 30)), none⟩,
   ⟨(some 32), (.fieldAddr 28 (.tmp 31) 2), none⟩,
   ⟨(some 33), (.load 3 (.tmp 32)), none⟩,
   ⟨(some 34), (.binOp .neq 3 (.tmp 33) (.const (.int .i64 0)) 3), none⟩])
 (.cond (.tmp 34) (.reg [⟨(some 35), (.move (.tmp 3)), none⟩,
   ⟨(some 36), (.move (.tmp 0)), none⟩,
   ⟨(some 37), (.nilCheck (.tmp 36)), none⟩,
   ⟨(some 38), (.fieldAddr 28 (.tmp 37) 2), none⟩,
   ⟨(some 39), (.load 3 (.tmp 38)), none⟩,
   ⟨(some 40), (.buildSlice 22 1 #[(0, (.tmp 39))]), none⟩,
   ⟨(some 41), (.call (.mk (.builtin .append) #[(.tmp 35), (.tmp 40)] #[22, 22])), none⟩,
   ⟨(some 3), (.assign (.tmp 41)), none⟩]) .skip))
 (.seq (.seq (.reg [⟨(some 42), (.move (.tmp 3)), none⟩,
   ⟨(some 43), (.call (.mk (.builtin .len) #[(.tmp 42)] #[22])), none⟩,
   ⟨(some 44), (.move (.const (.int .i64 0))), none⟩])
 (.block 0 (.loop (.seq (.reg [⟨(some 45), (.binOp .lss 3 (.tmp 44) (.tmp 43) 3), none⟩])
 (.seq (.cond (.tmp 45) .skip (.exit 0))
 (.seq (.block 1 (.seq (.reg [⟨(some 46), (.move (.tmp 44)), none⟩,
   ⟨(some 47), (.indexAddr 22 (.tmp 42) (.tmp 44)), none⟩,
   ⟨(some 48), (.load 3 (.tmp 47)), none⟩,
   ⟨(some 4), (.assign (.tmp 46)), none⟩,
   ⟨(some 5), (.assign (.tmp 48)), none⟩])
 (.seq (.reg [⟨(some 49), (.move (.tmp 5)), none⟩,
   ⟨(some 50), (.move (.tmp 0)), none⟩,
   ⟨(some 51), (.nilCheck (.tmp 50)), none⟩,
   ⟨(some 52), (.fieldAddr 28 (.tmp 51) 0), none⟩,
   ⟨(some 53), (.load 3 (.tmp 52)), none⟩,
   ⟨(some 54), (.call (.mk (.value (.func 47)) #[(.tmp 49), (.const (.int .i64 1)), (.tmp 53)] #[3, 3, 3])), none⟩,
   ⟨(some 55), (.unOp .not 4 (.tmp 54)), none⟩,
   ⟨(some 56), (.move (.tmp 55)), none⟩,
   ⟨(some 57), (.move (.tmp 3)), (some (56, false))⟩,
   ⟨(some 58), (.move (.tmp 4)), (some (56, false))⟩,
   ⟨(some 59), (.slice 22 (.tmp 57) none (some (.tmp 58)) none), (some (56, false))⟩,
   ⟨(some 60), (.move (.tmp 5)), (some (56, false))⟩,
   ⟨(some 61), (.call (.mk (.value (.func 50)) #[(.tmp 59), (.tmp 60)] #[22, 3])), (some (56, false))⟩,
   ⟨(some 62), (.pick (.tmp 56) (.const (.bool true)) (.tmp 61)), none⟩])
 (.cond (.tmp 62) (.seq (.reg [⟨(some 2), (.assign (.const (.bool false))), none⟩])
 .ret) .skip))))
 (.reg [⟨(some 63), (.binOp .add 3 (.tmp 44) (.const (.int .i64 1)) 3), none⟩,
   ⟨(some 44), (.move (.tmp 63)), none⟩])))))))
 (.seq (.reg [⟨(some 64), (.move (.tmp 0)), none⟩,
   ⟨(some 65), (.nilCheck (.tmp 64)), none⟩,
   ⟨(some 66), (.fieldAddr 28 (.tmp 65) 4), none⟩,
   ⟨(some 67), (.load 4 (.tmp 66)), none⟩,
   ⟨(some 68), (.unOp .not 4 (.tmp 67)), none⟩,
   ⟨(some 69), (.move (.tmp 68)), none⟩,
   ⟨(some 70), (.move (.tmp 0)), (some (69, false))⟩,
   ⟨(some 71), (.nilCheck (.tmp 70)), (some (69, false))⟩,
   ⟨(some 72), (.fieldAddr 28 (.tmp 71) 2), (some (69, false))⟩,
   ⟨(some 73), (.load 3 (.tmp 72)), (some (69, false))⟩,
   ⟨(some 74), (.binOp .eql 3 (.tmp 73) (.const (.int .i64 0)) 3), (some (69, false))⟩,
   ⟨(some 75), (.move (.tmp 74)), (some (69, false))⟩,
   ⟨(some 76), (.move (.tmp 3)), (some (75, true))⟩,
   ⟨(some 77), (.call (.mk (.builtin .len) #[(.tmp 76)] #[22])), (some (75, true))⟩,
   ⟨(some 78), (.move (.tmp 0)), (some (75, true))⟩,
   ⟨(some 79), (.nilCheck (.tmp 78)), (some (75, true))⟩,
   ⟨(some 80), (.fieldAddr 28 (.tmp 79) 0), (some (75, true))⟩,
   ⟨(some 81), (.load 3 (.tmp 80)), (some (75, true))⟩,
   ⟨(some 82), (.binOp .eql 3 (.tmp 77) (.tmp 81) 3), (some (75, true))⟩,
   ⟨(some 83), (.pick (.tmp 75) (.tmp 82) (.const (.bool false))), (some (69, false))⟩,
   ⟨(some 84), (.pick (.tmp 69) (.const (.bool true)) (.tmp 83)), none⟩,
   ⟨(some 2), (.assign (.tmp 84)), none⟩])
 .ret))))))
theorem x_impl_isPuzzle : Txt Tryd.prog 29 c_impl_isPuzzle [.tmp 2] 1 := ⟨by kernel_rfl, by kernel_rfl, _, _, Tryd.func29, rfl, by kernel_rfl, by kernel_rfl, by kernel_rfl, rfl, by decide⟩
/-- loop.example/g01062/impl.piecesText -/
def c_impl_piecesText : Cd :=
 (.seq (.reg [⟨(some 2), (.assign (.const (.string (ByteArray.mk #[])))), none⟩])
 (.seq (.seq (.reg [⟨(some 3), (.move (.tmp 0)), none⟩,
   ⟨(some 4), (.call (.mk (.builtin .len) #[(.tmp 3)] #[22])), none⟩,
   ⟨(some 5), (.binOp .eql 3 (.tmp 4) (.const (.int .i64 0)) 3), none⟩])
 (.cond (.tmp 5) (.seq (.reg [⟨(some 2), (.assign (.const (.string (ByteArray.mk #[45])))), none⟩])
 .ret) .skip))
 (.seq (.reg [⟨(some 6), (.move (.tmp 0)), none⟩,
   ⟨(some 7), (.call (.mk (.value (.func 52)) #[(.tmp 6), (.const (.string (ByteArray.mk #[44])))] #[22, 9])), none⟩,
   ⟨(some 2), (.assign (.tmp 7)), none⟩])
 .ret)))
theorem x_impl_piecesText : Txt Tryd.prog 31 c_impl_piecesText [.tmp 2] 1 := ⟨by kernel_rfl, by kernel_rfl, _, _, Tryd.func31, rfl, by kernel_rfl, by kernel_rfl, by kernel_rfl, rfl, by decide⟩
/-- loop.example/g01062/laws.eqIntS -/
def c_laws_eqIntS : Cd :=
 (.seq (.reg [⟨(some 4), (.assign (.const (.bool false))), none⟩])
 (.seq (.seq (.reg [⟨(some 6), (.move (.tmp 0)), none⟩,
   ⟨(some 7), (.call (.mk (.builtin .len) #[(.tmp 6)] #[22])), none⟩,
   ⟨(some 8), (.move (.tmp 1)), none⟩,
   ⟨(some 9), (.call (.mk (.builtin .len) #[(.tmp 8)] #[22])), none⟩,
   ⟨(some 10), (.binOp .neq 3 (.tmp 7) (.tmp 9) 3), none⟩])
 (.cond (.tmp 10) (.seq (.reg [⟨(some 4), (.assign (.const (.bool false))), none⟩])
 .ret) .skip))
 (.seq (.seq (.reg [⟨(some 5), (.assign (.const (.int .i64 0))), none⟩])
 (.block 0 (.loop (.seq (.seq (.reg [⟨(some 11), (.move (.tmp 5)), none⟩,
   ⟨(some 12), (.move (.tmp 0)), none⟩,
   ⟨(some 13), (.call (.mk (.builtin .len) #[(.tmp 12)] #[22])), none⟩,
   ⟨(some 14), (.binOp .lss 3 (.tmp 11) (.tmp 13) 3), none⟩])
 (.cond (.tmp 14) .skip (.exit 0)))
 (.seq (.block 1 (.seq (.regq [⟨(some 17), (.move (.tmp 0)), none⟩,
   ⟨(some 18), (.move (.tmp 5)), none⟩,
   ⟨(some 19), (.indexAddr 22 (.tmp 17) (.tmp 18)), none⟩,
   ⟨(some 20), (.load 3 (.tmp 19)), none⟩,
   ⟨(some 21), (.move (.tmp 1)), none⟩,
   ⟨(some 22), (.move (.tmp 5)), none⟩,
   ⟨(some 23), (.indexAddr 22 (.tmp 21) (.tmp 22)), none⟩,
   ⟨(some 24), (.load 3 (.tmp 23)), none⟩,
   ⟨(some 25), (.binOp .neq 3 (.tmp 20) (.tmp 24) 3), none⟩])
 (.cond (.tmp 25) (.seq (.reg [⟨(some 4), (.assign (.const (.bool false))), none⟩])
 .ret) .skip)))
 (.reg [⟨(some 15), (.move (.tmp 5)), none⟩,
   ⟨(some 16), (.binOp .add 3 (.tmp 15) (.const (.int .i64 1)) 3), none⟩,
   ⟨(some 5), (.assign (.tmp 16)), none⟩]))))))
 (.seq (.reg [⟨(some 4), (.assign (.const (.bool true))), none⟩])
 .ret))))
theorem x_laws_eqIntS : Txt Tryd.prog 32 c_laws_eqIntS [.tmp 4] 2 := ⟨by kernel_rfl, by kernel_rfl, _, _, Tryd.func32, rfl, by kernel_rfl, by kernel_rfl, by kernel_rfl, rfl, by decide⟩
/-- loop.example/g01062/spec.DrawIsPuzzle -/
def c_spec_DrawIsPuzzle : Cd :=
 (.seq (.reg [⟨(some 2), (.alloc 28), none⟩])
 (.seq (.reg [⟨(some 4), (.move (.tmp 0)), none⟩,
   ⟨(some 5), (.build 65 #[(0, (.tmp 4))]), none⟩,
   ⟨(some 6), (.box 65 (.tmp 5)), none⟩,
   ⟨(some 3), (.assign (.tmp 6)), none⟩])
 (.seq (.reg [⟨(some 7), (.move (.tmp 3)), none⟩,
   ⟨(some 8), (.call (.mk (.value (.func 39)) #[(.tmp 7)] #[62])), none⟩,
   ⟨none, (.store 28 (.tmp 2) (.tmp 8)), none⟩])
 .ret)))
theorem x_spec_DrawIsPuzzle : Txt Tryd.prog 33 c_spec_DrawIsPuzzle [.cell 2 28] 1 := ⟨by kernel_rfl, by kernel_rfl, _, _, Tryd.func33, rfl, by kernel_rfl, by kernel_rfl, by kernel_rfl, rfl, by decide⟩
/-- (*loop.example/g01062/impl.Puzzle).waiting -/
def c_impl_Puzzle_waiting : Cd :=
 (.seq (.reg [⟨(some 2), (.assign (.const (.slice none 0 0))), none⟩])
 (.seq (.reg [⟨(some 3), (.assign (.const (.slice none 0 0))), none⟩])
 (.seq (.seq (.reg [⟨(some 4), (.assign (.const (.int .i64 1))), none⟩])
 (.block 0 (.loop (.seq (.seq (.reg [⟨(some 5), (.move (.tmp 4)), none⟩,
   ⟨(some 6), (.move (.tmp 0)), none⟩,
   ⟨(some 7), (.nilCheck (.tmp 6)), none⟩,
   ⟨(some 8), (.fieldAddr 28 (.tmp 7) 0), none⟩,
   ⟨(some 9), (.load 3 (.tmp 8)), none⟩,
   ⟨(some 10), (.binOp .leq 3 (.tmp 5) (.tmp 9) 3), none⟩])
 (.cond (.tmp 10) .skip (.exit 0)))
 (.seq (.block 1 (.seq (.reg [⟨(some 13), (.move (.tmp 4)), none⟩,
   ⟨(some 14), (.move (.tmp 0)), none⟩,
   ⟨(some 15), (.nilCheck (.tmp 14)), none⟩,
   ⟨(some 16), (.fieldAddr 28 (.tmp 15) 2), none⟩,
   ⟨(some 17), (.load 3 (.tmp 16)), none⟩,
   ⟨(some 18), (.binOp .neq 3 (.tmp 13) (.tmp 17) 3), none⟩,
   ⟨(some 19), (.move (.tmp 18)), none⟩,
   ⟨(some 20), (.move (.tmp 0)), (some (19, true))⟩,
   ⟨(some 21), (.nilCheck (.tmp 20)), (some (19, true))⟩,
   ⟨(some 22), (.fieldAddr 28 (.tmp 21) 1), (some (19, true))⟩,
   ⟨(some 23), (.load 22 (.tmp 22)), (some (19, true))⟩,
   ⟨(some 24), (.move (.tmp 4)), (some (19, true))⟩,
   ⟨(some 25), (.call (.mk (.value (.func 50)) #[(.tmp 23), (.tmp 24)] #[22, 3])), (some (19, true))⟩,
   ⟨(some 26), (.unOp .not 4 (.tmp 25)), (some (19, true))⟩,
   ⟨(some 27), (.pick (.tmp 19) (.tmp 26) (.const (.bool false))), none⟩,
   ⟨(some 28), (.move (.tmp 27)), none⟩,
   ⟨(some 29), (.move (.tmp 0)), (some (28, true))⟩,
   ⟨(some 30), (.nilCheck (.tmp 29)), (some (28, true))⟩,
   ⟨(some 31), (.fieldAddr 28 (.tmp 30) 3), (some (28, true))⟩,
   ⟨(some 32), (.load 22 (.tmp 31)), (some (28, true))⟩,
   ⟨(some 33), (.move (.tmp 4)), (some (28, true))⟩,
   ⟨(some 34), (.call (.mk (.value (.func 50)) #[(.tmp 32), (.tmp 33)] #[22, 3])), (some (28, true))⟩,
   ⟨(some 35), (.unOp .not 4 (.tmp 34)), (some (28, true))⟩,
   ⟨(some 36), (.pick (.tmp 28) (.tmp 35) (.const (.bool false))), none⟩])
 (.cond (.tmp 36) (.reg [⟨(some 37), (.move (.tmp 3)), none⟩,
   ⟨(some 38), (.move (.tmp 4)), none⟩,
   ⟨(some 39), (.buildSlice 22 1 #[(0, (.tmp 38))]), none⟩,
   ⟨(some 40), (.call (.mk (.builtin .append) #[(.tmp 37), (.tmp 39)] #[22, 22])), none⟩,
   ⟨(some 3), (.assign (.tmp 40)), none⟩]) .skip)))
 (.reg [⟨(some 11), (.move (.tmp 4)), none⟩,
   ⟨(some 12), (.binOp .add 3 (.tmp 11) (.const (.int .i64 1)) 3), none⟩,
   ⟨(some 4), (.assign (.tmp 12)), none⟩]))))))
 (.seq (.reg [⟨(some 41), (.move (.tmp 3)), none⟩,
   ⟨(some 2), (.assign (.tmp 41)), none⟩])
 .ret))))
theorem x_impl_Puzzle_waiting : Txt Tryd.prog 34 c_impl_Puzzle_waiting [.tmp 2] 1 := ⟨by kernel_rfl, by kernel_rfl, _, _, Tryd.func34, rfl, by kernel_rfl, by kernel_rfl, by kernel_rfl, rfl, by decide⟩
/-- loop.example/g01062/spec.l21Waiting -/
def c_spec_l21Waiting : Cd :=
 (.seq (.reg [⟨(some 1), (.box 28 (.tmp 0)), none⟩,
   ⟨(some 2), (.assign (.const (.slice none 0 0))), none⟩])
 (.seq (.reg [⟨(some 5), (.buildSlice 22 0 #[]), none⟩,
   ⟨(some 3), (.assign (.tmp 5)), none⟩])
 (.seq (.seq (.reg [⟨(some 4), (.assign (.const (.int .i64 1))), none⟩])
 (.block 0 (.loop (.seq (.seq (.reg [⟨(some 6), (.move (.tmp 4)), none⟩,
   ⟨(some 7), (.fieldAddr 28 (.tmp 1) 0), none⟩,
   ⟨(some 8), (.load 3 (.tmp 7)), none⟩,
   ⟨(some 9), (.binOp .leq 3 (.tmp 6) (.tmp 8) 3), none⟩])
 (.cond (.tmp 9) .skip (.exit 0)))
 (.seq (.block 1 (.seq (.reg [⟨(some 12), (.move (.tmp 4)), none⟩,
   ⟨(some 13), (.fieldAddr 28 (.tmp 1) 2), none⟩,
   ⟨(some 14), (.load 3 (.tmp 13)), none⟩,
   ⟨(some 15), (.binOp .neq 3 (.tmp 12) (.tmp 14) 3), none⟩,
   ⟨(some 16), (.move (.tmp 15)), none⟩,
   ⟨(some 17), (.fieldAddr 28 (.tmp 1) 1), (some (16, true))⟩,
   ⟨(some 18), (.load 22 (.tmp 17)), (some (16, true))⟩,
   ⟨(some 19), (.move (.tmp 4)), (some (16, true))⟩,
   ⟨(some 20), (.call (.mk (.value (.func 46)) #[(.tmp 18), (.tmp 19)] #[22, 3])), (some (16, true))⟩,
   ⟨(some 21), (.unOp .not 4 (.tmp 20)), (some (16, true))⟩,
   ⟨(some 22), (.pick (.tmp 16) (.tmp 21) (.const (.bool false))), none⟩,
   ⟨(some 23), (.move (.tmp 22)), none⟩,
   ⟨(some 24), (.fieldAddr 28 (.tmp 1) 3), (some (23, true))⟩,
   ⟨(some 25), (.load 22 (.tmp 24)), (some (23, true))⟩,
   ⟨(some 26), (.move (.tmp 4)), (some (23, true))⟩,
   ⟨(some 27), (.call (.mk (.value (.func 46)) #[(.tmp 25), (.tmp 26)] #[22, 3])), (some (23, true))⟩,
   ⟨(some 28), (.unOp .not 4 (.tmp 27)), (some (23, true))⟩,
   ⟨(some 29), (.pick (.tmp 23) (.tmp 28) (.const (.bool false))), none⟩])
 (.cond (.tmp 29) (.reg [⟨(some 30), (.move (.tmp 3)), none⟩,
   ⟨(some 31), (.move (.tmp 4)), none⟩,
   ⟨(some 32), (.buildSlice 22 1 #[(0, (.tmp 31))]), none⟩,
   ⟨(some 33), (.call (.mk (.builtin .append) #[(.tmp 30), (.tmp 32)] #[22, 22])), none⟩,
   ⟨(some 3), (.assign (.tmp 33)), none⟩]) .skip)))
 (.reg [⟨(some 10), (.move (.tmp 4)), none⟩,
   ⟨(some 11), (.binOp .add 3 (.tmp 10) (.const (.int .i64 1)) 3), none⟩,
   ⟨(some 4), (.assign (.tmp 11)), none⟩]))))))
 (.seq (.reg [⟨(some 34), (.move (.tmp 3)), none⟩,
   ⟨(some 2), (.assign (.tmp 34)), none⟩])
 .ret))))
theorem x_spec_l21Waiting : Txt Tryd.prog 35 c_spec_l21Waiting [.tmp 2] 1 := ⟨by kernel_rfl, by kernel_rfl, _, _, Tryd.func35, rfl, by kernel_rfl, by kernel_rfl, by kernel_rfl, rfl, by decide⟩
/-- loop.example/g01062/impl.copyPuzzle -/
def c_impl_copyPuzzle : Cd :=
 (.seq (.reg [⟨(some 2), (.alloc 28), none⟩])
 (.seq (.regt [⟨(some 3), (.move (.tmp 0)), none⟩,
   ⟨(some 4), (.nilCheck (.tmp 3)), none⟩,
   ⟨(some 5), (.fieldAddr 28 (.tmp 4) 0), none⟩,
   ⟨(some 6), (.load 3 (.tmp 5)), none⟩,
   ⟨(some 7), (.move (.tmp 0)), none⟩,
   ⟨(some 8), (.nilCheck (.tmp 7)), none⟩,
   ⟨(some 9), (.fieldAddr 28 (.tmp 8) 1), none⟩,
   ⟨(some 10), (.load 22 (.tmp 9)), none⟩,
   ⟨(some 12), (.move (.tmp 0)), none⟩,
   ⟨(some 13), (.nilCheck (.tmp 12)), none⟩,
   ⟨(some 14), (.fieldAddr 28 (.tmp 13) 2), none⟩,
   ⟨(some 15), (.load 3 (.tmp 14)), none⟩,
   ⟨(some 16), (.move (.tmp 0)), none⟩,
   ⟨(some 17), (.nilCheck (.tmp 16)), none⟩,
   ⟨(some 18), (.fieldAddr 28 (.tmp 17) 3), none⟩,
   ⟨(some 19), (.load 22 (.tmp 18)), none⟩,
   ⟨(some 21), (.move (.tmp 0)), none⟩,
   ⟨(some 22), (.nilCheck (.tmp 21)), none⟩,
   ⟨(some 23), (.fieldAddr 28 (.tmp 22) 4), none⟩,
   ⟨(some 24), (.load 4 (.tmp 23)), none⟩] (.one true ⟨(some 11), (.call (.mk (.value (.func 53)) #[(.tmp 10)] #[22])), none⟩
   (.one true ⟨(some 20), (.call (.mk (.value (.func 53)) #[(.tmp 19)] #[22])), none⟩
   (.one false ⟨(some 25), (.build 28 #[(0, (.tmp 6)), (1, (.tmp 11)), (2, (.tmp 15)), (3, (.tmp 20)), (4, (.tmp 24))]), none⟩
   (.one false ⟨none, (.store 28 (.tmp 2) (.tmp 25)), none⟩
   .done)))) [(.tmp 2)])
 .ret))
theorem x_impl_copyPuzzle : Txt Tryd.prog 36 c_impl_copyPuzzle [.cell 2 28] 1 := ⟨by kernel_rfl, by kernel_rfl, _, _, Tryd.func36, rfl, by kernel_rfl, by kernel_rfl, by kernel_rfl, rfl, by decide⟩
/-- loop.example/g01062/impl.isPuzzleStep -/
def c_impl_isPuzzleStep : Cd :=
 (.seq (.reg [⟨(some 1), (.box 41 (.tmp 0)), none⟩,
   ⟨(some 2), (.assign (.const (.bool false))), none⟩])
 (.seq (.seq (.reg [⟨(some 3), (.fieldAddr 41 (.tmp 1) 0), none⟩,
   ⟨(some 4), (.load 3 (.tmp 3)), none⟩])
 (.block 0 (.seq (.seq (.reg [⟨(some 6), (.binOp .eql 3 (.tmp 4) (.const (.int .i64 1)) 3), none⟩,
   ⟨(some 5), (.assign (.tmp 6)), none⟩])
 (.cond (.tmp 5) .skip (.reg [⟨(some 7), (.binOp .eql 3 (.tmp 4) (.const (.int .i64 3)) 3), none⟩,
   ⟨(some 5), (.assign (.tmp 7)), none⟩])))
 (.cond (.tmp 5) (.seq (.reg [⟨(some 8), (.fieldAddr 41 (.tmp 1) 1), none⟩,
   ⟨(some 9), (.load 3 (.tmp 8)), none⟩,
   ⟨(some 10), (.call (.mk (.value (.func 47)) #[(.tmp 9), (.const (.int .i64 1)), (.const (.int .i64 20))] #[3, 3, 3])), none⟩,
   ⟨(some 2), (.assign (.tmp 10)), none⟩])
 .ret) (.seq (.seq (.reg [⟨(some 12), (.binOp .eql 3 (.tmp 4) (.const (.int .i64 2)) 3), none⟩,
   ⟨(some 11), (.assign (.tmp 12)), none⟩])
 (.cond (.tmp 11) .skip (.seq (.reg [⟨(some 13), (.binOp .eql 3 (.tmp 4) (.const (.int .i64 4)) 3), none⟩,
   ⟨(some 11), (.assign (.tmp 13)), none⟩])
 (.cond (.tmp 11) .skip (.seq (.reg [⟨(some 14), (.binOp .eql 3 (.tmp 4) (.const (.int .i64 5)) 3), none⟩,
   ⟨(some 11), (.assign (.tmp 14)), none⟩])
 (.cond (.tmp 11) .skip (.reg [⟨(some 15), (.binOp .eql 3 (.tmp 4) (.const (.int .i64 6)) 3), none⟩,
   ⟨(some 11), (.assign (.tmp 15)), none⟩])))))))
 (.cond (.tmp 11) (.seq (.reg [⟨(some 16), (.fieldAddr 41 (.tmp 1) 1), none⟩,
   ⟨(some 17), (.load 3 (.tmp 16)), none⟩,
   ⟨(some 18), (.binOp .eql 3 (.tmp 17) (.const (.int .i64 0)) 3), none⟩,
   ⟨(some 2), (.assign (.tmp 18)), none⟩])
 .ret) .skip))))))
 (.seq (.reg [⟨(some 2), (.assign (.const (.bool false))), none⟩])
 .ret)))
theorem x_impl_isPuzzleStep : Txt Tryd.prog 37 c_impl_isPuzzleStep [.tmp 2] 1 := ⟨by kernel_rfl, by kernel_rfl, _, _, Tryd.func37, rfl, by kernel_rfl, by kernel_rfl, by kernel_rfl, rfl, by decide⟩
/-- loop.example/g01062/impl.stepPuzzle -/
def c_impl_stepPuzzle : Cd :=
 (.seq (.reg [⟨(some 3), (.box 41 (.tmp 1)), none⟩,
   ⟨(some 4), (.alloc 28), none⟩,
   ⟨(some 5), (.assign (.const (.bool false))), none⟩])
 (.seq (.seq (.regq [⟨(some 11), (.move (.tmp 0)), none⟩,
   ⟨(some 12), (.nilCheck (.tmp 11)), none⟩,
   ⟨(some 13), (.fieldAddr 28 (.tmp 12) 4), none⟩,
   ⟨(some 14), (.load 4 (.tmp 13)), none⟩,
   ⟨(some 15), (.fieldAddr 41 (.tmp 3) 0), none⟩,
   ⟨(some 16), (.load 3 (.tmp 15)), none⟩,
   ⟨(some 17), (.binOp .eql 3 (.tmp 16) (.const (.int .i64 6)) 3), none⟩,
   ⟨(some 18), (.binOp .neq 4 (.tmp 14) (.tmp 17) 4), none⟩])
 (.cond (.tmp 18) (.seq (.reg [⟨(some 19), (.build 28 #[]), none⟩,
   ⟨none, (.store 28 (.tmp 4) (.tmp 19)), none⟩,
   ⟨(some 5), (.assign (.const (.bool false))), none⟩])
 .ret) .skip))
 (.seq (.reg [⟨(some 20), (.move (.tmp 0)), none⟩,
   ⟨(some 21), (.call (.mk (.value (.func 36)) #[(.tmp 20)] #[56])), none⟩,
   ⟨(some 6), (.alloc 28), none⟩,
   ⟨none, (.store 28 (.tmp 6) (.tmp 21)), none⟩])
 (.seq (.reg [⟨(some 22), (.move (.tmp 0)), none⟩,
   ⟨(some 23), (.nilCheck (.tmp 22)), none⟩,
   ⟨(some 24), (.fieldAddr 28 (.tmp 23) 1), none⟩,
   ⟨(some 25), (.load 22 (.tmp 24)), none⟩,
   ⟨(some 26), (.call (.mk (.builtin .len) #[(.tmp 25)] #[22])), none⟩,
   ⟨(some 27), (.binOp .sub 3 (.tmp 26) (.const (.int .i64 1)) 3), none⟩,
   ⟨(some 7), (.assign (.tmp 27)), none⟩])
 (.seq (.reg [⟨(some 8), (.assign (.const (.bool true))), none⟩])
 (.seq (.seq (.reg [⟨(some 28), (.fieldAddr 41 (.tmp 3) 0), none⟩,
   ⟨(some 29), (.load 3 (.tmp 28)), none⟩])
 (.block 0 (.seq (.reg [⟨(some 31), (.binOp .eql 3 (.tmp 29) (.const (.int .i64 1)) 3), none⟩,
   ⟨(some 30), (.assign (.tmp 31)), none⟩])
 (.cond (.tmp 30) (.seq (.regt [⟨(some 32), (.move (.tmp 0)), none⟩,
   ⟨(some 33), (.nilCheck (.tmp 32)), none⟩,
   ⟨(some 34), (.fieldAddr 28 (.tmp 33) 2), none⟩,
   ⟨(some 35), (.load 3 (.tmp 34)), none⟩,
   ⟨(some 36), (.binOp .eql 3 (.tmp 35) (.const (.int .i64 0)) 3), none⟩,
   ⟨(some 37), (.move (.tmp 36)), none⟩,
   ⟨(some 38), (.move (.tmp 0)), (some (37, true))⟩,
   ⟨(some 40), (.fieldAddr 41 (.tmp 3) 1), (some (37, true))⟩,
   ⟨(some 41), (.load 3 (.tmp 40)), (some (37, true))⟩] (.one true ⟨(some 39), (.call (.mk (.value (.func 34)) #[(.tmp 38)] #[56])), (some (37, true))⟩
   (.one false ⟨(some 42), (.call (.mk (.value (.func 50)) #[(.tmp 39), (.tmp 41)] #[22, 3])), (some (37, true))⟩
   (.one false ⟨(some 43), (.pick (.tmp 37) (.tmp 42) (.const (.bool false))), none⟩
   (.one false ⟨(some 8), (.assign (.tmp 43)), none⟩
   .done)))) [])
 (.reg [⟨(some 44), (.fieldAddr 41 (.tmp 3) 1), none⟩,
   ⟨(some 45), (.load 3 (.tmp 44)), none⟩,
   ⟨(some 46), (.fieldAddr 28 (.tmp 6) 2), none⟩,
   ⟨none, (.store 3 (.tmp 46) (.tmp 45)), none⟩])) (.seq (.reg [⟨(some 48), (.binOp .eql 3 (.tmp 29) (.const (.int .i64 2)) 3), none⟩,
   ⟨(some 47), (.assign (.tmp 48)), none⟩])
 (.cond (.tmp 47) (.seq (.reg [⟨(some 49), (.move (.tmp 0)), none⟩,
   ⟨(some 50), (.nilCheck (.tmp 49)), none⟩,
   ⟨(some 51), (.fieldAddr 28 (.tmp 50) 2), none⟩,
   ⟨(some 52), (.load 3 (.tmp 51)), none⟩,
   ⟨(some 53), (.binOp .gtr 3 (.tmp 52) (.const (.int .i64 0)) 3), none⟩,
   ⟨(some 8), (.assign (.tmp 53)), none⟩])
 (.seq (.regt [⟨(some 54), (.fieldAddr 28 (.tmp 6) 1), none⟩,
   ⟨(some 55), (.load 22 (.tmp 54)), none⟩,
   ⟨(some 56), (.move (.tmp 0)), none⟩,
   ⟨(some 57), (.nilCheck (.tmp 56)), none⟩,
   ⟨(some 58), (.fieldAddr 28 (.tmp 57) 2), none⟩,
   ⟨(some 59), (.load 3 (.tmp 58)), none⟩] (.one true ⟨(some 60), (.buildSlice 22 1 #[(0, (.tmp 59))]), none⟩
   (.one false ⟨(some 61), (.call (.mk (.builtin .append) #[(.tmp 55), (.tmp 60)] #[22, 22])), none⟩
   (.one false ⟨(some 62), (.fieldAddr 28 (.tmp 6) 1), none⟩
   (.one false ⟨none, (.store 22 (.tmp 62) (.tmp 61)), none⟩
   .done)))) [])
 (.reg [⟨(some 63), (.fieldAddr 28 (.tmp 6) 2), none⟩,
   ⟨none, (.store 3 (.tmp 63) (.const (.int .i64 0))), none⟩]))) (.seq (.reg [⟨(some 65), (.binOp .eql 3 (.tmp 29) (.const (.int .i64 3)) 3), none⟩,
   ⟨(some 64), (.assign (.tmp 65)), none⟩])
 (.cond (.tmp 64) (.seq (.regq [⟨(some 66), (.move (.tmp 0)), none⟩,
   ⟨(some 67), (.nilCheck (.tmp 66)), none⟩,
   ⟨(some 68), (.fieldAddr 28 (.tmp 67) 2), none⟩,
   ⟨(some 69), (.load 3 (.tmp 68)), none⟩,
   ⟨(some 70), (.binOp .eql 3 (.tmp 69) (.const (.int .i64 0)) 3), none⟩,
   ⟨(some 71), (.move (.tmp 70)), none⟩,
   ⟨(some 72), (.move (.tmp 7)), (some (71, true))⟩,
   ⟨(some 73), (.binOp .geq 3 (.tmp 72) (.const (.int .i64 0)) 3), (some (71, true))⟩,
   ⟨(some 74), (.pick (.tmp 71) (.tmp 73) (.const (.bool false))), none⟩,
   ⟨(some 75), (.move (.tmp 74)), none⟩,
   ⟨(some 76), (.move (.tmp 0)), (some (75, true))⟩,
   ⟨(some 77), (.nilCheck (.tmp 76)), (some (75, true))⟩,
   ⟨(some 78), (.fieldAddr 28 (.tmp 77) 1), (some (75, true))⟩,
   ⟨(some 79), (.load 22 (.tmp 78)), (some (75, true))⟩,
   ⟨(some 80), (.move (.tmp 7)), (some (75, true))⟩,
   ⟨(some 81), (.indexAddr 22 (.tmp 79) (.tmp 80)), (some (75, true))⟩,
   ⟨(some 82), (.load 3 (.tmp 81)), (some (75, true))⟩,
   ⟨(some 83), (.fieldAddr 41 (.tmp 3) 1), (some (75, true))⟩,
   ⟨(some 84), (.load 3 (.tmp 83)), (some (75, true))⟩,
   ⟨(some 85), (.binOp .eql 3 (.tmp 82) (.tmp 84) 3), (some (75, true))⟩,
   ⟨(some 86), (.pick (.tmp 75) (.tmp 85) (.const (.bool false))), none⟩,
   ⟨(some 8), (.assign (.tmp 86)), none⟩])
 (.seq (.reg [⟨(some 87), (.fieldAddr 28 (.tmp 6) 1), none⟩,
   ⟨(some 88), (.load 22 (.tmp 87)), none⟩,
   ⟨(some 89), (.move (.tmp 7)), none⟩,
   ⟨(some 90), (.call (.mk (.builtin .max) #[(.tmp 89), (.const (.int .i64 0))] #[3, 3])), none⟩,
   ⟨(some 91), (.slice 22 (.tmp 88) none (some (.tmp 90)) none), none⟩,
   ⟨(some 92), (.fieldAddr 28 (.tmp 6) 1), none⟩,
   ⟨none, (.store 22 (.tmp 92) (.tmp 91)), none⟩])
 (.reg [⟨(some 93), (.fieldAddr 41 (.tmp 3) 1), none⟩,
   ⟨(some 94), (.load 3 (.tmp 93)), none⟩,
   ⟨(some 95), (.fieldAddr 28 (.tmp 6) 2), none⟩,
   ⟨none, (.store 3 (.tmp 95) (.tmp 94)), none⟩]))) (.seq (.reg [⟨(some 97), (.binOp .eql 3 (.tmp 29) (.const (.int .i64 4)) 3), none⟩,
   ⟨(some 96), (.assign (.tmp 97)), none⟩])
 (.cond (.tmp 96) (.seq (.reg [⟨(some 98), (.move (.tmp 0)), none⟩,
   ⟨(some 99), (.nilCheck (.tmp 98)), none⟩,
   ⟨(some 100), (.fieldAddr 28 (.tmp 99) 2), none⟩,
   ⟨(some 101), (.load 3 (.tmp 100)), none⟩,
   ⟨(some 102), (.binOp .gtr 3 (.tmp 101) (.const (.int .i64 0)) 3), none⟩,
   ⟨(some 8), (.assign (.tmp 102)), none⟩])
 (.seq (.regq [⟨(some 104), (.fieldAddr 28 (.tmp 6) 3), none⟩,
   ⟨(some 105), (.load 22 (.tmp 104)), none⟩,
   ⟨(some 106), (.move (.tmp 0)), none⟩,
   ⟨(some 107), (.nilCheck (.tmp 106)), none⟩,
   ⟨(some 108), (.fieldAddr 28 (.tmp 107) 2), none⟩,
   ⟨(some 109), (.load 3 (.tmp 108)), none⟩,
   ⟨(some 110), (.call (.mk (.value (.func 54)) #[(.tmp 105), (.tmp 109)] #[22, 3])), none⟩,
   ⟨(some 103), (.move (.tmp 110)), none⟩,
   ⟨(some 111), (.extract (.tmp 103) 0), none⟩,
   ⟨(some 112), (.extract (.tmp 103) 1), none⟩,
   ⟨(some 9), (.assign (.tmp 111)), none⟩,
   ⟨(some 10), (.assign (.tmp 112)), none⟩])
 (.seq (.regt [⟨(some 113), (.fieldAddr 28 (.tmp 6) 3), none⟩,
   ⟨(some 114), (.load 22 (.tmp 113)), none⟩,
   ⟨(some 115), (.move (.tmp 9)), none⟩,
   ⟨(some 116), (.move (.tmp 0)), none⟩,
   ⟨(some 117), (.nilCheck (.tmp 116)), none⟩,
   ⟨(some 118), (.fieldAddr 28 (.tmp 117) 2), none⟩,
   ⟨(some 119), (.load 3 (.tmp 118)), none⟩] (.one true ⟨(some 120), (.buildSlice 22 1 #[(0, (.tmp 119))]), none⟩
   (.one false ⟨(some 121), (.call (.mk (.value (.func 55)) #[(.tmp 114), (.tmp 115), (.tmp 120)] #[22, 3, 22])), none⟩
   (.one false ⟨(some 122), (.fieldAddr 28 (.tmp 6) 3), none⟩
   (.one false ⟨none, (.store 22 (.tmp 122) (.tmp 121)), none⟩
   .done)))) [])
 (.reg [⟨(some 123), (.fieldAddr 28 (.tmp 6) 2), none⟩,
   ⟨none, (.store 3 (.tmp 123) (.const (.int .i64 0))), none⟩])))) (.seq (.reg [⟨(some 125), (.binOp .eql 3 (.tmp 29) (.const (.int .i64 5)) 3), none⟩,
   ⟨(some 124), (.assign (.tmp 125)), none⟩])
 (.cond (.tmp 124) (.seq (.reg [⟨(some 126), (.move (.tmp 0)), none⟩,
   ⟨(some 127), (.nilCheck (.tmp 126)), none⟩,
   ⟨(some 128), (.fieldAddr 28 (.tmp 127) 2), none⟩,
   ⟨(some 129), (.load 3 (.tmp 128)), none⟩,
   ⟨(some 130), (.binOp .eql 3 (.tmp 129) (.const (.int .i64 0)) 3), none⟩,
   ⟨(some 131), (.move (.tmp 130)), none⟩,
   ⟨(some 132), (.move (.tmp 0)), (some (131, true))⟩,
   ⟨(some 133), (.call (.mk (.value (.func 34)) #[(.tmp 132)] #[56])), (some (131, true))⟩,
   ⟨(some 134), (.call (.mk (.builtin .len) #[(.tmp 133)] #[22])), (some (131, true))⟩,
   ⟨(some 135), (.binOp .eql 3 (.tmp 134) (.const (.int .i64 0)) 3), (some (131, true))⟩,
   ⟨(some 136), (.pick (.tmp 131) (.tmp 135) (.const (.bool false))), none⟩,
   ⟨(some 8), (.assign (.tmp 136)), none⟩])
 (.reg [⟨(some 137), (.fieldAddr 28 (.tmp 6) 4), none⟩,
   ⟨none, (.store 4 (.tmp 137) (.const (.bool true))), none⟩])) (.seq (.reg [⟨(some 139), (.binOp .eql 3 (.tmp 29) (.const (.int .i64 6)) 3), none⟩,
   ⟨(some 138), (.assign (.tmp 139)), none⟩])
 (.cond (.tmp 138) (.reg [⟨(some 140), (.fieldAddr 28 (.tmp 6) 4), none⟩,
   ⟨none, (.store 4 (.tmp 140) (.const (.bool false))), none⟩]) .skip))))))))))))))
 (.seq (.seq (.reg [⟨(some 141), (.move (.tmp 8)), none⟩,
   ⟨(some 142), (.unOp .not 4 (.tmp 141)), none⟩])
 (.cond (.tmp 142) (.seq (.reg [⟨(some 143), (.build 28 #[]), none⟩,
   ⟨none, (.store 28 (.tmp 4) (.tmp 143)), none⟩,
   ⟨(some 5), (.assign (.const (.bool false))), none⟩])
 .ret) .skip))
 (.seq (.reg [⟨(some 144), (.load 28 (.tmp 6)), none⟩,
   ⟨none, (.store 28 (.tmp 4) (.tmp 144)), none⟩,
   ⟨(some 5), (.assign (.const (.bool true))), none⟩])
 .ret))))))))
theorem x_impl_stepPuzzle : Txt Tryd.prog 38 c_impl_stepPuzzle [.cell 4 28, .tmp 5] 2 := ⟨by kernel_rfl, by kernel_rfl, _, _, Tryd.func38, rfl, by kernel_rfl, by kernel_rfl, by kernel_rfl, rfl, by decide⟩
def c_spec_l1Cur_puzzle_r0 : Cd :=
 (.regt [⟨(some 18), (.load 28 (.tmp 3)), none⟩,
   ⟨(some 19), (.move (.tmp 0)), none⟩,
   ⟨(some 20), (.load 28 (.tmp 3)), none⟩] (.alt true ⟨(some 21), (.call (.mk (.value (.func 57)) #[(.tmp 19), (.tmp 20)] #[62, 28])), none⟩
   (.alt false ⟨(some 22), (.call (.mk (.value (.func 56)) #[(.tmp 18), (.tmp 21)] #[28, 41])), none⟩
   (.now ⟨(some 17), (.move (.tmp 22)), none⟩
   (.now ⟨(some 23), (.extract (.tmp 17) 0), none⟩
   (.now ⟨(some 24), (.extract (.tmp 17) 1), none⟩
   (.one true ⟨(some 5), (.alloc 28), none⟩
   (.one false ⟨none, (.store 28 (.tmp 5) (.tmp 23)), none⟩
   (.one false ⟨(some 6), (.assign (.tmp 24)), none⟩
   .done))))))
   (.one true ⟨(some 5), (.alloc 28), none⟩
   (.one false ⟨(some 22), (.call (.mk (.value (.func 56)) #[(.tmp 18), (.tmp 21)] #[28, 41])), none⟩
   (.one false ⟨(some 17), (.move (.tmp 22)), none⟩
   (.now ⟨(some 23), (.extract (.tmp 17) 0), none⟩
   (.now ⟨(some 24), (.extract (.tmp 17) 1), none⟩
   (.one false ⟨none, (.store 28 (.tmp 5) (.tmp 23)), none⟩
   (.one false ⟨(some 6), (.assign (.tmp 24)), none⟩
   .done))))))))
   (.one true ⟨(some 5), (.alloc 28), none⟩
   (.one true ⟨(some 21), (.call (.mk (.value (.func 57)) #[(.tmp 19), (.tmp 20)] #[62, 28])), none⟩
   (.one false ⟨(some 22), (.call (.mk (.value (.func 56)) #[(.tmp 18), (.tmp 21)] #[28, 41])), none⟩
   (.one false ⟨(some 17), (.move (.tmp 22)), none⟩
   (.now ⟨(some 23), (.extract (.tmp 17) 0), none⟩
   (.now ⟨(some 24), (.extract (.tmp 17) 1), none⟩
   (.one false ⟨none, (.store 28 (.tmp 5) (.tmp 23)), none⟩
   (.one false ⟨(some 6), (.assign (.tmp 24)), none⟩
   .done))))))))) [])
/-- (*loop.example/g01062/spec.l1Cur).puzzle -/
def c_spec_l1Cur_puzzle : Cd :=
 (.seq (.reg [⟨(some 2), (.alloc 28), none⟩])
 (.seq (.reg [⟨(some 7), (.move (.tmp 0)), none⟩,
   ⟨(some 8), (.buildSlice 22 6 #[(0, (.const (.int .i64 1))), (1, (.const (.int .i64 2))), (2, (.const (.int .i64 3))), (3, (.const (.int .i64 4))), (4, (.const (.int .i64 5))), (5, (.const (.int .i64 20)))]), none⟩,
   ⟨(some 9), (.call (.mk (.value (.func 42)) #[(.tmp 7), (.tmp 8)] #[62, 22])), none⟩,
   ⟨(some 10), (.build 28 #[(0, (.tmp 9))]), none⟩,
   ⟨(some 3), (.alloc 28), none⟩,
   ⟨none, (.store 28 (.tmp 3) (.tmp 10)), none⟩])
 (.seq (.seq (.reg [⟨(some 11), (.move (.tmp 0)), none⟩,
   ⟨(some 12), (.call (.mk (.value (.func 41)) #[(.tmp 11), (.const (.int .i64 20))] #[62, 3])), none⟩,
   ⟨(some 4), (.assign (.tmp 12)), none⟩])
 (.block 0 (.loop (.seq (.seq (.reg [⟨(some 13), (.move (.tmp 4)), none⟩,
   ⟨(some 14), (.binOp .gtr 3 (.tmp 13) (.const (.int .i64 0)) 3), none⟩])
 (.cond (.tmp 14) .skip (.exit 0)))
 (.seq (.block 1 (.seq c_spec_l1Cur_puzzle_r0
 (.seq (.reg [⟨(some 25), (.move (.tmp 6)), none⟩])
 (.cond (.tmp 25) (.reg [⟨(some 26), (.load 28 (.tmp 5)), none⟩,
   ⟨none, (.store 28 (.tmp 3) (.tmp 26)), none⟩]) .skip))))
 (.reg [⟨(some 15), (.move (.tmp 4)), none⟩,
   ⟨(some 16), (.binOp .sub 3 (.tmp 15) (.const (.int .i64 1)) 3), none⟩,
   ⟨(some 4), (.assign (.tmp 16)), none⟩]))))))
 (.seq (.seq (.reg [⟨(some 27), (.move (.tmp 0)), none⟩,
   ⟨(some 28), (.call (.mk (.value (.func 41)) #[(.tmp 27), (.const (.int .i64 32))] #[62, 3])), none⟩])
 (.block 2 (.seq (.reg [⟨(some 30), (.binOp .eql 3 (.tmp 28) (.const (.int .i64 0)) 3), none⟩,
   ⟨(some 29), (.assign (.tmp 30)), none⟩])
 (.cond (.tmp 29) (.regt [⟨(some 31), (.fieldAddr 28 (.tmp 3) 1), none⟩,
   ⟨(some 32), (.load 22 (.tmp 31)), none⟩,
   ⟨(some 33), (.move (.tmp 0)), none⟩] (.one true ⟨(some 34), (.buildSlice 22 4 #[(0, (.const (.int .i64 0))), (1, (.const (.int .i64 1))), (2, (.const (.int .i64 2))), (3, (.const (.int .i64 21)))]), none⟩
   (.one true ⟨(some 35), (.call (.mk (.value (.func 42)) #[(.tmp 33), (.tmp 34)] #[62, 22])), none⟩
   (.one true ⟨(some 36), (.buildSlice 22 1 #[(0, (.tmp 35))]), none⟩
   (.one false ⟨(some 37), (.call (.mk (.builtin .append) #[(.tmp 32), (.tmp 36)] #[22, 22])), none⟩
   (.one false ⟨(some 38), (.fieldAddr 28 (.tmp 3) 1), none⟩
   (.one false ⟨none, (.store 22 (.tmp 38) (.tmp 37)), none⟩
   .done)))))) []) (.seq (.reg [⟨(some 40), (.binOp .eql 3 (.tmp 28) (.const (.int .i64 1)) 3), none⟩,
   ⟨(some 39), (.assign (.tmp 40)), none⟩])
 (.cond (.tmp 39) (.reg [⟨(some 41), (.fieldAddr 28 (.tmp 3) 4), none⟩,
   ⟨none, (.store 4 (.tmp 41) (.const (.bool true))), none⟩]) (.seq (.reg [⟨(some 43), (.binOp .eql 3 (.tmp 28) (.const (.int .i64 2)) 3), none⟩,
   ⟨(some 42), (.assign (.tmp 43)), none⟩])
 (.cond (.tmp 42) (.regt [⟨(some 44), (.fieldAddr 28 (.tmp 3) 3), none⟩,
   ⟨(some 45), (.load 22 (.tmp 44)), none⟩,
   ⟨(some 46), (.move (.tmp 0)), none⟩] (.one true ⟨(some 47), (.buildSlice 22 3 #[(0, (.const (.int .i64 1))), (1, (.const (.int .i64 2))), (2, (.const (.int .i64 20)))]), none⟩
   (.one true ⟨(some 48), (.call (.mk (.value (.func 42)) #[(.tmp 46), (.tmp 47)] #[62, 22])), none⟩
   (.one true ⟨(some 49), (.buildSlice 22 1 #[(0, (.tmp 48))]), none⟩
   (.one false ⟨(some 50), (.call (.mk (.builtin .append) #[(.tmp 45), (.tmp 49)] #[22, 22])), none⟩
   (.one false ⟨(some 51), (.fieldAddr 28 (.tmp 3) 3), none⟩
   (.one false ⟨none, (.store 22 (.tmp 51) (.tmp 50)), none⟩
   .done)))))) []) (.seq (.reg [⟨(some 53), (.binOp .eql 3 (.tmp 28) (.const (.int .i64 3)) 3), none⟩,
   ⟨(some 52), (.assign (.tmp 53)), none⟩])
 (.cond (.tmp 52) (.reg [⟨(some 54), (.move (.tmp 0)), none⟩,
   ⟨(some 55), (.buildSlice 22 3 #[(0, (.const (.int .i64 0))), (1, (.const (.int .i64 21))), (2, (.const (.int .i64 1)))]), none⟩,
   ⟨(some 56), (.call (.mk (.value (.func 42)) #[(.tmp 54), (.tmp 55)] #[62, 22])), none⟩,
   ⟨(some 57), (.fieldAddr 28 (.tmp 3) 0), none⟩,
   ⟨none, (.store 3 (.tmp 57) (.tmp 56)), none⟩]) .skip))))))))))
 (.seq (.reg [⟨(some 58), (.load 28 (.tmp 3)), none⟩,
   ⟨none, (.store 28 (.tmp 2) (.tmp 58)), none⟩])
 .ret)))))
theorem x_spec_l1Cur_puzzle : Txt Tryd.prog 39 c_spec_l1Cur_puzzle [.cell 2 28] 1 := ⟨by kernel_rfl, by kernel_rfl, _, _, Tryd.func39, rfl, by kernel_rfl, by kernel_rfl, by kernel_rfl, rfl, by decide⟩
/-- (*loop.example/g01062/spec.l1Cur).one -/
def c_spec_l1Cur_one : Cd :=
 (.seq (.reg [⟨(some 4), (.assign (.const (.bool false))), none⟩])
 (.seq (.reg [⟨(some 5), (.move (.tmp 0)), none⟩,
   ⟨(some 6), (.move (.tmp 1)), none⟩,
   ⟨(some 7), (.call (.mk (.value (.func 41)) #[(.tmp 5), (.tmp 6)] #[62, 3])), none⟩,
   ⟨(some 8), (.binOp .eql 3 (.tmp 7) (.const (.int .i64 0)) 3), none⟩,
   ⟨(some 4), (.assign (.tmp 8)), none⟩])
 .ret))
theorem x_spec_l1Cur_one : Txt Tryd.prog 40 c_spec_l1Cur_one [.tmp 4] 2 := ⟨by kernel_rfl, by kernel_rfl, _, _, Tryd.func40, rfl, by kernel_rfl, by kernel_rfl, by kernel_rfl, rfl, by decide⟩
/-- (*loop.example/g01062/spec.l1Cur).pick -/
def c_spec_l1Cur_pick : Cd :=
 (.seq (.reg [⟨(some 4), (.assign (.const (.int .i64 0))), none⟩])
 (.seq (.seq (.reg [⟨(some 6), (.move (.tmp 1)), none⟩,
   ⟨(some 7), (.binOp .leq 3 (.tmp 6) (.const (.int .i64 1)) 3), none⟩])
 (.cond (.tmp 7) (.seq (.reg [⟨(some 4), (.assign (.const (.int .i64 0))), none⟩])
 .ret) .skip))
 (.seq (.reg [⟨(some 8), (.move (.tmp 0)), none⟩,
   ⟨(some 9), (.call (.mk (.value (.func 58)) #[(.tmp 8)] #[62])), none⟩,
   ⟨(some 5), (.assign (.tmp 9)), none⟩])
 (.seq (.seq (.reg [⟨(some 10), (.move (.tmp 1)), none⟩,
   ⟨(some 11), (.binOp .gtr 3 (.tmp 10) (.const (.int .i64 200)) 3), none⟩])
 (.cond (.tmp 11) (.reg [⟨(some 12), (.move (.tmp 5)), none⟩,
   ⟨(some 13), (.binOp .mul 3 (.tmp 12) (.const (.int .i64 256)) 3), none⟩,
   ⟨(some 14), (.move (.tmp 0)), none⟩,
   ⟨(some 15), (.call (.mk (.value (.func 58)) #[(.tmp 14)] #[62])), none⟩,
   ⟨(some 16), (.binOp .add 3 (.tmp 13) (.tmp 15) 3), none⟩,
   ⟨(some 5), (.assign (.tmp 16)), none⟩]) .skip))
 (.seq (.reg [⟨(some 17), (.move (.tmp 5)), none⟩,
   ⟨(some 18), (.move (.tmp 1)), none⟩,
   ⟨(some 19), (.binOp .rem 3 (.tmp 17) (.tmp 18) 3), none⟩,
   ⟨(some 4), (.assign (.tmp 19)), none⟩])
 .ret)))))
theorem x_spec_l1Cur_pick : Txt Tryd.prog 41 c_spec_l1Cur_pick [.tmp 4] 2 := ⟨by kernel_rfl, by kernel_rfl, _, _, Tryd.func41, rfl, by kernel_rfl, by kernel_rfl, by kernel_rfl, rfl, by decide⟩
/-- (*loop.example/g01062/spec.l1Cur).among -/
def c_spec_l1Cur_among : Cd :=
 (.seq (.reg [⟨(some 4), (.assign (.const (.int .i64 0))), none⟩])
 (.seq (.reg [⟨(some 5), (.move (.tmp 1)), none⟩,
   ⟨(some 6), (.move (.tmp 0)), none⟩,
   ⟨(some 7), (.move (.tmp 1)), none⟩,
   ⟨(some 8), (.call (.mk (.builtin .len) #[(.tmp 7)] #[22])), none⟩,
   ⟨(some 9), (.call (.mk (.value (.func 41)) #[(.tmp 6), (.tmp 8)] #[62, 3])), none⟩,
   ⟨(some 10), (.indexAddr 22 (.tmp 5) (.tmp 9)), none⟩,
   ⟨(some 11), (.load 3 (.tmp 10)), none⟩,
   ⟨(some 4), (.assign (.tmp 11)), none⟩])
 .ret))
theorem x_spec_l1Cur_among : Txt Tryd.prog 42 c_spec_l1Cur_among [.tmp 4] 2 := ⟨by kernel_rfl, by kernel_rfl, _, _, Tryd.func42, rfl, by kernel_rfl, by kernel_rfl, by kernel_rfl, rfl, by decide⟩
/-- slices.Index[[]int,int] -/
def c_slices_Index_int : Cd :=
 (.seq (.reg [⟨(some 4), (.assign (.const (.int .i64 0))), none⟩])
 (.seq (.seq (.reg [⟨(some 6), (.move (.tmp 0)), none⟩,
   ⟨(some 7), (.call (.mk (.builtin .len) #[(.tmp 6)] #[22])), none⟩,
   ⟨(some 8), (.move (.const (.int .i64 0))), none⟩])
 (.block 0 (.loop (.seq (.reg [⟨(some 9), (.binOp .lss 3 (.tmp 8) (.tmp 7) 3), none⟩])
 (.seq (.cond (.tmp 9) .skip (.exit 0))
 (.seq (.block 1 (.seq (.reg [⟨(some 10), (.move (.tmp 8)), none⟩,
   ⟨(some 5), (.assign (.tmp 10)), none⟩])
 (.seq (.reg [⟨(some 11), (.move (.tmp 1)), none⟩,
   ⟨(some 12), (.move (.tmp 0)), none⟩,
   ⟨(some 13), (.move (.tmp 5)), none⟩,
   ⟨(some 14), (.indexAddr 22 (.tmp 12) (.tmp 13)), none⟩,
   ⟨(some 15), (.load 3 (.tmp 14)), none⟩,
   ⟨(some 16), (.binOp .eql 3 (.tmp 11) (.tmp 15) 3), none⟩])
 (.cond (.tmp 16) (.seq (.reg [⟨(some 17), (.move (.tmp 5)), none⟩,
   ⟨(some 4), (.assign (.tmp 17)), none⟩])
 .ret) .skip))))
 (.reg [⟨(some 18), (.binOp .add 3 (.tmp 8) (.const (.int .i64 1)) 3), none⟩,
   ⟨(some 8), (.move (.tmp 18)), none⟩])))))))
 (.seq (.reg [⟨(some 4), (.assign (.const (.int .i64 (-1)))), none⟩])
 .ret)))
theorem x_slices_Index_int : Txt Tryd.prog 43 c_slices_Index_int [.tmp 4] 2 := ⟨by kernel_rfl, by kernel_rfl, _, _, Tryd.func43, rfl, by kernel_rfl, by kernel_rfl, by kernel_rfl, rfl, by decide⟩
/-- loop.example/g01062/spec.l1In -/
def c_spec_l1In : Cd :=
 (.seq (.reg [⟨(some 6), (.assign (.const (.bool false))), none⟩])
 (.seq (.reg [⟨(some 7), (.move (.tmp 0)), none⟩,
   ⟨(some 8), (.move (.tmp 1)), none⟩,
   ⟨(some 9), (.binOp .geq 3 (.tmp 7) (.tmp 8) 3), none⟩,
   ⟨(some 10), (.move (.tmp 9)), none⟩,
   ⟨(some 11), (.move (.tmp 0)), (some (10, true))⟩,
   ⟨(some 12), (.move (.tmp 2)), (some (10, true))⟩,
   ⟨(some 13), (.binOp .leq 3 (.tmp 11) (.tmp 12) 3), (some (10, true))⟩,
   ⟨(some 14), (.pick (.tmp 10) (.tmp 13) (.const (.bool false))), none⟩,
   ⟨(some 6), (.assign (.tmp 14)), none⟩])
 .ret))
theorem x_spec_l1In : Txt Tryd.prog 44 c_spec_l1In [.tmp 6] 3 := ⟨by kernel_rfl, by kernel_rfl, _, _, Tryd.func44, rfl, by kernel_rfl, by kernel_rfl, by kernel_rfl, rfl, by decide⟩
/-- loop.example/g01062/spec.l1Rising -/
def c_spec_l1Rising : Cd :=
 (.seq (.reg [⟨(some 6), (.assign (.const (.bool false))), none⟩])
 (.seq (.seq (.reg [⟨(some 7), (.assign (.const (.int .i64 0))), none⟩])
 (.block 0 (.loop (.seq (.seq (.reg [⟨(some 8), (.move (.tmp 7)), none⟩,
   ⟨(some 9), (.move (.tmp 0)), none⟩,
   ⟨(some 10), (.call (.mk (.builtin .len) #[(.tmp 9)] #[22])), none⟩,
   ⟨(some 11), (.binOp .lss 3 (.tmp 8) (.tmp 10) 3), none⟩])
 (.cond (.tmp 11) .skip (.exit 0)))
 (.seq (.block 1 (.seq (.regq [⟨(some 14), (.move (.tmp 0)), none⟩,
   ⟨(some 15), (.move (.tmp 7)), none⟩,
   ⟨(some 16), (.indexAddr 22 (.tmp 14) (.tmp 15)), none⟩,
   ⟨(some 17), (.load 3 (.tmp 16)), none⟩,
   ⟨(some 18), (.move (.tmp 1)), none⟩,
   ⟨(some 19), (.move (.tmp 2)), none⟩,
   ⟨(some 20), (.call (.mk (.value (.func 44)) #[(.tmp 17), (.tmp 18), (.tmp 19)] #[3, 3, 3])), none⟩,
   ⟨(some 21), (.unOp .not 4 (.tmp 20)), none⟩,
   ⟨(some 22), (.move (.tmp 21)), none⟩,
   ⟨(some 23), (.move (.tmp 7)), (some (22, false))⟩,
   ⟨(some 24), (.binOp .gtr 3 (.tmp 23) (.const (.int .i64 0)) 3), (some (22, false))⟩,
   ⟨(some 25), (.move (.tmp 24)), (some (22, false))⟩,
   ⟨(some 26), (.move (.tmp 0)), (some (25, true))⟩,
   ⟨(some 27), (.move (.tmp 7)), (some (25, true))⟩,
   ⟨(some 28), (.binOp .sub 3 (.tmp 27) (.const (.int .i64 1)) 3), (some (25, true))⟩,
   ⟨(some 29), (.indexAddr 22 (.tmp 26) (.tmp 28)), (some (25, true))⟩,
   ⟨(some 30), (.load 3 (.tmp 29)), (some (25, true))⟩,
   ⟨(some 31), (.move (.tmp 0)), (some (25, true))⟩,
   ⟨(some 32), (.move (.tmp 7)), (some (25, true))⟩,
   ⟨(some 33), (.indexAddr 22 (.tmp 31) (.tmp 32)), (some (25, true))⟩,
   ⟨(some 34), (.load 3 (.tmp 33)), (some (25, true))⟩,
   ⟨(some 35), (.binOp .geq 3 (.tmp 30) (.tmp 34) 3), (some (25, true))⟩,
   ⟨(some 36), (.pick (.tmp 25) (.tmp 35) (.const (.bool false))), (some (22, false))⟩,
   ⟨(some 37), (.pick (.tmp 22) (.const (.bool true)) (.tmp 36)), none⟩])
 (.cond (.tmp 37) (.seq (.reg [⟨(some 6), (.assign (.const (.bool false))), none⟩])
 .ret) .skip)))
 (.reg [⟨(some 12), (.move (.tmp 7)), none⟩,
   ⟨(some 13), (.binOp .add 3 (.tmp 12) (.const (.int .i64 1)) 3), none⟩,
   ⟨(some 7), (.assign (.tmp 13)), none⟩]))))))
 (.seq (.reg [⟨(some 6), (.assign (.const (.bool true))), none⟩])
 .ret)))
theorem x_spec_l1Rising : Txt Tryd.prog 45 c_spec_l1Rising [.tmp 6] 3 := ⟨by kernel_rfl, by kernel_rfl, _, _, Tryd.func45, rfl, by kernel_rfl, by kernel_rfl, by kernel_rfl, rfl, by decide⟩
/-- loop.example/g01062/spec.l1Has -/
def c_spec_l1Has : Cd :=
 (.seq (.reg [⟨(some 4), (.assign (.const (.bool false))), none⟩])
 (.seq (.seq (.reg [⟨(some 5), (.assign (.const (.int .i64 0))), none⟩])
 (.block 0 (.loop (.seq (.seq (.reg [⟨(some 6), (.move (.tmp 5)), none⟩,
   ⟨(some 7), (.move (.tmp 0)), none⟩,
   ⟨(some 8), (.call (.mk (.builtin .len) #[(.tmp 7)] #[22])), none⟩,
   ⟨(some 9), (.binOp .lss 3 (.tmp 6) (.tmp 8) 3), none⟩])
 (.cond (.tmp 9) .skip (.exit 0)))
 (.seq (.block 1 (.seq (.reg [⟨(some 12), (.move (.tmp 0)), none⟩,
   ⟨(some 13), (.move (.tmp 5)), none⟩,
   ⟨(some 14), (.indexAddr 22 (.tmp 12) (.tmp 13)), none⟩,
   ⟨(some 15), (.load 3 (.tmp 14)), none⟩,
   ⟨(some 16), (.move (.tmp 1)), none⟩,
   ⟨(some 17), (.binOp .eql 3 (.tmp 15) (.tmp 16) 3), none⟩])
 (.cond (.tmp 17) (.seq (.reg [⟨(some 4), (.assign (.const (.bool true))), none⟩])
 .ret) .skip)))
 (.reg [⟨(some 10), (.move (.tmp 5)), none⟩,
   ⟨(some 11), (.binOp .add 3 (.tmp 10) (.const (.int .i64 1)) 3), none⟩,
   ⟨(some 5), (.assign (.tmp 11)), none⟩]))))))
 (.seq (.reg [⟨(some 4), (.assign (.const (.bool false))), none⟩])
 .ret)))
theorem x_spec_l1Has : Txt Tryd.prog 46 c_spec_l1Has [.tmp 4] 2 := ⟨by kernel_rfl, by kernel_rfl, _, _, Tryd.func46, rfl, by kernel_rfl, by kernel_rfl, by kernel_rfl, rfl, by decide⟩
/-- loop.example/g01062/impl.inRange -/
def c_impl_inRange : Cd :=
 (.seq (.reg [⟨(some 6), (.assign (.const (.bool false))), none⟩])
 (.seq (.reg [⟨(some 7), (.move (.tmp 0)), none⟩,
   ⟨(some 8), (.move (.tmp 1)), none⟩,
   ⟨(some 9), (.binOp .geq 3 (.tmp 7) (.tmp 8) 3), none⟩,
   ⟨(some 10), (.move (.tmp 9)), none⟩,
   ⟨(some 11), (.move (.tmp 0)), (some (10, true))⟩,
   ⟨(some 12), (.move (.tmp 2)), (some (10, true))⟩,
   ⟨(some 13), (.binOp .leq 3 (.tmp 11) (.tmp 12) 3), (some (10, true))⟩,
   ⟨(some 14), (.pick (.tmp 10) (.tmp 13) (.const (.bool false))), none⟩,
   ⟨(some 6), (.assign (.tmp 14)), none⟩])
 .ret))
theorem x_impl_inRange : Txt Tryd.prog 47 c_impl_inRange [.tmp 6] 3 := ⟨by kernel_rfl, by kernel_rfl, _, _, Tryd.func47, rfl, by kernel_rfl, by kernel_rfl, by kernel_rfl, rfl, by decide⟩
/-- loop.example/g01062/impl.ascending -/
def c_impl_ascending : Cd :=
 (.seq (.reg [⟨(some 2), (.assign (.const (.bool false))), none⟩])
 (.seq (.seq (.reg [⟨(some 3), (.assign (.const (.int .i64 1))), none⟩])
 (.block 0 (.loop (.seq (.seq (.reg [⟨(some 4), (.move (.tmp 3)), none⟩,
   ⟨(some 5), (.move (.tmp 0)), none⟩,
   ⟨(some 6), (.call (.mk (.builtin .len) #[(.tmp 5)] #[22])), none⟩,
   ⟨(some 7), (.binOp .lss 3 (.tmp 4) (.tmp 6) 3), none⟩])
 (.cond (.tmp 7) .skip (.exit 0)))
 (.seq (.block 1 (.seq (.regq [⟨(some 10), (.move (.tmp 0)), none⟩,
   ⟨(some 11), (.move (.tmp 3)), none⟩,
   ⟨(some 12), (.binOp .sub 3 (.tmp 11) (.const (.int .i64 1)) 3), none⟩,
   ⟨(some 13), (.indexAddr 22 (.tmp 10) (.tmp 12)), none⟩,
   ⟨(some 14), (.load 3 (.tmp 13)), none⟩,
   ⟨(some 15), (.move (.tmp 0)), none⟩,
   ⟨(some 16), (.move (.tmp 3)), none⟩,
   ⟨(some 17), (.indexAddr 22 (.tmp 15) (.tmp 16)), none⟩,
   ⟨(some 18), (.load 3 (.tmp 17)), none⟩,
   ⟨(some 19), (.binOp .geq 3 (.tmp 14) (.tmp 18) 3), none⟩])
 (.cond (.tmp 19) (.seq (.reg [⟨(some 2), (.assign (.const (.bool false))), none⟩])
 .ret) .skip)))
 (.reg [⟨(some 8), (.move (.tmp 3)), none⟩,
   ⟨(some 9), (.binOp .add 3 (.tmp 8) (.const (.int .i64 1)) 3), none⟩,
   ⟨(some 3), (.assign (.tmp 9)), none⟩]))))))
 (.seq (.reg [⟨(some 2), (.assign (.const (.bool true))), none⟩])
 .ret)))
theorem x_impl_ascending : Txt Tryd.prog 48 c_impl_ascending [.tmp 2] 1 := ⟨by kernel_rfl, by kernel_rfl, _, _, Tryd.func48, rfl, by kernel_rfl, by kernel_rfl, by kernel_rfl, rfl, by decide⟩
/-- slices.Concat[[]int,int] -/
def c_slices_Concat_int : Cd :=
 (.seq (.reg [⟨(some 2), (.assign (.const (.slice none 0 0))), none⟩])
 (.seq (.reg [⟨(some 3), (.assign (.const (.int .i64 0))), none⟩])
 (.seq (.seq (.reg [⟨(some 9), (.move (.tmp 0)), none⟩,
   ⟨(some 10), (.call (.mk (.builtin .len) #[(.tmp 9)] #[80])), none⟩,
   ⟨(some 11), (.move (.const (.int .i64 0))), none⟩])
 (.block 0 (.loop (.seq (.reg [⟨(some 12), (.binOp .lss 3 (.tmp 11) (.tmp 10) 3), none⟩])
 (.seq (.cond (.tmp 12) .skip (.exit 0))
 (.seq (.block 1 (.seq (.reg [⟨(some 13), (.indexAddr 80 (.tmp 9) (.tmp 11)), none⟩,
   ⟨(some 14), (.load 22 (.tmp 13)), none⟩,
   ⟨(some 5), (.assign (.tmp 14)), none⟩])
 (.seq (.reg [⟨(some 15), (.move (.tmp 3)), none⟩,
   ⟨(some 16), (.move (.tmp 5)), none⟩,
   ⟨(some 17), (.call (.mk (.builtin .len) #[(.tmp 16)] #[22])), none⟩,
   ⟨(some 18), (.binOp .add 3 (.tmp 15) (.tmp 17) 3), none⟩,
   ⟨(some 3), (.assign (.tmp 18)), none⟩])
 (.seq (.reg [⟨(some 19), (.move (.tmp 3)), none⟩,
   ⟨(some 20), (.binOp .lss 3 (.tmp 19) (.const (.int .i64 0)) 3), none⟩])
 (.cond (.tmp 20) (.reg [⟨(some 21), (.makeInterface 9 (.const (.string (ByteArray.mk #[108, 101, 110, 32, 111, 117, 116, 32, 111, 102, 32, 114, 97, 110, 103, 101])))), none⟩,
   ⟨none, (.panic (.tmp 21)), none⟩]) .skip)))))
 (.reg [⟨(some 22), (.binOp .add 3 (.tmp 11) (.const (.int .i64 1)) 3), none⟩,
   ⟨(some 11), (.move (.tmp 22)), none⟩])))))))
 (.seq (.reg [⟨(some 23), (.move (.tmp 3)), none⟩,
   ⟨(some 24), (.call (.mk (.value (.func 59)) #[(.const (.slice none 0 0)), (.tmp 23)] #[22, 3])), none⟩,
   ⟨(some 6), (.assign (.tmp 24)), none⟩])
 (.seq (.seq (.reg [⟨(some 25), (.move (.tmp 0)), none⟩,
   ⟨(some 26), (.call (.mk (.builtin .len) #[(.tmp 25)] #[80])), none⟩,
   ⟨(some 27), (.move (.const (.int .i64 0))), none⟩])
 (.block 2 (.loop (.seq (.reg [⟨(some 28), (.binOp .lss 3 (.tmp 27) (.tmp 26) 3), none⟩])
 (.seq (.cond (.tmp 28) .skip (.exit 2))
 (.seq (.block 3 (.seq (.reg [⟨(some 29), (.indexAddr 80 (.tmp 25) (.tmp 27)), none⟩,
   ⟨(some 30), (.load 22 (.tmp 29)), none⟩,
   ⟨(some 8), (.assign (.tmp 30)), none⟩])
 (.reg [⟨(some 31), (.move (.tmp 6)), none⟩,
   ⟨(some 32), (.move (.tmp 8)), none⟩,
   ⟨(some 33), (.call (.mk (.builtin .append) #[(.tmp 31), (.tmp 32)] #[22, 22])), none⟩,
   ⟨(some 6), (.assign (.tmp 33)), none⟩])))
 (.reg [⟨(some 34), (.binOp .add 3 (.tmp 27) (.const (.int .i64 1)) 3), none⟩,
   ⟨(some 27), (.move (.tmp 34)), none⟩])))))))
 (.seq (.reg [⟨(some 35), (.move (.tmp 6)), none⟩,
   ⟨(some 2), (.assign (.tmp 35)), none⟩])
 .ret))))))
theorem x_slices_Concat_int : Txt Tryd.prog 49 c_slices_Concat_int [.tmp 2] 1 := ⟨by kernel_rfl, by kernel_rfl, _, _, Tryd.func49, rfl, by kernel_rfl, by kernel_rfl, by kernel_rfl, rfl, by decide⟩
/-- slices.Contains[[]int,int] -/
def c_slices_Contains_int : Cd :=
 (.seq (.reg [⟨(some 4), (.assign (.const (.bool false))), none⟩])
 (.seq (.reg [⟨(some 5), (.move (.tmp 0)), none⟩,
   ⟨(some 6), (.move (.tmp 1)), none⟩,
   ⟨(some 7), (.call (.mk (.value (.func 43)) #[(.tmp 5), (.tmp 6)] #[22, 3])), none⟩,
   ⟨(some 8), (.binOp .geq 3 (.tmp 7) (.const (.int .i64 0)) 3), none⟩,
   ⟨(some 4), (.assign (.tmp 8)), none⟩])
 .ret))
theorem x_slices_Contains_int : Txt Tryd.prog 50 c_slices_Contains_int [.tmp 4] 2 := ⟨by kernel_rfl, by kernel_rfl, _, _, Tryd.func50, rfl, by kernel_rfl, by kernel_rfl, by kernel_rfl, rfl, by decide⟩
/-- loop.example/g01062/impl.joinInts -/
def c_impl_joinInts : Cd :=
 (.seq (.reg [⟨(some 4), (.assign (.const (.string (ByteArray.mk #[])))), none⟩])
 (.seq (.reg [⟨(some 5), (.assign (.const (.slice none 0 0))), none⟩])
 (.seq (.seq (.reg [⟨(some 8), (.move (.tmp 0)), none⟩,
   ⟨(some 9), (.call (.mk (.builtin .len) #[(.tmp 8)] #[22])), none⟩,
   ⟨(some 10), (.move (.const (.int .i64 0))), none⟩])
 (.block 0 (.loop (.seq (.reg [⟨(some 11), (.binOp .lss 3 (.tmp 10) (.tmp 9) 3), none⟩])
 (.seq (.cond (.tmp 11) .skip (.exit 0))
 (.seq (.block 1 (.seq (.reg [⟨(some 12), (.indexAddr 22 (.tmp 8) (.tmp 10)), none⟩,
   ⟨(some 13), (.load 3 (.tmp 12)), none⟩,
   ⟨(some 7), (.assign (.tmp 13)), none⟩])
 (.reg [⟨(some 14), (.move (.tmp 5)), none⟩,
   ⟨(some 15), (.move (.tmp 7)), none⟩,
   ⟨(some 16), (.call (.mk (.value (.func 30)) #[(.tmp 15)] #[3])), none⟩,
   ⟨(some 17), (.buildSlice 83 1 #[(0, (.tmp 16))]), none⟩,
   ⟨(some 18), (.call (.mk (.builtin .append) #[(.tmp 14), (.tmp 17)] #[83, 83])), none⟩,
   ⟨(some 5), (.assign (.tmp 18)), none⟩])))
 (.reg [⟨(some 19), (.binOp .add 3 (.tmp 10) (.const (.int .i64 1)) 3), none⟩,
   ⟨(some 10), (.move (.tmp 19)), none⟩])))))))
 (.seq (.reg [⟨(some 20), (.move (.tmp 5)), none⟩,
   ⟨(some 21), (.move (.tmp 1)), none⟩,
   ⟨(some 22), (.call (.mk (.value (.func 61)) #[(.tmp 20), (.tmp 21)] #[83, 9])), none⟩,
   ⟨(some 4), (.assign (.tmp 22)), none⟩])
 .ret))))
theorem x_impl_joinInts : Txt Tryd.prog 52 c_impl_joinInts [.tmp 4] 2 := ⟨by kernel_rfl, by kernel_rfl, _, _, Tryd.func52, rfl, by kernel_rfl, by kernel_rfl, by kernel_rfl, rfl, by decide⟩
/-- slices.Clone[[]int,int] -/
def c_slices_Clone_int : Cd :=
 (.seq (.reg [⟨(some 2), (.assign (.const (.slice none 0 0))), none⟩])
 (.seq (.seq (.reg [⟨(some 3), (.move (.tmp 0)), none⟩,
   ⟨(some 4), (.binOp .eql 22 (.tmp 3) (.const (.slice none 0 0)) 22), none⟩])
 (.cond (.tmp 4) (.seq (.reg [⟨(some 2), (.assign (.const (.slice none 0 0))), none⟩])
 .ret) .skip))
 (.seq (.reg [⟨(some 5), (.buildSlice 22 0 #[]), none⟩,
   ⟨(some 6), (.move (.tmp 0)), none⟩,
   ⟨(some 7), (.call (.mk (.builtin .append) #[(.tmp 5), (.tmp 6)] #[22, 22])), none⟩,
   ⟨(some 2), (.assign (.tmp 7)), none⟩])
 .ret)))
theorem x_slices_Clone_int : Txt Tryd.prog 53 c_slices_Clone_int [.tmp 2] 1 := ⟨by kernel_rfl, by kernel_rfl, _, _, Tryd.func53, rfl, by kernel_rfl, by kernel_rfl, by kernel_rfl, rfl, by decide⟩
/-- slices.BinarySearch[[]int,int] -/
def c_slices_BinarySearch_int : Cd :=
 (.seq (.reg [⟨(some 4), (.assign (.const (.int .i64 0))), none⟩,
   ⟨(some 5), (.assign (.const (.bool false))), none⟩])
 (.seq (.reg [⟨(some 10), (.move (.tmp 0)), none⟩,
   ⟨(some 11), (.call (.mk (.builtin .len) #[(.tmp 10)] #[22])), none⟩,
   ⟨(some 6), (.assign (.tmp 11)), none⟩])
 (.seq (.reg [⟨(some 12), (.move (.tmp 6)), none⟩,
   ⟨(some 7), (.assign (.const (.int .i64 0))), none⟩,
   ⟨(some 8), (.assign (.tmp 12)), none⟩])
 (.seq (.block 0 (.loop (.seq (.seq (.reg [⟨(some 13), (.move (.tmp 7)), none⟩,
   ⟨(some 14), (.move (.tmp 8)), none⟩,
   ⟨(some 15), (.binOp .lss 3 (.tmp 13) (.tmp 14) 3), none⟩])
 (.cond (.tmp 15) .skip (.exit 0)))
 (.block 1 (.seq (.reg [⟨(some 16), (.move (.tmp 7)), none⟩,
   ⟨(some 17), (.move (.tmp 8)), none⟩,
   ⟨(some 18), (.binOp .add 3 (.tmp 16) (.tmp 17) 3), none⟩,
   ⟨(some 19), (.convert 3 85 (.tmp 18)), none⟩,
   ⟨(some 20), (.binOp .shr 85 (.tmp 19) (.const (.int .u64 1)) 85), none⟩,
   ⟨(some 21), (.convert 85 3 (.tmp 20)), none⟩,
   ⟨(some 9), (.assign (.tmp 21)), none⟩])
 (.seq (.reg [⟨(some 22), (.move (.tmp 0)), none⟩,
   ⟨(some 23), (.move (.tmp 9)), none⟩,
   ⟨(some 24), (.indexAddr 22 (.tmp 22) (.tmp 23)), none⟩,
   ⟨(some 25), (.load 3 (.tmp 24)), none⟩,
   ⟨(some 26), (.move (.tmp 1)), none⟩,
   ⟨(some 27), (.call (.mk (.value (.func 62)) #[(.tmp 25), (.tmp 26)] #[3, 3])), none⟩])
 (.cond (.tmp 27) (.reg [⟨(some 28), (.move (.tmp 9)), none⟩,
   ⟨(some 29), (.binOp .add 3 (.tmp 28) (.const (.int .i64 1)) 3), none⟩,
   ⟨(some 7), (.assign (.tmp 29)), none⟩]) (.reg [⟨(some 30), (.move (.tmp 9)), none⟩,
   ⟨(some 8), (.assign (.tmp 30)), none⟩]))))))))
 (.seq (.reg [⟨(some 31), (.move (.tmp 7)), none⟩,
   ⟨(some 32), (.move (.tmp 7)), none⟩,
   ⟨(some 33), (.move (.tmp 6)), none⟩,
   ⟨(some 34), (.binOp .lss 3 (.tmp 32) (.tmp 33) 3), none⟩,
   ⟨(some 35), (.move (.tmp 34)), none⟩,
   ⟨(some 36), (.move (.tmp 0)), (some (35, true))⟩,
   ⟨(some 37), (.move (.tmp 7)), (some (35, true))⟩,
   ⟨(some 38), (.indexAddr 22 (.tmp 36) (.tmp 37)), (some (35, true))⟩,
   ⟨(some 39), (.load 3 (.tmp 38)), (some (35, true))⟩,
   ⟨(some 40), (.move (.tmp 1)), (some (35, true))⟩,
   ⟨(some 41), (.binOp .eql 3 (.tmp 39) (.tmp 40) 3), (some (35, true))⟩,
   ⟨(some 42), (.move (.tmp 41)), (some (35, true))⟩,
   ⟨(some 43), (.move (.tmp 0)), (some (42, false))⟩,
   ⟨(some 44), (.move (.tmp 7)), (some (42, false))⟩,
   ⟨(some 45), (.indexAddr 22 (.tmp 43) (.tmp 44)), (some (42, false))⟩,
   ⟨(some 46), (.load 3 (.tmp 45)), (some (42, false))⟩,
   ⟨(some 47), (.call (.mk (.value (.func 63)) #[(.tmp 46)] #[3])), (some (42, false))⟩,
   ⟨(some 48), (.move (.tmp 47)), (some (42, false))⟩,
   ⟨(some 49), (.move (.tmp 1)), (some (48, true))⟩,
   ⟨(some 50), (.call (.mk (.value (.func 63)) #[(.tmp 49)] #[3])), (some (48, true))⟩,
   ⟨(some 51), (.pick (.tmp 48) (.tmp 50) (.const (.bool false))), (some (42, false))⟩,
   ⟨(some 52), (.pick (.tmp 42) (.const (.bool true)) (.tmp 51)), (some (35, true))⟩,
   ⟨(some 53), (.pick (.tmp 35) (.tmp 52) (.const (.bool false))), none⟩,
   ⟨(some 4), (.assign (.tmp 31)), none⟩,
   ⟨(some 5), (.assign (.tmp 53)), none⟩])
 .ret)))))
theorem x_slices_BinarySearch_int : Txt Tryd.prog 54 c_slices_BinarySearch_int [.tmp 4, .tmp 5] 2 := ⟨by kernel_rfl, by kernel_rfl, _, _, Tryd.func54, rfl, by kernel_rfl, by kernel_rfl, by kernel_rfl, rfl, by decide⟩
/-- slices.Insert[[]int,int] -/
def c_slices_Insert_int : Cd :=
 (.seq (.reg [⟨(some 6), (.assign (.const (.slice none 0 0))), none⟩])
 (.seq (.reg [⟨(some 10), (.move (.tmp 0)), none⟩,
   ⟨(some 11), (.move (.tmp 1)), none⟩,
   ⟨(some 12), (.slice 22 (.tmp 10) (some (.tmp 11)) none none), none⟩])
 (.seq (.reg [⟨(some 13), (.move (.tmp 2)), none⟩,
   ⟨(some 14), (.call (.mk (.builtin .len) #[(.tmp 13)] #[22])), none⟩,
   ⟨(some 7), (.assign (.tmp 14)), none⟩])
 (.seq (.seq (.reg [⟨(some 15), (.move (.tmp 7)), none⟩,
   ⟨(some 16), (.binOp .eql 3 (.tmp 15) (.const (.int .i64 0)) 3), none⟩])
 (.cond (.tmp 16) (.seq (.reg [⟨(some 17), (.move (.tmp 0)), none⟩,
   ⟨(some 6), (.assign (.tmp 17)), none⟩])
 .ret) .skip))
 (.seq (.reg [⟨(some 18), (.move (.tmp 0)), none⟩,
   ⟨(some 19), (.call (.mk (.builtin .len) #[(.tmp 18)] #[22])), none⟩,
   ⟨(some 8), (.assign (.tmp 19)), none⟩])
 (.seq (.seq (.reg [⟨(some 20), (.move (.tmp 1)), none⟩,
   ⟨(some 21), (.move (.tmp 8)), none⟩,
   ⟨(some 22), (.binOp .eql 3 (.tmp 20) (.tmp 21) 3), none⟩])
 (.cond (.tmp 22) (.seq (.reg [⟨(some 23), (.move (.tmp 0)), none⟩,
   ⟨(some 24), (.move (.tmp 2)), none⟩,
   ⟨(some 25), (.call (.mk (.builtin .append) #[(.tmp 23), (.tmp 24)] #[22, 22])), none⟩,
   ⟨(some 6), (.assign (.tmp 25)), none⟩])
 .ret) .skip))
 (.seq (.seq (.reg [⟨(some 26), (.move (.tmp 8)), none⟩,
   ⟨(some 27), (.move (.tmp 7)), none⟩,
   ⟨(some 28), (.binOp .add 3 (.tmp 26) (.tmp 27) 3), none⟩,
   ⟨(some 29), (.move (.tmp 0)), none⟩,
   ⟨(some 30), (.call (.mk (.builtin .cap) #[(.tmp 29)] #[22])), none⟩,
   ⟨(some 31), (.binOp .gtr 3 (.tmp 28) (.tmp 30) 3), none⟩])
 (.cond (.tmp 31) (.seq (.reg [⟨(some 32), (.move (.tmp 0)), none⟩,
   ⟨(some 33), (.move (.tmp 1)), none⟩,
   ⟨(some 34), (.slice 22 (.tmp 32) none (some (.tmp 33)) none), none⟩,
   ⟨(some 35), (.move (.tmp 8)), none⟩,
   ⟨(some 36), (.move (.tmp 7)), none⟩,
   ⟨(some 37), (.binOp .add 3 (.tmp 35) (.tmp 36) 3), none⟩,
   ⟨(some 38), (.move (.tmp 1)), none⟩,
   ⟨(some 39), (.binOp .sub 3 (.tmp 37) (.tmp 38) 3), none⟩,
   ⟨(some 40), (.call (.mk (.builtin .append) #[(.tmp 34), (.tmp 39)] #[22, 3])), none⟩,
   ⟨(some 9), (.assign (.tmp 40)), none⟩])
 (.seq (.reg [⟨(some 41), (.move (.tmp 9)), none⟩,
   ⟨(some 42), (.move (.tmp 1)), none⟩,
   ⟨(some 43), (.slice 22 (.tmp 41) (some (.tmp 42)) none none), none⟩,
   ⟨(some 44), (.move (.tmp 2)), none⟩,
   ⟨(some 45), (.call (.mk (.builtin .copy) #[(.tmp 43), (.tmp 44)] #[22, 22])), none⟩])
 (.seq (.regt [⟨(some 46), (.move (.tmp 9)), none⟩,
   ⟨(some 47), (.move (.tmp 1)), none⟩,
   ⟨(some 48), (.move (.tmp 7)), none⟩,
   ⟨(some 49), (.binOp .add 3 (.tmp 47) (.tmp 48) 3), none⟩,
   ⟨(some 50), (.slice 22 (.tmp 46) (some (.tmp 49)) none none), none⟩,
   ⟨(some 51), (.move (.tmp 0)), none⟩,
   ⟨(some 52), (.move (.tmp 1)), none⟩,
   ⟨(some 53), (.slice 22 (.tmp 51) (some (.tmp 52)) none none), none⟩] (.one false ⟨(some 54), (.call (.mk (.builtin .copy) #[(.tmp 50), (.tmp 53)] #[22, 22])), none⟩
   .done) [])
 (.seq (.reg [⟨(some 55), (.move (.tmp 9)), none⟩,
   ⟨(some 6), (.assign (.tmp 55)), none⟩])
 .ret)))) .skip))
 (.seq (.reg [⟨(some 56), (.move (.tmp 0)), none⟩,
   ⟨(some 57), (.move (.tmp 8)), none⟩,
   ⟨(some 58), (.move (.tmp 7)), none⟩,
   ⟨(some 59), (.binOp .add 3 (.tmp 57) (.tmp 58) 3), none⟩,
   ⟨(some 60), (.slice 22 (.tmp 56) none (some (.tmp 59)) none), none⟩,
   ⟨(some 0), (.assign (.tmp 60)), none⟩])
 (.seq (.seq (.reg [⟨(some 61), (.move (.tmp 2)), none⟩,
   ⟨(some 62), (.move (.tmp 0)), none⟩,
   ⟨(some 63), (.move (.tmp 1)), none⟩,
   ⟨(some 64), (.move (.tmp 7)), none⟩,
   ⟨(some 65), (.binOp .add 3 (.tmp 63) (.tmp 64) 3), none⟩,
   ⟨(some 66), (.slice 22 (.tmp 62) (some (.tmp 65)) none none), none⟩,
   ⟨(some 67), (.call (.mk (.value (.func 64)) #[(.tmp 61), (.tmp 66)] #[22, 22])), none⟩,
   ⟨(some 68), (.unOp .not 4 (.tmp 67)), none⟩])
 (.cond (.tmp 68) (.seq (.regt [⟨(some 69), (.move (.tmp 0)), none⟩,
   ⟨(some 70), (.move (.tmp 1)), none⟩,
   ⟨(some 71), (.move (.tmp 7)), none⟩,
   ⟨(some 72), (.binOp .add 3 (.tmp 70) (.tmp 71) 3), none⟩,
   ⟨(some 73), (.slice 22 (.tmp 69) (some (.tmp 72)) none none), none⟩,
   ⟨(some 74), (.move (.tmp 0)), none⟩,
   ⟨(some 75), (.move (.tmp 1)), none⟩,
   ⟨(some 76), (.slice 22 (.tmp 74) (some (.tmp 75)) none none), none⟩] (.one false ⟨(some 77), (.call (.mk (.builtin .copy) #[(.tmp 73), (.tmp 76)] #[22, 22])), none⟩
   .done) [])
 (.seq (.reg [⟨(some 78), (.move (.tmp 0)), none⟩,
   ⟨(some 79), (.move (.tmp 1)), none⟩,
   ⟨(some 80), (.slice 22 (.tmp 78) (some (.tmp 79)) none none), none⟩,
   ⟨(some 81), (.move (.tmp 2)), none⟩,
   ⟨(some 82), (.call (.mk (.builtin .copy) #[(.tmp 80), (.tmp 81)] #[22, 22])), none⟩])
 (.seq (.reg [⟨(some 83), (.move (.tmp 0)), none⟩,
   ⟨(some 6), (.assign (.tmp 83)), none⟩])
 .ret))) .skip))
 (.seq (.reg [⟨(some 84), (.move (.tmp 0)), none⟩,
   ⟨(some 85), (.move (.tmp 8)), none⟩,
   ⟨(some 86), (.slice 22 (.tmp 84) (some (.tmp 85)) none none), none⟩,
   ⟨(some 87), (.move (.tmp 2)), none⟩,
   ⟨(some 88), (.call (.mk (.builtin .copy) #[(.tmp 86), (.tmp 87)] #[22, 22])), none⟩])
 (.seq (.reg [⟨(some 89), (.move (.tmp 0)), none⟩,
   ⟨(some 90), (.move (.tmp 1)), none⟩,
   ⟨(some 91), (.slice 22 (.tmp 89) (some (.tmp 90)) none none), none⟩,
   ⟨(some 92), (.move (.tmp 7)), none⟩,
   ⟨(some 93), (.call (.mk (.value (.func 65)) #[(.tmp 91), (.tmp 92)] #[22, 3])), none⟩])
 (.seq (.reg [⟨(some 94), (.move (.tmp 0)), none⟩,
   ⟨(some 6), (.assign (.tmp 94)), none⟩])
 .ret))))))))))))
theorem x_slices_Insert_int : Txt Tryd.prog 55 c_slices_Insert_int [.tmp 6] 3 := ⟨by kernel_rfl, by kernel_rfl, _, _, Tryd.func55, rfl, by kernel_rfl, by kernel_rfl, by kernel_rfl, rfl, by decide⟩
/-- loop.example/g01062/spec.StepPuzzle -/
def c_spec_StepPuzzle : Cd :=
 (.seq (.reg [⟨(some 2), (.box 28 (.tmp 0)), none⟩,
   ⟨(some 3), (.box 41 (.tmp 1)), none⟩,
   ⟨(some 4), (.alloc 28), none⟩,
   ⟨(some 5), (.assign (.const (.bool false))), none⟩])
 (.seq (.seq (.reg [⟨(some 8), (.load 28 (.tmp 2)), none⟩,
   ⟨(some 9), (.call (.mk (.value (.func 25)) #[(.tmp 8)] #[28])), none⟩,
   ⟨(some 10), (.unOp .not 4 (.tmp 9)), none⟩,
   ⟨(some 11), (.move (.tmp 10)), none⟩,
   ⟨(some 12), (.load 41 (.tmp 3)), (some (11, false))⟩,
   ⟨(some 13), (.call (.mk (.value (.func 66)) #[(.tmp 12)] #[41])), (some (11, false))⟩,
   ⟨(some 14), (.unOp .not 4 (.tmp 13)), (some (11, false))⟩,
   ⟨(some 15), (.pick (.tmp 11) (.const (.bool true)) (.tmp 14)), none⟩])
 (.cond (.tmp 15) (.seq (.reg [⟨(some 16), (.build 28 #[]), none⟩,
   ⟨none, (.store 28 (.tmp 4) (.tmp 16)), none⟩,
   ⟨(some 5), (.assign (.const (.bool false))), none⟩])
 .ret) .skip))
 (.seq (.reg [⟨(some 18), (.load 28 (.tmp 2)), none⟩,
   ⟨(some 19), (.load 41 (.tmp 3)), none⟩,
   ⟨(some 20), (.call (.mk (.value (.func 67)) #[(.tmp 18), (.tmp 19)] #[28, 41])), none⟩,
   ⟨(some 17), (.move (.tmp 20)), none⟩,
   ⟨(some 21), (.extract (.tmp 17) 0), none⟩,
   ⟨(some 22), (.extract (.tmp 17) 1), none⟩,
   ⟨(some 6), (.alloc 28), none⟩,
   ⟨none, (.store 28 (.tmp 6) (.tmp 21)), none⟩,
   ⟨(some 7), (.assign (.tmp 22)), none⟩])
 (.seq (.seq (.reg [⟨(some 23), (.move (.tmp 7)), none⟩,
   ⟨(some 24), (.unOp .not 4 (.tmp 23)), none⟩])
 (.cond (.tmp 24) (.seq (.reg [⟨(some 25), (.build 28 #[]), none⟩,
   ⟨none, (.store 28 (.tmp 4) (.tmp 25)), none⟩,
   ⟨(some 5), (.assign (.const (.bool false))), none⟩])
 .ret) .skip))
 (.seq (.reg [⟨(some 26), (.load 28 (.tmp 6)), none⟩,
   ⟨none, (.store 28 (.tmp 4) (.tmp 26)), none⟩,
   ⟨(some 5), (.assign (.const (.bool true))), none⟩])
 .ret)))))
theorem x_spec_StepPuzzle : Txt Tryd.prog 56 c_spec_StepPuzzle [.cell 4 28, .tmp 5] 2 := ⟨by kernel_rfl, by kernel_rfl, _, _, Tryd.func56, rfl, by kernel_rfl, by kernel_rfl, by kernel_rfl, rfl, by decide⟩
/-- (*loop.example/g01062/spec.l1Cur).puzzleStep -/
def c_spec_l1Cur_puzzleStep : Cd :=
 (.seq (.reg [⟨(some 3), (.box 28 (.tmp 1)), none⟩,
   ⟨(some 4), (.alloc 41), none⟩])
 (.seq (.seq (.reg [⟨(some 7), (.move (.tmp 0)), none⟩,
   ⟨(some 8), (.call (.mk (.value (.func 40)) #[(.tmp 7), (.const (.int .i64 30))] #[62, 3])), none⟩])
 (.cond (.tmp 8) (.seq (.reg [⟨(some 9), (.move (.tmp 0)), none⟩,
   ⟨(some 10), (.buildSlice 22 4 #[(0, (.const (.int .i64 0))), (1, (.const (.int .i64 7))), (2, (.const (.int .i64 2))), (3, (.const (.int .i64 1)))]), none⟩,
   ⟨(some 11), (.call (.mk (.value (.func 42)) #[(.tmp 9), (.tmp 10)] #[62, 22])), none⟩,
   ⟨(some 12), (.move (.tmp 0)), none⟩,
   ⟨(some 13), (.buildSlice 22 5 #[(0, (.const (.int .i64 0))), (1, (.const (.int .i64 1))), (2, (.const (.int .i64 20))), (3, (.const (.int .i64 21))), (4, (.const (.int .i64 (-1))))]), none⟩,
   ⟨(some 14), (.call (.mk (.value (.func 42)) #[(.tmp 12), (.tmp 13)] #[62, 22])), none⟩,
   ⟨(some 15), (.build 41 #[(0, (.tmp 11)), (1, (.tmp 14))]), none⟩,
   ⟨none, (.store 41 (.tmp 4) (.tmp 15)), none⟩])
 .ret) .skip))
 (.seq (.seq (.reg [⟨(some 16), (.fieldAddr 28 (.tmp 3) 4), none⟩,
   ⟨(some 17), (.load 4 (.tmp 16)), none⟩])
 (.cond (.tmp 17) (.seq (.reg [⟨(some 18), (.move (.tmp 0)), none⟩,
   ⟨(some 19), (.buildSlice 22 4 #[(0, (.const (.int .i64 6))), (1, (.const (.int .i64 6))), (2, (.const (.int .i64 5))), (3, (.const (.int .i64 2)))]), none⟩,
   ⟨(some 20), (.call (.mk (.value (.func 42)) #[(.tmp 18), (.tmp 19)] #[62, 22])), none⟩,
   ⟨(some 21), (.build 41 #[(0, (.tmp 20))]), none⟩,
   ⟨none, (.store 41 (.tmp 4) (.tmp 21)), none⟩])
 .ret) .skip))
 (.seq (.seq (.reg [⟨(some 22), (.fieldAddr 28 (.tmp 3) 2), none⟩,
   ⟨(some 23), (.load 3 (.tmp 22)), none⟩,
   ⟨(some 24), (.binOp .gtr 3 (.tmp 23) (.const (.int .i64 0)) 3), none⟩])
 (.cond (.tmp 24) (.seq (.reg [⟨(some 25), (.move (.tmp 0)), none⟩,
   ⟨(some 26), (.buildSlice 22 5 #[(0, (.const (.int .i64 2))), (1, (.const (.int .i64 2))), (2, (.const (.int .i64 2))), (3, (.const (.int .i64 4))), (4, (.const (.int .i64 5)))]), none⟩,
   ⟨(some 27), (.call (.mk (.value (.func 42)) #[(.tmp 25), (.tmp 26)] #[62, 22])), none⟩,
   ⟨(some 28), (.build 41 #[(0, (.tmp 27))]), none⟩,
   ⟨none, (.store 41 (.tmp 4) (.tmp 28)), none⟩])
 .ret) .skip))
 (.seq (.regt [⟨(some 29), (.fieldAddr 28 (.tmp 3) 0), none⟩,
   ⟨(some 30), (.load 3 (.tmp 29)), none⟩,
   ⟨(some 32), (.fieldAddr 28 (.tmp 3) 1), none⟩,
   ⟨(some 33), (.load 22 (.tmp 32)), none⟩,
   ⟨(some 34), (.fieldAddr 28 (.tmp 3) 2), none⟩,
   ⟨(some 35), (.load 3 (.tmp 34)), none⟩,
   ⟨(some 36), (.fieldAddr 28 (.tmp 3) 3), none⟩,
   ⟨(some 37), (.load 22 (.tmp 36)), none⟩] (.one true ⟨(some 31), (.call (.mk (.value (.func 68)) #[(.const (.int .i64 20)), (.tmp 30)] #[3, 3])), none⟩
   (.one false ⟨(some 38), (.build 28 #[(0, (.tmp 31)), (1, (.tmp 33)), (2, (.tmp 35)), (3, (.tmp 37))]), none⟩
   (.one false ⟨(some 39), (.call (.mk (.value (.func 35)) #[(.tmp 38)] #[28])), none⟩
   (.one false ⟨(some 5), (.assign (.tmp 39)), none⟩
   .done)))) [])
 (.seq (.seq (.reg [⟨(some 40), (.fieldAddr 28 (.tmp 3) 1), none⟩,
   ⟨(some 41), (.load 22 (.tmp 40)), none⟩,
   ⟨(some 42), (.call (.mk (.builtin .len) #[(.tmp 41)] #[22])), none⟩,
   ⟨(some 6), (.assign (.tmp 42)), none⟩])
 (.seq (.reg [⟨(some 43), (.move (.tmp 6)), none⟩,
   ⟨(some 44), (.binOp .gtr 3 (.tmp 43) (.const (.int .i64 0)) 3), none⟩,
   ⟨(some 45), (.move (.tmp 44)), none⟩,
   ⟨(some 46), (.move (.tmp 0)), (some (45, true))⟩,
   ⟨(some 47), (.call (.mk (.value (.func 40)) #[(.tmp 46), (.const (.int .i64 4))] #[62, 3])), (some (45, true))⟩,
   ⟨(some 48), (.pick (.tmp 45) (.tmp 47) (.const (.bool false))), none⟩])
 (.cond (.tmp 48) (.seq (.regt [⟨(some 49), (.move (.tmp 0)), none⟩,
   ⟨(some 50), (.fieldAddr 28 (.tmp 3) 1), none⟩,
   ⟨(some 51), (.load 22 (.tmp 50)), none⟩,
   ⟨(some 52), (.move (.tmp 6)), none⟩,
   ⟨(some 53), (.binOp .sub 3 (.tmp 52) (.const (.int .i64 1)) 3), none⟩,
   ⟨(some 54), (.indexAddr 22 (.tmp 51) (.tmp 53)), none⟩,
   ⟨(some 55), (.load 3 (.tmp 54)), none⟩,
   ⟨(some 56), (.fieldAddr 28 (.tmp 3) 1), none⟩,
   ⟨(some 57), (.load 22 (.tmp 56)), none⟩,
   ⟨(some 58), (.move (.tmp 6)), none⟩,
   ⟨(some 59), (.binOp .sub 3 (.tmp 58) (.const (.int .i64 1)) 3), none⟩,
   ⟨(some 60), (.indexAddr 22 (.tmp 57) (.tmp 59)), none⟩,
   ⟨(some 61), (.load 3 (.tmp 60)), none⟩,
   ⟨(some 62), (.fieldAddr 28 (.tmp 3) 1), none⟩,
   ⟨(some 63), (.load 22 (.tmp 62)), none⟩,
   ⟨(some 64), (.indexAddr 22 (.tmp 63) (.const (.int .i64 0))), none⟩,
   ⟨(some 65), (.load 3 (.tmp 64)), none⟩] (.one false ⟨(some 66), (.buildSlice 22 3 #[(0, (.tmp 55)), (1, (.tmp 61)), (2, (.tmp 65))]), none⟩
   (.one false ⟨(some 67), (.call (.mk (.value (.func 42)) #[(.tmp 49), (.tmp 66)] #[62, 22])), none⟩
   (.one false ⟨(some 68), (.build 41 #[(0, (.const (.int .i64 3))), (1, (.tmp 67))]), none⟩
   (.one false ⟨none, (.store 41 (.tmp 4) (.tmp 68)), none⟩
   .done)))) [(.tmp 4)])
 .ret) .skip)))
 (.seq (.seq (.reg [⟨(some 69), (.move (.tmp 5)), none⟩,
   ⟨(some 70), (.call (.mk (.builtin .len) #[(.tmp 69)] #[22])), none⟩,
   ⟨(some 71), (.binOp .gtr 3 (.tmp 70) (.const (.int .i64 0)) 3), none⟩,
   ⟨(some 72), (.move (.tmp 71)), none⟩,
   ⟨(some 73), (.move (.tmp 0)), (some (72, true))⟩,
   ⟨(some 74), (.call (.mk (.value (.func 40)) #[(.tmp 73), (.const (.int .i64 8))] #[62, 3])), (some (72, true))⟩,
   ⟨(some 75), (.unOp .not 4 (.tmp 74)), (some (72, true))⟩,
   ⟨(some 76), (.pick (.tmp 72) (.tmp 75) (.const (.bool false))), none⟩])
 (.cond (.tmp 76) (.seq (.reg [⟨(some 77), (.move (.tmp 5)), none⟩,
   ⟨(some 78), (.move (.tmp 0)), none⟩,
   ⟨(some 79), (.move (.tmp 5)), none⟩,
   ⟨(some 80), (.call (.mk (.builtin .len) #[(.tmp 79)] #[22])), none⟩,
   ⟨(some 81), (.call (.mk (.value (.func 41)) #[(.tmp 78), (.tmp 80)] #[62, 3])), none⟩,
   ⟨(some 82), (.indexAddr 22 (.tmp 77) (.tmp 81)), none⟩,
   ⟨(some 83), (.load 3 (.tmp 82)), none⟩,
   ⟨(some 84), (.build 41 #[(0, (.const (.int .i64 1))), (1, (.tmp 83))]), none⟩,
   ⟨none, (.store 41 (.tmp 4) (.tmp 84)), none⟩])
 .ret) .skip))
 (.seq (.reg [⟨(some 85), (.move (.tmp 0)), none⟩,
   ⟨(some 86), (.buildSlice 22 3 #[(0, (.const (.int .i64 5))), (1, (.const (.int .i64 5))), (2, (.const (.int .i64 6)))]), none⟩,
   ⟨(some 87), (.call (.mk (.value (.func 42)) #[(.tmp 85), (.tmp 86)] #[62, 22])), none⟩,
   ⟨(some 88), (.build 41 #[(0, (.tmp 87))]), none⟩,
   ⟨none, (.store 41 (.tmp 4) (.tmp 88)), none⟩])
 .ret))))))))
theorem x_spec_l1Cur_puzzleStep : Txt Tryd.prog 57 c_spec_l1Cur_puzzleStep [.cell 4 41] 2 := ⟨by kernel_rfl, by kernel_rfl, _, _, Tryd.func57, rfl, by kernel_rfl, by kernel_rfl, by kernel_rfl, rfl, by decide⟩
/-- (*loop.example/g01062/spec.l1Cur).next -/
def c_spec_l1Cur_next : Cd :=
 (.seq (.reg [⟨(some 2), (.assign (.const (.int .i64 0))), none⟩])
 (.seq (.reg [⟨(some 3), (.assign (.const (.int .i64 0))), none⟩])
 (.seq (.seq (.regq [⟨(some 4), (.move (.tmp 0)), none⟩,
   ⟨(some 5), (.nilCheck (.tmp 4)), none⟩,
   ⟨(some 6), (.fieldAddr 65 (.tmp 5) 1), none⟩,
   ⟨(some 7), (.load 3 (.tmp 6)), none⟩,
   ⟨(some 8), (.move (.tmp 0)), none⟩,
   ⟨(some 9), (.nilCheck (.tmp 8)), none⟩,
   ⟨(some 10), (.fieldAddr 65 (.tmp 9) 0), none⟩,
   ⟨(some 11), (.load 32 (.tmp 10)), none⟩,
   ⟨(some 12), (.call (.mk (.builtin .len) #[(.tmp 11)] #[32])), none⟩,
   ⟨(some 13), (.binOp .lss 3 (.tmp 7) (.tmp 12) 3), none⟩])
 (.cond (.tmp 13) (.regq [⟨(some 14), (.move (.tmp 0)), none⟩,
   ⟨(some 15), (.nilCheck (.tmp 14)), none⟩,
   ⟨(some 16), (.fieldAddr 65 (.tmp 15) 0), none⟩,
   ⟨(some 17), (.load 32 (.tmp 16)), none⟩,
   ⟨(some 18), (.move (.tmp 0)), none⟩,
   ⟨(some 19), (.nilCheck (.tmp 18)), none⟩,
   ⟨(some 20), (.fieldAddr 65 (.tmp 19) 1), none⟩,
   ⟨(some 21), (.load 3 (.tmp 20)), none⟩,
   ⟨(some 22), (.indexAddr 32 (.tmp 17) (.tmp 21)), none⟩,
   ⟨(some 23), (.load 5 (.tmp 22)), none⟩,
   ⟨(some 24), (.convert 5 3 (.tmp 23)), none⟩,
   ⟨(some 3), (.assign (.tmp 24)), none⟩]) .skip))
 (.seq (.reg [⟨(some 25), (.move (.tmp 0)), none⟩,
   ⟨(some 26), (.nilCheck (.tmp 25)), none⟩,
   ⟨(some 27), (.fieldAddr 65 (.tmp 26) 1), none⟩,
   ⟨(some 28), (.load 3 (.tmp 27)), none⟩,
   ⟨(some 29), (.binOp .add 3 (.tmp 28) (.const (.int .i64 1)) 3), none⟩,
   ⟨(some 30), (.nilCheck (.tmp 25)), none⟩,
   ⟨(some 31), (.fieldAddr 65 (.tmp 30) 1), none⟩,
   ⟨none, (.store 3 (.tmp 31) (.tmp 29)), none⟩])
 (.seq (.reg [⟨(some 32), (.move (.tmp 0)), none⟩,
   ⟨(some 33), (.move (.tmp 0)), none⟩,
   ⟨(some 34), (.nilCheck (.tmp 33)), none⟩,
   ⟨(some 35), (.fieldAddr 65 (.tmp 34) 2), none⟩,
   ⟨(some 36), (.load 63 (.tmp 35)), none⟩,
   ⟨(some 37), (.binOp .mul 63 (.tmp 36) (.const (.int .u64 6364136223846793005)) 63), none⟩,
   ⟨(some 38), (.move (.tmp 3)), none⟩,
   ⟨(some 39), (.convert 3 63 (.tmp 38)), none⟩,
   ⟨(some 40), (.binOp .add 63 (.tmp 37) (.tmp 39) 63), none⟩,
   ⟨(some 41), (.binOp .add 63 (.tmp 40) (.const (.int .u64 381907)) 63), none⟩,
   ⟨(some 42), (.nilCheck (.tmp 32)), none⟩,
   ⟨(some 43), (.fieldAddr 65 (.tmp 42) 2), none⟩,
   ⟨none, (.store 63 (.tmp 43) (.tmp 41)), none⟩])
 (.seq (.seq (.regq [⟨(some 44), (.move (.tmp 0)), none⟩,
   ⟨(some 45), (.nilCheck (.tmp 44)), none⟩,
   ⟨(some 46), (.fieldAddr 65 (.tmp 45) 1), none⟩,
   ⟨(some 47), (.load 3 (.tmp 46)), none⟩,
   ⟨(some 48), (.move (.tmp 0)), none⟩,
   ⟨(some 49), (.nilCheck (.tmp 48)), none⟩,
   ⟨(some 50), (.fieldAddr 65 (.tmp 49) 0), none⟩,
   ⟨(some 51), (.load 32 (.tmp 50)), none⟩,
   ⟨(some 52), (.call (.mk (.builtin .len) #[(.tmp 51)] #[32])), none⟩,
   ⟨(some 53), (.binOp .leq 3 (.tmp 47) (.tmp 52) 3), none⟩])
 (.cond (.tmp 53) (.seq (.reg [⟨(some 54), (.move (.tmp 3)), none⟩,
   ⟨(some 2), (.assign (.tmp 54)), none⟩])
 .ret) .skip))
 (.seq (.reg [⟨(some 55), (.move (.tmp 0)), none⟩,
   ⟨(some 56), (.nilCheck (.tmp 55)), none⟩,
   ⟨(some 57), (.fieldAddr 65 (.tmp 56) 2), none⟩,
   ⟨(some 58), (.load 63 (.tmp 57)), none⟩,
   ⟨(some 59), (.binOp .shr 63 (.tmp 58) (.const (.int .u64 40)) 85), none⟩,
   ⟨(some 60), (.binOp .and 63 (.tmp 59) (.const (.int .u64 255)) 63), none⟩,
   ⟨(some 61), (.convert 63 3 (.tmp 60)), none⟩,
   ⟨(some 2), (.assign (.tmp 61)), none⟩])
 .ret)))))))
theorem x_spec_l1Cur_next : Txt Tryd.prog 58 c_spec_l1Cur_next [.tmp 2] 1 := ⟨by kernel_rfl, by kernel_rfl, _, _, Tryd.func58, rfl, by kernel_rfl, by kernel_rfl, by kernel_rfl, rfl, by decide⟩
/-- slices.Grow[[]int,int] -/
def c_slices_Grow_int : Cd :=
 (.seq (.reg [⟨(some 4), (.assign (.const (.slice none 0 0))), none⟩])
 (.seq (.seq (.reg [⟨(some 5), (.move (.tmp 1)), none⟩,
   ⟨(some 6), (.binOp .lss 3 (.tmp 5) (.const (.int .i64 0)) 3), none⟩])
 (.cond (.tmp 6) (.reg [⟨(some 7), (.makeInterface 9 (.const (.string (ByteArray.mk #[99, 97, 110, 110, 111, 116, 32, 98, 101, 32, 110, 101, 103, 97, 116, 105, 118, 101])))), none⟩,
   ⟨none, (.panic (.tmp 7)), none⟩]) .skip))
 (.seq (.seq (.reg [⟨(some 8), (.move (.tmp 1)), none⟩,
   ⟨(some 9), (.move (.tmp 0)), none⟩,
   ⟨(some 10), (.call (.mk (.builtin .cap) #[(.tmp 9)] #[22])), none⟩,
   ⟨(some 11), (.move (.tmp 0)), none⟩,
   ⟨(some 12), (.call (.mk (.builtin .len) #[(.tmp 11)] #[22])), none⟩,
   ⟨(some 13), (.binOp .sub 3 (.tmp 10) (.tmp 12) 3), none⟩,
   ⟨(some 14), (.binOp .sub 3 (.tmp 8) (.tmp 13) 3), none⟩,
   ⟨(some 1), (.assign (.tmp 14)), none⟩])
 (.seq (.reg [⟨(some 15), (.move (.tmp 1)), none⟩,
   ⟨(some 16), (.binOp .gtr 3 (.tmp 15) (.const (.int .i64 0)) 3), none⟩])
 (.cond (.tmp 16) (.reg [⟨(some 17), (.move (.tmp 0)), none⟩,
   ⟨(some 18), (.move (.tmp 0)), none⟩,
   ⟨(some 19), (.call (.mk (.builtin .cap) #[(.tmp 18)] #[22])), none⟩,
   ⟨(some 20), (.slice 22 (.tmp 17) none (some (.tmp 19)) none), none⟩,
   ⟨(some 21), (.move (.tmp 1)), none⟩,
   ⟨(some 22), (.call (.mk (.builtin .append) #[(.tmp 20), (.tmp 21)] #[22, 3])), none⟩,
   ⟨(some 23), (.move (.tmp 0)), none⟩,
   ⟨(some 24), (.call (.mk (.builtin .len) #[(.tmp 23)] #[22])), none⟩,
   ⟨(some 25), (.slice 22 (.tmp 22) none (some (.tmp 24)) none), none⟩,
   ⟨(some 0), (.assign (.tmp 25)), none⟩]) .skip)))
 (.seq (.reg [⟨(some 26), (.move (.tmp 0)), none⟩,
   ⟨(some 4), (.assign (.tmp 26)), none⟩])
 .ret))))
theorem x_slices_Grow_int : Txt Tryd.prog 59 c_slices_Grow_int [.tmp 4] 2 := ⟨by kernel_rfl, by kernel_rfl, _, _, Tryd.func59, rfl, by kernel_rfl, by kernel_rfl, by kernel_rfl, rfl, by decide⟩
/-- cmp.Less[int] -/
def c_cmp_Less_int : Cd :=
 (.seq (.reg [⟨(some 4), (.assign (.const (.bool false))), none⟩])
 (.seq (.reg [⟨(some 5), (.move (.tmp 0)), none⟩,
   ⟨(some 6), (.call (.mk (.value (.func 76)) #[(.tmp 5)] #[3])), none⟩,
   ⟨(some 7), (.move (.tmp 6)), none⟩,
   ⟨(some 8), (.move (.tmp 1)), (some (7, true))⟩,
   ⟨(some 9), (.call (.mk (.value (.func 76)) #[(.tmp 8)] #[3])), (some (7, true))⟩,
   ⟨(some 10), (.unOp .not 4 (.tmp 9)), (some (7, true))⟩,
   ⟨(some 11), (.pick (.tmp 7) (.tmp 10) (.const (.bool false))), none⟩,
   ⟨(some 12), (.move (.tmp 11)), none⟩,
   ⟨(some 13), (.move (.tmp 0)), (some (12, false))⟩,
   ⟨(some 14), (.move (.tmp 1)), (some (12, false))⟩,
   ⟨(some 15), (.binOp .lss 3 (.tmp 13) (.tmp 14) 3), (some (12, false))⟩,
   ⟨(some 16), (.pick (.tmp 12) (.const (.bool true)) (.tmp 15)), none⟩,
   ⟨(some 4), (.assign (.tmp 16)), none⟩])
 .ret))
theorem x_cmp_Less_int : Txt Tryd.prog 62 c_cmp_Less_int [.tmp 4] 2 := ⟨by kernel_rfl, by kernel_rfl, _, _, Tryd.func62, rfl, by kernel_rfl, by kernel_rfl, by kernel_rfl, rfl, by decide⟩
/-- slices.isNaN[int] -/
def c_slices_isNaN_int : Cd :=
 (.seq (.reg [⟨(some 2), (.assign (.const (.bool false))), none⟩])
 (.seq (.reg [⟨(some 3), (.move (.tmp 0)), none⟩,
   ⟨(some 4), (.move (.tmp 0)), none⟩,
   ⟨(some 5), (.binOp .neq 3 (.tmp 3) (.tmp 4) 3), none⟩,
   ⟨(some 2), (.assign (.tmp 5)), none⟩])
 .ret))
theorem x_slices_isNaN_int : Txt Tryd.prog 63 c_slices_isNaN_int [.tmp 2] 1 := ⟨by kernel_rfl, by kernel_rfl, _, _, Tryd.func63, rfl, by kernel_rfl, by kernel_rfl, by kernel_rfl, rfl, by decide⟩
/-- loop.example/g01062/spec.l21Step -/
def c_spec_l21Step : Cd :=
 (.seq (.reg [⟨(some 1), (.box 41 (.tmp 0)), none⟩,
   ⟨(some 2), (.assign (.const (.bool false))), none⟩])
 (.seq (.seq (.reg [⟨(some 3), (.fieldAddr 41 (.tmp 1) 0), none⟩,
   ⟨(some 4), (.load 3 (.tmp 3)), none⟩,
   ⟨(some 5), (.binOp .eql 3 (.tmp 4) (.const (.int .i64 1)) 3), none⟩,
   ⟨(some 6), (.move (.tmp 5)), none⟩,
   ⟨(some 7), (.fieldAddr 41 (.tmp 1) 0), (some (6, false))⟩,
   ⟨(some 8), (.load 3 (.tmp 7)), (some (6, false))⟩,
   ⟨(some 9), (.binOp .eql 3 (.tmp 8) (.const (.int .i64 3)) 3), (some (6, false))⟩,
   ⟨(some 10), (.pick (.tmp 6) (.const (.bool true)) (.tmp 9)), none⟩])
 (.cond (.tmp 10) (.seq (.reg [⟨(some 11), (.fieldAddr 41 (.tmp 1) 1), none⟩,
   ⟨(some 12), (.load 3 (.tmp 11)), none⟩,
   ⟨(some 13), (.call (.mk (.value (.func 44)) #[(.tmp 12), (.const (.int .i64 1)), (.const (.int .i64 20))] #[3, 3, 3])), none⟩,
   ⟨(some 2), (.assign (.tmp 13)), none⟩])
 .ret) .skip))
 (.seq (.reg [⟨(some 14), (.fieldAddr 41 (.tmp 1) 0), none⟩,
   ⟨(some 15), (.load 3 (.tmp 14)), none⟩,
   ⟨(some 16), (.call (.mk (.value (.func 44)) #[(.tmp 15), (.const (.int .i64 2)), (.const (.int .i64 6))] #[3, 3, 3])), none⟩,
   ⟨(some 17), (.move (.tmp 16)), none⟩,
   ⟨(some 18), (.fieldAddr 41 (.tmp 1) 1), (some (17, true))⟩,
   ⟨(some 19), (.load 3 (.tmp 18)), (some (17, true))⟩,
   ⟨(some 20), (.binOp .eql 3 (.tmp 19) (.const (.int .i64 0)) 3), (some (17, true))⟩,
   ⟨(some 21), (.pick (.tmp 17) (.tmp 20) (.const (.bool false))), none⟩,
   ⟨(some 2), (.assign (.tmp 21)), none⟩])
 .ret)))
theorem x_spec_l21Step : Txt Tryd.prog 66 c_spec_l21Step [.tmp 2] 1 := ⟨by kernel_rfl, by kernel_rfl, _, _, Tryd.func66, rfl, by kernel_rfl, by kernel_rfl, by kernel_rfl, rfl, by decide⟩
/-- loop.example/g01062/spec.l21Make -/
def c_spec_l21Make : Cd :=
 (.seq (.reg [⟨(some 2), (.box 28 (.tmp 0)), none⟩,
   ⟨(some 3), (.box 41 (.tmp 1)), none⟩,
   ⟨(some 4), (.alloc 28), none⟩,
   ⟨(some 5), (.assign (.const (.bool false))), none⟩])
 (.seq (.reg [⟨(some 8), (.load 28 (.tmp 2)), none⟩,
   ⟨(some 9), (.call (.mk (.value (.func 78)) #[(.tmp 8)] #[28])), none⟩,
   ⟨(some 6), (.alloc 28), none⟩,
   ⟨none, (.store 28 (.tmp 6) (.tmp 9)), none⟩])
 (.seq (.seq (.reg [⟨(some 10), (.fieldAddr 28 (.tmp 2) 4), none⟩,
   ⟨(some 11), (.load 4 (.tmp 10)), none⟩])
 (.cond (.tmp 11) (.seq (.reg [⟨(some 12), (.fieldAddr 28 (.tmp 6) 4), none⟩,
   ⟨none, (.store 4 (.tmp 12) (.const (.bool false))), none⟩])
 (.seq (.regt [⟨(some 13), (.load 28 (.tmp 6)), none⟩,
   ⟨(some 14), (.fieldAddr 41 (.tmp 3) 0), none⟩,
   ⟨(some 15), (.load 3 (.tmp 14)), none⟩,
   ⟨(some 16), (.binOp .eql 3 (.tmp 15) (.const (.int .i64 6)) 3), none⟩] (.one true ⟨none, (.store 28 (.tmp 4) (.tmp 13)), none⟩
   (.one false ⟨(some 5), (.assign (.tmp 16)), none⟩
   .done)) [(.tmp 4)])
 .ret)) .skip))
 (.seq (.reg [⟨(some 17), (.fieldAddr 28 (.tmp 2) 1), none⟩,
   ⟨(some 18), (.load 22 (.tmp 17)), none⟩,
   ⟨(some 19), (.call (.mk (.builtin .len) #[(.tmp 18)] #[22])), none⟩,
   ⟨(some 7), (.assign (.tmp 19)), none⟩])
 (.seq (.seq (.reg [⟨(some 20), (.fieldAddr 41 (.tmp 3) 0), none⟩,
   ⟨(some 21), (.load 3 (.tmp 20)), none⟩])
 (.block 0 (.seq (.reg [⟨(some 23), (.binOp .eql 3 (.tmp 21) (.const (.int .i64 1)) 3), none⟩,
   ⟨(some 22), (.assign (.tmp 23)), none⟩])
 (.cond (.tmp 22) (.seq (.reg [⟨(some 24), (.fieldAddr 41 (.tmp 3) 1), none⟩,
   ⟨(some 25), (.load 3 (.tmp 24)), none⟩,
   ⟨(some 26), (.fieldAddr 28 (.tmp 6) 2), none⟩,
   ⟨none, (.store 3 (.tmp 26) (.tmp 25)), none⟩])
 (.seq (.regt [⟨(some 27), (.load 28 (.tmp 6)), none⟩,
   ⟨(some 28), (.fieldAddr 28 (.tmp 2) 2), none⟩,
   ⟨(some 29), (.load 3 (.tmp 28)), none⟩,
   ⟨(some 30), (.binOp .eql 3 (.tmp 29) (.const (.int .i64 0)) 3), none⟩,
   ⟨(some 31), (.move (.tmp 30)), none⟩,
   ⟨(some 32), (.load 28 (.tmp 2)), (some (31, true))⟩,
   ⟨(some 34), (.fieldAddr 41 (.tmp 3) 1), (some (31, true))⟩,
   ⟨(some 35), (.load 3 (.tmp 34)), (some (31, true))⟩] (.one true ⟨(some 33), (.call (.mk (.value (.func 35)) #[(.tmp 32)] #[28])), (some (31, true))⟩
   (.one true ⟨(some 36), (.call (.mk (.value (.func 46)) #[(.tmp 33), (.tmp 35)] #[22, 3])), (some (31, true))⟩
   (.now ⟨(some 37), (.pick (.tmp 31) (.tmp 36) (.const (.bool false))), none⟩
   (.one false ⟨none, (.store 28 (.tmp 4) (.tmp 27)), none⟩
   (.one false ⟨(some 5), (.assign (.tmp 37)), none⟩
   .done))))) [(.tmp 4)])
 .ret)) (.seq (.reg [⟨(some 39), (.binOp .eql 3 (.tmp 21) (.const (.int .i64 2)) 3), none⟩,
   ⟨(some 38), (.assign (.tmp 39)), none⟩])
 (.cond (.tmp 38) (.seq (.reg [⟨(some 40), (.fieldAddr 28 (.tmp 6) 1), none⟩,
   ⟨(some 41), (.load 22 (.tmp 40)), none⟩,
   ⟨(some 42), (.fieldAddr 28 (.tmp 2) 2), none⟩,
   ⟨(some 43), (.load 3 (.tmp 42)), none⟩,
   ⟨(some 44), (.buildSlice 22 1 #[(0, (.tmp 43))]), none⟩,
   ⟨(some 45), (.call (.mk (.builtin .append) #[(.tmp 41), (.tmp 44)] #[22, 22])), none⟩,
   ⟨(some 46), (.fieldAddr 28 (.tmp 6) 1), none⟩,
   ⟨none, (.store 22 (.tmp 46) (.tmp 45)), none⟩])
 (.seq (.reg [⟨(some 47), (.fieldAddr 28 (.tmp 6) 2), none⟩,
   ⟨none, (.store 3 (.tmp 47) (.const (.int .i64 0))), none⟩])
 (.seq (.regt [⟨(some 48), (.load 28 (.tmp 6)), none⟩,
   ⟨(some 49), (.fieldAddr 28 (.tmp 2) 2), none⟩,
   ⟨(some 50), (.load 3 (.tmp 49)), none⟩,
   ⟨(some 51), (.binOp .gtr 3 (.tmp 50) (.const (.int .i64 0)) 3), none⟩] (.one true ⟨none, (.store 28 (.tmp 4) (.tmp 48)), none⟩
   (.one false ⟨(some 5), (.assign (.tmp 51)), none⟩
   .done)) [(.tmp 4)])
 .ret))) (.seq (.reg [⟨(some 53), (.binOp .eql 3 (.tmp 21) (.const (.int .i64 3)) 3), none⟩,
   ⟨(some 52), (.assign (.tmp 53)), none⟩])
 (.cond (.tmp 52) (.seq (.seq (.regq [⟨(some 54), (.move (.tmp 7)), none⟩,
   ⟨(some 55), (.binOp .eql 3 (.tmp 54) (.const (.int .i64 0)) 3), none⟩,
   ⟨(some 56), (.move (.tmp 55)), none⟩,
   ⟨(some 57), (.fieldAddr 28 (.tmp 2) 1), (some (56, false))⟩,
   ⟨(some 58), (.load 22 (.tmp 57)), (some (56, false))⟩,
   ⟨(some 59), (.move (.tmp 7)), (some (56, false))⟩,
   ⟨(some 60), (.binOp .sub 3 (.tmp 59) (.const (.int .i64 1)) 3), (some (56, false))⟩,
   ⟨(some 61), (.indexAddr 22 (.tmp 58) (.tmp 60)), (some (56, false))⟩,
   ⟨(some 62), (.load 3 (.tmp 61)), (some (56, false))⟩,
   ⟨(some 63), (.fieldAddr 41 (.tmp 3) 1), (some (56, false))⟩,
   ⟨(some 64), (.load 3 (.tmp 63)), (some (56, false))⟩,
   ⟨(some 65), (.binOp .neq 3 (.tmp 62) (.tmp 64) 3), (some (56, false))⟩,
   ⟨(some 66), (.pick (.tmp 56) (.const (.bool true)) (.tmp 65)), none⟩,
   ⟨(some 67), (.move (.tmp 66)), none⟩,
   ⟨(some 68), (.fieldAddr 28 (.tmp 2) 2), (some (67, false))⟩,
   ⟨(some 69), (.load 3 (.tmp 68)), (some (67, false))⟩,
   ⟨(some 70), (.binOp .gtr 3 (.tmp 69) (.const (.int .i64 0)) 3), (some (67, false))⟩,
   ⟨(some 71), (.pick (.tmp 67) (.const (.bool true)) (.tmp 70)), none⟩])
 (.cond (.tmp 71) (.seq (.reg [⟨(some 72), (.load 28 (.tmp 6)), none⟩,
   ⟨none, (.store 28 (.tmp 4) (.tmp 72)), none⟩,
   ⟨(some 5), (.assign (.const (.bool false))), none⟩])
 .ret) .skip))
 (.seq (.reg [⟨(some 73), (.fieldAddr 28 (.tmp 2) 1), none⟩,
   ⟨(some 74), (.load 22 (.tmp 73)), none⟩,
   ⟨(some 75), (.move (.tmp 7)), none⟩,
   ⟨(some 76), (.binOp .sub 3 (.tmp 75) (.const (.int .i64 1)) 3), none⟩,
   ⟨(some 77), (.slice 22 (.tmp 74) none (some (.tmp 76)) none), none⟩,
   ⟨(some 78), (.call (.mk (.value (.func 79)) #[(.tmp 77)] #[22])), none⟩,
   ⟨(some 79), (.fieldAddr 28 (.tmp 6) 1), none⟩,
   ⟨none, (.store 22 (.tmp 79) (.tmp 78)), none⟩])
 (.seq (.reg [⟨(some 80), (.fieldAddr 41 (.tmp 3) 1), none⟩,
   ⟨(some 81), (.load 3 (.tmp 80)), none⟩,
   ⟨(some 82), (.fieldAddr 28 (.tmp 6) 2), none⟩,
   ⟨none, (.store 3 (.tmp 82) (.tmp 81)), none⟩])
 (.seq (.reg [⟨(some 83), (.load 28 (.tmp 6)), none⟩,
   ⟨none, (.store 28 (.tmp 4) (.tmp 83)), none⟩,
   ⟨(some 5), (.assign (.const (.bool true))), none⟩])
 .ret)))) (.seq (.reg [⟨(some 85), (.binOp .eql 3 (.tmp 21) (.const (.int .i64 4)) 3), none⟩,
   ⟨(some 84), (.assign (.tmp 85)), none⟩])
 (.cond (.tmp 84) (.seq (.reg [⟨(some 86), (.fieldAddr 28 (.tmp 6) 3), none⟩,
   ⟨(some 87), (.load 22 (.tmp 86)), none⟩,
   ⟨(some 88), (.fieldAddr 28 (.tmp 2) 2), none⟩,
   ⟨(some 89), (.load 3 (.tmp 88)), none⟩,
   ⟨(some 90), (.call (.mk (.value (.func 80)) #[(.tmp 87), (.tmp 89)] #[22, 3])), none⟩,
   ⟨(some 91), (.fieldAddr 28 (.tmp 6) 3), none⟩,
   ⟨none, (.store 22 (.tmp 91) (.tmp 90)), none⟩])
 (.seq (.reg [⟨(some 92), (.fieldAddr 28 (.tmp 6) 2), none⟩,
   ⟨none, (.store 3 (.tmp 92) (.const (.int .i64 0))), none⟩])
 (.seq (.regt [⟨(some 93), (.load 28 (.tmp 6)), none⟩,
   ⟨(some 94), (.fieldAddr 28 (.tmp 2) 2), none⟩,
   ⟨(some 95), (.load 3 (.tmp 94)), none⟩,
   ⟨(some 96), (.binOp .gtr 3 (.tmp 95) (.const (.int .i64 0)) 3), none⟩] (.one true ⟨none, (.store 28 (.tmp 4) (.tmp 93)), none⟩
   (.one false ⟨(some 5), (.assign (.tmp 96)), none⟩
   .done)) [(.tmp 4)])
 .ret))) (.seq (.reg [⟨(some 98), (.binOp .eql 3 (.tmp 21) (.const (.int .i64 5)) 3), none⟩,
   ⟨(some 97), (.assign (.tmp 98)), none⟩])
 (.cond (.tmp 97) (.seq (.reg [⟨(some 99), (.fieldAddr 28 (.tmp 6) 4), none⟩,
   ⟨none, (.store 4 (.tmp 99) (.const (.bool true))), none⟩])
 (.seq (.regt [⟨(some 100), (.load 28 (.tmp 6)), none⟩,
   ⟨(some 101), (.fieldAddr 28 (.tmp 2) 2), none⟩,
   ⟨(some 102), (.load 3 (.tmp 101)), none⟩,
   ⟨(some 103), (.binOp .eql 3 (.tmp 102) (.const (.int .i64 0)) 3), none⟩,
   ⟨(some 104), (.move (.tmp 103)), none⟩,
   ⟨(some 105), (.load 28 (.tmp 2)), (some (104, true))⟩] (.one true ⟨(some 106), (.call (.mk (.value (.func 35)) #[(.tmp 105)] #[28])), (some (104, true))⟩
   (.alt true ⟨(some 107), (.call (.mk (.builtin .len) #[(.tmp 106)] #[22])), (some (104, true))⟩
   (.now ⟨(some 108), (.binOp .eql 3 (.tmp 107) (.const (.int .i64 0)) 3), (some (104, true))⟩
   (.now ⟨(some 109), (.pick (.tmp 104) (.tmp 108) (.const (.bool false))), none⟩
   (.one false ⟨none, (.store 28 (.tmp 4) (.tmp 100)), none⟩
   (.one false ⟨(some 5), (.assign (.tmp 109)), none⟩
   .done))))
   (.one false ⟨none, (.store 28 (.tmp 4) (.tmp 100)), none⟩
   (.one true ⟨(some 107), (.call (.mk (.builtin .len) #[(.tmp 106)] #[22])), (some (104, true))⟩
   (.one true ⟨(some 108), (.binOp .eql 3 (.tmp 107) (.const (.int .i64 0)) 3), (some (104, true))⟩
   (.one true ⟨(some 109), (.pick (.tmp 104) (.tmp 108) (.const (.bool false))), none⟩
   (.one false ⟨(some 5), (.assign (.tmp 109)), none⟩
   .done))))))) [(.tmp 4)])
 .ret)) .skip))))))))))))
 (.seq (.reg [⟨(some 110), (.load 28 (.tmp 6)), none⟩,
   ⟨none, (.store 28 (.tmp 4) (.tmp 110)), none⟩,
   ⟨(some 5), (.assign (.const (.bool false))), none⟩])
 .ret))))))
theorem x_spec_l21Make : Txt Tryd.prog 67 c_spec_l21Make [.cell 4 28, .tmp 5] 2 := ⟨by kernel_rfl, by kernel_rfl, _, _, Tryd.func67, rfl, by kernel_rfl, by kernel_rfl, by kernel_rfl, rfl, by decide⟩
/-- loop.example/g01062/spec.l1Least -/
def c_spec_l1Least : Cd :=
 (.seq (.reg [⟨(some 4), (.assign (.const (.int .i64 0))), none⟩])
 (.seq (.seq (.reg [⟨(some 5), (.move (.tmp 0)), none⟩,
   ⟨(some 6), (.move (.tmp 1)), none⟩,
   ⟨(some 7), (.binOp .lss 3 (.tmp 5) (.tmp 6) 3), none⟩])
 (.cond (.tmp 7) (.seq (.reg [⟨(some 8), (.move (.tmp 0)), none⟩,
   ⟨(some 4), (.assign (.tmp 8)), none⟩])
 .ret) .skip))
 (.seq (.reg [⟨(some 9), (.move (.tmp 1)), none⟩,
   ⟨(some 4), (.assign (.tmp 9)), none⟩])
 .ret)))
theorem x_spec_l1Least : Txt Tryd.prog 68 c_spec_l1Least [.tmp 4] 2 := ⟨by kernel_rfl, by kernel_rfl, _, _, Tryd.func68, rfl, by kernel_rfl, by kernel_rfl, by kernel_rfl, rfl, by decide⟩
/-- cmp.isNaN[int] -/
def c_cmp_isNaN_int : Cd :=
 (.seq (.reg [⟨(some 2), (.assign (.const (.bool false))), none⟩])
 (.seq (.reg [⟨(some 3), (.move (.tmp 0)), none⟩,
   ⟨(some 4), (.move (.tmp 0)), none⟩,
   ⟨(some 5), (.binOp .neq 3 (.tmp 3) (.tmp 4) 3), none⟩,
   ⟨(some 2), (.assign (.tmp 5)), none⟩])
 .ret))
theorem x_cmp_isNaN_int : Txt Tryd.prog 76 c_cmp_isNaN_int [.tmp 2] 1 := ⟨by kernel_rfl, by kernel_rfl, _, _, Tryd.func76, rfl, by kernel_rfl, by kernel_rfl, by kernel_rfl, rfl, by decide⟩
/-- loop.example/g01062/spec.l21Own -/
def c_spec_l21Own : Cd :=
 (.seq (.reg [⟨(some 1), (.box 28 (.tmp 0)), none⟩,
   ⟨(some 2), (.alloc 28), none⟩])
 (.seq (.regt [⟨(some 3), (.fieldAddr 28 (.tmp 1) 0), none⟩,
   ⟨(some 4), (.load 3 (.tmp 3)), none⟩,
   ⟨(some 5), (.fieldAddr 28 (.tmp 1) 1), none⟩,
   ⟨(some 6), (.load 22 (.tmp 5)), none⟩,
   ⟨(some 8), (.fieldAddr 28 (.tmp 1) 2), none⟩,
   ⟨(some 9), (.load 3 (.tmp 8)), none⟩,
   ⟨(some 10), (.fieldAddr 28 (.tmp 1) 3), none⟩,
   ⟨(some 11), (.load 22 (.tmp 10)), none⟩,
   ⟨(some 13), (.fieldAddr 28 (.tmp 1) 4), none⟩,
   ⟨(some 14), (.load 4 (.tmp 13)), none⟩] (.one true ⟨(some 7), (.call (.mk (.value (.func 79)) #[(.tmp 6)] #[22])), none⟩
   (.one true ⟨(some 12), (.call (.mk (.value (.func 79)) #[(.tmp 11)] #[22])), none⟩
   (.one false ⟨(some 15), (.build 28 #[(0, (.tmp 4)), (1, (.tmp 7)), (2, (.tmp 9)), (3, (.tmp 12)), (4, (.tmp 14))]), none⟩
   (.one false ⟨none, (.store 28 (.tmp 2) (.tmp 15)), none⟩
   .done)))) [(.tmp 2)])
 .ret))
theorem x_spec_l21Own : Txt Tryd.prog 78 c_spec_l21Own [.cell 2 28] 1 := ⟨by kernel_rfl, by kernel_rfl, _, _, Tryd.func78, rfl, by kernel_rfl, by kernel_rfl, by kernel_rfl, rfl, by decide⟩
/-- loop.example/g01062/spec.l1Own -/
def c_spec_l1Own : Cd :=
 (.seq (.reg [⟨(some 2), (.assign (.const (.slice none 0 0))), none⟩])
 (.seq (.reg [⟨(some 3), (.buildSlice 22 0 #[]), none⟩,
   ⟨(some 4), (.move (.tmp 0)), none⟩,
   ⟨(some 5), (.call (.mk (.builtin .append) #[(.tmp 3), (.tmp 4)] #[22, 22])), none⟩,
   ⟨(some 2), (.assign (.tmp 5)), none⟩])
 .ret))
theorem x_spec_l1Own : Txt Tryd.prog 79 c_spec_l1Own [.tmp 2] 1 := ⟨by kernel_rfl, by kernel_rfl, _, _, Tryd.func79, rfl, by kernel_rfl, by kernel_rfl, by kernel_rfl, rfl, by decide⟩
/-- loop.example/g01062/spec.l1Put -/
def c_spec_l1Put : Cd :=
 (.seq (.reg [⟨(some 4), (.assign (.const (.slice none 0 0))), none⟩])
 (.seq (.reg [⟨(some 5), (.assign (.const (.int .i64 0))), none⟩])
 (.seq (.block 0 (.loop (.seq (.seq (.reg [⟨(some 6), (.move (.tmp 5)), none⟩,
   ⟨(some 7), (.move (.tmp 0)), none⟩,
   ⟨(some 8), (.call (.mk (.builtin .len) #[(.tmp 7)] #[22])), none⟩,
   ⟨(some 9), (.binOp .lss 3 (.tmp 6) (.tmp 8) 3), none⟩,
   ⟨(some 10), (.move (.tmp 9)), none⟩,
   ⟨(some 11), (.move (.tmp 0)), (some (10, true))⟩,
   ⟨(some 12), (.move (.tmp 5)), (some (10, true))⟩,
   ⟨(some 13), (.indexAddr 22 (.tmp 11) (.tmp 12)), (some (10, true))⟩,
   ⟨(some 14), (.load 3 (.tmp 13)), (some (10, true))⟩,
   ⟨(some 15), (.move (.tmp 1)), (some (10, true))⟩,
   ⟨(some 16), (.binOp .lss 3 (.tmp 14) (.tmp 15) 3), (some (10, true))⟩,
   ⟨(some 17), (.pick (.tmp 10) (.tmp 16) (.const (.bool false))), none⟩])
 (.cond (.tmp 17) .skip (.exit 0)))
 (.block 1 (.reg [⟨(some 18), (.move (.tmp 5)), none⟩,
   ⟨(some 19), (.binOp .add 3 (.tmp 18) (.const (.int .i64 1)) 3), none⟩,
   ⟨(some 5), (.assign (.tmp 19)), none⟩])))))
 (.seq (.seq (.reg [⟨(some 20), (.move (.tmp 5)), none⟩,
   ⟨(some 21), (.move (.tmp 0)), none⟩,
   ⟨(some 22), (.call (.mk (.builtin .len) #[(.tmp 21)] #[22])), none⟩,
   ⟨(some 23), (.binOp .lss 3 (.tmp 20) (.tmp 22) 3), none⟩,
   ⟨(some 24), (.move (.tmp 23)), none⟩,
   ⟨(some 25), (.move (.tmp 0)), (some (24, true))⟩,
   ⟨(some 26), (.move (.tmp 5)), (some (24, true))⟩,
   ⟨(some 27), (.indexAddr 22 (.tmp 25) (.tmp 26)), (some (24, true))⟩,
   ⟨(some 28), (.load 3 (.tmp 27)), (some (24, true))⟩,
   ⟨(some 29), (.move (.tmp 1)), (some (24, true))⟩,
   ⟨(some 30), (.binOp .eql 3 (.tmp 28) (.tmp 29) 3), (some (24, true))⟩,
   ⟨(some 31), (.pick (.tmp 24) (.tmp 30) (.const (.bool false))), none⟩])
 (.cond (.tmp 31) (.seq (.reg [⟨(some 32), (.move (.tmp 0)), none⟩,
   ⟨(some 4), (.assign (.tmp 32)), none⟩])
 .ret) .skip))
 (.seq (.regt [⟨(some 34), (.move (.tmp 0)), none⟩,
   ⟨(some 35), (.move (.tmp 5)), none⟩,
   ⟨(some 36), (.slice 22 (.tmp 34) none (some (.tmp 35)) none), none⟩,
   ⟨(some 38), (.move (.tmp 1)), none⟩,
   ⟨(some 41), (.move (.tmp 0)), none⟩,
   ⟨(some 42), (.move (.tmp 5)), none⟩,
   ⟨(some 43), (.slice 22 (.tmp 41) (some (.tmp 42)) none none), none⟩] (.alt false ⟨(some 33), (.buildSlice 22 0 #[]), none⟩
   (.alt false ⟨(some 37), (.call (.mk (.builtin .append) #[(.tmp 33), (.tmp 36)] #[22, 22])), none⟩
   (.one false ⟨(some 39), (.buildSlice 22 1 #[(0, (.tmp 38))]), none⟩
   (.one false ⟨(some 40), (.call (.mk (.builtin .append) #[(.tmp 37), (.tmp 39)] #[22, 22])), none⟩
   (.one false ⟨(some 44), (.call (.mk (.builtin .append) #[(.tmp 40), (.tmp 43)] #[22, 22])), none⟩
   (.one false ⟨(some 4), (.assign (.tmp 44)), none⟩
   .done))))
   (.one false ⟨(some 39), (.buildSlice 22 1 #[(0, (.tmp 38))]), none⟩
   (.one false ⟨(some 37), (.call (.mk (.builtin .append) #[(.tmp 33), (.tmp 36)] #[22, 22])), none⟩
   (.one false ⟨(some 40), (.call (.mk (.builtin .append) #[(.tmp 37), (.tmp 39)] #[22, 22])), none⟩
   (.one false ⟨(some 44), (.call (.mk (.builtin .append) #[(.tmp 40), (.tmp 43)] #[22, 22])), none⟩
   (.one false ⟨(some 4), (.assign (.tmp 44)), none⟩
   .done))))))
   (.one false ⟨(some 39), (.buildSlice 22 1 #[(0, (.tmp 38))]), none⟩
   (.one false ⟨(some 33), (.buildSlice 22 0 #[]), none⟩
   (.one false ⟨(some 37), (.call (.mk (.builtin .append) #[(.tmp 33), (.tmp 36)] #[22, 22])), none⟩
   (.one false ⟨(some 40), (.call (.mk (.builtin .append) #[(.tmp 37), (.tmp 39)] #[22, 22])), none⟩
   (.one false ⟨(some 44), (.call (.mk (.builtin .append) #[(.tmp 40), (.tmp 43)] #[22, 22])), none⟩
   (.one false ⟨(some 4), (.assign (.tmp 44)), none⟩
   .done))))))) [])
 .ret)))))
theorem x_spec_l1Put : Txt Tryd.prog 80 c_spec_l1Put [.tmp 4] 2 := ⟨by kernel_rfl, by kernel_rfl, _, _, Tryd.func80, rfl, by kernel_rfl, by kernel_rfl, by kernel_rfl, rfl, by decide⟩
theorem qs2 : qSize Tryd.prog 2 = some 1 := by kernel_rfl
theorem qb2 : qBytes Tryd.prog 2 = some 8 := by kernel_rfl
theorem qa2 : qAgg Tryd.prog 2 = some false := by kernel_rfl
theorem qz2 : qZero Tryd.prog 2 = some (.int .i64 0) := by kernel_rfl
theorem qk2 : qKind Tryd.prog 2 = some .i64 := by kernel_rfl
theorem qui2 : (Tryd.prog.underlying 2).isSome = true := by kernel_rfl
theorem qs3 : qSize Tryd.prog 3 = some 1 := by kernel_rfl
theorem qb3 : qBytes Tryd.prog 3 = some 8 := by kernel_rfl
theorem qa3 : qAgg Tryd.prog 3 = some false := by kernel_rfl
theorem qz3 : qZero Tryd.prog 3 = some (.int .i64 0) := by kernel_rfl
theorem qk3 : qKind Tryd.prog 3 = some .i64 := by kernel_rfl
theorem qui3 : (Tryd.prog.underlying 3).isSome = true := by kernel_rfl
theorem qs4 : qSize Tryd.prog 4 = some 1 := by kernel_rfl
theorem qb4 : qBytes Tryd.prog 4 = some 1 := by kernel_rfl
theorem qa4 : qAgg Tryd.prog 4 = some false := by kernel_rfl
theorem qz4 : qZero Tryd.prog 4 = some (.bool false) := by kernel_rfl
theorem qo4 : qBool Tryd.prog 4 = true := by kernel_rfl
theorem qs5 : qSize Tryd.prog 5 = some 1 := by kernel_rfl
theorem qb5 : qBytes Tryd.prog 5 = some 1 := by kernel_rfl
theorem qa5 : qAgg Tryd.prog 5 = some false := by kernel_rfl
theorem qz5 : qZero Tryd.prog 5 = some (.int .u8 0) := by kernel_rfl
theorem qk5 : qKind Tryd.prog 5 = some .u8 := by kernel_rfl
theorem qui5 : (Tryd.prog.underlying 5).isSome = true := by kernel_rfl
theorem qs9 : qSize Tryd.prog 9 = some 1 := by kernel_rfl
theorem qb9 : qBytes Tryd.prog 9 = some 16 := by kernel_rfl
theorem qa9 : qAgg Tryd.prog 9 = some false := by kernel_rfl
theorem qz9 : qZero Tryd.prog 9 = some (.string ByteArray.empty) := by kernel_rfl
theorem qt9 : qStr Tryd.prog 9 = true := by kernel_rfl
theorem qs22 : qSize Tryd.prog 22 = some 1 := by kernel_rfl
theorem qb22 : qBytes Tryd.prog 22 = some 24 := by kernel_rfl
theorem qa22 : qAgg Tryd.prog 22 = some false := by kernel_rfl
theorem qz22 : qZero Tryd.prog 22 = some (.slice none 0 0) := by kernel_rfl
theorem qe22 : qElem Tryd.prog 22 = some 3 := by kernel_rfl
theorem qs24 : qSize Tryd.prog 24 = some 5 := by kernel_rfl
theorem qb24 : qBytes Tryd.prog 24 = some 72 := by kernel_rfl
theorem qa24 : qAgg Tryd.prog 24 = some true := by kernel_rfl
theorem qz24 : qZero Tryd.prog 24 = some (.agg #[.int .i64 0, .slice none 0 0, .int .i64 0, .slice none 0 0, .bool false]) := by kernel_rfl
theorem qg24 : qFields Tryd.prog 24 = some [(0, 1), (1, 1), (2, 1), (3, 1), (4, 1)] := by kernel_rfl
theorem qf24_0 : qField Tryd.prog 24 0 = some (0, 3) := by kernel_rfl
theorem qf24_1 : qField Tryd.prog 24 1 = some (1, 22) := by kernel_rfl
theorem qf24_2 : qField Tryd.prog 24 2 = some (2, 3) := by kernel_rfl
theorem qf24_3 : qField Tryd.prog 24 3 = some (3, 22) := by kernel_rfl
theorem qf24_4 : qField Tryd.prog 24 4 = some (4, 4) := by kernel_rfl
theorem qs28 : qSize Tryd.prog 28 = some 5 := by kernel_rfl
theorem qb28 : qBytes Tryd.prog 28 = some 72 := by kernel_rfl
theorem qa28 : qAgg Tryd.prog 28 = some true := by kernel_rfl
theorem qz28 : qZero Tryd.prog 28 = some (.agg #[.int .i64 0, .slice none 0 0, .int .i64 0, .slice none 0 0, .bool false]) := by kernel_rfl
theorem qg28 : qFields Tryd.prog 28 = some [(0, 1), (1, 1), (2, 1), (3, 1), (4, 1)] := by kernel_rfl
theorem qf28_0 : qField Tryd.prog 28 0 = some (0, 3) := by kernel_rfl
theorem qf28_1 : qField Tryd.prog 28 1 = some (1, 22) := by kernel_rfl
theorem qf28_2 : qField Tryd.prog 28 2 = some (2, 3) := by kernel_rfl
theorem qf28_3 : qField Tryd.prog 28 3 = some (3, 22) := by kernel_rfl
theorem qf28_4 : qField Tryd.prog 28 4 = some (4, 4) := by kernel_rfl
theorem qs32 : qSize Tryd.prog 32 = some 1 := by kernel_rfl
theorem qb32 : qBytes Tryd.prog 32 = some 24 := by kernel_rfl
theorem qa32 : qAgg Tryd.prog 32 = some false := by kernel_rfl
theorem qz32 : qZero Tryd.prog 32 = some (.slice none 0 0) := by kernel_rfl
theorem qe32 : qElem Tryd.prog 32 = some 5 := by kernel_rfl
theorem qs41 : qSize Tryd.prog 41 = some 2 := by kernel_rfl
theorem qb41 : qBytes Tryd.prog 41 = some 16 := by kernel_rfl
theorem qa41 : qAgg Tryd.prog 41 = some true := by kernel_rfl
theorem qz41 : qZero Tryd.prog 41 = some (.agg #[.int .i64 0, .int .i64 0]) := by kernel_rfl
theorem qg41 : qFields Tryd.prog 41 = some [(0, 1), (1, 1)] := by kernel_rfl
theorem qi41 : qEqS Tryd.prog 41 2 = true := by kernel_rfl
theorem qf41_0 : qField Tryd.prog 41 0 = some (0, 3) := by kernel_rfl
theorem qf41_1 : qField Tryd.prog 41 1 = some (1, 3) := by kernel_rfl
theorem qs42 : qSize Tryd.prog 42 = some 1 := by kernel_rfl
theorem qb42 : qBytes Tryd.prog 42 = some 24 := by kernel_rfl
theorem qa42 : qAgg Tryd.prog 42 = some false := by kernel_rfl
theorem qz42 : qZero Tryd.prog 42 = some (.slice none 0 0) := by kernel_rfl
theorem qe42 : qElem Tryd.prog 42 = some 41 := by kernel_rfl
theorem qs56 : qSize Tryd.prog 56 = some 1 := by kernel_rfl
theorem qb56 : qBytes Tryd.prog 56 = some 8 := by kernel_rfl
theorem qa56 : qAgg Tryd.prog 56 = some false := by kernel_rfl
theorem qz56 : qZero Tryd.prog 56 = some (.pointer none) := by kernel_rfl
theorem qs62 : qSize Tryd.prog 62 = some 1 := by kernel_rfl
theorem qb62 : qBytes Tryd.prog 62 = some 8 := by kernel_rfl
theorem qa62 : qAgg Tryd.prog 62 = some false := by kernel_rfl
theorem qz62 : qZero Tryd.prog 62 = some (.pointer none) := by kernel_rfl
theorem qs63 : qSize Tryd.prog 63 = some 1 := by kernel_rfl
theorem qb63 : qBytes Tryd.prog 63 = some 8 := by kernel_rfl
theorem qa63 : qAgg Tryd.prog 63 = some false := by kernel_rfl
theorem qz63 : qZero Tryd.prog 63 = some (.int .u64 0) := by kernel_rfl
theorem qk63 : qKind Tryd.prog 63 = some .u64 := by kernel_rfl
theorem qui63 : (Tryd.prog.underlying 63).isSome = true := by kernel_rfl
theorem qs65 : qSize Tryd.prog 65 = some 3 := by kernel_rfl
theorem qb65 : qBytes Tryd.prog 65 = some 40 := by kernel_rfl
theorem qa65 : qAgg Tryd.prog 65 = some true := by kernel_rfl
theorem qz65 : qZero Tryd.prog 65 = some (.agg #[.slice none 0 0, .int .i64 0, .int .u64 0]) := by kernel_rfl
theorem qg65 : qFields Tryd.prog 65 = some [(0, 1), (1, 1), (2, 1)] := by kernel_rfl
theorem qf65_0 : qField Tryd.prog 65 0 = some (0, 32) := by kernel_rfl
theorem qf65_1 : qField Tryd.prog 65 1 = some (1, 3) := by kernel_rfl
theorem qf65_2 : qField Tryd.prog 65 2 = some (2, 63) := by kernel_rfl
theorem qs80 : qSize Tryd.prog 80 = some 1 := by kernel_rfl
theorem qb80 : qBytes Tryd.prog 80 = some 24 := by kernel_rfl
theorem qa80 : qAgg Tryd.prog 80 = some false := by kernel_rfl
theorem qz80 : qZero Tryd.prog 80 = some (.slice none 0 0) := by kernel_rfl
theorem qe80 : qElem Tryd.prog 80 = some 22 := by kernel_rfl
theorem qs83 : qSize Tryd.prog 83 = some 1 := by kernel_rfl
theorem qb83 : qBytes Tryd.prog 83 = some 24 := by kernel_rfl
theorem qa83 : qAgg Tryd.prog 83 = some false := by kernel_rfl
theorem qz83 : qZero Tryd.prog 83 = some (.slice none 0 0) := by kernel_rfl
theorem qe83 : qElem Tryd.prog 83 = some 9 := by kernel_rfl
theorem qs85 : qSize Tryd.prog 85 = some 1 := by kernel_rfl
theorem qb85 : qBytes Tryd.prog 85 = some 8 := by kernel_rfl
theorem qa85 : qAgg Tryd.prog 85 = some false := by kernel_rfl
theorem qz85 : qZero Tryd.prog 85 = some (.int .u64 0) := by kernel_rfl
theorem qk85 : qKind Tryd.prog 85 = some .u64 := by kernel_rfl
theorem qui85 : (Tryd.prog.underlying 85).isSome = true := by kernel_rfl
theorem qs94 : qSize Tryd.prog 94 = some 1 := by kernel_rfl
theorem qb94 : qBytes Tryd.prog 94 = some 8 := by kernel_rfl
theorem qa94 : qAgg Tryd.prog 94 = some false := by kernel_rfl
theorem qz94 : qZero Tryd.prog 94 = some (.pointer none) := by kernel_rfl
theorem qs96 : qSize Tryd.prog 96 = some 2 := by kernel_rfl
theorem qb96 : qBytes Tryd.prog 96 = some 32 := by kernel_rfl
theorem qa96 : qAgg Tryd.prog 96 = some true := by kernel_rfl
theorem qz96 : qZero Tryd.prog 96 = some (.agg #[.pointer none, .slice none 0 0]) := by kernel_rfl
theorem qg96 : qFields Tryd.prog 96 = some [(0, 1), (1, 1)] := by kernel_rfl
theorem qf96_0 : qField Tryd.prog 96 0 = some (0, 94) := by kernel_rfl
theorem qf96_1 : qField Tryd.prog 96 1 = some (1, 32) := by kernel_rfl
theorem qs105 : qSize Tryd.prog 105 = some 20 := by kernel_rfl
theorem qb105 : qBytes Tryd.prog 105 = some 160 := by kernel_rfl
theorem qa105 : qAgg Tryd.prog 105 = some true := by kernel_rfl
theorem qz105 : qZero Tryd.prog 105 = some (.agg #[.int .u64 0, .int .u64 0, .int .u64 0, .int .u64 0, .int .u64 0, .int .u64 0, .int .u64 0, .int .u64 0, .int .u64 0, .int .u64 0, .int .u64 0, .int .u64 0, .int .u64 0, .int .u64 0, .int .u64 0, .int .u64 0, .int .u64 0, .int .u64 0, .int .u64 0, .int .u64 0]) := by kernel_rfl
theorem qg105 : qFields Tryd.prog 105 = some [(0, 1), (1, 1), (2, 1), (3, 1), (4, 1), (5, 1), (6, 1), (7, 1), (8, 1), (9, 1), (10, 1), (11, 1), (12, 1), (13, 1), (14, 1), (15, 1), (16, 1), (17, 1), (18, 1), (19, 1)] := by kernel_rfl
theorem qr105 : qArr Tryd.prog 105 = some (20, 63) := by kernel_rfl
theorem qs115 : qSize Tryd.prog 115 = some 32 := by kernel_rfl
theorem qb115 : qBytes Tryd.prog 115 = some 32 := by kernel_rfl
theorem qa115 : qAgg Tryd.prog 115 = some true := by kernel_rfl
theorem qz115 : qZero Tryd.prog 115 = some (.agg #[.int .u8 0, .int .u8 0, .int .u8 0, .int .u8 0, .int .u8 0, .int .u8 0, .int .u8 0, .int .u8 0, .int .u8 0, .int .u8 0, .int .u8 0, .int .u8 0, .int .u8 0, .int .u8 0, .int .u8 0, .int .u8 0, .int .u8 0, .int .u8 0, .int .u8 0, .int .u8 0, .int .u8 0, .int .u8 0, .int .u8 0, .int .u8 0, .int .u8 0, .int .u8 0, .int .u8 0, .int .u8 0, .int .u8 0, .int .u8 0, .int .u8 0, .int .u8 0]) := by kernel_rfl
theorem qg115 : qFields Tryd.prog 115 = some [(0, 1), (1, 1), (2, 1), (3, 1), (4, 1), (5, 1), (6, 1), (7, 1), (8, 1), (9, 1), (10, 1), (11, 1), (12, 1), (13, 1), (14, 1), (15, 1), (16, 1), (17, 1), (18, 1), (19, 1), (20, 1), (21, 1), (22, 1), (23, 1), (24, 1), (25, 1), (26, 1), (27, 1), (28, 1), (29, 1), (30, 1), (31, 1)] := by kernel_rfl
theorem qr115 : qArr Tryd.prog 115 = some (32, 5) := by kernel_rfl
theorem qs116 : qSize Tryd.prog 116 = some 64 := by kernel_rfl
theorem qb116 : qBytes Tryd.prog 116 = some 64 := by kernel_rfl
theorem qa116 : qAgg Tryd.prog 116 = some true := by kernel_rfl
theorem qg116 : qFields Tryd.prog 116 = some [(0, 1), (1, 1), (2, 1), (3, 1), (4, 1), (5, 1), (6, 1), (7, 1), (8, 1), (9, 1), (10, 1), (11, 1), (12, 1), (13, 1), (14, 1), (15, 1), (16, 1), (17, 1), (18, 1), (19, 1), (20, 1), (21, 1), (22, 1), (23, 1), (24, 1), (25, 1), (26, 1), (27, 1), (28, 1), (29, 1), (30, 1), (31, 1), (32, 1), (33, 1), (34, 1), (35, 1), (36, 1), (37, 1), (38, 1), (39, 1), (40, 1), (41, 1), (42, 1), (43, 1), (44, 1), (45, 1), (46, 1), (47, 1), (48, 1), (49, 1), (50, 1), (51, 1), (52, 1), (53, 1), (54, 1), (55, 1), (56, 1), (57, 1), (58, 1), (59, 1), (60, 1), (61, 1), (62, 1), (63, 1)] := by kernel_rfl
theorem qr116 : qArr Tryd.prog 116 = some (64, 5) := by kernel_rfl
set_option linter.defProp false
/-- The facts, in one name. -/
def fcT := And.intro @qs2 <| And.intro @qb2 <| And.intro @qa2 <| And.intro @qz2 <| And.intro @qk2 <| And.intro @qui2 <| And.intro @qs3 <| And.intro @qb3 <| And.intro @qa3 <| And.intro @qz3 <| And.intro @qk3 <| And.intro @qui3 <| And.intro @qs4 <| And.intro @qb4 <| And.intro @qa4 <| And.intro @qz4 <| And.intro @qo4 <| And.intro @qs5 <| And.intro @qb5 <| And.intro @qa5 <| And.intro @qz5 <| And.intro @qk5 <| And.intro @qui5 <| And.intro @qs9 <| And.intro @qb9 <| And.intro @qa9 <| And.intro @qz9 <| And.intro @qt9 <| And.intro @qs22 <| And.intro @qb22 <| And.intro @qa22 <| And.intro @qz22 <| And.intro @qe22 <| And.intro @qs24 <| And.intro @qb24 <| And.intro @qa24 <| And.intro @qz24 <| And.intro @qg24 <| And.intro @qf24_0 <| And.intro @qf24_1 <| And.intro @qf24_2 <| And.intro @qf24_3 <| And.intro @qf24_4 <| And.intro @qs28 <| And.intro @qb28 <| And.intro @qa28 <| And.intro @qz28 <| And.intro @qg28 <| And.intro @qf28_0 <| And.intro @qf28_1 <| And.intro @qf28_2 <| And.intro @qf28_3 <| And.intro @qf28_4 <| And.intro @qs32 <| And.intro @qb32 <| And.intro @qa32 <| And.intro @qz32 <| And.intro @qe32 <| And.intro @qs41 <| And.intro @qb41 <| And.intro @qa41 <| And.intro @qz41 <| And.intro @qg41 <| And.intro @qi41 <| And.intro @qf41_0 <| And.intro @qf41_1 <| And.intro @qs42 <| And.intro @qb42 <| And.intro @qa42 <| And.intro @qz42 <| And.intro @qe42 <| And.intro @qs56 <| And.intro @qb56 <| And.intro @qa56 <| And.intro @qz56 <| And.intro @qs62 <| And.intro @qb62 <| And.intro @qa62 <| And.intro @qz62 <| And.intro @qs63 <| And.intro @qb63 <| And.intro @qa63 <| And.intro @qz63 <| And.intro @qk63 <| And.intro @qui63 <| And.intro @qs65 <| And.intro @qb65 <| And.intro @qa65 <| And.intro @qz65 <| And.intro @qg65 <| And.intro @qf65_0 <| And.intro @qf65_1 <| And.intro @qf65_2 <| And.intro @qs80 <| And.intro @qb80 <| And.intro @qa80 <| And.intro @qz80 <| And.intro @qe80 <| And.intro @qs83 <| And.intro @qb83 <| And.intro @qa83 <| And.intro @qz83 <| And.intro @qe83 <| And.intro @qs85 <| And.intro @qb85 <| And.intro @qa85 <| And.intro @qz85 <| And.intro @qk85 <| And.intro @qui85 <| And.intro @qs94 <| And.intro @qb94 <| And.intro @qa94 <| And.intro @qz94 <| And.intro @qs96 <| And.intro @qb96 <| And.intro @qa96 <| And.intro @qz96 <| And.intro @qg96 <| And.intro @qf96_0 <| And.intro @qf96_1 <| And.intro @qs105 <| And.intro @qb105 <| And.intro @qa105 <| And.intro @qz105 <| And.intro @qg105 <| And.intro @qr105 <| And.intro @qs115 <| And.intro @qb115 <| And.intro @qa115 <| And.intro @qz115 <| And.intro @qg115 <| And.intro @qr115 <| And.intro @qs116 <| And.intro @qb116 <| And.intro @qa116 <| And.intro @qg116 <| And.intro @qr116 <| True.intro
end Go.Proofs.YtbhabpenlaklcaaDoor
