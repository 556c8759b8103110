/- The texts of the functions, edges struck, and closed facts on functions and types: written by program (gen.py). -/
import Derived.Test.YtbhabpenlaklcaaDoorD
import Derived.Test.YtbhabpenlaklcaaDoorProg
namespace Go.Proofs.YtbhabpenlaklcaaDoor
open Go Go.RowKit Go.Proofs
/-- loop.example/g01062/laws.FnExactPuzzleText -/
def c_laws_FnExactPuzzleText : Cd :=
 (.seq (.reg [⟨(some 1), (.box 24 (.tmp 0)), none⟩,
   ⟨(some 2), (.assign (.const (.bool false))), none⟩])
 (.seq (.reg [⟨(some 3), (.assign (.const (.int .i64 1048576))), none⟩])
 (.seq (.reg [⟨(some 9), (.load 24 (.tmp 1)), none⟩,
   ⟨(some 10), (.move (.tmp 3)), none⟩,
   ⟨(some 11), (.call (.mk (.value (.func 5)) #[(.tmp 9), (.tmp 10)] #[24, 3])), none⟩,
   ⟨(some 3), (.assign (.tmp 11)), none⟩])
 (.seq (.seq (.reg [⟨(some 12), (.move (.tmp 3)), none⟩,
   ⟨(some 13), (.binOp .lss 3 (.tmp 12) (.const (.int .i64 0)) 3), none⟩])
 (.cond (.tmp 13) (.seq (.reg [⟨(some 2), (.assign (.const (.bool true))), none⟩])
 .ret) .skip))
 (.seq (.reg [⟨(some 15), (.load 24 (.tmp 1)), none⟩,
   ⟨(some 16), (.call (.mk (.value (.func 7)) #[(.tmp 15)] #[24])), none⟩,
   ⟨(some 17), (.call (.mk (.value (.func 6)) #[(.tmp 16)] #[28])), none⟩,
   ⟨(some 14), (.move (.tmp 17)), none⟩,
   ⟨(some 18), (.extract (.tmp 14) 0), none⟩,
   ⟨(some 19), (.extract (.tmp 14) 1), none⟩,
   ⟨(some 4), (.assign (.tmp 18)), none⟩,
   ⟨(some 5), (.assign (.tmp 19)), none⟩])
 (.seq (.reg [⟨(some 20), (.load 24 (.tmp 1)), none⟩,
   ⟨(some 21), (.call (.mk (.value (.func 7)) #[(.tmp 20)] #[24])), none⟩,
   ⟨(some 6), (.alloc 28), none⟩,
   ⟨none, (.store 28 (.tmp 6) (.tmp 21)), none⟩])
 (.seq (.reg [⟨(some 23), (.load 28 (.tmp 6)), none⟩,
   ⟨(some 24), (.call (.mk (.value (.func 8)) #[(.tmp 23)] #[28])), none⟩,
   ⟨(some 22), (.move (.tmp 24)), none⟩,
   ⟨(some 25), (.extract (.tmp 22) 0), none⟩,
   ⟨(some 26), (.extract (.tmp 22) 1), none⟩,
   ⟨(some 7), (.assign (.tmp 25)), none⟩,
   ⟨(some 8), (.assign (.tmp 26)), none⟩])
 (.seq (.seq (.reg [⟨(some 27), (.move (.tmp 7)), none⟩,
   ⟨(some 28), (.move (.tmp 4)), none⟩,
   ⟨(some 29), (.binOp .neq 9 (.tmp 27) (.tmp 28) 9), none⟩,
   ⟨(some 30), (.move (.tmp 29)), none⟩,
   ⟨(some 31), (.move (.tmp 8)), (some (30, false))⟩,
   ⟨(some 32), (.move (.tmp 5)), (some (30, false))⟩,
   ⟨(some 33), (.binOp .neq 4 (.tmp 31) (.tmp 32) 4), (some (30, false))⟩,
   ⟨(some 34), (.pick (.tmp 30) (.const (.bool true)) (.tmp 33)), none⟩])
 (.cond (.tmp 34) (.seq (.reg [⟨(some 2), (.assign (.const (.bool false))), none⟩])
 .ret) .skip))
 (.seq (.seq (.regt [⟨(some 35), (.load 28 (.tmp 6)), none⟩,
   ⟨(some 36), (.load 24 (.tmp 1)), none⟩] (.one true ⟨(some 37), (.call (.mk (.value (.func 7)) #[(.tmp 36)] #[24])), none⟩
   (.one false ⟨(some 38), (.call (.mk (.value (.func 9)) #[(.tmp 35), (.tmp 37)] #[28, 28])), none⟩
   (.one false ⟨(some 39), (.unOp .not 4 (.tmp 38)), none⟩
   .done))) [])
 (.cond (.tmp 39) (.seq (.reg [⟨(some 2), (.assign (.const (.bool false))), none⟩])
 .ret) .skip))
 (.seq (.reg [⟨(some 2), (.assign (.const (.bool true))), none⟩])
 .ret))))))))))
theorem x_laws_FnExactPuzzleText : Txt Tryd.prog 3 c_laws_FnExactPuzzleText [.tmp 2] 1 := ⟨by kernel_rfl, by kernel_rfl, _, _, Tryd.func3, rfl, by kernel_rfl, by kernel_rfl, by kernel_rfl, rfl, by decide⟩
/-- loop.example/g01062/laws.szPuzzle -/
def c_laws_szPuzzle : Cd :=
 (.seq (.reg [⟨(some 2), (.box 24 (.tmp 0)), none⟩,
   ⟨(some 4), (.assign (.const (.int .i64 0))), none⟩])
 (.seq (.reg [⟨(some 5), (.fieldAddr 24 (.tmp 2) 1), none⟩,
   ⟨(some 6), (.load 22 (.tmp 5)), none⟩,
   ⟨(some 7), (.move (.tmp 1)), none⟩,
   ⟨(some 8), (.call (.mk (.value (.func 24)) #[(.tmp 6), (.tmp 7)] #[22, 3])), none⟩,
   ⟨(some 1), (.assign (.tmp 8)), none⟩])
 (.seq (.seq (.reg [⟨(some 9), (.move (.tmp 1)), none⟩,
   ⟨(some 10), (.binOp .lss 3 (.tmp 9) (.const (.int .i64 0)) 3), none⟩])
 (.cond (.tmp 10) (.seq (.reg [⟨(some 4), (.assign (.const (.int .i64 (-1)))), none⟩])
 .ret) .skip))
 (.seq (.reg [⟨(some 11), (.fieldAddr 24 (.tmp 2) 3), none⟩,
   ⟨(some 12), (.load 22 (.tmp 11)), none⟩,
   ⟨(some 13), (.move (.tmp 1)), none⟩,
   ⟨(some 14), (.call (.mk (.value (.func 24)) #[(.tmp 12), (.tmp 13)] #[22, 3])), none⟩,
   ⟨(some 1), (.assign (.tmp 14)), none⟩])
 (.seq (.seq (.reg [⟨(some 15), (.move (.tmp 1)), none⟩,
   ⟨(some 16), (.binOp .lss 3 (.tmp 15) (.const (.int .i64 0)) 3), none⟩])
 (.cond (.tmp 16) (.seq (.reg [⟨(some 4), (.assign (.const (.int .i64 (-1)))), none⟩])
 .ret) .skip))
 (.seq (.reg [⟨(some 17), (.move (.tmp 1)), none⟩,
   ⟨(some 4), (.assign (.tmp 17)), none⟩])
 .ret))))))
theorem x_laws_szPuzzle : Txt Tryd.prog 5 c_laws_szPuzzle [.tmp 4] 2 := ⟨by kernel_rfl, by kernel_rfl, _, _, Tryd.func5, rfl, by kernel_rfl, by kernel_rfl, by kernel_rfl, rfl, by decide⟩
/-- loop.example/g01062/spec.PuzzleText -/
def c_spec_PuzzleText : Cd :=
 (.seq (.reg [⟨(some 1), (.box 28 (.tmp 0)), none⟩,
   ⟨(some 2), (.assign (.const (.string (ByteArray.mk #[])))), none⟩,
   ⟨(some 3), (.assign (.const (.bool false))), none⟩])
 (.seq (.seq (.reg [⟨(some 5), (.load 28 (.tmp 1)), none⟩,
   ⟨(some 6), (.call (.mk (.value (.func 25)) #[(.tmp 5)] #[28])), none⟩,
   ⟨(some 7), (.unOp .not 4 (.tmp 6)), none⟩])
 (.cond (.tmp 7) (.seq (.reg [⟨(some 2), (.assign (.const (.string (ByteArray.mk #[])))), none⟩,
   ⟨(some 3), (.assign (.const (.bool false))), none⟩])
 .ret) .skip))
 (.seq (.reg [⟨(some 8), (.fieldAddr 28 (.tmp 1) 1), none⟩,
   ⟨(some 9), (.load 22 (.tmp 8)), none⟩,
   ⟨(some 10), (.call (.mk (.value (.func 26)) #[(.tmp 9)] #[22])), none⟩,
   ⟨(some 11), (.binOp .add 9 (.tmp 10) (.const (.string (ByteArray.mk #[32, 104, 97, 110, 100, 32]))) 9), none⟩,
   ⟨(some 4), (.assign (.tmp 11)), none⟩])
 (.seq (.seq (.reg [⟨(some 12), (.fieldAddr 28 (.tmp 1) 2), none⟩,
   ⟨(some 13), (.load 3 (.tmp 12)), none⟩,
   ⟨(some 14), (.binOp .eql 3 (.tmp 13) (.const (.int .i64 0)) 3), none⟩])
 (.cond (.tmp 14) (.reg [⟨(some 15), (.move (.tmp 4)), none⟩,
   ⟨(some 16), (.binOp .add 9 (.tmp 15) (.const (.string (ByteArray.mk #[45]))) 9), none⟩,
   ⟨(some 4), (.assign (.tmp 16)), none⟩]) (.reg [⟨(some 17), (.move (.tmp 4)), none⟩,
   ⟨(some 18), (.fieldAddr 28 (.tmp 1) 2), none⟩,
   ⟨(some 19), (.load 3 (.tmp 18)), none⟩,
   ⟨(some 20), (.call (.mk (.value (.func 27)) #[(.tmp 19)] #[3])), none⟩,
   ⟨(some 21), (.binOp .add 9 (.tmp 17) (.tmp 20) 9), none⟩,
   ⟨(some 4), (.assign (.tmp 21)), none⟩])))
 (.seq (.reg [⟨(some 22), (.move (.tmp 4)), none⟩,
   ⟨(some 23), (.binOp .add 9 (.tmp 22) (.const (.string (ByteArray.mk #[32, 111, 117, 116, 32]))) 9), none⟩,
   ⟨(some 24), (.fieldAddr 28 (.tmp 1) 3), none⟩,
   ⟨(some 25), (.load 22 (.tmp 24)), none⟩,
   ⟨(some 26), (.call (.mk (.value (.func 26)) #[(.tmp 25)] #[22])), none⟩,
   ⟨(some 27), (.binOp .add 9 (.tmp 23) (.tmp 26) 9), none⟩,
   ⟨(some 4), (.assign (.tmp 27)), none⟩])
 (.seq (.seq (.reg [⟨(some 28), (.fieldAddr 28 (.tmp 1) 4), none⟩,
   ⟨(some 29), (.load 4 (.tmp 28)), none⟩])
 (.cond (.tmp 29) (.reg [⟨(some 30), (.move (.tmp 4)), none⟩,
   ⟨(some 31), (.binOp .add 9 (.tmp 30) (.const (.string (ByteArray.mk #[32, 115, 101, 97, 108, 101, 100]))) 9), none⟩,
   ⟨(some 4), (.assign (.tmp 31)), none⟩]) .skip))
 (.seq (.reg [⟨(some 32), (.move (.tmp 4)), none⟩,
   ⟨(some 2), (.assign (.tmp 32)), none⟩,
   ⟨(some 3), (.assign (.const (.bool true))), none⟩])
 .ret)))))))
theorem x_spec_PuzzleText : Txt Tryd.prog 6 c_spec_PuzzleText [.tmp 2, .tmp 3] 1 := ⟨by kernel_rfl, by kernel_rfl, _, _, Tryd.func6, rfl, by kernel_rfl, by kernel_rfl, by kernel_rfl, rfl, by decide⟩
/-- loop.example/g01062/laws.toPuzzle -/
def c_laws_toPuzzle : Cd :=
 (.seq (.reg [⟨(some 1), (.box 24 (.tmp 0)), none⟩,
   ⟨(some 2), (.alloc 28), none⟩])
 (.seq (.reg [⟨(some 3), (.alloc 28), none⟩])
 (.seq (.reg [⟨(some 4), (.fieldAddr 24 (.tmp 1) 0), none⟩,
   ⟨(some 5), (.load 3 (.tmp 4)), none⟩,
   ⟨(some 6), (.fieldAddr 28 (.tmp 3) 0), none⟩,
   ⟨none, (.store 3 (.tmp 6) (.tmp 5)), none⟩])
 (.seq (.reg [⟨(some 7), (.fieldAddr 24 (.tmp 1) 1), none⟩,
   ⟨(some 8), (.load 22 (.tmp 7)), none⟩,
   ⟨(some 9), (.call (.mk (.value (.func 28)) #[(.tmp 8)] #[22])), none⟩,
   ⟨(some 10), (.fieldAddr 28 (.tmp 3) 1), none⟩,
   ⟨none, (.store 22 (.tmp 10) (.tmp 9)), none⟩])
 (.seq (.reg [⟨(some 11), (.fieldAddr 24 (.tmp 1) 2), none⟩,
   ⟨(some 12), (.load 3 (.tmp 11)), none⟩,
   ⟨(some 13), (.fieldAddr 28 (.tmp 3) 2), none⟩,
   ⟨none, (.store 3 (.tmp 13) (.tmp 12)), none⟩])
 (.seq (.reg [⟨(some 14), (.fieldAddr 24 (.tmp 1) 3), none⟩,
   ⟨(some 15), (.load 22 (.tmp 14)), none⟩,
   ⟨(some 16), (.call (.mk (.value (.func 28)) #[(.tmp 15)] #[22])), none⟩,
   ⟨(some 17), (.fieldAddr 28 (.tmp 3) 3), none⟩,
   ⟨none, (.store 22 (.tmp 17) (.tmp 16)), none⟩])
 (.seq (.reg [⟨(some 18), (.fieldAddr 24 (.tmp 1) 4), none⟩,
   ⟨(some 19), (.load 4 (.tmp 18)), none⟩,
   ⟨(some 20), (.fieldAddr 28 (.tmp 3) 4), none⟩,
   ⟨none, (.store 4 (.tmp 20) (.tmp 19)), none⟩])
 (.seq (.reg [⟨(some 21), (.load 28 (.tmp 3)), none⟩,
   ⟨none, (.store 28 (.tmp 2) (.tmp 21)), none⟩])
 .ret))))))))
theorem x_laws_toPuzzle : Txt Tryd.prog 7 c_laws_toPuzzle [.cell 2 28] 1 := ⟨by kernel_rfl, by kernel_rfl, _, _, Tryd.func7, rfl, by kernel_rfl, by kernel_rfl, by kernel_rfl, rfl, by decide⟩
/-- loop.example/g01062/impl.PuzzleText -/
def c_impl_PuzzleText : Cd :=
 (.seq (.reg [⟨(some 1), (.box 28 (.tmp 0)), none⟩,
   ⟨(some 2), (.assign (.const (.string (ByteArray.mk #[])))), none⟩,
   ⟨(some 3), (.assign (.const (.bool false))), none⟩])
 (.seq (.seq (.reg [⟨(some 6), (.call (.mk (.value (.func 29)) #[(.tmp 1)] #[56])), none⟩,
   ⟨(some 7), (.unOp .not 4 (.tmp 6)), none⟩])
 (.cond (.tmp 7) (.seq (.reg [⟨(some 2), (.assign (.const (.string (ByteArray.mk #[])))), none⟩,
   ⟨(some 3), (.assign (.const (.bool false))), none⟩])
 .ret) .skip))
 (.seq (.reg [⟨(some 4), (.assign (.const (.string (ByteArray.mk #[45])))), none⟩])
 (.seq (.seq (.reg [⟨(some 8), (.fieldAddr 28 (.tmp 1) 2), none⟩,
   ⟨(some 9), (.load 3 (.tmp 8)), none⟩,
   ⟨(some 10), (.binOp .gtr 3 (.tmp 9) (.const (.int .i64 0)) 3), none⟩])
 (.cond (.tmp 10) (.reg [⟨(some 11), (.fieldAddr 28 (.tmp 1) 2), none⟩,
   ⟨(some 12), (.load 3 (.tmp 11)), none⟩,
   ⟨(some 13), (.call (.mk (.value (.func 30)) #[(.tmp 12)] #[3])), none⟩,
   ⟨(some 4), (.assign (.tmp 13)), none⟩]) .skip))
 (.seq (.regq [⟨(some 14), (.fieldAddr 28 (.tmp 1) 1), none⟩,
   ⟨(some 15), (.load 22 (.tmp 14)), none⟩,
   ⟨(some 16), (.call (.mk (.value (.func 31)) #[(.tmp 15)] #[22])), none⟩,
   ⟨(some 17), (.binOp .add 9 (.tmp 16) (.const (.string (ByteArray.mk #[32, 104, 97, 110, 100, 32]))) 9), none⟩,
   ⟨(some 18), (.move (.tmp 4)), none⟩,
   ⟨(some 19), (.binOp .add 9 (.tmp 17) (.tmp 18) 9), none⟩,
   ⟨(some 20), (.binOp .add 9 (.tmp 19) (.const (.string (ByteArray.mk #[32, 111, 117, 116, 32]))) 9), none⟩,
   ⟨(some 21), (.fieldAddr 28 (.tmp 1) 3), none⟩,
   ⟨(some 22), (.load 22 (.tmp 21)), none⟩,
   ⟨(some 23), (.call (.mk (.value (.func 31)) #[(.tmp 22)] #[22])), none⟩,
   ⟨(some 24), (.binOp .add 9 (.tmp 20) (.tmp 23) 9), none⟩,
   ⟨(some 5), (.assign (.tmp 24)), none⟩])
 (.seq (.seq (.reg [⟨(some 25), (.fieldAddr 28 (.tmp 1) 4), none⟩,
   ⟨(some 26), (.load 4 (.tmp 25)), none⟩])
 (.cond (.tmp 26) (.reg [⟨(some 27), (.move (.tmp 5)), none⟩,
   ⟨(some 28), (.binOp .add 9 (.tmp 27) (.const (.string (ByteArray.mk #[32, 115, 101, 97, 108, 101, 100]))) 9), none⟩,
   ⟨(some 5), (.assign (.tmp 28)), none⟩]) .skip))
 (.seq (.reg [⟨(some 29), (.move (.tmp 5)), none⟩,
   ⟨(some 2), (.assign (.tmp 29)), none⟩,
   ⟨(some 3), (.assign (.const (.bool true))), none⟩])
 .ret)))))))
theorem x_impl_PuzzleText : Txt Tryd.prog 8 c_impl_PuzzleText [.tmp 2, .tmp 3] 1 := ⟨by kernel_rfl, by kernel_rfl, _, _, Tryd.func8, rfl, by kernel_rfl, by kernel_rfl, by kernel_rfl, rfl, by decide⟩
/-- loop.example/g01062/laws.eqPuzzle -/
def c_laws_eqPuzzle : Cd :=
 (.seq (.reg [⟨(some 2), (.box 28 (.tmp 0)), none⟩,
   ⟨(some 3), (.box 28 (.tmp 1)), none⟩,
   ⟨(some 4), (.assign (.const (.bool false))), none⟩])
 (.seq (.seq (.reg [⟨(some 5), (.fieldAddr 28 (.tmp 2) 0), none⟩,
   ⟨(some 6), (.load 3 (.tmp 5)), none⟩,
   ⟨(some 7), (.fieldAddr 28 (.tmp 3) 0), none⟩,
   ⟨(some 8), (.load 3 (.tmp 7)), none⟩,
   ⟨(some 9), (.binOp .neq 3 (.tmp 6) (.tmp 8) 3), none⟩])
 (.cond (.tmp 9) (.seq (.reg [⟨(some 4), (.assign (.const (.bool false))), none⟩])
 .ret) .skip))
 (.seq (.seq (.reg [⟨(some 10), (.fieldAddr 28 (.tmp 2) 1), none⟩,
   ⟨(some 11), (.load 22 (.tmp 10)), none⟩,
   ⟨(some 12), (.fieldAddr 28 (.tmp 3) 1), none⟩,
   ⟨(some 13), (.load 22 (.tmp 12)), none⟩,
   ⟨(some 14), (.call (.mk (.value (.func 32)) #[(.tmp 11), (.tmp 13)] #[22, 22])), none⟩,
   ⟨(some 15), (.unOp .not 4 (.tmp 14)), none⟩])
 (.cond (.tmp 15) (.seq (.reg [⟨(some 4), (.assign (.const (.bool false))), none⟩])
 .ret) .skip))
 (.seq (.seq (.reg [⟨(some 16), (.fieldAddr 28 (.tmp 2) 2), none⟩,
   ⟨(some 17), (.load 3 (.tmp 16)), none⟩,
   ⟨(some 18), (.fieldAddr 28 (.tmp 3) 2), none⟩,
   ⟨(some 19), (.load 3 (.tmp 18)), none⟩,
   ⟨(some 20), (.binOp .neq 3 (.tmp 17) (.tmp 19) 3), none⟩])
 (.cond (.tmp 20) (.seq (.reg [⟨(some 4), (.assign (.const (.bool false))), none⟩])
 .ret) .skip))
 (.seq (.seq (.reg [⟨(some 21), (.fieldAddr 28 (.tmp 2) 3), none⟩,
   ⟨(some 22), (.load 22 (.tmp 21)), none⟩,
   ⟨(some 23), (.fieldAddr 28 (.tmp 3) 3), none⟩,
   ⟨(some 24), (.load 22 (.tmp 23)), none⟩,
   ⟨(some 25), (.call (.mk (.value (.func 32)) #[(.tmp 22), (.tmp 24)] #[22, 22])), none⟩,
   ⟨(some 26), (.unOp .not 4 (.tmp 25)), none⟩])
 (.cond (.tmp 26) (.seq (.reg [⟨(some 4), (.assign (.const (.bool false))), none⟩])
 .ret) .skip))
 (.seq (.seq (.reg [⟨(some 27), (.fieldAddr 28 (.tmp 2) 4), none⟩,
   ⟨(some 28), (.load 4 (.tmp 27)), none⟩,
   ⟨(some 29), (.fieldAddr 28 (.tmp 3) 4), none⟩,
   ⟨(some 30), (.load 4 (.tmp 29)), none⟩,
   ⟨(some 31), (.binOp .neq 4 (.tmp 28) (.tmp 30) 4), none⟩])
 (.cond (.tmp 31) (.seq (.reg [⟨(some 4), (.assign (.const (.bool false))), none⟩])
 .ret) .skip))
 (.seq (.reg [⟨(some 4), (.assign (.const (.bool true))), none⟩])
 .ret)))))))
theorem x_laws_eqPuzzle : Txt Tryd.prog 9 c_laws_eqPuzzle [.tmp 4] 2 := ⟨by kernel_rfl, by kernel_rfl, _, _, Tryd.func9, rfl, by kernel_rfl, by kernel_rfl, by kernel_rfl, rfl, by decide⟩
/-- loop.example/g01062/laws.szIntS -/
def c_laws_szIntS : Cd :=
 (.seq (.reg [⟨(some 4), (.assign (.const (.int .i64 0))), none⟩])
 (.seq (.reg [⟨(some 5), (.move (.tmp 1)), none⟩,
   ⟨(some 6), (.move (.tmp 0)), none⟩,
   ⟨(some 7), (.call (.mk (.builtin .len) #[(.tmp 6)] #[22])), none⟩,
   ⟨(some 8), (.binOp .sub 3 (.tmp 5) (.tmp 7) 3), none⟩,
   ⟨(some 1), (.assign (.tmp 8)), none⟩])
 (.seq (.seq (.reg [⟨(some 9), (.move (.tmp 1)), none⟩,
   ⟨(some 10), (.binOp .lss 3 (.tmp 9) (.const (.int .i64 0)) 3), none⟩])
 (.cond (.tmp 10) (.seq (.reg [⟨(some 4), (.assign (.const (.int .i64 (-1)))), none⟩])
 .ret) .skip))
 (.seq (.reg [⟨(some 11), (.move (.tmp 1)), none⟩,
   ⟨(some 4), (.assign (.tmp 11)), none⟩])
 .ret))))
theorem x_laws_szIntS : Txt Tryd.prog 24 c_laws_szIntS [.tmp 4] 2 := ⟨by kernel_rfl, by kernel_rfl, _, _, Tryd.func24, rfl, by kernel_rfl, by kernel_rfl, by kernel_rfl, rfl, by decide⟩
/-- loop.example/g01062/spec.l21Good -/
def c_spec_l21Good : Cd :=
 (.seq (.reg [⟨(some 1), (.box 28 (.tmp 0)), none⟩,
   ⟨(some 2), (.assign (.const (.bool false))), none⟩])
 (.seq (.seq (.reg [⟨(some 5), (.fieldAddr 28 (.tmp 1) 0), none⟩,
   ⟨(some 6), (.load 3 (.tmp 5)), none⟩,
   ⟨(some 7), (.call (.mk (.value (.func 44)) #[(.tmp 6), (.const (.int .i64 1)), (.const (.int .i64 20))] #[3, 3, 3])), none⟩,
   ⟨(some 8), (.unOp .not 4 (.tmp 7)), none⟩,
   ⟨(some 9), (.move (.tmp 8)), none⟩,
   ⟨(some 10), (.fieldAddr 28 (.tmp 1) 2), (some (9, false))⟩,
   ⟨(some 11), (.load 3 (.tmp 10)), (some (9, false))⟩,
   ⟨(some 12), (.fieldAddr 28 (.tmp 1) 0), (some (9, false))⟩,
   ⟨(some 13), (.load 3 (.tmp 12)), (some (9, false))⟩,
   ⟨(some 14), (.call (.mk (.value (.func 44)) #[(.tmp 11), (.const (.int .i64 0)), (.tmp 13)] #[3, 3, 3])), (some (9, false))⟩,
   ⟨(some 15), (.unOp .not 4 (.tmp 14)), (some (9, false))⟩,
   ⟨(some 16), (.pick (.tmp 9) (.const (.bool true)) (.tmp 15)), none⟩,
   ⟨(some 17), (.move (.tmp 16)), none⟩,
   ⟨(some 18), (.fieldAddr 28 (.tmp 1) 1), (some (17, false))⟩,
   ⟨(some 19), (.load 22 (.tmp 18)), (some (17, false))⟩,
   ⟨(some 20), (.call (.mk (.builtin .len) #[(.tmp 19)] #[22])), (some (17, false))⟩,
   ⟨(some 21), (.fieldAddr 28 (.tmp 1) 0), (some (17, false))⟩,
   ⟨(some 22), (.load 3 (.tmp 21)), (some (17, false))⟩,
   ⟨(some 23), (.binOp .gtr 3 (.tmp 20) (.tmp 22) 3), (some (17, false))⟩,
   ⟨(some 24), (.pick (.tmp 17) (.const (.bool true)) (.tmp 23)), none⟩,
   ⟨(some 25), (.move (.tmp 24)), none⟩,
   ⟨(some 26), (.fieldAddr 28 (.tmp 1) 3), (some (25, false))⟩,
   ⟨(some 27), (.load 22 (.tmp 26)), (some (25, false))⟩,
   ⟨(some 28), (.fieldAddr 28 (.tmp 1) 0), (some (25, false))⟩,
   ⟨(some 29), (.load 3 (.tmp 28)), (some (25, false))⟩,
   ⟨(some 30), (.call (.mk (.value (.func 45)) #[(.tmp 27), (.const (.int .i64 1)), (.tmp 29)] #[22, 3, 3])), (some (25, false))⟩,
   ⟨(some 31), (.unOp .not 4 (.tmp 30)), (some (25, false))⟩,
   ⟨(some 32), (.pick (.tmp 25) (.const (.bool true)) (.tmp 31)), none⟩])
 (.cond (.tmp 32) (.seq (.reg [⟨(some 2), (.assign (.const (.bool false))), none⟩])
 .ret) .skip))
 (.seq (.seq (.reg [⟨(some 3), (.assign (.const (.int .i64 0))), none⟩])
 (.block 0 (.loop (.seq (.seq (.reg [⟨(some 33), (.move (.tmp 3)), none⟩,
   ⟨(some 34), (.fieldAddr 28 (.tmp 1) 1), none⟩,
   ⟨(some 35), (.load 22 (.tmp 34)), none⟩,
   ⟨(some 36), (.call (.mk (.builtin .len) #[(.tmp 35)] #[22])), none⟩,
   ⟨(some 37), (.binOp .lss 3 (.tmp 33) (.tmp 36) 3), none⟩])
 (.cond (.tmp 37) .skip (.exit 0)))
 (.seq (.block 1 (.seq (.reg [⟨(some 40), (.fieldAddr 28 (.tmp 1) 1), none⟩,
   ⟨(some 41), (.load 22 (.tmp 40)), none⟩,
   ⟨(some 42), (.move (.tmp 3)), none⟩,
   ⟨(some 43), (.indexAddr 22 (.tmp 41) (.tmp 42)), none⟩,
   ⟨(some 44), (.load 3 (.tmp 43)), none⟩,
   ⟨(some 4), (.assign (.tmp 44)), none⟩])
 (.seq (.reg [⟨(some 45), (.move (.tmp 4)), none⟩,
   ⟨(some 46), (.fieldAddr 28 (.tmp 1) 0), none⟩,
   ⟨(some 47), (.load 3 (.tmp 46)), none⟩,
   ⟨(some 48), (.call (.mk (.value (.func 44)) #[(.tmp 45), (.const (.int .i64 1)), (.tmp 47)] #[3, 3, 3])), none⟩,
   ⟨(some 49), (.unOp .not 4 (.tmp 48)), none⟩,
   ⟨(some 50), (.move (.tmp 49)), none⟩,
   ⟨(some 51), (.move (.tmp 4)), (some (50, false))⟩,
   ⟨(some 52), (.fieldAddr 28 (.tmp 1) 2), (some (50, false))⟩,
   ⟨(some 53), (.load 3 (.tmp 52)), (some (50, false))⟩,
   ⟨(some 54), (.binOp .eql 3 (.tmp 51) (.tmp 53) 3), (some (50, false))⟩,
   ⟨(some 55), (.pick (.tmp 50) (.const (.bool true)) (.tmp 54)), none⟩,
   ⟨(some 56), (.move (.tmp 55)), none⟩,
   ⟨(some 57), (.fieldAddr 28 (.tmp 1) 1), (some (56, false))⟩,
   ⟨(some 58), (.load 22 (.tmp 57)), (some (56, false))⟩,
   ⟨(some 59), (.move (.tmp 3)), (some (56, false))⟩,
   ⟨(some 60), (.slice 22 (.tmp 58) none (some (.tmp 59)) none), (some (56, false))⟩,
   ⟨(some 61), (.move (.tmp 4)), (some (56, false))⟩,
   ⟨(some 62), (.call (.mk (.value (.func 46)) #[(.tmp 60), (.tmp 61)] #[22, 3])), (some (56, false))⟩,
   ⟨(some 63), (.pick (.tmp 56) (.const (.bool true)) (.tmp 62)), none⟩,
   ⟨(some 64), (.move (.tmp 63)), none⟩,
   ⟨(some 65), (.fieldAddr 28 (.tmp 1) 3), (some (64, false))⟩,
   ⟨(some 66), (.load 22 (.tmp 65)), (some (64, false))⟩,
   ⟨(some 67), (.move (.tmp 4)), (some (64, false))⟩,
   ⟨(some 68), (.call (.mk (.value (.func 46)) #[(.tmp 66), (.tmp 67)] #[22, 3])), (some (64, false))⟩,
   ⟨(some 69), (.pick (.tmp 64) (.const (.bool true)) (.tmp 68)), none⟩])
 (.cond (.tmp 69) (.seq (.reg [⟨(some 2), (.assign (.const (.bool false))), none⟩])
 .ret) .skip))))
 (.reg [⟨(some 38), (.move (.tmp 3)), none⟩,
   ⟨(some 39), (.binOp .add 3 (.tmp 38) (.const (.int .i64 1)) 3), none⟩,
   ⟨(some 3), (.assign (.tmp 39)), none⟩]))))))
 (.seq (.seq (.reg [⟨(some 70), (.fieldAddr 28 (.tmp 1) 2), none⟩,
   ⟨(some 71), (.load 3 (.tmp 70)), none⟩,
   ⟨(some 72), (.binOp .gtr 3 (.tmp 71) (.const (.int .i64 0)) 3), none⟩,
   ⟨(some 73), (.move (.tmp 72)), none⟩,
   ⟨(some 74), (.fieldAddr 28 (.tmp 1) 3), (some (73, true))⟩,
   ⟨(some 75), (.load 22 (.tmp 74)), (some (73, true))⟩,
   ⟨(some 76), (.fieldAddr 28 (.tmp 1) 2), (some (73, true))⟩,
   ⟨(some 77), (.load 3 (.tmp 76)), (some (73, true))⟩,
   ⟨(some 78), (.call (.mk (.value (.func 46)) #[(.tmp 75), (.tmp 77)] #[22, 3])), (some (73, true))⟩,
   ⟨(some 79), (.pick (.tmp 73) (.tmp 78) (.const (.bool false))), none⟩])
 (.cond (.tmp 79) (.seq (.reg [⟨(some 2), (.assign (.const (.bool false))), none⟩])
 .ret) .skip))
 (.seq (.reg [⟨(some 80), (.fieldAddr 28 (.tmp 1) 4), none⟩,
   ⟨(some 81), (.load 4 (.tmp 80)), none⟩,
   ⟨(some 82), (.unOp .not 4 (.tmp 81)), none⟩,
   ⟨(some 83), (.move (.tmp 82)), none⟩,
   ⟨(some 84), (.fieldAddr 28 (.tmp 1) 2), (some (83, false))⟩,
   ⟨(some 85), (.load 3 (.tmp 84)), (some (83, false))⟩,
   ⟨(some 86), (.binOp .eql 3 (.tmp 85) (.const (.int .i64 0)) 3), (some (83, false))⟩,
   ⟨(some 87), (.move (.tmp 86)), (some (83, false))⟩,
   ⟨(some 88), (.load 28 (.tmp 1)), (some (87, true))⟩,
   ⟨(some 89), (.call (.mk (.value (.func 35)) #[(.tmp 88)] #[28])), (some (87, true))⟩,
   ⟨(some 90), (.call (.mk (.builtin .len) #[(.tmp 89)] #[22])), (some (87, true))⟩,
   ⟨(some 91), (.binOp .eql 3 (.tmp 90) (.const (.int .i64 0)) 3), (some (87, true))⟩,
   ⟨(some 92), (.pick (.tmp 87) (.tmp 91) (.const (.bool false))), (some (83, false))⟩,
   ⟨(some 93), (.pick (.tmp 83) (.const (.bool true)) (.tmp 92)), none⟩,
   ⟨(some 2), (.assign (.tmp 93)), none⟩])
 .ret)))))
theorem x_spec_l21Good : Txt Tryd.prog 25 c_spec_l21Good [.tmp 2] 1 := ⟨by kernel_rfl, by kernel_rfl, _, _, Tryd.func25, rfl, by kernel_rfl, by kernel_rfl, by kernel_rfl, rfl, by decide⟩
/-- loop.example/g01062/spec.l21List -/
def c_spec_l21List : Cd :=
 (.seq (.reg [⟨(some 2), (.assign (.const (.string (ByteArray.mk #[])))), none⟩])
 (.seq (.reg [⟨(some 3), (.assign (.const (.string (ByteArray.mk #[])))), none⟩])
 (.seq (.seq (.reg [⟨(some 4), (.assign (.const (.int .i64 0))), none⟩])
 (.block 0 (.loop (.seq (.seq (.reg [⟨(some 5), (.move (.tmp 4)), none⟩,
   ⟨(some 6), (.move (.tmp 0)), none⟩,
   ⟨(some 7), (.call (.mk (.builtin .len) #[(.tmp 6)] #[22])), none⟩,
   ⟨(some 8), (.binOp .lss 3 (.tmp 5) (.tmp 7) 3), none⟩])
 (.cond (.tmp 8) .skip (.exit 0)))
 (.seq (.block 1 (.seq (.seq (.reg [⟨(some 11), (.move (.tmp 4)), none⟩,
   ⟨(some 12), (.binOp .gtr 3 (.tmp 11) (.const (.int .i64 0)) 3), none⟩])
 (.cond (.tmp 12) (.reg [⟨(some 13), (.move (.tmp 3)), none⟩,
   ⟨(some 14), (.binOp .add 9 (.tmp 13) (.const (.string (ByteArray.mk #[44]))) 9), none⟩,
   ⟨(some 3), (.assign (.tmp 14)), none⟩]) .skip))
 (.reg [⟨(some 15), (.move (.tmp 3)), none⟩,
   ⟨(some 16), (.move (.tmp 0)), none⟩,
   ⟨(some 17), (.move (.tmp 4)), none⟩,
   ⟨(some 18), (.indexAddr 22 (.tmp 16) (.tmp 17)), none⟩,
   ⟨(some 19), (.load 3 (.tmp 18)), none⟩,
   ⟨(some 20), (.call (.mk (.value (.func 27)) #[(.tmp 19)] #[3])), none⟩,
   ⟨(some 21), (.binOp .add 9 (.tmp 15) (.tmp 20) 9), none⟩,
   ⟨(some 3), (.assign (.tmp 21)), none⟩])))
 (.reg [⟨(some 9), (.move (.tmp 4)), none⟩,
   ⟨(some 10), (.binOp .add 3 (.tmp 9) (.const (.int .i64 1)) 3), none⟩,
   ⟨(some 4), (.assign (.tmp 10)), none⟩]))))))
 (.seq (.seq (.reg [⟨(some 22), (.move (.tmp 3)), none⟩,
   ⟨(some 23), (.binOp .eql 9 (.tmp 22) (.const (.string (ByteArray.mk #[]))) 9), none⟩])
 (.cond (.tmp 23) (.seq (.reg [⟨(some 2), (.assign (.const (.string (ByteArray.mk #[45])))), none⟩])
 .ret) .skip))
 (.seq (.reg [⟨(some 24), (.move (.tmp 3)), none⟩,
   ⟨(some 2), (.assign (.tmp 24)), none⟩])
 .ret)))))
theorem x_spec_l21List : Txt Tryd.prog 26 c_spec_l21List [.tmp 2] 1 := ⟨by kernel_rfl, by kernel_rfl, _, _, Tryd.func26, rfl, by kernel_rfl, by kernel_rfl, by kernel_rfl, rfl, by decide⟩
/-- loop.example/g01062/spec.l1Num -/
def c_spec_l1Num : Cd :=
 (.seq (.reg [⟨(some 2), (.assign (.const (.string (ByteArray.mk #[])))), none⟩])
 (.seq (.seq (.reg [⟨(some 3), (.move (.tmp 0)), none⟩,
   ⟨(some 4), (.binOp .lss 3 (.tmp 3) (.const (.int .i64 0)) 3), none⟩])
 (.cond (.tmp 4) (.seq (.reg [⟨(some 5), (.move (.tmp 0)), none⟩,
   ⟨(some 6), (.unOp .neg 3 (.tmp 5)), none⟩,
   ⟨(some 7), (.call (.mk (.value (.func 27)) #[(.tmp 6)] #[3])), none⟩,
   ⟨(some 8), (.binOp .add 9 (.const (.string (ByteArray.mk #[45]))) (.tmp 7) 9), none⟩,
   ⟨(some 2), (.assign (.tmp 8)), none⟩])
 .ret) .skip))
 (.seq (.seq (.reg [⟨(some 9), (.move (.tmp 0)), none⟩,
   ⟨(some 10), (.binOp .lss 3 (.tmp 9) (.const (.int .i64 10)) 3), none⟩])
 (.cond (.tmp 10) (.seq (.reg [⟨(some 11), (.move (.tmp 0)), none⟩,
   ⟨(some 12), (.move (.tmp 0)), none⟩,
   ⟨(some 13), (.binOp .add 3 (.tmp 12) (.const (.int .i64 1)) 3), none⟩,
   ⟨(some 14), (.slice 9 (.const (.string (ByteArray.mk #[48, 49, 50, 51, 52, 53, 54, 55, 56, 57]))) (some (.tmp 11)) (some (.tmp 13)) none), none⟩,
   ⟨(some 2), (.assign (.tmp 14)), none⟩])
 .ret) .skip))
 (.seq (.regq [⟨(some 15), (.move (.tmp 0)), none⟩,
   ⟨(some 16), (.binOp .quo 3 (.tmp 15) (.const (.int .i64 10)) 3), none⟩,
   ⟨(some 17), (.call (.mk (.value (.func 27)) #[(.tmp 16)] #[3])), none⟩,
   ⟨(some 18), (.move (.tmp 0)), none⟩,
   ⟨(some 19), (.binOp .rem 3 (.tmp 18) (.const (.int .i64 10)) 3), none⟩,
   ⟨(some 20), (.move (.tmp 0)), none⟩,
   ⟨(some 21), (.binOp .rem 3 (.tmp 20) (.const (.int .i64 10)) 3), none⟩,
   ⟨(some 22), (.binOp .add 3 (.tmp 21) (.const (.int .i64 1)) 3), none⟩,
   ⟨(some 23), (.slice 9 (.const (.string (ByteArray.mk #[48, 49, 50, 51, 52, 53, 54, 55, 56, 57]))) (some (.tmp 19)) (some (.tmp 22)) none), none⟩,
   ⟨(some 24), (.binOp .add 9 (.tmp 17) (.tmp 23) 9), none⟩,
   ⟨(some 2), (.assign (.tmp 24)), none⟩])
 .ret))))
theorem x_spec_l1Num : Txt Tryd.prog 27 c_spec_l1Num [.tmp 2] 1 := ⟨by kernel_rfl, by kernel_rfl, _, _, Tryd.func27, rfl, by kernel_rfl, by kernel_rfl, by kernel_rfl, rfl, by decide⟩
/-- loop.example/g01062/laws.toIntS -/
def c_laws_toIntS : Cd :=
 (.seq (.reg [⟨(some 2), (.assign (.const (.slice none 0 0))), none⟩])
 (.seq (.reg [⟨(some 5), (.move (.tmp 0)), none⟩,
   ⟨(some 6), (.call (.mk (.builtin .len) #[(.tmp 5)] #[22])), none⟩,
   ⟨(some 7), (.makeSlice 22 (.tmp 6) (.tmp 6)), none⟩,
   ⟨(some 3), (.assign (.tmp 7)), none⟩])
 (.seq (.seq (.reg [⟨(some 4), (.assign (.const (.int .i64 0))), none⟩])
 (.block 0 (.loop (.seq (.seq (.reg [⟨(some 8), (.move (.tmp 4)), none⟩,
   ⟨(some 9), (.move (.tmp 0)), none⟩,
   ⟨(some 10), (.call (.mk (.builtin .len) #[(.tmp 9)] #[22])), none⟩,
   ⟨(some 11), (.binOp .lss 3 (.tmp 8) (.tmp 10) 3), none⟩])
 (.cond (.tmp 11) .skip (.exit 0)))
 (.seq (.block 1 (.reg [⟨(some 14), (.move (.tmp 3)), none⟩,
   ⟨(some 15), (.move (.tmp 4)), none⟩,
   ⟨(some 16), (.move (.tmp 0)), none⟩,
   ⟨(some 17), (.move (.tmp 4)), none⟩,
   ⟨(some 18), (.indexAddr 22 (.tmp 16) (.tmp 17)), none⟩,
   ⟨(some 19), (.load 3 (.tmp 18)), none⟩,
   ⟨(some 20), (.indexAddr 22 (.tmp 14) (.tmp 15)), none⟩,
   ⟨none, (.store 3 (.tmp 20) (.tmp 19)), none⟩]))
 (.reg [⟨(some 12), (.move (.tmp 4)), none⟩,
   ⟨(some 13), (.binOp .add 3 (.tmp 12) (.const (.int .i64 1)) 3), none⟩,
   ⟨(some 4), (.assign (.tmp 13)), none⟩]))))))
 (.seq (.reg [⟨(some 21), (.move (.tmp 3)), none⟩,
   ⟨(some 2), (.assign (.tmp 21)), none⟩])
 .ret))))
theorem x_laws_toIntS : Txt Tryd.prog 28 c_laws_toIntS [.tmp 2] 1 := ⟨by kernel_rfl, by kernel_rfl, _, _, Tryd.func28, rfl, by kernel_rfl, by kernel_rfl, by kernel_rfl, rfl, by decide⟩
/-- loop.example/g01062/impl.isPuzzle -/
def c_impl_isPuzzle : Cd :=
 (.seq (.reg [⟨(some 2), (.assign (.const (.bool false))), none⟩])
 (.seq (.seq (.reg [⟨(some 6), (.move (.tmp 0)), none⟩,
   ⟨(some 7), (.nilCheck (.tmp 6)), none⟩,
   ⟨(some 8), (.fieldAddr 28 (.tmp 7) 0), none⟩,
   ⟨(some 9), (.load 3 (.tmp 8)), none⟩,
   ⟨(some 10), (.call (.mk (.value (.func 47)) #[(.tmp 9), (.const (.int .i64 1)), (.const (.int .i64 20))] #[3, 3, 3])), none⟩,
   ⟨(some 11), (.unOp .not 4 (.tmp 10)), none⟩,
   ⟨(some 12), (.move (.tmp 11)), none⟩,
   ⟨(some 13), (.move (.tmp 0)), (some (12, false))⟩,
   ⟨(some 14), (.nilCheck (.tmp 13)), (some (12, false))⟩,
   ⟨(some 15), (.fieldAddr 28 (.tmp 14) 3), (some (12, false))⟩,
   ⟨(some 16), (.load 22 (.tmp 15)), (some (12, false))⟩,
   ⟨(some 17), (.call (.mk (.value (.func 48)) #[(.tmp 16)] #[22])), (some (12, false))⟩,
   ⟨(some 18), (.unOp .not 4 (.tmp 17)), (some (12, false))⟩,
   ⟨(some 19), (.pick (.tmp 12) (.const (.bool true)) (.tmp 18)), none⟩])
 (.cond (.tmp 19) (.seq (.reg [⟨(some 2), (.assign (.const (.bool false))), none⟩])
 .ret) .skip))
 (.seq (.regt [⟨(some 20), (.move (.tmp 0)), none⟩,
   ⟨(some 21), (.nilCheck (.tmp 20)), none⟩,
   ⟨(some 22), (.fieldAddr 28 (.tmp 21) 1), none⟩,
   ⟨(some 23), (.load 22 (.tmp 22)), none⟩,
   ⟨(some 24), (.move (.tmp 0)), none⟩,
   ⟨(some 25), (.nilCheck (.tmp 24)), none⟩,
   ⟨(some 26), (.fieldAddr 28 (.tmp 25) 3), none⟩,
   ⟨(some 27), (.load 22 (.tmp 26)), none⟩] (.one false ⟨(some 28), (.buildSlice 80 2 #[(0, (.tmp 23)), (1, (.tmp 27))]), none⟩
   (.one false ⟨(some 29), (.call (.mk (.value (.func 49)) #[(.tmp 28)] #[80])), none⟩
   (.one false ⟨(some 3), (.assign (.tmp 29)), none⟩
   .done))) [])
 (.seq (.seq (.reg [⟨(some 30), (.move (.tmp 0)), none⟩,
   ⟨(some 31), (.nilCheck (.tmp 30)), none⟩,
   ⟨(some 32), (.fieldAddr 28 (.tmp 31) 2), none⟩,
   ⟨(some 33), (.load 3 (.tmp 32)), none⟩,
   ⟨(some 34), (.binOp .neq 3 (.tmp 33) (.const (.int .i64 0)) 3), none⟩])
 (.cond (.tmp 34) (.reg [⟨(some 35), (.move (.tmp 3)), none⟩,
   ⟨(some 36), (.move (.tmp 0)), none⟩,
   ⟨(some 37), (.nilCheck (.tmp 36)), none⟩,
   ⟨(some 38), (.fieldAddr 28 (.tmp 37) 2), none⟩,
   ⟨(some 39), (.load 3 (.tmp 38)), none⟩,
   ⟨(some 40), (.buildSlice 22 1 #[(0, (.tmp 39))]), none⟩,
   ⟨(some 41), (.call (.mk (.builtin .append) #[(.tmp 35), (.tmp 40)] #[22, 22])), none⟩,
   ⟨(some 3), (.assign (.tmp 41)), none⟩]) .skip))
 (.seq (.seq (.reg [⟨(some 42), (.move (.tmp 3)), none⟩,
   ⟨(some 43), (.call (.mk (.builtin .len) #[(.tmp 42)] #[22])), none⟩,
   ⟨(some 44), (.move (.const (.int .i64 0))), none⟩])
 (.block 0 (.loop (.seq (.reg [⟨(some 45), (.binOp .lss 3 (.tmp 44) (.tmp 43) 3), none⟩])
 (.seq (.cond (.tmp 45) .skip (.exit 0))
 (.seq (.block 1 (.seq (.reg [⟨(some 46), (.move (.tmp 44)), none⟩,
   ⟨(some 47), (.indexAddr 22 (.tmp 42) (.tmp 44)), none⟩,
   ⟨(some 48), (.load 3 (.tmp 47)), none⟩,
   ⟨(some 4), (.assign (.tmp 46)), none⟩,
   ⟨(some 5), (.assign (.tmp 48)), none⟩])
 (.seq (.reg [⟨(some 49), (.move (.tmp 5)), none⟩,
   ⟨(some 50), (.move (.tmp 0)), none⟩,
   ⟨(some 51), (.nilCheck (.tmp 50)), none⟩,
   ⟨(some 52), (.fieldAddr 28 (.tmp 51) 0), none⟩,
   ⟨(some 53), (.load 3 (.tmp 52)), none⟩,
   ⟨(some 54), (.call (.mk (.value (.func 47)) #[(.tmp 49), (.const (.int .i64 1)), (.tmp 53)] #[3, 3, 3])), none⟩,
   ⟨(some 55), (.unOp .not 4 (.tmp 54)), none⟩,
   ⟨(some 56), (.move (.tmp 55)), none⟩,
   ⟨(some 57), (.move (.tmp 3)), (some (56, false))⟩,
   ⟨(some 58), (.move (.tmp 4)), (some (56, false))⟩,
   ⟨(some 59), (.slice 22 (.tmp 57) none (some (.tmp 58)) none), (some (56, false))⟩,
   ⟨(some 60), (.move (.tmp 5)), (some (56, false))⟩,
   ⟨(some 61), (.call (.mk (.value (.func 50)) #[(.tmp 59), (.tmp 60)] #[22, 3])), (some (56, false))⟩,
   ⟨(some 62), (.pick (.tmp 56) (.const (.bool true)) (.tmp 61)), none⟩])
 (.cond (.tmp 62) (.seq (.reg [⟨(some 2), (.assign (.const (.bool false))), none⟩])
 .ret) .skip))))
 (.reg [⟨(some 63), (.binOp .add 3 (.tmp 44) (.const (.int .i64 1)) 3), none⟩,
   ⟨(some 44), (.move (.tmp 63)), none⟩])))))))
 (.seq (.reg [⟨(some 64), (.move (.tmp 0)), none⟩,
   ⟨(some 65), (.nilCheck (.tmp 64)), none⟩,
   ⟨(some 66), (.fieldAddr 28 (.tmp 65) 4), none⟩,
   ⟨(some 67), (.load 4 (.tmp 66)), none⟩,
   ⟨(some 68), (.unOp .not 4 (.tmp 67)), none⟩,
   ⟨(some 69), (.move (.tmp 68)), none⟩,
   ⟨(some 70), (.move (.tmp 0)), (some (69, false))⟩,
   ⟨(some 71), (.nilCheck (.tmp 70)), (some (69, false))⟩,
   ⟨(some 72), (.fieldAddr 28 (.tmp 71) 2), (some (69, false))⟩,
   ⟨(some 73), (.load 3 (.tmp 72)), (some (69, false))⟩,
   ⟨(some 74), (.binOp .eql 3 (.tmp 73) (.const (.int .i64 0)) 3), (some (69, false))⟩,
   ⟨(some 75), (.move (.tmp 74)), (some (69, false))⟩,
   ⟨(some 76), (.move (.tmp 3)), (some (75, true))⟩,
   ⟨(some 77), (.call (.mk (.builtin .len) #[(.tmp 76)] #[22])), (some (75, true))⟩,
   ⟨(some 78), (.move (.tmp 0)), (some (75, true))⟩,
   ⟨(some 79), (.nilCheck (.tmp 78)), (some (75, true))⟩,
   ⟨(some 80), (.fieldAddr 28 (.tmp 79) 0), (some (75, true))⟩,
   ⟨(some 81), (.load 3 (.tmp 80)), (some (75, true))⟩,
   ⟨(some 82), (.binOp .eql 3 (.tmp 77) (.tmp 81) 3), (some (75, true))⟩,
   ⟨(some 83), (.pick (.tmp 75) (.tmp 82) (.const (.bool false))), (some (69, false))⟩,
   ⟨(some 84), (.pick (.tmp 69) (.const (.bool true)) (.tmp 83)), none⟩,
   ⟨(some 2), (.assign (.tmp 84)), none⟩])
 .ret))))))
theorem x_impl_isPuzzle : Txt Tryd.prog 29 c_impl_isPuzzle [.tmp 2] 1 := ⟨by kernel_rfl, by kernel_rfl, _, _, Tryd.func29, rfl, by kernel_rfl, by kernel_rfl, by kernel_rfl, rfl, by decide⟩
/-- loop.example/g01062/impl.piecesText -/
def c_impl_piecesText : Cd :=
 (.seq (.reg [⟨(some 2), (.assign (.const (.string (ByteArray.mk #[])))), none⟩])
 (.seq (.seq (.reg [⟨(some 3), (.move (.tmp 0)), none⟩,
   ⟨(some 4), (.call (.mk (.builtin .len) #[(.tmp 3)] #[22])), none⟩,
   ⟨(some 5), (.binOp .eql 3 (.tmp 4) (.const (.int .i64 0)) 3), none⟩])
 (.cond (.tmp 5) (.seq (.reg [⟨(some 2), (.assign (.const (.string (ByteArray.mk #[45])))), none⟩])
 .ret) .skip))
 (.seq (.reg [⟨(some 6), (.move (.tmp 0)), none⟩,
   ⟨(some 7), (.call (.mk (.value (.func 52)) #[(.tmp 6), (.const (.string (ByteArray.mk #[44])))] #[22, 9])), none⟩,
   ⟨(some 2), (.assign (.tmp 7)), none⟩])
 .ret)))
theorem x_impl_piecesText : Txt Tryd.prog 31 c_impl_piecesText [.tmp 2] 1 := ⟨by kernel_rfl, by kernel_rfl, _, _, Tryd.func31, rfl, by kernel_rfl, by kernel_rfl, by kernel_rfl, rfl, by decide⟩
/-- loop.example/g01062/laws.eqIntS -/
def c_laws_eqIntS : Cd :=
 (.seq (.reg [⟨(some 4), (.assign (.const (.bool false))), none⟩])
 (.seq (.seq (.reg [⟨(some 6), (.move (.tmp 0)), none⟩,
   ⟨(some 7), (.call (.mk (.builtin .len) #[(.tmp 6)] #[22])), none⟩,
   ⟨(some 8), (.move (.tmp 1)), none⟩,
   ⟨(some 9), (.call (.mk (.builtin .len) #[(.tmp 8)] #[22])), none⟩,
   ⟨(some 10), (.binOp .neq 3 (.tmp 7) (.tmp 9) 3), none⟩])
 (.cond (.tmp 10) (.seq (.reg [⟨(some 4), (.assign (.const (.bool false))), none⟩])
 .ret) .skip))
 (.seq (.seq (.reg [⟨(some 5), (.assign (.const (.int .i64 0))), none⟩])
 (.block 0 (.loop (.seq (.seq (.reg [⟨(some 11), (.move (.tmp 5)), none⟩,
   ⟨(some 12), (.move (.tmp 0)), none⟩,
   ⟨(some 13), (.call (.mk (.builtin .len) #[(.tmp 12)] #[22])), none⟩,
   ⟨(some 14), (.binOp .lss 3 (.tmp 11) (.tmp 13) 3), none⟩])
 (.cond (.tmp 14) .skip (.exit 0)))
 (.seq (.block 1 (.seq (.regq [⟨(some 17), (.move (.tmp 0)), none⟩,
   ⟨(some 18), (.move (.tmp 5)), none⟩,
   ⟨(some 19), (.indexAddr 22 (.tmp 17) (.tmp 18)), none⟩,
   ⟨(some 20), (.load 3 (.tmp 19)), none⟩,
   ⟨(some 21), (.move (.tmp 1)), none⟩,
   ⟨(some 22), (.move (.tmp 5)), none⟩,
   ⟨(some 23), (.indexAddr 22 (.tmp 21) (.tmp 22)), none⟩,
   ⟨(some 24), (.load 3 (.tmp 23)), none⟩,
   ⟨(some 25), (.binOp .neq 3 (.tmp 20) (.tmp 24) 3), none⟩])
 (.cond (.tmp 25) (.seq (.reg [⟨(some 4), (.assign (.const (.bool false))), none⟩])
 .ret) .skip)))
 (.reg [⟨(some 15), (.move (.tmp 5)), none⟩,
   ⟨(some 16), (.binOp .add 3 (.tmp 15) (.const (.int .i64 1)) 3), none⟩,
   ⟨(some 5), (.assign (.tmp 16)), none⟩]))))))
 (.seq (.reg [⟨(some 4), (.assign (.const (.bool true))), none⟩])
 .ret))))
theorem x_laws_eqIntS : Txt Tryd.prog 32 c_laws_eqIntS [.tmp 4] 2 := ⟨by kernel_rfl, by kernel_rfl, _, _, Tryd.func32, rfl, by kernel_rfl, by kernel_rfl, by kernel_rfl, rfl, by decide⟩
/-- (*loop.example/g01062/impl.Puzzle).waiting -/
def c_impl_Puzzle_waiting : Cd :=
 (.seq (.reg [⟨(some 2), (.assign (.const (.slice none 0 0))), none⟩])
 (.seq (.reg [⟨(some 3), (.assign (.const (.slice none 0 0))), none⟩])
 (.seq (.seq (.reg [⟨(some 4), (.assign (.const (.int .i64 1))), none⟩])
 (.block 0 (.loop (.seq (.seq (.reg [⟨(some 5), (.move (.tmp 4)), none⟩,
   ⟨(some 6), (.move (.tmp 0)), none⟩,
   ⟨(some 7), (.nilCheck (.tmp 6)), none⟩,
   ⟨(some 8), (.fieldAddr 28 (.tmp 7) 0), none⟩,
   ⟨(some 9), (.load 3 (.tmp 8)), none⟩,
   ⟨(some 10), (.binOp .leq 3 (.tmp 5) (.tmp 9) 3), none⟩])
 (.cond (.tmp 10) .skip (.exit 0)))
 (.seq (.block 1 (.seq (.reg [⟨(some 13), (.move (.tmp 4)), none⟩,
   ⟨(some 14), (.move (.tmp 0)), none⟩,
   ⟨(some 15), (.nilCheck (.tmp 14)), none⟩,
   ⟨(some 16), (.fieldAddr 28 (.tmp 15) 2), none⟩,
   ⟨(some 17), (.load 3 (.tmp 16)), none⟩,
   ⟨(some 18), (.binOp .neq 3 (.tmp 13) (.tmp 17) 3), none⟩,
   ⟨(some 19), (.move (.tmp 18)), none⟩,
   ⟨(some 20), (.move (.tmp 0)), (some (19, true))⟩,
   ⟨(some 21), (.nilCheck (.tmp 20)), (some (19, true))⟩,
   ⟨(some 22), (.fieldAddr 28 (.tmp 21) 1), (some (19, true))⟩,
   ⟨(some 23), (.load 22 (.tmp 22)), (some (19, true))⟩,
   ⟨(some 24), (.move (.tmp 4)), (some (19, true))⟩,
   ⟨(some 25), (.call (.mk (.value (.func 50)) #[(.tmp 23), (.tmp 24)] #[22, 3])), (some (19, true))⟩,
   ⟨(some 26), (.unOp .not 4 (.tmp 25)), (some (19, true))⟩,
   ⟨(some 27), (.pick (.tmp 19) (.tmp 26) (.const (.bool false))), none⟩,
   ⟨(some 28), (.move (.tmp 27)), none⟩,
   ⟨(some 29), (.move (.tmp 0)), (some (28, true))⟩,
   ⟨(some 30), (.nilCheck (.tmp 29)), (some (28, true))⟩,
   ⟨(some 31), (.fieldAddr 28 (.tmp 30) 3), (some (28, true))⟩,
   ⟨(some 32), (.load 22 (.tmp 31)), (some (28, true))⟩,
   ⟨(some 33), (.move (.tmp 4)), (some (28, true))⟩,
   ⟨(some 34), (.call (.mk (.value (.func 50)) #[(.tmp 32), (.tmp 33)] #[22, 3])), (some (28, true))⟩,
   ⟨(some 35), (.unOp .not 4 (.tmp 34)), (some (28, true))⟩,
   ⟨(some 36), (.pick (.tmp 28) (.tmp 35) (.const (.bool false))), none⟩])
 (.cond (.tmp 36) (.reg [⟨(some 37), (.move (.tmp 3)), none⟩,
   ⟨(some 38), (.move (.tmp 4)), none⟩,
   ⟨(some 39), (.buildSlice 22 1 #[(0, (.tmp 38))]), none⟩,
   ⟨(some 40), (.call (.mk (.builtin .append) #[(.tmp 37), (.tmp 39)] #[22, 22])), none⟩,
   ⟨(some 3), (.assign (.tmp 40)), none⟩]) .skip)))
 (.reg [⟨(some 11), (.move (.tmp 4)), none⟩,
   ⟨(some 12), (.binOp .add 3 (.tmp 11) (.const (.int .i64 1)) 3), none⟩,
   ⟨(some 4), (.assign (.tmp 12)), none⟩]))))))
 (.seq (.reg [⟨(some 41), (.move (.tmp 3)), none⟩,
   ⟨(some 2), (.assign (.tmp 41)), none⟩])
 .ret))))
theorem x_impl_Puzzle_waiting : Txt Tryd.prog 34 c_impl_Puzzle_waiting [.tmp 2] 1 := ⟨by kernel_rfl, by kernel_rfl, _, _, Tryd.func34, rfl, by kernel_rfl, by kernel_rfl, by kernel_rfl, rfl, by decide⟩
/-- loop.example/g01062/spec.l21Waiting -/
def c_spec_l21Waiting : Cd :=
 (.seq (.reg [⟨(some 1), (.box 28 (.tmp 0)), none⟩,
   ⟨(some 2), (.assign (.const (.slice none 0 0))), none⟩])
 (.seq (.reg [⟨(some 5), (.buildSlice 22 0 #[]), none⟩,
   ⟨(some 3), (.assign (.tmp 5)), none⟩])
 (.seq (.seq (.reg [⟨(some 4), (.assign (.const (.int .i64 1))), none⟩])
 (.block 0 (.loop (.seq (.seq (.reg [⟨(some 6), (.move (.tmp 4)), none⟩,
   ⟨(some 7), (.fieldAddr 28 (.tmp 1) 0), none⟩,
   ⟨(some 8), (.load 3 (.tmp 7)), none⟩,
   ⟨(some 9), (.binOp .leq 3 (.tmp 6) (.tmp 8) 3), none⟩])
 (.cond (.tmp 9) .skip (.exit 0)))
 (.seq (.block 1 (.seq (.reg [⟨(some 12), (.move (.tmp 4)), none⟩,
   ⟨(some 13), (.fieldAddr 28 (.tmp 1) 2), none⟩,
   ⟨(some 14), (.load 3 (.tmp 13)), none⟩,
   ⟨(some 15), (.binOp .neq 3 (.tmp 12) (.tmp 14) 3), none⟩,
   ⟨(some 16), (.move (.tmp 15)), none⟩,
   ⟨(some 17), (.fieldAddr 28 (.tmp 1) 1), (some (16, true))⟩,
   ⟨(some 18), (.load 22 (.tmp 17)), (some (16, true))⟩,
   ⟨(some 19), (.move (.tmp 4)), (some (16, true))⟩,
   ⟨(some 20), (.call (.mk (.value (.func 46)) #[(.tmp 18), (.tmp 19)] #[22, 3])), (some (16, true))⟩,
   ⟨(some 21), (.unOp .not 4 (.tmp 20)), (some (16, true))⟩,
   ⟨(some 22), (.pick (.tmp 16) (.tmp 21) (.const (.bool false))), none⟩,
   ⟨(some 23), (.move (.tmp 22)), none⟩,
   ⟨(some 24), (.fieldAddr 28 (.tmp 1) 3), (some (23, true))⟩,
   ⟨(some 25), (.load 22 (.tmp 24)), (some (23, true))⟩,
   ⟨(some 26), (.move (.tmp 4)), (some (23, true))⟩,
   ⟨(some 27), (.call (.mk (.value (.func 46)) #[(.tmp 25), (.tmp 26)] #[22, 3])), (some (23, true))⟩,
   ⟨(some 28), (.unOp .not 4 (.tmp 27)), (some (23, true))⟩,
   ⟨(some 29), (.pick (.tmp 23) (.tmp 28) (.const (.bool false))), none⟩])
 (.cond (.tmp 29) (.reg [⟨(some 30), (.move (.tmp 3)), none⟩,
   ⟨(some 31), (.move (.tmp 4)), none⟩,
   ⟨(some 32), (.buildSlice 22 1 #[(0, (.tmp 31))]), none⟩,
   ⟨(some 33), (.call (.mk (.builtin .append) #[(.tmp 30), (.tmp 32)] #[22, 22])), none⟩,
   ⟨(some 3), (.assign (.tmp 33)), none⟩]) .skip)))
 (.reg [⟨(some 10), (.move (.tmp 4)), none⟩,
   ⟨(some 11), (.binOp .add 3 (.tmp 10) (.const (.int .i64 1)) 3), none⟩,
   ⟨(some 4), (.assign (.tmp 11)), none⟩]))))))
 (.seq (.reg [⟨(some 34), (.move (.tmp 3)), none⟩,
   ⟨(some 2), (.assign (.tmp 34)), none⟩])
 .ret))))
theorem x_spec_l21Waiting : Txt Tryd.prog 35 c_spec_l21Waiting [.tmp 2] 1 := ⟨by kernel_rfl, by kernel_rfl, _, _, Tryd.func35, rfl, by kernel_rfl, by kernel_rfl, by kernel_rfl, rfl, by decide⟩
/-- slices.Index[[]int,int] -/
def c_slices_Index_int : Cd :=
 (.seq (.reg [⟨(some 4), (.assign (.const (.int .i64 0))), none⟩])
 (.seq (.seq (.reg [⟨(some 6), (.move (.tmp 0)), none⟩,
   ⟨(some 7), (.call (.mk (.builtin .len) #[(.tmp 6)] #[22])), none⟩,
   ⟨(some 8), (.move (.const (.int .i64 0))), none⟩])
 (.block 0 (.loop (.seq (.reg [⟨(some 9), (.binOp .lss 3 (.tmp 8) (.tmp 7) 3), none⟩])
 (.seq (.cond (.tmp 9) .skip (.exit 0))
 (.seq (.block 1 (.seq (.reg [⟨(some 10), (.move (.tmp 8)), none⟩,
   ⟨(some 5), (.assign (.tmp 10)), none⟩])
 (.seq (.reg [⟨(some 11), (.move (.tmp 1)), none⟩,
   ⟨(some 12), (.move (.tmp 0)), none⟩,
   ⟨(some 13), (.move (.tmp 5)), none⟩,
   ⟨(some 14), (.indexAddr 22 (.tmp 12) (.tmp 13)), none⟩,
   ⟨(some 15), (.load 3 (.tmp 14)), none⟩,
   ⟨(some 16), (.binOp .eql 3 (.tmp 11) (.tmp 15) 3), none⟩])
 (.cond (.tmp 16) (.seq (.reg [⟨(some 17), (.move (.tmp 5)), none⟩,
   ⟨(some 4), (.assign (.tmp 17)), none⟩])
 .ret) .skip))))
 (.reg [⟨(some 18), (.binOp .add 3 (.tmp 8) (.const (.int .i64 1)) 3), none⟩,
   ⟨(some 8), (.move (.tmp 18)), none⟩])))))))
 (.seq (.reg [⟨(some 4), (.assign (.const (.int .i64 (-1)))), none⟩])
 .ret)))
theorem x_slices_Index_int : Txt Tryd.prog 43 c_slices_Index_int [.tmp 4] 2 := ⟨by kernel_rfl, by kernel_rfl, _, _, Tryd.func43, rfl, by kernel_rfl, by kernel_rfl, by kernel_rfl, rfl, by decide⟩
/-- loop.example/g01062/spec.l1In -/
def c_spec_l1In : Cd :=
 (.seq (.reg [⟨(some 6), (.assign (.const (.bool false))), none⟩])
 (.seq (.reg [⟨(some 7), (.move (.tmp 0)), none⟩,
   ⟨(some 8), (.move (.tmp 1)), none⟩,
   ⟨(some 9), (.binOp .geq 3 (.tmp 7) (.tmp 8) 3), none⟩,
   ⟨(some 10), (.move (.tmp 9)), none⟩,
   ⟨(some 11), (.move (.tmp 0)), (some (10, true))⟩,
   ⟨(some 12), (.move (.tmp 2)), (some (10, true))⟩,
   ⟨(some 13), (.binOp .leq 3 (.tmp 11) (.tmp 12) 3), (some (10, true))⟩,
   ⟨(some 14), (.pick (.tmp 10) (.tmp 13) (.const (.bool false))), none⟩,
   ⟨(some 6), (.assign (.tmp 14)), none⟩])
 .ret))
theorem x_spec_l1In : Txt Tryd.prog 44 c_spec_l1In [.tmp 6] 3 := ⟨by kernel_rfl, by kernel_rfl, _, _, Tryd.func44, rfl, by kernel_rfl, by kernel_rfl, by kernel_rfl, rfl, by decide⟩
/-- loop.example/g01062/spec.l1Rising -/
def c_spec_l1Rising : Cd :=
 (.seq (.reg [⟨(some 6), (.assign (.const (.bool false))), none⟩])
 (.seq (.seq (.reg [⟨(some 7), (.assign (.const (.int .i64 0))), none⟩])
 (.block 0 (.loop (.seq (.seq (.reg [⟨(some 8), (.move (.tmp 7)), none⟩,
   ⟨(some 9), (.move (.tmp 0)), none⟩,
   ⟨(some 10), (.call (.mk (.builtin .len) #[(.tmp 9)] #[22])), none⟩,
   ⟨(some 11), (.binOp .lss 3 (.tmp 8) (.tmp 10) 3), none⟩])
 (.cond (.tmp 11) .skip (.exit 0)))
 (.seq (.block 1 (.seq (.regq [⟨(some 14), (.move (.tmp 0)), none⟩,
   ⟨(some 15), (.move (.tmp 7)), none⟩,
   ⟨(some 16), (.indexAddr 22 (.tmp 14) (.tmp 15)), none⟩,
   ⟨(some 17), (.load 3 (.tmp 16)), none⟩,
   ⟨(some 18), (.move (.tmp 1)), none⟩,
   ⟨(some 19), (.move (.tmp 2)), none⟩,
   ⟨(some 20), (.call (.mk (.value (.func 44)) #[(.tmp 17), (.tmp 18), (.tmp 19)] #[3, 3, 3])), none⟩,
   ⟨(some 21), (.unOp .not 4 (.tmp 20)), none⟩,
   ⟨(some 22), (.move (.tmp 21)), none⟩,
   ⟨(some 23), (.move (.tmp 7)), (some (22, false))⟩,
   ⟨(some 24), (.binOp .gtr 3 (.tmp 23) (.const (.int .i64 0)) 3), (some (22, false))⟩,
   ⟨(some 25), (.move (.tmp 24)), (some (22, false))⟩,
   ⟨(some 26), (.move (.tmp 0)), (some (25, true))⟩,
   ⟨(some 27), (.move (.tmp 7)), (some (25, true))⟩,
   ⟨(some 28), (.binOp .sub 3 (.tmp 27) (.const (.int .i64 1)) 3), (some (25, true))⟩,
   ⟨(some 29), (.indexAddr 22 (.tmp 26) (.tmp 28)), (some (25, true))⟩,
   ⟨(some 30), (.load 3 (.tmp 29)), (some (25, true))⟩,
   ⟨(some 31), (.move (.tmp 0)), (some (25, true))⟩,
   ⟨(some 32), (.move (.tmp 7)), (some (25, true))⟩,
   ⟨(some 33), (.indexAddr 22 (.tmp 31) (.tmp 32)), (some (25, true))⟩,
   ⟨(some 34), (.load 3 (.tmp 33)), (some (25, true))⟩,
   ⟨(some 35), (.binOp .geq 3 (.tmp 30) (.tmp 34) 3), (some (25, true))⟩,
   ⟨(some 36), (.pick (.tmp 25) (.tmp 35) (.const (.bool false))), (some (22, false))⟩,
   ⟨(some 37), (.pick (.tmp 22) (.const (.bool true)) (.tmp 36)), none⟩])
 (.cond (.tmp 37) (.seq (.reg [⟨(some 6), (.assign (.const (.bool false))), none⟩])
 .ret) .skip)))
 (.reg [⟨(some 12), (.move (.tmp 7)), none⟩,
   ⟨(some 13), (.binOp .add 3 (.tmp 12) (.const (.int .i64 1)) 3), none⟩,
   ⟨(some 7), (.assign (.tmp 13)), none⟩]))))))
 (.seq (.reg [⟨(some 6), (.assign (.const (.bool true))), none⟩])
 .ret)))
theorem x_spec_l1Rising : Txt Tryd.prog 45 c_spec_l1Rising [.tmp 6] 3 := ⟨by kernel_rfl, by kernel_rfl, _, _, Tryd.func45, rfl, by kernel_rfl, by kernel_rfl, by kernel_rfl, rfl, by decide⟩
/-- loop.example/g01062/spec.l1Has -/
def c_spec_l1Has : Cd :=
 (.seq (.reg [⟨(some 4), (.assign (.const (.bool false))), none⟩])
 (.seq (.seq (.reg [⟨(some 5), (.assign (.const (.int .i64 0))), none⟩])
 (.block 0 (.loop (.seq (.seq (.reg [⟨(some 6), (.move (.tmp 5)), none⟩,
   ⟨(some 7), (.move (.tmp 0)), none⟩,
   ⟨(some 8), (.call (.mk (.builtin .len) #[(.tmp 7)] #[22])), none⟩,
   ⟨(some 9), (.binOp .lss 3 (.tmp 6) (.tmp 8) 3), none⟩])
 (.cond (.tmp 9) .skip (.exit 0)))
 (.seq (.block 1 (.seq (.reg [⟨(some 12), (.move (.tmp 0)), none⟩,
   ⟨(some 13), (.move (.tmp 5)), none⟩,
   ⟨(some 14), (.indexAddr 22 (.tmp 12) (.tmp 13)), none⟩,
   ⟨(some 15), (.load 3 (.tmp 14)), none⟩,
   ⟨(some 16), (.move (.tmp 1)), none⟩,
   ⟨(some 17), (.binOp .eql 3 (.tmp 15) (.tmp 16) 3), none⟩])
 (.cond (.tmp 17) (.seq (.reg [⟨(some 4), (.assign (.const (.bool true))), none⟩])
 .ret) .skip)))
 (.reg [⟨(some 10), (.move (.tmp 5)), none⟩,
   ⟨(some 11), (.binOp .add 3 (.tmp 10) (.const (.int .i64 1)) 3), none⟩,
   ⟨(some 5), (.assign (.tmp 11)), none⟩]))))))
 (.seq (.reg [⟨(some 4), (.assign (.const (.bool false))), none⟩])
 .ret)))
theorem x_spec_l1Has : Txt Tryd.prog 46 c_spec_l1Has [.tmp 4] 2 := ⟨by kernel_rfl, by kernel_rfl, _, _, Tryd.func46, rfl, by kernel_rfl, by kernel_rfl, by kernel_rfl, rfl, by decide⟩
/-- loop.example/g01062/impl.inRange -/
def c_impl_inRange : Cd :=
 (.seq (.reg [⟨(some 6), (.assign (.const (.bool false))), none⟩])
 (.seq (.reg [⟨(some 7), (.move (.tmp 0)), none⟩,
   ⟨(some 8), (.move (.tmp 1)), none⟩,
   ⟨(some 9), (.binOp .geq 3 (.tmp 7) (.tmp 8) 3), none⟩,
   ⟨(some 10), (.move (.tmp 9)), none⟩,
   ⟨(some 11), (.move (.tmp 0)), (some (10, true))⟩,
   ⟨(some 12), (.move (.tmp 2)), (some (10, true))⟩,
   ⟨(some 13), (.binOp .leq 3 (.tmp 11) (.tmp 12) 3), (some (10, true))⟩,
   ⟨(some 14), (.pick (.tmp 10) (.tmp 13) (.const (.bool false))), none⟩,
   ⟨(some 6), (.assign (.tmp 14)), none⟩])
 .ret))
theorem x_impl_inRange : Txt Tryd.prog 47 c_impl_inRange [.tmp 6] 3 := ⟨by kernel_rfl, by kernel_rfl, _, _, Tryd.func47, rfl, by kernel_rfl, by kernel_rfl, by kernel_rfl, rfl, by decide⟩
/-- loop.example/g01062/impl.ascending -/
def c_impl_ascending : Cd :=
 (.seq (.reg [⟨(some 2), (.assign (.const (.bool false))), none⟩])
 (.seq (.seq (.reg [⟨(some 3), (.assign (.const (.int .i64 1))), none⟩])
 (.block 0 (.loop (.seq (.seq (.reg [⟨(some 4), (.move (.tmp 3)), none⟩,
   ⟨(some 5), (.move (.tmp 0)), none⟩,
   ⟨(some 6), (.call (.mk (.builtin .len) #[(.tmp 5)] #[22])), none⟩,
   ⟨(some 7), (.binOp .lss 3 (.tmp 4) (.tmp 6) 3), none⟩])
 (.cond (.tmp 7) .skip (.exit 0)))
 (.seq (.block 1 (.seq (.regq [⟨(some 10), (.move (.tmp 0)), none⟩,
   ⟨(some 11), (.move (.tmp 3)), none⟩,
   ⟨(some 12), (.binOp .sub 3 (.tmp 11) (.const (.int .i64 1)) 3), none⟩,
   ⟨(some 13), (.indexAddr 22 (.tmp 10) (.tmp 12)), none⟩,
   ⟨(some 14), (.load 3 (.tmp 13)), none⟩,
   ⟨(some 15), (.move (.tmp 0)), none⟩,
   ⟨(some 16), (.move (.tmp 3)), none⟩,
   ⟨(some 17), (.indexAddr 22 (.tmp 15) (.tmp 16)), none⟩,
   ⟨(some 18), (.load 3 (.tmp 17)), none⟩,
   ⟨(some 19), (.binOp .geq 3 (.tmp 14) (.tmp 18) 3), none⟩])
 (.cond (.tmp 19) (.seq (.reg [⟨(some 2), (.assign (.const (.bool false))), none⟩])
 .ret) .skip)))
 (.reg [⟨(some 8), (.move (.tmp 3)), none⟩,
   ⟨(some 9), (.binOp .add 3 (.tmp 8) (.const (.int .i64 1)) 3), none⟩,
   ⟨(some 3), (.assign (.tmp 9)), none⟩]))))))
 (.seq (.reg [⟨(some 2), (.assign (.const (.bool true))), none⟩])
 .ret)))
theorem x_impl_ascending : Txt Tryd.prog 48 c_impl_ascending [.tmp 2] 1 := ⟨by kernel_rfl, by kernel_rfl, _, _, Tryd.func48, rfl, by kernel_rfl, by kernel_rfl, by kernel_rfl, rfl, by decide⟩
/-- slices.Concat[[]int,int] -/
def c_slices_Concat_int : Cd :=
 (.seq (.reg [⟨(some 2), (.assign (.const (.slice none 0 0))), none⟩])
 (.seq (.reg [⟨(some 3), (.assign (.const (.int .i64 0))), none⟩])
 (.seq (.seq (.reg [⟨(some 9), (.move (.tmp 0)), none⟩,
   ⟨(some 10), (.call (.mk (.builtin .len) #[(.tmp 9)] #[80])), none⟩,
   ⟨(some 11), (.move (.const (.int .i64 0))), none⟩])
 (.block 0 (.loop (.seq (.reg [⟨(some 12), (.binOp .lss 3 (.tmp 11) (.tmp 10) 3), none⟩])
 (.seq (.cond (.tmp 12) .skip (.exit 0))
 (.seq (.block 1 (.seq (.reg [⟨(some 13), (.indexAddr 80 (.tmp 9) (.tmp 11)), none⟩,
   ⟨(some 14), (.load 22 (.tmp 13)), none⟩,
   ⟨(some 5), (.assign (.tmp 14)), none⟩])
 (.seq (.reg [⟨(some 15), (.move (.tmp 3)), none⟩,
   ⟨(some 16), (.move (.tmp 5)), none⟩,
   ⟨(some 17), (.call (.mk (.builtin .len) #[(.tmp 16)] #[22])), none⟩,
   ⟨(some 18), (.binOp .add 3 (.tmp 15) (.tmp 17) 3), none⟩,
   ⟨(some 3), (.assign (.tmp 18)), none⟩])
 (.seq (.reg [⟨(some 19), (.move (.tmp 3)), none⟩,
   ⟨(some 20), (.binOp .lss 3 (.tmp 19) (.const (.int .i64 0)) 3), none⟩])
 (.cond (.tmp 20) (.reg [⟨(some 21), (.makeInterface 9 (.const (.string (ByteArray.mk #[108, 101, 110, 32, 111, 117, 116, 32, 111, 102, 32, 114, 97, 110, 103, 101])))), none⟩,
   ⟨none, (.panic (.tmp 21)), none⟩]) .skip)))))
 (.reg [⟨(some 22), (.binOp .add 3 (.tmp 11) (.const (.int .i64 1)) 3), none⟩,
   ⟨(some 11), (.move (.tmp 22)), none⟩])))))))
 (.seq (.reg [⟨(some 23), (.move (.tmp 3)), none⟩,
   ⟨(some 24), (.call (.mk (.value (.func 59)) #[(.const (.slice none 0 0)), (.tmp 23)] #[22, 3])), none⟩,
   ⟨(some 6), (.assign (.tmp 24)), none⟩])
 (.seq (.seq (.reg [⟨(some 25), (.move (.tmp 0)), none⟩,
   ⟨(some 26), (.call (.mk (.builtin .len) #[(.tmp 25)] #[80])), none⟩,
   ⟨(some 27), (.move (.const (.int .i64 0))), none⟩])
 (.block 2 (.loop (.seq (.reg [⟨(some 28), (.binOp .lss 3 (.tmp 27) (.tmp 26) 3), none⟩])
 (.seq (.cond (.tmp 28) .skip (.exit 2))
 (.seq (.block 3 (.seq (.reg [⟨(some 29), (.indexAddr 80 (.tmp 25) (.tmp 27)), none⟩,
   ⟨(some 30), (.load 22 (.tmp 29)), none⟩,
   ⟨(some 8), (.assign (.tmp 30)), none⟩])
 (.reg [⟨(some 31), (.move (.tmp 6)), none⟩,
   ⟨(some 32), (.move (.tmp 8)), none⟩,
   ⟨(some 33), (.call (.mk (.builtin .append) #[(.tmp 31), (.tmp 32)] #[22, 22])), none⟩,
   ⟨(some 6), (.assign (.tmp 33)), none⟩])))
 (.reg [⟨(some 34), (.binOp .add 3 (.tmp 27) (.const (.int .i64 1)) 3), none⟩,
   ⟨(some 27), (.move (.tmp 34)), none⟩])))))))
 (.seq (.reg [⟨(some 35), (.move (.tmp 6)), none⟩,
   ⟨(some 2), (.assign (.tmp 35)), none⟩])
 .ret))))))
theorem x_slices_Concat_int : Txt Tryd.prog 49 c_slices_Concat_int [.tmp 2] 1 := ⟨by kernel_rfl, by kernel_rfl, _, _, Tryd.func49, rfl, by kernel_rfl, by kernel_rfl, by kernel_rfl, rfl, by decide⟩
/-- slices.Contains[[]int,int] -/
def c_slices_Contains_int : Cd :=
 (.seq (.reg [⟨(some 4), (.assign (.const (.bool false))), none⟩])
 (.seq (.reg [⟨(some 5), (.move (.tmp 0)), none⟩,
   ⟨(some 6), (.move (.tmp 1)), none⟩,
   ⟨(some 7), (.call (.mk (.value (.func 43)) #[(.tmp 5), (.tmp 6)] #[22, 3])), none⟩,
   ⟨(some 8), (.binOp .geq 3 (.tmp 7) (.const (.int .i64 0)) 3), none⟩,
   ⟨(some 4), (.assign (.tmp 8)), none⟩])
 .ret))
theorem x_slices_Contains_int : Txt Tryd.prog 50 c_slices_Contains_int [.tmp 4] 2 := ⟨by kernel_rfl, by kernel_rfl, _, _, Tryd.func50, rfl, by kernel_rfl, by kernel_rfl, by kernel_rfl, rfl, by decide⟩
/-- loop.example/g01062/impl.joinInts -/
def c_impl_joinInts : Cd :=
 (.seq (.reg [⟨(some 4), (.assign (.const (.string (ByteArray.mk #[])))), none⟩])
 (.seq (.reg [⟨(some 5), (.assign (.const (.slice none 0 0))), none⟩])
 (.seq (.seq (.reg [⟨(some 8), (.move (.tmp 0)), none⟩,
   ⟨(some 9), (.call (.mk (.builtin .len) #[(.tmp 8)] #[22])), none⟩,
   ⟨(some 10), (.move (.const (.int .i64 0))), none⟩])
 (.block 0 (.loop (.seq (.reg [⟨(some 11), (.binOp .lss 3 (.tmp 10) (.tmp 9) 3), none⟩])
 (.seq (.cond (.tmp 11) .skip (.exit 0))
 (.seq (.block 1 (.seq (.reg [⟨(some 12), (.indexAddr 22 (.tmp 8) (.tmp 10)), none⟩,
   ⟨(some 13), (.load 3 (.tmp 12)), none⟩,
   ⟨(some 7), (.assign (.tmp 13)), none⟩])
 (.reg [⟨(some 14), (.move (.tmp 5)), none⟩,
   ⟨(some 15), (.move (.tmp 7)), none⟩,
   ⟨(some 16), (.call (.mk (.value (.func 30)) #[(.tmp 15)] #[3])), none⟩,
   ⟨(some 17), (.buildSlice 83 1 #[(0, (.tmp 16))]), none⟩,
   ⟨(some 18), (.call (.mk (.builtin .append) #[(.tmp 14), (.tmp 17)] #[83, 83])), none⟩,
   ⟨(some 5), (.assign (.tmp 18)), none⟩])))
 (.reg [⟨(some 19), (.binOp .add 3 (.tmp 10) (.const (.int .i64 1)) 3), none⟩,
   ⟨(some 10), (.move (.tmp 19)), none⟩])))))))
 (.seq (.reg [⟨(some 20), (.move (.tmp 5)), none⟩,
   ⟨(some 21), (.move (.tmp 1)), none⟩,
   ⟨(some 22), (.call (.mk (.value (.func 61)) #[(.tmp 20), (.tmp 21)] #[83, 9])), none⟩,
   ⟨(some 4), (.assign (.tmp 22)), none⟩])
 .ret))))
theorem x_impl_joinInts : Txt Tryd.prog 52 c_impl_joinInts [.tmp 4] 2 := ⟨by kernel_rfl, by kernel_rfl, _, _, Tryd.func52, rfl, by kernel_rfl, by kernel_rfl, by kernel_rfl, rfl, by decide⟩
/-- slices.Grow[[]int,int] -/
def c_slices_Grow_int : Cd :=
 (.seq (.reg [⟨(some 4), (.assign (.const (.slice none 0 0))), none⟩])
 (.seq (.seq (.reg [⟨(some 5), (.move (.tmp 1)), none⟩,
   ⟨(some 6), (.binOp .lss 3 (.tmp 5) (.const (.int .i64 0)) 3), none⟩])
 (.cond (.tmp 6) (.reg [⟨(some 7), (.makeInterface 9 (.const (.string (ByteArray.mk #[99, 97, 110, 110, 111, 116, 32, 98, 101, 32, 110, 101, 103, 97, 116, 105, 118, 101])))), none⟩,
   ⟨none, (.panic (.tmp 7)), none⟩]) .skip))
 (.seq (.seq (.reg [⟨(some 8), (.move (.tmp 1)), none⟩,
   ⟨(some 9), (.move (.tmp 0)), none⟩,
   ⟨(some 10), (.call (.mk (.builtin .cap) #[(.tmp 9)] #[22])), none⟩,
   ⟨(some 11), (.move (.tmp 0)), none⟩,
   ⟨(some 12), (.call (.mk (.builtin .len) #[(.tmp 11)] #[22])), none⟩,
   ⟨(some 13), (.binOp .sub 3 (.tmp 10) (.tmp 12) 3), none⟩,
   ⟨(some 14), (.binOp .sub 3 (.tmp 8) (.tmp 13) 3), none⟩,
   ⟨(some 1), (.assign (.tmp 14)), none⟩])
 (.seq (.reg [⟨(some 15), (.move (.tmp 1)), none⟩,
   ⟨(some 16), (.binOp .gtr 3 (.tmp 15) (.const (.int .i64 0)) 3), none⟩])
 (.cond (.tmp 16) (.reg [⟨(some 17), (.move (.tmp 0)), none⟩,
   ⟨(some 18), (.move (.tmp 0)), none⟩,
   ⟨(some 19), (.call (.mk (.builtin .cap) #[(.tmp 18)] #[22])), none⟩,
   ⟨(some 20), (.slice 22 (.tmp 17) none (some (.tmp 19)) none), none⟩,
   ⟨(some 21), (.move (.tmp 1)), none⟩,
   ⟨(some 22), (.call (.mk (.builtin .append) #[(.tmp 20), (.tmp 21)] #[22, 3])), none⟩,
   ⟨(some 23), (.move (.tmp 0)), none⟩,
   ⟨(some 24), (.call (.mk (.builtin .len) #[(.tmp 23)] #[22])), none⟩,
   ⟨(some 25), (.slice 22 (.tmp 22) none (some (.tmp 24)) none), none⟩,
   ⟨(some 0), (.assign (.tmp 25)), none⟩]) .skip)))
 (.seq (.reg [⟨(some 26), (.move (.tmp 0)), none⟩,
   ⟨(some 4), (.assign (.tmp 26)), none⟩])
 .ret))))
theorem x_slices_Grow_int : Txt Tryd.prog 59 c_slices_Grow_int [.tmp 4] 2 := ⟨by kernel_rfl, by kernel_rfl, _, _, Tryd.func59, rfl, by kernel_rfl, by kernel_rfl, by kernel_rfl, rfl, by decide⟩
theorem qs2 : qSize Tryd.prog 2 = some 1 := by kernel_rfl
theorem qb2 : qBytes Tryd.prog 2 = some 8 := by kernel_rfl
theorem qa2 : qAgg Tryd.prog 2 = some false := by kernel_rfl
theorem qz2 : qZero Tryd.prog 2 = some (.int .i64 0) := by kernel_rfl
theorem qk2 : qKind Tryd.prog 2 = some .i64 := by kernel_rfl
theorem qui2 : (Tryd.prog.underlying 2).isSome = true := by kernel_rfl
theorem qs3 : qSize Tryd.prog 3 = some 1 := by kernel_rfl
theorem qb3 : qBytes Tryd.prog 3 = some 8 := by kernel_rfl
theorem qa3 : qAgg Tryd.prog 3 = some false := by kernel_rfl
theorem qz3 : qZero Tryd.prog 3 = some (.int .i64 0) := by kernel_rfl
theorem qk3 : qKind Tryd.prog 3 = some .i64 := by kernel_rfl
theorem qui3 : (Tryd.prog.underlying 3).isSome = true := by kernel_rfl
theorem qs4 : qSize Tryd.prog 4 = some 1 := by kernel_rfl
theorem qb4 : qBytes Tryd.prog 4 = some 1 := by kernel_rfl
theorem qa4 : qAgg Tryd.prog 4 = some false := by kernel_rfl
theorem qz4 : qZero Tryd.prog 4 = some (.bool false) := by kernel_rfl
theorem qo4 : qBool Tryd.prog 4 = true := by kernel_rfl
theorem qs5 : qSize Tryd.prog 5 = some 1 := by kernel_rfl
theorem qb5 : qBytes Tryd.prog 5 = some 1 := by kernel_rfl
theorem qa5 : qAgg Tryd.prog 5 = some false := by kernel_rfl
theorem qz5 : qZero Tryd.prog 5 = some (.int .u8 0) := by kernel_rfl
theorem qk5 : qKind Tryd.prog 5 = some .u8 := by kernel_rfl
theorem qui5 : (Tryd.prog.underlying 5).isSome = true := by kernel_rfl
theorem qs9 : qSize Tryd.prog 9 = some 1 := by kernel_rfl
theorem qb9 : qBytes Tryd.prog 9 = some 16 := by kernel_rfl
theorem qa9 : qAgg Tryd.prog 9 = some false := by kernel_rfl
theorem qz9 : qZero Tryd.prog 9 = some (.string ByteArray.empty) := by kernel_rfl
theorem qt9 : qStr Tryd.prog 9 = true := by kernel_rfl
theorem qs22 : qSize Tryd.prog 22 = some 1 := by kernel_rfl
theorem qb22 : qBytes Tryd.prog 22 = some 24 := by kernel_rfl
theorem qa22 : qAgg Tryd.prog 22 = some false := by kernel_rfl
theorem qz22 : qZero Tryd.prog 22 = some (.slice none 0 0) := by kernel_rfl
theorem qe22 : qElem Tryd.prog 22 = some 3 := by kernel_rfl
theorem qs24 : qSize Tryd.prog 24 = some 5 := by kernel_rfl
theorem qb24 : qBytes Tryd.prog 24 = some 72 := by kernel_rfl
theorem qa24 : qAgg Tryd.prog 24 = some true := by kernel_rfl
theorem qz24 : qZero Tryd.prog 24 = some (.agg #[.int .i64 0, .slice none 0 0, .int .i64 0, .slice none 0 0, .bool false]) := by kernel_rfl
theorem qg24 : qFields Tryd.prog 24 = some [(0, 1), (1, 1), (2, 1), (3, 1), (4, 1)] := by kernel_rfl
theorem qf24_0 : qField Tryd.prog 24 0 = some (0, 3) := by kernel_rfl
theorem qf24_1 : qField Tryd.prog 24 1 = some (1, 22) := by kernel_rfl
theorem qf24_2 : qField Tryd.prog 24 2 = some (2, 3) := by kernel_rfl
theorem qf24_3 : qField Tryd.prog 24 3 = some (3, 22) := by kernel_rfl
theorem qf24_4 : qField Tryd.prog 24 4 = some (4, 4) := by kernel_rfl
theorem qs28 : qSize Tryd.prog 28 = some 5 := by kernel_rfl
theorem qb28 : qBytes Tryd.prog 28 = some 72 := by kernel_rfl
theorem qa28 : qAgg Tryd.prog 28 = some true := by kernel_rfl
theorem qz28 : qZero Tryd.prog 28 = some (.agg #[.int .i64 0, .slice none 0 0, .int .i64 0, .slice none 0 0, .bool false]) := by kernel_rfl
theorem qg28 : qFields Tryd.prog 28 = some [(0, 1), (1, 1), (2, 1), (3, 1), (4, 1)] := by kernel_rfl
theorem qf28_0 : qField Tryd.prog 28 0 = some (0, 3) := by kernel_rfl
theorem qf28_1 : qField Tryd.prog 28 1 = some (1, 22) := by kernel_rfl
theorem qf28_2 : qField Tryd.prog 28 2 = some (2, 3) := by kernel_rfl
theorem qf28_3 : qField Tryd.prog 28 3 = some (3, 22) := by kernel_rfl
theorem qf28_4 : qField Tryd.prog 28 4 = some (4, 4) := by kernel_rfl
theorem qs32 : qSize Tryd.prog 32 = some 1 := by kernel_rfl
theorem qb32 : qBytes Tryd.prog 32 = some 24 := by kernel_rfl
theorem qa32 : qAgg Tryd.prog 32 = some false := by kernel_rfl
theorem qz32 : qZero Tryd.prog 32 = some (.slice none 0 0) := by kernel_rfl
theorem qe32 : qElem Tryd.prog 32 = some 5 := by kernel_rfl
theorem qs41 : qSize Tryd.prog 41 = some 2 := by kernel_rfl
theorem qb41 : qBytes Tryd.prog 41 = some 16 := by kernel_rfl
theorem qa41 : qAgg Tryd.prog 41 = some true := by kernel_rfl
theorem qz41 : qZero Tryd.prog 41 = some (.agg #[.int .i64 0, .int .i64 0]) := by kernel_rfl
theorem qg41 : qFields Tryd.prog 41 = some [(0, 1), (1, 1)] := by kernel_rfl
theorem qi41 : qEqS Tryd.prog 41 2 = true := by kernel_rfl
theorem qf41_0 : qField Tryd.prog 41 0 = some (0, 3) := by kernel_rfl
theorem qf41_1 : qField Tryd.prog 41 1 = some (1, 3) := by kernel_rfl
theorem qs42 : qSize Tryd.prog 42 = some 1 := by kernel_rfl
theorem qb42 : qBytes Tryd.prog 42 = some 24 := by kernel_rfl
theorem qa42 : qAgg Tryd.prog 42 = some false := by kernel_rfl
theorem qz42 : qZero Tryd.prog 42 = some (.slice none 0 0) := by kernel_rfl
theorem qe42 : qElem Tryd.prog 42 = some 41 := by kernel_rfl
theorem qs56 : qSize Tryd.prog 56 = some 1 := by kernel_rfl
theorem qb56 : qBytes Tryd.prog 56 = some 8 := by kernel_rfl
theorem qa56 : qAgg Tryd.prog 56 = some false := by kernel_rfl
theorem qz56 : qZero Tryd.prog 56 = some (.pointer none) := by kernel_rfl
theorem qs62 : qSize Tryd.prog 62 = some 1 := by kernel_rfl
theorem qb62 : qBytes Tryd.prog 62 = some 8 := by kernel_rfl
theorem qa62 : qAgg Tryd.prog 62 = some false := by kernel_rfl
theorem qz62 : qZero Tryd.prog 62 = some (.pointer none) := by kernel_rfl
theorem qs63 : qSize Tryd.prog 63 = some 1 := by kernel_rfl
theorem qb63 : qBytes Tryd.prog 63 = some 8 := by kernel_rfl
theorem qa63 : qAgg Tryd.prog 63 = some false := by kernel_rfl
theorem qz63 : qZero Tryd.prog 63 = some (.int .u64 0) := by kernel_rfl
theorem qk63 : qKind Tryd.prog 63 = some .u64 := by kernel_rfl
theorem qui63 : (Tryd.prog.underlying 63).isSome = true := by kernel_rfl
theorem qs65 : qSize Tryd.prog 65 = some 3 := by kernel_rfl
theorem qb65 : qBytes Tryd.prog 65 = some 40 := by kernel_rfl
theorem qa65 : qAgg Tryd.prog 65 = some true := by kernel_rfl
theorem qz65 : qZero Tryd.prog 65 = some (.agg #[.slice none 0 0, .int .i64 0, .int .u64 0]) := by kernel_rfl
theorem qg65 : qFields Tryd.prog 65 = some [(0, 1), (1, 1), (2, 1)] := by kernel_rfl
theorem qf65_0 : qField Tryd.prog 65 0 = some (0, 32) := by kernel_rfl
theorem qf65_1 : qField Tryd.prog 65 1 = some (1, 3) := by kernel_rfl
theorem qf65_2 : qField Tryd.prog 65 2 = some (2, 63) := by kernel_rfl
theorem qs80 : qSize Tryd.prog 80 = some 1 := by kernel_rfl
theorem qb80 : qBytes Tryd.prog 80 = some 24 := by kernel_rfl
theorem qa80 : qAgg Tryd.prog 80 = some false := by kernel_rfl
theorem qz80 : qZero Tryd.prog 80 = some (.slice none 0 0) := by kernel_rfl
theorem qe80 : qElem Tryd.prog 80 = some 22 := by kernel_rfl
theorem qs83 : qSize Tryd.prog 83 = some 1 := by kernel_rfl
theorem qb83 : qBytes Tryd.prog 83 = some 24 := by kernel_rfl
theorem qa83 : qAgg Tryd.prog 83 = some false := by kernel_rfl
theorem qz83 : qZero Tryd.prog 83 = some (.slice none 0 0) := by kernel_rfl
theorem qe83 : qElem Tryd.prog 83 = some 9 := by kernel_rfl
theorem qs85 : qSize Tryd.prog 85 = some 1 := by kernel_rfl
theorem qb85 : qBytes Tryd.prog 85 = some 8 := by kernel_rfl
theorem qa85 : qAgg Tryd.prog 85 = some false := by kernel_rfl
theorem qz85 : qZero Tryd.prog 85 = some (.int .u64 0) := by kernel_rfl
theorem qk85 : qKind Tryd.prog 85 = some .u64 := by kernel_rfl
theorem qui85 : (Tryd.prog.underlying 85).isSome = true := by kernel_rfl
theorem qs94 : qSize Tryd.prog 94 = some 1 := by kernel_rfl
theorem qb94 : qBytes Tryd.prog 94 = some 8 := by kernel_rfl
theorem qa94 : qAgg Tryd.prog 94 = some false := by kernel_rfl
theorem qz94 : qZero Tryd.prog 94 = some (.pointer none) := by kernel_rfl
theorem qs96 : qSize Tryd.prog 96 = some 2 := by kernel_rfl
theorem qb96 : qBytes Tryd.prog 96 = some 32 := by kernel_rfl
theorem qa96 : qAgg Tryd.prog 96 = some true := by kernel_rfl
theorem qz96 : qZero Tryd.prog 96 = some (.agg #[.pointer none, .slice none 0 0]) := by kernel_rfl
theorem qg96 : qFields Tryd.prog 96 = some [(0, 1), (1, 1)] := by kernel_rfl
theorem qf96_0 : qField Tryd.prog 96 0 = some (0, 94) := by kernel_rfl
theorem qf96_1 : qField Tryd.prog 96 1 = some (1, 32) := by kernel_rfl
theorem qs105 : qSize Tryd.prog 105 = some 20 := by kernel_rfl
theorem qb105 : qBytes Tryd.prog 105 = some 160 := by kernel_rfl
theorem qa105 : qAgg Tryd.prog 105 = some true := by kernel_rfl
theorem qz105 : qZero Tryd.prog 105 = some (.agg #[.int .u64 0, .int .u64 0, .int .u64 0, .int .u64 0, .int .u64 0, .int .u64 0, .int .u64 0, .int .u64 0, .int .u64 0, .int .u64 0, .int .u64 0, .int .u64 0, .int .u64 0, .int .u64 0, .int .u64 0, .int .u64 0, .int .u64 0, .int .u64 0, .int .u64 0, .int .u64 0]) := by kernel_rfl
theorem qg105 : qFields Tryd.prog 105 = some [(0, 1), (1, 1), (2, 1), (3, 1), (4, 1), (5, 1), (6, 1), (7, 1), (8, 1), (9, 1), (10, 1), (11, 1), (12, 1), (13, 1), (14, 1), (15, 1), (16, 1), (17, 1), (18, 1), (19, 1)] := by kernel_rfl
theorem qr105 : qArr Tryd.prog 105 = some (20, 63) := by kernel_rfl
theorem qs115 : qSize Tryd.prog 115 = some 32 := by kernel_rfl
theorem qb115 : qBytes Tryd.prog 115 = some 32 := by kernel_rfl
theorem qa115 : qAgg Tryd.prog 115 = some true := by kernel_rfl
theorem qz115 : qZero Tryd.prog 115 = some (.agg #[.int .u8 0, .int .u8 0, .int .u8 0, .int .u8 0, .int .u8 0, .int .u8 0, .int .u8 0, .int .u8 0, .int .u8 0, .int .u8 0, .int .u8 0, .int .u8 0, .int .u8 0, .int .u8 0, .int .u8 0, .int .u8 0, .int .u8 0, .int .u8 0, .int .u8 0, .int .u8 0, .int .u8 0, .int .u8 0, .int .u8 0, .int .u8 0, .int .u8 0, .int .u8 0, .int .u8 0, .int .u8 0, .int .u8 0, .int .u8 0, .int .u8 0, .int .u8 0]) := by kernel_rfl
theorem qg115 : qFields Tryd.prog 115 = some [(0, 1), (1, 1), (2, 1), (3, 1), (4, 1), (5, 1), (6, 1), (7, 1), (8, 1), (9, 1), (10, 1), (11, 1), (12, 1), (13, 1), (14, 1), (15, 1), (16, 1), (17, 1), (18, 1), (19, 1), (20, 1), (21, 1), (22, 1), (23, 1), (24, 1), (25, 1), (26, 1), (27, 1), (28, 1), (29, 1), (30, 1), (31, 1)] := by kernel_rfl
theorem qr115 : qArr Tryd.prog 115 = some (32, 5) := by kernel_rfl
theorem qs116 : qSize Tryd.prog 116 = some 64 := by kernel_rfl
theorem qb116 : qBytes Tryd.prog 116 = some 64 := by kernel_rfl
theorem qa116 : qAgg Tryd.prog 116 = some true := by kernel_rfl
theorem qg116 : qFields Tryd.prog 116 = some [(0, 1), (1, 1), (2, 1), (3, 1), (4, 1), (5, 1), (6, 1), (7, 1), (8, 1), (9, 1), (10, 1), (11, 1), (12, 1), (13, 1), (14, 1), (15, 1), (16, 1), (17, 1), (18, 1), (19, 1), (20, 1), (21, 1), (22, 1), (23, 1), (24, 1), (25, 1), (26, 1), (27, 1), (28, 1), (29, 1), (30, 1), (31, 1), (32, 1), (33, 1), (34, 1), (35, 1), (36, 1), (37, 1), (38, 1), (39, 1), (40, 1), (41, 1), (42, 1), (43, 1), (44, 1), (45, 1), (46, 1), (47, 1), (48, 1), (49, 1), (50, 1), (51, 1), (52, 1), (53, 1), (54, 1), (55, 1), (56, 1), (57, 1), (58, 1), (59, 1), (60, 1), (61, 1), (62, 1), (63, 1)] := by kernel_rfl
theorem qr116 : qArr Tryd.prog 116 = some (64, 5) := by kernel_rfl
set_option linter.defProp false
/-- The facts, in one name. -/
def fcT := And.intro @qs2 <| And.intro @qb2 <| And.intro @qa2 <| And.intro @qz2 <| And.intro @qk2 <| And.intro @qui2 <| And.intro @qs3 <| And.intro @qb3 <| And.intro @qa3 <| And.intro @qz3 <| And.intro @qk3 <| And.intro @qui3 <| And.intro @qs4 <| And.intro @qb4 <| And.intro @qa4 <| And.intro @qz4 <| And.intro @qo4 <| And.intro @qs5 <| And.intro @qb5 <| And.intro @qa5 <| And.intro @qz5 <| And.intro @qk5 <| And.intro @qui5 <| And.intro @qs9 <| And.intro @qb9 <| And.intro @qa9 <| And.intro @qz9 <| And.intro @qt9 <| And.intro @qs22 <| And.intro @qb22 <| And.intro @qa22 <| And.intro @qz22 <| And.intro @qe22 <| And.intro @qs24 <| And.intro @qb24 <| And.intro @qa24 <| And.intro @qz24 <| And.intro @qg24 <| And.intro @qf24_0 <| And.intro @qf24_1 <| And.intro @qf24_2 <| And.intro @qf24_3 <| And.intro @qf24_4 <| And.intro @qs28 <| And.intro @qb28 <| And.intro @qa28 <| And.intro @qz28 <| And.intro @qg28 <| And.intro @qf28_0 <| And.intro @qf28_1 <| And.intro @qf28_2 <| And.intro @qf28_3 <| And.intro @qf28_4 <| And.intro @qs32 <| And.intro @qb32 <| And.intro @qa32 <| And.intro @qz32 <| And.intro @qe32 <| And.intro @qs41 <| And.intro @qb41 <| And.intro @qa41 <| And.intro @qz41 <| And.intro @qg41 <| And.intro @qi41 <| And.intro @qf41_0 <| And.intro @qf41_1 <| And.intro @qs42 <| And.intro @qb42 <| And.intro @qa42 <| And.intro @qz42 <| And.intro @qe42 <| And.intro @qs56 <| And.intro @qb56 <| And.intro @qa56 <| And.intro @qz56 <| And.intro @qs62 <| And.intro @qb62 <| And.intro @qa62 <| And.intro @qz62 <| And.intro @qs63 <| And.intro @qb63 <| And.intro @qa63 <| And.intro @qz63 <| And.intro @qk63 <| And.intro @qui63 <| And.intro @qs65 <| And.intro @qb65 <| And.intro @qa65 <| And.intro @qz65 <| And.intro @qg65 <| And.intro @qf65_0 <| And.intro @qf65_1 <| And.intro @qf65_2 <| And.intro @qs80 <| And.intro @qb80 <| And.intro @qa80 <| And.intro @qz80 <| And.intro @qe80 <| And.intro @qs83 <| And.intro @qb83 <| And.intro @qa83 <| And.intro @qz83 <| And.intro @qe83 <| And.intro @qs85 <| And.intro @qb85 <| And.intro @qa85 <| And.intro @qz85 <| And.intro @qk85 <| And.intro @qui85 <| And.intro @qs94 <| And.intro @qb94 <| And.intro @qa94 <| And.intro @qz94 <| And.intro @qs96 <| And.intro @qb96 <| And.intro @qa96 <| And.intro @qz96 <| And.intro @qg96 <| And.intro @qf96_0 <| And.intro @qf96_1 <| And.intro @qs105 <| And.intro @qb105 <| And.intro @qa105 <| And.intro @qz105 <| And.intro @qg105 <| And.intro @qr105 <| And.intro @qs115 <| And.intro @qb115 <| And.intro @qa115 <| And.intro @qz115 <| And.intro @qg115 <| And.intro @qr115 <| And.intro @qs116 <| And.intro @qb116 <| And.intro @qa116 <| And.intro @qg116 <| And.intro @qr116 <| True.intro
end Go.Proofs.YtbhabpenlaklcaaDoor
