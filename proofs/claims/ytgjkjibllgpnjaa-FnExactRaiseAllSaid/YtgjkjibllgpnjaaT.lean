/- The texts of the functions, edges struck, and closed facts on functions and types: written by program (gen.py). -/
import Derived.Test.YtgjkjibllgpnjaaW
import Derived.Test.YtgjkjibllgpnjaaProg
import Derived.Test.YtgjkjibllgpnjaaTa
namespace Go.Proofs.Ytgjkjibllgpnjaa
open Go Go.RowKit Go.Proofs
theorem x_cmp_isNaN_int : Txt Try.prog 92 c_cmp_isNaN_int [.tmp 2] 1 := ⟨by kernel_rfl, by kernel_rfl, _, _, Try.func92, rfl, by kernel_rfl, by kernel_rfl, by kernel_rfl, rfl, by decide⟩
/-- slices.rotateLeft[loop.example/g01062/impl.PriceRow] -/
def c_slices_rotateLeft_PriceRow : Cd :=
 (.seq (.reg [⟨(some 4), (.move (.tmp 0)), none⟩,
   ⟨(some 5), (.move (.tmp 1)), none⟩,
   ⟨(some 6), (.slice 25 (.tmp 4) none (some (.tmp 5)) none), none⟩,
   ⟨(some 7), (.call (.mk (.value (.func 94)) #[(.tmp 6)] #[25])), none⟩])
 (.seq (.reg [⟨(some 8), (.move (.tmp 0)), none⟩,
   ⟨(some 9), (.move (.tmp 1)), none⟩,
   ⟨(some 10), (.slice 25 (.tmp 8) (some (.tmp 9)) none none), none⟩,
   ⟨(some 11), (.call (.mk (.value (.func 94)) #[(.tmp 10)] #[25])), none⟩])
 (.reg [⟨(some 12), (.move (.tmp 0)), none⟩,
   ⟨(some 13), (.call (.mk (.value (.func 94)) #[(.tmp 12)] #[25])), none⟩])))
theorem x_slices_rotateLeft_PriceRow : Txt Try.prog 93 c_slices_rotateLeft_PriceRow [] 2 := ⟨by kernel_rfl, by kernel_rfl, _, _, Try.func93, rfl, by kernel_rfl, by kernel_rfl, by kernel_rfl, rfl, by decide⟩
/-- slices.Reverse[[]loop.example/g01062/impl.PriceRow,loop.example/g01062/impl.PriceRow] -/
def c_slices_Reverse_PriceRow : Cd :=
 (.seq (.reg [⟨(some 4), (.move (.tmp 0)), none⟩,
   ⟨(some 5), (.call (.mk (.builtin .len) #[(.tmp 4)] #[25])), none⟩,
   ⟨(some 6), (.binOp .sub 3 (.tmp 5) (.const (.int .i64 1)) 3), none⟩,
   ⟨(some 2), (.assign (.const (.int .i64 0))), none⟩,
   ⟨(some 3), (.assign (.tmp 6)), none⟩])
 (.block 0 (.loop (.seq (.seq (.reg [⟨(some 7), (.move (.tmp 2)), none⟩,
   ⟨(some 8), (.move (.tmp 3)), none⟩,
   ⟨(some 9), (.binOp .lss 3 (.tmp 7) (.tmp 8) 3), none⟩])
 (.cond (.tmp 9) .skip (.exit 0)))
 (.seq (.block 1 (.regt [⟨(some 14), (.move (.tmp 0)), none⟩,
   ⟨(some 15), (.move (.tmp 2)), none⟩,
   ⟨(some 16), (.move (.tmp 0)), none⟩,
   ⟨(some 17), (.move (.tmp 3)), none⟩,
   ⟨(some 18), (.move (.tmp 0)), none⟩,
   ⟨(some 19), (.move (.tmp 3)), none⟩,
   ⟨(some 20), (.indexAddr 25 (.tmp 18) (.tmp 19)), none⟩,
   ⟨(some 21), (.load 56 (.tmp 20)), none⟩,
   ⟨(some 22), (.move (.tmp 0)), none⟩,
   ⟨(some 23), (.move (.tmp 2)), none⟩,
   ⟨(some 24), (.indexAddr 25 (.tmp 22) (.tmp 23)), none⟩,
   ⟨(some 25), (.load 56 (.tmp 24)), none⟩,
   ⟨(some 26), (.indexAddr 25 (.tmp 14) (.tmp 15)), none⟩] (.one true ⟨none, (.store 56 (.tmp 26) (.tmp 21)), none⟩
   (.one false ⟨(some 27), (.indexAddr 25 (.tmp 16) (.tmp 17)), none⟩
   (.one false ⟨none, (.store 56 (.tmp 27) (.tmp 25)), none⟩
   .done)))))
 (.reg [⟨(some 10), (.move (.tmp 2)), none⟩,
   ⟨(some 11), (.binOp .add 3 (.tmp 10) (.const (.int .i64 1)) 3), none⟩,
   ⟨(some 12), (.move (.tmp 3)), none⟩,
   ⟨(some 13), (.binOp .sub 3 (.tmp 12) (.const (.int .i64 1)) 3), none⟩,
   ⟨(some 2), (.assign (.tmp 11)), none⟩,
   ⟨(some 3), (.assign (.tmp 13)), none⟩]))))))
theorem x_slices_Reverse_PriceRow : Txt Try.prog 94 c_slices_Reverse_PriceRow [] 1 := ⟨by kernel_rfl, by kernel_rfl, _, _, Try.func94, rfl, by kernel_rfl, by kernel_rfl, by kernel_rfl, rfl, by decide⟩
theorem qs3 : qSize Try.prog 3 = some 1 := by kernel_rfl
theorem qb3 : qBytes Try.prog 3 = some 8 := by kernel_rfl
theorem qa3 : qAgg Try.prog 3 = some false := by kernel_rfl
theorem qz3 : qZero Try.prog 3 = some (.int .i64 0) := by kernel_rfl
theorem qk3 : qKind Try.prog 3 = some .i64 := by kernel_rfl
theorem qui3 : (Try.prog.underlying 3).isSome = true := by kernel_rfl
theorem qs4 : qSize Try.prog 4 = some 1 := by kernel_rfl
theorem qb4 : qBytes Try.prog 4 = some 1 := by kernel_rfl
theorem qa4 : qAgg Try.prog 4 = some false := by kernel_rfl
theorem qz4 : qZero Try.prog 4 = some (.bool false) := by kernel_rfl
theorem qo4 : qBool Try.prog 4 = true := by kernel_rfl
theorem qs5 : qSize Try.prog 5 = some 1 := by kernel_rfl
theorem qb5 : qBytes Try.prog 5 = some 1 := by kernel_rfl
theorem qa5 : qAgg Try.prog 5 = some false := by kernel_rfl
theorem qz5 : qZero Try.prog 5 = some (.int .u8 0) := by kernel_rfl
theorem qk5 : qKind Try.prog 5 = some .u8 := by kernel_rfl
theorem qui5 : (Try.prog.underlying 5).isSome = true := by kernel_rfl
theorem qs22 : qSize Try.prog 22 = some 1 := by kernel_rfl
theorem qb22 : qBytes Try.prog 22 = some 24 := by kernel_rfl
theorem qa22 : qAgg Try.prog 22 = some false := by kernel_rfl
theorem qz22 : qZero Try.prog 22 = some (.slice none 0 0) := by kernel_rfl
theorem qe22 : qElem Try.prog 22 = some 58 := by kernel_rfl
theorem qs25 : qSize Try.prog 25 = some 1 := by kernel_rfl
theorem qb25 : qBytes Try.prog 25 = some 24 := by kernel_rfl
theorem qa25 : qAgg Try.prog 25 = some false := by kernel_rfl
theorem qz25 : qZero Try.prog 25 = some (.slice none 0 0) := by kernel_rfl
theorem qe25 : qElem Try.prog 25 = some 56 := by kernel_rfl
theorem qs40 : qSize Try.prog 40 = some 1 := by kernel_rfl
theorem qb40 : qBytes Try.prog 40 = some 24 := by kernel_rfl
theorem qa40 : qAgg Try.prog 40 = some false := by kernel_rfl
theorem qz40 : qZero Try.prog 40 = some (.slice none 0 0) := by kernel_rfl
theorem qe40 : qElem Try.prog 40 = some 3 := by kernel_rfl
theorem qs49 : qSize Try.prog 49 = some 1 := by kernel_rfl
theorem qb49 : qBytes Try.prog 49 = some 24 := by kernel_rfl
theorem qa49 : qAgg Try.prog 49 = some false := by kernel_rfl
theorem qz49 : qZero Try.prog 49 = some (.slice none 0 0) := by kernel_rfl
theorem qe49 : qElem Try.prog 49 = some 5 := by kernel_rfl
theorem qs56 : qSize Try.prog 56 = some 3 := by kernel_rfl
theorem qb56 : qBytes Try.prog 56 = some 24 := by kernel_rfl
theorem qa56 : qAgg Try.prog 56 = some true := by kernel_rfl
theorem qz56 : qZero Try.prog 56 = some (.agg #[.int .i64 0, .int .i64 0, .int .i64 0]) := by kernel_rfl
theorem qf56_0 : qField Try.prog 56 0 = some (0, 3) := by kernel_rfl
theorem qf56_1 : qField Try.prog 56 1 = some (1, 3) := by kernel_rfl
theorem qf56_2 : qField Try.prog 56 2 = some (2, 3) := by kernel_rfl
theorem qs58 : qSize Try.prog 58 = some 3 := by kernel_rfl
theorem qb58 : qBytes Try.prog 58 = some 24 := by kernel_rfl
theorem qa58 : qAgg Try.prog 58 = some true := by kernel_rfl
theorem qz58 : qZero Try.prog 58 = some (.agg #[.int .i64 0, .int .i64 0, .int .i64 0]) := by kernel_rfl
theorem qf58_0 : qField Try.prog 58 0 = some (0, 3) := by kernel_rfl
theorem qf58_1 : qField Try.prog 58 1 = some (1, 3) := by kernel_rfl
theorem qf58_2 : qField Try.prog 58 2 = some (2, 3) := by kernel_rfl
theorem qs74 : qSize Try.prog 74 = some 1 := by kernel_rfl
theorem qb74 : qBytes Try.prog 74 = some 8 := by kernel_rfl
theorem qa74 : qAgg Try.prog 74 = some false := by kernel_rfl
theorem qz74 : qZero Try.prog 74 = some (.pointer none) := by kernel_rfl
theorem qs75 : qSize Try.prog 75 = some 1 := by kernel_rfl
theorem qb75 : qBytes Try.prog 75 = some 8 := by kernel_rfl
theorem qa75 : qAgg Try.prog 75 = some false := by kernel_rfl
theorem qz75 : qZero Try.prog 75 = some (.int .u64 0) := by kernel_rfl
theorem qk75 : qKind Try.prog 75 = some .u64 := by kernel_rfl
theorem qui75 : (Try.prog.underlying 75).isSome = true := by kernel_rfl
theorem qs77 : qSize Try.prog 77 = some 3 := by kernel_rfl
theorem qb77 : qBytes Try.prog 77 = some 40 := by kernel_rfl
theorem qa77 : qAgg Try.prog 77 = some true := by kernel_rfl
theorem qz77 : qZero Try.prog 77 = some (.agg #[.slice none 0 0, .int .i64 0, .int .u64 0]) := by kernel_rfl
theorem qf77_0 : qField Try.prog 77 0 = some (0, 49) := by kernel_rfl
theorem qf77_1 : qField Try.prog 77 1 = some (1, 3) := by kernel_rfl
theorem qf77_2 : qField Try.prog 77 2 = some (2, 75) := by kernel_rfl
theorem qs84 : qSize Try.prog 84 = some 1 := by kernel_rfl
theorem qb84 : qBytes Try.prog 84 = some 8 := by kernel_rfl
theorem qa84 : qAgg Try.prog 84 = some false := by kernel_rfl
theorem qz84 : qZero Try.prog 84 = some (.int .u64 0) := by kernel_rfl
theorem qk84 : qKind Try.prog 84 = some .u64 := by kernel_rfl
theorem qui84 : (Try.prog.underlying 84).isSome = true := by kernel_rfl
set_option linter.defProp false
/-- The facts, in one name. -/
def fcT := And.intro @qs3 <| And.intro @qb3 <| And.intro @qa3 <| And.intro @qz3 <| And.intro @qk3 <| And.intro @qui3 <| And.intro @qs4 <| And.intro @qb4 <| And.intro @qa4 <| And.intro @qz4 <| And.intro @qo4 <| And.intro @qs5 <| And.intro @qb5 <| And.intro @qa5 <| And.intro @qz5 <| And.intro @qk5 <| And.intro @qui5 <| And.intro @qs22 <| And.intro @qb22 <| And.intro @qa22 <| And.intro @qz22 <| And.intro @qe22 <| And.intro @qs25 <| And.intro @qb25 <| And.intro @qa25 <| And.intro @qz25 <| And.intro @qe25 <| And.intro @qs40 <| And.intro @qb40 <| And.intro @qa40 <| And.intro @qz40 <| And.intro @qe40 <| And.intro @qs49 <| And.intro @qb49 <| And.intro @qa49 <| And.intro @qz49 <| And.intro @qe49 <| And.intro @qs56 <| And.intro @qb56 <| And.intro @qa56 <| And.intro @qz56 <| And.intro @qf56_0 <| And.intro @qf56_1 <| And.intro @qf56_2 <| And.intro @qs58 <| And.intro @qb58 <| And.intro @qa58 <| And.intro @qz58 <| And.intro @qf58_0 <| And.intro @qf58_1 <| And.intro @qf58_2 <| And.intro @qs74 <| And.intro @qb74 <| And.intro @qa74 <| And.intro @qz74 <| And.intro @qs75 <| And.intro @qb75 <| And.intro @qa75 <| And.intro @qz75 <| And.intro @qk75 <| And.intro @qui75 <| And.intro @qs77 <| And.intro @qb77 <| And.intro @qa77 <| And.intro @qz77 <| And.intro @qf77_0 <| And.intro @qf77_1 <| And.intro @qf77_2 <| And.intro @qs84 <| And.intro @qb84 <| And.intro @qa84 <| And.intro @qz84 <| And.intro @qk84 <| And.intro @qui84 <| True.intro
end Go.Proofs.Ytgjkjibllgpnjaa
