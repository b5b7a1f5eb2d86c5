/- The types and functions of the translation that the walks name. -/
import Derived.Test.YtnloilnlehgngaaRows
import Derived.Test.YtnloilnlehgngaaYPlan
namespace Go.Proofs.Ytnloilnlehgngaa
open Go Go.Y Go.Proofs
set_option linter.unusedVariables false
def ti3 : TI := ⟨.int .i64, 1, 8, .int .i64 0⟩
theorem tok3 : TOK Try.prog 3 ti3 := ⟨by kernel_rfl, by kernel_rfl, by kernel_rfl⟩
def ti4 : TI := ⟨.bool, 1, 1, .bool false⟩
theorem tok4 : TOK Try.prog 4 ti4 := ⟨by kernel_rfl, by kernel_rfl, by kernel_rfl⟩
def ti5 : TI := ⟨.int .u8, 1, 1, .int .u8 0⟩
theorem tok5 : TOK Try.prog 5 ti5 := ⟨by kernel_rfl, by kernel_rfl, by kernel_rfl⟩
def ti22 : TI := ⟨.slice 29, 1, 24, .slice none 0 0⟩
theorem tok22 : TOK Try.prog 22 ti22 := ⟨by kernel_rfl, by kernel_rfl, by kernel_rfl⟩
def ti24 : TI := ⟨.ptr 55, 1, 8, .pointer none⟩
theorem tok24 : TOK Try.prog 24 ti24 := ⟨by kernel_rfl, by kernel_rfl, by kernel_rfl⟩
def ti26 : TI := ⟨.slice 41, 1, 24, .slice none 0 0⟩
theorem tok26 : TOK Try.prog 26 ti26 := ⟨by kernel_rfl, by kernel_rfl, by kernel_rfl⟩
def ti27 : TI := ⟨.int .u64, 1, 8, .int .u64 0⟩
theorem tok27 : TOK Try.prog 27 ti27 := ⟨by kernel_rfl, by kernel_rfl, by kernel_rfl⟩
def ti29 : TI := ⟨.struct [(0, 1, 27), (1, 1, 3), (2, 1, 4)], 3, 24, .agg #[.int .u64 0, .int .i64 0, .bool false]⟩
theorem tok29 : TOK Try.prog 29 ti29 := ⟨by kernel_rfl, by kernel_rfl, by kernel_rfl⟩
def ti41 : TI := ⟨.struct [(0, 1, 27), (1, 1, 3)], 2, 16, .agg #[.int .u64 0, .int .i64 0]⟩
theorem tok41 : TOK Try.prog 41 ti41 := ⟨by kernel_rfl, by kernel_rfl, by kernel_rfl⟩
def ti45 : TI := ⟨.struct [(0, 1, 22)], 1, 24, .agg #[.slice none 0 0]⟩
theorem tok45 : TOK Try.prog 45 ti45 := ⟨by kernel_rfl, by kernel_rfl, by kernel_rfl⟩
def ti51 : TI := ⟨.slice 27, 1, 24, .slice none 0 0⟩
theorem tok51 : TOK Try.prog 51 ti51 := ⟨by kernel_rfl, by kernel_rfl, by kernel_rfl⟩
def ti53 : TI := ⟨.slice 58, 1, 24, .slice none 0 0⟩
theorem tok53 : TOK Try.prog 53 ti53 := ⟨by kernel_rfl, by kernel_rfl, by kernel_rfl⟩
def ti55 : TI := ⟨.struct [(0, 1, 53), (1, 1, 3), (2, 1, 3)], 3, 40, .agg #[.slice none 0 0, .int .i64 0, .int .i64 0]⟩
theorem tok55 : TOK Try.prog 55 ti55 := ⟨by kernel_rfl, by kernel_rfl, by kernel_rfl⟩
def ti58 : TI := ⟨.struct [(0, 1, 5), (1, 1, 27), (2, 1, 3)], 3, 24, .agg #[.int .u8 0, .int .u64 0, .int .i64 0]⟩
theorem tok58 : TOK Try.prog 58 ti58 := ⟨by kernel_rfl, by kernel_rfl, by kernel_rfl⟩
theorem ent9 : Ent Try.prog 9 := .mk' Try.func9 (by kernel_rfl) (by kernel_rfl)
theorem ent10 : Ent Try.prog 10 := .mk' Try.func10 (by kernel_rfl) (by kernel_rfl)
theorem ent11 : Ent Try.prog 11 := .mk' Try.func11 (by kernel_rfl) (by kernel_rfl)
theorem ent12 : Ent Try.prog 12 := .mk' Try.func12 (by kernel_rfl) (by kernel_rfl)
theorem ent13 : Ent Try.prog 13 := .mk' Try.func13 (by kernel_rfl) (by kernel_rfl)
theorem ent14 : Ent Try.prog 14 := .mk' Try.func14 (by kernel_rfl) (by kernel_rfl)
theorem ent15 : Ent Try.prog 15 := .mk' Try.func15 (by kernel_rfl) (by kernel_rfl)
theorem ent16 : Ent Try.prog 16 := .mk' Try.func16 (by kernel_rfl) (by kernel_rfl)
theorem ent17 : Ent Try.prog 17 := .mk' Try.func17 (by kernel_rfl) (by kernel_rfl)
theorem ent18 : Ent Try.prog 18 := .mk' Try.func18 (by kernel_rfl) (by kernel_rfl)
theorem ent19 : Ent Try.prog 19 := .mk' Try.func19 (by kernel_rfl) (by kernel_rfl)
theorem ent20 : Ent Try.prog 20 := .mk' Try.func20 (by kernel_rfl) (by kernel_rfl)
theorem ent21 : Ent Try.prog 21 := .mk' Try.func21 (by kernel_rfl) (by kernel_rfl)
theorem ent22 : Ent Try.prog 22 := .mk' Try.func22 (by kernel_rfl) (by kernel_rfl)
theorem ent23 : Ent Try.prog 23 := .mk' Try.func23 (by kernel_rfl) (by kernel_rfl)
theorem ent24 : Ent Try.prog 24 := .mk' Try.func24 (by kernel_rfl) (by kernel_rfl)
theorem ent25 : Ent Try.prog 25 := .mk' Try.func25 (by kernel_rfl) (by kernel_rfl)
theorem ent26 : Ent Try.prog 26 := .mk' Try.func26 (by kernel_rfl) (by kernel_rfl)
theorem ent27 : Ent Try.prog 27 := .mk' Try.func27 (by kernel_rfl) (by kernel_rfl)
theorem ent28 : Ent Try.prog 28 := .mk' Try.func28 (by kernel_rfl) (by kernel_rfl)
theorem ent29 : Ent Try.prog 29 := .mk' Try.func29 (by kernel_rfl) (by kernel_rfl)
theorem ent31 : Ent Try.prog 31 := .mk' Try.func31 (by kernel_rfl) (by kernel_rfl)
end Go.Proofs.Ytnloilnlehgngaa
