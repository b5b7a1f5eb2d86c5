/- The types and functions of the translation that the walks name. -/
import Derived.Test.YtlnehkjmmegkhaaGreatRows
import Derived.Test.YtlnehkjmmegkhaaGreatYB
namespace Go.Proofs.YtlnehkjmmegkhaaGreat
open Go Go.Y Go.Proofs
set_option linter.unusedVariables false
def ti3 : TI := ⟨.int .i64, 1, 8, .int .i64 0⟩
theorem tok3 : TOK Tryz.prog 3 ti3 := ⟨by kernel_rfl, by kernel_rfl, by kernel_rfl⟩
def ti4 : TI := ⟨.bool, 1, 1, .bool false⟩
theorem tok4 : TOK Tryz.prog 4 ti4 := ⟨by kernel_rfl, by kernel_rfl, by kernel_rfl⟩
def ti5 : TI := ⟨.int .u8, 1, 1, .int .u8 0⟩
theorem tok5 : TOK Tryz.prog 5 ti5 := ⟨by kernel_rfl, by kernel_rfl, by kernel_rfl⟩
def ti9 : TI := ⟨.str, 1, 16, .string ⟨#[]⟩⟩
theorem tok9 : TOK Tryz.prog 9 ti9 := ⟨by kernel_rfl, by kernel_rfl, by kernel_rfl⟩
def ti22 : TI := ⟨.slice 5, 1, 24, .slice none 0 0⟩
theorem tok22 : TOK Tryz.prog 22 ti22 := ⟨by kernel_rfl, by kernel_rfl, by kernel_rfl⟩
def ti27 : TI := ⟨.slice 87, 1, 24, .slice none 0 0⟩
theorem tok27 : TOK Tryz.prog 27 ti27 := ⟨by kernel_rfl, by kernel_rfl, by kernel_rfl⟩
def ti28 : TI := ⟨.slice 30, 1, 24, .slice none 0 0⟩
theorem tok28 : TOK Tryz.prog 28 ti28 := ⟨by kernel_rfl, by kernel_rfl, by kernel_rfl⟩
def ti30 : TI := ⟨.struct [(0, 1, 5), (1, 1, 9), (2, 1, 9), (3, 1, 27), (4, 1, 9), (5, 1, 28)], 6, 104, .agg #[.int .u8 0, .string ⟨#[]⟩, .string ⟨#[]⟩, .slice none 0 0, .string ⟨#[]⟩, .slice none 0 0]⟩
theorem tok30 : TOK Tryz.prog 30 ti30 := ⟨by kernel_rfl, by kernel_rfl, by kernel_rfl⟩
def ti49 : TI := ⟨.slice 9, 1, 24, .slice none 0 0⟩
theorem tok49 : TOK Tryz.prog 49 ti49 := ⟨by kernel_rfl, by kernel_rfl, by kernel_rfl⟩
def ti87 : TI := ⟨.struct [(0, 1, 9), (1, 1, 9)], 2, 32, .agg #[.string ⟨#[]⟩, .string ⟨#[]⟩]⟩
theorem tok87 : TOK Tryz.prog 87 ti87 := ⟨by kernel_rfl, by kernel_rfl, by kernel_rfl⟩
def ti127 : TI := ⟨.func, 1, 8, .nilFunc⟩
theorem tok127 : TOK Tryz.prog 127 ti127 := ⟨by kernel_rfl, by kernel_rfl, by kernel_rfl⟩
theorem ent17 : Ent Tryz.prog 17 := .mk' Tryz.func17 (by kernel_rfl) (by kernel_rfl)
theorem ent30 : Ent Tryz.prog 30 := .mk' Tryz.func30 (by kernel_rfl) (by kernel_rfl)
theorem ent48 : Ent Tryz.prog 48 := .mk' Tryz.func48 (by kernel_rfl) (by kernel_rfl)
theorem ent50 : Ent Tryz.prog 50 := .mk' Tryz.func50 (by kernel_rfl) (by kernel_rfl)
theorem ent57 : Ent Tryz.prog 57 := .mk' Tryz.func57 (by kernel_rfl) (by kernel_rfl)
theorem ent58 : Ent Tryz.prog 58 := .mk' Tryz.func58 (by kernel_rfl) (by kernel_rfl)
theorem ent75 : Ent Tryz.prog 75 := .mk' Tryz.func75 (by kernel_rfl) (by kernel_rfl)
theorem ent76 : Ent Tryz.prog 76 := .mk' Tryz.func76 (by kernel_rfl) (by kernel_rfl)
theorem ent84 : Ent Tryz.prog 84 := .mk' Tryz.func84 (by kernel_rfl) (by kernel_rfl)
theorem ent87 : Ent Tryz.prog 87 := .mk' Tryz.func87 (by kernel_rfl) (by kernel_rfl)
theorem ent88 : Ent Tryz.prog 88 := .mk' Tryz.func88 (by kernel_rfl) (by kernel_rfl)
theorem ent107 : Ent Tryz.prog 107 := .mk' Tryz.func107 (by kernel_rfl) (by kernel_rfl)
theorem ent108 : Ent Tryz.prog 108 := .mk' Tryz.func108 (by kernel_rfl) (by kernel_rfl)
theorem ent109 : Ent Tryz.prog 109 := .mk' Tryz.func109 (by kernel_rfl) (by kernel_rfl)
theorem ent110 : Ent Tryz.prog 110 := .mk' Tryz.func110 (by kernel_rfl) (by kernel_rfl)
theorem ent111 : Ent Tryz.prog 111 := .mk' Tryz.func111 (by kernel_rfl) (by kernel_rfl)
theorem ent119 : Ent Tryz.prog 119 := .mk' Tryz.func119 (by kernel_rfl) (by kernel_rfl)
theorem ent121 : Ent Tryz.prog 121 := .mk' Tryz.func121 (by kernel_rfl) (by kernel_rfl)
theorem ent123 : Ent Tryz.prog 123 := .mk' Tryz.func123 (by kernel_rfl) (by kernel_rfl)
end Go.Proofs.YtlnehkjmmegkhaaGreat
