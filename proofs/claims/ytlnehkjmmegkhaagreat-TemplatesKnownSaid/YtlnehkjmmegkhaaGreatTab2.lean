/- More of the types and functions of the translation that the walks name. -/
import Derived.Test.YtlnehkjmmegkhaaGreatTab
import Derived.Test.YtlnehkjmmegkhaaGreatRpl
namespace Go.Proofs.YtlnehkjmmegkhaaGreat
open Go Go.Y Go.Proofs
set_option linter.unusedVariables false
def ti111 : TI := ⟨.ptr 113, 1, 8, .pointer none⟩
theorem tok111 : TOK Tryz.prog 111 ti111 := ⟨by kernel_rfl, by kernel_rfl, by kernel_rfl⟩
def ti113 : TI := ⟨.struct [(0, 1, 111), (1, 1, 22)], 2, 32, .agg #[.pointer none, .slice none 0 0]⟩
theorem tok113 : TOK Tryz.prog 113 ti113 := ⟨by kernel_rfl, by kernel_rfl, by kernel_rfl⟩
def ti141 : TI := ⟨.ptr 5, 1, 8, .pointer none⟩
theorem tok141 : TOK Tryz.prog 141 ti141 := ⟨by kernel_rfl, by kernel_rfl, by kernel_rfl⟩
def ti175 : TI := ⟨.iface, 1, 16, .nilIface⟩
theorem tok175 : TOK Tryz.prog 175 ti175 := ⟨by kernel_rfl, by kernel_rfl, by kernel_rfl⟩
def ti177 : TI := ⟨.struct [(0, 3, 173), (3, 1, 175), (4, 1, 49)], 5, 56, .agg #[.int .u32 0, .int .i32 0, .int .u32 0, .nilIface, .slice none 0 0]⟩
theorem tok177 : TOK Tryz.prog 177 ti177 := ⟨by kernel_rfl, by kernel_rfl, by kernel_rfl⟩
def ti193 : TI := ⟨.array 256 22, 256, 6144, .agg (List.replicate 256 (.slice none 0 0)).toArray⟩
theorem tok193 : TOK Tryz.prog 193 ti193 := ⟨by kernel_rfl, by kernel_rfl, by kernel_rfl⟩
def ti195 : TI := ⟨.struct [(0, 256, 193), (256, 1, 49)], 257, 6168, .agg (tab0 (.slice none 0 0)).toArray⟩
theorem tok195 : TOK Tryz.prog 195 ti195 := ⟨by kernel_rfl, by kernel_rfl, by kernel_rfl⟩
def ti196 : TI := ⟨.ptr 195, 1, 8, .pointer none⟩
theorem tok196 : TOK Tryz.prog 196 ti196 := ⟨by kernel_rfl, by kernel_rfl, by kernel_rfl⟩
theorem ent22 : Ent Tryz.prog 22 := .mk' Tryz.func22 (by kernel_rfl) (by kernel_rfl)
theorem ent24 : Ent Tryz.prog 24 := .mk' Tryz.func24 (by kernel_rfl) (by kernel_rfl)
theorem ent28 : Ent Tryz.prog 28 := .mk' Tryz.func28 (by kernel_rfl) (by kernel_rfl)
theorem ent31 : Ent Tryz.prog 31 := .mk' Tryz.func31 (by kernel_rfl) (by kernel_rfl)
theorem ent38 : Ent Tryz.prog 38 := .mk' Tryz.func38 (by kernel_rfl) (by kernel_rfl)
theorem ent70 : Ent Tryz.prog 70 := .mk' Tryz.func70 (by kernel_rfl) (by kernel_rfl)
theorem ent77 : Ent Tryz.prog 77 := .mk' Tryz.func77 (by kernel_rfl) (by kernel_rfl)
theorem ent78 : Ent Tryz.prog 78 := .mk' Tryz.func78 (by kernel_rfl) (by kernel_rfl)
theorem ent98 : Ent Tryz.prog 98 := .mk' Tryz.func98 (by kernel_rfl) (by kernel_rfl)
theorem ent99 : Ent Tryz.prog 99 := .mk' Tryz.func99 (by kernel_rfl) (by kernel_rfl)
theorem ent116 : Ent Tryz.prog 116 := .mk' Tryz.func116 (by kernel_rfl) (by kernel_rfl)
theorem ent117 : Ent Tryz.prog 117 := .mk' Tryz.func117 (by kernel_rfl) (by kernel_rfl)
theorem ent118 : Ent Tryz.prog 118 := .mk' Tryz.func118 (by kernel_rfl) (by kernel_rfl)
theorem ent125 : Ent Tryz.prog 125 := .mk' Tryz.func125 (by kernel_rfl) (by kernel_rfl)
theorem ent131 : Ent Tryz.prog 131 := .mk' Tryz.func131 (by kernel_rfl) (by kernel_rfl)
theorem ent188 : Ent Tryz.prog 188 := .mk' Tryz.func188 (by kernel_rfl) (by kernel_rfl)
end Go.Proofs.YtlnehkjmmegkhaaGreat
