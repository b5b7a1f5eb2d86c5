/- More of the types and functions of the translation that the walks name. -/
import Derived.Test.YtlnehkjmmegkhaaGreatTab
import Derived.Test.YtlnehkjmmegkhaaGreatRpl
namespace Go.Proofs.YtlnehkjmmegkhaaGreat
open Go Go.Y Go.Proofs
set_option linter.unusedVariables false
def ti24 : TI := ⟨.struct [(0, 1, 5), (1, 1, 5), (2, 1, 22)], 3, 32, .agg #[.int .u8 0, .int .u8 0, .slice none 0 0]⟩
theorem tok24 : TOK Tryz.prog 24 ti24 := ⟨by kernel_rfl, by kernel_rfl, by kernel_rfl⟩
def ti25 : TI := ⟨.slice 3, 1, 24, .slice none 0 0⟩
theorem tok25 : TOK Tryz.prog 25 ti25 := ⟨by kernel_rfl, by kernel_rfl, by kernel_rfl⟩
def ti32 : TI := ⟨.int .i64, 1, 8, .int .i64 0⟩
theorem tok32 : TOK Tryz.prog 32 ti32 := ⟨by kernel_rfl, by kernel_rfl, by kernel_rfl⟩
def ti111 : TI := ⟨.ptr 113, 1, 8, .pointer none⟩
theorem tok111 : TOK Tryz.prog 111 ti111 := ⟨by kernel_rfl, by kernel_rfl, by kernel_rfl⟩
def ti113 : TI := ⟨.struct [(0, 1, 111), (1, 1, 22)], 2, 32, .agg #[.pointer none, .slice none 0 0]⟩
theorem tok113 : TOK Tryz.prog 113 ti113 := ⟨by kernel_rfl, by kernel_rfl, by kernel_rfl⟩
def ti118 : TI := ⟨.struct [(0, 1, 3), (1, 1, 32)], 2, 16, .agg #[.int .i64 0, .int .i64 0]⟩
theorem tok118 : TOK Tryz.prog 118 ti118 := ⟨by kernel_rfl, by kernel_rfl, by kernel_rfl⟩
def ti122 : TI := ⟨.struct [(0, 1, 9), (1, 1, 3), (2, 1, 3)], 3, 32, .agg #[.string ⟨#[]⟩, .int .i64 0, .int .i64 0]⟩
theorem tok122 : TOK Tryz.prog 122 ti122 := ⟨by kernel_rfl, by kernel_rfl, by kernel_rfl⟩
def ti141 : TI := ⟨.ptr 5, 1, 8, .pointer none⟩
theorem tok141 : TOK Tryz.prog 141 ti141 := ⟨by kernel_rfl, by kernel_rfl, by kernel_rfl⟩
def ti175 : TI := ⟨.iface, 1, 16, .nilIface⟩
theorem tok175 : TOK Tryz.prog 175 ti175 := ⟨by kernel_rfl, by kernel_rfl, by kernel_rfl⟩
def ti177 : TI := ⟨.struct [(0, 3, 173), (3, 1, 175), (4, 1, 49)], 5, 56, .agg #[.int .u32 0, .int .i32 0, .int .u32 0, .nilIface, .slice none 0 0]⟩
theorem tok177 : TOK Tryz.prog 177 ti177 := ⟨by kernel_rfl, by kernel_rfl, by kernel_rfl⟩
def ti193 : TI := ⟨.array 256 22, 256, 6144, .agg (List.replicate 256 (.slice none 0 0)).toArray⟩
theorem tok193 : TOK Tryz.prog 193 ti193 := ⟨by kernel_rfl, by kernel_rfl, by kernel_rfl⟩
def ti195 : TI := ⟨.struct [(0, 256, 193), (256, 1, 49)], 257, 6168, .agg (tab0 (.slice none 0 0)).toArray⟩
theorem tok195 : TOK Tryz.prog 195 ti195 := ⟨by kernel_rfl, by kernel_rfl, by kernel_rfl⟩
def ti196 : TI := ⟨.ptr 195, 1, 8, .pointer none⟩
theorem tok196 : TOK Tryz.prog 196 ti196 := ⟨by kernel_rfl, by kernel_rfl, by kernel_rfl⟩
theorem ent13 : Ent Tryz.prog 13 := .mk' Tryz.func13 (by kernel_rfl) (by kernel_rfl)
theorem ent14 : Ent Tryz.prog 14 := .mk' Tryz.func14 (by kernel_rfl) (by kernel_rfl)
theorem ent15 : Ent Tryz.prog 15 := .mk' Tryz.func15 (by kernel_rfl) (by kernel_rfl)
theorem ent18 : Ent Tryz.prog 18 := .mk' Tryz.func18 (by kernel_rfl) (by kernel_rfl)
theorem ent38 : Ent Tryz.prog 38 := .mk' Tryz.func38 (by kernel_rfl) (by kernel_rfl)
theorem ent40 : Ent Tryz.prog 40 := .mk' Tryz.func40 (by kernel_rfl) (by kernel_rfl)
theorem ent41 : Ent Tryz.prog 41 := .mk' Tryz.func41 (by kernel_rfl) (by kernel_rfl)
theorem ent42 : Ent Tryz.prog 42 := .mk' Tryz.func42 (by kernel_rfl) (by kernel_rfl)
theorem ent43 : Ent Tryz.prog 43 := .mk' Tryz.func43 (by kernel_rfl) (by kernel_rfl)
theorem ent46 : Ent Tryz.prog 46 := .mk' Tryz.func46 (by kernel_rfl) (by kernel_rfl)
theorem ent49 : Ent Tryz.prog 49 := .mk' Tryz.func49 (by kernel_rfl) (by kernel_rfl)
theorem ent52 : Ent Tryz.prog 52 := .mk' Tryz.func52 (by kernel_rfl) (by kernel_rfl)
theorem ent53 : Ent Tryz.prog 53 := .mk' Tryz.func53 (by kernel_rfl) (by kernel_rfl)
theorem ent54 : Ent Tryz.prog 54 := .mk' Tryz.func54 (by kernel_rfl) (by kernel_rfl)
theorem ent55 : Ent Tryz.prog 55 := .mk' Tryz.func55 (by kernel_rfl) (by kernel_rfl)
theorem ent56 : Ent Tryz.prog 56 := .mk' Tryz.func56 (by kernel_rfl) (by kernel_rfl)
theorem ent77 : Ent Tryz.prog 77 := .mk' Tryz.func77 (by kernel_rfl) (by kernel_rfl)
theorem ent78 : Ent Tryz.prog 78 := .mk' Tryz.func78 (by kernel_rfl) (by kernel_rfl)
theorem ent80 : Ent Tryz.prog 80 := .mk' Tryz.func80 (by kernel_rfl) (by kernel_rfl)
theorem ent81 : Ent Tryz.prog 81 := .mk' Tryz.func81 (by kernel_rfl) (by kernel_rfl)
theorem ent82 : Ent Tryz.prog 82 := .mk' Tryz.func82 (by kernel_rfl) (by kernel_rfl)
theorem ent83 : Ent Tryz.prog 83 := .mk' Tryz.func83 (by kernel_rfl) (by kernel_rfl)
theorem ent85 : Ent Tryz.prog 85 := .mk' Tryz.func85 (by kernel_rfl) (by kernel_rfl)
theorem ent86 : Ent Tryz.prog 86 := .mk' Tryz.func86 (by kernel_rfl) (by kernel_rfl)
theorem ent98 : Ent Tryz.prog 98 := .mk' Tryz.func98 (by kernel_rfl) (by kernel_rfl)
theorem ent99 : Ent Tryz.prog 99 := .mk' Tryz.func99 (by kernel_rfl) (by kernel_rfl)
theorem ent100 : Ent Tryz.prog 100 := .mk' Tryz.func100 (by kernel_rfl) (by kernel_rfl)
theorem ent101 : Ent Tryz.prog 101 := .mk' Tryz.func101 (by kernel_rfl) (by kernel_rfl)
theorem ent102 : Ent Tryz.prog 102 := .mk' Tryz.func102 (by kernel_rfl) (by kernel_rfl)
theorem ent103 : Ent Tryz.prog 103 := .mk' Tryz.func103 (by kernel_rfl) (by kernel_rfl)
theorem ent104 : Ent Tryz.prog 104 := .mk' Tryz.func104 (by kernel_rfl) (by kernel_rfl)
theorem ent105 : Ent Tryz.prog 105 := .mk' Tryz.func105 (by kernel_rfl) (by kernel_rfl)
theorem ent106 : Ent Tryz.prog 106 := .mk' Tryz.func106 (by kernel_rfl) (by kernel_rfl)
theorem ent116 : Ent Tryz.prog 116 := .mk' Tryz.func116 (by kernel_rfl) (by kernel_rfl)
theorem ent117 : Ent Tryz.prog 117 := .mk' Tryz.func117 (by kernel_rfl) (by kernel_rfl)
theorem ent118 : Ent Tryz.prog 118 := .mk' Tryz.func118 (by kernel_rfl) (by kernel_rfl)
theorem ent120 : Ent Tryz.prog 120 := .mk' Tryz.func120 (by kernel_rfl) (by kernel_rfl)
theorem ent125 : Ent Tryz.prog 125 := .mk' Tryz.func125 (by kernel_rfl) (by kernel_rfl)
theorem ent127 : Ent Tryz.prog 127 := .mk' Tryz.func127 (by kernel_rfl) (by kernel_rfl)
theorem ent131 : Ent Tryz.prog 131 := .mk' Tryz.func131 (by kernel_rfl) (by kernel_rfl)
theorem ent188 : Ent Tryz.prog 188 := .mk' Tryz.func188 (by kernel_rfl) (by kernel_rfl)
theorem ent190 : Ent Tryz.prog 190 := .mk' Tryz.func190 (by kernel_rfl) (by kernel_rfl)
end Go.Proofs.YtlnehkjmmegkhaaGreat
