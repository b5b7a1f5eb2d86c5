/- The walks, part V. -/
import Derived.Test.YtmmhmcplegpenaaDoorWalkR
namespace Go.Proofs.YtmmhmcplegpenaaDoor
open Go Go.Y Go.Proofs
set_option linter.unusedSimpArgs false
set_option linter.unusedVariables false
def pairF : List ItemD := [⟨7, 2, [104, 105, 32, 116, 104, 101, 114, 101], [[97], [98]]⟩, ⟨8, 0, [], []⟩]
theorem pair_spec {w0 w : World} {G : Ghost} {L : List Res} (M : Mem w0 G L w) : Calls Tryd.prog 22 #[] w (Ret w0 G L fun G' v => ∃ (a : Option Addr) (c : Nat), v = .slice a pairF.length c ∧ RdSl rdItem 4 G' (.slice a pairF.length c) pairF) := by
 refine calls_start (vs := []) Tryd.func22 rfl (n := 5) rfl rfl ?_
 intro a F
 refine wp_seq <| w_reg <| rl_run F (run_assign (F.ev rfl)) rfl ?_; clear F a; intro a F
 refine rl_nil <| q_tn <| wp_seq <| w_reg <| rl_buildSliceN F M tok28.k tok9 (ps := [(0, .string (str ([97] : List UInt8))), (1, .string (str ([98] : List UInt8)))]) (cs := [[.string (str ([97] : List UInt8))], [.string (str ([98] : List UInt8))]]) (fl := [.string (str ([97] : List UInt8)), .string (str ([98] : List UInt8))]) rfl rfl (by simp [Parts, Value.cells]) (by simp [ti9]) rfl (by simp [Value.oneCell']) (by decide) (by decide) rfl ?_; clear F M a; intro v1 w a M F
 obtain ⟨av1, cv1, rfl, hlev1, hcmv1, hlv1⟩ := M.row_shape (k := 0) rfl
 have E1 : Els rdStr 1 G [.string (str ([97] : List UInt8)), .string (str ([98] : List UInt8))] [[97], [98]] := ⟨[.string (str [97])], _, rfl, rfl, ⟨rfl, by decide⟩, ⟨[.string (str [98])], _, rfl, rfl, ⟨rfl, by decide⟩, rfl⟩⟩
 obtain ⟨hnz2, Gz2, az2, cz2, hGz2, hez2, Sz2, M⟩ := M.freeze_row mono_rdStr (k := 0) rfl E1 (by decide)
 clear hez2 az2 cz2
 refine rl_run F (run_buildS (cs := [.int .u64 (7), .int .u8 (2), .string (str ([104, 105, 32, 116, 104, 101, 114, 101] : List UInt8)), .slice (av1) (2) (cv1)]) (ps := [(0, .int .u64 (7)), (1, .int .u8 (2)), (2, .string (str ([104, 105, 32, 116, 104, 101, 114, 101] : List UInt8))), (3, .slice (av1) (2) (cv1))]) tok30.k rfl tok30 (F.evp rfl) rfl) rfl ?_; clear F a; intro a F
 refine rl_run F (run_buildS (cs := [.int .u64 (8), .int .u8 (0), .string (str ([] : List UInt8)), .slice none (0) (0)]) (ps := [(0, .int .u64 (8))]) tok30.k rfl tok30 (F.evp rfl) rfl) rfl ?_; clear F a; intro a F
 refine rl_buildSliceN F M tok22.k tok30 (ps := [(0, .agg #[.int .u64 (7), .int .u8 (2), .string (str ([104, 105, 32, 116, 104, 101, 114, 101] : List UInt8)), .slice (av1) (2) (cv1)]), (1, .agg #[.int .u64 (8), .int .u8 (0), .string (str ([] : List UInt8)), .slice none (0) (0)])]) (cs := [[.int .u64 (7), .int .u8 (2), .string (str ([104, 105, 32, 116, 104, 101, 114, 101] : List UInt8)), .slice (av1) (2) (cv1)], [.int .u64 (8), .int .u8 (0), .string (str ([] : List UInt8)), .slice none (0) (0)]]) (fl := [.int .u64 (7), .int .u8 (2), .string (str ([104, 105, 32, 116, 104, 101, 114, 101] : List UInt8)), .slice (av1) (2) (cv1), .int .u64 (8), .int .u8 (0), .string (str ([] : List UInt8)), .slice none (0) (0)]) rfl rfl (by simp [Parts, Value.cells]) (by simp [ti30]) rfl (by simp [Value.oneCell']) (by decide) (by decide) rfl ?_; clear F M a; intro v3 w a M F
 obtain ⟨av3, cv3, rfl, hlev3, hcmv3, hlv3⟩ := M.row_shape (k := 0) rfl
 refine rl_run F (run_assign (F.ev rfl)) rfl ?_; clear F a; intro a F
 refine rl_nil <| q_tn <| wp_ret <| fin1 F rfl rfl ?_
 have E2 : Els rdItem 4 Gz2 [.int .u64 (7), .int .u8 (2), .string (str ([104, 105, 32, 116, 104, 101, 114, 101] : List UInt8)), .slice (av1) (2) (cv1), .int .u64 (8), .int .u8 (0), .string (str ([] : List UInt8)), .slice none (0) (0)] pairF := ⟨[.int .u64 7, .int .u8 2, .string (str [104, 105, 32, 116, 104, 101, 114, 101]), .slice (av1) (2) (cv1)], _, rfl, rfl, ⟨av1, cv1, rfl, by decide, by decide, by decide, by decide, Sz2⟩, ⟨[.int .u64 8, .int .u8 0, .string (str []), .slice none 0 0], _, rfl, rfl, ⟨none, 0, rfl, by decide, by decide, by decide, by decide, RdSl.nil⟩, rfl⟩⟩
 obtain ⟨hnz4, Gz4, az4, cz4, hGz4, hez4, Sz4, M⟩ := M.freeze_row mono_rdItem (k := 0) rfl E2 (by decide)
 clear hez4 az4 cz4
 exact ⟨Gz4, hGz2.trans hGz4, M.weaken (List.Sublist.refl _), _, _, rfl, Sz4⟩
end Go.Proofs.YtmmhmcplegpenaaDoor
