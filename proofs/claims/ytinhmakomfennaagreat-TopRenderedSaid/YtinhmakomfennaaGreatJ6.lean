/- Own lemmas. -/
import Derived.Test.YtinhmakomfennaaGreatJ4
import Derived.Test.YtinhmakomfennaaGreatJ5
set_option linter.unusedSimpArgs false
set_option linter.unusedVariables false
set_option linter.unusedSectionVars false
namespace Go.Proofs.YtinhmakomfennaaGreat
open Go Go.Y Go.Proofs
theorem Aac {w:World} {x:Nat}:Calls Tryz.prog 207 #[.int .i32 (x:Int)] w (fun e w'=>e=.returned (.bool (K5 x))∧∃ q,w' = w.drewN q):=by
 refine Bf (vs:=[_]) Tryz.func207 rfl (n:=9) rfl rfl ?_;intro a F;refine wp_seq<|Ar<|Aa F (run_assign (F.ev rfl)) rfl fun a F=>?_
 refine Ak<|Ay<|wp_seq<|Ar<|Aa F (run_move (F.ev rfl)) rfl fun a F=>?_
 refine Aa F (run_lss (F.ev rfl) (F.ev rfl)) rfl fun a F=>?_;refine Aa F (run_move (F.ev rfl)) rfl fun a F=>?_;rcases Bool.eq_false_or_eq_true (decide ((x:Int) < 32)) with E | E
 ·skip
  have D:=E;clear E;have J:(x:Int) < 32:=of_decide_eq_true D
  iterate 2 (refine Ik F rfl rfl rfl D ?_;clear F a;intro a F)
  refine Aa F (run_pick_t (F.ev rfl) D (F.ev rfl)) rfl fun a F=>?_;refine Aa F (run_assign (F.ev rfl)) rfl fun a F=>?_;refine Ak<|Ay<|wp_ret<|O7 F rfl rfl ?_
  exact ⟨by have I:K5 x=true:=(by unfold K5;first | (simp_all;omega) | simp_all);rw [I],0,rfl⟩
 ·skip
  have z:=E;clear E;have O:¬ ((x:Int) < 32):=of_decide_eq_false z;refine Fj F rfl rfl rfl z ?_;refine Aa F (run_move (F.ev rfl)) rfl fun a F=>?_;refine Fj F rfl rfl rfl z ?_;refine Aa F (run_gtr (F.ev rfl) (F.ev rfl)) rfl fun a F=>?_;refine Aa F (run_pick_f (F.ev rfl) z (F.ev rfl)) rfl fun a F=>?_;refine Aa F (run_assign (F.ev rfl)) rfl fun a F=>?_;refine Ak<|Ay<|wp_ret<|O7 F rfl rfl ?_
  exact ⟨by have I:K5 x=(decide (126 < (x:Int))):=(by unfold K5;first | (simp_all;omega) | simp_all);rw [I],0,rfl⟩
theorem Amy {w0 w:World} {G:Ghost} {L:List Res} (M:Mem w0 G L w) {s:List UInt8}:Calls Tryz.prog 206 #[.string (str s),.func (.func 207) #[] #[]] w (RetS w0 G L fun v=>∃ z:Int,v=.int .i64 z∧(z < 0↔∀ c∈s,Abp c)):=by
 have E:PredAt Tryz.prog 207 #[] encR K5 w:=fun W x _=>(Aac (x:=x));refine (Any.strings_IndexFunc Tryz.laysGw15 207 #[] (Go.Proofs.enters_of Tryz.func207 kR rfl) K5 (str s) w E).mono ?_;rintro e w' ⟨rfl,D⟩;exact ⟨M.below' D,_,rfl,idx_str s⟩
theorem Acy {w0 w:World} {G:Ghost} {L:List Res} (M:Mem w0 G L w) {s:List UInt8}:Calls Tryz.prog 176 #[.string (str s)] w (RetS w0 G L fun v=>∃ b:Bool,v=.bool b∧(b=true↔Str s)):=by
 refine Bf (vs:=[_]) Tryz.func176 rfl (n:=11) rfl rfl ?_;intro a F;refine wp_seq<|Ar<|Aa F (run_assign (F.ev rfl)) rfl fun a F=>?_
 refine Ak<|Ay<|wp_seq<|Ar<|Aa F (run_move (F.ev rfl)) rfl fun a F=>?_
 refine Aa F (Ct Cs.k (F.ev rfl)) rfl fun a F=>?_;refine Aa F (run_leq (F.ev rfl) (F.ev rfl)) rfl fun a F=>?_;refine Aa F (run_move (F.ev rfl)) rfl fun a F=>?_;rcases Bool.eq_false_or_eq_true (decide ((((s).length:Nat):Int)≤64)) with I | I
 ·skip
  have z:=I;clear I;have U:(((s).length:Nat):Int)≤64:=of_decide_eq_true z;refine Fj F rfl rfl rfl z ?_;refine Aa F (run_move (F.ev rfl)) rfl fun a F=>?_;refine Fj F rfl rfl rfl z ?_;refine Qr F ent206 rfl rfl (Amy (s:=s) M) ?_;clear F M a;rintro _ w a M ⟨O,rfl,J⟩ F;refine Fj F rfl rfl rfl z ?_;refine Aa F (run_lss (F.ev rfl) (F.ev rfl)) rfl fun a F=>?_;refine Aa F (run_pick_t (F.ev rfl) z (F.ev rfl)) rfl fun a F=>?_;refine Aa F (run_assign (F.ev rfl)) rfl fun a F=>?_;refine Ak<|Ay<|wp_ret<|O7 F rfl rfl ?_
  exact ⟨M,(decide (O < 0)),rfl,⟨fun E=>⟨tM,J.1 (of_decide_eq_true E)⟩,fun E=>decide_eq_true (J.2 E.2)⟩⟩
 ·skip
  have D:=I;clear I;have Y:¬ ((((s).length:Nat):Int)≤64):=of_decide_eq_false D
  iterate 3 (refine Ik F rfl rfl rfl D ?_;clear F a;intro a F)
  refine Aa F (run_pick_f (F.ev rfl) D (F.ev rfl)) rfl fun a F=>?_;refine Aa F (run_assign (F.ev rfl)) rfl fun a F=>?_;refine Ak<|Ay<|wp_ret<|O7 F rfl rfl ?_
  exact ⟨M,false,rfl,⟨fun E=>(by cases E),fun E=>(by have:=E.1;omega)⟩⟩
end Go.Proofs.YtinhmakomfennaaGreat
