/- Own lemmas. -/
import Derived.Test.YtinhmakomfennaaGreatJ6
import Derived.Test.YtinhmakomfennaaGreatJ4
import Derived.Tactics
import Derived.Tactics2
import Derived.Defers
import Derived.Laws.Pointers
import Derived.Laws.LoneSync
import Derived.RegionTactic
import Derived.RegionCalls
import Derived.ChangeAlike
set_option linter.unusedSimpArgs false
set_option linter.unusedVariables false
set_option linter.unusedSectionVars false
namespace Go.Proofs.YtinhmakomfennaaGreat
open Go Go.Y Go.Proofs
theorem Sf {w0 w:World} {G:Ghost} {L:List Res} {b n c:Nat} {ad:Option Addr} (M:Mem w0 G (.blk b [.pointer none,.slice ad n c] 169::L) w) :
  Calls Tryz.prog 185 #[.pointer (some ⟨b,0,none⟩)] w (RetS w0 G (.blk b [.pointer (some ⟨b,0,none⟩),.slice ad n c] 169::L) fun v=>v=.tuple #[]):=by
 refine Bf (vs:=[_]) Tryz.func185 rfl (n:=20) rfl rfl ?_;intro a F;refine wp_seq<|Ar<|Aa F (run_move (F.ev rfl)) rfl fun a F=>?_
 refine Aa F (run_nilCheck (F.ev rfl)) rfl fun a F=>?_;refine Aa F (run_fieldAddr Fh.k rfl rfl (F.ev rfl)) rfl fun a F=>?_;refine Aa F (run_load1 (agf Ij rfl) (F.ev rfl) (M.cellL (k:=0) rfl rfl)) rfl fun a F=>?_;refine Aa F (run_eqnil Ij.k (F.ev rfl) (F.ev rfl)) rfl fun a F=>?_;refine Ak<|Ay<|Dk F rfl rfl ?_
 refine Ar ?_
 iterate 2 (refine Aa F (run_move (F.ev rfl)) rfl fun a F=>?_)
 refine Aa F (U4 M (k:=0) rfl (by simp) Ij.k kR Fh tD (F.ev rfl)) rfl fun a F=>?_;refine Aa F (run_noEscape Tryz.func212 kR kR kR kR (F.ev rfl) (F.ev (x:=.func 212) rfl)) rfl fun a F=>?_;refine Aa F (Qn M (k:=0) rfl kR Ij.k Fh kR (F.ev rfl)) rfl fun a F=>?_;refine Aa F (run_nilCheck (F.ev rfl)) rfl fun a F=>?_;refine Aa F (run_fieldAddr Fh.k rfl rfl (F.ev rfl)) rfl fun a F=>?_;refine Co F M Ij rfl (k:=0) rfl rfl rfl rfl rfl ?_;clear F M a;intro w a M F;refine Ak<|Awt F rfl ?_
 exact ⟨M,rfl⟩
theorem Se {w0 w:World} {G:Ghost} {L:List Res} {b n c:Nat} {ad:Option Addr} (M:Mem w0 G (.blk b [.pointer (some ⟨b,0,none⟩),.slice ad n c] 169::L) w) :
  Calls Tryz.prog 185 #[.pointer (some ⟨b,0,none⟩)] w (RetS w0 G (.blk b [.pointer (some ⟨b,0,none⟩),.slice ad n c] 169::L) fun v=>v=.tuple #[]):=by
 refine Bf (vs:=[_]) Tryz.func185 rfl (n:=20) rfl rfl ?_;intro a F;refine wp_seq<|Ar<|Aa F (run_move (F.ev rfl)) rfl fun a F=>?_
 refine Aa F (run_nilCheck (F.ev rfl)) rfl fun a F=>?_;refine Aa F (run_fieldAddr Fh.k rfl rfl (F.ev rfl)) rfl fun a F=>?_;refine Aa F (run_load1 (agf Ij rfl) (F.ev rfl) (M.cellL (k:=0) rfl rfl)) rfl fun a F=>?_;refine Aa F (run_eqnil Ij.k (F.ev rfl) (F.ev rfl)) rfl fun a F=>?_;refine Ak<|Ay<|C8 F rfl rfl ?_
 refine wp_seq<|Ar<|Aa F (run_move (F.ev rfl)) rfl fun a F=>?_
 refine Aa F (run_nilCheck (F.ev rfl)) rfl fun a F=>?_;refine Aa F (run_fieldAddr Fh.k rfl rfl (F.ev rfl)) rfl fun a F=>?_;refine Aa F (run_load1 (agf Ij rfl) (F.ev rfl) (M.cellL (k:=0) rfl rfl)) rfl fun a F=>?_;refine Aa F (run_move (F.ev rfl)) rfl fun a F=>?_;refine Aa F (Qm Ij.k Fh (F.ev rfl) (F.ev rfl)) rfl fun a F=>?_;refine Ak<|Ay<|C8 F rfl rfl ?_
 refine wp_skip<|Awt F rfl ?_
 exact ⟨M,rfl⟩
theorem Rk {w0 w:World} {G:Ghost} {L:List Res} {b n c:Nat} {ad:Option Addr} {p:Value} (z:p=.pointer none∨p=.pointer (some ⟨b,0,none⟩)) (M:Mem w0 G (.blk b [p,.slice ad n c] 169::L) w) :
  Calls Tryz.prog 185 #[.pointer (some ⟨b,0,none⟩)] w (RetS w0 G (.blk b [.pointer (some ⟨b,0,none⟩),.slice ad n c] 169::L) fun v=>v=.tuple #[]):=by
 rcases z with rfl | rfl
 ·exact Sf M
 ·exact Se M
theorem Si {w0 w:World} {G:Ghost} {L:List Res} {b n c:Nat} {ad:Option Addr} {l:List UInt8} {p:Value} {s:List UInt8} (hp:p=.pointer none∨p=.pointer (some ⟨b,0,none⟩)) (M:Mem w0 G (.blk b [p,.slice ad n c] 169::.row (.slice ad n c) n (bc l) 5 1::L) w) (hn:n=l.length) (z:l=[]→ad=none) (aa:l.length+s.length≤140737488355328) :
  Calls Tryz.prog 139 #[.pointer (some ⟨b,0,none⟩),.string (str s)] w (RetL w0 G fun L' v=>v=.tuple #[.int .i64 (s.length:Nat),.nilIface]∧∃ I n' c',L' = (.blk b [.pointer (some ⟨b,0,none⟩),.slice I n' c'] 169::.row (.slice I n' c') n' (bc (l++s)) 5 1::L)∧n' = (l++s).length∧(l++s=[]→I = none)):=by
 have D:ad.isNone=true→ad=none∧n=0∧c=0∧_:=fun h=>M.row_none (k:=1) rfl h;refine Bf (vs:=[_,_]) Tryz.func139 rfl (n:=19) rfl rfl ?_;intro a F;refine wp_seq<|Ar ?_
 iterate 2 (refine Aa F (run_assign (F.ev rfl)) rfl fun a F=>?_)
 refine Ak<|Ay<|wp_seq<|Ar<|Aa F (run_move (F.ev rfl)) rfl fun a F=>?_
 change Mem w0 G (_::_::L) _ at M;refine Qr F ent185 rfl rfl (Rk hp M) ?_;clear F M a;rintro _ w a M rfl F;refine Ak<|Ay<|wp_seq<|Ar ?_
 iterate 2 (refine Aa F (run_move (F.ev rfl)) rfl fun a F=>?_)
 refine Aa F (run_nilCheck (F.ev rfl)) rfl fun a F=>?_;refine Aa F (run_fieldAddr Fh.k rfl rfl (F.ev rfl)) rfl fun a F=>?_;refine Aa F (run_load1 (agf Cj rfl) (F.ev rfl) (M.cellL (k:=0) rfl rfl)) rfl fun a F=>?_;refine Aa F (run_move (F.ev rfl)) rfl fun a F=>?_;refine U9 F M (k:=1) rfl Cj.k Cs.k M8 rfl rfl rfl rfl rfl tM rfl ?_;clear F M a;intro v1 w a M E F;obtain ⟨J,O,rfl,Y,U,ab⟩:=M.row_shape (k:=1) rfl;rw [← Aps] at M;refine Aa F (run_nilCheck (F.ev rfl)) rfl fun a F=>?_;refine Aa F (run_fieldAddr Fh.k rfl rfl (F.ev rfl)) rfl fun a F=>?_;refine Co F M Cj rfl (k:=0) rfl rfl rfl rfl rfl ?_;clear F M a;intro w a M F;refine Ak<|Ay<|wp_seq<|Ar<|Aa F (run_move (F.ev rfl)) rfl fun a F=>?_
 refine Aa F (Ct Cs.k (F.ev rfl)) rfl fun a F=>?_
 iterate 2 (refine Aa F (run_assign (F.ev rfl)) rfl fun a F=>?_)
 refine Ak<|Ay<|wp_ret<|fin2 F rfl rfl rfl ?_
 replace M:=M.perm (perm_front _ 1 _ rfl);replace M:=M.perm (perm_front _ 1 _ rfl);change Mem w0 G (.blk b [.pointer (some ⟨b,0,none⟩),.slice (J) (n+(s).length) (O)] 169::_::L) _ at M;exact ⟨_,M,rfl,_,_,_,rfl,by rw [List.length_append,hn],fun h=>by obtain ⟨h1,h2⟩:=List.append_eq_nil_iff.1 h;have h3:=z h1;subst h3;obtain ⟨_,h4,h5,_⟩:=D rfl;subst h4 h5;have Z:=E.2 ⟨rfl,h2⟩;simp only [Value.slice.injEq] at Z;exact Z.1⟩
theorem Api {w0 w:World} {G:Ghost} {L:List Res} {b c gb:Nat} {p:Value} {l:List UInt8} (M:Mem w0 G (.blk b [p,.slice none 0 0] 169::.row (.slice none 0 0) 0 (bc []) 5 1::L) w) :
  Calls Tryz.prog 86 #[.pointer (some ⟨b,0,none⟩)] w (RetS w0 G L fun v=>v=.string (str [])):=by
 refine Bf (vs:=[_]) Tryz.func86 rfl (n:=14) rfl rfl ?_;intro a F;refine wp_seq<|Ar<|Aa F (run_assign (F.ev rfl)) rfl fun a F=>?_
 refine Ak<|Ay<|wp_seq<|Aqm [(true,0),(true,1),(true,2),(true,3),(true,5),(true,6),(true,7),(true,8),(true,9),(false,4),(false,10),(true,11)] (Keep G [.blk b [p,.slice none 0 0] 169]) rfl kR (fun c a d v w h=>by cases d <;> exact h) ((M.drew _).keep (Gle.refl _) (by simp)) ?_
 replace M:=M.drew (w.drawn+1);refine Cw F (fun w M=>run_move (F.ev rfl)) rfl fun a F=>?_;refine Cw F (fun w M=>run_nilCheck (F.ev rfl)) rfl fun a F=>?_;refine Cw F (fun w M=>run_fieldAddr Fh.k rfl rfl (F.ev rfl)) rfl fun a F=>?_;refine Cw F (fun w M=>run_load1 (agf Cj rfl) (F.ev rfl) (M.cellL (k:=0) rfl rfl)) rfl fun a F=>?_;refine Cw F (fun w M=>run_move (F.ev rfl)) rfl fun a F=>?_;refine Cw F (fun w M=>run_nilCheck (F.ev rfl)) rfl fun a F=>?_;refine Cw F (fun w M=>run_fieldAddr Fh.k rfl rfl (F.ev rfl)) rfl fun a F=>?_;refine Cw F (fun w M=>run_load1 (agf Cj rfl) (F.ev rfl) (M.cellL (k:=0) rfl rfl)) rfl fun a F=>?_;refine Cw F (fun w M=>Bu Cj.k (F.ev rfl)) rfl fun a F=>?_;refine Vp ?_ rfl;refine Aa F (Ql (F.ev rfl)) rfl fun a F=>?_;refine Ak<|⟨Keep G [.blk b [p,.slice none 0 0] 169],M.keep (Gle.refl _) (by simp),fun w h=>h.mono (Gle.refl _) (by simp),?_⟩
 refine Vp ?_ rfl;refine Aa F (Qk (F.ev rfl) (F.ev rfl)) rfl fun a F=>?_;refine Ak<|⟨Keep G [.blk b [p,.slice none 0 0] 169],M.keep (Gle.refl _) (by simp),fun w h=>h.mono (Gle.refl _) (by simp),?_⟩
 refine Cw F (fun w M=>run_assign (F.ev rfl)) rfl fun a F=>?_;refine Ave<|Ay<|wp_ret<|O7 F rfl rfl ?_
 exact ⟨M.weaken (.cons _ (.cons _ (List.Sublist.refl _))),rfl⟩
theorem Aph {w0 w:World} {G:Ghost} {L:List Res} {b c gb:Nat} {p:Value} {l:List UInt8} (M:Mem w0 G (.blk b [p,.slice (some ⟨gb,0,none⟩) (l.length) c] 169::.row (.slice (some ⟨gb,0,none⟩) (l.length) c) (l.length) (bc l) 5 1::L) w) (h0:l≠[]) (D:l.length≤c) :
  Calls Tryz.prog 86 #[.pointer (some ⟨b,0,none⟩)] w (RetS w0 G L fun v=>v=.string (str l)):=by
 have z:0 < l.length:=List.length_pos_iff.2 h0;refine Bf (vs:=[_]) Tryz.func86 rfl (n:=14) rfl rfl ?_;intro a F;refine wp_seq<|Ar<|Aa F (run_assign (F.ev rfl)) rfl fun a F=>?_
 refine Ak<|Ay<|wp_seq<|Aqm [(true,0),(true,1),(true,2),(true,3),(true,5),(true,6),(true,7),(true,8),(true,9),(false,4),(false,10),(true,11)] (Keep G [.blk b [p,.slice (some ⟨gb,0,none⟩) (l.length) (c)] 169]) rfl kR (fun c a d v w h=>by cases d <;> exact h) ((M.drew _).keep (Gle.refl _) (by simp)) ?_
 replace M:=M.drew (w.drawn+1);refine Cw F (fun w M=>run_move (F.ev rfl)) rfl fun a F=>?_;refine Cw F (fun w M=>run_nilCheck (F.ev rfl)) rfl fun a F=>?_;refine Cw F (fun w M=>run_fieldAddr Fh.k rfl rfl (F.ev rfl)) rfl fun a F=>?_;refine Cw F (fun w M=>run_load1 (agf Cj rfl) (F.ev rfl) (M.cellL (k:=0) rfl rfl)) rfl fun a F=>?_;refine Cw F (fun w M=>run_move (F.ev rfl)) rfl fun a F=>?_;refine Cw F (fun w M=>run_nilCheck (F.ev rfl)) rfl fun a F=>?_;refine Cw F (fun w M=>run_fieldAddr Fh.k rfl rfl (F.ev rfl)) rfl fun a F=>?_;refine Cw F (fun w M=>run_load1 (agf Cj rfl) (F.ev rfl) (M.cellL (k:=0) rfl rfl)) rfl fun a F=>?_;refine Cw F (fun w M=>Bu Cj.k (F.ev rfl)) rfl fun a F=>?_;refine Vp ?_ rfl;refine Aa F (R6 (F.ev rfl) tM) rfl fun a F=>?_;refine Ak<|⟨Keep G [.blk b [p,.slice (some ⟨gb,0,none⟩) (l.length) (c)] 169],M.keep (Gle.refl _) (by simp),fun w h=>h.mono (Gle.refl _) (by simp),?_⟩
 refine Vp ?_ rfl;refine U7 F M (k:=1) rfl tok227.k M8 rfl h0 rfl rfl rfl ?_;clear F M a;intro w a M F;refine Ak<|⟨Keep G [.blk b [p,.slice (some ⟨gb,0,none⟩) (l.length) (c)] 169],M.keep (Gle.refl _) (by simp),fun w h=>h.mono (Gle.refl _) (by simp),?_⟩
 refine Cw F (fun w M=>run_assign (F.ev rfl)) rfl fun a F=>?_;refine Ave<|Ay<|wp_ret<|O7 F rfl rfl ?_
 exact ⟨M.weaken (.cons _ (List.Sublist.refl _)),rfl⟩
theorem Um {w0 w:World} {G:Ghost} {L:List Res} {b n c:Nat} {ad:Option Addr} {l:List UInt8} {p:Value} (M:Mem w0 G (.blk b [p,.slice ad n c] 169::.row (.slice ad n c) n (bc l) 5 1::L) w) (U:n=l.length) (z:l=[]→ad=none) :
  Calls Tryz.prog 86 #[.pointer (some ⟨b,0,none⟩)] w (RetS w0 G L fun v=>v=.string (str l)):=by
 subst U
 by_cases h0:l=[]
 ·have E:=z h0;subst E h0;obtain ⟨_,_,I,_⟩:=M.row_none (k:=1) rfl rfl;subst I;exact Api (gb:=0) (c:=0) (l:=[]) M
 ·have D:0 < l.length:=List.length_pos_iff.2 h0;obtain ⟨gb,E⟩:=M.row_some (k:=1) rfl D;subst E;obtain ⟨_,_,J,O,_⟩:=M.row_shape (k:=1) rfl;simp only [Value.slice.injEq] at J;exact Aph M h0 tM
open Go Go.Y
theorem Mg (w:World):(callFunc 245 #[]).run Tryz.prog w=.ok (.value (.tuple #[])) w:=run_call_mark0 Tryz.func245 kR kR kR .disable kR w
theorem Om (w:World):(callFunc 247 #[]).run Tryz.prog w=.ok (.value (.tuple #[])) w:=run_call_mark0 Tryz.func247 kR kR kR .enable kR w
theorem Ve (a:Addr) (w:World):(callFunc 248 #[.pointer (some a)]).run Tryz.prog w=.ok (.value (.tuple #[])) w:=run_call_marked Tryz.func248 kR kR kR .acquire kR a w
theorem Mf (a:Addr) (w:World):(callFunc 250 #[.pointer (some a)]).run Tryz.prog w=.ok (.value (.tuple #[])) w:=run_call_marked Tryz.func250 kR kR kR .releaseMerge kR a w
theorem Qa (a:Addr) (x:Value) (u:FrameMode) (w:World) (J:w.cell? a=some x) (O:w.frozen? a=false) :
  CallsD Tryz.prog 236 #[.pointer (some a),.bool true] u w fun e I w'=>I = u∧(e=.returned (.tuple #[])∧w' = w.drew.setCell a (.int .u32 1)):=by
 have z:w.drew.cell? a=some x:=by go_simp
 have D:w.drew.frozen? a=false:=by go_simp
 have E:=run_call_store (P:=Tryz.prog) Tryz.func241 kR kR kR kR (k:=.u32) (y:=1) z D
 go_enter_d Tryz.func236,Tryz.ntmps236
 go_wp2
 go_region_calls
 all_goals (go_end0;exact ⟨rfl,rfl⟩)
set_option maxRecDepth 100000 in
theorem Ox (a:Addr) (u:FrameMode) (w:World) (D:w.cell? a=some (.int .i32 1)) (I:w.frozen? a=false) :
  CallsD Tryz.prog 235 #[.pointer (some a)] u w fun e J w'=>J = u∧(e=.returned (.tuple #[])∧w' = w.setCell a (.int .i32 0)):=by
 have hd:=Mg;have O:=Om;have U:=Mf;have z:=run_call_add (P:=Tryz.prog) Tryz.func251 kR kR kR .i32 kR (y:=-1) (s:=0) D I (by simp [go_sem];rfl);have E:=run_convert_to_unsafe (P:=Tryz.prog) (src:=354) (dst:=295) Tryz.underlying354 Tryz.underlying295 kR D
 go_enter_d Tryz.func235,Tryz.ntmps235
 go_wp2
 go_end0
 go_wp2
 go_end0
 exact ⟨rfl,rfl⟩
set_option maxRecDepth 100000 in
theorem Amp (a:Addr) (w:World) (D:w.cell? a=some (.int .i32 0)) (J:w.frozen? a=false) :
  Calls Tryz.prog 234 #[.pointer (some a)] w fun e w'=>e=.returned (.tuple #[])∧w' = w.setCell a (.int .i32 1):=by
 have hd:=Mg;have U:=Om;have O:=Ve;have E:=run_call_cas_hit (P:=Tryz.prog) Tryz.func246 kR kR kR .i32 kR (y:=1) D J;have z:(w.setCell a (.int .i32 1)).cell? a=some (.int .i32 1):=World.cell?_setCell_same w a _ D;have I:=run_convert_to_unsafe (P:=Tryz.prog) (src:=354) (dst:=295) Tryz.underlying354 Tryz.underlying295 kR z
 go_enter Tryz.func234,Tryz.ntmps234
 go_wp2
 first | go_end0 | (simp only [Exit.inBlock,Exit.then];refine bodyPost_ret (results_none rfl _ _ _) rfl ?_) | refine bodyPost_ret (results_none rfl _ _ _) rfl ?_
 go_wp2
 go_end0
 exact ⟨rfl,rfl⟩
set_option maxRecDepth 100000 in
theorem Rq {a:Addr} {w:World} (z:w.cell? a=some (.int .u32 0)) :
  Calls Tryz.prog 226 #[.pointer (some a)] w fun e w'=>e=.returned (.bool false)∧w' = w:=by
 have D:=run_call_load (P:=Tryz.prog) Tryz.func233 kR kR kR .u32 kR z
 go_enter Tryz.func226,Tryz.ntmps226
 go_wp2
 go_ret
 exact ⟨rfl,rfl⟩
set_option maxRecDepth 100000 in
set_option maxHeartbeats 1600000 in
theorem do_slow {w0 w:World} {G:Ghost} {L:List Res} {b:Nat} {s r o:Value} {R:Value→Value→List Res→Prop}
  (M:Mem w0 G (.blk b [.int .u32 0,.int .i32 0,s,r,o] 311::L) w)
  (hf:∀ Z,Mem w0 G (.blk b [.int .u32 0,.int .i32 1,s,r,o] 311::L) Z→Calls Tryz.prog 214 #[.pointer (some ⟨b,0,none⟩)] Z fun e O =>
   e=.returned (.tuple #[])∧∃ D o' z,R D o' z∧Mem w0 G (.blk b [.int .u32 0,.int .i32 1,s,D,o'] 311::z) O) :
  Calls Tryz.prog 227 #[.pointer (some ⟨b,0,none⟩),.func (.func 214) #[.pointer (some ⟨b,0,none⟩)] #[]] w fun e O =>
   e=.returned (.tuple #[])∧∃ D o' z,R D o' z∧Mem w0 G (.blk b [.int .u32 1,.int .i32 0,s,D,o'] 311::z) O:=by
 have U:=M.set (k:=0) rfl 1 (.int .i32 1);have Y:∀ (x:Bool) (w:World),(Op.unary .not (.bool x)).run Tryz.prog w=.ok (.bool (!x)) w:=fun _ _=>rfl
 go_enter_defers Tryz.func227,Tryz.ntmps227
 go_wp2_with (first | (go_at_call 226;refine (Rq (U.cellL (k:=0) rfl (o:=0) rfl)).mono ?_;rintro e w' ⟨rfl,rfl⟩) | (go_at_call 234;refine (Amp ⟨b,1,none⟩ _ (M.cellL (k:=0) rfl rfl) (M.frozenL (k:=0) rfl _)).mono ?_;rintro e w' ⟨rfl,rfl⟩) | (go_at_call 214;refine (hf _ U).mono ?_;rintro e w' ⟨rfl,D,o',z,hR,E⟩))
 refine leaves_cons (f:=236) (args:=#[.pointer (some ⟨b,0,none⟩),.bool true]) (by simp) (by simp [go_sem]) ?_;refine (Qa ⟨b,0,none⟩ (.int .u32 0) .returning _ (E.cellL (k:=0) rfl rfl) (E.frozenL (k:=0) rfl _)).mono ?_;rintro e u' J ⟨rfl,rfl,rfl⟩;have I:=(E.drew (w'.drawn+1)).set (k:=0) rfl 0 (.int .u32 1);refine leaves_cons (f:=235) (args:=#[.pointer (some ⟨b,1,none⟩)]) (by simp [settle]) (by simp [go_sem]) ?_;refine (Ox ⟨b,1,none⟩ _ _ (I.cellL (k:=0) rfl rfl) (I.frozenL (k:=0) rfl _)).mono ?_;rintro e u' J ⟨rfl,rfl,rfl⟩;have M4:=I.set (k:=0) rfl 1 (.int .i32 0);simp [Leaves,settle,results,Tryz.results227];exact ⟨_,_,_,hR,M4⟩
set_option maxRecDepth 100000 in
set_option maxHeartbeats 1600000 in
theorem once_do {w0 w:World} {G:Ghost} {L:List Res} {b:Nat} {s r o:Value} {R:Value→Value→List Res→Prop}
  (M:Mem w0 G (.blk b [.int .u32 0,.int .i32 0,s,r,o] 311::L) w)
  (Y:∀ I,Mem w0 G (.blk b [.int .u32 0,.int .i32 1,s,r,o] 311::L) I→Calls Tryz.prog 214 #[.pointer (some ⟨b,0,none⟩)] I fun e Z =>
   e=.returned (.tuple #[])∧∃ D o' z,R D o' z∧Mem w0 G (.blk b [.int .u32 0,.int .i32 1,s,D,o'] 311::z) Z) :
  Calls Tryz.prog 213 #[.pointer (some ⟨b,0,none⟩),.func (.func 214) #[.pointer (some ⟨b,0,none⟩)] #[]] w
   (RetL w0 G fun J v=>v=.tuple #[]∧∃ D o' z,R D o' z∧J=.blk b [.int .u32 1,.int .i32 0,s,D,o'] 311::z):=by
 have E:∀ (x:Bool) (w:World),(Op.unary .not (.bool x)).run Tryz.prog w=.ok (.bool (!x)) w:=fun _ _=>rfl
 go_enter Tryz.func213,Tryz.ntmps213
 go_wp2_with (first | (go_at_call 226;refine (Rq (M.cellL (k:=0) rfl (o:=0) rfl)).mono ?_;rintro e w' ⟨rfl,rfl⟩) | (go_at_call 227;refine (do_slow M Y).mono ?_;rintro e w' ⟨rfl,D,o',z,U,O⟩))
 go_end0
 exact ⟨_,O,rfl,_,_,_,U,rfl⟩
end Go.Proofs.YtinhmakomfennaaGreat
