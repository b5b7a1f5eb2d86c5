/- The walks, part LP. · Notices: their lines and texts. · The walks, part LQ. · The walks, part LR. · The walks, part LS. · The walks, part LT. · Notices: what a text stands for. -/
import Derived.Test.YtmmhmcplegpenaaGreatDoorJ9
import Derived.Test.YtmmhmcplegpenaaGreatDoorJ8
import Derived.Lib.ItoaMem
import Derived.Lib.AtoiAll
namespace Go.Proofs.YtmmhmcplegpenaaGreatDoor
open Go Go.Y Go.Proofs
set_option linter.unusedSimpArgs false
set_option linter.unusedVariables false
deriving instance DecidableEq for EntD
deriving instance DecidableEq for NotD
theorem note_ext {x y:NotD} (h1:((x.kind:Nat):Int)=((y.kind:Nat):Int)) (h2:x.at_=y.at_) (h3:x.count=y.count) (h4:x.to=y.to) (h5:x.items=y.items):x=y:=by
 cases x;cases y;simp only [NotD.mk.injEq] at *;exact ⟨by omega,h2,h3,h4,h5⟩
theorem eqf_spec {w0 w:World} {G:Ghost} {L:List Res} (M:Mem w0 G L w) {a1:Option Addr} {c1:Nat} {xs:List ItemD} (S:RdSl rdItem 4 G (.slice a1 xs.length c1) xs) {a2:Option Addr} {c2:Nat} {ys:List ItemD} (T:RdSl rdItem 4 G (.slice a2 ys.length c2) ys):Calls Tryz.prog 94 #[.slice a1 xs.length c1,.slice a2 ys.length c2,.func (.func 95) #[] #[]] w (RetS w0 G L fun v=>∃ b:Bool,v=.bool b∧(b=true↔xs=ys)):=by
 have bS:=S.bound
 have bT:=T.bound
 refine e_start (vs:=[_,_,_]) Tryz.func94 rfl (n:=32) rfl rfl<|e_seq<|e_reg<|s_as rfl<|e_nil<|e_tn<|e_seq<|e_seq<|e_reg<|s_mv rfl<|s_ls tok22.k rfl<|s_mv rfl<|s_ls tok22.k rfl<|s_ne rfl rfl<|e_nil<|e_tn<|e_cond rfl ?_ ?_
 ·intro hc
  have h1b:=hc;clear hc
  have h1:¬ (((xs.length:Nat):Int)=((ys.length:Nat):Int)):=of_decide_eq_false (of_not_t h1b)
  have h1c:(decide (((xs.length:Nat):Int)=((ys.length:Nat):Int)))=false:=(of_not_t h1b)
  refine e_seq<|e_reg<|s_as rfl<|e_nil<|e_tn<|e_ret<|e_tr<|e_fin1 rfl rfl<|?_
  exact ⟨M,false,rfl,⟨fun h_=>(by cases h_),fun h_=>absurd (congrArg List.length h_) (by omega)⟩⟩
 ·intro hc
  have h2b:=hc;clear hc
  have h2:((xs.length:Nat):Int)=((ys.length:Nat):Int):=of_decide_eq_true (of_not_f h2b)
  have h2c:(decide (((xs.length:Nat):Int)=((ys.length:Nat):Int)))=true:=(of_not_f h2b)
  refine e_skip<|e_tn<|e_seq<|e_seq<|e_reg<|s_mv rfl<|s_ls tok22.k rfl<|s_mv rfl<|e_nil<|e_tn<|e_block<|fun a F=>w_loopN (fun m a' w'=>∃ (i:Nat),m=xs.length - i∧Fits 32 a' [(0,.slice (a1) (xs.length) (c1)),(1,.slice (a2) (ys.length) (c2)),(2,.func (.func 95) #[] #[]),(15,.slice (a1) (xs.length) (c1)),(16,.int .i64 (((xs.length:Nat):Int))),(17,.int .i64 (((i:Nat):Int)))]∧Mem w0 G (L) w'∧(i≤xs.length)∧(∀ m,m < i→xs[m]?=ys[m]?)) _ ⟨0,rfl,F.to ⟨rfl,rfl,rfl,rfl,rfl,rfl,trivial⟩,M,Nat.zero_le _,fun m h=>by omega⟩ ?_
  clear F M
  rintro m a w ⟨i,rfl,F,M,hi,hA⟩
  revert a
  refine e_seq<|e_reg<|s_lt rfl rfl<|e_nil<|e_tn<|e_seq<|e_cond rfl ?_ ?_
  ·intro hc
   have h3b:=hc;clear hc
   have h3:((i:Nat):Int) < ((xs.length:Nat):Int):=of_decide_eq_true h3b
   refine e_skip<|e_tn<|e_seq<|e_block<|e_seq<|e_reg<|s_mv rfl<|?_
   obtain ⟨Xe4,hXe4⟩:=get_of_lt (xs:=xs) (i:=i) (by omega)
   obtain ⟨be4,oe4,_,Ie4,_,Ae4,hTe4⟩:=S.at hXe4
   obtain ⟨mae4,mce4,rfl,hke4,hte4,hxe4,hne4,SMe4⟩:=hTe4
   have hIe4:(Xe4.key < 18446744073709551616∧Xe4.typ < 256∧Xe4.text.length≤9223372036854775807):=⟨hke4,hte4,hxe4⟩
   refine s_ix tok22.k tok26 Ie4 rfl rfl<|e_run (fun a F=>run_loadA tok26 rfl (F.ev rfl) (cs:=[.int .u64 (((Xe4.key:Nat):Int)),.int .u8 (((Xe4.typ:Nat):Int)),.string (str (Xe4.text)),.slice (mae4) (Xe4.marks.length) (mce4)]) rfl (M.cellsA Ae4 0 (by omega) rfl)) rfl<|s_al M tok26 rfl rfl<|?_;clear M;intro b5 w M
   refine s_as rfl<|fun a F=>?_
   refine rl_storeA F M tok26 (k:=0) rfl rfl rfl (us:=[.int .u64 (((Xe4.key:Nat):Int)),.int .u8 (((Xe4.typ:Nat):Int)),.string (str (Xe4.text)),.slice (mae4) (Xe4.marks.length) (mce4)]) rfl rfl (by simp [Value.oneCell']) (by simp) ?_;clear F M a;intro w a M F
   change Mem w0 G (.blk b5 [.int .u64 (((Xe4.key:Nat):Int)),.int .u8 (((Xe4.typ:Nat):Int)),.string (str (Xe4.text)),.slice (mae4) (Xe4.marks.length) (mce4)] 26::L) _ at M
   revert a
   refine e_nil<|e_tn<|e_seq<|e_reg<|s_mv rfl<|s_mv rfl<|?_
   obtain ⟨Xe7,hXe7⟩:=get_of_lt (xs:=ys) (i:=i) (by omega)
   obtain ⟨be7,oe7,_,Ie7,_,Ae7,hTe7⟩:=T.at hXe7
   obtain ⟨mae7,mce7,rfl,hke7,hte7,hxe7,hne7,SMe7⟩:=hTe7
   have hIe7:(Xe7.key < 18446744073709551616∧Xe7.typ < 256∧Xe7.text.length≤9223372036854775807):=⟨hke7,hte7,hxe7⟩
   refine s_ix tok22.k tok26 Ie7 rfl rfl<|e_run (fun a F=>run_loadA tok26 rfl (F.ev rfl) (cs:=[.int .u64 (((Xe7.key:Nat):Int)),.int .u8 (((Xe7.typ:Nat):Int)),.string (str (Xe7.text)),.slice (mae7) (Xe7.marks.length) (mce7)]) rfl (M.cellsA Ae7 0 (by omega) rfl)) rfl<|s_al M tok26 rfl rfl<|?_;clear M;intro b8 w M
   intro a F
   refine rl_storeA F M tok26 (k:=0) rfl rfl rfl (us:=[.int .u64 (((Xe7.key:Nat):Int)),.int .u8 (((Xe7.typ:Nat):Int)),.string (str (Xe7.text)),.slice (mae7) (Xe7.marks.length) (mce7)]) rfl rfl (by simp [Value.oneCell']) (by simp) ?_;clear F M a;intro w a M F
   change Mem w0 G (.blk b8 [.int .u64 (((Xe7.key:Nat):Int)),.int .u8 (((Xe7.typ:Nat):Int)),.string (str (Xe7.text)),.slice (mae7) (Xe7.marks.length) (mce7)] 26::.blk b5 [.int .u64 (((Xe4.key:Nat):Int)),.int .u8 (((Xe4.typ:Nat):Int)),.string (str (Xe4.text)),.slice (mae4) (Xe4.marks.length) (mce4)] 26::L) _ at M
   revert a
   refine e_nil<|e_tn<|e_seq<|e_reg<|s_mv rfl<|e_run (fun a F=>run_loadA tok26 rfl (F.ev rfl) (cs:=[.int .u64 (((Xe4.key:Nat):Int)),.int .u8 (((Xe4.typ:Nat):Int)),.string (str (Xe4.text)),.slice (mae4) (Xe4.marks.length) (mce4)]) rfl (M.cellsL (k:=1) rfl rfl)) rfl<|e_run (fun a F=>run_loadA tok26 rfl (F.ev rfl) (cs:=[.int .u64 (((Xe7.key:Nat):Int)),.int .u8 (((Xe7.typ:Nat):Int)),.string (str (Xe7.text)),.slice (mae7) (Xe7.marks.length) (mce7)]) rfl (M.cellsL (k:=0) rfl rfl)) rfl<|s_vS ent95 (caps:=[]) rfl rfl rfl (same_spec (x:=Xe4) (y:=Xe7) M hIe4 SMe4 hIe7 SMe7)<|?_;clear M;rintro _ w M ⟨b10,rfl,hb10⟩
   refine s_not rfl<|e_nil<|e_tn<|e_cond rfl ?_ ?_
   ·intro hc
    have h11b:=hc;clear hc
    have h11:(b10)=false:=(of_not_t h11b)
    have h11c:(b10)=false:=(of_not_t h11b)
    refine e_seq<|e_reg<|s_as rfl<|e_nil<|e_tn<|e_ret<|e_br<|e_tr<|e_tr<|e_br<|e_tr<|e_fin1 rfl rfl<|?_
    exact ⟨M.weaken (.cons _ (.cons _ (List.Sublist.refl _))),false,rfl,⟨fun h_=>(by cases h_),fun h_=>absurd h_ (ne_of_get hXe4 hXe7 (fun h_=>by have h9_:=hb10.2 h_;simp_all))⟩⟩
   ·intro hc
    have h12b:=hc;clear hc
    have h12:(b10)=true:=(of_not_f h12b)
    have h12c:(b10)=true:=(of_not_f h12b)
    refine e_skip<|e_bn<|e_tn<|e_reg<|s_add rfl rfl<|s_mv rfl<|e_nil<|e_tn<|fun a F=>?_
    exact ⟨_,by omega,i+1,rfl,F.to ⟨rfl,rfl,rfl,rfl,rfl,rfl,trivial⟩,(M.weaken (.cons _ (.cons _ (List.Sublist.refl _)))),by omega,eq_step hA hXe4 hXe7 (hb10.1 (by simp_all))⟩
  ·intro hc
   have h13b:=hc;clear hc
   have h13:¬ (((i:Nat):Int) < ((xs.length:Nat):Int)):=of_decide_eq_false h13b
   refine e_exit<|e_te<|e_te<|e_bh<|e_tn<|e_seq<|e_reg<|s_as rfl<|e_nil<|e_tn<|e_ret<|e_fin1 rfl rfl<|?_
   exact ⟨M,true,rfl,⟨fun _=>eq_end hA (by omega) (by omega),fun _=>rfl⟩⟩
theorem nsame_spec {w0 w:World} {G:Ghost} {L:List Res} (M:Mem w0 G L w) {x y:NotD} {na ma:Option Addr} {nc mc:Nat} (hN:x.kind < 256∧inKind .i64 x.at_∧inKind .i64 x.count∧inKind .i64 x.to∧x.items.length≤9223372036854775807) (SI:RdSl rdItem 4 G (.slice na x.items.length nc) x.items) (hM:y.kind < 256∧inKind .i64 y.at_∧inKind .i64 y.count∧inKind .i64 y.to∧y.items.length≤9223372036854775807) (SJ:RdSl rdItem 4 G (.slice ma y.items.length mc) y.items):Calls Tryz.prog 39 #[.agg #[.int .u8 (((x.kind:Nat):Int)),.int .i64 (x.at_),.int .i64 (x.count),.int .i64 (x.to),.slice (na) (x.items.length) (nc)],.agg #[.int .u8 (((y.kind:Nat):Int)),.int .i64 (y.at_),.int .i64 (y.count),.int .i64 (y.to),.slice (ma) (y.items.length) (mc)]] w (RetS w0 G L fun v=>∃ b:Bool,v=.bool b∧(b=true↔x=y)):=by
 refine e_start (vs:=[_,_]) Tryz.func39 rfl (n:=38) rfl rfl<|e_seq<|e_reg<|s_bx M rfl rfl rfl<|?_;clear M;intro b1 w M
 refine s_bx M rfl rfl rfl<|?_;clear M;intro b2 w M
 refine s_as rfl<|e_nil<|e_tn<|e_seq<|e_reg<|s_fa tok65.k rfl rfl<|s_ld tok5 M 1 rfl rfl rfl rfl<|s_fa tok65.k rfl rfl<|s_ld tok5 M 0 rfl rfl rfl rfl<|s_eq rfl rfl<|s_mv rfl<|?_
 rcases Bool.eq_false_or_eq_true (decide (((x.kind:Nat):Int)=((y.kind:Nat):Int))) with hc | hc
 ·skip
  have h3b:=hc;clear hc
  have h3:((x.kind:Nat):Int)=((y.kind:Nat):Int):=of_decide_eq_true h3b
  refine g_t rfl h3b<|s_fa tok65.k rfl rfl<|g_t rfl h3b<|s_ld tok3 M 1 rfl rfl rfl rfl<|g_t rfl h3b<|s_fa tok65.k rfl rfl<|g_t rfl h3b<|s_ld tok3 M 0 rfl rfl rfl rfl<|g_t rfl h3b<|s_eq rfl rfl<|s_pt rfl h3b rfl<|s_mv rfl<|?_
  rcases Bool.eq_false_or_eq_true (decide (x.at_=y.at_)) with hc | hc
  ·skip
   have h4b:=hc;clear hc
   have h4:x.at_=y.at_:=of_decide_eq_true h4b
   refine g_t rfl h4b<|s_fa tok65.k rfl rfl<|g_t rfl h4b<|s_ld tok3 M 1 rfl rfl rfl rfl<|g_t rfl h4b<|s_fa tok65.k rfl rfl<|g_t rfl h4b<|s_ld tok3 M 0 rfl rfl rfl rfl<|g_t rfl h4b<|s_eq rfl rfl<|s_pt rfl h4b rfl<|s_mv rfl<|?_
   rcases Bool.eq_false_or_eq_true (decide (x.count=y.count)) with hc | hc
   ·skip
    have h5b:=hc;clear hc
    have h5:x.count=y.count:=of_decide_eq_true h5b
    refine g_t rfl h5b<|s_fa tok65.k rfl rfl<|g_t rfl h5b<|s_ld tok3 M 1 rfl rfl rfl rfl<|g_t rfl h5b<|s_fa tok65.k rfl rfl<|g_t rfl h5b<|s_ld tok3 M 0 rfl rfl rfl rfl<|g_t rfl h5b<|s_eq rfl rfl<|s_pt rfl h5b rfl<|s_mv rfl<|?_
    rcases Bool.eq_false_or_eq_true (decide (x.to=y.to)) with hc | hc
    ·skip
     have h6b:=hc;clear hc
     have h6:x.to=y.to:=of_decide_eq_true h6b
     refine g_t rfl h6b<|s_fa tok65.k rfl rfl<|g_t rfl h6b<|s_ld tok22 M 1 rfl rfl rfl rfl<|g_t rfl h6b<|s_fa tok65.k rfl rfl<|g_t rfl h6b<|s_ld tok22 M 0 rfl rfl rfl rfl<|g_t rfl h6b<|s_cS ent94 rfl rfl (eqf_spec (xs:=x.items) (ys:=y.items) M SI SJ)<|?_;clear M;rintro _ w M ⟨b7,rfl,hb7⟩
     refine s_pt rfl h6b rfl<|s_as rfl<|e_nil<|e_tn<|e_ret<|e_fin1 rfl rfl<|?_
     exact ⟨M.weaken (.cons _ (.cons _ (List.Sublist.refl _))),(b7),rfl,⟨fun h_=>(by first | (cases h_;done) | exact note_ext (by omega) (by omega) (by omega) (by omega) (hb7.1 h_)),fun h_=>(by subst h_;clear M;first | (exfalso;omega) | exact hb7.2 rfl)⟩⟩
    ·skip
     have h8b:=hc;clear hc
     have h8:¬ (x.to=y.to):=of_decide_eq_false h8b
     refine g_f rfl h8b<|g_f rfl h8b<|g_f rfl h8b<|g_f rfl h8b<|g_f rfl h8b<|s_pf rfl h8b rfl<|s_as rfl<|e_nil<|e_tn<|e_ret<|e_fin1 rfl rfl<|?_
     exact ⟨M.weaken (.cons _ (.cons _ (List.Sublist.refl _))),false,rfl,⟨fun h_=>(by first | (cases h_;done) | exact note_ext (by omega) (by omega) (by omega) (by omega) (h0.1 h_)),fun h_=>(by subst h_;clear M;first | (exfalso;omega) | exact h0.2 rfl)⟩⟩
   ·skip
    have h9b:=hc;clear hc
    have h9:¬ (x.count=y.count):=of_decide_eq_false h9b
    refine g_f rfl h9b<|g_f rfl h9b<|g_f rfl h9b<|g_f rfl h9b<|g_f rfl h9b<|s_pf rfl h9b rfl<|s_mv rfl<|g_f rfl rfl<|g_f rfl rfl<|g_f rfl rfl<|g_f rfl rfl<|g_f rfl rfl<|s_pf rfl rfl rfl<|s_as rfl<|e_nil<|e_tn<|e_ret<|e_fin1 rfl rfl<|?_
    exact ⟨M.weaken (.cons _ (.cons _ (List.Sublist.refl _))),false,rfl,⟨fun h_=>(by first | (cases h_;done) | exact note_ext (by omega) (by omega) (by omega) (by omega) (h0.1 h_)),fun h_=>(by subst h_;clear M;first | (exfalso;omega) | exact h0.2 rfl)⟩⟩
  ·skip
   have h10b:=hc;clear hc
   have h10:¬ (x.at_=y.at_):=of_decide_eq_false h10b
   refine g_f rfl h10b<|g_f rfl h10b<|g_f rfl h10b<|g_f rfl h10b<|g_f rfl h10b<|s_pf rfl h10b rfl<|s_mv rfl<|g_f rfl rfl<|g_f rfl rfl<|g_f rfl rfl<|g_f rfl rfl<|g_f rfl rfl<|s_pf rfl rfl rfl<|s_mv rfl<|g_f rfl rfl<|g_f rfl rfl<|g_f rfl rfl<|g_f rfl rfl<|g_f rfl rfl<|s_pf rfl rfl rfl<|s_as rfl<|e_nil<|e_tn<|e_ret<|?_
   refine e_fin1 rfl rfl<|?_
   exact ⟨M.weaken (.cons _ (.cons _ (List.Sublist.refl _))),false,rfl,⟨fun h_=>(by first | (cases h_;done) | exact note_ext (by omega) (by omega) (by omega) (by omega) (h0.1 h_)),fun h_=>(by subst h_;clear M;first | (exfalso;omega) | exact h0.2 rfl)⟩⟩
 ·skip
  have h11b:=hc;clear hc
  have h11:¬ (((x.kind:Nat):Int)=((y.kind:Nat):Int)):=of_decide_eq_false h11b
  refine g_f rfl h11b<|g_f rfl h11b<|g_f rfl h11b<|g_f rfl h11b<|g_f rfl h11b<|s_pf rfl h11b rfl<|s_mv rfl<|g_f rfl rfl<|g_f rfl rfl<|g_f rfl rfl<|g_f rfl rfl<|g_f rfl rfl<|s_pf rfl rfl rfl<|s_mv rfl<|g_f rfl rfl<|g_f rfl rfl<|g_f rfl rfl<|g_f rfl rfl<|g_f rfl rfl<|s_pf rfl rfl rfl<|s_mv rfl<|g_f rfl rfl<|g_f rfl rfl<|g_f rfl rfl<|?_
  refine g_f rfl rfl<|g_f rfl rfl<|s_pf rfl rfl rfl<|s_as rfl<|e_nil<|e_tn<|e_ret<|e_fin1 rfl rfl<|?_
  exact ⟨M.weaken (.cons _ (.cons _ (List.Sublist.refl _))),false,rfl,⟨fun h_=>(by first | (cases h_;done) | exact note_ext (by omega) (by omega) (by omega) (by omega) (h0.1 h_)),fun h_=>(by subst h_;clear M;first | (exfalso;omega) | exact h0.2 rfl)⟩⟩
theorem rnsame_spec {w0 w:World} {G:Ghost} {L:List Res} (M:Mem w0 G L w) {x y:NotD} {na ma:Option Addr} {nc mc:Nat} (hN:x.kind < 256∧inKind .i64 x.at_∧inKind .i64 x.count∧inKind .i64 x.to∧x.items.length≤9223372036854775807) (SI:RdSl rdItem 4 G (.slice na x.items.length nc) x.items) (hM:y.kind < 256∧inKind .i64 y.at_∧inKind .i64 y.count∧inKind .i64 y.to∧y.items.length≤9223372036854775807) (SJ:RdSl rdItem 4 G (.slice ma y.items.length mc) y.items):Calls Tryz.prog 40 #[.agg #[.int .u8 (((x.kind:Nat):Int)),.int .i64 (x.at_),.int .i64 (x.count),.int .i64 (x.to),.slice (na) (x.items.length) (nc)],.agg #[.int .u8 (((y.kind:Nat):Int)),.int .i64 (y.at_),.int .i64 (y.count),.int .i64 (y.to),.slice (ma) (y.items.length) (mc)]] w (RetS w0 G L fun v=>v=.int .i64 (if x=y then (1:Int) else 0)):=by
 refine e_start (vs:=[_,_]) Tryz.func40 rfl (n:=36) rfl rfl<|e_seq<|e_reg<|s_bx M rfl rfl rfl<|?_;clear M;intro b1 w M
 refine s_bx M rfl rfl rfl<|?_;clear M;intro b2 w M
 refine s_as rfl<|e_nil<|e_tn<|e_seq<|e_seq<|e_reg<|s_fa tok65.k rfl rfl<|s_ld tok5 M 1 rfl rfl rfl rfl<|s_fa tok65.k rfl rfl<|s_ld tok5 M 0 rfl rfl rfl rfl<|s_ne rfl rfl<|s_mv rfl<|?_
 rcases Bool.eq_false_or_eq_true (!(decide (((x.kind:Nat):Int)=((y.kind:Nat):Int)))) with hc | hc
 ·skip
  have h3b:=hc;clear hc
  have h3:¬ (((x.kind:Nat):Int)=((y.kind:Nat):Int)):=of_decide_eq_false (of_not_t h3b)
  have h3c:(decide (((x.kind:Nat):Int)=((y.kind:Nat):Int)))=false:=(of_not_t h3b)
  refine g_f rfl (not_t h3c)<|g_f rfl (not_t h3c)<|g_f rfl (not_t h3c)<|g_f rfl (not_t h3c)<|g_f rfl (not_t h3c)<|s_pt rfl (not_t h3c) rfl<|s_mv rfl<|g_f rfl rfl<|g_f rfl rfl<|g_f rfl rfl<|g_f rfl rfl<|g_f rfl rfl<|s_pt rfl rfl rfl<|s_mv rfl<|g_f rfl rfl<|g_f rfl rfl<|g_f rfl rfl<|g_f rfl rfl<|g_f rfl rfl<|s_pt rfl rfl rfl<|e_nil<|e_tn<|e_cond_t rfl rfl<|e_seq<|?_
  refine e_reg<|s_as rfl<|e_nil<|e_tn<|e_ret<|e_tr<|e_fin1 rfl rfl<|?_
  exact ⟨M.weaken (.cons _ (.cons _ (List.Sublist.refl _))),by rw [if_neg (fun h_=>by subst h_;clear M;omega)]⟩
 ·skip
  have h4b:=hc;clear hc
  have h4:((x.kind:Nat):Int)=((y.kind:Nat):Int):=of_decide_eq_true (of_not_f h4b)
  have h4c:(decide (((x.kind:Nat):Int)=((y.kind:Nat):Int)))=true:=(of_not_f h4b)
  refine g_t rfl (not_f h4c)<|s_fa tok65.k rfl rfl<|g_t rfl (not_f h4c)<|s_ld tok3 M 1 rfl rfl rfl rfl<|g_t rfl (not_f h4c)<|s_fa tok65.k rfl rfl<|g_t rfl (not_f h4c)<|s_ld tok3 M 0 rfl rfl rfl rfl<|g_t rfl (not_f h4c)<|s_ne rfl rfl<|s_pf rfl (not_f h4c) rfl<|s_mv rfl<|?_
  rcases Bool.eq_false_or_eq_true (!(decide (x.at_=y.at_))) with hc | hc
  ·skip
   have h5b:=hc;clear hc
   have h5:¬ (x.at_=y.at_):=of_decide_eq_false (of_not_t h5b)
   have h5c:(decide (x.at_=y.at_))=false:=(of_not_t h5b)
   refine g_f rfl (not_t h5c)<|g_f rfl (not_t h5c)<|g_f rfl (not_t h5c)<|g_f rfl (not_t h5c)<|g_f rfl (not_t h5c)<|s_pt rfl (not_t h5c) rfl<|s_mv rfl<|g_f rfl rfl<|g_f rfl rfl<|g_f rfl rfl<|g_f rfl rfl<|g_f rfl rfl<|s_pt rfl rfl rfl<|e_nil<|e_tn<|e_cond_t rfl rfl<|e_seq<|e_reg<|s_as rfl<|e_nil<|e_tn<|e_ret<|e_tr<|e_fin1 rfl rfl<|?_
   exact ⟨M.weaken (.cons _ (.cons _ (List.Sublist.refl _))),by rw [if_neg (fun h_=>by subst h_;clear M;omega)]⟩
  ·skip
   have h6b:=hc;clear hc
   have h6:x.at_=y.at_:=of_decide_eq_true (of_not_f h6b)
   have h6c:(decide (x.at_=y.at_))=true:=(of_not_f h6b)
   refine g_t rfl (not_f h6c)<|s_fa tok65.k rfl rfl<|g_t rfl (not_f h6c)<|s_ld tok3 M 1 rfl rfl rfl rfl<|g_t rfl (not_f h6c)<|s_fa tok65.k rfl rfl<|g_t rfl (not_f h6c)<|s_ld tok3 M 0 rfl rfl rfl rfl<|g_t rfl (not_f h6c)<|s_ne rfl rfl<|s_pf rfl (not_f h6c) rfl<|s_mv rfl<|?_
   rcases Bool.eq_false_or_eq_true (!(decide (x.count=y.count))) with hc | hc
   ·skip
    have h7b:=hc;clear hc
    have h7:¬ (x.count=y.count):=of_decide_eq_false (of_not_t h7b)
    have h7c:(decide (x.count=y.count))=false:=(of_not_t h7b)
    refine g_f rfl (not_t h7c)<|g_f rfl (not_t h7c)<|g_f rfl (not_t h7c)<|g_f rfl (not_t h7c)<|g_f rfl (not_t h7c)<|s_pt rfl (not_t h7c) rfl<|e_nil<|e_tn<|e_cond_t rfl rfl<|e_seq<|e_reg<|s_as rfl<|e_nil<|e_tn<|e_ret<|e_tr<|e_fin1 rfl rfl<|?_
    exact ⟨M.weaken (.cons _ (.cons _ (List.Sublist.refl _))),by rw [if_neg (fun h_=>by subst h_;clear M;omega)]⟩
   ·skip
    have h8b:=hc;clear hc
    have h8:x.count=y.count:=of_decide_eq_true (of_not_f h8b)
    have h8c:(decide (x.count=y.count))=true:=(of_not_f h8b)
    refine g_t rfl (not_f h8c)<|s_fa tok65.k rfl rfl<|g_t rfl (not_f h8c)<|s_ld tok3 M 1 rfl rfl rfl rfl<|g_t rfl (not_f h8c)<|s_fa tok65.k rfl rfl<|g_t rfl (not_f h8c)<|s_ld tok3 M 0 rfl rfl rfl rfl<|g_t rfl (not_f h8c)<|s_ne rfl rfl<|s_pf rfl (not_f h8c) rfl<|e_nil<|e_tn<|e_cond rfl ?_ ?_
    ·intro hc
     have h9b:=hc;clear hc
     have h9:¬ (x.to=y.to):=of_decide_eq_false (of_not_t h9b)
     have h9c:(decide (x.to=y.to))=false:=(of_not_t h9b)
     refine e_seq<|e_reg<|s_as rfl<|e_nil<|e_tn<|e_ret<|e_tr<|e_fin1 rfl rfl<|?_
     exact ⟨M.weaken (.cons _ (.cons _ (List.Sublist.refl _))),by rw [if_neg (fun h_=>by subst h_;clear M;omega)]⟩
    ·intro hc
     have h10b:=hc;clear hc
     have h10:x.to=y.to:=of_decide_eq_true (of_not_f h10b)
     have h10c:(decide (x.to=y.to))=true:=(of_not_f h10b)
     refine e_skip<|e_tn<|e_seq<|e_reg<|s_fa tok65.k rfl rfl<|s_ld tok22 M 1 rfl rfl rfl rfl<|s_fa tok65.k rfl rfl<|s_ld tok22 M 0 rfl rfl rfl rfl<|s_cS ent13 rfl rfl (rsameall_spec (xs:=x.items) (ys:=y.items) M SI SJ)<|?_;clear M;rintro _ w M rfl
     refine s_as rfl<|e_nil<|e_tn<|e_ret<|e_fin1 rfl rfl<|?_
     exact ⟨M.weaken (.cons _ (.cons _ (List.Sublist.refl _))),by by_cases h_:x.items=y.items;rw [if_pos h_,if_pos (note_ext (by omega) (by omega) (by omega) (by omega) h_)];rw [if_neg h_,if_neg (fun h9_=>h_ (congrArg NotD.items h9_))]⟩
open Go Go.Y Go.RowKit
set_option linter.unusedSimpArgs false
set_option linter.unusedVariables false
/-- What is used, of a list of things with a mark each. -/
def fm {α:Type} (l:List (Bool × α)):List α:=(l.filter (·.1)).map (·.2)
section
variable {ρ:Operand→Value} {P:Program} {d:Option Tmp} {t:TypeId} {p:String} {af:Array Edge} {g:Option (Nat × Bool)} {w:World}
end
theorem fm_snoc {α:Type} {l:List (Bool × α)} {i:Nat} {x:Bool × α} (h:l[i]?=some x):fm (l.take (i+1))=fm (l.take i)++(if x.1=true then [x.2] else []):=by
 unfold fm
 rw [List.take_add_one,h]
 simp only [Option.toList_some,List.filter_append,List.map_append]
 congr 1
 by_cases hx:x.1=true
 ·simp [hx]
 ·simp [hx]
theorem fm_len {α:Type} (l:List (Bool × α)):(fm l).length≤l.length:=by
 unfold fm;rw [List.length_map];exact List.length_filter_le _ _
def upsK (k b b2:Nat):List (Bool × (Nat × Nat)):=[(decide (uAt k),(b,1)),(decide (uCo k),(b,2)),(decide (uTo k),(b,3)),(decide (uIt k),(b2,0))]
def nuK (x:NotD) (sz:Int):List (Bool × Int):=[(decide (uAt x.kind),x.at_),(decide (uCo x.kind),x.count),(decide (uTo x.kind),x.to),(decide (uIt x.kind),sz)]
def rdPt:Rd (Nat × Nat):=fun _ cs p=>cs=[.pointer (some ⟨p.1,p.2,none⟩)]
theorem mono_rdPt:Mono rdPt:=fun _ _ _ _ _ h=>h
def rdUP:Rd (Bool × (Nat × Nat)):=fun _ cs p=>cs=[.bool p.1,.pointer (some ⟨p.2.1,p.2.2,none⟩)]
theorem mono_rdUP:Mono rdUP:=fun _ _ _ _ _ h=>h
theorem els_ups {G:Ghost} {a b c d:Bool} {b1 b2 b3 b4 o1 o2 o3 o4:Nat}:Els rdUP 2 G [.bool a,.pointer (some ⟨b1,o1,none⟩),.bool b,.pointer (some ⟨b2,o2,none⟩),.bool c,.pointer (some ⟨b3,o3,none⟩),.bool d,.pointer (some ⟨b4,o4,none⟩)] [(a,(b1,o1)),(b,(b2,o2)),(c,(b3,o3)),(d,(b4,o4))] :=
 ⟨[.bool a,.pointer (some ⟨b1,o1,none⟩)],_,rfl,rfl,rfl,[.bool b,.pointer (some ⟨b2,o2,none⟩)],_,rfl,rfl,rfl,[.bool c,.pointer (some ⟨b3,o3,none⟩)],_,rfl,rfl,rfl,[.bool d,.pointer (some ⟨b4,o4,none⟩)],[],rfl,rfl,rfl,rfl⟩
theorem els_pt {G:Ghost} {p:Nat × Nat}:Els rdPt 1 G [.pointer (some ⟨p.1,p.2,none⟩)] [p]:=⟨[.pointer (some ⟨p.1,p.2,none⟩)],[],rfl,rfl,rfl,rfl⟩
/-- The fields of a notice, and their addresses. -/
theorem fld_get {x:NotD} {b b2 i:Nat} {sz:Int} {p:Nat × Nat} (h:(fm (upsK x.kind b b2))[i]?=some p) :
  ∃ z,(fm (nuK x sz))[i]?=some z∧((p=(b,1)∧z=x.at_)∨(p=(b,2)∧z=x.count)∨(p=(b,3)∧z=x.to)∨(p=(b2,0)∧z=sz)):=by
 unfold upsK fm at h
 unfold nuK fm
 rcases Bool.eq_false_or_eq_true (decide (uAt x.kind)) with h1 | h1 <;> rcases Bool.eq_false_or_eq_true (decide (uCo x.kind)) with h2 | h2 <;>
 rcases Bool.eq_false_or_eq_true (decide (uTo x.kind)) with h3 | h3 <;> rcases Bool.eq_false_or_eq_true (decide (uIt x.kind)) with h4 | h4 <;> rw [h1,h2,h3,h4] at h ⊢ <;>
 simp only [List.filter_cons,List.filter_nil,if_true,if_false,Bool.false_eq_true,List.map_cons,List.map_nil] at h ⊢ <;>
 rcases i with _ | _ | _ | _ | i <;> simp only [List.getElem?_cons_zero,List.getElem?_cons_succ,List.getElem?_nil,Option.some.injEq,reduceCtorEq] at h <;>
 first | contradiction | (subst h;exact ⟨_,rfl,by simp⟩)
theorem fld_len {x:NotD} {b b2:Nat} {sz:Int}:(fm (upsK x.kind b b2)).length=(fm (nuK x sz)).length:=by
 unfold upsK nuK fm
 rcases Bool.eq_false_or_eq_true (decide (uAt x.kind)) with h1 | h1 <;> rcases Bool.eq_false_or_eq_true (decide (uCo x.kind)) with h2 | h2 <;>
 rcases Bool.eq_false_or_eq_true (decide (uTo x.kind)) with h3 | h3 <;> rcases Bool.eq_false_or_eq_true (decide (uIt x.kind)) with h4 | h4 <;> rw [h1,h2,h3,h4] <;> rfl
/-- Numbers, each behind a space. -/
def wordsN (zs:List Int):List UInt8:=zs.flatMap fun z=>32::Lib.itoa z
theorem words_snoc {zs:List Int} {i:Nat} {z:Int} (h:zs[i]?=some z):wordsN (zs.take (i+1))=wordsN (zs.take i)++(32::Lib.itoa z):=by
 unfold wordsN;rw [List.take_add_one,h];simp
def lineN (x:NotD) (sz:Int):List UInt8:=nameK x.kind++wordsN (fm (nuK x sz))++[10]
def noteT (x:NotD):List UInt8:=lineN x ((x.items.length:Nat):Int)++textF x.items
def notesT (l:List NotD):List UInt8:=l.flatMap noteT
theorem notes_snoc {l:List NotD} {i:Nat} {x:NotD} (h:l[i]?=some x):notesT (l.take (i+1))=notesT (l.take i)++noteT x:=by
 unfold notesT;rw [List.take_add_one,h];simp
def noteErr (x:NotD):Int:=if noteE x≠0 then noteE x else textE x.items
def errAt (l:List NotD) (i:Nat):Int:=match l[i]? with
 | some x=>noteErr x
 | none=>0
theorem err_at {l:List NotD} {i:Nat} {x:NotD} (h:l[i]?=some x):errAt l i=noteErr x:=by unfold errAt;rw [h]
def ntextE (l:List NotD):Int:=if 32 < l.length then 3 else if firstE (errAt l) l.length≠0 then firstE (errAt l) l.length else if 1048576 < (notesT l).length then 3 else 0
def ntextR (l:List NotD):List UInt8:=if ntextE l=0 then notesT l else []
section
variable {l:List NotD} {i:Nat} {x:NotD}
theorem nt_3 (h:32 < l.length):ntextE l=3∧ntextR l=[]:=by
 have h1:ntextE l=3:=by unfold ntextE;rw [if_pos h]
 exact ⟨h1,by unfold ntextR;rw [if_neg (by omega)]⟩
theorem nt_e (h:¬ 32 < l.length) (hS:firstE (errAt l) i=0) (hx:l[i]?=some x) (he:noteErr x≠0):ntextE l=noteErr x∧ntextR l=[]:=by
 have h0:=firstE_hit hS (lt_of_get hx) (by rw [err_at hx];exact he)
 rw [err_at hx] at h0
 have h1:ntextE l=noteErr x:=by unfold ntextE;rw [if_neg h,if_pos (by rw [h0];exact he),h0]
 exact ⟨h1,by unfold ntextR;rw [if_neg (by rw [h1];exact he)]⟩
theorem nt_big (h:¬ 32 < l.length) (hS:firstE (errAt l) i=0) (hi:i=l.length) (hl:1048576 < (notesT (l.take i)).length):ntextE l=3∧ntextR l=[]:=by
 subst hi
 rw [List.take_length] at hl
 have h1:ntextE l=3:=by unfold ntextE;rw [if_neg h,if_neg (not_not_intro hS),if_pos hl]
 exact ⟨h1,by unfold ntextR;rw [if_neg (by omega)]⟩
theorem nt_0 (h:¬ 32 < l.length) (hS:firstE (errAt l) i=0) (hi:i=l.length) (hl:¬ 1048576 < (notesT (l.take i)).length):ntextE l=0∧ntextR l=notesT (l.take i):=by
 subst hi
 rw [List.take_length] at hl ⊢
 have h1:ntextE l=0:=by unfold ntextE;rw [if_neg h,if_neg (not_not_intro hS),if_neg hl]
 exact ⟨h1,by unfold ntextR;rw [if_pos h1]⟩
end
theorem text_zero {l:List ItemD} (h:textE l=0):(l.length≤1024∧AllOk l)∧textR l=textF l:=by
 by_cases h1:1024 < l.length
 ·rw [(text_big h1).1] at h;cases h
 ·by_cases h2:AllOk l
  ·exact ⟨⟨by omega,h2⟩,(text_ok (by omega) h2).2⟩
  ·rw [(text_bad (by omega) h2).1] at h;cases h
theorem err_e {x:NotD} (h:noteE x≠0):noteErr x=noteE x:=by unfold noteErr;rw [if_pos h]
theorem err_t {x:NotD} (h:noteE x=0):noteErr x=textE x.items:=by unfold noteErr;rw [if_neg (not_not_intro h)]
theorem words_step {k:List UInt8} {zs:List Int} {i:Nat} {z:Int} (h:zs[i]?=some z):k++wordsN (zs.take i)++([32]++Lib.itoa z)=k++wordsN (zs.take (i+1)):=by
 rw [words_snoc h];simp only [List.append_assoc,List.cons_append,List.nil_append]
theorem note_fin {l:List NotD} {i:Nat} {x:NotD} (h:l[i]?=some x) {zs:List Int} {j:Nat} (hz:zs=fm (nuK x ((x.items.length:Nat):Int))) (hj:zs.length≤j) {t:List UInt8} (ht:t=textF x.items) :
  notesT (l.take i)++nameK x.kind++wordsN (zs.take j)++([10]++t)=notesT (l.take (i+1)):=by
 subst hz ht
 rw [List.take_of_length_le hj,notes_snoc h]
 simp only [noteT,lineN,List.append_assoc,List.cons_append,List.nil_append]
theorem nameK_len (k:Nat):(nameK k).length≤6:=by unfold nameK;split <;> simp
theorem itoa_len {z:Int} (h:inKind .i64 z):(Lib.itoa z).length≤21:=by
 obtain ⟨h1,h2⟩:=h
 have h1:-9223372036854775808≤z:=h1
 have h2:z≤9223372036854775807:=h2
 unfold Lib.itoa
 split
 ·have:=dec_len z.natAbs (by omega)
  simp only [List.length_cons,List.length_append,List.length_nil];omega
 ·have:=dec_len z.toNat (by omega)
  omega
theorem words_len:∀ {zs:List Int},(∀ z∈zs,inKind .i64 z)→(wordsN zs).length≤22 * zs.length
 | [],_=>by simp [wordsN]
 | z::zs,h=>by
  have h1:=itoa_len (h z (by simp))
  have h2:=words_len (zs:=zs) fun y hy=>h y (by simp [hy])
  simp only [wordsN,List.flatMap_cons,List.length_append,List.length_cons] at h2 ⊢
  omega
theorem nu_ink {x:NotD} {sz:Int} (h1:inKind .i64 x.at_) (h2:inKind .i64 x.count) (h3:inKind .i64 x.to) (h4:inKind .i64 sz):∀ z∈fm (nuK x sz),inKind .i64 z:=by
 intro z hz
 unfold fm nuK at hz
 simp only [List.mem_map,List.mem_filter,List.mem_cons,List.not_mem_nil,or_false] at hz
 obtain ⟨⟨b,y⟩,⟨hy | hy | hy | hy,_⟩,rfl⟩:=hz <;> (simp only [Prod.mk.injEq] at hy;obtain ⟨_,rfl⟩:=hy;assumption)
open Go Go.Y Go.Proofs
set_option linter.unusedSimpArgs false
set_option linter.unusedVariables false
theorem iitoaZ_spec {w0 w:World} {G:Ghost} {L:List Res} (M:Mem w0 G L w) (HG:Globs 0 1 2 3 G) {z:Int} (hz:inKind .i64 z):Calls Tryz.prog 133 #[.int .i64 z] w (RetS w0 G L fun v=>v=.string (str (Lib.itoa z))):=by
 refine e_start (vs:=[_]) Tryz.func133 rfl (n:=5) rfl rfl<|e_seq<|e_reg<|s_as rfl<|e_nil<|e_tn<|e_seq<|e_reg<|s_mv rfl<|s_cS ent166 rfl rfl (ifi_spec (n:=z) M HG (by first | assumption | exact ⟨by decide,by decide⟩ | exact wrap_ink _ _ | exact in_i64 (by omega) (by omega)))<|?_;clear M;rintro _ w M rfl
 refine s_as rfl<|e_nil<|e_tn<|e_ret<|e_fin1 rfl rfl<|?_
 exact ⟨M,rfl⟩
theorem itoaZ_spec {w0 w:World} {G:Ghost} {L:List Res} (M:Mem w0 G L w) (HG:Globs 0 1 2 3 G) {z:Int} (hz:inKind .i64 z):Calls Tryz.prog 83 #[.int .i64 z] w (RetS w0 G L fun v=>v=.string (str (Lib.itoa z))):=by
 refine e_start (vs:=[_]) Tryz.func83 rfl (n:=5) rfl rfl<|e_seq<|e_reg<|s_as rfl<|e_nil<|e_tn<|e_seq<|e_reg<|s_mv rfl<|s_cS ent133 rfl rfl (iitoaZ_spec (z:=z) M HG hz)<|?_;clear M;rintro _ w M rfl
 refine s_as rfl<|e_nil<|e_tn<|e_ret<|e_fin1 rfl rfl<|?_
 exact ⟨M,rfl⟩
theorem blen_spec {w0 w:World} {G:Ghost} {L:List Res} {b n c:Nat} {ad:Option Addr} {l:List UInt8} {p:Value} (M:Mem w0 G (.blk b [p,.slice ad n c] 101::.row (.slice ad n c) n (bc l) 5 1::L) w) (hn:n=l.length) :
  Calls Tryz.prog 84 #[.pointer (some ⟨b,0,none⟩)] w (RetS w0 G (.blk b [p,.slice ad n c] 101::.row (.slice ad n c) n (bc l) 5 1::L) fun v=>v=.int .i64 ((l.length:Nat):Int)):=by
 refine e_start (vs:=[_]) Tryz.func84 rfl (n:=8) rfl rfl<|e_seq<|e_reg<|s_as rfl<|e_nil<|e_tn<|e_seq<|e_reg<|s_mv rfl<|s_nc rfl<|s_fa tok101.k rfl rfl<|s_ld tok32 M 0 rfl rfl rfl rfl<|s_ls tok32.k rfl<|s_as rfl<|e_nil<|e_tn<|e_ret<|e_fin1 rfl rfl<|?_
 exact ⟨M,by rw [hn]⟩
theorem nums_spec {w0 w:World} {G:Ghost} {L:List Res} (M:Mem w0 G L w) {k b b2:Nat}:Calls Tryz.prog 82 #[.agg #[.string (str (nameK k)),.bool (decide (uAt k)),.bool (decide (uCo k)),.bool (decide (uTo k)),.bool (decide (uIt k)),.func (.func (doesF k)) #[] #[]],.pointer (some ⟨b,0,none⟩),.pointer (some ⟨b2,0,none⟩)] w (Ret w0 G L fun G' v=>∃ (a:Option Addr) (cc:Nat),v=.slice a (fm (upsK k b b2)).length cc∧RdSl rdPt 1 G' (.slice a (fm (upsK k b b2)).length cc) (fm (upsK k b b2))):=by
 refine e_start (vs:=[_,_,_]) Tryz.func82 rfl (n:=47) rfl rfl<|e_seq<|e_reg<|s_bx M rfl rfl rfl<|?_;clear M;intro b1 w M
 refine s_as rfl<|e_nil<|e_tn<|e_seq<|e_reg<|s_as rfl<|e_nil<|e_tn<|e_seq<|e_seq<|fun a F=>w_plan [(true,0),(true,1),(true,2),(true,3),(true,4),(true,5),(true,6),(true,7),(true,8),(true,9),(true,10),(true,11),(true,12),(true,13),(true,14),(true,15),(true,16),(true,17),(true,18),(true,19),(true,20),(true,21),(true,24),(false,22),(true,23)] (Keep G [.blk b1 [.string (str (nameK k)),.bool (decide (uAt k)),.bool (decide (uCo k)),.bool (decide (uTo k)),.bool (decide (uIt k)),.func (.func (doesF k)) #[] #[]] 138]) rfl (by kernel_rfl) (fun c a d v w h=>by cases d <;> exact h) ((M.drew _).keep (Gle.refl _) (by simp)) ?_
 replace M:=M.drew (w.drawn+1)
 revert a
 refine l_r (fun a F w M=>x_fa tok138.k rfl F rfl) rfl<|l_r (fun a F w M=>run_load1 (agf tok4 rfl) (F.ev rfl) (M.cellL (k:=0) rfl rfl)) rfl<|l_r (fun a F w M=>x_mv F rfl) rfl<|l_r (fun a F w M=>run_nilCheck (F.ev rfl)) rfl<|l_r (fun a F w M=>x_fa tok65.k rfl F rfl) rfl<|l_r (fun a F w M=>run_buildS (cs:=[.bool (decide (uAt k)),.pointer (some ⟨b,0+1,none⟩)]) (ps:=[(0,.bool (decide (uAt k))),(1,.pointer (some ⟨b,0+1,none⟩))]) tok215.k rfl tok215 (F.evp rfl) rfl) rfl<|l_r (fun a F w M=>x_fa tok138.k rfl F rfl) rfl<|l_r (fun a F w M=>run_load1 (agf tok4 rfl) (F.ev rfl) (M.cellL (k:=0) rfl rfl)) rfl<|l_r (fun a F w M=>x_mv F rfl) rfl<|l_r (fun a F w M=>run_nilCheck (F.ev rfl)) rfl<|l_r (fun a F w M=>x_fa tok65.k rfl F rfl) rfl<|l_r (fun a F w M=>run_buildS (cs:=[.bool (decide (uCo k)),.pointer (some ⟨b,0+2,none⟩)]) (ps:=[(0,.bool (decide (uCo k))),(1,.pointer (some ⟨b,0+2,none⟩))]) tok215.k rfl tok215 (F.evp rfl) rfl) rfl<|l_r (fun a F w M=>x_fa tok138.k rfl F rfl) rfl<|l_r (fun a F w M=>run_load1 (agf tok4 rfl) (F.ev rfl) (M.cellL (k:=0) rfl rfl)) rfl<|l_r (fun a F w M=>x_mv F rfl) rfl<|l_r (fun a F w M=>run_nilCheck (F.ev rfl)) rfl<|l_r (fun a F w M=>x_fa tok65.k rfl F rfl) rfl<|l_r (fun a F w M=>run_buildS (cs:=[.bool (decide (uTo k)),.pointer (some ⟨b,0+3,none⟩)]) (ps:=[(0,.bool (decide (uTo k))),(1,.pointer (some ⟨b,0+3,none⟩))]) tok215.k rfl tok215 (F.evp rfl) rfl) rfl<|l_r (fun a F w M=>x_fa tok138.k rfl F rfl) rfl<|l_r (fun a F w M=>run_load1 (agf tok4 rfl) (F.ev rfl) (M.cellL (k:=0) rfl rfl)) rfl<|l_r (fun a F w M=>x_mv F rfl) rfl<|l_r (fun a F w M=>run_buildS (cs:=[.bool (decide (uIt k)),.pointer (some ⟨b2,0,none⟩)]) (ps:=[(0,.bool (decide (uIt k))),(1,.pointer (some ⟨b2,0,none⟩))]) tok215.k rfl tok215 (F.evp rfl) rfl) rfl<|l_r (fun a F w M=>x_mv F rfl) rfl<|l_a rfl<|?_
 intro a F
 refine rl_buildSliceN F M tok216.k tok215 (ps:=[(0,.agg #[.bool (decide (uAt k)),.pointer (some ⟨b,0+1,none⟩)]),(1,.agg #[.bool (decide (uCo k)),.pointer (some ⟨b,0+2,none⟩)]),(2,.agg #[.bool (decide (uTo k)),.pointer (some ⟨b,0+3,none⟩)]),(3,.agg #[.bool (decide (uIt k)),.pointer (some ⟨b2,0,none⟩)])]) (cs:=[[.bool (decide (uAt k)),.pointer (some ⟨b,0+1,none⟩)],[.bool (decide (uCo k)),.pointer (some ⟨b,0+2,none⟩)],[.bool (decide (uTo k)),.pointer (some ⟨b,0+3,none⟩)],[.bool (decide (uIt k)),.pointer (some ⟨b2,0,none⟩)]]) (fl:=[.bool (decide (uAt k)),.pointer (some ⟨b,0+1,none⟩),.bool (decide (uCo k)),.pointer (some ⟨b,0+2,none⟩),.bool (decide (uTo k)),.pointer (some ⟨b,0+3,none⟩),.bool (decide (uIt k)),.pointer (some ⟨b2,0,none⟩)]) rfl rfl (by simp [Parts,Value.cells]) (by simp [ti215]) rfl (by simp [Value.oneCell']) (by decide) (by decide) rfl ?_;clear F M a;intro v2 w a M F
 obtain ⟨av2,cv2,rfl,hlev2,hcmv2,hlv2⟩:=M.row_shape (k:=0) rfl
 revert a
 refine e_nil<|eK (C':=Keep G [.blk b1 [.string (str (nameK k)),.bool (decide (uAt k)),.bool (decide (uCo k)),.bool (decide (uTo k)),.bool (decide (uIt k)),.func (.func (doesF k)) #[] #[]] 138]) (M.keep (Gle.refl _) (by simp)) (fun w h=>h.mono (Gle.refl _) (by simp))<|?_
 have Eu:Els rdUP 2 G [.bool (decide (uAt k)),.pointer (some ⟨b,0+1,none⟩),.bool (decide (uCo k)),.pointer (some ⟨b,0+2,none⟩),.bool (decide (uTo k)),.pointer (some ⟨b,0+3,none⟩),.bool (decide (uIt k)),.pointer (some ⟨b2,0,none⟩)] (upsK k b b2):=els_ups
 refine l_r (fun a F w M=>run_lenSl tok216.k (F.ev rfl)) rfl<|l_nil<|e_tn<|e_block<|?_
 have M:=M.nilrow 150 1
 change Mem w0 G (.row (.slice none 0 0) 0 ([]) 150 1::.row (.slice (av2) 4 (cv2)) 4 ([.bool (decide (uAt k)),.pointer (some ⟨b,0+1,none⟩),.bool (decide (uCo k)),.pointer (some ⟨b,0+2,none⟩),.bool (decide (uTo k)),.pointer (some ⟨b,0+3,none⟩),.bool (decide (uIt k)),.pointer (some ⟨b2,0,none⟩)]) 215 2::.blk b1 [.string (str (nameK k)),.bool (decide (uAt k)),.bool (decide (uCo k)),.bool (decide (uTo k)),.bool (decide (uIt k)),.func (.func (doesF k)) #[] #[]] 138::L) _ at M
 intro a F
 refine w_loopN (fun m a' w'=>∃ (i:Nat),∃ (ar:Option Addr),∃ (nr:Nat),∃ (cr:Nat),∃ (csr:List Value),m=4 - i∧Fits 47 a' [(32,.slice (av2) 4 (cv2)),(33,.int .i64 (((4:Nat):Int))),(7,.slice (ar) (nr) (cr)),(34,.int .i64 (((i:Nat):Int)))]∧Mem w0 G (.row (.slice (ar) (nr) (cr)) (nr) (csr) 150 1::.row (.slice (av2) 4 (cv2)) 4 ([.bool (decide (uAt k)),.pointer (some ⟨b,0+1,none⟩),.bool (decide (uCo k)),.pointer (some ⟨b,0+2,none⟩),.bool (decide (uTo k)),.pointer (some ⟨b,0+3,none⟩),.bool (decide (uIt k)),.pointer (some ⟨b2,0,none⟩)]) 215 2::.blk b1 [.string (str (nameK k)),.bool (decide (uAt k)),.bool (decide (uCo k)),.bool (decide (uTo k)),.bool (decide (uIt k)),.func (.func (doesF k)) #[] #[]] 138::L) w'∧(i≤4)∧(Els rdPt 1 G csr (fm ((upsK k b b2).take i)))∧(nr≤i)) _ ⟨0,none,0,0,[],rfl,F.to ⟨rfl,rfl,rfl,rfl,trivial⟩,M,by omega,Els.nil,by omega⟩ ?_
 clear F M
 rintro m a w ⟨i,ar,nr,cr,csr,rfl,F,M,hi,Er,hnr⟩
 revert a
 refine e_seq<|e_reg<|s_lt rfl rfl<|e_nil<|e_tn<|e_seq<|e_cond rfl ?_ ?_
 ·intro hc
  have h3b:=hc;clear hc
  have h3:((i:Nat):Int) < ((4:Nat):Int):=of_decide_eq_true h3b
  refine e_skip<|e_tn<|e_seq<|e_block<|e_seq<|e_reg<|?_
  obtain ⟨Xe4,hXe4⟩:=get_of_lt (xs:=(upsK k b b2)) (i:=i) (by (show i < 4;omega))
  obtain ⟨be4,_,Ie4,hme4,_,Ae4,rfl⟩:=M.atRow (k:=1) rfl (by decide) Eu hXe4
  refine s_ix tok216.k tok215 Ie4 rfl rfl<|e_run (fun a F=>run_loadA tok215 rfl (F.ev rfl) (cs:=[.bool (Xe4.1),.pointer (some ⟨Xe4.2.1,Xe4.2.2,none⟩)]) rfl (cellsE Ae4 0 (by omega) rfl)) rfl<|s_al M tok215 rfl rfl<|?_;clear M;intro b5 w M
  intro a F
  refine rl_storeA F M tok215 (k:=0) rfl rfl rfl (us:=[.bool (Xe4.1),.pointer (some ⟨Xe4.2.1,Xe4.2.2,none⟩)]) rfl rfl (by simp [Value.oneCell']) (by simp) ?_;clear F M a;intro w a M F
  change Mem w0 G (.blk b5 [.bool (Xe4.1),.pointer (some ⟨Xe4.2.1,Xe4.2.2,none⟩)] 215::_::_::_::L) _ at M
  revert a
  refine e_nil<|e_tn<|e_seq<|e_reg<|s_fa tok215.k rfl rfl<|s_ld tok4 M 0 rfl rfl rfl rfl<|e_nil<|e_tn<|e_cond rfl ?_ ?_
  ·intro hc
   have h7b:=hc;clear hc
   have h7:(Xe4.1)=true:=h7b
   refine e_reg<|s_mv rfl<|s_fa tok215.k rfl rfl<|s_ld tok150 M 0 rfl rfl rfl rfl<|fun a F=>?_
   refine rl_buildSlice1 F M tok147.k tok150 rfl rfl (cs:=[.pointer (some ⟨Xe4.2.1,Xe4.2.2,none⟩)]) rfl rfl (by simp [Value.oneCell']) (by decide) rfl ?_;clear F M a;intro v8 w a M F
   obtain ⟨av8,cv8,rfl,hlev8,hcmv8,hlv8⟩:=M.row_shape (k:=0) rfl
   have Eb9:Els rdPt 1 G [.pointer (some ⟨Xe4.2.1,Xe4.2.2,none⟩)] [Xe4.2]:=els_pt
   refine rl_append_row F M (k:=2) (k2:=0) rfl rfl tok147.k tok150 rfl rfl (by decide) rfl rfl (by show _ * 8≤_;(try simp only [List.length_drop,List.length_take,List.length_append,List.length_cons,List.length_nil]);omega) (by (try simp only [List.length_drop,List.length_take,List.length_append,List.length_cons,List.length_nil]);omega) rfl ?_;clear F M a;intro v10 w a M F
   have Ev10:=Els.append Er Eb9
   obtain ⟨av10,cv10,rfl,hlev10,hcmv10,hlv10⟩:=M.row_shape (k:=2) rfl
   revert a
   refine s_as rfl<|e_nil<|e_bn<|e_tn<|e_reg<|s_add rfl rfl<|s_mv rfl<|e_nil<|e_tn<|fun a F=>?_
   exact ⟨_,by omega,i+1,(av10),(nr+1),(cv10),csr++([.pointer (some ⟨Xe4.2.1,Xe4.2.2,none⟩)]),rfl,F.to ⟨rfl,rfl,rfl,rfl,trivial⟩,(M.weaken (.cons _ (.cons _ (.cons_cons _ (.cons_cons _ (.cons_cons _ (List.Sublist.refl _))))))),by omega,by have h_:=Ev10;first | (rw [fm_snoc hXe4,if_pos (by assumption)];exact h_) | (rw [fm_snoc hXe4,if_neg (by simp_all),List.append_nil];exact h_),by omega⟩
  ·intro hc
   have h11b:=hc;clear hc
   have h11:(Xe4.1)=false:=h11b
   refine e_skip<|e_bn<|e_tn<|e_reg<|s_add rfl rfl<|s_mv rfl<|e_nil<|e_tn<|fun a F=>?_
   exact ⟨_,by omega,i+1,(ar),(nr),(cr),csr,rfl,F.to ⟨rfl,rfl,rfl,rfl,trivial⟩,(M.weaken (.cons _ (.cons_cons _ (.cons_cons _ (.cons_cons _ (List.Sublist.refl _)))))),by omega,by have h_:=Er;first | (rw [fm_snoc hXe4,if_pos (by assumption)];exact h_) | (rw [fm_snoc hXe4,if_neg (by simp_all),List.append_nil];exact h_),by omega⟩
 ·intro hc
  have h12b:=hc;clear hc
  have h12:¬ (((i:Nat):Int) < ((4:Nat):Int)):=of_decide_eq_false h12b
  refine e_exit<|e_te<|e_te<|e_bh<|e_tn<|e_seq<|fun a F=>?_
  rw [List.take_of_length_le (show (upsK k b b2).length≤i by show 4≤i;omega)] at Er
  obtain ⟨hnz13,Gz13,az13,cz13,hGz13,hez13,Sz13,M⟩:=M.freeze_row mono_rdPt (k:=0) rfl Er (by decide)
  clear hez13 az13 cz13
  replace Eu:=Eu.mono mono_rdUP hGz13
  rw [hnz13] at F Sz13
  revert a
  refine e_reg<|s_mv rfl<|s_as rfl<|e_nil<|e_tn<|e_ret<|e_fin1 rfl rfl<|?_
  exact ⟨_,hGz13,M.weaken (.cons _ (.cons _ (List.Sublist.refl _))),_,_,rfl,Sz13⟩
open Go Go.Y Go.Proofs
set_option linter.unusedSimpArgs false
set_option linter.unusedVariables false
theorem ntext_spec {w0 w:World} {G:Ghost} {L:List Res} (M:Mem w0 G L w) (HG:Globs 0 1 2 3 G) {an:Option Addr} {cn:Nat} {ns:List NotD} (SN:RdSl rdNote 5 G (.slice an ns.length cn) ns):Calls Tryz.prog 32 #[.slice an ns.length cn] w (Ret w0 G L fun G' v=>v=.tuple #[.string (str (ntextR ns)),.int .i64 (ntextE ns)]):=by
 have bN:=SN.bound
 refine e_start (vs:=[_]) Tryz.func32 rfl (n:=68) rfl rfl<|e_seq<|e_reg<|s_as rfl<|s_as rfl<|e_nil<|e_tn<|e_seq<|e_seq<|e_reg<|s_mv rfl<|s_ls tok47.k rfl<|s_gt rfl rfl<|e_nil<|e_tn<|e_cond rfl ?_ ?_
 ·intro hc
  have h1b:=hc;clear hc
  have h1:32 < ((ns.length:Nat):Int):=of_decide_eq_true h1b
  refine e_seq<|e_reg<|s_as rfl<|s_as rfl<|e_nil<|e_tn<|e_ret<|e_tr<|e_fin2 rfl rfl rfl<|?_
  exact ⟨_,(Gle.refl _),M,by rw [(nt_3 (by omega)).1,(nt_3 (by omega)).2];try rfl⟩
 ·intro hc
  have h2b:=hc;clear hc
  have h2:¬ (32 < ((ns.length:Nat):Int)):=of_decide_eq_false h2b
  refine e_skip<|e_tn<|e_seq<|e_reg<|s_al M tok101 rfl rfl<|?_;clear M;intro b3 w M
  refine e_nil<|e_tn<|e_seq<|e_seq<|?_
  change Mem w0 G (_::L) _ at M
  have M:=(M.nilrow 5 1).perm (List.Perm.swap _ _ _)
  intro a F
  rw [show ([]:List Value)=bc [] from rfl] at M
  revert a
  refine e_reg<|s_mv rfl<|s_ls tok47.k rfl<|s_mv rfl<|e_nil<|e_tn<|e_block<|?_
  have hz0:([]:List UInt8)=notesT (ns.take 0):=by simp [notesT]
  intro a F
  rw [hz0] at M
  refine w_loopN (fun m a' w'=>∃ (i:Nat),∃ (am:Option Addr),∃ (nm:Nat),∃ (cm:Nat),∃ (pm:Value),m=ns.length - i∧∃ G5,Gle G G5∧Fits 68 a' [(4,.pointer (some ⟨b3,0,none⟩)),(17,.slice (an) (ns.length) (cn)),(18,.int .i64 (((ns.length:Nat):Int))),(19,.int .i64 (((i:Nat):Int)))]∧Mem w0 G5 (.blk b3 [pm,.slice (am) (nm) (cm)] 101::.row (.slice (am) (nm) (cm)) (nm) (bc (notesT (ns.take i))) 5 1::L) w'∧(i≤ns.length)∧(firstE (errAt ns) i=0)∧((notesT (ns.take i)).length≤320000 * i)∧(pm=.pointer none∨pm=.pointer (some ⟨b3,0,none⟩))∧(nm=(notesT (ns.take i)).length)∧((notesT (ns.take i))=[]→am=none)) _ ⟨0,(none),(0),(0),(.pointer none),rfl,G,Gle.refl _,F.to ⟨rfl,rfl,rfl,rfl,trivial⟩,M,Nat.zero_le _,rfl,by simp [notesT],(Or.inl rfl),rfl,(fun _=>rfl)⟩ ?_
  clear F M
  rintro m a w ⟨i,am,nm,cm,pm,rfl,G5,hG5,F,M,hi,hS,hlen,hpm,hnm,hnilm⟩
  replace HG:=HG.mono hG5
  replace SN:=SN.mono mono_rdNote hG5
  revert a
  refine e_seq<|e_reg<|s_lt rfl rfl<|e_nil<|e_tn<|e_seq<|e_cond rfl ?_ ?_
  ·intro hc
   have h6b:=hc;clear hc
   have h6:((i:Nat):Int) < ((ns.length:Nat):Int):=of_decide_eq_true h6b
   refine e_skip<|e_tn<|e_seq<|e_block<|e_seq<|e_reg<|?_
   obtain ⟨Xe7,hXe7⟩:=get_of_lt (xs:=ns) (i:=i) (by omega)
   obtain ⟨be7,oe7,_,Ie7,_,Ae7,hTe7⟩:=SN.at hXe7
   obtain ⟨nae7,nce7,rfl,h1e7,h2e7,h3e7,h4e7,h5e7,SIe7⟩:=hTe7
   have hNe7:Xe7.kind < 256∧inKind .i64 Xe7.at_∧inKind .i64 Xe7.count∧inKind .i64 Xe7.to∧Xe7.items.length≤9223372036854775807:=⟨h1e7,h2e7,h3e7,h4e7,h5e7⟩
   refine s_ix tok47.k tok65 Ie7 rfl rfl<|e_run (fun a F=>run_loadA tok65 rfl (F.ev rfl) (cs:=[.int .u8 (((Xe7.kind:Nat):Int)),.int .i64 (Xe7.at_),.int .i64 (Xe7.count),.int .i64 (Xe7.to),.slice (nae7) (Xe7.items.length) (nce7)]) rfl (M.cellsA Ae7 0 (by omega) rfl)) rfl<|s_al M tok65 rfl rfl<|?_;clear M;intro b8 w M
   intro a F
   refine rl_storeA F M tok65 (k:=0) rfl rfl rfl (us:=[.int .u8 (((Xe7.kind:Nat):Int)),.int .i64 (Xe7.at_),.int .i64 (Xe7.count),.int .i64 (Xe7.to),.slice (nae7) (Xe7.items.length) (nce7)]) rfl rfl (by simp [Value.oneCell']) (by simp) ?_;clear F M a;intro w a M F
   change Mem w0 G5 (.blk b8 [.int .u8 (((Xe7.kind:Nat):Int)),.int .i64 (Xe7.at_),.int .i64 (Xe7.count),.int .i64 (Xe7.to),.slice (nae7) (Xe7.items.length) (nce7)] 65::_::_::L) _ at M
   revert a
   refine e_nil<|e_tn<|e_seq<|e_seq<|e_reg<|e_run (fun a F=>run_loadA tok65 rfl (F.ev rfl) (cs:=[.int .u8 (((Xe7.kind:Nat):Int)),.int .i64 (Xe7.at_),.int .i64 (Xe7.count),.int .i64 (Xe7.to),.slice (nae7) (Xe7.items.length) (nce7)]) rfl (M.cellsL (k:=0) rfl rfl)) rfl<|s_cS ent37 rfl rfl (ncheck_spec (x:=Xe7) M hNe7 SIe7)<|?_;clear M;rintro _ w M rfl
   refine s_as rfl<|e_nil<|e_tn<|e_seq<|e_reg<|s_mv rfl<|s_ne rfl rfl<|e_nil<|e_tn<|e_cond rfl ?_ ?_
   ·intro hc
    have h10b:=hc;clear hc
    have h10:¬ (noteE Xe7=0):=of_decide_eq_false (of_not_t h10b)
    have h10c:(decide (noteE Xe7=0))=false:=(of_not_t h10b)
    refine e_seq<|e_reg<|s_mv rfl<|s_as rfl<|s_as rfl<|e_nil<|e_tn<|e_ret<|e_tr<|e_br<|e_tr<|e_tr<|e_br<|e_tr<|e_fin2 rfl rfl rfl<|?_
    exact ⟨_,hG5,M.weaken (.cons _ (.cons _ (.cons _ (List.Sublist.refl _)))),by rw [(nt_e (by omega) hS hXe7 (by rw [err_e (by omega)];omega)).1,(nt_e (by omega) hS hXe7 (by rw [err_e (by omega)];omega)).2,err_e (show noteE Xe7≠0 by omega)];try rfl⟩
   ·intro hc
    have h11b:=hc;clear hc
    have h11:noteE Xe7=0:=of_decide_eq_true (of_not_f h11b)
    have h11c:(decide (noteE Xe7=0))=true:=(of_not_f h11b)
    refine e_skip<|e_tn<|e_seq<|?_
    have hne:noteE Xe7=0:=by omega
    refine e_reg<|s_fa tok65.k rfl rfl<|s_ld tok22 M 0 rfl rfl rfl rfl<|s_cS ent11 rfl rfl (text_spec (xs:=Xe7.items) M HG SIe7)<|?_;clear M;rintro _ w M rfl
    refine s_mv rfl<|s_ex rfl rfl<|s_ex rfl rfl<|s_as rfl<|s_as rfl<|e_nil<|e_tn<|e_seq<|e_seq<|e_reg<|s_mv rfl<|s_ne rfl rfl<|e_nil<|e_tn<|e_cond rfl ?_ ?_
    ·intro hc
     have h12b:=hc;clear hc
     have h12:¬ (textE Xe7.items=0):=of_decide_eq_false (of_not_t h12b)
     have h12c:(decide (textE Xe7.items=0))=false:=(of_not_t h12b)
     refine e_seq<|e_reg<|s_mv rfl<|s_as rfl<|s_as rfl<|e_nil<|e_tn<|e_ret<|e_tr<|e_br<|e_tr<|e_tr<|e_br<|e_tr<|e_fin2 rfl rfl rfl<|?_
     exact ⟨_,hG5,M.weaken (.cons _ (.cons _ (.cons _ (List.Sublist.refl _)))),by rw [(nt_e (by omega) hS hXe7 (by rw [err_t hne];omega)).1,(nt_e (by omega) hS hXe7 (by rw [err_t hne];omega)).2,err_t hne];try rfl⟩
    ·intro hc
     have h13b:=hc;clear hc
     have h13:textE Xe7.items=0:=of_decide_eq_true (of_not_f h13b)
     have h13c:(decide (textE Xe7.items=0))=true:=(of_not_f h13b)
     refine e_skip<|e_tn<|e_seq<|?_
     have ht0:=text_zero (l:=Xe7.items) (by omega)
     have htl:=textF_len ht0.1.2 (items_b SIe7)
     intro a F
     rw [← ht0.2] at htl
     have hkk:=(note_zero.1 hne).1
     have hnk:=nameK_len Xe7.kind
     have hnu:=nu_ink (x:=Xe7) (sz:=((Xe7.items.length:Nat):Int)) hNe7.2.1 hNe7.2.2.1 hNe7.2.2.2.1 (in_i64 (by omega) (by omega))
     have hfl4:=fm_len (nuK Xe7 ((Xe7.items.length:Nat):Int))
     rw [show (nuK Xe7 ((Xe7.items.length:Nat):Int)).length=4 from rfl] at hfl4
     refine w_cut (fun a' w'=>∃ (b10k b11k:Nat),Fits 68 a' [(4,.pointer (some ⟨b3,0,none⟩)),(6,.pointer (some ⟨b8,0,none⟩)),(8,.string (str (textR Xe7.items))),(17,.slice (an) (ns.length) (cn)),(18,.int .i64 (((ns.length:Nat):Int))),(19,.int .i64 (((i:Nat):Int))),(10,.pointer (some ⟨b10k,0,none⟩)),(11,.pointer (some ⟨b11k,0,none⟩))]∧Mem w0 G5 (.blk b11k [.int .i64 (((Xe7.items.length:Nat):Int))] 3::.blk b10k [.string (str (nameK Xe7.kind)),.bool (decide (uAt Xe7.kind)),.bool (decide (uCo Xe7.kind)),.bool (decide (uTo Xe7.kind)),.bool (decide (uIt Xe7.kind)),.func (.func (doesF Xe7.kind)) #[] #[]] 138::.blk b8 [.int .u8 (((Xe7.kind:Nat):Int)),.int .i64 (Xe7.at_),.int .i64 (Xe7.count),.int .i64 (Xe7.to),.slice (nae7) (Xe7.items.length) (nce7)] 65::.blk b3 [pm,.slice (am) (nm) (cm)] 101::.row (.slice (am) (nm) (cm)) (nm) (bc (notesT (ns.take i))) 5 1::L) w') ?_ ?_
     ·skip
      have ht0:=text_zero (l:=Xe7.items) (by omega)
      have htl:=textF_len ht0.1.2 (items_b SIe7)
      rw [← ht0.2] at htl
      have hkk:=(note_zero.1 hne).1
      have hnk:=nameK_len Xe7.kind
      have hnu:=nu_ink (x:=Xe7) (sz:=((Xe7.items.length:Nat):Int)) hNe7.2.1 hNe7.2.2.1 hNe7.2.2.2.1 (in_i64 (by omega) (by omega))
      have hfl4:=fm_len (nuK Xe7 ((Xe7.items.length:Nat):Int))
      rw [show (nuK Xe7 ((Xe7.items.length:Nat):Int)).length=4 from rfl] at hfl4
      refine w_tree (.run 1 (.run 2 (.run 4 (.run 5 (.run 6 (.act 0 (.run 3 (.act 7 (.act 8 (.act 9 (.act 10 .fin .no) .no) .no) (.act 8 (.act 7 (.act 9 (.act 10 .fin .no) .no) .no) .no))) (.act 7 (.act 0 (.run 3 (.act 8 (.act 9 (.act 10 .fin .no) .no) .no)) (.act 8 (.act 0 (.run 3 (.act 9 (.act 10 .fin .no) .no)) .no) .no)) (.act 8 (.act 0 (.run 3 (.act 7 (.act 9 (.act 10 .fin .no) .no) .no)) (.act 7 (.act 0 (.run 3 (.act 9 (.act 10 .fin .no) .no)) .no) .no)) .no)))))))) (Keep G5 [.blk b8 [.int .u8 (((Xe7.kind:Nat):Int)),.int .i64 (Xe7.at_),.int .i64 (Xe7.count),.int .i64 (Xe7.to),.slice (nae7) (Xe7.items.length) (nce7)] 65]) rfl (by kernel_rfl) (fun c a d v w h=>by cases d <;> exact h) ((M.drew _).keep (Gle.refl _) (by simp)) ?_
      replace M:=M.drew (w.drawn+1)
      revert a
      refine t_r (fun a F w M=>x_fa tok65.k rfl F rfl) rfl<|t_r (fun a F w M=>run_load1 (agf tok5 rfl) (F.ev rfl) (M.cellL (k:=0) rfl rfl)) rfl<|t_r (fun a F w M=>x_fa tok65.k rfl F rfl) rfl<|t_r (fun a F w M=>run_load1 (agf tok22 rfl) (F.ev rfl) (M.cellL (k:=0) rfl rfl)) rfl<|t_r (fun a F w M=>run_lenSl tok22.k (F.ev rfl)) rfl<|fun a F=>pt_act ?_ rfl ?_
      ·skip
       revert a
       refine s_cS ent75 rfl rfl (kinds_spec M)<|?_;clear M;rintro _ w M rfl
       refine e_nil<|eK (C':=Keep G5 [.blk b8 [.int .u8 (((Xe7.kind:Nat):Int)),.int .i64 (Xe7.at_),.int .i64 (Xe7.count),.int .i64 (Xe7.to),.slice (nae7) (Xe7.items.length) (nce7)] 65]) (M.keep (Gle.refl _) (by simp)) (fun w h=>h.mono (Gle.refl _) (by simp))<|t_r (fun a F w M=>run_idxArrA (j:=Xe7.kind) tok139.k tok138 rfl (F.ev rfl) (F.ev rfl) rfl (by omega) (us:=[.string (str (nameK Xe7.kind)),.bool (decide (uAt Xe7.kind)),.bool (decide (uCo Xe7.kind)),.bool (decide (uTo Xe7.kind)),.bool (decide (uIt Xe7.kind)),.func (.func (doesF Xe7.kind)) #[] #[]]) (kinds_at (by omega))) rfl<|fun a F=>pt_act ?_ rfl ?_
       ·skip
        revert a
        refine s_al M tok138 rfl rfl<|?_;clear M;intro b14 w M
        refine e_nil<|eK (C':=Keep G5 [.blk b8 [.int .u8 (((Xe7.kind:Nat):Int)),.int .i64 (Xe7.at_),.int .i64 (Xe7.count),.int .i64 (Xe7.to),.slice (nae7) (Xe7.items.length) (nce7)] 65]) (M.keep (Gle.refl _) (by simp)) (fun w h=>h.mono (Gle.refl _) (by simp))<|fun a F=>pt_act ?_ rfl pt_no
        revert a
        refine s_al M tok3 rfl rfl<|?_;clear M;intro b16 w M
        refine e_nil<|eK (C':=Keep G5 [.blk b8 [.int .u8 (((Xe7.kind:Nat):Int)),.int .i64 (Xe7.at_),.int .i64 (Xe7.count),.int .i64 (Xe7.to),.slice (nae7) (Xe7.items.length) (nce7)] 65]) (M.keep (Gle.refl _) (by simp)) (fun w h=>h.mono (Gle.refl _) (by simp))<|fun a F=>pt_act ?_ rfl pt_no
        refine rl_storeA F M tok138 (k:=1) rfl rfl rfl (us:=[.string (str (nameK Xe7.kind)),.bool (decide (uAt Xe7.kind)),.bool (decide (uCo Xe7.kind)),.bool (decide (uTo Xe7.kind)),.bool (decide (uIt Xe7.kind)),.func (.func (doesF Xe7.kind)) #[] #[]]) rfl rfl (by simp [Value.oneCell']) (by simp) ?_;clear F M a;intro w a M F
        change Mem w0 G5 (_::.blk b14 [.string (str (nameK Xe7.kind)),.bool (decide (uAt Xe7.kind)),.bool (decide (uCo Xe7.kind)),.bool (decide (uTo Xe7.kind)),.bool (decide (uIt Xe7.kind)),.func (.func (doesF Xe7.kind)) #[] #[]] 138::.blk b8 [.int .u8 (((Xe7.kind:Nat):Int)),.int .i64 (Xe7.at_),.int .i64 (Xe7.count),.int .i64 (Xe7.to),.slice (nae7) (Xe7.items.length) (nce7)] 65::_::_::L) _ at M
        revert a
        refine e_nil<|eK (C':=Keep G5 [.blk b8 [.int .u8 (((Xe7.kind:Nat):Int)),.int .i64 (Xe7.at_),.int .i64 (Xe7.count),.int .i64 (Xe7.to),.slice (nae7) (Xe7.items.length) (nce7)] 65]) (M.keep (Gle.refl _) (by simp)) (fun w h=>h.mono (Gle.refl _) (by simp))<|fun a F=>pt_act ?_ rfl pt_no
        revert a
        refine s_st tok3 M 0 rfl rfl rfl rfl rfl rfl<|?_;clear M;intro w M
        refine e_nil<|eK (C':=Keep G5 [.blk b8 [.int .u8 (((Xe7.kind:Nat):Int)),.int .i64 (Xe7.at_),.int .i64 (Xe7.count),.int .i64 (Xe7.to),.slice (nae7) (Xe7.items.length) (nce7)] 65]) (M.keep (Gle.refl _) (by simp)) (fun w h=>h.mono (Gle.refl _) (by simp))<|t_fin<|fun a F=>?_
        exact ⟨b14,b16,F.to ⟨rfl,rfl,rfl,rfl,rfl,rfl,rfl,rfl,trivial⟩,M⟩
       refine pt_act ?_ rfl ?_
       ·skip
        revert a
        refine s_al M tok3 rfl rfl<|?_;clear M;intro b18 w M
        refine e_nil<|eK (C':=Keep G5 [.blk b8 [.int .u8 (((Xe7.kind:Nat):Int)),.int .i64 (Xe7.at_),.int .i64 (Xe7.count),.int .i64 (Xe7.to),.slice (nae7) (Xe7.items.length) (nce7)] 65]) (M.keep (Gle.refl _) (by simp)) (fun w h=>h.mono (Gle.refl _) (by simp))<|fun a F=>pt_act ?_ rfl pt_no
        revert a
        refine s_al M tok138 rfl rfl<|?_;clear M;intro b20 w M
        refine e_nil<|eK (C':=Keep G5 [.blk b8 [.int .u8 (((Xe7.kind:Nat):Int)),.int .i64 (Xe7.at_),.int .i64 (Xe7.count),.int .i64 (Xe7.to),.slice (nae7) (Xe7.items.length) (nce7)] 65]) (M.keep (Gle.refl _) (by simp)) (fun w h=>h.mono (Gle.refl _) (by simp))<|fun a F=>pt_act ?_ rfl pt_no
        refine rl_storeA F M tok138 (k:=0) rfl rfl rfl (us:=[.string (str (nameK Xe7.kind)),.bool (decide (uAt Xe7.kind)),.bool (decide (uCo Xe7.kind)),.bool (decide (uTo Xe7.kind)),.bool (decide (uIt Xe7.kind)),.func (.func (doesF Xe7.kind)) #[] #[]]) rfl rfl (by simp [Value.oneCell']) (by simp) ?_;clear F M a;intro w a M F
        change Mem w0 G5 (.blk b20 [.string (str (nameK Xe7.kind)),.bool (decide (uAt Xe7.kind)),.bool (decide (uCo Xe7.kind)),.bool (decide (uTo Xe7.kind)),.bool (decide (uIt Xe7.kind)),.func (.func (doesF Xe7.kind)) #[] #[]] 138::_::.blk b8 [.int .u8 (((Xe7.kind:Nat):Int)),.int .i64 (Xe7.at_),.int .i64 (Xe7.count),.int .i64 (Xe7.to),.slice (nae7) (Xe7.items.length) (nce7)] 65::_::_::L) _ at M
        revert a
        refine e_nil<|eK (C':=Keep G5 [.blk b8 [.int .u8 (((Xe7.kind:Nat):Int)),.int .i64 (Xe7.at_),.int .i64 (Xe7.count),.int .i64 (Xe7.to),.slice (nae7) (Xe7.items.length) (nce7)] 65]) (M.keep (Gle.refl _) (by simp)) (fun w h=>h.mono (Gle.refl _) (by simp))<|fun a F=>pt_act ?_ rfl pt_no
        revert a
        refine s_st tok3 M 1 rfl rfl rfl rfl rfl rfl<|?_;clear M;intro w M
        refine e_nil<|eK (C':=Keep G5 [.blk b8 [.int .u8 (((Xe7.kind:Nat):Int)),.int .i64 (Xe7.at_),.int .i64 (Xe7.count),.int .i64 (Xe7.to),.slice (nae7) (Xe7.items.length) (nce7)] 65]) (M.keep (Gle.refl _) (by simp)) (fun w h=>h.mono (Gle.refl _) (by simp))<|t_fin<|?_
        have M:=M.perm (List.Perm.swap _ _ _)
        intro a F
        exact ⟨b20,b18,F.to ⟨rfl,rfl,rfl,rfl,rfl,rfl,rfl,rfl,trivial⟩,M⟩
       exact pt_no
      refine pt_act ?_ rfl ?_
      ·skip
       revert a
       refine s_al M tok138 rfl rfl<|?_;clear M;intro b22 w M
       refine e_nil<|eK (C':=Keep G5 [.blk b8 [.int .u8 (((Xe7.kind:Nat):Int)),.int .i64 (Xe7.at_),.int .i64 (Xe7.count),.int .i64 (Xe7.to),.slice (nae7) (Xe7.items.length) (nce7)] 65]) (M.keep (Gle.refl _) (by simp)) (fun w h=>h.mono (Gle.refl _) (by simp))<|fun a F=>pt_act ?_ rfl ?_
       ·skip
        revert a
        refine s_cS ent75 rfl rfl (kinds_spec M)<|?_;clear M;rintro _ w M rfl
        refine e_nil<|eK (C':=Keep G5 [.blk b8 [.int .u8 (((Xe7.kind:Nat):Int)),.int .i64 (Xe7.at_),.int .i64 (Xe7.count),.int .i64 (Xe7.to),.slice (nae7) (Xe7.items.length) (nce7)] 65]) (M.keep (Gle.refl _) (by simp)) (fun w h=>h.mono (Gle.refl _) (by simp))<|t_r (fun a F w M=>run_idxArrA (j:=Xe7.kind) tok139.k tok138 rfl (F.ev rfl) (F.ev rfl) rfl (by omega) (us:=[.string (str (nameK Xe7.kind)),.bool (decide (uAt Xe7.kind)),.bool (decide (uCo Xe7.kind)),.bool (decide (uTo Xe7.kind)),.bool (decide (uIt Xe7.kind)),.func (.func (doesF Xe7.kind)) #[] #[]]) (kinds_at (by omega))) rfl<|fun a F=>pt_act ?_ rfl pt_no
        revert a
        refine s_al M tok3 rfl rfl<|?_;clear M;intro b24 w M
        refine e_nil<|eK (C':=Keep G5 [.blk b8 [.int .u8 (((Xe7.kind:Nat):Int)),.int .i64 (Xe7.at_),.int .i64 (Xe7.count),.int .i64 (Xe7.to),.slice (nae7) (Xe7.items.length) (nce7)] 65]) (M.keep (Gle.refl _) (by simp)) (fun w h=>h.mono (Gle.refl _) (by simp))<|fun a F=>pt_act ?_ rfl pt_no
        refine rl_storeA F M tok138 (k:=1) rfl rfl rfl (us:=[.string (str (nameK Xe7.kind)),.bool (decide (uAt Xe7.kind)),.bool (decide (uCo Xe7.kind)),.bool (decide (uTo Xe7.kind)),.bool (decide (uIt Xe7.kind)),.func (.func (doesF Xe7.kind)) #[] #[]]) rfl rfl (by simp [Value.oneCell']) (by simp) ?_;clear F M a;intro w a M F
        change Mem w0 G5 (_::.blk b22 [.string (str (nameK Xe7.kind)),.bool (decide (uAt Xe7.kind)),.bool (decide (uCo Xe7.kind)),.bool (decide (uTo Xe7.kind)),.bool (decide (uIt Xe7.kind)),.func (.func (doesF Xe7.kind)) #[] #[]] 138::.blk b8 [.int .u8 (((Xe7.kind:Nat):Int)),.int .i64 (Xe7.at_),.int .i64 (Xe7.count),.int .i64 (Xe7.to),.slice (nae7) (Xe7.items.length) (nce7)] 65::_::_::L) _ at M
        revert a
        refine e_nil<|eK (C':=Keep G5 [.blk b8 [.int .u8 (((Xe7.kind:Nat):Int)),.int .i64 (Xe7.at_),.int .i64 (Xe7.count),.int .i64 (Xe7.to),.slice (nae7) (Xe7.items.length) (nce7)] 65]) (M.keep (Gle.refl _) (by simp)) (fun w h=>h.mono (Gle.refl _) (by simp))<|fun a F=>pt_act ?_ rfl pt_no
        revert a
        refine s_st tok3 M 0 rfl rfl rfl rfl rfl rfl<|?_;clear M;intro w M
        refine e_nil<|eK (C':=Keep G5 [.blk b8 [.int .u8 (((Xe7.kind:Nat):Int)),.int .i64 (Xe7.at_),.int .i64 (Xe7.count),.int .i64 (Xe7.to),.slice (nae7) (Xe7.items.length) (nce7)] 65]) (M.keep (Gle.refl _) (by simp)) (fun w h=>h.mono (Gle.refl _) (by simp))<|t_fin<|fun a F=>?_
        exact ⟨b22,b24,F.to ⟨rfl,rfl,rfl,rfl,rfl,rfl,rfl,rfl,trivial⟩,M⟩
       refine pt_act ?_ rfl ?_
       ·skip
        revert a
        refine s_al M tok3 rfl rfl<|?_;clear M;intro b26 w M
        refine e_nil<|eK (C':=Keep G5 [.blk b8 [.int .u8 (((Xe7.kind:Nat):Int)),.int .i64 (Xe7.at_),.int .i64 (Xe7.count),.int .i64 (Xe7.to),.slice (nae7) (Xe7.items.length) (nce7)] 65]) (M.keep (Gle.refl _) (by simp)) (fun w h=>h.mono (Gle.refl _) (by simp))<|fun a F=>pt_act ?_ rfl pt_no
        revert a
        refine s_cS ent75 rfl rfl (kinds_spec M)<|?_;clear M;rintro _ w M rfl
        refine e_nil<|eK (C':=Keep G5 [.blk b8 [.int .u8 (((Xe7.kind:Nat):Int)),.int .i64 (Xe7.at_),.int .i64 (Xe7.count),.int .i64 (Xe7.to),.slice (nae7) (Xe7.items.length) (nce7)] 65]) (M.keep (Gle.refl _) (by simp)) (fun w h=>h.mono (Gle.refl _) (by simp))<|t_r (fun a F w M=>run_idxArrA (j:=Xe7.kind) tok139.k tok138 rfl (F.ev rfl) (F.ev rfl) rfl (by omega) (us:=[.string (str (nameK Xe7.kind)),.bool (decide (uAt Xe7.kind)),.bool (decide (uCo Xe7.kind)),.bool (decide (uTo Xe7.kind)),.bool (decide (uIt Xe7.kind)),.func (.func (doesF Xe7.kind)) #[] #[]]) (kinds_at (by omega))) rfl<|fun a F=>pt_act ?_ rfl pt_no
        refine rl_storeA F M tok138 (k:=1) rfl rfl rfl (us:=[.string (str (nameK Xe7.kind)),.bool (decide (uAt Xe7.kind)),.bool (decide (uCo Xe7.kind)),.bool (decide (uTo Xe7.kind)),.bool (decide (uIt Xe7.kind)),.func (.func (doesF Xe7.kind)) #[] #[]]) rfl rfl (by simp [Value.oneCell']) (by simp) ?_;clear F M a;intro w a M F
        change Mem w0 G5 (_::.blk b22 [.string (str (nameK Xe7.kind)),.bool (decide (uAt Xe7.kind)),.bool (decide (uCo Xe7.kind)),.bool (decide (uTo Xe7.kind)),.bool (decide (uIt Xe7.kind)),.func (.func (doesF Xe7.kind)) #[] #[]] 138::.blk b8 [.int .u8 (((Xe7.kind:Nat):Int)),.int .i64 (Xe7.at_),.int .i64 (Xe7.count),.int .i64 (Xe7.to),.slice (nae7) (Xe7.items.length) (nce7)] 65::_::_::L) _ at M
        revert a
        refine e_nil<|eK (C':=Keep G5 [.blk b8 [.int .u8 (((Xe7.kind:Nat):Int)),.int .i64 (Xe7.at_),.int .i64 (Xe7.count),.int .i64 (Xe7.to),.slice (nae7) (Xe7.items.length) (nce7)] 65]) (M.keep (Gle.refl _) (by simp)) (fun w h=>h.mono (Gle.refl _) (by simp))<|fun a F=>pt_act ?_ rfl pt_no
        revert a
        refine s_st tok3 M 0 rfl rfl rfl rfl rfl rfl<|?_;clear M;intro w M
        refine e_nil<|eK (C':=Keep G5 [.blk b8 [.int .u8 (((Xe7.kind:Nat):Int)),.int .i64 (Xe7.at_),.int .i64 (Xe7.count),.int .i64 (Xe7.to),.slice (nae7) (Xe7.items.length) (nce7)] 65]) (M.keep (Gle.refl _) (by simp)) (fun w h=>h.mono (Gle.refl _) (by simp))<|t_fin<|fun a F=>?_
        exact ⟨b22,b26,F.to ⟨rfl,rfl,rfl,rfl,rfl,rfl,rfl,rfl,trivial⟩,M⟩
       exact pt_no
      refine pt_act ?_ rfl ?_
      ·skip
       revert a
       refine s_al M tok3 rfl rfl<|?_;clear M;intro b28 w M
       refine e_nil<|eK (C':=Keep G5 [.blk b8 [.int .u8 (((Xe7.kind:Nat):Int)),.int .i64 (Xe7.at_),.int .i64 (Xe7.count),.int .i64 (Xe7.to),.slice (nae7) (Xe7.items.length) (nce7)] 65]) (M.keep (Gle.refl _) (by simp)) (fun w h=>h.mono (Gle.refl _) (by simp))<|fun a F=>pt_act ?_ rfl ?_
       ·skip
        revert a
        refine s_cS ent75 rfl rfl (kinds_spec M)<|?_;clear M;rintro _ w M rfl
        refine e_nil<|eK (C':=Keep G5 [.blk b8 [.int .u8 (((Xe7.kind:Nat):Int)),.int .i64 (Xe7.at_),.int .i64 (Xe7.count),.int .i64 (Xe7.to),.slice (nae7) (Xe7.items.length) (nce7)] 65]) (M.keep (Gle.refl _) (by simp)) (fun w h=>h.mono (Gle.refl _) (by simp))<|t_r (fun a F w M=>run_idxArrA (j:=Xe7.kind) tok139.k tok138 rfl (F.ev rfl) (F.ev rfl) rfl (by omega) (us:=[.string (str (nameK Xe7.kind)),.bool (decide (uAt Xe7.kind)),.bool (decide (uCo Xe7.kind)),.bool (decide (uTo Xe7.kind)),.bool (decide (uIt Xe7.kind)),.func (.func (doesF Xe7.kind)) #[] #[]]) (kinds_at (by omega))) rfl<|fun a F=>pt_act ?_ rfl pt_no
        revert a
        refine s_al M tok138 rfl rfl<|?_;clear M;intro b30 w M
        refine e_nil<|eK (C':=Keep G5 [.blk b8 [.int .u8 (((Xe7.kind:Nat):Int)),.int .i64 (Xe7.at_),.int .i64 (Xe7.count),.int .i64 (Xe7.to),.slice (nae7) (Xe7.items.length) (nce7)] 65]) (M.keep (Gle.refl _) (by simp)) (fun w h=>h.mono (Gle.refl _) (by simp))<|fun a F=>pt_act ?_ rfl pt_no
        refine rl_storeA F M tok138 (k:=0) rfl rfl rfl (us:=[.string (str (nameK Xe7.kind)),.bool (decide (uAt Xe7.kind)),.bool (decide (uCo Xe7.kind)),.bool (decide (uTo Xe7.kind)),.bool (decide (uIt Xe7.kind)),.func (.func (doesF Xe7.kind)) #[] #[]]) rfl rfl (by simp [Value.oneCell']) (by simp) ?_;clear F M a;intro w a M F
        change Mem w0 G5 (.blk b30 [.string (str (nameK Xe7.kind)),.bool (decide (uAt Xe7.kind)),.bool (decide (uCo Xe7.kind)),.bool (decide (uTo Xe7.kind)),.bool (decide (uIt Xe7.kind)),.func (.func (doesF Xe7.kind)) #[] #[]] 138::_::.blk b8 [.int .u8 (((Xe7.kind:Nat):Int)),.int .i64 (Xe7.at_),.int .i64 (Xe7.count),.int .i64 (Xe7.to),.slice (nae7) (Xe7.items.length) (nce7)] 65::_::_::L) _ at M
        revert a
        refine e_nil<|eK (C':=Keep G5 [.blk b8 [.int .u8 (((Xe7.kind:Nat):Int)),.int .i64 (Xe7.at_),.int .i64 (Xe7.count),.int .i64 (Xe7.to),.slice (nae7) (Xe7.items.length) (nce7)] 65]) (M.keep (Gle.refl _) (by simp)) (fun w h=>h.mono (Gle.refl _) (by simp))<|fun a F=>pt_act ?_ rfl pt_no
        revert a
        refine s_st tok3 M 1 rfl rfl rfl rfl rfl rfl<|?_;clear M;intro w M
        refine e_nil<|eK (C':=Keep G5 [.blk b8 [.int .u8 (((Xe7.kind:Nat):Int)),.int .i64 (Xe7.at_),.int .i64 (Xe7.count),.int .i64 (Xe7.to),.slice (nae7) (Xe7.items.length) (nce7)] 65]) (M.keep (Gle.refl _) (by simp)) (fun w h=>h.mono (Gle.refl _) (by simp))<|t_fin<|?_
        have M:=M.perm (List.Perm.swap _ _ _)
        intro a F
        exact ⟨b30,b28,F.to ⟨rfl,rfl,rfl,rfl,rfl,rfl,rfl,rfl,trivial⟩,M⟩
       refine pt_act ?_ rfl ?_
       ·skip
        revert a
        refine s_al M tok138 rfl rfl<|?_;clear M;intro b32 w M
        refine e_nil<|eK (C':=Keep G5 [.blk b8 [.int .u8 (((Xe7.kind:Nat):Int)),.int .i64 (Xe7.at_),.int .i64 (Xe7.count),.int .i64 (Xe7.to),.slice (nae7) (Xe7.items.length) (nce7)] 65]) (M.keep (Gle.refl _) (by simp)) (fun w h=>h.mono (Gle.refl _) (by simp))<|fun a F=>pt_act ?_ rfl pt_no
        revert a
        refine s_cS ent75 rfl rfl (kinds_spec M)<|?_;clear M;rintro _ w M rfl
        refine e_nil<|eK (C':=Keep G5 [.blk b8 [.int .u8 (((Xe7.kind:Nat):Int)),.int .i64 (Xe7.at_),.int .i64 (Xe7.count),.int .i64 (Xe7.to),.slice (nae7) (Xe7.items.length) (nce7)] 65]) (M.keep (Gle.refl _) (by simp)) (fun w h=>h.mono (Gle.refl _) (by simp))<|t_r (fun a F w M=>run_idxArrA (j:=Xe7.kind) tok139.k tok138 rfl (F.ev rfl) (F.ev rfl) rfl (by omega) (us:=[.string (str (nameK Xe7.kind)),.bool (decide (uAt Xe7.kind)),.bool (decide (uCo Xe7.kind)),.bool (decide (uTo Xe7.kind)),.bool (decide (uIt Xe7.kind)),.func (.func (doesF Xe7.kind)) #[] #[]]) (kinds_at (by omega))) rfl<|fun a F=>pt_act ?_ rfl pt_no
        refine rl_storeA F M tok138 (k:=0) rfl rfl rfl (us:=[.string (str (nameK Xe7.kind)),.bool (decide (uAt Xe7.kind)),.bool (decide (uCo Xe7.kind)),.bool (decide (uTo Xe7.kind)),.bool (decide (uIt Xe7.kind)),.func (.func (doesF Xe7.kind)) #[] #[]]) rfl rfl (by simp [Value.oneCell']) (by simp) ?_;clear F M a;intro w a M F
        change Mem w0 G5 (.blk b32 [.string (str (nameK Xe7.kind)),.bool (decide (uAt Xe7.kind)),.bool (decide (uCo Xe7.kind)),.bool (decide (uTo Xe7.kind)),.bool (decide (uIt Xe7.kind)),.func (.func (doesF Xe7.kind)) #[] #[]] 138::_::.blk b8 [.int .u8 (((Xe7.kind:Nat):Int)),.int .i64 (Xe7.at_),.int .i64 (Xe7.count),.int .i64 (Xe7.to),.slice (nae7) (Xe7.items.length) (nce7)] 65::_::_::L) _ at M
        revert a
        refine e_nil<|eK (C':=Keep G5 [.blk b8 [.int .u8 (((Xe7.kind:Nat):Int)),.int .i64 (Xe7.at_),.int .i64 (Xe7.count),.int .i64 (Xe7.to),.slice (nae7) (Xe7.items.length) (nce7)] 65]) (M.keep (Gle.refl _) (by simp)) (fun w h=>h.mono (Gle.refl _) (by simp))<|fun a F=>pt_act ?_ rfl pt_no
        revert a
        refine s_st tok3 M 1 rfl rfl rfl rfl rfl rfl<|?_;clear M;intro w M
        refine e_nil<|eK (C':=Keep G5 [.blk b8 [.int .u8 (((Xe7.kind:Nat):Int)),.int .i64 (Xe7.at_),.int .i64 (Xe7.count),.int .i64 (Xe7.to),.slice (nae7) (Xe7.items.length) (nce7)] 65]) (M.keep (Gle.refl _) (by simp)) (fun w h=>h.mono (Gle.refl _) (by simp))<|t_fin<|?_
        have M:=M.perm (List.Perm.swap _ _ _)
        intro a F
        exact ⟨b32,b28,F.to ⟨rfl,rfl,rfl,rfl,rfl,rfl,rfl,rfl,trivial⟩,M⟩
       exact pt_no
      exact pt_no
     ·clear F M
      rintro a w ⟨b10k,b11k,F,M⟩
      revert a
      refine e_tn<|e_seq<|e_reg<|s_fa tok138.k rfl rfl<|s_ld tok9 M 1 rfl rfl rfl rfl<|?_
      replace M:=M.perm (perm_front _ 4 _ rfl)
      replace M:=M.perm (perm_front _ 4 _ rfl)
      change Mem w0 G5 (_::_::_::_::.blk b8 [.int .u8 (((Xe7.kind:Nat):Int)),.int .i64 (Xe7.at_),.int .i64 (Xe7.count),.int .i64 (Xe7.to),.slice (nae7) (Xe7.items.length) (nce7)] 65::L) _ at M
      refine s_cL ent41 rfl rfl (wstr_spec (s:=(nameK Xe7.kind)) hpm M hnm hnilm (by (first | omega | (simp only [List.length_append,List.length_cons,List.length_nil];omega))))<|?_;clear M;rintro _ _ w M ⟨rfl,au34,nu34,cu34,rfl,hnu34,hnilu34⟩
      refine e_nil<|e_tn<|e_seq<|e_seq<|e_reg<|e_run (fun a F=>run_loadA tok138 rfl (F.ev rfl) (cs:=[.string (str (nameK Xe7.kind)),.bool (decide (uAt Xe7.kind)),.bool (decide (uCo Xe7.kind)),.bool (decide (uTo Xe7.kind)),.bool (decide (uIt Xe7.kind)),.func (.func (doesF Xe7.kind)) #[] #[]]) rfl (M.cellsL (k:=3) rfl rfl)) rfl<|s_cR ent82 rfl rfl (nums_spec (k:=Xe7.kind) (b:=b8) (b2:=b11k) M)<|?_;clear M;rintro _ Gq35 w hGq35 M ⟨aq35,cq35,rfl,Sq35⟩
      replace HG:=HG.mono hGq35
      replace SN:=SN.mono mono_rdNote hGq35
      replace Ae7:=Ae7.mono hGq35
      replace SIe7:=SIe7.mono mono_rdItem hGq35
      refine s_ls tok147.k rfl<|s_mv rfl<|e_nil<|e_tn<|e_block<|?_
      have hz2:(notesT (ns.take i))++(nameK Xe7.kind)=notesT (ns.take i)++nameK Xe7.kind++wordsN ((fm (nuK Xe7 ((Xe7.items.length:Nat):Int))).take 0):=by simp [wordsN]
      intro a F
      rw [hz2] at M hnu34 hnilu34
      have hfe:=fld_len (x:=Xe7) (b:=b8) (b2:=b11k) (sz:=((Xe7.items.length:Nat):Int))
      refine w_loopN (fun m a' w'=>∃ (j:Nat),∃ (ak:Option Addr),∃ (nk:Nat),∃ (ck:Nat),∃ (pk:Value),m=(fm (upsK Xe7.kind b8 b11k)).length - j∧Fits 68 a' [(4,.pointer (some ⟨b3,0,none⟩)),(6,.pointer (some ⟨b8,0,none⟩)),(8,.string (str (textR Xe7.items))),(10,.pointer (some ⟨b10k,0,none⟩)),(11,.pointer (some ⟨b11k,0,none⟩)),(17,.slice (an) (ns.length) (cn)),(18,.int .i64 (((ns.length:Nat):Int))),(19,.int .i64 (((i:Nat):Int))),(48,.slice (aq35) ((fm (upsK Xe7.kind b8 b11k)).length) (cq35)),(49,.int .i64 ((((fm (upsK Xe7.kind b8 b11k)).length:Nat):Int))),(50,.int .i64 (((j:Nat):Int)))]∧Mem w0 Gq35 (.blk b3 [pk,.slice (ak) (nk) (ck)] 101::.row (.slice (ak) (nk) (ck)) (nk) (bc (notesT (ns.take i)++nameK Xe7.kind++wordsN ((fm (nuK Xe7 ((Xe7.items.length:Nat):Int))).take j))) 5 1::.blk b11k [.int .i64 (((Xe7.items.length:Nat):Int))] 3::.blk b10k [.string (str (nameK Xe7.kind)),.bool (decide (uAt Xe7.kind)),.bool (decide (uCo Xe7.kind)),.bool (decide (uTo Xe7.kind)),.bool (decide (uIt Xe7.kind)),.func (.func (doesF Xe7.kind)) #[] #[]] 138::.blk b8 [.int .u8 (((Xe7.kind:Nat):Int)),.int .i64 (Xe7.at_),.int .i64 (Xe7.count),.int .i64 (Xe7.to),.slice (nae7) (Xe7.items.length) (nce7)] 65::L) w'∧(j≤(fm (upsK Xe7.kind b8 b11k)).length)∧(pk=.pointer none∨pk=.pointer (some ⟨b3,0,none⟩))∧(nk=(notesT (ns.take i)++nameK Xe7.kind++wordsN ((fm (nuK Xe7 ((Xe7.items.length:Nat):Int))).take j)).length)∧((notesT (ns.take i)++nameK Xe7.kind++wordsN ((fm (nuK Xe7 ((Xe7.items.length:Nat):Int))).take j))=[]→ak=none)) _ ⟨0,(au34),(nu34),(cu34),(.pointer (some ⟨b3,0,none⟩)),rfl,F.to ⟨rfl,rfl,rfl,rfl,rfl,rfl,rfl,rfl,rfl,rfl,rfl,trivial⟩,M,Nat.zero_le _,(Or.inr rfl),hnu34,hnilu34⟩ ?_
      clear F M
      rintro m a w ⟨j,ak,nk,ck,pk,rfl,F,M,hj,hpk,hnk,hnilk⟩
      revert a
      refine e_seq<|e_reg<|s_lt rfl rfl<|e_nil<|e_tn<|e_seq<|e_cond rfl ?_ ?_
      ·intro hc
       have h36b:=hc;clear hc
       have h36:((j:Nat):Int) < (((fm (upsK Xe7.kind b8 b11k)).length:Nat):Int):=of_decide_eq_true h36b
       refine e_skip<|e_tn<|e_seq<|e_block<|e_seq<|e_reg<|?_
       obtain ⟨Xe37,hXe37⟩:=get_of_lt (xs:=(fm (upsK Xe7.kind b8 b11k))) (i:=j) (by omega)
       obtain ⟨be37,oe37,_,Ie37,_,Ae37,rfl⟩:=Sq35.at hXe37
       refine s_ix tok147.k tok150 Ie37 rfl rfl<|s_la tok150 M Ae37 0 rfl rfl (by omega) rfl<|s_as rfl<|e_nil<|e_tn<|?_
       obtain ⟨z,hz,hpz⟩:=fld_get (sz:=((Xe7.items.length:Nat):Int)) hXe37
       have hzi:=hnu z (List.mem_of_getElem? hz)
       have hzl:=itoa_len hzi
       have hwl:=words_len (zs:=(fm (nuK Xe7 ((Xe7.items.length:Nat):Int))).take j) fun y hy=>hnu y (List.mem_of_mem_take hy)
       have hwt:((fm (nuK Xe7 ((Xe7.items.length:Nat):Int))).take j).length≤(fm (nuK Xe7 ((Xe7.items.length:Nat):Int))).length:=List.length_take_le' _ _
       have hpc:w.cell? ⟨Xe37.1,Xe37.2,none⟩=some (.int .i64 z):=by rcases hpz with ⟨h8_,rfl⟩ | ⟨h8_,rfl⟩ | ⟨h8_,rfl⟩ | ⟨h8_,rfl⟩ <;> rw [h8_];exact M.cellL (k:=4) rfl rfl;exact M.cellL (k:=4) rfl rfl;exact M.cellL (k:=4) rfl rfl;exact M.cellL (k:=2) rfl rfl
       refine e_reg<|s_mv rfl<|s_nc rfl<|e_run (fun a F=>run_load1 (agf tok3 rfl) (F.ev rfl) hpc) rfl<|s_cS ent83 rfl rfl (itoaZ_spec (z:=z) M HG hzi)<|?_;clear M;rintro _ w M rfl
       refine e_run (fun a F=>run_strAdd (F.ev rfl) (F.ev rfl) (by (first | omega | (simp only [List.length_append,List.length_cons,List.length_nil];omega)))) rfl<|?_
       replace M:=M.perm (perm_front _ 1 _ rfl)
       replace M:=M.perm (perm_front _ 1 _ rfl)
       change Mem w0 Gq35 (_::_::_::_::.blk b8 [.int .u8 (((Xe7.kind:Nat):Int)),.int .i64 (Xe7.at_),.int .i64 (Xe7.count),.int .i64 (Xe7.to),.slice (nae7) (Xe7.items.length) (nce7)] 65::L) _ at M
       refine s_cL ent41 rfl rfl (wstr_spec (s:=(([32]:List UInt8)++(Lib.itoa z))) hpk M hnk hnilk (by (first | omega | (simp only [List.length_append,List.length_cons,List.length_nil];omega))))<|?_;clear M;rintro _ _ w M ⟨rfl,au38,nu38,cu38,rfl,hnu38,hnilu38⟩
       refine e_nil<|e_bn<|e_tn<|e_reg<|s_add rfl rfl<|s_mv rfl<|e_nil<|e_tn<|?_
       have hsn:(notesT (ns.take i)++nameK Xe7.kind++wordsN ((fm (nuK Xe7 ((Xe7.items.length:Nat):Int))).take j))++(([32]:List UInt8)++(Lib.itoa z))=notesT (ns.take i)++nameK Xe7.kind++wordsN ((fm (nuK Xe7 ((Xe7.items.length:Nat):Int))).take (j+1)):=words_step hz
       intro a F
       rw [hsn] at M hnu38 hnilu38
       exact ⟨_,by omega,j+1,(au38),(nu38),(cu38),(.pointer (some ⟨b3,0,none⟩)),rfl,F.to ⟨rfl,rfl,rfl,rfl,rfl,rfl,rfl,rfl,rfl,rfl,rfl,trivial⟩,M,by omega,(Or.inr rfl),hnu38,hnilu38⟩
      ·intro hc
       have h39b:=hc;clear hc
       have h39:¬ (((j:Nat):Int) < (((fm (upsK Xe7.kind b8 b11k)).length:Nat):Int)):=of_decide_eq_false h39b
       refine e_exit<|e_te<|e_te<|e_bh<|e_tn<|?_
       have hfl:(fm (upsK Xe7.kind b8 b11k)).length≤j:=by omega
       have hwl:=words_len (zs:=(fm (nuK Xe7 ((Xe7.items.length:Nat):Int))).take j) fun y hy=>hnu y (List.mem_of_mem_take hy)
       have hwt:((fm (nuK Xe7 ((Xe7.items.length:Nat):Int))).take j).length≤(fm (nuK Xe7 ((Xe7.items.length:Nat):Int))).length:=List.length_take_le' _ _
       refine e_reg<|s_mv rfl<|e_run (fun a F=>run_strAdd (F.ev rfl) (F.ev rfl) (by (first | omega | (simp only [List.length_append,List.length_cons,List.length_nil];omega)))) rfl<|?_
       replace M:=M.perm (perm_front _ 1 _ rfl)
       replace M:=M.perm (perm_front _ 1 _ rfl)
       change Mem w0 Gq35 (_::_::_::_::.blk b8 [.int .u8 (((Xe7.kind:Nat):Int)),.int .i64 (Xe7.at_),.int .i64 (Xe7.count),.int .i64 (Xe7.to),.slice (nae7) (Xe7.items.length) (nce7)] 65::L) _ at M
       refine s_cL ent41 rfl rfl (wstr_spec (s:=(([10]:List UInt8)++(textR Xe7.items))) hpk M hnk hnilk (by (first | omega | (simp only [List.length_append,List.length_cons,List.length_nil];omega))))<|?_;clear M;rintro _ _ w M ⟨rfl,au40,nu40,cu40,rfl,hnu40,hnilu40⟩
       refine e_nil<|e_bn<|e_tn<|e_reg<|s_add rfl rfl<|s_mv rfl<|e_nil<|e_tn<|?_
       have hsn:(notesT (ns.take i)++nameK Xe7.kind++wordsN ((fm (nuK Xe7 ((Xe7.items.length:Nat):Int))).take j))++(([10]:List UInt8)++(textR Xe7.items))=notesT (ns.take (i+1)):=note_fin hXe7 rfl (by have h9_:=fld_len (x:=Xe7) (b:=0) (b2:=0) (sz:=((Xe7.items.length:Nat):Int));have h8_:=hfl;omega) ht0.2
       intro a F
       rw [hsn] at M hnu40 hnilu40
       exact ⟨_,by omega,i+1,(au40),(nu40),(cu40),(.pointer (some ⟨b3,0,none⟩)),rfl,Gq35,(hG5.trans hGq35),F.to ⟨rfl,rfl,rfl,rfl,trivial⟩,(M.weaken (.cons_cons _ (.cons_cons _ (.cons _ (.cons _ (.cons _ (List.Sublist.refl _))))))),by omega,by rw [firstE_step hS,err_at hXe7,err_t hne];omega,by rw [← hsn];simp only [List.length_append,List.length_cons,List.length_nil];omega,(Or.inr rfl),hnu40,hnilu40⟩
  ·intro hc
   have h41b:=hc;clear hc
   have h41:¬ (((i:Nat):Int) < ((ns.length:Nat):Int)):=of_decide_eq_false h41b
   refine e_exit<|e_te<|e_te<|e_bh<|e_tn<|e_seq<|e_seq<|e_reg<|?_
   replace M:=M.perm (perm_front _ 1 _ rfl)
   replace M:=M.perm (perm_front _ 1 _ rfl)
   change Mem w0 G5 (_::_::L) _ at M
   refine s_cS ent84 rfl rfl (blen_spec M hnm)<|?_;clear M;rintro _ w M rfl
   refine s_gt rfl rfl<|e_nil<|e_tn<|e_cond rfl ?_ ?_
   ·intro hc
    have h42b:=hc;clear hc
    have h42:1048576 < (((notesT (ns.take i)).length:Nat):Int):=of_decide_eq_true h42b
    refine e_seq<|e_reg<|s_as rfl<|s_as rfl<|e_nil<|e_tn<|e_ret<|e_tr<|e_fin2 rfl rfl rfl<|?_
    exact ⟨_,hG5,M.weaken (.cons _ (.cons _ (List.Sublist.refl _))),by rw [(nt_big (by omega) hS (by omega) (by omega)).1,(nt_big (by omega) hS (by omega) (by omega)).2];try rfl⟩
   ·intro hc
    have h43b:=hc;clear hc
    have h43:¬ (1048576 < (((notesT (ns.take i)).length:Nat):Int)):=of_decide_eq_false h43b
    refine e_skip<|e_tn<|e_seq<|e_reg<|?_
    replace M:=M.perm (perm_front _ 1 _ rfl)
    replace M:=M.perm (perm_front _ 1 _ rfl)
    change Mem w0 G5 (_::_::L) _ at M
    refine s_cS ent43 rfl rfl (bstr_spec M hnm hnilm)<|?_;clear M;rintro _ w M rfl
    refine s_as rfl<|s_as rfl<|e_nil<|e_tn<|e_ret<|e_fin2 rfl rfl rfl<|?_
    exact ⟨_,hG5,M,by rw [(nt_0 (by omega) hS (by omega) (by omega)).1,(nt_0 (by omega) hS (by omega) (by omega)).2];try rfl⟩
open Go Go.Y Go.Proofs
set_option linter.unusedSimpArgs false
set_option linter.unusedVariables false
open Go Go.Y Go.Proofs
set_option linter.unusedSimpArgs false
set_option linter.unusedVariables false
open Go Go.Y Go.RowKit
set_option linter.unusedSimpArgs false
set_option linter.unusedVariables false
section
variable {P:Program} {w:World} {ρ:Operand→Value} {dd:Option Tmp} {g:Option (Nat × Bool)} {t:TypeId} {p:String} {af:Array Edge}
theorem run_sliceArr0 {ta et:TypeId} {i:TI} {x:Operand} {n b:Nat} (ha:tk P ta=.array n et) (ht:TOK P et i) (hx:ρ x=.pointer (some ⟨b,0,none⟩)) :
  (execOp ρ ⟨dd,.slice ta x none none none,t,p,af,g⟩).run P w=.ok (.value (.slice (some ⟨b,0,none⟩) n n)) w:=by
 simp [execOp,Instr.sliceAt,run_under (under_array ha),hx,Instr.sureAddr,Instr.sliceBounds,Instr.sliceBound,ht.sizeOf,add_plain]
theorem run_idxPtrA {ta et:TypeId} {i:TI} {x y:Operand} {m b o:Nat} {k:IntKind} {z:Int} {j:Nat} (ha:tk P ta=.array m et) (ht:TOK P et i) (hx:ρ x=.pointer (some ⟨b,o,none⟩)) (hy:ρ y=.int k z) (hz:z=(j:Int)) (hj:j < m) :
  (execOp ρ ⟨dd,.indexAddr ta x y,t,p,af,g⟩).run P w=.ok (.value (.pointer (some ⟨b,o+j * i.size,none⟩))) w:=by
 subst hz
 have c1:(0:Int)≤(j:Int):=by omega
 have c2:(j:Int) < (m:Int):=by omega
 simp [execOp,Instr.indexAt,hx,hy,asIntOf,run_under (under_array ha),hj,ht.sizeOf,add_plain,Instr.sureAddr]
end
def kfn (k:Nat):Value:=if k=0 then .nilFunc else .func (.func (doesF k)) #[] #[]
theorem kinds_drop {k:Nat} (h:k < 6):(KINDS.drop (0+k * 6)).take 6=[.string (str (nameK k)),.bool (decide (uAt k)),.bool (decide (uCo k)),.bool (decide (uTo k)),.bool (decide (uIt k)),kfn k]:=by
 rcases (show k=0∨k=1∨k=2∨k=3∨k=4∨k=5 by omega) with rfl | rfl | rfl | rfl | rfl | rfl <;> rfl
/-! ### Splitting at spaces -/
def splitW (s:List UInt8):List (List UInt8):=Lib.split s [32]
def wordsB (r:List (List UInt8)):List UInt8:=r.flatMap fun s=>32::s
theorem splitKW_len:∀ (k:Nat) (s:List UInt8) (p:List UInt8),p∈Lib.splitK [32] 0 k s→p.length≤s.length
 | 0,s,p,h=>by simp only [Lib.splitK,List.mem_singleton] at h;subst h;exact Nat.le_refl _
 | k+1,s,p,h=>by
  unfold Lib.splitK at h
  split at h
  ·simp only [List.mem_singleton] at h;subst h;exact Nat.le_refl _
  ·rcases List.mem_cons.1 h with rfl | h
   ·simp only [List.length_take];omega
   ·have:=splitKW_len k _ p h;simp only [List.length_drop] at this;omega
theorem splitW_len {s p:List UInt8} (h:p∈splitW s):p.length≤s.length:=splitKW_len _ _ _ h
theorem splitKW_hit {d r:List UInt8} (k:Nat) (h:(32:UInt8) ∉ d):Lib.splitK [32] 0 (k+1) (d++32::r)=d::Lib.splitK [32] 0 k r:=by
 have h1:Lib.index (d++32::r) [32]=((d.length:Nat):Int):=by rw [index_ix,ix_app h,if_pos (by simp)]
 rw [Lib.splitK,h1,if_neg (by rw [beq_iff_eq];omega)]
 congr 1
 ·simp
 ·congr 1;simp
theorem wordsB_cons {s:List UInt8} {r:List (List UInt8)}:wordsB (s::r)=32::(s++wordsB r):=by simp [wordsB]
theorem splitKW_words:∀ (d:List UInt8) (r:List (List UInt8)),(∀ s∈d::r,(32:UInt8) ∉ s)→Lib.splitK [32] 0 r.length (d++wordsB r)=d::r
 | d,[],_=>by simp [wordsB,Lib.splitK]
 | d,y::r,h=>by
  rw [wordsB_cons,List.length_cons,splitKW_hit _ (h d (by simp)),splitKW_words y r (fun s hs=>h s (by simp [hs]))]
theorem count_words:∀ (d:List UInt8) (r:List (List UInt8)),(∀ s∈d::r,(32:UInt8) ∉ s)→(d++wordsB r).count 32=r.length
 | d,[],h=>by simpa [wordsB] using List.count_eq_zero.2 (h d (by simp))
 | d,y::r,h=>by
  rw [wordsB_cons,List.count_append,List.count_cons_self,count_words y r (fun s hs=>h s (by simp [hs])),List.count_eq_zero.2 (h d (by simp)),List.length_cons]
  omega
theorem splitW_words {d:List UInt8} {r:List (List UInt8)} (h:∀ s∈d::r,(32:UInt8) ∉ s):splitW (d++wordsB r)=d::r:=by
 unfold splitW Lib.split
 rw [Lib.count_one,count_words d r h,splitKW_words d r h]
theorem splitKW_back:∀ (k:Nat) (s:List UInt8),∃ d r,Lib.splitK [32] 0 k s=d::r∧s=d++wordsB r
 | 0,s=>⟨s,[],rfl,by simp [wordsB]⟩
 | k+1,s=>by
  unfold Lib.splitK
  by_cases hi:ix 32 s < s.length
  ·have h1:Lib.index s [32]=((ix 32 s:Nat):Int):=by rw [index_ix,if_pos hi]
   rw [h1,if_neg (by rw [beq_iff_eq];omega)]
   obtain ⟨d,r,e1,e2⟩:=splitKW_back k (s.drop (((ix 32 s:Nat):Int).toNat+([32]:List UInt8).length))
   refine ⟨_,_,rfl,?_⟩
   rw [e1,wordsB_cons,← e2]
   have h2:=ix_at 32 s hi
   have h3:s.drop (ix 32 s)=32::s.drop (ix 32 s+1):=by
    rw [List.drop_eq_getElem_cons hi]
    congr 1
    rw [List.getElem?_eq_getElem hi] at h2
    exact Option.some.inj h2
   have h4:s=s.take (ix 32 s)++32::s.drop (ix 32 s+1):=by rw [← h3,List.take_append_drop]
   simpa using h4
  ·have h1:Lib.index s [32] = -1:=by rw [index_ix,if_neg hi]
   rw [h1]
   exact ⟨s,[],by simp,by simp [wordsB]⟩
theorem splitW_back (s:List UInt8):∃ d r,splitW s=d::r∧s=d++wordsB r:=splitKW_back _ s
theorem wordsN_B (zs:List Int):wordsN zs=wordsB (zs.map Lib.itoa):=by unfold wordsN wordsB;rw [List.flatMap_map]
theorem itoa_not {c:UInt8} {z:Int} (h:¬ isDig c) (h2:c≠45):c ∉ Lib.itoa z:=by
 unfold Lib.itoa
 split
 ·intro h3
  rcases List.mem_cons.1 h3 with h3 | h3
  ·exact h2 h3
  ·exact dig_not h h3
 ·exact dig_not h
theorem nameK_not {k:Nat} {c:UInt8} (h:c=10∨c=32):c ∉ nameK k:=by
 unfold nameK
 split <;> rcases h with rfl | rfl <;> decide
theorem words_not10 {zs:List Int}:(10:UInt8) ∉ wordsN zs:=by
 unfold wordsN
 simp only [List.mem_flatMap,not_exists,not_and,List.mem_cons,not_or]
 exact fun z _=>⟨by decide,itoa_not (by decide) (by decide)⟩
theorem head_cut {x:NotD} {sz:Int} {r:List UInt8}:Lib.cut (lineN x sz++r) [10]=(nameK x.kind++wordsN (fm (nuK x sz)),r,true):=by
 have:lineN x sz++r=(nameK x.kind++wordsN (fm (nuK x sz)))++10::r:=by unfold lineN;simp
 rw [this,cut_app]
 intro h
 rcases List.mem_append.1 h with h | h
 ·exact nameK_not (Or.inl rfl) h
 ·exact words_not10 h
theorem head_split {k:Nat} {zs:List Int}:splitW (nameK k++wordsN zs)=nameK k::zs.map Lib.itoa:=by
 rw [wordsN_B,splitW_words]
 intro s hs
 rcases List.mem_cons.1 hs with rfl | hs
 ·exact nameK_not (Or.inr rfl)
 ·obtain ⟨z,_,rfl⟩:=List.mem_map.1 hs
  exact itoa_not (by decide) (by decide)
theorem nameK_inj {j k:Nat} (hj:1≤j∧j≤5) (hk:1≤k∧k≤5) (h:nameK j=nameK k):j=k:=by
 rcases (show j=1∨j=2∨j=3∨j=4∨j=5 by omega) with rfl | rfl | rfl | rfl | rfl <;>
 rcases (show k=1∨k=2∨k=3∨k=4∨k=5 by omega) with rfl | rfl | rfl | rfl | rfl <;> first | rfl | (exact absurd h (by decide))
theorem pu10_dec:∀ (l:List UInt8) (acc:Nat),(∀ c∈l,isDig c)→valA l acc≤18446744073709551615→Lib.parseUint10 acc l=.ok (valA l acc)
 | [],acc,_,_=>rfl
 | c::r,acc,hd,hv=>by
  have hc:48≤c.toNat∧c.toNat≤57:=hd c (by simp)
  simp only [valA] at hv ⊢
  have:=valA_le r (10 * acc+(c.toNat - 48))
  unfold Lib.parseUint10
  rw [if_pos hc,if_neg (by omega),if_neg (by omega),Nat.mul_comm acc 10]
  exact pu10_dec r _ (fun x hx=>hd x (by simp [hx])) hv
theorem mag_dec {u:Nat} (h:u≤18446744073709551615):Lib.parseMag (Lib.decDigits u)=.ok u:=by
 unfold Lib.parseMag
 rw [if_neg (dec_ne u),pu10_dec _ 0 (dec_dig u) (by rw [val_dec];exact h),val_dec]
theorem itoa_back {z:Int} (h:inKind .i64 z):Lib.atoiAll (Lib.itoa z)=.ok z:=by
 obtain ⟨h1,h2⟩:=h
 have h1:-9223372036854775808≤z:=h1
 have h2:z≤9223372036854775807:=h2
 rcases Int.lt_or_le z 0 with h0 | h0
 ·obtain ⟨u,hu⟩:=Int.eq_ofNat_of_zero_le (show 0≤-z by omega)
  have hz:z = -(u:Int):=by omega
  subst hz
  rw [Lib.itoa_neg u (by omega)]
  unfold Lib.atoiAll
  simp only [show (45:UInt8).toNat=45 from rfl,or_true,if_true,mag_dec (show u≤18446744073709551615 by omega),not_true_eq_false,false_and,if_false,true_and]
  rw [if_neg (by omega)]
 ·obtain ⟨u,rfl⟩:=Int.eq_ofNat_of_zero_le h0
  rw [Lib.itoa_nonneg]
  cases hd:Lib.decDigits u with
  | nil=>exact absurd hd (dec_ne u)
  | cons c r =>
   have hc:=dec_dig u c (by rw [hd];simp)
   have hc':48≤c.toNat∧c.toNat≤57:=hc
   unfold Lib.atoiAll
   simp only [show ¬ (c.toNat=43∨c.toNat=45) by omega,if_false,← hd]
   rw [mag_dec (show u≤18446744073709551615 by omega)]
   simp only [show ¬ c.toNat=45 by omega,not_false_eq_true,true_and,false_and,if_false]
   rw [if_neg (by omega)]
theorem itoa_inj {z y:Int} (hz:inKind .i64 z) (hy:inKind .i64 y) (h:Lib.itoa z=Lib.itoa y):z=y:=by
 have h1:=itoa_back hz
 rw [h,itoa_back hy] at h1
 exact (Lib.NumEnd.ok.inj h1).symm
/-! ### The first line of a notice -/
structure Head (x:NotD) (sz:Int):Prop where
 kd:1≤x.kind∧x.kind≤5
 fa:uAt x.kind∨x.at_=0
 fc:uCo x.kind∨x.count=0
 ft:uTo x.kind∨x.to=0
 fi:uIt x.kind∨sz=0
 it:x.items=[]
 ra:inKind .i64 x.at_
 rc:inKind .i64 x.count
 rt:inKind .i64 x.to
 rs:0≤sz∧sz≤1024
/-- The fields of a notice that is being read. -/
structure FlH (x:NotD) (sz:Int):Prop where
 kd:1≤x.kind∧x.kind≤5
 fa:uAt x.kind∨x.at_=0
 fc:uCo x.kind∨x.count=0
 ft:uTo x.kind∨x.to=0
 fi:uIt x.kind∨sz=0
 it:x.items=[]
 ra:inKind .i64 x.at_
 rc:inKind .i64 x.count
 rt:inKind .i64 x.to
 rz:inKind .i64 sz
theorem Head.fl {x:NotD} {sz:Int} (h:Head x sz):FlH x sz:=⟨h.kd,h.fa,h.fc,h.ft,h.fi,h.it,h.ra,h.rc,h.rt,in_i64 (by have:=h.rs;omega) (by have:=h.rs;omega)⟩
theorem FlH.head {x:NotD} {sz:Int} (h:FlH x sz) (h2:0≤sz∧sz≤1024):Head x sz:=⟨h.kd,h.fa,h.fc,h.ft,h.fi,h.it,h.ra,h.rc,h.rt,h2⟩
theorem FlH.ink {x:NotD} {sz:Int} (h:FlH x sz):∀ z∈fm (nuK x sz),inKind .i64 z:=nu_ink h.ra h.rc h.rt h.rz
theorem Head.ink {x:NotD} {sz:Int} (h:Head x sz):∀ z∈fm (nuK x sz),inKind .i64 z:=nu_ink h.ra h.rc h.rt (in_i64 (by have:=h.rs;omega) (by have:=h.rs;omega))
def HeadAt (c:List UInt8):Prop:=∃ x sz r,Head x sz∧c=lineN x sz++r
theorem map_itoa_inj:∀ {a b:List Int},(∀ z∈a,inKind .i64 z)→(∀ z∈b,inKind .i64 z)→a.map Lib.itoa=b.map Lib.itoa→a=b
 | [],[],_,_,_=>rfl
 | [],y::b,_,_,h=>by cases h
 | z::a,[],_,_,h=>by cases h
 | z::a,y::b,h1,h2,h=>by
  simp only [List.map_cons,List.cons.injEq] at h
  rw [itoa_inj (h1 z (by simp)) (h2 y (by simp)) h.1,map_itoa_inj (fun q hq=>h1 q (by simp [hq])) (fun q hq=>h2 q (by simp [hq])) h.2]
theorem fm_cons {α:Type} {b:Bool} {v:α} {l:List (Bool × α)}:fm ((b,v)::l)=(if b=true then [v] else [])++fm l:=by
 unfold fm;cases b <;> simp
theorem nu_inj {x y:NotD} {sz tz:Int} (hk:x.kind=y.kind) (hx:FlH x sz) (hy:FlH y tz) (h:fm (nuK x sz)=fm (nuK y tz)):x=y∧sz=tz:=by
 have key:∀ (b:Bool) (a c:Int) (l r:List Int),l.length=r.length→(if b=true then [a] else [])++l=(if b=true then [c] else [])++r→l=r∧(b=true→a=c):=by
  intro b a c l r hl h
  cases b
  ·exact ⟨by simpa using h,fun h=>by cases h⟩
  ·simp only [if_true,List.cons_append,List.nil_append,List.cons.injEq] at h;exact ⟨h.2,fun _=>h.1⟩
 have lens:∀ (b:Bool) (a c:Int) (l r:List Int),l.length=r.length→((if b=true then [a] else [])++l).length=((if b=true then [c] else [])++r).length:=by
  intro b a c l r hl;cases b <;> simp [hl]
 unfold nuK at h
 rw [hk] at h
 simp only [fm_cons] at h
 have e0:(fm ([]:List (Bool × Int))).length=(fm ([]:List (Bool × Int))).length:=rfl
 have e1:=lens (decide (uIt y.kind)) sz tz _ _ e0
 have e2:=lens (decide (uTo y.kind)) x.to y.to _ _ e1
 have e3:=lens (decide (uCo y.kind)) x.count y.count _ _ e2
 obtain ⟨h1,g1⟩:=key _ _ _ _ _ e3 h
 obtain ⟨h2,g2⟩:=key _ _ _ _ _ e2 h1
 obtain ⟨h3,g3⟩:=key _ _ _ _ _ e1 h2
 obtain ⟨_,g4⟩:=key _ _ _ _ _ e0 h3
 have pick:∀ {u v:Prop} {a c:Int} [Decidable v],(u↔v)→(u∨a=0)→(v∨c=0)→(decide v=true→a=c)→a=c:=by
  intro u v a c _ huv ha hc hg
  by_cases hv:v
  ·exact hg (decide_eq_true hv)
  ·rw [ha.resolve_left (fun h=>hv (huv.1 h)),hc.resolve_left hv]
 have i1:x.at_=y.at_:=pick (by rw [hk]) hx.fa hy.fa g1
 have i2:x.count=y.count:=pick (by rw [hk]) hx.fc hy.fc g2
 have i3:x.to=y.to:=pick (by rw [hk]) hx.ft hy.ft g3
 have i4:sz=tz:=pick (by rw [hk]) hx.fi hy.fi g4
 refine ⟨?_,i4⟩
 have i5:x.items=y.items:=by rw [hx.it,hy.it]
 clear hx hy key lens pick e1 e2 e3 h1 h2 h3 h g1 g2 g3 g4
 cases x;cases y
 simp only [NotD.mk.injEq] at *
 exact ⟨hk,i1,i2,i3,i5⟩
theorem head_uniq {x y:NotD} {sz tz:Int} {r q:List UInt8} (hx:Head x sz) (hy:Head y tz) (h:lineN x sz++r=lineN y tz++q):x=y∧sz=tz∧r=q:=by
 have h1:Lib.cut (lineN x sz++r) [10]=Lib.cut (lineN y tz++q) [10]:=by rw [h]
 rw [head_cut,head_cut] at h1
 simp only [Prod.mk.injEq,and_true] at h1
 have h2:splitW (nameK x.kind++wordsN (fm (nuK x sz)))=splitW (nameK y.kind++wordsN (fm (nuK y tz))):=by rw [h1.1]
 rw [head_split,head_split,List.cons.injEq] at h2
 have hk:=nameK_inj hx.kd hy.kd h2.1
 obtain ⟨e1,e2⟩:=nu_inj hk hx.fl hy.fl (map_itoa_inj hx.ink hy.ink h2.2)
 exact ⟨e1,e2,h1.2⟩
/-! ### Lines of items -/
def okI (ys:List ItemD):Prop:=∀ y∈ys,ItemOk 8 y∧y.key < 18446744073709551616∧y.typ < 256
def ItemAt (c:List UInt8):Prop:=∃ y r,(ItemOk 8 y∧y.key < 18446744073709551616∧y.typ < 256)∧c=lineF y++10::r
theorem item_cut {y:ItemD} {r:List UInt8} (h:ItemOk 8 y):Lib.cut (lineF y++10::r) [10]=(lineF y,r,true):=cut_app (line_not10 h)
theorem textF_two {a b:List ItemD}:textF (a++b)=textF a++textF b:=by unfold textF;simp
theorem textF_one {y:ItemD}:textF [y]=lineF y++[10]:=by unfold textF;simp
theorem items_uniq:∀ {a b:List ItemD} {r q:List UInt8},okI a→okI b→a.length=b.length→textF a++r=textF b++q→a=b∧r=q
 | [],[],r,q,_,_,_,h=>⟨rfl,by simpa [textF] using h⟩
 | [],y::b,_,_,_,_,h,_=>by cases h
 | x::a,[],_,_,_,_,h,_=>by cases h
 | x::a,y::b,r,q,h1,h2,h3,h=>by
  have e1:textF (x::a)++r=lineF x++10::(textF a++r):=by unfold textF;simp
  have e2:textF (y::b)++q=lineF y++10::(textF b++q):=by unfold textF;simp
  rw [e1,e2] at h
  have hx:=h1 x (by simp)
  have hy:=h2 y (by simp)
  have h4:Lib.cut (lineF x++10::(textF a++r)) [10]=Lib.cut (lineF y++10::(textF b++q)) [10]:=by rw [h]
  rw [item_cut hx.1,item_cut hy.1] at h4
  simp only [Prod.mk.injEq,and_true] at h4
  have e:=lineF_inj hx.1 hy.1 hx.2.1 hy.2.1 h4.1
  obtain ⟨e3,e4⟩:=items_uniq (fun z hz=>h1 z (by simp [hz])) (fun z hz=>h2 z (by simp [hz])) (by simpa using h3) h4.2
  exact ⟨by rw [e,e3],e4⟩
/-- Items read from one text: the shorter list is the beginning of the longer one. -/
theorem items_pre {a b:List ItemD} {r q:List UInt8} (ha:okI a) (hb:okI b) (hl:a.length < b.length) (h:textF a++r=textF b++q):ItemAt r:=by
 have h1:b=b.take a.length++b.drop a.length:=(List.take_append_drop _ _).symm
 rw [h1,textF_two,List.append_assoc] at h
 obtain ⟨_,h2⟩:=items_uniq ha (fun y hy=>hb y (List.mem_of_mem_take hy)) (by rw [List.length_take];omega) h
 cases hd:b.drop a.length with
 | nil=>have:=congrArg List.length hd;simp only [List.length_drop,List.length_nil] at this;omega
 | cons y t =>
  rw [hd] at h2
  refine ⟨y,textF t++q,hb y (List.mem_of_mem_drop (by rw [hd];simp)),?_⟩
  rw [h2];unfold textF;simp
/-! ### Whole texts -/
def nlN (xs:List NotD):Nat:=(xs.map fun x=>1+x.items.length).sum
theorem nlN_snoc {xs:List NotD} {x:NotD}:nlN (xs++[x])=nlN xs+(1+x.items.length):=by unfold nlN;simp
inductive PR:List NotD→List UInt8→List NotD × Nat × Int→Prop
 | done {xs}:PR xs [] (xs,0,0)
 | nohead {xs c}:c≠[]→¬ HeadAt c→PR xs c ([],nlN xs+1,5)
 | full {xs c}:HeadAt c→xs.length=32→PR xs c ([],nlN xs+1,3)
 | bad {xs c x sz ys r}:Head x sz→xs.length≠32→c=lineN x sz++(textF ys++r)→okI ys→((ys.length:Nat):Int) < sz→¬ ItemAt r→PR xs c ([],nlN xs+1+ys.length+1,5)
 | step {xs c x sz ys r q}:Head x sz→xs.length≠32→c=lineN x sz++(textF ys++r)→okI ys→((ys.length:Nat):Int)=sz→PR (xs++[{ x with items:=ys }]) r q→PR xs c q
theorem line_ne {x:NotD} {sz:Int} {r:List UInt8}:lineN x sz++r≠[]:=by unfold lineN;simp
theorem head_ne {c:List UInt8} (h:HeadAt c):c≠[]:=by
 obtain ⟨x,sz,r,_,rfl⟩:=h;exact line_ne
theorem PR.uniq {xs:List NotD} {c:List UInt8} {a b:List NotD × Nat × Int} (h1:PR xs c a):PR xs c b→a=b:=by
 induction h1 with
 | done =>
  intro h2
  cases h2 with
  | done=>rfl
  | nohead h _=>exact absurd rfl h
  | full h _=>exact absurd rfl (head_ne h)
  | bad _ _ h=>exact absurd h.symm line_ne
  | step _ _ h=>exact absurd h.symm line_ne
 | nohead h hn =>
  intro h2
  cases h2 with
  | done=>exact absurd rfl h
  | nohead=>rfl
  | full h3 _=>exact absurd h3 hn
  | bad h3 _ h4=>exact absurd ⟨_,_,_,h3,h4⟩ hn
  | step h3 _ h4=>exact absurd ⟨_,_,_,h3,h4⟩ hn
 | full h hl =>
  intro h2
  cases h2 with
  | done=>exact absurd rfl (head_ne h)
  | nohead _ h3=>exact absurd h h3
  | full=>rfl
  | bad _ h3=>exact absurd hl h3
  | step _ h3=>exact absurd hl h3
 | @bad xs c x sz ys r hh hl hc hok hlt hn =>
  intro h2
  cases h2 with
  | done=>exact absurd hc.symm line_ne
  | nohead _ h3=>exact absurd ⟨_,_,_,hh,hc⟩ h3
  | full _ h3=>exact absurd h3 hl
  | @bad _ _ y tz zs q hh2 _ hc2 hok2 hlt2 hn2 =>
   rw [hc] at hc2
   obtain ⟨_,rfl,h4⟩:=head_uniq hh hh2 hc2
   rcases Nat.lt_trichotomy ys.length zs.length with h5 | h5 | h5
   ·exact absurd (items_pre hok hok2 h5 h4) hn
   ·rw [h5]
   ·exact absurd (items_pre hok2 hok h5 h4.symm) hn2
  | @step _ _ y tz zs q _ hh2 _ hc2 hok2 he2 _ =>
   rw [hc] at hc2
   obtain ⟨_,rfl,h4⟩:=head_uniq hh hh2 hc2
   exact absurd (items_pre hok hok2 (by omega) h4) hn
 | @step xs c x sz ys r q hh hl hc hok he _ ih =>
  intro h2
  cases h2 with
  | done=>exact absurd hc.symm line_ne
  | nohead _ h3=>exact absurd ⟨_,_,_,hh,hc⟩ h3
  | full _ h3=>exact absurd h3 hl
  | @bad _ _ y tz zs q2 hh2 _ hc2 hok2 hlt2 hn2 =>
   rw [hc] at hc2
   obtain ⟨_,rfl,h4⟩:=head_uniq hh hh2 hc2
   exact absurd (items_pre hok2 hok (by omega) h4.symm) hn2
  | @step _ _ y tz zs q2 _ hh2 _ hc2 hok2 he2 hp =>
   rw [hc] at hc2
   obtain ⟨rfl,rfl,h4⟩:=head_uniq hh hh2 hc2
   obtain ⟨rfl,rfl⟩:=items_uniq hok hok2 (by omega) h4
   exact ih hp
/-! ### Reading the first line, word by word -/
theorem cut_true {c:UInt8} {s:List UInt8} (h:(Lib.cut s [c]).2.2=true):s=(Lib.cut s [c]).1++c::(Lib.cut s [c]).2.1:=by
 rw [cut_ix] at h ⊢
 by_cases hi:ix c s < s.length
 ·simp only [if_pos hi]
  have h2:=ix_at c s hi
  have h3:s.drop (ix c s)=c::s.drop (ix c s+1):=by
   rw [List.drop_eq_getElem_cons hi]
   congr 1
   rw [List.getElem?_eq_getElem hi] at h2
   exact Option.some.inj h2
  rw [← h3,List.take_append_drop]
 ·rw [if_neg hi] at h;cases h
theorem atoi_ink {s:List UInt8} {z:Int} (h:Lib.atoiAll s=.ok z):inKind .i64 z:=by
 unfold Lib.atoiAll at h
 split at h
 ·cases h
 ·simp only at h
  split at h
  ·cases h
  ·cases h
  ·split at h
   ·cases h
   ·split at h
    ·cases h
    ·rename_i h1 h2
     have h3:=Lib.NumEnd.ok.inj h
     subst h3
     split
     ·rename_i h4;exact in_i64 (by omega) (by omega)
     ·rename_i h4;exact in_i64 (by omega) (by omega)
/-- What the first words tell of a text that has a notice at its beginning. -/
theorem head_at {c:List UInt8} {W:List UInt8} {wr:List (List UInt8)} (hw:splitW (Lib.cut c [10]).1=W::wr) (h:HeadAt c) :
  (Lib.cut c [10]).2.2=true∧∃ x sz,Head x sz∧W=nameK x.kind∧wr=(fm (nuK x sz)).map Lib.itoa:=by
 obtain ⟨x,sz,r,hh,rfl⟩:=h
 rw [head_cut] at hw ⊢
 rw [head_split,List.cons.injEq] at hw
 exact ⟨rfl,x,sz,hh,hw.1.symm,hw.2.symm⟩
def KindZ (z:Int) (W:List UInt8):Prop:=(z = -1∧∀ j,j < 6→nameK j≠W)∨∃ k:Nat,k < 6∧z=((k:Nat):Int)∧nameK k=W∧∀ j,j < k→nameK j≠W
theorem kind_z {z:Int} {k:Nat} (h:KindZ z (nameK k)) (hk:1≤k∧k≤5):z=((k:Nat):Int):=by
 rcases h with ⟨_,h⟩ | ⟨j,h1,h2,h3,h4⟩
 ·exact absurd rfl (h k (by omega))
 ·rcases Nat.eq_zero_or_pos j with h0 | h0
  ·subst h0
   rcases (show k=1∨k=2∨k=3∨k=4∨k=5 by omega) with rfl | rfl | rfl | rfl | rfl <;> exact absurd h3 (by decide)
  ·rw [h2,nameK_inj ⟨h0,by omega⟩ hk h3]
theorem nohead_1 {c W:List UInt8} {wr:List (List UInt8)} {z:Int} (hw:splitW (Lib.cut c [10]).1=W::wr) (hz:KindZ z W) (h:(Lib.cut c [10]).2.2=false∨z < 1):¬ HeadAt c:=by
 intro hh
 obtain ⟨h1,x,sz,h2,rfl,_⟩:=head_at hw hh
 have:=kind_z hz h2.kd
 rcases h with h | h
 ·rw [h] at h1;cases h1
 ·have:=h2.kd;omega
theorem nohead_k {c W:List UInt8} {wr:List (List UInt8)} {k:Nat} (hw:splitW (Lib.cut c [10]).1=W::wr) (hk:1≤k∧k≤5) (hW:nameK k=W) (h:HeadAt c):∃ x sz,Head x sz∧x.kind=k∧wr=(fm (nuK x sz)).map Lib.itoa:=by
 obtain ⟨h1,x,sz,h2,h3,h4⟩:=head_at hw h
 exact ⟨x,sz,h2,nameK_inj h2.kd hk (by rw [hW,h3]),h4⟩
theorem nohead_2 {c W:List UInt8} {wr:List (List UInt8)} {k b b2:Nat} (hw:splitW (Lib.cut c [10]).1=W::wr) (hk:1≤k∧k≤5) (hW:nameK k=W) (hl:¬ wr.length=(fm (upsK k b b2)).length):¬ HeadAt c:=by
 intro h
 obtain ⟨x,sz,h1,rfl,h2⟩:=nohead_k hw hk hW h
 exact hl (by rw [h2,List.length_map,fld_len])
theorem nohead_3 {c W w:List UInt8} {wr:List (List UInt8)} {k i:Nat} {z:Int} {b:Bool} (hw:splitW (Lib.cut c [10]).1=W::wr) (hk:1≤k∧k≤5) (hW:nameK k=W) (hi:wr[i]?=some w)
  (ha:(Lib.atoiAll w=.ok z∧b=true)∨((∀ x,Lib.atoiAll w≠.ok x)∧b=false)) (hb:b=false∨Lib.itoa z≠w):¬ HeadAt c:=by
 intro h
 obtain ⟨x,sz,h1,rfl,h2⟩:=nohead_k hw hk hW h
 rw [h2,List.getElem?_map] at hi
 cases hy:(fm (nuK x sz))[i]? with
 | none=>rw [hy] at hi;cases hi
 | some y =>
  rw [hy] at hi
  simp only [Option.map_some,Option.some.injEq] at hi
  have h3:=itoa_back (h1.ink y (List.mem_of_getElem? hy))
  rw [hi] at h3
  rcases ha with ⟨h4,h5⟩ | ⟨h4,h5⟩
  ·rw [h3] at h4
   have h6:=Lib.NumEnd.ok.inj h4
   subst h6
   rcases hb with hb | hb
   ·rw [h5] at hb;cases hb
   ·exact hb hi
  ·exact h4 _ h3
/-- The first i words behind the name are those of the fields. -/
def Wd (wr:List (List UInt8)) (x:NotD) (sz:Int) (i:Nat):Prop:=∀ j z,j < i→(fm (nuK x sz))[j]?=some z→wr[j]?=some (Lib.itoa z)
theorem wd_all {wr:List (List UInt8)} {x:NotD} {sz:Int} {i:Nat} (h:Wd wr x sz i) (hl:wr.length=(fm (nuK x sz)).length) (hi:(fm (nuK x sz)).length≤i):wr=(fm (nuK x sz)).map Lib.itoa:=by
 apply List.ext_getElem?
 intro j
 rw [List.getElem?_map]
 cases hz:(fm (nuK x sz))[j]? with
 | none =>
  rw [List.getElem?_eq_none_iff] at hz
  rw [List.getElem?_eq_none_iff.2 (by omega)];rfl
 | some z=>rw [h j z (by have:=lt_of_get hz;omega) hz];rfl
theorem nohead_4 {c W:List UInt8} {wr:List (List UInt8)} {x:NotD} {sz:Int} (hw:splitW (Lib.cut c [10]).1=W::wr) (hf:FlH x sz) (hW:nameK x.kind=W) (hwr:wr=(fm (nuK x sz)).map Lib.itoa) (hs:sz < 0∨1024 < sz):¬ HeadAt c:=by
 intro h
 obtain ⟨y,tz,h1,h2,h3⟩:=nohead_k hw hf.kd hW h
 obtain ⟨_,h4⟩:=nu_inj h2.symm hf h1.fl (map_itoa_inj hf.ink h1.ink (by rw [← hwr,h3]))
 have:=h1.rs
 omega
theorem head_of {c W:List UInt8} {wr:List (List UInt8)} {x:NotD} {sz:Int} (hw:splitW (Lib.cut c [10]).1=W::wr) (hW:nameK x.kind=W) (hwr:wr=(fm (nuK x sz)).map Lib.itoa) (hc:(Lib.cut c [10]).2.2=true):c=lineN x sz++(Lib.cut c [10]).2.1:=by
 obtain ⟨d,r,h1,h2⟩:=splitW_back (Lib.cut c [10]).1
 rw [hw] at h1
 simp only [List.cons.injEq] at h1
 obtain ⟨rfl,rfl⟩:=h1
 have h3:=cut_true hc
 rw [h2,← hW,hwr,← wordsN_B] at h3
 conv=>lhs;rw [h3]
 unfold lineN;simp
/-- A number is put into the field at an address. -/
def putF (x:NotD) (sz:Int) (o:Nat) (v:Int):NotD × Int:=match o with
 | 1=>({ x with at_:=v },sz)
 | 2=>({ x with count:=v },sz)
 | 3=>({ x with to:=v },sz)
 | _=>(x,v)
theorem put_all {x:NotD} {b b2 i:Nat} {sz v:Int} {p:Nat × Nat} (h:(fm (upsK x.kind b b2))[i]?=some p) :
  fm (nuK (putF x sz p.2 v).1 (putF x sz p.2 v).2)=(fm (nuK x sz)).set i v∧((p=(b,1)∧uAt x.kind)∨(p=(b,2)∧uCo x.kind)∨(p=(b,3)∧uTo x.kind)∨(p=(b2,0)∧uIt x.kind)):=by
 unfold upsK fm at h
 unfold nuK fm
 have q1:=fun h=>(decide_eq_true_iff (p:=uAt x.kind)).1 h
 have q2:=fun h=>(decide_eq_true_iff (p:=uCo x.kind)).1 h
 have q3:=fun h=>(decide_eq_true_iff (p:=uTo x.kind)).1 h
 have q4:=fun h=>(decide_eq_true_iff (p:=uIt x.kind)).1 h
 rcases Bool.eq_false_or_eq_true (decide (uAt x.kind)) with h1 | h1 <;> rcases Bool.eq_false_or_eq_true (decide (uCo x.kind)) with h2 | h2 <;>
 rcases Bool.eq_false_or_eq_true (decide (uTo x.kind)) with h3 | h3 <;> rcases Bool.eq_false_or_eq_true (decide (uIt x.kind)) with h4 | h4 <;> rw [h1,h2,h3,h4] at h <;>
 simp only [List.filter_cons,List.filter_nil,if_true,if_false,Bool.false_eq_true,List.map_cons,List.map_nil] at h <;>
 rcases i with _ | _ | _ | _ | i <;> simp only [List.getElem?_cons_zero,List.getElem?_cons_succ,List.getElem?_nil,Option.some.injEq,reduceCtorEq] at h <;>
 first | contradiction | (subst h;simp only [putF,h1,h2,h3,h4,List.filter_cons,List.filter_nil,if_true,if_false,Bool.false_eq_true,List.map_cons,List.map_nil,List.set_cons_zero,List.set_cons_succ,true_and];simp_all)
theorem put_ok {x:NotD} {b b2 i:Nat} {sz v:Int} {p:Nat × Nat} {wr:List (List UInt8)} (h:(fm (upsK x.kind b b2))[i]?=some p) (hf:FlH x sz) (hw:Wd wr x sz i) (hv:inKind .i64 v) (hi:wr[i]?=some (Lib.itoa v)) :
  (putF x sz p.2 v).1.kind=x.kind∧FlH (putF x sz p.2 v).1 (putF x sz p.2 v).2∧Wd wr (putF x sz p.2 v).1 (putF x sz p.2 v).2 (i+1):=by
 obtain ⟨h1,h2⟩:=put_all (sz:=sz) (v:=v) h
 have h3:(putF x sz p.2 v).1.kind=x.kind:=by unfold putF;split <;> rfl
 refine ⟨h3,?_,?_⟩
 ·rcases h2 with ⟨rfl,hu⟩ | ⟨rfl,hu⟩ | ⟨rfl,hu⟩ | ⟨rfl,hu⟩
  ·exact ⟨hf.kd,Or.inl hu,hf.fc,hf.ft,hf.fi,hf.it,hv,hf.rc,hf.rt,hf.rz⟩
  ·exact ⟨hf.kd,hf.fa,Or.inl hu,hf.ft,hf.fi,hf.it,hf.ra,hv,hf.rt,hf.rz⟩
  ·exact ⟨hf.kd,hf.fa,hf.fc,Or.inl hu,hf.fi,hf.it,hf.ra,hf.rc,hv,hf.rz⟩
  ·exact ⟨hf.kd,hf.fa,hf.fc,hf.ft,Or.inl hu,hf.it,hf.ra,hf.rc,hf.rt,hv⟩
 ·intro j z hj hz
  rw [h1] at hz
  rcases Nat.lt_succ_iff_lt_or_eq.1 hj with h4 | h4
  ·rw [List.getElem?_set_ne (by omega)] at hz;exact hw j z h4 hz
  ·subst h4
   have h5:=lt_of_get hz
   rw [List.length_set] at h5
   rw [List.getElem?_set_self h5] at hz
   rw [← Option.some.inj hz];exact hi
/-! ### Reading the lines of items -/
theorem item_parse {s:List UInt8} (hs:(10:UInt8) ∉ s):(∃ y,Rd8 s y∧(s.length≤1048575→parseF (s++[10])=([y],0,0)))∨((∀ y,¬ Rd8 s y)∧(parseF (s++[10])).2.2≠0):=by
 have hc:Lib.cut (s++[10]) [10]=(s,[],true):=cut_app hs
 have hne:¬ (s++[10])=[]:=by simp
 by_cases hy:∃ y,Rd8 s y
 ·obtain ⟨y,hy⟩:=hy
  refine Or.inl ⟨y,hy,fun hl=>?_⟩
  have hl2:¬ 1048576 < (s++[10]).length:=by simp only [List.length_append,List.length_cons,List.length_nil];omega
  unfold parseF
  rw [if_neg hl2]
  have h2:pGo ((s++[10]).length+1) [] (s++[10])=pGo (s++[10]).length ([]++[y]) []:=by
   conv=>lhs;unfold pGo
   rw [if_neg hne,hc]
   simp only [if_true,itemOf_yes hy]
   rfl
  have h9:(s++([10]:List UInt8)).length=s.length+1:=by simp
  rw [h2,h9]
  unfold pGo
  rw [if_pos rfl];rfl
 ·refine Or.inr ⟨fun y h=>hy ⟨y,h⟩,?_⟩
  unfold parseF
  split
  ·decide
  ·unfold pGo
   rw [if_neg hne,hc]
   simp only [if_true,itemOf_no (fun y h=>hy ⟨y,h⟩)]
   decide
theorem cut_not {c:UInt8} {s:List UInt8}:c ∉ (Lib.cut s [c]).1:=by
 rw [cut_ix]
 by_cases hi:ix c s < s.length
 ·rw [if_pos hi]
  intro h
  obtain ⟨j,hj⟩:=List.mem_iff_getElem?.1 h
  have h1:=lt_of_get hj
  rw [List.length_take] at h1
  rw [List.getElem?_take,if_pos (by omega)] at hj
  exact ix_ne c s j c (by omega) hj rfl
 ·rw [if_neg hi]
  intro h
  obtain ⟨j,hj⟩:=List.mem_iff_getElem?.1 h
  exact ix_ne c s j c (by have:=lt_of_get hj;have:=ix_le c s;simp only at *;omega) hj rfl
theorem item_no {c:List UInt8} (hl:c.length≤1048576) (h:(Lib.cut c [10]).2.2=false∨(parseF ((Lib.cut c [10]).1++[10])).2.2≠0∨(parseF ((Lib.cut c [10]).1++[10])).1.length≠1):¬ ItemAt c:=by
 rintro ⟨y,r,hy,rfl⟩
 rw [item_cut hy.1] at h
 simp only at h
 rcases h with h | h
 ·cases h
 ·rcases item_parse (line_not10 hy.1) with ⟨y2,h1,h2⟩ | ⟨h1,_⟩
  ·simp only [List.length_append,List.length_cons] at hl
   rw [h2 (by omega)] at h
   rcases h with h | h <;> exact h rfl
  ·exact h1 y ⟨hy.1,hy.2.1,rfl⟩
theorem rd8_typ {s:List UInt8} {y:ItemD} (h:Rd8 s y):y.typ < 256:=by
 have:=h.1
 unfold ItemOk at this
 omega
theorem item_yes {c:List UInt8} (hc:(Lib.cut c [10]).2.2=true) (h:(parseF ((Lib.cut c [10]).1++[10])).2.2=0) (h1:(parseF ((Lib.cut c [10]).1++[10])).1.length=1) (hl:c.length≤1048576) :
  ∃ y,(parseF ((Lib.cut c [10]).1++[10])).1=[y]∧(ItemOk 8 y∧y.key < 18446744073709551616∧y.typ < 256)∧c=textF [y]++(Lib.cut c [10]).2.1:=by
 have hcc:=cut_true hc
 rcases item_parse (cut_not (c:=10) (s:=c)) with ⟨y,h2,h3⟩ | ⟨_,h2⟩
 ·have hlen:=congrArg List.length hcc
  simp only [List.length_append,List.length_cons] at hlen
  refine ⟨y,by rw [h3 (by omega)],⟨h2.1,h2.2.1,rd8_typ h2⟩,?_⟩
  rw [textF_one,h2.2.2]
  simpa using hcc
 ·exact absurd h h2
theorem kfn_pos {k:Nat} (h:1≤k):kfn k=.func (.func (doesF k)) #[] #[]:=by unfold kfn;rw [if_neg (by omega)]
theorem fl_zero {k:Nat} (hk:1≤k∧k≤5):FlH ⟨k,0,0,0,[]⟩ 0:=⟨hk,Or.inr rfl,Or.inr rfl,Or.inr rfl,Or.inr rfl,rfl,(in_i64 (n:=0) (by decide) (by decide)),(in_i64 (n:=0) (by decide) (by decide)),(in_i64 (n:=0) (by decide) (by decide)),(in_i64 (n:=0) (by decide) (by decide))⟩
theorem ok_of {s:List UInt8} {z:Int} {b:Bool} (h:(Lib.atoiAll s=.ok z∧b=true)∨((∀ x,Lib.atoiAll s≠.ok x)∧b=false)) (hb:b=true):Lib.atoiAll s=.ok z:=by
 rcases h with h | ⟨_,h⟩
 ·exact h.1
 ·rw [h] at hb;cases hb
theorem kind_of_z {z:Int} {W:List UInt8} (h:KindZ z W) (hz:¬ z < 1):∃ k:Nat,(1≤k∧k≤5)∧z=((k:Nat):Int)∧nameK k=W:=by
 rcases h with ⟨h1,_⟩ | ⟨k,h1,h2,h3,_⟩
 ·omega
 ·exact ⟨k,⟨by omega,by omega⟩,h2,h3⟩
end Go.Proofs.YtmmhmcplegpenaaGreatDoor
