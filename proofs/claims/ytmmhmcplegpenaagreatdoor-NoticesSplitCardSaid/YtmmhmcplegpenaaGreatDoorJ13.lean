/- The walks, part LW. · The walks, part LX. · The types and functions that the last walks name. · What is valid can be decided, and the examples of chapter 14. · Notices: the examples of the chapter. · The statements' own makers of items, rules and lists. · Notices in two parts. · Notices: the examples of the chapter, texts. · The walks, part LY. -/
import Derived.Test.YtmmhmcplegpenaaGreatDoorJ12
import Derived.Test.YtmmhmcplegpenaaGreatDoorJ11
import Derived.Test.YtmmhmcplegpenaaGreatDoorJ2
set_option linter.unusedSimpArgs false
set_option linter.unusedVariables false
set_option maxRecDepth 10000
namespace Go.Proofs.YtmmhmcplegpenaaGreatDoor
open Go Go.Y Go.Proofs
set_option maxHeartbeats 1600000
def NRes (b:Nat) (c:List UInt8) (l:Nat) (L:List Res) (G':Aq) (L':List Res) (v:Value):Prop :=
  ∃ (k:Nat) (a1 c1 t1:Int) (ad:Option Addr) (ln cn:Nat) (ok:Bool) (c':List UInt8) (l':Nat),v=.tuple #[.agg #[.int .u8 ((k:Nat):Int),.int .i64 a1,.int .i64 c1,.int .i64 t1,.slice ad ln cn],.bool ok]∧L' = (.blk b [.string (str c'),.int .i64 ((l':Nat):Int)] 155::L)∧c'.length≤c.length∧l'≤l+1025 ∧
  ((ok=true∧∃ x sz ys,Head x sz∧okI ys∧((ys.length:Nat):Int)=sz∧c=D7 x sz++(Cc ys++c')∧l' = l+1+ys.length∧E6 G' [.int .u8 ((k:Nat):Int),.int .i64 a1,.int .i64 c1,.int .i64 t1,.slice ad ln cn] { x with items:=ys }) ∨
   (ok=false∧((¬ Ij c∧l' = l+1)∨∃ x sz ys r,Head x sz∧okI ys∧((ys.length:Nat):Int) < sz∧l' = l+1+ys.length+1∧c=D7 x sz++(Cc ys++r)∧¬ Qv r)))
theorem Apc {ys:List ItemD} {y:ItemD} (h:okI ys) (hy:ItemOk 8 y∧y.key < 18446744073709551616∧y.typ < 256):okI (ys++[y]):=by
 intro z hz
 rcases List.mem_append.1 hz with hz | hz
 ·exact h z hz
 rw [List.mem_singleton.1 hz];exact hy
theorem Abc {w0 w:World} {G:Aq} {L:List Res} {b l:Nat} {c:List UInt8} (M:Mem w0 G (.blk b [.string (str c),.int .i64 ((l:Nat):Int)] 155::L) w) (HG:Globs 0 1 2 3 G) (hcl:c.length≤1048576) (hll:l≤2000000) :
  Calls Tryz.prog 85 #[.func (.func 86) #[.pointer (some ⟨b,0,none⟩)] #[]] w (Ht w0 G (NRes b c l L)):=by
 refine Al (vs:=[_]) Tryz.func85 rfl (n:=133) rfl rfl<|?_
 refine Bt<|?_
 refine B1 M Bd rfl rfl<|?_;clear M;intro b1 w M
 refine wk ?_;replace M:=M.perm (Af _ 1 _ rfl);replace M:=z_M M;intro a F;refine Aam F ent86 (first:=[.pointer (some ⟨b,0,none⟩)]) rfl rfl rfl (Wg (c:=c) (l:=l) M HG (by omega) (by omega)) ?_;clear F M a;rintro _ w a M rfl F;have hctk3:=Ib 10 c;revert a;refine wk ?_;refine D4 Aub rfl rfl (Z8 (s:=(Lib.cut c [10]).1) M HG (by omega))<|?_;clear M;rintro _ Gp4 w hGp4 M ⟨ap4,rfl,Sp4⟩
 replace HG:=HG.mono hGp4;refine B1 M E8 rfl rfl<|?_;clear M;intro b5 w M
 refine Dv E8 M 0 rfl rfl rfl rfl rfl rfl<|?_;clear M;intro w M
 refine wk ?_;refine A4 Pe rfl rfl (Fu M)<|?_;clear M;rintro _ w M rfl
 refine B1 M Fz rfl rfl<|?_;clear M;intro b7 w M
 intro a F;refine V3 F M Fz (k:=0) rfl rfl rfl (us:=J7) rfl rfl (by simp [J7,Value.oneCell']) (Nat.le_refl 36) ?_;clear F M a;intro w a M F;replace M:=z_M M;revert a;refine wk ?_;obtain ⟨W,wr,hws,hwsb⟩:=Q0 (Lib.cut c [10]).1;have hW:(Ce (Lib.cut c [10]).1)[0]?=some W:=by rw [hws];rfl
 have hwsl:=congrArg List.length hws;intro a F;rw [List.length_cons] at hwsl;revert a;refine wk ?_;refine Am (fun a F=>U7 Fz.k Cm (F.ev rfl)) rfl<|Am (fun a F=>Ct (vs:=#[.pointer (some ⟨b5,0,none⟩)]) (by simp only [List.map_toArray,List.map_cons,List.map_nil,F.ev (x:=.tmp 6) rfl])) rfl<|?_
 replace M:=M.perm (Af _ 1 _ rfl);replace M:=M.perm (Af _ 1 _ rfl);replace M:=z_M M;refine A4 ent134 rfl rfl (Qj Sp4 M hW)<|?_;clear M;rintro _ w M ⟨zz9,rfl,hzz9⟩
 refine wk ?_
 rcases bE (!((Lib.cut c [10]).2.2)) with h10b | h11b
 ·skip
  have h10:=Ab h10b;have h10c:((Lib.cut c [10]).2.2)=false:=(Ab h10b);refine wk ?_;intro a F;refine Be F M Bd 3 ?_;clear F M a;intro w a M F;replace M:=z_M M;revert a;refine wk ?_;refine fun a F=>Bs F M (k:=3) rfl rfl Bd rfl rfl rfl rfl ?_;replace M:=M.perm (Af _ 2 _ rfl);replace M:=z_M M
  exact ⟨_,_,hGp4,M.weaken (cC (cN (.cons _ (cN (sR _))))),0,0,0,0,none,0,0,false,_,_,rfl,rfl,by omega,by omega,Or.inr ⟨rfl,Or.inl ⟨Tw hws hzz9 (by first | exact Or.inl (by assumption) | exact Or.inr (by omega)),rfl⟩⟩⟩
 have h11:=Ac h11b;have h11c:((Lib.cut c [10]).2.2)=true:=(Ac h11b);refine wk ?_;refine qD rfl ?_ ?_
 ·intro h12;refine wk ?_;intro a F;refine Be F M Bd 3 ?_;clear F M a;intro w a M F;replace M:=z_M M;revert a;refine wk ?_;refine fun a F=>Bs F M (k:=3) rfl rfl Bd rfl rfl rfl rfl ?_;replace M:=M.perm (Af _ 2 _ rfl);replace M:=z_M M
  exact ⟨_,_,hGp4,M.weaken (cC (cN (.cons _ (cN (sR _))))),0,0,0,0,none,0,0,false,_,_,rfl,rfl,by omega,by omega,Or.inr ⟨rfl,Or.inl ⟨Tw hws hzz9 (by first | exact Or.inl (by assumption) | exact Or.inr (by omega)),rfl⟩⟩⟩
 intro h13;refine wk ?_;have hwt:(Lib.cut c [10]).2.2=true:=by assumption
 obtain ⟨k,hk,hzk,hkW⟩:=Alc hzz9 (by assumption);subst hzk;refine wk ?_;refine B1 M Cq rfl rfl<|?_;clear M;intro b14 w M
 refine Dv Cq M 0 rfl rfl rfl rfl rfl rfl<|?_;clear M;intro w M
 refine wk ?_;refine Am (fun a F=>Bh Cl.k ⟨_,by rw [Bo Cq.k]⟩ (F.ev rfl) (Rl (by omega) (by omega))) rfl<|?_
 refine wk ?_;refine Dv Cl M 4 rfl rfl rfl rfl rfl rfl<|?_;clear M;intro w M
 refine wk ?_;refine Am (fun a F=>Aah (j:=k) Fz.k Cm (F.ev rfl) (F.ev rfl) rfl (by omega)) rfl<|Am (fun a F=>Da Cm rfl (F.ev rfl) (cs:=[.string (str (Cg k)),.bool (decide (uAt k)),.bool (decide (uCo k)),.bool (decide (uTo k)),.bool (decide (uIt k)),kfn k]) rfl (M.cellsL (k:=1) rfl (T4 (k:=k) (by omega)))) rfl<|fun a F=>?_
 rw [kfn_pos hk.1] at F;revert a;refine D4 ent82 rfl rfl (We (k:=k) (b:=b1) (b2:=b14) M)<|?_;clear M;rintro _ Gq16 w hGq16 M ⟨aq16,cq16,rfl,Sq16⟩
 replace HG:=HG.mono hGq16;replace Sp4:=Sp4.mono Ay hGq16;refine wk ?_;have hf4:=Afo (F7 k b1 b14);intro a F;rw [show (F7 k b1 b14).length=4 from rfl] at hf4;revert a;refine wk ?_;refine Ae rfl ?_ ?_
 ·intro h17b;have h17:=dF (Ab h17b);have h17c:(decide ((((Ce ((Lib.cut c [10]).1)).length:Nat):Int)=((((fm (F7 k b1 b14)).length:Nat):Int))+1))=false:=(Ab h17b);refine wk ?_;intro a F;refine Be F M Bd 4 ?_;clear F M a;intro w a M F;replace M:=z_M M;revert a;refine wk ?_;refine fun a F=>Bs F M (k:=4) rfl rfl Bd rfl rfl rfl rfl ?_;replace M:=M.perm (Af _ 3 _ rfl);replace M:=z_M M
  exact ⟨_,_,(hGp4.trans hGq16),M.weaken (cC (cN (.cons _ (cN (.cons _ (sR _)))))),k,0,0,0,none,0,0,false,_,_,rfl,rfl,by omega,by omega,Or.inr ⟨rfl,Or.inl ⟨Abh (b:=b1) (b2:=b14) hws hk hkW (by omega),rfl⟩⟩⟩
 intro h18b;have h18:=dT (Ac h18b);have h18c:(decide ((((Ce ((Lib.cut c [10]).1)).length:Nat):Int)=((((fm (F7 k b1 b14)).length:Nat):Int))+1))=true:=(Ac h18b);refine wk ?_;have hlw:wr.length=(fm (F7 k b1 b14)).length:=by omega
 refine wk ?_;refine fun a F=>Ba (fun m a' w'=>∃ (i:Nat),∃ (x:NotD),∃ (sz:Int),m=(fm (F7 k b1 b14)).length - i∧Fits 133 a' [(0,.func (.func 86) #[.pointer (some ⟨b,0,none⟩)] #[]),(2,.pointer (some ⟨b1,0,none⟩)),(6,.pointer (some ⟨b5,0,none⟩)),(7,.pointer (some ⟨b7,0,none⟩)),(9,.pointer (some ⟨b14,0,none⟩)),(10,.slice aq16 ((fm (F7 k b1 b14)).length) (cq16)),(52,.slice aq16 ((fm (F7 k b1 b14)).length) (cq16)),(53,.int .i64 ((((fm (F7 k b1 b14)).length:Nat):Int))),(54,.int .i64 ((i:Nat):Int))]∧Mem w0 Gq16 (.blk b14 [.int .i64 sz] 3::.blk b7 J7 139::.blk b5 [.slice ap4 ((Ce ((Lib.cut c [10]).1)).length) ((Ce ((Lib.cut c [10]).1)).length)] 24::.blk b [.string (str ((Lib.cut c [10]).2.1)),.int .i64 ((((l+1):Nat):Int))] 155::.blk b1 [.int .u8 ((x.kind:Nat):Int),.int .i64 x.at_,.int .i64 x.count,.int .i64 x.to,.slice none 0 0] 65::L) w'∧(i≤(fm (F7 k b1 b14)).length)∧(x.kind=k)∧(FlH x sz)∧(Wd wr x sz i)) _ ⟨0,⟨k,0,0,0,[]⟩,0,rfl,F.to ⟨rfl,rfl,rfl,rfl,rfl,rfl,rfl,rfl,rfl,trivial⟩,M,Nat.zero_le _,rfl,fl_zero hk,fun j z h=>by omega⟩ ?_;clear F M;rintro m a w ⟨i,x,sz,rfl,F,M,hi,hxk,hfl,hwd⟩;revert a;refine wk ?_;refine qD rfl ?_ ?_
 ·intro h19;refine wk ?_;obtain ⟨Xe20,hXe20⟩:=Ap (xs:=(fm (F7 k b1 b14))) (i:=i) (by omega);obtain ⟨be20,oe20,_,Ie20,_,Ae20,rfl⟩:=Sq16.at hXe20;refine wk ?_;obtain ⟨Xe21,hXe21⟩:=Ap (xs:=Ce ((Lib.cut c [10]).1)) (i:=i+1) (by (have h9_:=hwsl;omega));obtain ⟨be21,oe21,_,Ie21,_,Ae21,⟨rfl,hsle21⟩⟩:=Sp4.at hXe21;refine wk ?_;have hwi:wr[i]?=some Xe21:=by have h_:=hXe21;rw [hws] at h_;simpa using h_
  have hwl:=So (List.mem_of_getElem? hXe21);refine A4 ent136 rfl rfl (Ame (s:=Xe21) M HG (by omega))<|?_;clear M;rintro _ w M ⟨zt22,ert22,rfl,het22,hat22⟩
  refine wk ?_;refine fun a F=>Og [(.free,0),(.free,1),(.free,2),(.free,3),(.pure,5),(.free,6),(.free,7),(.free,8),(.pure,9),(.keep,4),(.free,10),(.free,11)] [] (Keep Gq16 [.blk b5 [.slice ap4 ((Ce ((Lib.cut c [10]).1)).length) ((Ce ((Lib.cut c [10]).1)).length)] 24]) rfl (by kernel_rfl) (fun c a d v w h=>by cases d <;> exact h) (Ax (M.drew _)) ?_;replace M:=M.drew (w.drawn+1);revert a;refine wk ?_;refine k_f (fun a F w _=>Aej Pv.k het22 (F.ev rfl) rfl) rfl<|?_
  refine wk ?_
  rcases bE (!(De ert22)) with h23b | h24b
  ·skip
   have h23:=Ab h23b;have h23c:(De ert22)=false:=(Ab h23b);refine wk ?_
   generalize ({ w with drawn:=w.drawn+1 }:World)=w at M ⊢
   refine wk ?_;intro a F;refine Be F M Bd 4 ?_;clear F M a;intro w a M F;replace M:=z_M M;revert a;refine wk ?_;refine fun a F=>Bs F M (k:=4) rfl rfl Bd rfl rfl rfl rfl ?_;replace M:=M.perm (Af _ 3 _ rfl);replace M:=z_M M
   exact ⟨_,_,(hGp4.trans hGq16),M.weaken (cC (cN (.cons _ (cN (.cons _ (sR _)))))),x.kind,x.at_,x.count,x.to,none,0,0,false,_,_,rfl,rfl,by omega,by omega,Or.inr ⟨rfl,Or.inl ⟨Abg hws hk hkW hwi hat22 (by first | exact Or.inl (by assumption) | exact Or.inr (by assumption)),rfl⟩⟩⟩
  have h24:=Ac h24b;have h24c:(De ert22)=true:=(Ac h24b);refine wk ?_;obtain ⟨be25,oe25,_,Ie25,_,Ae25,⟨rfl,hsle25⟩⟩:=Sp4.at hXe21;refine wk ?_;refine fun a F=>Fj F rfl rfl (F4 h24c) ?_;revert a;refine wk ?_;refine A4 Ail rfl rfl (T9 (z:=zt22) M HG (Ade (ok_of hat22 (by assumption))))<|?_;clear M;rintro _ w M rfl
  refine Ao<|?_
  refine eQ (Ax M)<|?_
  refine wk ?_;refine Ae rfl ?_ ?_
  ·intro h26b;have h26:=dF (Ab h26b);have h26c:(decide ((Lib.itoa zt22)=Xe21))=false:=(Ab h26b);refine wk ?_;intro a F;refine Be F M Bd 4 ?_;clear F M a;intro w a M F;replace M:=z_M M;revert a;refine wk ?_;refine fun a F=>Bs F M (k:=4) rfl rfl Bd rfl rfl rfl rfl ?_;replace M:=M.perm (Af _ 3 _ rfl);replace M:=z_M M
   exact ⟨_,_,(hGp4.trans hGq16),M.weaken (cC (cN (.cons _ (cN (.cons _ (sR _)))))),x.kind,x.at_,x.count,x.to,none,0,0,false,_,_,rfl,rfl,by omega,by omega,Or.inr ⟨rfl,Or.inl ⟨Abg hws hk hkW hwi hat22 (by first | exact Or.inl (by assumption) | exact Or.inr (by assumption)),rfl⟩⟩⟩
  intro h27b;have h27:=dT (Ac h27b);have h27c:(decide ((Lib.itoa zt22)=Xe21))=true:=(Ac h27b);refine F3<|F1<|?_
  have hao:=ok_of hat22 (by assumption);have hiw:Lib.itoa zt22=Xe21:=by assumption
  have hXp2:(fm (F7 x.kind b1 b14))[i]?=some Xe20:=by rw [hxk];exact hXe20
  obtain ⟨hpk,hpf,hpw⟩:=put_ok hXp2 hfl hwd (Ade hao) (by rw [hiw];exact hwi);obtain ⟨hpa,hpp⟩:=Ahc (sz:=sz) (v:=zt22) hXp2;intro a F;refine Jo (fun a' w'=>Fits 133 a' [(0,.func (.func 86) #[.pointer (some ⟨b,0,none⟩)] #[]),(2,.pointer (some ⟨b1,0,none⟩)),(6,.pointer (some ⟨b5,0,none⟩)),(7,.pointer (some ⟨b7,0,none⟩)),(9,.pointer (some ⟨b14,0,none⟩)),(10,.slice aq16 ((fm (F7 k b1 b14)).length) (cq16)),(52,.slice aq16 ((fm (F7 k b1 b14)).length) (cq16)),(53,.int .i64 ((((fm (F7 k b1 b14)).length:Nat):Int))),(54,.int .i64 ((i:Nat):Int))]∧Mem w0 Gq16 (.blk b14 [.int .i64 ((L4 x sz Xe20.2 zt22).2)] 3::.blk b7 J7 139::.blk b5 [.slice ap4 ((Ce ((Lib.cut c [10]).1)).length) ((Ce ((Lib.cut c [10]).1)).length)] 24::.blk b [.string (str ((Lib.cut c [10]).2.1)),.int .i64 ((((l+1):Nat):Int))] 155::.blk b1 [.int .u8 ((((L4 x sz Xe20.2 zt22).1.kind:Nat):Int)),.int .i64 ((L4 x sz Xe20.2 zt22).1.at_),.int .i64 ((L4 x sz Xe20.2 zt22).1.count),.int .i64 ((L4 x sz Xe20.2 zt22).1.to),.slice none 0 0] 65::L) w') ?_ ?_
  ·skip
   rcases hpp with ⟨rfl,_⟩ | ⟨rfl,_⟩ | ⟨rfl,_⟩ | ⟨rfl,_⟩
   ·skip
    revert a;refine wk ?_;refine Dv Cq M 4 rfl rfl rfl rfl rfl rfl<|?_;clear M;intro w M
    refine Ao<|?_
    intro a F
    exact ⟨F.to ⟨rfl,rfl,rfl,rfl,rfl,rfl,rfl,rfl,rfl,trivial⟩,M⟩
   ·skip
    revert a;refine wk ?_;refine Dv Cq M 4 rfl rfl rfl rfl rfl rfl<|?_;clear M;intro w M
    refine Ao<|?_
    intro a F
    exact ⟨F.to ⟨rfl,rfl,rfl,rfl,rfl,rfl,rfl,rfl,rfl,trivial⟩,M⟩
   ·skip
    revert a;refine wk ?_;refine Dv Cq M 4 rfl rfl rfl rfl rfl rfl<|?_;clear M;intro w M
    refine Ao<|?_
    intro a F
    exact ⟨F.to ⟨rfl,rfl,rfl,rfl,rfl,rfl,rfl,rfl,rfl,trivial⟩,M⟩
   revert a;refine wk ?_;refine Dv Cq M 0 rfl rfl rfl rfl rfl rfl<|?_;clear M;intro w M
   refine Ao<|?_
   intro a F
   exact ⟨F.to ⟨rfl,rfl,rfl,rfl,rfl,rfl,rfl,rfl,rfl,trivial⟩,M⟩
  clear F M;rintro a w ⟨F,M⟩;revert a;refine wk ?_;intro a F
  exact ⟨_,by omega,i+1,(L4 x sz Xe20.2 zt22).1,(L4 x sz Xe20.2 zt22).2,rfl,F.to ⟨rfl,rfl,rfl,rfl,rfl,rfl,rfl,rfl,rfl,trivial⟩,M,by omega,hpk.trans hxk,hpf,hpw⟩
 intro h28;refine wk ?_;have hfe:=Sa (x:=x) (b:=b1) (b2:=b14) (sz:=sz);intro a F;rw [hxk] at hfe;have hwr:=wd_all hwd (by omega) (by omega);revert a;refine wk ?_
 rcases bE (decide (sz < 0)) with h29b | h30b
 ·skip
  have h29:=dT h29b;refine wk ?_;intro a F;refine Be F M Bd 4 ?_;clear F M a;intro w a M F;replace M:=z_M M;revert a;refine wk ?_;refine fun a F=>Bs F M (k:=4) rfl rfl Bd rfl rfl rfl rfl ?_;replace M:=M.perm (Af _ 3 _ rfl);replace M:=z_M M
  exact ⟨_,_,(hGp4.trans hGq16),M.weaken (cC (cN (.cons _ (cN (.cons _ (sR _)))))),x.kind,x.at_,x.count,x.to,none,0,0,false,_,_,rfl,rfl,by omega,by omega,Or.inr ⟨rfl,Or.inl ⟨Abf hws hfl (by rw [hxk];exact hkW) hwr (by omega),rfl⟩⟩⟩
 have h30:=dF h30b;refine wk ?_;refine qD rfl ?_ ?_
 ·intro h31;refine wk ?_;intro a F;refine Be F M Bd 4 ?_;clear F M a;intro w a M F;replace M:=z_M M;revert a;refine wk ?_;refine fun a F=>Bs F M (k:=4) rfl rfl Bd rfl rfl rfl rfl ?_;replace M:=M.perm (Af _ 3 _ rfl);replace M:=z_M M
  exact ⟨_,_,(hGp4.trans hGq16),M.weaken (cC (cN (.cons _ (cN (.cons _ (sR _)))))),x.kind,x.at_,x.count,x.to,none,0,0,false,_,_,rfl,rfl,by omega,by omega,Or.inr ⟨rfl,Or.inl ⟨Abf hws hfl (by rw [hxk];exact hkW) hwr (by omega),rfl⟩⟩⟩
 intro h32;refine wk ?_;have hh:=hfl.head (by omega);have hcc:=head_of hws (by rw [hxk];exact hkW) hwr hwt;obtain ⟨p,hp⟩:=Int.eq_ofNat_of_zero_le hh.rs.1;subst hp;have hp4:=hh.rs.2;refine wk ?_;have M:=M.nilrow 26 4;replace M:=z_M M;intro a F;refine Ba (fun m a' w'=>∃ (j:Nat),∃ (ys:List ItemD),∃ (cj:List UInt8),∃ (ar:Option Addr),∃ (nr:Nat),∃ (cr:Nat),∃ (csr:List Value),m=p - j∧∃ G33,Gle Gq16 G33∧Fits 133 a' [(0,.func (.func 86) #[.pointer (some ⟨b,0,none⟩)] #[]),(2,.pointer (some ⟨b1,0,none⟩)),(92,.int .i64 ((p:Nat):Int)),(93,.int .i64 ((j:Nat):Int))]∧Mem w0 G33 (.row (.slice ar nr cr) (nr) (csr) 26 4::.blk b14 [.int .i64 ((p:Nat):Int)] 3::.blk b7 J7 139::.blk b5 [.slice ap4 ((Ce ((Lib.cut c [10]).1)).length) ((Ce ((Lib.cut c [10]).1)).length)] 24::.blk b [.string (str cj),.int .i64 ((((l+1+j):Nat):Int))] 155::.blk b1 [.int .u8 ((x.kind:Nat):Int),.int .i64 x.at_,.int .i64 x.count,.int .i64 x.to,.slice ar nr cr] 65::L) w'∧(j≤p)∧(ys.length=j)∧(okI ys)∧((Lib.cut c [10]).2.1=Cc ys++cj)∧(cj.length≤c.length)∧(Els Bn 4 G33 csr ys)∧(nr≤j)) _ ⟨0,[],_,none,0,0,[],rfl,Gq16,Gle.refl _,F.to ⟨rfl,rfl,rfl,rfl,trivial⟩,M,Nat.zero_le _,rfl,(fun y hy=>by cases hy),rfl,by omega,Els.nil,by omega⟩ ?_;clear F M;rintro m a w ⟨j,ys,cj,ar,nr,cr,csr,rfl,G33,hG33,F,M,hj,hyl,hok,hcj,hcl2,Er,hnr⟩;replace HG:=HG.mono hG33;replace Sp4:=Sp4.mono Ay hG33;replace Sq16:=Sq16.mono Kl hG33;revert a;refine wk ?_;refine qD rfl ?_ ?_
 ·intro h34;refine wk ?_;replace M:=M.perm (Af _ 4 _ rfl);replace M:=z_M M;intro a F;refine Aam F ent86 (first:=[.pointer (some ⟨b,0,none⟩)]) rfl rfl rfl (Wg (c:=cj) (l:=(l+1+j)) M HG (by omega) (by omega)) ?_;clear F M a;rintro _ w a M rfl F;have hctk35:=Ib 10 cj;revert a;refine wk ?_;refine Am (fun a F=>C1 (F.ev rfl) (F.ev rfl) (by (first | omega | (simp only [List.length_append,List.length_cons,List.length_nil];omega)))) rfl<|D4 ent12 rfl rfl (Aez (s:=(((Lib.cut cj [10]).1)++([10]:List UInt8))) M HG (by (first | omega | (simp only [List.length_append,List.length_cons,List.length_nil];omega))))<|?_;clear M;rintro _ Gq36 w hGq36 M ⟨aq36,rfl,Sq36⟩
  replace HG:=HG.mono hGq36;replace Sp4:=Sp4.mono Ay hGq36;replace Sq16:=Sq16.mono Kl hGq36;replace Er:=Er.mono Ai hGq36;refine wk ?_
  rcases bE (!((Lib.cut cj [10]).2.2)) with h37b | h38b
  ·skip
   have h37:=Ab h37b;have h37c:((Lib.cut cj [10]).2.2)=false:=(Ab h37b);refine wk ?_;intro a F;refine Be F M Bd 5 ?_;clear F M a;intro w a M F;replace M:=z_M M;revert a;refine wk ?_;refine fun a F=>Bs F M (k:=5) rfl rfl Bd rfl rfl rfl rfl ?_;replace M:=z_M M
   exact ⟨_,_,(((hGp4.trans hGq16).trans hG33).trans hGq36),M.weaken (cC (cN (.cons _ (cN (.cons _ (cN (sR _))))))),x.kind,x.at_,x.count,x.to,ar,nr,cr,false,_,_,rfl,rfl,by omega,by omega,Or.inr ⟨rfl,Or.inr ⟨x,_,ys,cj,hh,hok,by omega,by omega,by rw [← hcj];exact hcc,Zb (c:=cj) (by omega) (by first | exact Or.inl (by assumption) | exact Or.inr (Or.inl (by assumption)) | exact Or.inr (Or.inl (by omega)) | exact Or.inr (Or.inr (by omega)))⟩⟩⟩
  have h38:=Ac h38b;have h38c:((Lib.cut cj [10]).2.2)=true:=(Ac h38b);refine wk ?_
  rcases bE (!(decide ((Di (((Lib.cut cj [10]).1)++([10]:List UInt8))).2.2=0))) with h39b | h40b
  ·skip
   have h39:=dF (Ab h39b);have h39c:(decide ((Di (((Lib.cut cj [10]).1)++([10]:List UInt8))).2.2=0))=false:=(Ab h39b);refine wk ?_;intro a F;refine Be F M Bd 5 ?_;clear F M a;intro w a M F;replace M:=z_M M;revert a;refine wk ?_;refine fun a F=>Bs F M (k:=5) rfl rfl Bd rfl rfl rfl rfl ?_;replace M:=z_M M
   exact ⟨_,_,(((hGp4.trans hGq16).trans hG33).trans hGq36),M.weaken (cC (cN (.cons _ (cN (.cons _ (cN (sR _))))))),x.kind,x.at_,x.count,x.to,ar,nr,cr,false,_,_,rfl,rfl,by omega,by omega,Or.inr ⟨rfl,Or.inr ⟨x,_,ys,cj,hh,hok,by omega,by omega,by rw [← hcj];exact hcc,Zb (c:=cj) (by omega) (by first | exact Or.inl (by assumption) | exact Or.inr (Or.inl (by assumption)) | exact Or.inr (Or.inl (by omega)) | exact Or.inr (Or.inr (by omega)))⟩⟩⟩
  have h40:=dT (Ac h40b);have h40c:(decide ((Di (((Lib.cut cj [10]).1)++([10]:List UInt8))).2.2=0))=true:=(Ac h40b);refine wk ?_;refine Ae rfl ?_ ?_
  ·intro h41b;have h41:=dF (Ab h41b);have h41c:(decide ((((Di (((Lib.cut cj [10]).1)++([10]:List UInt8))).1.length:Nat):Int)=1))=false:=(Ab h41b);refine wk ?_;intro a F;refine Be F M Bd 5 ?_;clear F M a;intro w a M F;replace M:=z_M M;revert a;refine wk ?_;refine fun a F=>Bs F M (k:=5) rfl rfl Bd rfl rfl rfl rfl ?_;replace M:=z_M M
   exact ⟨_,_,(((hGp4.trans hGq16).trans hG33).trans hGq36),M.weaken (cC (cN (.cons _ (cN (.cons _ (cN (sR _))))))),x.kind,x.at_,x.count,x.to,ar,nr,cr,false,_,_,rfl,rfl,by omega,by omega,Or.inr ⟨rfl,Or.inr ⟨x,_,ys,cj,hh,hok,by omega,by omega,by rw [← hcj];exact hcc,Zb (c:=cj) (by omega) (by first | exact Or.inl (by assumption) | exact Or.inr (Or.inl (by assumption)) | exact Or.inr (Or.inl (by omega)) | exact Or.inr (Or.inr (by omega)))⟩⟩⟩
  intro h42b;have h42:=dT (Ac h42b);have h42c:(decide ((((Di (((Lib.cut cj [10]).1)++([10]:List UInt8))).1.length:Nat):Int)=1))=true:=(Ac h42b);refine F3<|F1<|?_
  obtain ⟨y,hy1,hyok,hcy⟩:=Aqf (c:=cj) (by assumption) (by omega) (by omega) (by omega);intro a F;refine Og [(.free,0),(.pure,1),(.free,2),(.free,3),(.pure,4),(.keep,5),(.chg,6),(.free,7),(.chg,8)] [6,8] (Keep Gq36 [.blk b1 [.int .u8 ((x.kind:Nat):Int),.int .i64 x.at_,.int .i64 x.count,.int .i64 x.to,.slice ar nr cr] 65]) rfl (by kernel_rfl) (fun c a d v w h=>by cases d <;> exact h) (Ax (M.drew _)) ?_;replace M:=M.drew (w.drawn+1);revert a;refine wk ?_;obtain ⟨be43,oe43,_,Ie43,_,Ae43,hTe43⟩:=Sq36.at (show (Di ((Lib.cut cj [10]).1++[10])).1[0]?=some y by rw [hy1];rfl);obtain ⟨mae43,mce43,rfl,hke43,hte43,hxe43,hne43,SMe43⟩:=hTe43;have hIe43:(y.key < 18446744073709551616∧y.typ < 256∧y.text.length≤9223372036854775807):=⟨hke43,hte43,hxe43⟩;refine wk ?_;refine k_k rfl<|fun a F=>?_
  refine Ar F M Co.k Bi rfl rfl (cs:=[.int .u64 ((y.key:Nat):Int),.int .u8 ((y.typ:Nat):Int),.string (str y.text),.slice mae43 y.marks.length mce43]) rfl rfl (by simp [Value.oneCell']) (by decide) rfl ?_;clear F M a;intro v44 w a M F;obtain ⟨av44,cv44,rfl,hlev44,hcmv44,hlv44⟩:=M.row_shape (k:=0) rfl;revert a;refine Ao<|?_
  refine eQ (Ax M)<|?_
  have Eb:Els Bn 4 Gq36 [.int .u64 ((y.key:Nat):Int),.int .u8 ((y.typ:Nat):Int),.string (str y.text),.slice mae43 y.marks.length mce43] [y]:=⟨[.int .u64 ((y.key:Nat):Int),.int .u8 ((y.typ:Nat):Int),.string (str y.text),.slice mae43 y.marks.length mce43],[],rfl,rfl,⟨mae43,mce43,rfl,hIe43.1,hIe43.2.1,hIe43.2.2,(by have h_:=SMe43.bound;omega),SMe43⟩,rfl⟩;refine k_c rfl<|fun a F=>?_
  refine A3 F M (k:=2) (k2:=0) rfl rfl Co.k Bi rfl rfl (by decide) rfl rfl (by show _ * 56≤_;(try simp only [List.length_drop,List.length_take,List.length_append,List.length_cons,List.length_nil]);omega) (by (try simp only [List.length_drop,List.length_take,List.length_append,List.length_cons,List.length_nil]);omega) rfl ?_;clear F M a;intro v45 w a M F;have Ev45:=Els.append Er Eb;obtain ⟨av45,cv45,rfl,hlev45,hcmv45,hlv45⟩:=M.row_shape (k:=2) rfl;revert a;refine Ao<|?_
  replace M:=z_M M;intro a F;refine ⟨Keep Gq36 [.row (.slice av44 1 (cv44)) 1 ([.int .u64 ((y.key:Nat):Int),.int .u8 ((y.typ:Nat):Int),.string (str y.text),.slice mae43 y.marks.length mce43]) 26 4,.blk b [.string (str ((Lib.cut cj [10]).2.1)),.int .i64 (((((l+1+j)+1):Nat):Int))] 155,.row (.slice av45 (nr+1) (cv45)) (nr+1) (csr++([.int .u64 ((y.key:Nat):Int),.int .u8 ((y.typ:Nat):Int),.string (str y.text),.slice mae43 y.marks.length mce43])) 26 4,.blk b14 [.int .i64 ((p:Nat):Int)] 3,.blk b7 J7 139,.blk b5 [.slice ap4 ((Ce ((Lib.cut c [10]).1)).length) ((Ce ((Lib.cut c [10]).1)).length)] 24,.blk b1 [.int .u8 ((x.kind:Nat):Int),.int .i64 x.at_,.int .i64 x.count,.int .i64 x.to,.slice ar nr cr] 65],M.keep (Gle.refl _) (by simp),?_⟩;revert a;refine wk ?_;refine k_c rfl<|Dv Co M 6 rfl rfl rfl rfl rfl rfl<|?_;clear M;intro w M
  refine Ao<|?_
  replace M:=z_M M;intro a F;refine ⟨Keep Gq36 [.row (.slice av44 1 (cv44)) 1 ([.int .u64 ((y.key:Nat):Int),.int .u8 ((y.typ:Nat):Int),.string (str y.text),.slice mae43 y.marks.length mce43]) 26 4,.blk b [.string (str ((Lib.cut cj [10]).2.1)),.int .i64 (((((l+1+j)+1):Nat):Int))] 155,.row (.slice av45 (nr+1) (cv45)) (nr+1) (csr++([.int .u64 ((y.key:Nat):Int),.int .u8 ((y.typ:Nat):Int),.string (str y.text),.slice mae43 y.marks.length mce43])) 26 4,.blk b14 [.int .i64 ((p:Nat):Int)] 3,.blk b7 J7 139,.blk b5 [.slice ap4 ((Ce ((Lib.cut c [10]).1)).length) ((Ce ((Lib.cut c [10]).1)).length)] 24,.blk b1 [.int .u8 ((x.kind:Nat):Int),.int .i64 x.at_,.int .i64 x.count,.int .i64 x.to,.slice av45 (nr+1) (cv45)] 65],M.keep (Gle.refl _) (by simp),?_⟩;revert a;refine wk ?_;replace M:=M.perm (Af _ 6 _ rfl);replace M:=M.perm (Af _ 2 _ rfl);replace M:=M.perm (Af _ 6 _ rfl);replace M:=M.perm (Af _ 6 _ rfl);replace M:=M.perm (Af _ 6 _ rfl);replace M:=M.perm (Af _ 6 _ rfl);replace M:=z_M M;intro a F
  exact ⟨_,by omega,j+1,(ys++[y]),_,(av45),(nr+1),(cv45),csr++([.int .u64 ((y.key:Nat):Int),.int .u8 ((y.typ:Nat):Int),.string (str y.text),.slice mae43 y.marks.length mce43]),rfl,Gq36,(hG33.trans hGq36),F.to ⟨rfl,rfl,rfl,rfl,trivial⟩,(M.weaken (cC (.cons_cons _ (cC (.cons_cons _ (cC (.cons_cons _ (cN (sR _))))))))),by omega,by rw [List.length_append];simp only [List.length_cons,List.length_nil];omega,Apc hok hyok,by rw [hcj,Px,List.append_assoc,← hcy],by omega,Ev45,by omega⟩
 intro h46;refine Auf<|e_te<|e_te<|e_bh<|Cj<|?_
 obtain ⟨hnz47,Gz47,az47,cz47,hGz47,hez47,Sz47,M⟩:=M.freeze_row Ai (k:=0) rfl Er (by decide);clear hez47 az47 cz47;replace HG:=HG.mono hGz47;replace Sp4:=Sp4.mono Ay hGz47;replace Sq16:=Sq16.mono Kl hGz47;intro a F;rw [hnz47] at M Sz47;change Mem w0 Gz47 (.blk b14 [.int .i64 ((p:Nat):Int)] 3::.blk b7 J7 139::.blk b5 [.slice ap4 ((Ce ((Lib.cut c [10]).1)).length) ((Ce ((Lib.cut c [10]).1)).length)] 24::.blk b [.string (str cj),.int .i64 ((((l+1+j):Nat):Int))] 155::.blk b1 [.int .u8 ((x.kind:Nat):Int),.int .i64 x.at_,.int .i64 x.count,.int .i64 x.to,.slice ar ys.length cr] 65::L) _ at M;revert a;refine J3<|M7 Bd.k rfl rfl<|Nr Co M 4 rfl rfl rfl rfl<|?_
 refine D4 Ars rfl rfl (Xe (xs:=ys) M Sz47 (by omega) (fun x hx=>by have:=(hok x hx).1.2.2.2.1;omega))<|?_;clear M;rintro _ Gq48 w hGq48 M ⟨aq48,rfl,Sq48⟩
 replace HG:=HG.mono hGq48;replace Sp4:=Sp4.mono Ay hGq48;replace Sq16:=Sq16.mono Kl hGq48;replace Sz47:=Sz47.mono Ai hGq48;refine wk ?_;refine Dv Co M 4 rfl rfl rfl rfl rfl rfl<|?_;clear M;intro w M
 refine wk ?_;intro a F;refine Be F M Bd 4 ?_;clear F M a;intro w a M F;replace M:=z_M M;revert a;refine wk ?_;refine fun a F=>Bs F M (k:=4) rfl rfl Bd rfl rfl rfl rfl ?_;replace M:=M.perm (Af _ 3 _ rfl);replace M:=z_M M
 exact ⟨_,_,((((hGp4.trans hGq16).trans hG33).trans hGz47).trans hGq48),M.weaken (cC (cN (.cons _ (cN (.cons _ (sR _)))))),x.kind,x.at_,x.count,x.to,aq48,ys.length,ys.length,true,_,_,rfl,rfl,by omega,by omega,Or.inl ⟨rfl,x,_,ys,hh,hok,by omega,by rw [← hcj];exact hcc,by omega,⟨aq48,ys.length,rfl,(by have:=hh.kd;show x.kind < 256;omega),hh.ra,hh.rc,hh.rt,(by show ys.length≤_;omega),Sq48⟩⟩⟩
variable {w0 w:World} {G:Aq} {L:List Res}
set_option maxHeartbeats 1600000
theorem Afe (M:Mem w0 G L w) {n c:Nat} {ad:Option Addr} (h:n≤c) (hc:c≤9223372036854775807):Calls Tryz.prog 87 #[.slice ad n c] w (Bu w0 G L fun v=>v=.slice ad n n):=by
 refine Al (vs:=[_]) Tryz.func87 rfl (n:=9) rfl rfl<|?_
 refine wk ?_;refine Am (fun a F=>Sz (h:=n) (q:=n) I4.k Bd (F.ev rfl) (F.ev rfl) (by omega) (F.ev rfl) (by omega) (by omega) (by omega)) rfl<|?_
 refine wk ?_;refine Ad rfl rfl<|?_
 exact ⟨M,rfl⟩
theorem Abi (M:Mem w0 G L w) {an:Option Addr} {cn:Nat} {ns:List NotD} (SN:Ag E6 5 G (.slice an ns.length cn) ns) (hlen:ns.length≤1000000) :
  Calls Tryz.prog 88 #[.slice an ns.length cn] w (Ke w0 G fun L' v=>∃ a' n' c' cs',v=.slice a' n' c'∧L' = (.row (.slice a' n' c') n' cs' 65 5::L)∧n' = ns.length∧Els E6 5 G cs' ns):=by
 refine Al (vs:=[_]) Tryz.func88 rfl (n:=8) rfl rfl<|?_
 refine wk ?_;refine Am (fun a F=>Ael I4.k (F.ev rfl) (F.ev rfl)) rfl<|?_
 refine Ao<|F1<|?_
 refine Ae rfl ?_ ?_
 ·intro h1b;have h1:((an).isNone)=true:=h1b;refine wk ?_;refine Ad rfl rfl<|?_
  have h0:=SN.nilz (by assumption)
  exact ⟨_,M.nilrow 65 5,none,0,0,[],rfl,rfl,by rw [h0];rfl,by rw [h0];exact Els.nil⟩
 intro h2b;have h2:((an).isNone)=false:=h2b;refine wk ?_;intro a F;refine Th F M I4.k Bd rfl ?_;clear F M a;intro v3 w a M F;obtain ⟨av3,cv3,rfl,hlev3,hcmv3,hlv3⟩:=M.row_shape (k:=0) rfl;revert a;refine C0 rfl<|?_
 intro a F;refine Iy F M (k:=0) rfl I4.k Bd rfl rfl (by decide) rfl SN rfl (by show _ * 56≤_;(try simp only [List.length_drop,List.length_take,List.length_append,List.length_cons,List.length_nil]);omega) (by (try simp only [List.length_drop,List.length_take,List.length_append,List.length_cons,List.length_nil]);omega) rfl ?_;clear F M a;intro v4 csv4 w a M Ev4 F;have Ev4:=Els.append Els.nil Ev4;obtain ⟨av4,cv4,rfl,hlev4,hcmv4,hlv4⟩:=M.row_shape (k:=0) rfl;revert a;refine wk ?_;refine Ad rfl rfl<|?_
 replace M:=z_M M;simp only [Nat.zero_add,List.nil_append] at M ⊢
 exact ⟨_,M,_,_,_,_,rfl,rfl,rfl,by have h:=Ev4;simp only [List.nil_append] at h;exact h⟩
def PF (s:List UInt8) (r:List NotD × Nat × Int):Prop:=(1048576 < s.length∧r=([],0,3))∨(s.length≤1048576∧PR [] s r)
theorem PF.uniq {s:List UInt8} {a b:List NotD × Nat × Int} (h1:PF s a) (h2:PF s b):a=b:=by
 rcases h1 with ⟨h1,rfl⟩ | ⟨h1,h3⟩ <;> rcases h2 with ⟨h2,rfl⟩ | ⟨h2,h4⟩
 ·rfl
 ·omega
 ·omega
 exact h3.uniq h4
theorem Apy (x:NotD) (sz:Int):1≤(D7 x sz).length:=by unfold D7;simp only [List.length_append,List.length_cons,List.length_nil];omega
theorem Abb (M:Mem w0 G L w) (HG:Globs 0 1 2 3 G) {s:List UInt8} (hs:s.length≤9223372036854775807):Calls Tryz.prog 33 #[.string (str s)] w (Ret w0 G L fun G' v=>∃ (a:Option Addr) (ys:List NotD) (ln:Nat) (e:Int),v=.tuple #[.slice a ys.length ys.length,.int .i64 ((ln:Nat):Int),.int .i64 e]∧Ag E6 5 G' (.slice a ys.length ys.length) ys∧PF s (ys,ln,e)):=by
 refine Al (vs:=[_]) Tryz.func33 rfl (n:=61) rfl rfl<|?_
 refine wk ?_;refine qD rfl ?_ ?_
 ·intro h1;refine wk ?_;refine Zn rfl rfl rfl rfl<|?_
  exact ⟨_,(Gle.refl _),M,none,[],0,_,rfl,Ag.nil,Or.inl ⟨by omega,rfl⟩⟩
 intro h2;refine wk ?_;refine Am (fun a F=>Ah (cs:=[.string (str s),.int .i64 0]) (ps:=[(0,.string (str s))]) Ads.k rfl Ads (F.evp rfl) rfl) rfl<|B2 M rfl rfl rfl<|?_;clear M;intro b3 w M
 refine wk ?_;have M:=M.nilrow 65 5;replace M:=z_M M;intro a F;refine Ba (fun m a' w'=>∃ (xs:List NotD),∃ (cj:List UInt8),∃ (ar:Option Addr),∃ (nr:Nat),∃ (cr:Nat),∃ (csr:List Value),m=cj.length∧∃ G4,Gle G G4∧Fits 61 a' [(5,.pointer (some ⟨b3,0,none⟩)),(2,.slice ar nr cr)]∧Mem w0 G4 (.row (.slice ar nr cr) (nr) (csr) 65 5::.blk b3 [.string (str cj),.int .i64 ((((nlN xs):Nat):Int))] 155::L) w'∧(∀ r,PR xs cj r→PR [] s r)∧(xs.length≤32)∧(cj.length≤1048576)∧(nlN xs≤1025 * xs.length)∧(Els E6 5 G4 csr xs)∧(nr=xs.length)) _ ⟨[],s,none,0,0,[],rfl,G,Gle.refl _,F.to ⟨rfl,rfl,trivial⟩,M,fun r h=>h,by decide,by omega,by decide,Els.nil,rfl⟩ ?_;clear F M;rintro m a w ⟨xs,cj,ar,nr,cr,csr,rfl,G4,hG4,F,M,hP,hxl,hcj,hnl,Er,hnr⟩;replace HG:=HG.mono hG4;revert a;refine wk ?_;refine Ae rfl ?_ ?_
 ·intro h5b;have h5:=dF (Ab h5b);have h5c:(decide (cj=([]:List UInt8)))=false:=(Ab h5b);refine wk ?_;refine Am (fun a F=>U8 (F.ev rfl)) rfl<|?_
  replace M:=M.perm (Af _ 1 _ rfl);replace M:=z_M M;intro a F;refine Ch F ent85 rfl rfl (Abc (c:=cj) (l:=(nlN xs)) M HG (by omega) (by omega)) ?_;clear F M a;rintro _ Gq6 _ w a hGq6 M ⟨kq6,a1q6,b1q6,t1q6,adq6,lnq6,cnq6,okq6,cq6,lq6,rfl,rfl,hlcq6,hllq6,hokq6⟩ F;replace HG:=HG.mono hGq6;replace Er:=Er.mono Aj hGq6;replace M:=z_M M;revert a;refine wk ?_;refine B1 M Bd rfl rfl<|?_;clear M;intro b7 w M
  intro a F;refine Be F M Bd 0 ?_;clear F M a;intro w a M F;replace M:=z_M M;revert a;refine Ew rfl<|Cj<|J4<|Cj<|?_
  refine fun a F=>Jo (fun a' w'=>∃ (bb:Bool),Fits 61 a' [(2,.slice ar nr cr),(5,.pointer (some ⟨b3,0,none⟩)),(6,.int .i64 (((((nlN xs):Nat):Int))+1)),(7,.pointer (some ⟨b7,0,none⟩)),(8,.bool okq6),(31,.bool bb)]∧Mem w0 Gq6 (.blk b7 [.int .u8 ((kq6:Nat):Int),.int .i64 a1q6,.int .i64 b1q6,.int .i64 t1q6,.slice adq6 lnq6 cnq6] 65::.blk b3 [.string (str cq6),.int .i64 ((lq6:Nat):Int)] 155::.row (.slice ar nr cr) (nr) (csr) 65 5::L) w'∧(bb=true↔xs.length=32∧(okq6=true∨nlN xs+1 < lq6))) ?_ ?_
  ·skip
   revert a;refine wk ?_
   rcases bE (decide (((nr:Nat):Int)=32)) with h9b | h12b
   ·skip
    have h9:=dT h9b;refine wk ?_
    rcases bE (okq6) with h10b | h11b
    ·skip
     have h10:(okq6)=true:=h10b;refine g_f rfl h10b<|g_f rfl h10b<|g_f rfl h10b<|g_f rfl h10b<|g_f rfl h10b<|g_f rfl h10b<|g_t rfl h9b<|Aod rfl h10b rfl<|Aod rfl h9b rfl<|Ew rfl<|Ao<|?_
     intro a F
     exact ⟨true,F.to ⟨rfl,rfl,rfl,rfl,rfl,rfl,trivial⟩,M,by clear F M;first | (simp only [Bool.true_eq_false,true_iff,false_iff,Bool.false_eq_true,decide_eq_true_eq];first | exact ⟨by omega,Or.inl (by assumption)⟩ | (rintro ⟨h1_,h2_⟩;omega) | grind) | grind⟩
    have h11:(okq6)=false:=h11b;refine wk ?_;intro a F
    exact ⟨(decide (((((nlN xs):Nat):Int))+1 < ((lq6:Nat):Int))),F.to ⟨rfl,rfl,rfl,rfl,rfl,rfl,trivial⟩,M,by clear F M;first | (simp only [Bool.true_eq_false,true_iff,false_iff,Bool.false_eq_true,decide_eq_true_eq];first | exact ⟨by omega,Or.inl (by assumption)⟩ | (rintro ⟨h1_,h2_⟩;omega) | grind) | grind⟩
   have h12:=dF h12b;refine wk ?_;intro a F
   exact ⟨false,F.to ⟨rfl,rfl,rfl,rfl,rfl,rfl,trivial⟩,M,by clear F M;first | (simp only [Bool.true_eq_false,true_iff,false_iff,Bool.false_eq_true,decide_eq_true_eq];first | exact ⟨by omega,Or.inl (by assumption)⟩ | (rintro ⟨h1_,h2_⟩;omega) | grind) | grind⟩
  clear F M;rintro a w ⟨bb,F,M,hbb⟩;revert a;refine F1<|?_
  refine Ae rfl ?_ ?_
  ·intro h13b;have h13:(bb)=true:=h13b;refine wk ?_;refine Zn rfl rfl rfl rfl<|?_
   exact ⟨_,(hG4.trans hGq6),M.weaken dS3,none,[],((nlN xs)+1),_,rfl,Ag.nil,Or.inr ⟨by omega,hP _ (by obtain ⟨h1_,h2_⟩:=hbb.1 (by assumption);rcases hokq6 with ⟨_,x,sz,ys,hh,_,_,hce,_⟩ | ⟨h3_,⟨_,h4_⟩ | ⟨x,sz,ys,r,hh,_,_,_,hce,_⟩⟩;exact PR.full ⟨x,sz,_,hh,hce⟩ h1_;(exfalso;rcases h2_ with h2_ | h2_;(rw [h3_] at h2_;cases h2_);omega);exact PR.full ⟨x,sz,_,hh,hce⟩ h1_)⟩⟩
  intro h14b;have h14:(bb)=false:=h14b;refine wk ?_;refine Ae rfl ?_ ?_
  ·intro h15b;have h15:=Ab h15b;have h15c:(okq6)=false:=(Ab h15b);refine Cj<|?_
   refine fun a F=>E3 [(true,0),(true,1),(true,2),(true,3),(true,4),(true,5),(true,6)] (Keep Gq6 [.blk b7 [.int .u8 ((kq6:Nat):Int),.int .i64 a1q6,.int .i64 b1q6,.int .i64 t1q6,.slice adq6 lnq6 cnq6] 65,.blk b3 [.string (str cq6),.int .i64 ((lq6:Nat):Int)] 155]) rfl (by kernel_rfl) (fun c a d v w h=>by cases d <;> exact h) (Ax (M.drew _)) ?_;replace M:=M.drew (w.drawn+1);revert a;refine wk ?_
   generalize ({ w with drawn:=w.drawn+1 }:World)=w at M ⊢
   refine wk ?_;refine Zn rfl rfl rfl rfl<|?_
   exact ⟨_,(hG4.trans hGq6),M.weaken dS3,none,[],lq6,_,rfl,Ag.nil,Or.inr ⟨by omega,hP _ (by rcases hokq6 with ⟨h3_,_⟩ | ⟨h3_,⟨h5_,h4_⟩ | ⟨x,sz,ys,r,hh,hoi,hlt,hl,hce,hni⟩⟩;(exfalso;simp_all);(rw [h4_];exact PR.nohead (by assumption) h5_);(rw [hl];exact PR.bad hh (fun h_=>absurd (hbb.2 ⟨h_,Or.inr (by omega)⟩) (by simp_all)) hce hoi hlt hni))⟩⟩
  intro h16b;have h16:=Ac h16b;have h16c:(okq6)=true:=(Ac h16b);refine wk ?_;have hokt:okq6=true:=by first | assumption | simp_all
  rcases hokq6 with ⟨_,x,sz,ys,hh,hoi,hyl,hce,hle,hrd⟩ | ⟨h_,_⟩
  intro a F
  case inr=>rw [hokt] at h_;cases h_
  have hx32:xs.length≠32:=fun h_=>absurd (hbb.2 ⟨h_,Or.inl hokt⟩) (by simp_all);have hl9:lq6=nlN (xs++[{ x with items:=ys }]):=by rw [Tz];show _=_+(1+ys.length);omega
  have hyl2:ys.length≤1024:=by have:=hh.rs;omega
  subst hl9;revert a;refine wk ?_;intro a F;refine Ar F M I4.k Bd rfl rfl (cs:=[.int .u8 ((kq6:Nat):Int),.int .i64 a1q6,.int .i64 b1q6,.int .i64 t1q6,.slice adq6 lnq6 cnq6]) rfl rfl (by simp [Value.oneCell']) (by decide) rfl ?_;clear F M a;intro v17 w a M F;obtain ⟨av17,cv17,rfl,hlev17,hcmv17,hlv17⟩:=M.row_shape (k:=0) rfl;have Eb:Els E6 5 Gq6 [.int .u8 ((kq6:Nat):Int),.int .i64 a1q6,.int .i64 b1q6,.int .i64 t1q6,.slice adq6 lnq6 cnq6] [{ x with items:=ys }]:=⟨[.int .u8 ((kq6:Nat):Int),.int .i64 a1q6,.int .i64 b1q6,.int .i64 t1q6,.slice adq6 lnq6 cnq6],[],rfl,rfl,hrd,rfl⟩;refine A3 F M (k:=3) (k2:=0) rfl rfl I4.k Bd rfl rfl (by decide) rfl rfl (by show _ * 56≤_;(try simp only [List.length_drop,List.length_take,List.length_append,List.length_cons,List.length_nil]);omega) (by (try simp only [List.length_drop,List.length_take,List.length_append,List.length_cons,List.length_nil]);omega) rfl ?_;clear F M a;intro v18 w a M F;have Ev18:=Els.append Er Eb;obtain ⟨av18,cv18,rfl,hlev18,hcmv18,hlv18⟩:=M.row_shape (k:=3) rfl;revert a;refine wk ?_;replace M:=M.perm (Af _ 2 _ rfl);replace M:=M.perm (Af _ 3 _ rfl);replace M:=z_M M;intro a F
  exact ⟨_,(by have h9_:=congrArg List.length hce;have h8_:=Apy x sz;simp only [List.length_append] at h9_;omega),(xs++[{ x with items:=ys }]),cq6,(av18),(nr+1),(cv18),csr++([.int .u8 ((kq6:Nat):Int),.int .i64 a1q6,.int .i64 b1q6,.int .i64 t1q6,.slice adq6 lnq6 cnq6]),rfl,Gq6,(hG4.trans hGq6),F.to ⟨rfl,rfl,trivial⟩,(M.weaken (cC (.cons_cons _ (cN (.cons _ (sR _)))))),fun r h=>hP r (PR.step hh (by omega) hce hoi hyl h),by rw [List.length_append];simp only [List.length_cons,List.length_nil];omega,by omega,by rw [Tz,List.length_append];simp only [List.length_cons,List.length_nil];omega,Ev18,by rw [List.length_append,hnr];rfl⟩
 intro h19b;have h19:=dT (Ac h19b);have h19c:(decide (cj=([]:List UInt8)))=true:=(Ac h19b);refine wk ?_;obtain ⟨hnz20,Gz20,az20,cz20,hGz20,hez20,Sz20,M⟩:=M.freeze_row Aj (k:=0) rfl Er (by decide);clear hez20 az20 cz20;replace HG:=HG.mono hGz20;intro a F;rw [hnz20] at F Sz20;revert a;refine wk ?_;refine Py ent88 rfl rfl (Abi (ns:=xs) M Sz20 (by omega))<|?_;clear M;rintro _ _ w M ⟨ak21,nk21,ck21,csk21,rfl,rfl,hnk21,Ek21⟩
 subst hnk21;have sh22:=M.row_bound (k:=0) rfl;refine A4 ent87 rfl rfl (Afe M sh22.1 sh22.2)<|?_;clear M;rintro _ w M rfl
 obtain ⟨hnz23,Gz23,az23,cz23,hGz23,hez23,Sz23,M⟩:=M.freeze_row Aj (k:=0) rfl Ek21 (by decide);clear hez23 az23 cz23;replace HG:=HG.mono hGz23;replace Sz20:=Sz20.mono Aj hGz23;have S24:Ag E6 5 Gz23 (.slice ak21 ((xs).length) ((xs).length)) (xs):=Sz23.clip;refine wk ?_;refine Zn rfl rfl rfl rfl<|?_
 exact ⟨_,((hG4.trans hGz20).trans hGz23),M.weaken dS1,ak21,xs,0,0,rfl,S24,Or.inr ⟨by omega,hP _ (by rw [show cj=[] from (by first | assumption | simp_all)];exact PR.done)⟩⟩
abbrev ti39:TI:=⟨.array 4 5,4,4,.agg #[.int .u8 0,.int .u8 0,.int .u8 0,.int .u8 0]⟩
theorem I5:TOK Tryz.prog 39 ti39:=⟨by kernel_rfl,by kernel_rfl,by kernel_rfl⟩
abbrev ti40:TI:=⟨.slice 39,1,24,.slice none 0 0⟩
theorem Vs:TOK Tryz.prog 40 ti40:=⟨by kernel_rfl,by kernel_rfl,by kernel_rfl⟩
abbrev ti42:TI:=⟨.struct [(0,1,40)],1,24,.agg #[.slice none 0 0]⟩
theorem Z3:TOK Tryz.prog 42 ti42:=⟨by kernel_rfl,by kernel_rfl,by kernel_rfl⟩
abbrev ti46:TI:=⟨.struct [(0,1,42),(1,1,32),(2,1,5)],3,56,.agg #[.slice none 0 0,.slice none 0 0,.int .u8 0]⟩
theorem Ol:TOK Tryz.prog 46 ti46:=⟨by kernel_rfl,by kernel_rfl,by kernel_rfl⟩
abbrev ti71:TI:=⟨.slice 93,1,24,.slice none 0 0⟩
theorem Vr:TOK Tryz.prog 71 ti71:=⟨by kernel_rfl,by kernel_rfl,by kernel_rfl⟩
abbrev ti73:TI:=⟨.struct [(0,1,71)],1,24,.agg #[.slice none 0 0]⟩
theorem Vq:TOK Tryz.prog 73 ti73:=⟨by kernel_rfl,by kernel_rfl,by kernel_rfl⟩
abbrev ti93:TI:=⟨.array 5 5,5,5,.agg #[.int .u8 0,.int .u8 0,.int .u8 0,.int .u8 0,.int .u8 0]⟩
theorem Ga:TOK Tryz.prog 93 ti93:=⟨by kernel_rfl,by kernel_rfl,by kernel_rfl⟩
theorem ent19:Ent Tryz.prog 19:=.mk' Tryz.func19 (by kernel_rfl) (by kernel_rfl)
theorem ent23:Ent Tryz.prog 23:=.mk' Tryz.func23 (by kernel_rfl) (by kernel_rfl)
theorem Aiq:Ent Tryz.prog 26:=.mk' Tryz.func26 (by kernel_rfl) (by kernel_rfl)
theorem ent29:Ent Tryz.prog 29:=.mk' Tryz.func29 (by kernel_rfl) (by kernel_rfl)
theorem Aio:Ent Tryz.prog 60:=.mk' Tryz.func60 (by kernel_rfl) (by kernel_rfl)
theorem ent65:Ent Tryz.prog 65:=.mk' Tryz.func65 (by kernel_rfl) (by kernel_rfl)
theorem ent76:Ent Tryz.prog 76:=.mk' Tryz.func76 (by kernel_rfl) (by kernel_rfl)
instance:CT Tryz.prog 39 ti39:=⟨I5⟩
instance:CT Tryz.prog 40 ti40:=⟨Vs⟩
instance:CT Tryz.prog 42 ti42:=⟨Z3⟩
instance:CT Tryz.prog 46 ti46:=⟨Ol⟩
instance:CT Tryz.prog 71 ti71:=⟨Vr⟩
instance:CT Tryz.prog 73 ti73:=⟨Vq⟩
instance:CT Tryz.prog 93 ti93:=⟨Ga⟩
end Go.Proofs.YtmmhmcplegpenaaGreatDoor
namespace Go.Proofs.YtmmhmcplegpenaaGreatDoor.T
open Go Go.Y Go.Proofs
instance instNameB:DecidablePred C3:=fun c=>by unfold C3;infer_instance
instance instName:DecidablePred Ck:=fun s=>by unfold Ck;infer_instance
instance instStrB:DecidablePred Ir:=fun c=>by unfold Ir;infer_instance
instance instStr:DecidablePred Str:=fun s=>by unfold Str;infer_instance
instance instEqAttr:DecidableEq AttrD:=fun a b=>decidable_of_iff (a.n=b.n∧a.v=b.v) (by cases a;cases b;simp)
instance instEqSlot:DecidableEq SlotD:=fun a b=>decidable_of_iff (a.n=b.n∧a.src=b.src∧a.v=b.v) (by cases a;cases b;simp)
def Od {α:Type} (p:α→Bool) (q:α→α→Bool):List α→Bool
 | []=>true
 | [a]=>p a
 | a::b::l=>p a && q a b && Od p q (b::l)
theorem Oc {α:Type} {p:α→Bool} {q:α→α→Bool}:∀ l:List α,Od p q l=true↔∀ (i:Nat) (x:α),l[i]?=some x→p x=true∧∀ y,0 < i→l[i - 1]?=some y→q y x=true
 | []=>by simp [Od]
 | [a]=>by
  simp only [Od]
  constructor
  ·intro h i x hx
   match i with
   | 0=>simp only [List.getElem?_cons_zero,Option.some.injEq] at hx;subst hx;exact ⟨h,fun y h0=>by omega⟩
   | i+1=>simp at hx
  ·intro h;exact (h 0 a rfl).1
 | a::b::l=>by
  simp only [Od,Bool.and_eq_true,Oc (b::l)]
  constructor
  ·rintro ⟨⟨h1,h2⟩,h3⟩ i x hx
   match i with
   | 0=>simp only [List.getElem?_cons_zero,Option.some.injEq] at hx;subst hx;exact ⟨h1,fun y h0=>by omega⟩
   | 1 =>
    simp only [List.getElem?_cons_succ,List.getElem?_cons_zero,Option.some.injEq] at hx;subst hx;refine ⟨(h3 0 b rfl).1,fun y _ hy=>?_⟩;simp only [Nat.sub_self,List.getElem?_cons_zero,Option.some.injEq] at hy;subst hy;exact h2
   | i+2 =>
    simp only [List.getElem?_cons_succ] at hx;obtain ⟨h4,h5⟩:=h3 (i+1) x (by simpa using hx)
    exact ⟨h4,fun y _ hy=>h5 y (by omega) (by simpa using hy)⟩
  ·intro h;refine ⟨⟨(h 0 a rfl).1,(h 1 b rfl).2 a (by decide) rfl⟩,fun i x hx=>?_⟩;obtain ⟨h4,h5⟩:=h (i+1) x (by simpa using hx)
   exact ⟨h4,fun y h0 hy=>h5 y (by omega) (by
    obtain ⟨i',rfl⟩:∃ i',i=i' + 1:=⟨i - 1,by omega⟩
    simpa using hy)⟩
instance instAttrsOk:DecidablePred Hq:=fun l=>decidable_of_iff (Od (fun x=>decide (Ck x.n∧Str x.v)) (fun y x=>Op.bytesLess y.n x.n) l=true) (by
 rw [Oc];unfold Hq;simp only [decide_eq_true_eq])
instance instSlotAt:DecidablePred D3:=fun x=>by unfold D3;infer_instance
instance instSlotsOk:DecidablePred Gx:=fun l=>decidable_of_iff (l.length≤8∧Od (fun x=>decide (D3 x)) (fun y x=>Op.bytesLess y.n x.n) l=true) (by
 rw [Oc];unfold Gx Gs;simp only [decide_eq_true_eq]
 exact ⟨fun h=>⟨h.1,fun m x _ hx=>h.2 m x hx⟩,fun h=>⟨h.1,fun m x hx=>h.2 m x (A0 hx) hx⟩⟩)
instance instKeysOk:DecidablePred Of:=fun l=>decidable_of_iff (l.Pairwise fun a b=>b.key≠[]→a.key≠b.key) (by
 rw [List.pairwise_iff_getElem];unfold Of
 constructor
 ·intro h i j a b hij ha hb;obtain ⟨h1,rfl⟩:=List.getElem?_eq_some_iff.1 ha;obtain ⟨h2,rfl⟩:=List.getElem?_eq_some_iff.1 hb
  exact h i j h1 h2 hij
 intro h i j h1 h2 hij
 exact h i j _ _ hij (List.getElem?_eq_getElem h1) (List.getElem?_eq_getElem h2))
instance instAlone:DecidablePred Hr:=fun x=>by unfold Hr;infer_instance
instance instAloneP:DecidablePred Bc:=fun x=>by unfold Bc;infer_instance
def decOk {β:Type} (A:Tr β→Prop) [DecidablePred A]:(n:Nat)→(x:Tr β)→Decidable (Tr.Ok A n x)
 | 0,_=>isFalse id
 | n+1,x=>by
  have:∀ c,Decidable (Tr.Ok A n c):=decOk A n
  exact inferInstanceAs (Decidable (A x∧∀ c∈x.kids,Tr.Ok A n c))
instance instOk {β:Type} (A:Tr β→Prop) [DecidablePred A] (n:Nat):DecidablePred (Tr.Ok A n):=decOk A n
instance instValid:DecidablePred Hm:=fun x=>by unfold Hm;infer_instance
instance instValidP:DecidablePred ValidP:=fun x=>by unfold ValidP;infer_instance
instance instItemOk:DecidablePred ItemOk:=fun x=>by unfold ItemOk;infer_instance
end Go.Proofs.YtmmhmcplegpenaaGreatDoor.T
namespace Go.Proofs.YtmmhmcplegpenaaGreatDoor
open Go Go.Y Go.RowKit
def Yf:T.PT:=.mk 1 [114,111,119] [] [] [] []
def c3:RulesD:=⟨[⟨Yf,10,false,0⟩],1⟩
def it3 (k:Nat):ItemD:=⟨k,0,[],[]⟩
def en3 (k:Nat):EntD:=⟨it3 k,10,false⟩
def l3:List EntD:=[en3 1,en3 2,en3 3]
theorem V2:T.ValidP Yf:=⟨rfl,by decide,by decide⟩
theorem Adb:Cy c3:=⟨⟨by decide,by decide⟩,fun k hk=>by rw [show k=⟨Yf,10,false,0⟩ by simpa [c3] using hk];exact ⟨by decide,V2⟩⟩
theorem row_one {x:T.ItemD}:T.cntF (T.node1 x Yf)=1:=by
 have h:T.node1 x Yf=.mk 1 [114,111,119] [] [] [] []:=by simp [T.node1,Yf,T.madesF,Tr.kids,Tr.as,Tr.tag,Tr.key]
 rw [h];unfold T.cntF;rw [if_pos (by decide)];rfl
theorem Auu {x:ItemD} (h:ItemOk 1 x):Gu c3 x=0:=by
 have ht:=h.2.1;have h0:x.typ=0:=by omega
 rw [Nw (k:=⟨Yf,10,false,0⟩) (by rw [h0];rfl)]
 exact T.rend_ok (by decide) V2 (tI_ok h) (by rw [row_one];decide)
theorem Aix {x:ItemD} (h:ItemOk 1 x):Dc c3 x=10:=by
 have ht:=h.2.1;have h0:x.typ=0:=by omega
 rw [H2 (k:=⟨Yf,10,false,0⟩) (by rw [h0];rfl)]
theorem Pn {k:Nat} (h:ItemOk 1 (it3 k)):Bp c3 (it3 k)=en3 k:=by unfold Bp;rw [Aix h];rfl
theorem Auv {l:List EntD} {xs:List ItemD} (h1:∀ x∈xs,ItemOk 1 x) (h2:∀ i x,xs[i]?=some x→¬ (Cx l x.key∨Je (xs.take i) x.key)):Lg c3 l xs=0:=by
 refine Dh.2 fun i hi=>?_;obtain ⟨x,hx⟩:=Ap hi;rw [N6 hx]
 exact J0 (h1 x (List.mem_of_getElem? hx)) (h2 i x hx) (Auu (h1 x (List.mem_of_getElem? hx)))
theorem ok3 {k:Nat} (h:¬ k=0):ItemOk 1 (it3 k):=by
 have h1:Str ([]:List UInt8):=by decide
 have h2:∀ s∈([]:List (List UInt8)),Ck s:=fun s hs=>by cases hs
 exact ⟨h,(show ((0:Nat):Int) < 1 by decide),h1,Nat.zero_le _,h2⟩
theorem res3:F8 c3 [] 0 [it3 1,it3 2,it3 3]=(l3,0):=by
 have h1:∀ x∈[it3 1,it3 2,it3 3],ItemOk 1 x:=by
  intro x hx;simp only [List.mem_cons,List.not_mem_nil,or_false] at hx
  rcases hx with rfl | rfl | rfl <;> exact ok3 (by decide)
 have h2:[it3 1,it3 2,it3 3].map (Bp c3)=l3:=by
  simp only [List.map_cons,List.map_nil,Pn (ok3 (show ¬ 1=0 by decide)),Pn (ok3 (show ¬ 2=0 by decide)),Pn (ok3 (show ¬ 3=0 by decide))];rfl
 rw [Wy (by decide) (by decide) (Auv h1 ?_) (by rw [h2];decide),h2]
 ·rfl
 intro i x hx
 rcases i with _ | _ | _ | i <;> simp only [List.getElem?_cons_zero,List.getElem?_cons_succ,List.getElem?_nil,Option.some.injEq,reduceCtorEq] at hx
 ·subst hx;simp [Cx,Je]
 ·subst hx;simp [Cx,Je,it3]
 subst hx;simp [Cx,Je,it3]
theorem ins9:F8 c3 [en3 2,en3 3] 2 [it3 9]=([en3 2,en3 3,en3 9],0):=by
 have h1:∀ x∈[it3 9],ItemOk 1 x:=by intro x hx;rw [List.mem_singleton.1 hx];exact ok3 (by decide)
 have h2:[it3 9].map (Bp c3)=[en3 9]:=by simp only [List.map_cons,List.map_nil,Pn (ok3 (show ¬ 9=0 by decide))]
 rw [Wy (by decide) (by decide) (Auv h1 ?_) (by rw [h2];decide),h2]
 ·rfl
 intro i x hx
 rcases i with _ | i <;> simp only [List.getElem?_cons_zero,List.getElem?_cons_succ,List.getElem?_nil,Option.some.injEq,reduceCtorEq] at hx
 subst hx;simp [Cx,Je,it3,en3]
def Q3:List NotD:=[⟨2,0,1,0,[]⟩,⟨1,2,0,0,[it3 9]⟩,⟨3,0,1,2,[]⟩]
def Wf:List NotD:=[⟨2,0,1,0,[]⟩,⟨2,2,1,0,[]⟩]
theorem Aus:Bb c3 l3=0:=by
 refine Fy.2 ⟨Adb,by decide,?_,by decide,by decide⟩;intro x hx;have hb:∀ k:Nat,¬ k=0→Pp c3 (en3 k):=fun k hk=>⟨⟨ok3 hk,Auu (ok3 hk)⟩,by unfold H0;rw [show Dc c3 (en3 k).item=10 from Aix (ok3 hk)];exact ⟨⟨by show (1:Int)≤10;decide,by show (10:Int)≤_;decide⟩,Or.inr rfl⟩⟩;simp only [l3,List.mem_cons,List.not_mem_nil,or_false] at hx
 rcases hx with rfl | rfl | rfl <;> exact hb _ (by decide)
theorem run1 {ns:List NotD} (h:ns[0]?=some ⟨2,0,1,0,[]⟩):Ca c3 l3 ns 1=([en3 2,en3 3],0):=by
 rw [H6 rfl h,Xm (by decide) rfl];rfl
theorem all3:Qu c3 l3 Q3=([en3 3,en3 9,en3 2],3,0):=by
 have h1:=run1 (ns:=Q3) rfl;have h2:Ca c3 l3 Q3 2=([en3 2,en3 3,en3 9],0):=by
  rw [H6 (by rw [h1]) (show Q3[1]?=some ⟨1,2,0,0,[it3 9]⟩ from rfl),Adg (by decide) rfl,h1];exact ins9
 have h3:Ca c3 l3 Q3 3=([en3 3,en3 9,en3 2],0):=by
  rw [H6 (by rw [h2]) (show Q3[2]?=some ⟨3,0,1,2,[]⟩ from rfl),Adf (by decide) rfl,h2];rfl
 rw [M6 Aus,Ava (i:=3) (by decide) (by rw [h3]) rfl,h3];rfl
theorem all3b:Qu c3 l3 Wf=([],1,4):=by
 have h1:=run1 (ns:=Wf) rfl;have h2:Ca c3 l3 Wf 2=([],4):=by
  rw [H6 (by rw [h1]) (show Wf[1]?=some ⟨2,2,1,0,[]⟩ from rfl),Xm (by decide) rfl,h1];rfl
 rw [M6 Aus,all_x (i:=1) (by decide) (by rw [h1]) (by decide) (by rw [h2];decide),h2]
section
variable {P:Program} {w:World} {t:TypeId} {p:String} {af:Array Edge} {ρ:Operand→Value} {dd:Option Tmp} {g:Option (Nat × Bool)}
theorem Aoh {x y:Operand} {ty yt:TypeId} {k yk:IntKind} {a b:Int} {n m:Nat} (hx:ρ x=.int k a) (hy:ρ y=.int yk b) (ha:a=(n:Int)) (hb:b=(m:Int)) (hm:m≤k.bits) :
  (execOp ρ ⟨dd,.binOp .shr ty x y yt,t,p,af,g⟩).run P w=.ok (.value (.int k ((n / 2 ^ m:Nat):Int))) w:=by
 subst ha;have:=Aog (P:=P) (w:=w) (t:=t) (p:=p) (af:=af) (dd:=dd) (g:=g) (ty:=ty) (yt:=yt) hx hy hb hm;rw [this,Int.natCast_ediv,Int.natCast_pow];rfl
theorem Aoj {x y:Operand} {ty yt:TypeId} {n:Nat} (hx:ρ x=.int .u8 ((n:Nat):Int)) (hy:ρ y=.int .u8 1) (h:n < 256) :
  (execOp ρ ⟨dd,.binOp .and ty x y yt,t,p,af,g⟩).run P w=.ok (.value (.int .u8 ((n % 2:Nat):Int))) w:=by
 have h1:(BitVec.ofInt IntKind.u8.bits ((n:Nat):Int) &&& BitVec.ofInt IntKind.u8.bits 1).toNat=n % 2:=by
  rw [BitVec.toNat_and];simp only [BitVec.toNat_ofInt,IntKind.bits];have e1:(((n:Nat):Int) % ((2 ^ 8:Nat):Int)).toNat=n:=by omega
  rw [e1]
  exact Nat.and_one_is_mod n
 have h2:IntKind.u8.wrap ((n % 2:Nat):Int)=((n % 2:Nat):Int):=Mj (by constructor;show (0:Int)≤_;omega;show _≤(255:Int);omega);simp only [execOp,hx,hy,eqGuard,binOp,Op.intArith,Op.intBits,h1,h2]
 simp [h2]
end
structure Q4 where
 a:Nat
 b:Nat
 c:Nat
 d:Nat
def Aaq:Rd Q4:=fun _ cs q=>cs=[.int .u8 ((q.a:Nat):Int),.int .u8 ((q.b:Nat):Int),.int .u8 ((q.c:Nat):Int),.int .u8 ((q.d:Nat):Int)]∧q.a < 256∧q.b < 256∧q.c < 256∧q.d < 256
theorem B8:Ho Aaq:=fun _ _ _ _ _ h=>h
def TXT:List (List UInt8):=[[],[97],[114,111,119],[116,119,111,32,119,111,114,100,115],[32,32],[126,33,45,44],[97,32,108,111,110,103,101,114,32,116,101,120,116,32,111,102,32,116,104,105,115,32,107,105,110,100],[57]]
def MKS:List (List UInt8):=[[97],[98,50],[107,101,121]]
def Oi (i:Nat):List UInt8:=TXT.getD i []
def mkT (i:Nat):List UInt8:=MKS.getD i []
theorem Amo {i:Nat} (h:i < 8):TXT[i]?=some (Oi i):=by
 rcases (show i=0∨i=1∨i=2∨i=3∨i=4∨i=5∨i=6∨i=7 by omega) with rfl | rfl | rfl | rfl | rfl | rfl | rfl | rfl <;> rfl
theorem mk_at {i:Nat} (h:i < 3):MKS[i]?=some (mkT i):=by
 rcases (show i=0∨i=1∨i=2 by omega) with rfl | rfl | rfl <;> rfl
theorem txt_ok {i:Nat} (h:i < 8):Str (Oi i):=by
 rcases (show i=0∨i=1∨i=2∨i=3∨i=4∨i=5∨i=6∨i=7 by omega) with rfl | rfl | rfl | rfl | rfl | rfl | rfl | rfl <;> decide
theorem Y3 {i:Nat} (h:i < 3):Ck (mkT i):=by
 rcases (show i=0∨i=1∨i=2 by omega) with rfl | rfl | rfl <;> decide
def mkU (d:Nat):Nat→List (List UInt8)
 | 0=>[]
 | i+1=>mkU d i++(if d / 2 ^ i % 2=0 then [] else [mkT ((i+d / 8) % 3)])
theorem Y1 {d i:Nat} (h:d / 2 ^ i % 2=0):mkU d (i+1)=mkU d i:=by rw [mkU,if_pos h,List.append_nil]
theorem Jz {d i:Nat} (h:¬ d / 2 ^ i % 2=0):mkU d (i+1)=mkU d i++[mkT ((i+d / 8) % 3)]:=by rw [mkU,if_neg h]
theorem Y2 (d:Nat):∀ i,(mkU d i).length≤i
 | 0=>Nat.le_refl _
 | i+1=>by
  have:=Y2 d i
  by_cases h:d / 2 ^ i % 2=0
  ·rw [Y1 h];omega
  ·rw [Jz h,List.length_append];simp only [List.length_cons,List.length_nil];omega
theorem Y0 (d:Nat):∀ i,∀ s∈mkU d i,Ck s
 | 0,s,h=>by cases h
 | i+1,s,hs=>by
  by_cases h:d / 2 ^ i % 2=0
  ·rw [Y1 h] at hs;exact Y0 d i s hs
  ·rw [Jz h] at hs
   rcases List.mem_append.1 hs with hs | hs
   ·exact Y0 d i s hs
   ·rw [List.mem_singleton.1 hs];exact Y3 (Nat.mod_lt _ (by decide))
def mkA (d:Nat):List (List UInt8):=if 240≤d then mkU d 3++[[97],[97]] else mkU d 3
theorem Ahk (d:Nat):(mkA d).length≤5:=by
 have:=Y2 d 3;unfold mkA;split
 ·rw [List.length_append];simp only [List.length_cons,List.length_nil];omega
 omega
def Fo (q:Q4):ItemD:=⟨1+q.a % 60,q.b % 3,Oi (q.c % 8),mkA q.d⟩
theorem Aoz (q:Q4):ItemOk 3 (Fo q):=by
 refine ⟨?_,?_,txt_ok (Nat.mod_lt _ (by decide)),?_,?_⟩
 ·show 1+q.a % 60≠0;omega
 ·show ((q.b % 3:Nat):Int) < 3;omega
 ·have:=Ahk q.d;show (mkA q.d).length≤8;omega
 show ∀ s∈mkA q.d,Ck s
 intro s hs;unfold mkA at hs
 split at hs
 ·rcases List.mem_append.1 hs with hs | hs
  ·exact Y0 _ _ _ hs
  simp only [List.mem_cons,List.not_mem_nil,or_false,or_self] at hs;rw [hs];decide
 exact Y0 _ _ _ hs
open Classical in
noncomputable def Agk (out:List ItemD) (x:ItemD):List ItemD:=if Je out x.key then out else out++[x]
theorem Zt {out:List ItemD} {x:ItemD} (h:Je out x.key):Agk out x=out:=by unfold Agk;rw [if_pos h]
theorem Zs {out:List ItemD} {x:ItemD} (h:¬ Je out x.key):Agk out x=out++[x]:=by unfold Agk;rw [if_neg h]
noncomputable def ofI (qs:List Q4):Nat→List ItemD
 | 0=>[]
 | i+1=>match qs[i]? with
  | some q=>Agk (ofI qs i) (Fo q)
  | none=>ofI qs i
theorem O2 {qs:List Q4} {i:Nat} {q:Q4} (h:qs[i]?=some q):ofI qs (i+1)=Agk (ofI qs i) (Fo q):=by rw [ofI,h]
theorem Yx (qs:List Q4):∀ i,(ofI qs i).length≤i
 | 0=>Nat.le_refl _
 | i+1=>by
  have:=Yx qs i;rw [ofI]
  split
  ·unfold Agk;split
   ·omega
   ·rw [List.length_append];simp only [List.length_cons,List.length_nil];omega
  ·omega
theorem Ape (qs:List Q4):∀ i,(∀ x∈ofI qs i,ItemOk 3 x∧x.marks.length≤5)∧((ofI qs i).map ItemD.key).Nodup
 | 0=>⟨fun x h=>(by cases h),List.nodup_nil⟩
 | i+1=>by
  obtain ⟨h1,h2⟩:=Ape qs i;rw [ofI]
  split
  ·rename_i q _
   by_cases h:Je (ofI qs i) (Fo q).key
   ·rw [Zt h];exact ⟨h1,h2⟩
   ·rw [Zs h];refine ⟨fun x hx=>?_,?_⟩
    ·rcases List.mem_append.1 hx with hx | hx
     ·exact h1 x hx
     ·rw [List.mem_singleton.1 hx];exact ⟨Aoz q,Ahk q.d⟩
    ·rw [List.map_append,List.map_singleton,List.nodup_append];refine ⟨h2,by simp,?_⟩;intro a ha b hb;rw [List.mem_singleton.1 hb];rintro rfl
     exact h (W3.2 ha)
  ·exact ⟨h1,h2⟩
def kRow:T.PT:=.mk 1 [114,111,119] [] [⟨[110],3,[]⟩,⟨[116,101,120,116],1,[]⟩] [] [.mk 3 [] [] [] [] []]
def kHead:T.PT:=.mk 1 [104,101,97,100] [104] [⟨[105,100],2,[]⟩] [] [.mk 2 [] [] [] [35] [],.mk 4 [] [] [] [] []]
def kTags:T.PT:=.mk 1 [114,111,119] [] [] [] [.mk 1 [98] [98,50] [] [] [.mk 3 [] [] [] [] []],.mk 5 [116,97,103] [] [⟨[111,102],2,[]⟩] [] []]
def Qf (n:Nat):List KindD:=[⟨kRow,10+((n % 7:Nat):Int),false,((n % 4:Nat):Int)⟩,⟨kHead,6+((n % 3:Nat):Int),true,((n / 4 % 3:Nat):Int)⟩,⟨kTags,20,decide (n % 16=15),((n / 8 % 3:Nat):Int)⟩]
def D1 (n:Nat):RulesD:=⟨Qf n,12⟩
theorem kRow_ok:T.ValidP kRow:=by decide
theorem Aqa:T.ValidP kHead:=by decide
theorem Apz:T.ValidP kTags:=by decide
theorem Ta (n:Nat):Cy (D1 n):=by
 refine ⟨⟨⟨show (1:Nat)≤3 by decide,show (3:Nat)≤8 by decide⟩,by show (1:Int)≤12∧(12:Int)≤64;decide⟩,fun k hk=>?_⟩;have hk:k∈Qf n:=hk;simp only [Qf,List.mem_cons,List.not_mem_nil,or_false] at hk
 rcases hk with rfl | rfl | rfl
 ·exact ⟨by show (1:Int)≤10+_∧(10:Int)+_≤_;omega,kRow_ok⟩
 ·exact ⟨by show (1:Int)≤6+_∧(6:Int)+_≤_;omega,Aqa⟩
 exact ⟨by show (1:Int)≤20∧(20:Int)≤_;decide,Apz⟩
theorem Agh {n:Nat} {x:ItemD} (h:ItemOk 3 x):1≤Dc (D1 n) x∧Dc (D1 n) x≤20:=by
 obtain ⟨k,hk⟩:∃ k,(D1 n).kinds[x.typ]?=some k:=Ap (by show x.typ < 3;have:=h.2.1;omega);rw [H2 hk];have hm:k∈Qf n:=List.mem_of_getElem? hk;simp only [Qf,List.mem_cons,List.not_mem_nil,or_false] at hm
 rcases hm with rfl | rfl | rfl
 ·show (1:Int)≤10+_∧(10:Int)+_≤_;omega
 ·show (1:Int)≤6+_∧(6:Int)+_≤_;omega
 show (1:Int)≤20∧(20:Int)≤20;decide
def Kc (c:RulesD) (zs:List UInt8) (n:Nat) (x:ItemD):EntD:=match zs[n]? with
 | some z=>if 0 < z.toNat then ⟨x,1+((z.toNat % 40:Nat):Int),true⟩ else Bp c x
 | none=>Bp c x
theorem ent_yes {c:RulesD} {zs:List UInt8} {n:Nat} {x:ItemD} {z:UInt8} (h:zs[n]?=some z) (hz:0 < z.toNat):Kc c zs n x=⟨x,1+((z.toNat % 40:Nat):Int),true⟩:=by unfold Kc;rw [h];simp only [if_pos hz]
theorem Aqx {c:RulesD} {zs:List UInt8} {n:Nat} {x:ItemD} {z:UInt8} (h:zs[n]?=some z) (hz:¬ 0 < z.toNat):Kc c zs n x=Bp c x:=by unfold Kc;rw [h];simp only [if_neg hz]
theorem Acl {c:RulesD} {zs:List UInt8} {n:Nat} {x:ItemD} (h:zs.length≤n):Kc c zs n x=Bp c x:=by unfold Kc;rw [List.getElem?_eq_none h]
theorem Acm {c:RulesD} {zs:List UInt8} {n:Nat} {x:ItemD}:(Kc c zs n x).item=x:=by unfold Kc;split;split <;> rfl;rfl
noncomputable def ofL (c:RulesD) (zs:List UInt8) (xs:List ItemD):Nat→List EntD
 | 0=>[]
 | k+1=>match xs[k]? with
  | some x=>if 0 < Dw c x ((0:Int)=1) then ofL c zs xs k else ofL c zs xs k++[Kc c zs (ofL c zs xs k).length x]
  | none=>ofL c zs xs k
theorem Apd {c:RulesD} {zs:List UInt8} {xs:List ItemD} {k:Nat} {x:ItemD} (h:xs[k]?=some x) (h2:0 < Dw c x ((0:Int)=1)):ofL c zs xs (k+1)=ofL c zs xs k:=by rw [ofL,h];simp only [if_pos h2]
theorem Mp {c:RulesD} {zs:List UInt8} {xs:List ItemD} {k:Nat} {x:ItemD} (h:xs[k]?=some x) (h2:¬ 0 < Dw c x ((0:Int)=1)):ofL c zs xs (k+1)=ofL c zs xs k++[Kc c zs (ofL c zs xs k).length x]:=by rw [ofL,h];simp only [if_neg h2]
theorem R1 (c:RulesD) (zs:List UInt8) (xs:List ItemD):∀ k,(ofL c zs xs k).length≤k
 | 0=>Nat.le_refl _
 | k+1=>by
  have:=R1 c zs xs k;rw [ofL]
  split
  ·split
   ·omega
   ·rw [List.length_append];simp only [List.length_cons,List.length_nil];omega
  ·omega
theorem Aaz (c:RulesD) (zs:List UInt8) (xs:List ItemD):∀ k,(Cn (ofL c zs xs k)).Sublist ((xs.take k).map ItemD.key)
 | 0=>by simp [ofL,Cn]
 | k+1=>by
  have h1:=Aaz c zs xs k;rw [ofL,List.take_add_one]
  split
  ·rename_i x hx
   rw [hx,List.map_append]
   split
   ·exact h1.trans (List.sublist_append_left _ _)
   ·rw [Cn,List.map_append,List.map_singleton,Acm]
    exact List.Sublist.append h1 (sR _)
  ·rename_i hx
   rw [hx];simpa using h1
theorem Ahg (n:Nat) (zs:List UInt8) (xs:List ItemD) (hx:∀ x∈xs,ItemOk 3 x):∀ k,(∀ y∈ofL (D1 n) zs xs k,Pp (D1 n) y∧y.size≤40)∧Gd (ofL (D1 n) zs xs k)≤40 * k
 | 0=>⟨fun y h=>(by cases h),by simp [ofL,Gd]⟩
 | k+1=>by
  obtain ⟨h1,h2⟩:=Ahg n zs xs hx k;rw [ofL]
  split
  ·rename_i x hxk
   have ho:=hx x (List.mem_of_getElem? hxk)
   split
   ·exact ⟨h1,by omega⟩
   ·rename_i h3
    have h4:Dw (D1 n) x ((0:Int)=1)=0:=by have:=Ud (c:=D1 n) (x:=x) (seen:=(0:Int)=1);omega
    have h5:=Ep.1 h4;have hb:=Agh (n:=n) ho;have he:Pp (D1 n) (Kc (D1 n) zs (ofL (D1 n) zs xs k).length x)∧(1≤(Kc (D1 n) zs (ofL (D1 n) zs xs k).length x).size∧(Kc (D1 n) zs (ofL (D1 n) zs xs k).length x).size≤40):=by
     refine ⟨⟨by rw [Acm];exact ⟨h5.1,h5.2.2⟩,?_⟩,?_⟩
     ·unfold H0 Kc
      split
      ·split
       ·exact ⟨⟨by show (1:Int)≤1+_;omega,by show (1:Int)+_≤_;omega⟩,Or.inl rfl⟩
       ·exact ⟨⟨hb.1,by show Dc _ _≤_;omega⟩,Or.inr rfl⟩
      ·exact ⟨⟨hb.1,by show Dc _ _≤_;omega⟩,Or.inr rfl⟩
     ·unfold Kc
      split
      ·split
       ·show (1:Int)≤1+_∧(1:Int)+_≤40;omega
       ·exact ⟨hb.1,by show Dc _ _≤_;omega⟩
      ·exact ⟨hb.1,by show Dc _ _≤_;omega⟩
    refine ⟨fun y hy=>?_,?_⟩
    ·rcases List.mem_append.1 hy with hy | hy
     ·exact h1 y hy
     ·rw [List.mem_singleton.1 hy];exact ⟨he.1,he.2.2⟩
    ·rw [Hh];simp only [Gd];have:=he.2;omega
  ·exact ⟨h1,by omega⟩
theorem Ako (n:Nat) (zs:List UInt8) {xs:List ItemD} (hx:∀ x∈xs,ItemOk 3 x) (hk:(xs.map ItemD.key).Nodup) (hl:xs.length≤12) {k:Nat} (hkk:k≤12):Bb (D1 n) (ofL (D1 n) zs xs k)=0:=by
 obtain ⟨h1,h2⟩:=Ahg n zs xs hx k;refine Fy.2 ⟨Ta n,by have:=R1 (D1 n) zs xs k;omega,fun y hy=>(h1 y hy).1,?_,P9.2 (by omega)⟩
 exact (Aaz (D1 n) zs xs k).nodup (List.Nodup.sublist (List.Sublist.map _ (List.take_sublist _ _)) hk)
open Go Go.Y Go.Proofs
section
variable {c:RulesD} {l:List EntD} {ns:List NotD}
theorem Su {k:Nat}:∀ {i:Nat},i≤k→Ca c l (ns.take k) i=Ca c l ns i
 | 0,_=>rfl
 | i+1,h=>by
  have ih:=Su (k:=k) (i:=i) (by omega);simp only [Ca,ih,List.getElem?_take,if_pos (show i < k by omega)]
theorem S8 {k:Nat} (h:(Ca c l ns k).2=0):∀ {j:Nat},Ca c (Ca c l ns k).1 (ns.drop k) j=Ca c l ns (k+j)
 | 0=>by show ((Ca c l ns k).1,(0:Int))=Ca c l ns k;rw [← h]
 | j+1=>by
  have ih:=S8 (k:=k) h (j:=j);rw [show k+(j+1)=(k+j)+1 by omega,Ca,ih,Ca,List.getElem?_drop]
theorem V0 {k:Nat}:∀ {i:Nat},i≤k→Ig c l (ns.take k) i=Ig c l ns i
 | 0,_=>rfl
 | i+1,h=>by
  have ih:=V0 (k:=k) (i:=i) (by omega);simp only [Ig,Su h,ih]
theorem V1 {k:Nat} (h:(Ca c l ns k).2=0):∀ {j:Nat},Ig c l ns (k+j)=k+Ig c (Ca c l ns k).1 (ns.drop k) j
 | 0=>Agr h
 | j+1=>by
  have ih:=V1 (k:=k) h (j:=j);have e:=S8 h (j:=j+1);have e2:Ig c l ns (k+(j+1))=if (Ca c l ns (k+(j+1))).2=0 then k+(j+1) else Ig c l ns (k+j):=rfl;have e3:Ig c (Ca c l ns k).1 (ns.drop k) (j+1)=if (Ca c (Ca c l ns k).1 (ns.drop k) (j+1)).2=0 then j+1 else Ig c (Ca c l ns k).1 (ns.drop k) j:=rfl;rw [e2,e3,e,ih]
  by_cases h1:(Ca c l ns (k+(j+1))).2=0
  ·rw [if_pos h1,if_pos h1]
  ·rw [if_neg h1,if_neg h1]
theorem Ajo {k:Nat} (h:(Ca c l ns k).2≠0):∀ j,k≤j→Ig c l ns j=Ig c l ns k:=by
 intro j hj
 induction j with
 | zero =>
  have:k=0:=by omega
  subst this;rfl
 | succ j ih =>
  rcases Nat.eq_or_lt_of_le hj with e | e
  ·rw [e]
  ·rw [Ig,Lv h _ hj,if_neg h,ih (by omega)]
theorem Amf {k:Nat} (hl:ns.length≤32) (hk:k≤ns.length) :
  ((A1 c l (ns.take k)).2.2≠0→(A1 c l (ns.take k)).2.2=(A1 c l ns).2.2∧(A1 c l (ns.take k)).2.1=(A1 c l ns).2.1) ∧
  ((A1 c l (ns.take k)).2.2=0→(A1 c l (ns.take k)).2.1=k∧(A1 c (A1 c l (ns.take k)).1 (ns.drop k)).2.2=(A1 c l ns).2.2 ∧
   (A1 c l ns).2.1=k+(A1 c (A1 c l (ns.take k)).1 (ns.drop k)).2.1∧(A1 c (A1 c l (ns.take k)).1 (ns.drop k)).1=(A1 c l ns).1):=by
 have hkl:(ns.take k).length=k:=by rw [List.length_take];omega
 have h1:Ca c l (ns.take k) k=Ca c l ns k:=Su (Nat.le_refl _)
 by_cases h0:(Ca c l ns k).2=0
 ·have e1:A1 c l (ns.take k)=((Ca c l ns k).1,k,0):=by rw [Ava (i:=k) (by omega) (by rw [h1];exact h0) hkl.symm,h1,hkl]
  rw [e1];refine ⟨fun h=>absurd rfl h,fun _=>⟨rfl,?_⟩⟩;have hd:(ns.drop k).length=ns.length - k:=List.length_drop;have h2:=S8 h0 (j:=ns.length - k);have h3:=V1 h0 (j:=ns.length - k);rw [show k+(ns.length - k)=ns.length by omega] at h2 h3;have eW:A1 c l ns=if (Ca c l ns ns.length).2=0 then ((Ca c l ns ns.length).1,ns.length,0) else ([],Ig c l ns ns.length,(Ca c l ns ns.length).2):=by
   unfold A1;rw [if_neg (show ¬ 32 < ns.length by omega)]
  have eD:A1 c (Ca c l ns k).1 (ns.drop k)=if (Ca c l ns ns.length).2=0 then ((Ca c l ns ns.length).1,ns.length - k,0) else ([],Ig c (Ca c l ns k).1 (ns.drop k) (ns.length - k),(Ca c l ns ns.length).2):=by
   unfold A1;rw [if_neg (show ¬ 32 < (ns.drop k).length by omega),hd,h2]
  show (A1 c (Ca c l ns k).1 (ns.drop k)).2.2=_∧_=k+(A1 c (Ca c l ns k).1 (ns.drop k)).2.1∧(A1 c (Ca c l ns k).1 (ns.drop k)).1=_
  rw [eW,eD]
  by_cases h4:(Ca c l ns ns.length).2=0
  ·rw [if_pos h4,if_pos h4]
   exact ⟨rfl,by show ns.length=k+(ns.length - k);omega,rfl⟩
  rw [if_neg h4,if_neg h4]
  exact ⟨rfl,h3,rfl⟩
 have h5:=Lv h0 ns.length hk;have e1:A1 c l (ns.take k)=([],Ig c l ns k,(Ca c l ns k).2):=by
  unfold A1;rw [if_neg (by omega),hkl,h1,if_neg h0,V0 (Nat.le_refl _)]
 have e2:A1 c l ns=([],Ig c l ns k,(Ca c l ns k).2):=by
  unfold A1;rw [if_neg (by omega),h5,if_neg h0,Ajo h0 _ hk]
 rw [e1,e2]
 exact ⟨fun _=>⟨rfl,rfl⟩,fun h=>absurd h h0⟩
theorem Ags:∀ i,Ig c l ns i≤i
 | 0=>Nat.le_refl _
 | i+1=>by
  have ih:=Ags i;rw [Ig];split <;> omega
theorem Auz:(A1 c l ns).2.1≤ns.length:=by
 unfold A1
 split
 ·exact Nat.zero_le _
 split
 ·exact Nat.le_refl _
 exact Ags _
end
structure Q5 where
 a:Nat
 b:Nat
 c:Nat
 d:Nat
 e:Nat
def Akd:Rd Q5:=fun _ cs q=>cs=[.int .u8 ((q.a:Nat):Int),.int .u8 ((q.b:Nat):Int),.int .u8 ((q.c:Nat):Int),.int .u8 ((q.d:Nat):Int),.int .u8 ((q.e:Nat):Int)]∧q.a < 256∧q.b < 256∧q.c < 256∧q.d < 256∧q.e < 256
theorem Cd:Ho Akd:=fun _ _ _ _ _ h=>h
theorem Aes (a b:Nat):∃ p:Nat,((a:Nat):Int) % (((b:Nat):Int)+1)=((p:Nat):Int)∧p≤b :=
 ⟨a % (b+1),rfl,Nat.le_of_lt_succ (Nat.mod_lt _ (Nat.succ_pos _))⟩
theorem Agu (a b p:Nat) (h:p≤b):∃ k:Nat,((a:Nat):Int) % (((b:Nat):Int) - ((p:Nat):Int)+1)=((k:Nat):Int)∧p+k≤b:=by
 obtain ⟨k,h1,h2⟩:=Aes a (b - p);refine ⟨k,?_,by omega⟩;rw [← h1,show ((b:Nat):Int) - ((p:Nat):Int)=((b - p:Nat):Int) by omega]
theorem ia0:Lib.itoa 0=[48]:=by rw [show (0:Int)=((0:Nat):Int) from rfl,Lib.itoa_nonneg,Lib.decDigits,dif_pos (by decide)];rfl
theorem ia1:Lib.itoa 1=[49]:=by rw [show (1:Int)=((1:Nat):Int) from rfl,Lib.itoa_nonneg,Lib.decDigits,dif_pos (by decide)];rfl
theorem ia2:Lib.itoa 2=[50]:=by rw [show (2:Int)=((2:Nat):Int) from rfl,Lib.itoa_nonneg,Lib.decDigits,dif_pos (by decide)];rfl
theorem dd9:Lib.decDigits 9=[57]:=by rw [Lib.decDigits,dif_pos (by decide)];rfl
theorem dd0:Lib.decDigits 0=[48]:=by rw [Lib.decDigits,dif_pos (by decide)];rfl
theorem wn2 {a b:Int}:Bv [a,b]=32::Lib.itoa a++(32::Lib.itoa b):=by simp [Bv]
theorem wn1 {a:Int}:Bv [a]=32::Lib.itoa a:=by simp [Bv]
theorem Apw:D7 ⟨1,0,0,0,[]⟩ 1=[105,110,115,101,114,116,32,48,32,49,10]:=by
 unfold D7;rw [show fm (nuK ⟨1,0,0,0,[]⟩ 1)=[0,1] from rfl,wn2,ia0,ia1];rfl
theorem Apv:D7 ⟨1,2,0,0,[⟨9,0,[120],[]⟩]⟩ 1=[105,110,115,101,114,116,32,50,32,49,10]:=by
 unfold D7;rw [show fm (nuK ⟨1,2,0,0,[⟨9,0,[120],[]⟩]⟩ 1)=[2,1] from rfl,wn2,ia2,ia1];rfl
theorem Apu:D7 ⟨2,0,1,0,[]⟩ 0=[114,101,109,111,118,101,32,48,32,49,10]:=by
 unfold D7;rw [show fm (nuK ⟨2,0,1,0,[]⟩ 0)=[0,1] from rfl,wn2,ia0,ia1];rfl
theorem ln_res0:D7 ⟨5,0,0,0,[]⟩ 0=[114,101,115,101,116,32,48,10]:=by
 unfold D7;rw [show fm (nuK ⟨5,0,0,0,[]⟩ 0)=[0] from rfl,wn1,ia0];rfl
def Lp:List NotD:=[⟨1,2,0,0,[⟨9,0,[120],[]⟩]⟩,⟨2,0,1,0,[]⟩]
theorem Agn:Dp Lp=[105,110,115,101,114,116,32,50,32,49,10,57,32,48,32,45,32,120,10,114,101,109,111,118,101,32,48,32,49,10]:=by
 have h1:Abd ⟨1,2,0,0,[⟨9,0,[120],[]⟩]⟩=D7 ⟨1,2,0,0,[⟨9,0,[120],[]⟩]⟩ 1++Cc [⟨9,0,[120],[]⟩]:=rfl;have h2:Abd ⟨2,0,1,0,[]⟩=D7 ⟨2,0,1,0,[]⟩ 0++Cc []:=rfl;have h3:Cc [⟨9,0,[120],[]⟩]=[57,32,48,32,45,32,120,10]:=by
  simp only [Cc,List.map_cons,List.map_nil,Dg,dd9,dd0];rfl
 unfold Dp Lp;simp only [List.flatMap_cons,List.flatMap_nil];rw [h1,h2,h3,Apv,Apu];rfl
theorem Z4:Gz Lp=0∧Ka Lp=[105,110,115,101,114,116,32,50,32,49,10,57,32,48,32,45,32,120,10,114,101,109,111,118,101,32,48,32,49,10]:=by
 have h:=nt_0 (l:=Lp) (i:=2) (by decide) (by decide) rfl (by rw [show Lp.take 2=Lp from rfl,Agn];decide);rw [show Lp.take 2=Lp from rfl,Agn] at h
 exact h
def Amd:List (List UInt8):=[[105,110,115,101,114,116,32,48,32,49,10],[114,101,109,111,118,101,32,48,10],[114,101,115,101,116,32,48,10,102,111,111,10]]
theorem no_item:¬ Qv []:=by
 rintro ⟨y,r,_,h⟩;have:=congrArg List.length h
 simp at this
theorem hd_ins:Head ⟨1,0,0,0,[]⟩ 1:=⟨by decide,Or.inr rfl,Or.inr rfl,Or.inr rfl,Or.inl (by decide),rfl,Br (n:=0) (by decide) (by decide),Br (n:=0) (by decide) (by decide),Br (n:=0) (by decide) (by decide),by decide⟩
theorem hd_res:Head ⟨5,0,0,0,[]⟩ 0:=⟨by decide,Or.inr rfl,Or.inr rfl,Or.inr rfl,Or.inr rfl,rfl,Br (n:=0) (by decide) (by decide),Br (n:=0) (by decide) (by decide),Br (n:=0) (by decide) (by decide),by decide⟩
theorem badN1:PR [] [105,110,115,101,114,116,32,48,32,49,10] ([],2,5) :=
 PR.bad (ys:=[]) (r:=[]) hd_ins (by decide) (by rw [Apw];rfl) (fun y hy=>by cases hy) (by decide) no_item
theorem badN2:PR [] [114,101,109,111,118,101,32,48,10] ([],1,5) :=
 PR.nohead (by decide) (Abh (k:=2) (b:=0) (b2:=1) (W:=[114,101,109,111,118,101]) (wr:=[[48]]) (by decide) (by decide) (by decide) (by decide))
theorem badN3:PR [] [114,101,115,101,116,32,48,10,102,111,111,10] ([],2,5) :=
 PR.step (ys:=[]) (r:=[102,111,111,10]) hd_res (by decide) (by rw [ln_res0];rfl) (fun y hy=>by cases hy) rfl
  (PR.nohead (by decide) (Tw (z:=-1) (W:=[102,111,111]) (wr:=[]) (by decide) (Or.inl ⟨rfl,by decide⟩) (Or.inr (by decide))))
def lnN:List Nat:=[2,1,2]
theorem Aux {i:Nat} {s:List UInt8} (h:Amd[i]?=some s):∃ n,lnN[i]?=some n∧PF s ([],n,5):=by
 rcases i with _ | _ | _ | i <;> simp only [Amd,List.getElem?_cons_zero,List.getElem?_cons_succ,List.getElem?_nil,Option.some.injEq,reduceCtorEq] at h
 ·subst h;exact ⟨2,rfl,Or.inr ⟨by decide,badN1⟩⟩
 ·subst h;exact ⟨1,rfl,Or.inr ⟨by decide,badN2⟩⟩
 subst h;exact ⟨2,rfl,Or.inr ⟨by decide,badN3⟩⟩
variable {w0 w:World} {G:Aq} {L:List Res}
set_option maxHeartbeats 1600000
theorem Aqr {P:Program} {fn:Func} {n:Nat} {a:Act} {e:Env} {w0 w:World} {G:Aq} {L:List Res} (F:Fits n a e) {t u ty1 ty2 k1 k2 b1 b2:Nat} {i1 i2:TI} {cs1 cs2:List Value} {R:Ending→World→Prop} (M:Mem w0 G L w)
  (hk1:L[k1]?=some (.blk b1 cs1 ty1)) (hk2:L[k2]?=some (.blk b2 cs2 ty2)) (hf:fn.results = #[.cell t ty1,.cell u ty2]) (ht1:TOK P ty1 i1) (ht2:TOK P ty2 i2) (ha1:i1.k.agg=some true) (ha2:i2.k.agg=some true)
  (hl1:cs1.length=i1.size) (hl2:cs2.length=i2.size) (hv1:Y.look e t=some (.pointer (some ⟨b1,0,none⟩))) (hv2:Y.look e u=some (.pointer (some ⟨b2,0,none⟩))) (h:R (.returned (.tuple #[.agg cs1.toArray,.agg cs2.toArray])) w):bodyPost P fn R .ret a w:=by
 refine K6 F (v:=.tuple #[.agg cs1.toArray,.agg cs2.toArray]) ?_ h;have h1:(loadVar ty1 ⟨b1,0,none⟩).run P w=.ok (.agg cs1.toArray) w:=Gl ht1 ha1 hl1 (M.cellsL hk1 (by rw [List.drop_zero,← hl1,List.take_length]));have h2:(loadVar ty2 ⟨b2,0,none⟩).run P w=.ok (.agg cs2.toArray) w:=Gl ht2 ha2 hl2 (M.cellsL hk2 (by rw [List.drop_zero,← hl2,List.take_length]))
 simp [results,hf,F.slot _ _ hv1,F.slot _ _ hv2,asAddr,h1,h2]
theorem lreset3 (M:Mem w0 G L w) {ka:Option Addr} {kc:Nat} (SC:Ag Cb 9 G (.slice ka c3.kinds.length kc) c3.kinds) {ta:Option Addr} {tc:Nat} (T:Ag Bn 4 G (.slice ta 3 tc) [it3 1,it3 2,it3 3]) :
  Calls Tryz.prog 92 #[.agg #[.slice ka c3.kinds.length kc,.int .i64 1],.agg #[.slice none 0 0],.slice ta 3 tc] w (Ht w0 G (Jl L (l3,0))):=by
 rw [← res3]
 exact Rh (c:=c3) (l:=[]) M SC Ag.nil (Mz Adb) T (by decide)
theorem Adv (M:Mem w0 G L w):Calls Tryz.prog 36 #[] w (Ret w0 G L fun G' v=>∃ (ka:Option Addr) (kc:Nat) (la:Option Addr) (lc:Nat),v=.tuple #[.agg #[.slice ka c3.kinds.length kc,.int .i64 1],.agg #[.slice la l3.length lc]]∧Ag Cb 9 G' (.slice ka c3.kinds.length kc) c3.kinds∧Ag Bg 6 G' (.slice la l3.length lc) l3):=by
 refine Al (vs:=[]) Tryz.func36 rfl (n:=21) rfl rfl<|?_
 refine Bt<|?_
 refine B1 M Gb rfl rfl<|?_;clear M;intro b1 w M
 refine B1 M Az rfl rfl<|?_;clear M;intro b3 w M
 refine wk ?_;refine Am (fun a F=>Ah (cs:=[.int .u8 1,.string (str [114,111,119]),.string (str []),.slice none 0 0,.string (str []),.slice none 0 0]) (ps:=[(0,.int .u8 1),(1,.string (str [114,111,119]))]) Du.k rfl Du (F.evp rfl) rfl) rfl<|Am (fun a F=>Ah (cs:=[.int .u8 1,.string (str [114,111,119]),.string (str []),.slice none 0 0,.string (str []),.slice none 0 0,.int .i64 10,.bool false,.int .i64 0]) (ps:=[(0,.agg #[.int .u8 1,.string (str [114,111,119]),.string (str []),.slice none 0 0,.string (str []),.slice none 0 0]),(1,.int .i64 10)]) Ll.k rfl Ll (F.evp rfl) rfl) rfl<|fun a F=>?_
 refine Ar F M Amp.k Ll rfl rfl (cs:=[.int .u8 1,.string (str [114,111,119]),.string (str []),.slice none 0 0,.string (str []),.slice none 0 0,.int .i64 10,.bool false,.int .i64 0]) rfl rfl (by simp [Value.oneCell']) (by decide) rfl ?_;clear F M a;intro v5 w a M F;obtain ⟨av5,cv5,rfl,hlev5,hcmv5,hlv5⟩:=M.row_shape (k:=0) rfl;have Ek:Els Cb 9 G [.int .u8 1,.string (str [114,111,119]),.string (str []),.slice none 0 0,.string (str []),.slice none 0 0,.int .i64 10,.bool false,.int .i64 0] c3.kinds:=Els.one ⟨[.int .u8 1,.string (str [114,111,119]),.string (str []),.slice none 0 0,.string (str []),.slice none 0 0],rfl,Ff (x:=Yf) ⟨by decide,by decide⟩ ⟨by decide,by decide,by decide⟩ Ag.nil Ag.nil,⟨by decide,by decide⟩⟩ rfl;obtain ⟨hnz6,Gz6,az6,cz6,hGz6,hez6,Sz6,M⟩:=M.freeze_row Ak (k:=0) rfl Ek (by decide);clear hez6 az6 cz6;revert a;refine Am (fun a F=>Ah (cs:=[.slice av5 1 (cv5),.int .i64 1]) (ps:=[(0,.slice av5 1 (cv5)),(1,.int .i64 1)]) Gb.k rfl Gb (F.evp rfl) rfl) rfl<|B1 M Gb rfl rfl<|?_;clear M;intro b7 w M
 intro a F;refine Be F M Gb 0 ?_;clear F M a;intro w a M F;replace M:=z_M M;revert a;refine wk ?_;refine Am (fun a F=>Ah (cs:=[.slice none 0 0]) (ps:=[]) Az.k rfl Az (F.evp rfl) rfl) rfl<|Am (fun a F=>Ah (cs:=[.int .u64 1,.int .u8 0,.string (str []),.slice none 0 0]) (ps:=[(0,.int .u64 1)]) Bi.k rfl Bi (F.evp rfl) rfl) rfl<|Am (fun a F=>Ah (cs:=[.int .u64 2,.int .u8 0,.string (str []),.slice none 0 0]) (ps:=[(0,.int .u64 2)]) Bi.k rfl Bi (F.evp rfl) rfl) rfl<|Am (fun a F=>Ah (cs:=[.int .u64 3,.int .u8 0,.string (str []),.slice none 0 0]) (ps:=[(0,.int .u64 3)]) Bi.k rfl Bi (F.evp rfl) rfl) rfl<|fun a F=>?_
 refine B7 F M Co.k Bi (ps:=[(0,.agg #[.int .u64 1,.int .u8 0,.string (str []),.slice none 0 0]),(1,.agg #[.int .u64 2,.int .u8 0,.string (str []),.slice none 0 0]),(2,.agg #[.int .u64 3,.int .u8 0,.string (str []),.slice none 0 0])]) (cs:=[[.int .u64 1,.int .u8 0,.string (str []),.slice none 0 0],[.int .u64 2,.int .u8 0,.string (str []),.slice none 0 0],[.int .u64 3,.int .u8 0,.string (str []),.slice none 0 0]]) (fl:=[.int .u64 1,.int .u8 0,.string (str []),.slice none 0 0,.int .u64 2,.int .u8 0,.string (str []),.slice none 0 0,.int .u64 3,.int .u8 0,.string (str []),.slice none 0 0]) rfl rfl (by simp [Hn,Value.cells]) (by simp [ti26]) rfl (by simp [Value.oneCell']) (by decide) (by decide) rfl ?_;clear F M a;intro v9 w a M F;obtain ⟨av9,cv9,rfl,hlev9,hcmv9,hlv9⟩:=M.row_shape (k:=0) rfl;have Ei:Els Bn 4 Gz6 [.int .u64 1,.int .u8 0,.string (str []),.slice none 0 0,.int .u64 2,.int .u8 0,.string (str []),.slice none 0 0,.int .u64 3,.int .u8 0,.string (str []),.slice none 0 0] [it3 1,it3 2,it3 3]:=⟨[.int .u64 1,.int .u8 0,.string (str []),.slice none 0 0],_,rfl,rfl,⟨none,0,rfl,by decide,by decide,by decide,by decide,Ag.nil⟩,⟨[.int .u64 2,.int .u8 0,.string (str []),.slice none 0 0],_,rfl,rfl,⟨none,0,rfl,by decide,by decide,by decide,by decide,Ag.nil⟩,⟨[.int .u64 3,.int .u8 0,.string (str []),.slice none 0 0],_,rfl,rfl,⟨none,0,rfl,by decide,by decide,by decide,by decide,Ag.nil⟩,rfl⟩⟩⟩;obtain ⟨hnz10,Gz10,az10,cz10,hGz10,hez10,Sz10,M⟩:=M.freeze_row Ai (k:=0) rfl Ei (by decide);clear hez10 az10 cz10
 replace Sz6:=Sz6.mono Ak hGz10;refine Ch F ent92 rfl rfl (lreset3 M Sz6 Sz10) ?_;clear F M a;rintro _ Gq11 _ w a hGq11 M ⟨aoq11,csq11,Loq11,rfl,rfl,Eoq11⟩ F;replace Sz6:=Sz6.mono Ak hGq11;replace Sz10:=Sz10.mono Ai hGq11;have M:=M.perm (Bj (Cw aoq11 ((l3,(0:Int))).1.length csq11::Loq11) [.blk b7 [.slice av5 1 (cv5),.int .i64 1] 51,.blk b3 [.slice none 0 0] 54,.blk b1 [.slice none 0 0,.int .i64 0] 51] L);replace M:=z_M M;revert a;refine wk ?_;refine B1 M Az rfl rfl<|?_;clear M;intro b12 w M
 intro a F;refine Be F M Az 0 ?_;clear F M a;intro w a M F;replace M:=z_M M;revert a;refine wk ?_;obtain ⟨Ggq11,hGgq11,M,Sgq11⟩:=Gj (M.perm (Bj [.blk b12 [.slice aoq11 (((l3,(0:Int))).1.length) (((l3,(0:Int))).1.length)] 54,.blk b7 [.slice av5 1 (cv5),.int .i64 1] 51,.blk b3 [.slice none 0 0] 54,.blk b1 [.slice none 0 0,.int .i64 0] 51] (Cw aoq11 ((l3,(0:Int))).1.length csq11::Loq11) L)) Eoq11;replace Sz6:=Sz6.mono Ak hGgq11;replace Sz10:=Sz10.mono Ai hGgq11;replace M:=z_M M;intro a F;refine E3 [(true,0),(true,1),(false,2),(false,3)] (Keep Ggq11 [.blk b12 [.slice aoq11 ((l3,(0:Int)).1.length) ((l3,(0:Int)).1.length)] 54,.blk b7 [.slice av5 1 (cv5),.int .i64 1] 51]) rfl (by kernel_rfl) (fun c a d v w h=>by cases d <;> exact h) (Ax (M.drew _)) ?_;replace M:=M.drew (w.drawn+1);revert a;refine wk ?_;refine l_a rfl<|fun a F=>?_
 refine Be F M Gb 3 ?_;clear F M a;intro w a M F;replace M:=z_M M;revert a;refine Ao<|?_
 refine eQ (Ax M)<|l_a rfl<|fun a F=>?_
 refine Be F M Az 2 ?_;clear F M a;intro w a M F;replace M:=z_M M;revert a;refine Ao<|?_
 refine eQ (Ax M)<|?_
 refine wk ?_;refine fun a F=>Aqr F M (k1:=3) (k2:=2) rfl rfl rfl Gb Az rfl rfl rfl rfl rfl rfl ?_
 exact ⟨_,(((hGz6.trans hGz10).trans hGq11).trans hGgq11),M.weaken dS4,_,_,_,_,rfl,Sz6,Sgq11⟩
end Go.Proofs.YtmmhmcplegpenaaGreatDoor
