/- The walks, part LW. · The walks, part LX. · The types and functions that the last walks name. · What is valid can be decided, and the examples of chapter 14. · Notices: the examples of the chapter. · Notices: the examples of the chapter, texts. · The walks, part LY. -/
import Derived.Test.YtmmhmcplegpenaaGreatDoorJ14
import Derived.Test.YtmmhmcplegpenaaGreatDoorJ12
import Derived.Test.YtmmhmcplegpenaaGreatDoorJ3
set_option linter.unusedSimpArgs false
set_option linter.unusedVariables false
namespace Go.Proofs.YtmmhmcplegpenaaGreatDoor
open Go Go.Y Go.Proofs
def NRes (b:Nat) (c:List UInt8) (l:Nat) (L:List Res) (G':A4) (L':List Res) (v:Value):Prop :=
  ∃ (k:Nat) (a1 c1 t1:Int) (ad:Option Addr) (ln cn:Nat) (ok:Bool) (c':List UInt8) (l':Nat),v=.tuple #[.agg #[.int .u8 ((k:Nat):Int),.int .i64 a1,.int .i64 c1,.int .i64 t1,.slice ad ln cn],.bool ok]∧L' = (.blk b [.string (str c'),.int .i64 ((l':Nat):Int)] 155::L)∧c'.length≤c.length∧l'≤l+1025 ∧
  ((ok=true∧∃ x sz ys,Head x sz∧okI ys∧((ys.length:Nat):Int)=sz∧c=Fq x sz++(Dg ys++c')∧l' = l+1+ys.length∧Gi G' [.int .u8 ((k:Nat):Int),.int .i64 a1,.int .i64 c1,.int .i64 t1,.slice ad ln cn] { x with items:=ys }) ∨
   (ok=false∧((¬ Jg c∧l' = l+1)∨∃ x sz ys r,Head x sz∧okI ys∧((ys.length:Nat):Int) < sz∧l' = l+1+ys.length+1∧c=Fq x sz++(Dg ys++r)∧¬ Qx r)))
theorem Ale {ys:List ItemD} {y:ItemD} (h:okI ys) (hy:ItemOk 8 y∧y.key < 18446744073709551616∧y.typ < 256):okI (ys++[y]):=by
 intro z hz
 rcases List.mem_append.1 hz with hz | hz
 ·exact h z hz
 rw [List.mem_singleton.1 hz];exact hy
theorem Z0 {w0 w:World} {G:A4} {L:List Res} {b l:Nat} {c:List UInt8} (M:Mem w0 G (.blk b [.string (str c),.int .i64 ((l:Nat):Int)] 155::L) w) (HG:Globs 0 1 2 3 G) (hcl:c.length≤1048576) (hll:l≤2000000) :
  Calls Tryz.prog 85 #[.func (.func 86) #[.pointer (some ⟨b,0,none⟩)] #[]] w (Iz w0 G (NRes b c l L)):=by
 refine Ay (vs:=[_]) Tryz.func85 rfl (n:=133) rfl rfl<|Ac<|C9 M Bm rfl rfl<|?_;clear M;intro b1 w M
 refine Ab rfl<|Ac<|Aa rfl<|?_
 replace M:=M.perm (Ao _ 1 _ rfl);change Mem w0 G (_::_::L) _ at M;intro a F;refine Zn F ent86 (first:=[.pointer (some ⟨b,0,none⟩)]) rfl rfl rfl (V5 (c:=c) (l:=l) M HG (by omega) (by omega)) ?_;clear F M a;rintro _ w a M rfl F;have hctk3:=I9 10 c;revert a;refine Aa rfl<|Df rfl rfl<|Df rfl rfl<|Ab rfl<|Ab rfl<|Ac<|Aa rfl<|Ge Aou rfl rfl (Y8 (s:=(Lib.cut c [10]).1) M HG (by omega))<|?_;clear M;rintro _ Gp4 w hGp4 M ⟨ap4,rfl,Sp4⟩
 replace HG:=HG.mono hGp4;refine C9 M Cw rfl rfl<|?_;clear M;intro b5 w M
 refine Gd Cw M 0 rfl rfl rfl rfl rfl rfl<|?_;clear M;intro w M
 refine Ac<|Bs Pq rfl rfl (Gw M)<|?_;clear M;rintro _ w M rfl
 refine C9 M Hf rfl rfl<|?_;clear M;intro b7 w M
 intro a F;refine Vt F M Hf (k:=0) rfl rfl rfl (us:=Il) rfl rfl (by simp [Il,Value.oneCell']) (Nat.le_refl 36) ?_;clear F M a;intro w a M F;change Mem w0 Gp4 (.blk b7 Il 139::.blk b5 [.slice ap4 ((B7 ((Lib.cut c [10]).1)).length) ((B7 ((Lib.cut c [10]).1)).length)] 24::.blk b [.string (str ((Lib.cut c [10]).2.1)),.int .i64 ((((l+1):Nat):Int))] 155::.blk b1 [.int .u8 0,.int .i64 0,.int .i64 0,.int .i64 0,.slice none 0 0] 65::L) _ at M;revert a;refine Ag<|?_
 obtain ⟨W,wr,hws,hwsb⟩:=Q0 (Lib.cut c [10]).1;have hW:(B7 (Lib.cut c [10]).1)[0]?=some W:=by rw [hws];rfl
 have hwsl:=congrArg List.length hws;intro a F;rw [List.length_cons] at hwsl;revert a;refine Az<|Ar (fun a F=>U3 Hf.k Cl (F.ev rfl)) rfl<|Ar (fun a F=>Ds (vs:=#[.pointer (some ⟨b5,0,none⟩)]) (by simp only [List.map_toArray,List.map_cons,List.map_nil,F.ev (x:=.tmp 6) rfl])) rfl<|?_
 replace M:=M.perm (Ao _ 1 _ rfl);replace M:=M.perm (Ao _ 1 _ rfl);change Mem w0 Gp4 (_::.blk b5 [.slice ap4 ((B7 ((Lib.cut c [10]).1)).length) ((B7 ((Lib.cut c [10]).1)).length)] 24::_::_::L) _ at M;refine Bs ent134 rfl rfl (Qm Sp4 M hW)<|?_;clear M;rintro _ w M ⟨zz9,rfl,hzz9⟩
 refine Ab rfl<|Ag<|Ac<|Aa rfl<|Dh rfl<|Aa rfl<|?_
 rcases bE (!((Lib.cut c [10]).2.2)) with h10b | h11b
 ·skip
  have h10:=Ah h10b;have h10c:((Lib.cut c [10]).2.2)=false:=(Ah h10b);refine g_f rfl (Ak h10c)<|g_f rfl (Ak h10c)<|Bh rfl (Ak h10c) rfl<|Bl rfl rfl<|Ac<|Ar (fun a F=>Af Bm rfl (F.ev rfl) (cs:=[.int .u8 0,.int .i64 0,.int .i64 0,.int .i64 0,.slice none 0 0]) rfl (M.cellsL (k:=3) rfl rfl)) rfl<|fun a F=>?_
  refine Cj F M Bm 3 ?_;clear F M a;intro w a M F;change Mem w0 Gp4 (_::.blk b5 [.slice ap4 ((B7 ((Lib.cut c [10]).1)).length) ((B7 ((Lib.cut c [10]).1)).length)] 24::_::.blk b1 [.int .u8 0,.int .i64 0,.int .i64 0,.int .i64 0,.slice none 0 0] 65::L) _ at M;revert a;refine Ab rfl<|Ae<|C5<|fun a F=>Cn F M (k:=3) rfl rfl Bm rfl rfl rfl rfl ?_
  replace M:=M.perm (Ao _ 2 _ rfl);change Mem w0 Gp4 (_::_::.blk b5 [.slice ap4 ((B7 ((Lib.cut c [10]).1)).length) ((B7 ((Lib.cut c [10]).1)).length)] 24::.blk b1 [.int .u8 0,.int .i64 0,.int .i64 0,.int .i64 0,.slice none 0 0] 65::L) _ at M
  exact ⟨_,_,hGp4,M.weaken (cC (cN (.cons _ (cN (sR _))))),0,0,0,0,none,0,0,false,_,_,rfl,rfl,by omega,by omega,Or.inr ⟨rfl,Or.inl ⟨Tq hws hzz9 (by first | exact Or.inl (by assumption) | exact Or.inr (by omega)),rfl⟩⟩⟩
 have h11:=Ai h11b;have h11c:((Lib.cut c [10]).2.2)=true:=(Ai h11b);refine g_t rfl (Aj h11c)<|Aa rfl<|g_t rfl (Aj h11c)<|C2 rfl rfl<|Be rfl (Aj h11c) rfl<|Ap rfl ?_ ?_
 ·intro h12b;have h12:=dT h12b;refine Ac<|Ar (fun a F=>Af Bm rfl (F.ev rfl) (cs:=[.int .u8 0,.int .i64 0,.int .i64 0,.int .i64 0,.slice none 0 0]) rfl (M.cellsL (k:=3) rfl rfl)) rfl<|fun a F=>?_
  refine Cj F M Bm 3 ?_;clear F M a;intro w a M F;change Mem w0 Gp4 (_::.blk b5 [.slice ap4 ((B7 ((Lib.cut c [10]).1)).length) ((B7 ((Lib.cut c [10]).1)).length)] 24::_::.blk b1 [.int .u8 0,.int .i64 0,.int .i64 0,.int .i64 0,.slice none 0 0] 65::L) _ at M;revert a;refine Ab rfl<|Ae<|C5<|fun a F=>Cn F M (k:=3) rfl rfl Bm rfl rfl rfl rfl ?_
  replace M:=M.perm (Ao _ 2 _ rfl);change Mem w0 Gp4 (_::_::.blk b5 [.slice ap4 ((B7 ((Lib.cut c [10]).1)).length) ((B7 ((Lib.cut c [10]).1)).length)] 24::.blk b1 [.int .u8 0,.int .i64 0,.int .i64 0,.int .i64 0,.slice none 0 0] 65::L) _ at M
  exact ⟨_,_,hGp4,M.weaken (cC (cN (.cons _ (cN (sR _))))),0,0,0,0,none,0,0,false,_,_,rfl,rfl,by omega,by omega,Or.inr ⟨rfl,Or.inl ⟨Tq hws hzz9 (by first | exact Or.inl (by assumption) | exact Or.inr (by omega)),rfl⟩⟩⟩
 intro h13b;have h13:=dF h13b;refine Aq<|Ag<|?_
 have hwt:(Lib.cut c [10]).2.2=true:=by assumption
 obtain ⟨k,hk,hzk,hkW⟩:=Ais hzz9 (by assumption);subst hzk;refine Az<|C9 M Cg rfl rfl<|?_;clear M;intro b14 w M
 refine Gd Cg M 0 rfl rfl rfl rfl rfl rfl<|?_;clear M;intro w M
 refine Ac<|Aa rfl<|Ar (fun a F=>Ew Fa.k ⟨_,by rw [D7 Cg.k]⟩ (F.ev rfl) (in_u8 (by omega) (by omega))) rfl<|A0 Bm.k rfl rfl<|Gd Fa M 4 rfl rfl rfl rfl rfl rfl<|?_;clear M;intro w M
 refine Ac<|Aa rfl<|Ar (fun a F=>Zi (j:=k) Hf.k Cl (F.ev rfl) (F.ev rfl) rfl (by omega)) rfl<|Ar (fun a F=>Af Cl rfl (F.ev rfl) (cs:=[.string (str (C1 k)),.bool (decide (uAt k)),.bool (decide (uCo k)),.bool (decide (uTo k)),.bool (decide (uIt k)),kfn k]) rfl (M.cellsL (k:=1) rfl (Tz (k:=k) (by omega)))) rfl<|fun a F=>?_
 rw [kfn_pos hk.1] at F;revert a;refine Ge ent82 rfl rfl (V3 (k:=k) (b:=b1) (b2:=b14) M)<|?_;clear M;rintro _ Gq16 w hGq16 M ⟨aq16,cq16,rfl,Sq16⟩
 replace HG:=HG.mono hGq16;replace Sp4:=Sp4.mono Bi hGq16;refine Ab rfl<|Ag<|Ag<|?_
 have hf4:=Adv (He k b1 b14);intro a F;rw [show (He k b1 b14).length=4 from rfl] at hf4;revert a;refine Az<|Bg Cw M 2 rfl rfl rfl rfl<|B8 Cw.k rfl<|Aa rfl<|B8 N3.k rfl<|Bx rfl rfl<|Fh rfl rfl<|Ap rfl ?_ ?_
 ·intro h17b;have h17:=dF (Ah h17b);have h17c:(decide ((((B7 ((Lib.cut c [10]).1)).length:Nat):Int)=((((fm (He k b1 b14)).length:Nat):Int))+1))=false:=(Ah h17b);refine Ac<|Ar (fun a F=>Af Bm rfl (F.ev rfl) (cs:=[.int .u8 ((k:Nat):Int),.int .i64 0,.int .i64 0,.int .i64 0,.slice none 0 0]) rfl (M.cellsL (k:=4) rfl rfl)) rfl<|fun a F=>?_
  refine Cj F M Bm 4 ?_;clear F M a;intro w a M F;change Mem w0 Gq16 (.blk b14 [.int .i64 0] 3::_::.blk b5 [.slice ap4 ((B7 ((Lib.cut c [10]).1)).length) ((B7 ((Lib.cut c [10]).1)).length)] 24::_::.blk b1 [.int .u8 ((k:Nat):Int),.int .i64 0,.int .i64 0,.int .i64 0,.slice none 0 0] 65::L) _ at M;revert a;refine Ab rfl<|Ae<|C5<|fun a F=>Cn F M (k:=4) rfl rfl Bm rfl rfl rfl rfl ?_
  replace M:=M.perm (Ao _ 3 _ rfl);change Mem w0 Gq16 (_::.blk b14 [.int .i64 0] 3::_::.blk b5 [.slice ap4 ((B7 ((Lib.cut c [10]).1)).length) ((B7 ((Lib.cut c [10]).1)).length)] 24::.blk b1 [.int .u8 ((k:Nat):Int),.int .i64 0,.int .i64 0,.int .i64 0,.slice none 0 0] 65::L) _ at M
  exact ⟨_,_,(hGp4.trans hGq16),M.weaken (cC (cN (.cons _ (cN (.cons _ (sR _)))))),k,0,0,0,none,0,0,false,_,_,rfl,rfl,by omega,by omega,Or.inr ⟨rfl,Or.inl ⟨Z4 (b:=b1) (b2:=b14) hws hk hkW (by omega),rfl⟩⟩⟩
 intro h18b;have h18:=dT (Ai h18b);have h18c:(decide ((((B7 ((Lib.cut c [10]).1)).length:Nat):Int)=((((fm (He k b1 b14)).length:Nat):Int))+1))=true:=(Ai h18b);refine Aq<|Ag<|Ag<|?_
 have hlw:wr.length=(fm (He k b1 b14)).length:=by omega
 refine Az<|Aa rfl<|B8 N3.k rfl<|Aa rfl<|Ax<|fun a F=>Bz (fun m a' w'=>∃ (i:Nat),∃ (x:NotD),∃ (sz:Int),m=(fm (He k b1 b14)).length - i∧Fits 133 a' [(0,.func (.func 86) #[.pointer (some ⟨b,0,none⟩)] #[]),(2,.pointer (some ⟨b1,0,none⟩)),(6,.pointer (some ⟨b5,0,none⟩)),(7,.pointer (some ⟨b7,0,none⟩)),(9,.pointer (some ⟨b14,0,none⟩)),(10,.slice aq16 ((fm (He k b1 b14)).length) (cq16)),(52,.slice aq16 ((fm (He k b1 b14)).length) (cq16)),(53,.int .i64 ((((fm (He k b1 b14)).length:Nat):Int))),(54,.int .i64 ((i:Nat):Int))]∧Mem w0 Gq16 (.blk b14 [.int .i64 sz] 3::.blk b7 Il 139::.blk b5 [.slice ap4 ((B7 ((Lib.cut c [10]).1)).length) ((B7 ((Lib.cut c [10]).1)).length)] 24::.blk b [.string (str ((Lib.cut c [10]).2.1)),.int .i64 ((((l+1):Nat):Int))] 155::.blk b1 [.int .u8 ((x.kind:Nat):Int),.int .i64 x.at_,.int .i64 x.count,.int .i64 x.to,.slice none 0 0] 65::L) w'∧(i≤(fm (He k b1 b14)).length)∧(x.kind=k)∧(FlH x sz)∧(Wd wr x sz i)) _ ⟨0,⟨k,0,0,0,[]⟩,0,rfl,F.to ⟨rfl,rfl,rfl,rfl,rfl,rfl,rfl,rfl,rfl,trivial⟩,M,Nat.zero_le _,rfl,fl_zero hk,fun j z h=>by omega⟩ ?_
 clear F M;rintro m a w ⟨i,x,sz,rfl,F,M,hi,hxk,hfl,hwd⟩;revert a;refine Ac<|C2 rfl rfl<|Ag<|Ap rfl ?_ ?_
 ·intro h19b;have h19:=dT h19b;refine Aq<|Ag<|Ax<|Ac<|Aa rfl<|?_
  obtain ⟨Xe20,hXe20⟩:=A2 (xs:=(fm (He k b1 b14))) (i:=i) (by omega);obtain ⟨be20,oe20,_,Ie20,_,Ae20,rfl⟩:=Sq16.at hXe20;refine D0 N3.k N2 Ie20 rfl rfl<|Dq N2 M Ae20 0 rfl rfl (by omega) rfl<|Ab rfl<|Ab rfl<|Ac<|Bg Cw M 2 rfl rfl rfl rfl<|Aa rfl<|Bx rfl rfl<|?_
  obtain ⟨Xe21,hXe21⟩:=A2 (xs:=B7 ((Lib.cut c [10]).1)) (i:=i+1) (by (have h9_:=hwsl;omega));obtain ⟨be21,oe21,_,Ie21,_,Ae21,⟨rfl,hsle21⟩⟩:=Sp4.at hXe21;refine D0 Cw.k Bq Ie21 rfl rfl<|Dq Bq M Ae21 0 rfl rfl (by omega) rfl<|?_
  have hwi:wr[i]?=some Xe21:=by have h_:=hXe21;rw [hws] at h_;simpa using h_
  have hwl:=So (List.mem_of_getElem? hXe21);refine Bs ent136 rfl rfl (Aju (s:=Xe21) M HG (by omega))<|?_;clear M;rintro _ w M ⟨zt22,ert22,rfl,het22,hat22⟩
  refine Aa rfl<|Df rfl rfl<|Df rfl rfl<|Ab rfl<|Ab rfl<|Ag<|Ag<|fun a F=>O0 [(.free,0),(.free,1),(.free,2),(.free,3),(.pure,5),(.free,6),(.free,7),(.free,8),(.pure,9),(.keep,4),(.free,10),(.free,11)] [] (Keep Gq16 [.blk b5 [.slice ap4 ((B7 ((Lib.cut c [10]).1)).length) ((B7 ((Lib.cut c [10]).1)).length)] 24]) rfl (by kernel_rfl) (fun c a d v w h=>by cases d <;> exact h) (Bo (M.drew _)) ?_
  replace M:=M.drew (w.drawn+1);revert a;refine k_f (fun a F w _=>B1 F rfl) rfl<|k_f (fun a F w _=>Acp Sk.k het22 (F.ev rfl) rfl) rfl<|k_f (fun a F w _=>B1 F rfl) rfl<|?_
  rcases bE (!(Ef ert22)) with h23b | h24b
  ·skip
   have h23:=Ah h23b;have h23c:(Ef ert22)=false:=(Ah h23b);refine k_s rfl (Ak h23c)<|k_s rfl (Ak h23c)<|k_s rfl (Ak h23c)<|k_s rfl (Ak h23c)<|k_s rfl (Ak h23c)<|k_s rfl (Ak h23c)<|k_s rfl (Ak h23c)<|k_s rfl (Ak h23c)<|k_f (fun a F w _=>F5 F rfl (Ak h23c) rfl) rfl<|De<|?_
   generalize ({ w with drawn:=w.drawn+1 }:World)=w at M ⊢
   refine Bl rfl rfl<|Ac<|Ar (fun a F=>Af Bm rfl (F.ev rfl) (cs:=[.int .u8 ((x.kind:Nat):Int),.int .i64 x.at_,.int .i64 x.count,.int .i64 x.to,.slice none 0 0]) rfl (M.cellsL (k:=4) rfl rfl)) rfl<|fun a F=>?_
   refine Cj F M Bm 4 ?_;clear F M a;intro w a M F;change Mem w0 Gq16 (_::_::.blk b5 [.slice ap4 ((B7 ((Lib.cut c [10]).1)).length) ((B7 ((Lib.cut c [10]).1)).length)] 24::_::.blk b1 [.int .u8 ((x.kind:Nat):Int),.int .i64 x.at_,.int .i64 x.count,.int .i64 x.to,.slice none 0 0] 65::L) _ at M;revert a;refine Ab rfl<|Ae<|C5<|Fy<|C5<|C5<|Fy<|C5<|fun a F=>Cn F M (k:=4) rfl rfl Bm rfl rfl rfl rfl ?_
   replace M:=M.perm (Ao _ 3 _ rfl);change Mem w0 Gq16 (_::_::_::.blk b5 [.slice ap4 ((B7 ((Lib.cut c [10]).1)).length) ((B7 ((Lib.cut c [10]).1)).length)] 24::.blk b1 [.int .u8 ((x.kind:Nat):Int),.int .i64 x.at_,.int .i64 x.count,.int .i64 x.to,.slice none 0 0] 65::L) _ at M
   exact ⟨_,_,(hGp4.trans hGq16),M.weaken (cC (cN (.cons _ (cN (.cons _ (sR _)))))),x.kind,x.at_,x.count,x.to,none,0,0,false,_,_,rfl,rfl,by omega,by omega,Or.inr ⟨rfl,Or.inl ⟨Z3 hws hk hkW hwi hat22 (by first | exact Or.inl (by assumption) | exact Or.inr (by assumption)),rfl⟩⟩⟩
  have h24:=Ai h24b;have h24c:(Ef ert22)=true:=(Ai h24b);refine Cb rfl (Aj h24c) (fun a F w _=>B1 F rfl)<|Gk rfl (Aj h24c) (fun a F w M=>Al (agf Cw rfl) (F.ev rfl) (M.cellL (k:=0) rfl rfl))<|Cb rfl (Aj h24c) (fun a F w _=>B1 F rfl)<|Cb rfl (Aj h24c) (fun a F w _=>Gf (F.ev rfl) (F.ev rfl) (C0 (by omega) (by omega)))<|?_
  obtain ⟨be25,oe25,_,Ie25,_,Ae25,⟨rfl,hsle25⟩⟩:=Sp4.at hXe21;refine Cb rfl (Aj h24c) (fun a F w _=>Bt Cw.k Bq (F.ev rfl) (F.ev rfl) (by omega) Ie25)<|Gk rfl (Aj h24c) (fun a F w M=>Al (agf Bq rfl) (F.ev rfl) (M.cellA Ae25 0 (by omega) rfl))<|fun a F=>G3 F rfl rfl (Aj h24c) ?_
  revert a;refine g_t rfl (Aj h24c)<|Bs Agl rfl rfl (T4 (z:=zt22) M HG (Abl (ok_of hat22 (by assumption))))<|?_;clear M;rintro _ w M rfl
  refine eQ (Bo M)<|Cb rfl (Aj h24c) (fun a F w _=>Js (F.ev rfl) (F.ev rfl))<|k_f (fun a F w _=>Fx F rfl (Aj h24c) rfl) rfl<|De<|Ap rfl ?_ ?_
  ·intro h26b;have h26:=dF (Ah h26b);have h26c:(decide ((Lib.itoa zt22)=Xe21))=false:=(Ah h26b);refine Ac<|Ar (fun a F=>Af Bm rfl (F.ev rfl) (cs:=[.int .u8 ((x.kind:Nat):Int),.int .i64 x.at_,.int .i64 x.count,.int .i64 x.to,.slice none 0 0]) rfl (M.cellsL (k:=4) rfl rfl)) rfl<|fun a F=>?_
   refine Cj F M Bm 4 ?_;clear F M a;intro w a M F;change Mem w0 Gq16 (_::_::.blk b5 [.slice ap4 ((B7 ((Lib.cut c [10]).1)).length) ((B7 ((Lib.cut c [10]).1)).length)] 24::_::.blk b1 [.int .u8 ((x.kind:Nat):Int),.int .i64 x.at_,.int .i64 x.count,.int .i64 x.to,.slice none 0 0] 65::L) _ at M;revert a;refine Ab rfl<|Ae<|C5<|Fy<|C5<|C5<|Fy<|C5<|fun a F=>Cn F M (k:=4) rfl rfl Bm rfl rfl rfl rfl ?_
   replace M:=M.perm (Ao _ 3 _ rfl);change Mem w0 Gq16 (_::_::_::.blk b5 [.slice ap4 ((B7 ((Lib.cut c [10]).1)).length) ((B7 ((Lib.cut c [10]).1)).length)] 24::.blk b1 [.int .u8 ((x.kind:Nat):Int),.int .i64 x.at_,.int .i64 x.count,.int .i64 x.to,.slice none 0 0] 65::L) _ at M
   exact ⟨_,_,(hGp4.trans hGq16),M.weaken (cC (cN (.cons _ (cN (.cons _ (sR _)))))),x.kind,x.at_,x.count,x.to,none,0,0,false,_,_,rfl,rfl,by omega,by omega,Or.inr ⟨rfl,Or.inl ⟨Z3 hws hk hkW hwi hat22 (by first | exact Or.inl (by assumption) | exact Or.inr (by assumption)),rfl⟩⟩⟩
  intro h27b;have h27:=dT (Ai h27b);have h27c:(decide ((Lib.itoa zt22)=Xe21))=true:=(Ai h27b);refine Aq<|Cm<|?_
  have hao:=ok_of hat22 (by assumption);have hiw:Lib.itoa zt22=Xe21:=by assumption
  have hXp2:(fm (He x.kind b1 b14))[i]?=some Xe20:=by rw [hxk];exact hXe20
  obtain ⟨hpk,hpf,hpw⟩:=put_ok hXp2 hfl hwd (Abl hao) (by rw [hiw];exact hwi);obtain ⟨hpa,hpp⟩:=Afd (sz:=sz) (v:=zt22) hXp2;intro a F;refine Mb (fun a' w'=>Fits 133 a' [(0,.func (.func 86) #[.pointer (some ⟨b,0,none⟩)] #[]),(2,.pointer (some ⟨b1,0,none⟩)),(6,.pointer (some ⟨b5,0,none⟩)),(7,.pointer (some ⟨b7,0,none⟩)),(9,.pointer (some ⟨b14,0,none⟩)),(10,.slice aq16 ((fm (He k b1 b14)).length) (cq16)),(52,.slice aq16 ((fm (He k b1 b14)).length) (cq16)),(53,.int .i64 ((((fm (He k b1 b14)).length:Nat):Int))),(54,.int .i64 ((i:Nat):Int))]∧Mem w0 Gq16 (.blk b14 [.int .i64 ((Mm x sz Xe20.2 zt22).2)] 3::.blk b7 Il 139::.blk b5 [.slice ap4 ((B7 ((Lib.cut c [10]).1)).length) ((B7 ((Lib.cut c [10]).1)).length)] 24::.blk b [.string (str ((Lib.cut c [10]).2.1)),.int .i64 ((((l+1):Nat):Int))] 155::.blk b1 [.int .u8 ((((Mm x sz Xe20.2 zt22).1.kind:Nat):Int)),.int .i64 ((Mm x sz Xe20.2 zt22).1.at_),.int .i64 ((Mm x sz Xe20.2 zt22).1.count),.int .i64 ((Mm x sz Xe20.2 zt22).1.to),.slice none 0 0] 65::L) w') ?_ ?_
  ·skip
   rcases hpp with ⟨rfl,_⟩ | ⟨rfl,_⟩ | ⟨rfl,_⟩ | ⟨rfl,_⟩
   ·skip
    revert a;refine Az<|Aa rfl<|Aa rfl<|Fi rfl<|Gd Cg M 4 rfl rfl rfl rfl rfl rfl<|?_;clear M;intro w M
    refine Bc<|fun a F=>?_
    exact ⟨F.to ⟨rfl,rfl,rfl,rfl,rfl,rfl,rfl,rfl,rfl,trivial⟩,M⟩
   ·skip
    revert a;refine Az<|Aa rfl<|Aa rfl<|Fi rfl<|Gd Cg M 4 rfl rfl rfl rfl rfl rfl<|?_;clear M;intro w M
    refine Bc<|fun a F=>?_
    exact ⟨F.to ⟨rfl,rfl,rfl,rfl,rfl,rfl,rfl,rfl,rfl,trivial⟩,M⟩
   ·skip
    revert a;refine Az<|Aa rfl<|Aa rfl<|Fi rfl<|Gd Cg M 4 rfl rfl rfl rfl rfl rfl<|?_;clear M;intro w M
    refine Bc<|fun a F=>?_
    exact ⟨F.to ⟨rfl,rfl,rfl,rfl,rfl,rfl,rfl,rfl,rfl,trivial⟩,M⟩
   revert a;refine Az<|Aa rfl<|Aa rfl<|Fi rfl<|Gd Cg M 0 rfl rfl rfl rfl rfl rfl<|?_;clear M;intro w M
   refine Bc<|fun a F=>?_
   exact ⟨F.to ⟨rfl,rfl,rfl,rfl,rfl,rfl,rfl,rfl,rfl,trivial⟩,M⟩
  clear F M;rintro a w ⟨F,M⟩;revert a;refine Az<|Bx rfl rfl<|Aa rfl<|Bc<|Cm<|fun a F=>?_
  exact ⟨_,by omega,i+1,(Mm x sz Xe20.2 zt22).1,(Mm x sz Xe20.2 zt22).2,rfl,F.to ⟨rfl,rfl,rfl,rfl,rfl,rfl,rfl,rfl,rfl,trivial⟩,M,by omega,hpk.trans hxk,hpf,hpw⟩
 intro h28b;have h28:=dF h28b;refine B5<|Bw<|Bw<|Dj<|Ag<|Ag<|?_
 have hfe:=Sa (x:=x) (b:=b1) (b2:=b14) (sz:=sz);intro a F;rw [hxk] at hfe;have hwr:=wd_all hwd (by omega) (by omega);revert a;refine Az<|Bg Cg M 0 rfl rfl rfl rfl<|C2 rfl rfl<|Aa rfl<|?_
 rcases bE (decide (sz < 0)) with h29b | h30b
 ·skip
  have h29:=dT h29b;refine g_f rfl h29b<|g_f rfl h29b<|Bh rfl h29b rfl<|Bl rfl rfl<|Ac<|Ar (fun a F=>Af Bm rfl (F.ev rfl) (cs:=[.int .u8 ((x.kind:Nat):Int),.int .i64 x.at_,.int .i64 x.count,.int .i64 x.to,.slice none 0 0]) rfl (M.cellsL (k:=4) rfl rfl)) rfl<|fun a F=>?_
  refine Cj F M Bm 4 ?_;clear F M a;intro w a M F;change Mem w0 Gq16 (_::_::.blk b5 [.slice ap4 ((B7 ((Lib.cut c [10]).1)).length) ((B7 ((Lib.cut c [10]).1)).length)] 24::_::.blk b1 [.int .u8 ((x.kind:Nat):Int),.int .i64 x.at_,.int .i64 x.count,.int .i64 x.to,.slice none 0 0] 65::L) _ at M;revert a;refine Ab rfl<|Ae<|C5<|fun a F=>Cn F M (k:=4) rfl rfl Bm rfl rfl rfl rfl ?_
  replace M:=M.perm (Ao _ 3 _ rfl);change Mem w0 Gq16 (_::_::_::.blk b5 [.slice ap4 ((B7 ((Lib.cut c [10]).1)).length) ((B7 ((Lib.cut c [10]).1)).length)] 24::.blk b1 [.int .u8 ((x.kind:Nat):Int),.int .i64 x.at_,.int .i64 x.count,.int .i64 x.to,.slice none 0 0] 65::L) _ at M
  exact ⟨_,_,(hGp4.trans hGq16),M.weaken (cC (cN (.cons _ (cN (.cons _ (sR _)))))),x.kind,x.at_,x.count,x.to,none,0,0,false,_,_,rfl,rfl,by omega,by omega,Or.inr ⟨rfl,Or.inl ⟨Z2 hws hfl (by rw [hxk];exact hkW) hwr (by omega),rfl⟩⟩⟩
 have h30:=dF h30b;refine g_t rfl h30b<|Bg Cg M 0 rfl rfl rfl rfl<|g_t rfl h30b<|Da rfl rfl<|Be rfl h30b rfl<|Ap rfl ?_ ?_
 ·intro h31b;have h31:=dT h31b;refine Ac<|Ar (fun a F=>Af Bm rfl (F.ev rfl) (cs:=[.int .u8 ((x.kind:Nat):Int),.int .i64 x.at_,.int .i64 x.count,.int .i64 x.to,.slice none 0 0]) rfl (M.cellsL (k:=4) rfl rfl)) rfl<|fun a F=>?_
  refine Cj F M Bm 4 ?_;clear F M a;intro w a M F;change Mem w0 Gq16 (_::_::.blk b5 [.slice ap4 ((B7 ((Lib.cut c [10]).1)).length) ((B7 ((Lib.cut c [10]).1)).length)] 24::_::.blk b1 [.int .u8 ((x.kind:Nat):Int),.int .i64 x.at_,.int .i64 x.count,.int .i64 x.to,.slice none 0 0] 65::L) _ at M;revert a;refine Ab rfl<|Ae<|C5<|fun a F=>Cn F M (k:=4) rfl rfl Bm rfl rfl rfl rfl ?_
  replace M:=M.perm (Ao _ 3 _ rfl);change Mem w0 Gq16 (_::_::_::.blk b5 [.slice ap4 ((B7 ((Lib.cut c [10]).1)).length) ((B7 ((Lib.cut c [10]).1)).length)] 24::.blk b1 [.int .u8 ((x.kind:Nat):Int),.int .i64 x.at_,.int .i64 x.count,.int .i64 x.to,.slice none 0 0] 65::L) _ at M
  exact ⟨_,_,(hGp4.trans hGq16),M.weaken (cC (cN (.cons _ (cN (.cons _ (sR _)))))),x.kind,x.at_,x.count,x.to,none,0,0,false,_,_,rfl,rfl,by omega,by omega,Or.inr ⟨rfl,Or.inl ⟨Z2 hws hfl (by rw [hxk];exact hkW) hwr (by omega),rfl⟩⟩⟩
 intro h32b;have h32:=dF h32b;refine Aq<|Ag<|Ag<|?_
 have hh:=hfl.head (by omega);have hcc:=head_of hws (by rw [hxk];exact hkW) hwr hwt;obtain ⟨p,hp⟩:=Int.eq_ofNat_of_zero_le hh.rs.1;subst hp;have hp4:=hh.rs.2;refine Az<|Bg Cg M 0 rfl rfl rfl rfl<|Aa rfl<|Ax<|?_
 have M:=M.nilrow 26 4;change Mem w0 Gq16 (.row (.slice none 0 0) 0 ([]) 26 4::.blk b14 [.int .i64 ((p:Nat):Int)] 3::.blk b7 Il 139::.blk b5 [.slice ap4 ((B7 ((Lib.cut c [10]).1)).length) ((B7 ((Lib.cut c [10]).1)).length)] 24::.blk b [.string (str ((Lib.cut c [10]).2.1)),.int .i64 ((((l+1):Nat):Int))] 155::.blk b1 [.int .u8 ((x.kind:Nat):Int),.int .i64 x.at_,.int .i64 x.count,.int .i64 x.to,.slice none 0 0] 65::L) _ at M;intro a F;refine Bz (fun m a' w'=>∃ (j:Nat),∃ (ys:List ItemD),∃ (cj:List UInt8),∃ (ar:Option Addr),∃ (nr:Nat),∃ (cr:Nat),∃ (csr:List Value),m=p - j∧∃ G33,Gle Gq16 G33∧Fits 133 a' [(0,.func (.func 86) #[.pointer (some ⟨b,0,none⟩)] #[]),(2,.pointer (some ⟨b1,0,none⟩)),(92,.int .i64 ((p:Nat):Int)),(93,.int .i64 ((j:Nat):Int))]∧Mem w0 G33 (.row (.slice ar nr cr) (nr) (csr) 26 4::.blk b14 [.int .i64 ((p:Nat):Int)] 3::.blk b7 Il 139::.blk b5 [.slice ap4 ((B7 ((Lib.cut c [10]).1)).length) ((B7 ((Lib.cut c [10]).1)).length)] 24::.blk b [.string (str cj),.int .i64 ((((l+1+j):Nat):Int))] 155::.blk b1 [.int .u8 ((x.kind:Nat):Int),.int .i64 x.at_,.int .i64 x.count,.int .i64 x.to,.slice ar nr cr] 65::L) w'∧(j≤p)∧(ys.length=j)∧(okI ys)∧((Lib.cut c [10]).2.1=Dg ys++cj)∧(cj.length≤c.length)∧(Els Cv 4 G33 csr ys)∧(nr≤j)) _ ⟨0,[],_,none,0,0,[],rfl,Gq16,Gle.refl _,F.to ⟨rfl,rfl,rfl,rfl,trivial⟩,M,Nat.zero_le _,rfl,(fun y hy=>by cases hy),rfl,by omega,Els.nil,by omega⟩ ?_;clear F M;rintro m a w ⟨j,ys,cj,ar,nr,cr,csr,rfl,G33,hG33,F,M,hj,hyl,hok,hcj,hcl2,Er,hnr⟩;replace HG:=HG.mono hG33
 replace Sp4:=Sp4.mono Bi hG33;replace Sq16:=Sq16.mono K6 hG33;revert a;refine Ac<|C2 rfl rfl<|Ag<|Ap rfl ?_ ?_
 ·intro h34b;have h34:=dT h34b;refine Aq<|Ag<|Ax<|Ac<|Aa rfl<|?_
  replace M:=M.perm (Ao _ 4 _ rfl);change Mem w0 G33 (_::_::_::_::_::_::L) _ at M;intro a F;refine Zn F ent86 (first:=[.pointer (some ⟨b,0,none⟩)]) rfl rfl rfl (V5 (c:=cj) (l:=(l+1+j)) M HG (by omega) (by omega)) ?_;clear F M a;rintro _ w a M rfl F;have hctk35:=I9 10 cj;revert a;refine Aa rfl<|Df rfl rfl<|Df rfl rfl<|Ab rfl<|Ab rfl<|Ac<|Aa rfl<|Ar (fun a F=>Dx (F.ev rfl) (F.ev rfl) (by (first | omega | (simp only [List.length_append,List.length_cons,List.length_nil];omega)))) rfl<|Ge ent12 rfl rfl (Adi (s:=(((Lib.cut cj [10]).1)++([10]:List UInt8))) M HG (by (first | omega | (simp only [List.length_append,List.length_cons,List.length_nil];omega))))<|?_;clear M;rintro _ Gq36 w hGq36 M ⟨aq36,rfl,Sq36⟩
  replace HG:=HG.mono hGq36;replace Sp4:=Sp4.mono Bi hGq36;replace Sq16:=Sq16.mono K6 hGq36;replace Er:=Er.mono Aw hGq36;refine Aa rfl<|Df rfl rfl<|Df rfl rfl<|Df rfl rfl<|Ab rfl<|Ab rfl<|Ab rfl<|Ag<|Ac<|Aa rfl<|Dh rfl<|Aa rfl<|?_
  rcases bE (!((Lib.cut cj [10]).2.2)) with h37b | h38b
  ·skip
   have h37:=Ah h37b;have h37c:((Lib.cut cj [10]).2.2)=false:=(Ah h37b);refine g_f rfl (Ak h37c)<|g_f rfl (Ak h37c)<|Bh rfl (Ak h37c) rfl<|Aa rfl<|g_f rfl rfl<|g_f rfl rfl<|g_f rfl rfl<|Bh rfl rfl rfl<|Bl rfl rfl<|Ac<|Ar (fun a F=>Af Bm rfl (F.ev rfl) (cs:=[.int .u8 ((x.kind:Nat):Int),.int .i64 x.at_,.int .i64 x.count,.int .i64 x.to,.slice ar nr cr]) rfl (M.cellsL (k:=5) rfl rfl)) rfl<|fun a F=>?_
   refine Cj F M Bm 5 ?_;clear F M a;intro w a M F;change Mem w0 Gq36 (_::_::_::_::_::.blk b1 [.int .u8 ((x.kind:Nat):Int),.int .i64 x.at_,.int .i64 x.count,.int .i64 x.to,.slice ar nr cr] 65::L) _ at M;revert a;refine Ab rfl<|Ae<|C5<|Fy<|C5<|C5<|Fy<|C5<|fun a F=>Cn F M (k:=5) rfl rfl Bm rfl rfl rfl rfl ?_
   change Mem w0 Gq36 (_::_::_::_::_::.blk b1 [.int .u8 ((x.kind:Nat):Int),.int .i64 x.at_,.int .i64 x.count,.int .i64 x.to,.slice ar nr cr] 65::L) _ at M
   exact ⟨_,_,(((hGp4.trans hGq16).trans hG33).trans hGq36),M.weaken (cC (cN (.cons _ (cN (.cons _ (cN (sR _))))))),x.kind,x.at_,x.count,x.to,ar,nr,cr,false,_,_,rfl,rfl,by omega,by omega,Or.inr ⟨rfl,Or.inr ⟨x,_,ys,cj,hh,hok,by omega,by omega,by rw [← hcj];exact hcc,Ye (c:=cj) (by omega) (by first | exact Or.inl (by assumption) | exact Or.inr (Or.inl (by assumption)) | exact Or.inr (Or.inl (by omega)) | exact Or.inr (Or.inr (by omega)))⟩⟩⟩
  have h38:=Ai h38b;have h38c:((Lib.cut cj [10]).2.2)=true:=(Ai h38b);refine g_t rfl (Aj h38c)<|Aa rfl<|g_t rfl (Aj h38c)<|Fh rfl rfl<|Be rfl (Aj h38c) rfl<|Aa rfl<|?_
  rcases bE (!(decide ((Ej (((Lib.cut cj [10]).1)++([10]:List UInt8))).2.2=0))) with h39b | h40b
  ·skip
   have h39:=dF (Ah h39b);have h39c:(decide ((Ej (((Lib.cut cj [10]).1)++([10]:List UInt8))).2.2=0))=false:=(Ah h39b);refine g_f rfl (Ak h39c)<|g_f rfl (Ak h39c)<|g_f rfl (Ak h39c)<|Bh rfl (Ak h39c) rfl<|Bl rfl rfl<|Ac<|Ar (fun a F=>Af Bm rfl (F.ev rfl) (cs:=[.int .u8 ((x.kind:Nat):Int),.int .i64 x.at_,.int .i64 x.count,.int .i64 x.to,.slice ar nr cr]) rfl (M.cellsL (k:=5) rfl rfl)) rfl<|fun a F=>?_
   refine Cj F M Bm 5 ?_;clear F M a;intro w a M F;change Mem w0 Gq36 (_::_::_::_::_::.blk b1 [.int .u8 ((x.kind:Nat):Int),.int .i64 x.at_,.int .i64 x.count,.int .i64 x.to,.slice ar nr cr] 65::L) _ at M;revert a;refine Ab rfl<|Ae<|C5<|Fy<|C5<|C5<|Fy<|C5<|fun a F=>Cn F M (k:=5) rfl rfl Bm rfl rfl rfl rfl ?_
   change Mem w0 Gq36 (_::_::_::_::_::.blk b1 [.int .u8 ((x.kind:Nat):Int),.int .i64 x.at_,.int .i64 x.count,.int .i64 x.to,.slice ar nr cr] 65::L) _ at M
   exact ⟨_,_,(((hGp4.trans hGq16).trans hG33).trans hGq36),M.weaken (cC (cN (.cons _ (cN (.cons _ (cN (sR _))))))),x.kind,x.at_,x.count,x.to,ar,nr,cr,false,_,_,rfl,rfl,by omega,by omega,Or.inr ⟨rfl,Or.inr ⟨x,_,ys,cj,hh,hok,by omega,by omega,by rw [← hcj];exact hcc,Ye (c:=cj) (by omega) (by first | exact Or.inl (by assumption) | exact Or.inr (Or.inl (by assumption)) | exact Or.inr (Or.inl (by omega)) | exact Or.inr (Or.inr (by omega)))⟩⟩⟩
  have h40:=dT (Ai h40b);have h40c:(decide ((Ej (((Lib.cut cj [10]).1)++([10]:List UInt8))).2.2=0))=true:=(Ai h40b);refine g_t rfl (Aj h40c)<|Aa rfl<|g_t rfl (Aj h40c)<|B8 B9.k rfl<|g_t rfl (Aj h40c)<|Fh rfl rfl<|Be rfl (Aj h40c) rfl<|Ap rfl ?_ ?_
  ·intro h41b;have h41:=dF (Ah h41b);have h41c:(decide ((((Ej (((Lib.cut cj [10]).1)++([10]:List UInt8))).1.length:Nat):Int)=1))=false:=(Ah h41b);refine Ac<|Ar (fun a F=>Af Bm rfl (F.ev rfl) (cs:=[.int .u8 ((x.kind:Nat):Int),.int .i64 x.at_,.int .i64 x.count,.int .i64 x.to,.slice ar nr cr]) rfl (M.cellsL (k:=5) rfl rfl)) rfl<|fun a F=>?_
   refine Cj F M Bm 5 ?_;clear F M a;intro w a M F;change Mem w0 Gq36 (_::_::_::_::_::.blk b1 [.int .u8 ((x.kind:Nat):Int),.int .i64 x.at_,.int .i64 x.count,.int .i64 x.to,.slice ar nr cr] 65::L) _ at M;revert a;refine Ab rfl<|Ae<|C5<|Fy<|C5<|C5<|Fy<|C5<|fun a F=>Cn F M (k:=5) rfl rfl Bm rfl rfl rfl rfl ?_
   change Mem w0 Gq36 (_::_::_::_::_::.blk b1 [.int .u8 ((x.kind:Nat):Int),.int .i64 x.at_,.int .i64 x.count,.int .i64 x.to,.slice ar nr cr] 65::L) _ at M
   exact ⟨_,_,(((hGp4.trans hGq16).trans hG33).trans hGq36),M.weaken (cC (cN (.cons _ (cN (.cons _ (cN (sR _))))))),x.kind,x.at_,x.count,x.to,ar,nr,cr,false,_,_,rfl,rfl,by omega,by omega,Or.inr ⟨rfl,Or.inr ⟨x,_,ys,cj,hh,hok,by omega,by omega,by rw [← hcj];exact hcc,Ye (c:=cj) (by omega) (by first | exact Or.inl (by assumption) | exact Or.inr (Or.inl (by assumption)) | exact Or.inr (Or.inl (by omega)) | exact Or.inr (Or.inr (by omega)))⟩⟩⟩
  intro h42b;have h42:=dT (Ai h42b);have h42c:(decide ((((Ej (((Lib.cut cj [10]).1)++([10]:List UInt8))).1.length:Nat):Int)=1))=true:=(Ai h42b);refine Aq<|Cm<|?_
  obtain ⟨y,hy1,hyok,hcy⟩:=Amc (c:=cj) (by assumption) (by omega) (by omega) (by omega);intro a F;refine O0 [(.free,0),(.pure,1),(.free,2),(.free,3),(.pure,4),(.keep,5),(.chg,6),(.free,7),(.chg,8)] [6,8] (Keep Gq36 [.blk b1 [.int .u8 ((x.kind:Nat):Int),.int .i64 x.at_,.int .i64 x.count,.int .i64 x.to,.slice ar nr cr] 65]) rfl (by kernel_rfl) (fun c a d v w h=>by cases d <;> exact h) (Bo (M.drew _)) ?_;replace M:=M.drew (w.drawn+1);revert a;refine k_f (fun a F w _=>Ce Bm.k rfl F rfl) rfl<|k_p (fun a F w M=>Al (agf B9 rfl) (F.ev rfl) (M.cellL (k:=0) rfl rfl)) rfl<|k_f (fun a F w _=>B1 F rfl) rfl<|?_
  obtain ⟨be43,oe43,_,Ie43,_,Ae43,hTe43⟩:=Sq36.at (show (Ej ((Lib.cut cj [10]).1++[10])).1[0]?=some y by rw [hy1];rfl);obtain ⟨mae43,mce43,rfl,hke43,hte43,hxe43,hne43,SMe43⟩:=hTe43;have hIe43:(y.key < 18446744073709551616∧y.typ < 256∧y.text.length≤9223372036854775807):=⟨hke43,hte43,hxe43⟩;refine k_f (fun a F w _=>Bt B9.k Bf (F.ev rfl) (F.ev rfl) (by omega) Ie43) rfl<|k_p (fun a F w M=>Af Bf rfl (F.ev rfl) (cs:=[.int .u64 ((y.key:Nat):Int),.int .u8 ((y.typ:Nat):Int),.string (str y.text),.slice mae43 y.marks.length mce43]) rfl (M.cellsA Ae43 0 (by omega) rfl)) rfl<|k_k rfl<|fun a F=>?_
  refine Bk F M B9.k Bf rfl rfl (cs:=[.int .u64 ((y.key:Nat):Int),.int .u8 ((y.typ:Nat):Int),.string (str y.text),.slice mae43 y.marks.length mce43]) rfl rfl (by simp [Value.oneCell']) (by decide) rfl ?_;clear F M a;intro v44 w a M F;obtain ⟨av44,cv44,rfl,hlev44,hcmv44,hlv44⟩:=M.row_shape (k:=0) rfl;revert a;refine eQ (Bo M)<|?_
  have Eb:Els Cv 4 Gq36 [.int .u64 ((y.key:Nat):Int),.int .u8 ((y.typ:Nat):Int),.string (str y.text),.slice mae43 y.marks.length mce43] [y]:=⟨[.int .u64 ((y.key:Nat):Int),.int .u8 ((y.typ:Nat):Int),.string (str y.text),.slice mae43 y.marks.length mce43],[],rfl,rfl,⟨mae43,mce43,rfl,hIe43.1,hIe43.2.1,hIe43.2.2,(by have h_:=SMe43.bound;omega),SMe43⟩,rfl⟩;refine k_c rfl<|fun a F=>?_
  refine Ci F M (k:=2) (k2:=0) rfl rfl B9.k Bf rfl rfl (by decide) rfl rfl (by show _ * 56≤_;(try simp only [List.length_drop,List.length_take,List.length_append,List.length_cons,List.length_nil]);omega) (by (try simp only [List.length_drop,List.length_take,List.length_append,List.length_cons,List.length_nil]);omega) rfl ?_;clear F M a;intro v45 w a M F;have Ev45:=Els.append Er Eb;obtain ⟨av45,cv45,rfl,hlev45,hcmv45,hlv45⟩:=M.row_shape (k:=2) rfl;revert a;refine Bc<|?_
  change Mem w0 Gq36 (.row (.slice av44 1 (cv44)) 1 ([.int .u64 ((y.key:Nat):Int),.int .u8 ((y.typ:Nat):Int),.string (str y.text),.slice mae43 y.marks.length mce43]) 26 4::.blk b [.string (str ((Lib.cut cj [10]).2.1)),.int .i64 (((((l+1+j)+1):Nat):Int))] 155::.row (.slice av45 (nr+1) (cv45)) (nr+1) (csr++([.int .u64 ((y.key:Nat):Int),.int .u8 ((y.typ:Nat):Int),.string (str y.text),.slice mae43 y.marks.length mce43])) 26 4::.blk b14 [.int .i64 ((p:Nat):Int)] 3::.blk b7 Il 139::.blk b5 [.slice ap4 ((B7 ((Lib.cut c [10]).1)).length) ((B7 ((Lib.cut c [10]).1)).length)] 24::.blk b1 [.int .u8 ((x.kind:Nat):Int),.int .i64 x.at_,.int .i64 x.count,.int .i64 x.to,.slice ar nr cr] 65::L) _ at M;intro a F;refine ⟨Keep Gq36 [.row (.slice av44 1 (cv44)) 1 ([.int .u64 ((y.key:Nat):Int),.int .u8 ((y.typ:Nat):Int),.string (str y.text),.slice mae43 y.marks.length mce43]) 26 4,.blk b [.string (str ((Lib.cut cj [10]).2.1)),.int .i64 (((((l+1+j)+1):Nat):Int))] 155,.row (.slice av45 (nr+1) (cv45)) (nr+1) (csr++([.int .u64 ((y.key:Nat):Int),.int .u8 ((y.typ:Nat):Int),.string (str y.text),.slice mae43 y.marks.length mce43])) 26 4,.blk b14 [.int .i64 ((p:Nat):Int)] 3,.blk b7 Il 139,.blk b5 [.slice ap4 ((B7 ((Lib.cut c [10]).1)).length) ((B7 ((Lib.cut c [10]).1)).length)] 24,.blk b1 [.int .u8 ((x.kind:Nat):Int),.int .i64 x.at_,.int .i64 x.count,.int .i64 x.to,.slice ar nr cr] 65],M.keep (Gle.refl _) (by simp),?_⟩;revert a;refine k_f (fun a F w _=>Ce Bm.k rfl F rfl) rfl<|k_c rfl<|Gd B9 M 6 rfl rfl rfl rfl rfl rfl<|?_;clear M;intro w M
  refine Bc<|?_
  change Mem w0 Gq36 (.row (.slice av44 1 (cv44)) 1 ([.int .u64 ((y.key:Nat):Int),.int .u8 ((y.typ:Nat):Int),.string (str y.text),.slice mae43 y.marks.length mce43]) 26 4::.blk b [.string (str ((Lib.cut cj [10]).2.1)),.int .i64 (((((l+1+j)+1):Nat):Int))] 155::.row (.slice av45 (nr+1) (cv45)) (nr+1) (csr++([.int .u64 ((y.key:Nat):Int),.int .u8 ((y.typ:Nat):Int),.string (str y.text),.slice mae43 y.marks.length mce43])) 26 4::.blk b14 [.int .i64 ((p:Nat):Int)] 3::.blk b7 Il 139::.blk b5 [.slice ap4 ((B7 ((Lib.cut c [10]).1)).length) ((B7 ((Lib.cut c [10]).1)).length)] 24::.blk b1 [.int .u8 ((x.kind:Nat):Int),.int .i64 x.at_,.int .i64 x.count,.int .i64 x.to,.slice av45 (nr+1) (cv45)] 65::L) _ at M;intro a F;refine ⟨Keep Gq36 [.row (.slice av44 1 (cv44)) 1 ([.int .u64 ((y.key:Nat):Int),.int .u8 ((y.typ:Nat):Int),.string (str y.text),.slice mae43 y.marks.length mce43]) 26 4,.blk b [.string (str ((Lib.cut cj [10]).2.1)),.int .i64 (((((l+1+j)+1):Nat):Int))] 155,.row (.slice av45 (nr+1) (cv45)) (nr+1) (csr++([.int .u64 ((y.key:Nat):Int),.int .u8 ((y.typ:Nat):Int),.string (str y.text),.slice mae43 y.marks.length mce43])) 26 4,.blk b14 [.int .i64 ((p:Nat):Int)] 3,.blk b7 Il 139,.blk b5 [.slice ap4 ((B7 ((Lib.cut c [10]).1)).length) ((B7 ((Lib.cut c [10]).1)).length)] 24,.blk b1 [.int .u8 ((x.kind:Nat):Int),.int .i64 x.at_,.int .i64 x.count,.int .i64 x.to,.slice av45 (nr+1) (cv45)] 65],M.keep (Gle.refl _) (by simp),?_⟩;revert a;refine De<|Az<|Bx rfl rfl<|Aa rfl<|Bc<|Cm<|?_
  replace M:=M.perm (Ao _ 6 _ rfl);replace M:=M.perm (Ao _ 2 _ rfl);replace M:=M.perm (Ao _ 6 _ rfl);replace M:=M.perm (Ao _ 6 _ rfl);replace M:=M.perm (Ao _ 6 _ rfl);replace M:=M.perm (Ao _ 6 _ rfl);change Mem w0 Gq36 (_::_::_::_::_::.blk b1 [.int .u8 ((x.kind:Nat):Int),.int .i64 x.at_,.int .i64 x.count,.int .i64 x.to,.slice av45 (nr+1) (cv45)] 65::_::L) _ at M;intro a F
  exact ⟨_,by omega,j+1,(ys++[y]),_,(av45),(nr+1),(cv45),csr++([.int .u64 ((y.key:Nat):Int),.int .u8 ((y.typ:Nat):Int),.string (str y.text),.slice mae43 y.marks.length mce43]),rfl,Gq36,(hG33.trans hGq36),F.to ⟨rfl,rfl,rfl,rfl,trivial⟩,(M.weaken (cC (.cons_cons _ (cC (.cons_cons _ (cC (.cons_cons _ (cN (sR _))))))))),by omega,by rw [List.length_append];simp only [List.length_cons,List.length_nil];omega,Ale hok hyok,by rw [hcj,P5,List.append_assoc,← hcy],by omega,Ev45,by omega⟩
 intro h46b;have h46:=dF h46b;refine B5<|Bw<|Bw<|Dj<|Ag<|?_
 obtain ⟨hnz47,Gz47,az47,cz47,hGz47,hez47,Sz47,M⟩:=M.freeze_row Aw (k:=0) rfl Er (by decide);clear hez47 az47 cz47;replace HG:=HG.mono hGz47;replace Sp4:=Sp4.mono Bi hGz47;replace Sq16:=Sq16.mono K6 hGz47;intro a F;rw [hnz47] at M Sz47;change Mem w0 Gz47 (.blk b14 [.int .i64 ((p:Nat):Int)] 3::.blk b7 Il 139::.blk b5 [.slice ap4 ((B7 ((Lib.cut c [10]).1)).length) ((B7 ((Lib.cut c [10]).1)).length)] 24::.blk b [.string (str cj),.int .i64 ((((l+1+j):Nat):Int))] 155::.blk b1 [.int .u8 ((x.kind:Nat):Int),.int .i64 x.at_,.int .i64 x.count,.int .i64 x.to,.slice ar ys.length cr] 65::L) _ at M;revert a;refine Az<|A0 Bm.k rfl rfl<|Bg B9 M 4 rfl rfl rfl rfl<|Ge Aom rfl rfl (Wy (xs:=ys) M Sz47 (by omega) (fun x hx=>by have:=(hok x hx).1.2.2.2.1;omega))<|?_;clear M;rintro _ Gq48 w hGq48 M ⟨aq48,rfl,Sq48⟩
 replace HG:=HG.mono hGq48;replace Sp4:=Sp4.mono Bi hGq48;replace Sq16:=Sq16.mono K6 hGq48;replace Sz47:=Sz47.mono Aw hGq48;refine A0 Bm.k rfl rfl<|Gd B9 M 4 rfl rfl rfl rfl rfl rfl<|?_;clear M;intro w M
 refine Ac<|Ar (fun a F=>Af Bm rfl (F.ev rfl) (cs:=[.int .u8 ((x.kind:Nat):Int),.int .i64 x.at_,.int .i64 x.count,.int .i64 x.to,.slice aq48 ys.length ys.length]) rfl (M.cellsL (k:=4) rfl rfl)) rfl<|fun a F=>?_
 refine Cj F M Bm 4 ?_;clear F M a;intro w a M F;change Mem w0 Gq48 (_::_::_::_::.blk b1 [.int .u8 ((x.kind:Nat):Int),.int .i64 x.at_,.int .i64 x.count,.int .i64 x.to,.slice aq48 ys.length ys.length] 65::L) _ at M;revert a;refine Ab rfl<|Ae<|fun a F=>Cn F M (k:=4) rfl rfl Bm rfl rfl rfl rfl ?_
 replace M:=M.perm (Ao _ 3 _ rfl);change Mem w0 Gq48 (_::_::_::_::.blk b1 [.int .u8 ((x.kind:Nat):Int),.int .i64 x.at_,.int .i64 x.count,.int .i64 x.to,.slice aq48 ys.length ys.length] 65::L) _ at M
 exact ⟨_,_,((((hGp4.trans hGq16).trans hG33).trans hGz47).trans hGq48),M.weaken (cC (cN (.cons _ (cN (.cons _ (sR _)))))),x.kind,x.at_,x.count,x.to,aq48,ys.length,ys.length,true,_,_,rfl,rfl,by omega,by omega,Or.inl ⟨rfl,x,_,ys,hh,hok,by omega,by rw [← hcj];exact hcc,by omega,⟨aq48,ys.length,rfl,(by have:=hh.kd;show x.kind < 256;omega),hh.ra,hh.rc,hh.rt,(by show ys.length≤_;omega),Sq48⟩⟩⟩
variable {w0 w:World} {G:A4} {L:List Res}
theorem Adl (M:Mem w0 G L w) {n c:Nat} {ad:Option Addr} (h:n≤c) (hc:c≤9223372036854775807):Calls Tryz.prog 87 #[.slice ad n c] w (Cs w0 G L fun v=>v=.slice ad n n):=by
 refine Ay (vs:=[_]) Tryz.func87 rfl (n:=9) rfl rfl<|Ac<|Ab rfl<|Ac<|Aa rfl<|Aa rfl<|B8 H2.k rfl<|Aa rfl<|B8 H2.k rfl<|Ar (fun a F=>Sy (h:=n) (q:=n) H2.k Bm (F.ev rfl) (F.ev rfl) (by omega) (F.ev rfl) (by omega) (by omega) (by omega)) rfl<|Ab rfl<|Ae<|Ad rfl rfl<|?_
 exact ⟨M,rfl⟩
theorem Z5 (M:Mem w0 G L w) {an:Option Addr} {cn:Nat} {ns:List NotD} (SN:Au Gi 5 G (.slice an ns.length cn) ns) (hlen:ns.length≤1000000) :
  Calls Tryz.prog 88 #[.slice an ns.length cn] w (Ky w0 G fun L' v=>∃ a' n' c' cs',v=.slice a' n' c'∧L' = (.row (.slice a' n' c') n' cs' 65 5::L)∧n' = ns.length∧Els Gi 5 G cs' ns):=by
 refine Ay (vs:=[_]) Tryz.func88 rfl (n:=8) rfl rfl<|Ac<|Ab rfl<|Ag<|Ac<|Aa rfl<|Ar (fun a F=>Acr H2.k (F.ev rfl) (F.ev rfl)) rfl<|Ap rfl ?_ ?_
 ·intro h1b;have h1:((an).isNone)=true:=h1b;refine Ac<|Ab rfl<|Ae<|Ad rfl rfl<|?_
  have h0:=SN.nilz (by assumption)
  exact ⟨_,M.nilrow 65 5,none,0,0,[],rfl,rfl,by rw [h0];rfl,by rw [h0];exact Els.nil⟩
 intro h2b;have h2:((an).isNone)=false:=h2b;refine Aq<|Ac<|fun a F=>?_
 refine Te F M H2.k Bm rfl ?_;clear F M a;intro v3 w a M F;obtain ⟨av3,cv3,rfl,hlev3,hcmv3,hlv3⟩:=M.row_shape (k:=0) rfl;revert a;refine Aa rfl<|fun a F=>?_
 refine Jt F M (k:=0) rfl H2.k Bm rfl rfl (by decide) rfl SN rfl (by show _ * 56≤_;(try simp only [List.length_drop,List.length_take,List.length_append,List.length_cons,List.length_nil]);omega) (by (try simp only [List.length_drop,List.length_take,List.length_append,List.length_cons,List.length_nil]);omega) rfl ?_;clear F M a;intro v4 csv4 w a M Ev4 F;have Ev4:=Els.append Els.nil Ev4;obtain ⟨av4,cv4,rfl,hlev4,hcmv4,hlv4⟩:=M.row_shape (k:=0) rfl;revert a;refine Ab rfl<|Ae<|Ad rfl rfl<|?_
 change Mem w0 G (_::L) _ at M;simp only [Nat.zero_add,List.nil_append] at M ⊢
 exact ⟨_,M,_,_,_,_,rfl,rfl,rfl,by have h:=Ev4;simp only [List.nil_append] at h;exact h⟩
def PF (s:List UInt8) (r:List NotD × Nat × Int):Prop:=(1048576 < s.length∧r=([],0,3))∨(s.length≤1048576∧PR [] s r)
theorem PF.uniq {s:List UInt8} {a b:List NotD × Nat × Int} (h1:PF s a) (h2:PF s b):a=b:=by
 rcases h1 with ⟨h1,rfl⟩ | ⟨h1,h3⟩ <;> rcases h2 with ⟨h2,rfl⟩ | ⟨h2,h4⟩
 ·rfl
 ·omega
 ·omega
 exact h3.uniq h4
theorem Alx (x:NotD) (sz:Int):1≤(Fq x sz).length:=by unfold Fq;simp only [List.length_append,List.length_cons,List.length_nil];omega
theorem Zz (M:Mem w0 G L w) (HG:Globs 0 1 2 3 G) {s:List UInt8} (hs:s.length≤9223372036854775807):Calls Tryz.prog 33 #[.string (str s)] w (Ret w0 G L fun G' v=>∃ (a:Option Addr) (ys:List NotD) (ln:Nat) (e:Int),v=.tuple #[.slice a ys.length ys.length,.int .i64 ((ln:Nat):Int),.int .i64 e]∧Au Gi 5 G' (.slice a ys.length ys.length) ys∧PF s (ys,ln,e)):=by
 refine Ay (vs:=[_]) Tryz.func33 rfl (n:=61) rfl rfl<|Ac<|Ab rfl<|Ab rfl<|Ab rfl<|Ag<|Ac<|Aa rfl<|Ar (fun a F=>Dc Bq.k (F.ev rfl)) rfl<|Da rfl rfl<|Ap rfl ?_ ?_
 ·intro h1b;have h1:=dT h1b;refine Ac<|Ab rfl<|Ab rfl<|Ab rfl<|Ae<|Yq rfl rfl rfl rfl<|?_
  exact ⟨_,(Gle.refl _),M,none,[],0,_,rfl,Au.nil,Or.inl ⟨by omega,rfl⟩⟩
 intro h2b;have h2:=dF h2b;refine Aq<|Ac<|Aa rfl<|Ar (fun a F=>A3 (cs:=[.string (str s),.int .i64 0]) (ps:=[(0,.string (str s))]) Ku.k rfl Ku (F.evp rfl) rfl) rfl<|Cz M rfl rfl rfl<|?_;clear M;intro b3 w M
 refine Ab rfl<|Ag<|Ax<|?_
 have M:=M.nilrow 65 5;change Mem w0 G (.row (.slice none 0 0) 0 ([]) 65 5::.blk b3 [.string (str s),.int .i64 0] 155::L) _ at M;intro a F;refine Bz (fun m a' w'=>∃ (xs:List NotD),∃ (cj:List UInt8),∃ (ar:Option Addr),∃ (nr:Nat),∃ (cr:Nat),∃ (csr:List Value),m=cj.length∧∃ G4,Gle G G4∧Fits 61 a' [(5,.pointer (some ⟨b3,0,none⟩)),(2,.slice ar nr cr)]∧Mem w0 G4 (.row (.slice ar nr cr) (nr) (csr) 65 5::.blk b3 [.string (str cj),.int .i64 ((((nlN xs):Nat):Int))] 155::L) w'∧(∀ r,PR xs cj r→PR [] s r)∧(xs.length≤32)∧(cj.length≤1048576)∧(nlN xs≤1025 * xs.length)∧(Els Gi 5 G4 csr xs)∧(nr=xs.length)) _ ⟨[],s,none,0,0,[],rfl,G,Gle.refl _,F.to ⟨rfl,rfl,trivial⟩,M,fun r h=>h,by decide,by omega,by decide,Els.nil,rfl⟩ ?_;clear F M;rintro m a w ⟨xs,cj,ar,nr,cr,csr,rfl,G4,hG4,F,M,hP,hxl,hcj,hnl,Er,hnr⟩;replace HG:=HG.mono hG4;revert a;refine Ag<|Ac<|Aa rfl<|Fi rfl<|A0 Ku.k rfl rfl<|Bg Bq M 1 rfl rfl rfl rfl<|Mg rfl rfl<|Ap rfl ?_ ?_
 ·intro h5b;have h5:=dF (Ah h5b);have h5c:(decide (cj=([]:List UInt8)))=false:=(Ah h5b);refine Aq<|Ax<|Ac<|Aa rfl<|Fi rfl<|A0 Ku.k rfl rfl<|Bg Cg M 1 rfl rfl rfl rfl<|Bx rfl rfl<|Ab rfl<|Ac<|Aa rfl<|Ar (fun a F=>U4 (F.ev rfl)) rfl<|?_
  replace M:=M.perm (Ao _ 1 _ rfl);change Mem w0 G4 (_::_::L) _ at M;intro a F;refine Dy F ent85 rfl rfl (Z0 (c:=cj) (l:=(nlN xs)) M HG (by omega) (by omega)) ?_;clear F M a;rintro _ Gq6 _ w a hGq6 M ⟨kq6,a1q6,b1q6,t1q6,adq6,lnq6,cnq6,okq6,cq6,lq6,rfl,rfl,hlcq6,hllq6,hokq6⟩ F;replace HG:=HG.mono hGq6;replace Er:=Er.mono Bp hGq6;change Mem w0 Gq6 (.blk b3 [.string (str cq6),.int .i64 ((lq6:Nat):Int)] 155::.row (.slice ar nr cr) (nr) (csr) 65 5::L) _ at M;revert a;refine Aa rfl<|Df rfl rfl<|Df rfl rfl<|C9 M Bm rfl rfl<|?_;clear M;intro b7 w M
  intro a F;refine Cj F M Bm 0 ?_;clear F M a;intro w a M F;change Mem w0 Gq6 (.blk b7 [.int .u8 ((kq6:Nat):Int),.int .i64 a1q6,.int .i64 b1q6,.int .i64 t1q6,.slice adq6 lnq6 cnq6] 65::_::_::L) _ at M;revert a;refine Ab rfl<|Ag<|Ax<|Ag<|fun a F=>Mb (fun a' w'=>∃ (bb:Bool),Fits 61 a' [(2,.slice ar nr cr),(5,.pointer (some ⟨b3,0,none⟩)),(6,.int .i64 (((((nlN xs):Nat):Int))+1)),(7,.pointer (some ⟨b7,0,none⟩)),(8,.bool okq6),(31,.bool bb)]∧Mem w0 Gq6 (.blk b7 [.int .u8 ((kq6:Nat):Int),.int .i64 a1q6,.int .i64 b1q6,.int .i64 t1q6,.slice adq6 lnq6 cnq6] 65::.blk b3 [.string (str cq6),.int .i64 ((lq6:Nat):Int)] 155::.row (.slice ar nr cr) (nr) (csr) 65 5::L) w'∧(bb=true↔xs.length=32∧(okq6=true∨nlN xs+1 < lq6))) ?_ ?_
  ·skip
   revert a;refine Az<|Aa rfl<|B8 H2.k rfl<|C3 rfl rfl<|Aa rfl<|?_
   rcases bE (decide (((nr:Nat):Int)=32)) with h9b | h12b
   ·skip
    have h9:=dT h9b;refine g_t rfl h9b<|Aa rfl<|g_t rfl h9b<|Aa rfl<|?_
    rcases bE (okq6) with h10b | h11b
    ·skip
     have h10:(okq6)=true:=h10b;refine g_f rfl h10b<|g_f rfl h10b<|g_f rfl h10b<|g_f rfl h10b<|g_f rfl h10b<|g_f rfl h10b<|g_t rfl h9b<|Bh rfl h10b rfl<|Bh rfl h9b rfl<|Ab rfl<|Bc<|fun a F=>?_
     exact ⟨true,F.to ⟨rfl,rfl,rfl,rfl,rfl,rfl,trivial⟩,M,by clear F M;first | (simp only [Bool.true_eq_false,true_iff,false_iff,Bool.false_eq_true,decide_eq_true_eq];first | exact ⟨by omega,Or.inl (by assumption)⟩ | (rintro ⟨h1_,h2_⟩;omega) | grind) | grind⟩
    have h11:(okq6)=false:=h11b;refine g_t rfl h11b<|Aa rfl<|g_t rfl h11b<|Fi rfl<|g_t rfl h11b<|A0 Ku.k rfl rfl<|g_t rfl h11b<|Bg Cg M 1 rfl rfl rfl rfl<|g_t rfl h11b<|Aa rfl<|g_t rfl h11b<|Da rfl rfl<|g_t rfl h9b<|Be rfl h11b rfl<|Bh rfl h9b rfl<|Ab rfl<|Bc<|fun a F=>?_
    exact ⟨(decide (((((nlN xs):Nat):Int))+1 < ((lq6:Nat):Int))),F.to ⟨rfl,rfl,rfl,rfl,rfl,rfl,trivial⟩,M,by clear F M;first | (simp only [Bool.true_eq_false,true_iff,false_iff,Bool.false_eq_true,decide_eq_true_eq];first | exact ⟨by omega,Or.inl (by assumption)⟩ | (rintro ⟨h1_,h2_⟩;omega) | grind) | grind⟩
   have h12:=dF h12b;refine g_f rfl h12b<|g_f rfl h12b<|g_u rfl<|g_u rfl<|g_u rfl<|g_u rfl<|g_u rfl<|g_u rfl<|g_f rfl h12b<|Be rfl h12b rfl<|Ab rfl<|Bc<|fun a F=>?_
   exact ⟨false,F.to ⟨rfl,rfl,rfl,rfl,rfl,rfl,trivial⟩,M,by clear F M;first | (simp only [Bool.true_eq_false,true_iff,false_iff,Bool.false_eq_true,decide_eq_true_eq];first | exact ⟨by omega,Or.inl (by assumption)⟩ | (rintro ⟨h1_,h2_⟩;omega) | grind) | grind⟩
  clear F M;rintro a w ⟨bb,F,M,hbb⟩;revert a;refine Ap rfl ?_ ?_
  ·intro h13b;have h13:(bb)=true:=h13b;refine Ac<|Aa rfl<|Ab rfl<|Ab rfl<|Ab rfl<|Ae<|Yq rfl rfl rfl rfl<|?_
   exact ⟨_,(hG4.trans hGq6),M.weaken dS3,none,[],((nlN xs)+1),_,rfl,Au.nil,Or.inr ⟨by omega,hP _ (by obtain ⟨h1_,h2_⟩:=hbb.1 (by assumption);rcases hokq6 with ⟨_,x,sz,ys,hh,_,_,hce,_⟩ | ⟨h3_,⟨_,h4_⟩ | ⟨x,sz,ys,r,hh,_,_,_,hce,_⟩⟩;exact PR.full ⟨x,sz,_,hh,hce⟩ h1_;(exfalso;rcases h2_ with h2_ | h2_;(rw [h3_] at h2_;cases h2_);omega);exact PR.full ⟨x,sz,_,hh,hce⟩ h1_)⟩⟩
  intro h14b;have h14:(bb)=false:=h14b;refine Ac<|Aa rfl<|Dh rfl<|Ab rfl<|Ap rfl ?_ ?_
  ·intro h15b;have h15:=Ah h15b;have h15c:(okq6)=false:=(Ah h15b);refine Ag<|fun a F=>Gh [(true,0),(true,1),(true,2),(true,3),(true,4),(true,5),(true,6)] (Keep Gq6 [.blk b7 [.int .u8 ((kq6:Nat):Int),.int .i64 a1q6,.int .i64 b1q6,.int .i64 t1q6,.slice adq6 lnq6 cnq6] 65,.blk b3 [.string (str cq6),.int .i64 ((lq6:Nat):Int)] 155]) rfl (by kernel_rfl) (fun c a d v w h=>by cases d <;> exact h) (Bo (M.drew _)) ?_
   replace M:=M.drew (w.drawn+1);revert a;refine l_r (fun a F w M=>B1 F rfl) rfl<|l_r (fun a F w M=>Ea (F.ev rfl)) rfl<|l_r (fun a F w M=>Ce Ku.k rfl F rfl) rfl<|l_r (fun a F w M=>Al (agf Cg rfl) (F.ev rfl) (M.cellL (k:=1) rfl rfl)) rfl<|l_r (fun a F w M=>G8 F rfl) rfl<|l_r (fun a F w M=>G8 F rfl) rfl<|l_r (fun a F w M=>G8 F rfl) rfl<|Hq<|?_
   generalize ({ w with drawn:=w.drawn+1 }:World)=w at M ⊢
   refine Ae<|Yq rfl rfl rfl rfl<|?_
   exact ⟨_,(hG4.trans hGq6),M.weaken dS3,none,[],lq6,_,rfl,Au.nil,Or.inr ⟨by omega,hP _ (by rcases hokq6 with ⟨h3_,_⟩ | ⟨h3_,⟨h5_,h4_⟩ | ⟨x,sz,ys,r,hh,hoi,hlt,hl,hce,hni⟩⟩;(exfalso;simp_all);(rw [h4_];exact PR.nohead (by assumption) h5_);(rw [hl];exact PR.bad hh (fun h_=>absurd (hbb.2 ⟨h_,Or.inr (by omega)⟩) (by simp_all)) hce hoi hlt hni))⟩⟩
  intro h16b;have h16:=Ai h16b;have h16c:(okq6)=true:=(Ai h16b);refine Aq<|Aoy<|Cm<|?_
  have hokt:okq6=true:=by first | assumption | simp_all
  rcases hokq6 with ⟨_,x,sz,ys,hh,hoi,hyl,hce,hle,hrd⟩ | ⟨h_,_⟩
  intro a F
  case inr=>rw [hokt] at h_;cases h_
  have hx32:xs.length≠32:=fun h_=>absurd (hbb.2 ⟨h_,Or.inl hokt⟩) (by simp_all);have hl9:lq6=nlN (xs++[{ x with items:=ys }]):=by rw [Tu];show _=_+(1+ys.length);omega
  have hyl2:ys.length≤1024:=by have:=hh.rs;omega
  subst hl9;revert a;refine Az<|Aa rfl<|Ar (fun a F=>Af Bm rfl (F.ev rfl) (cs:=[.int .u8 ((kq6:Nat):Int),.int .i64 a1q6,.int .i64 b1q6,.int .i64 t1q6,.slice adq6 lnq6 cnq6]) rfl (M.cellsL (k:=0) rfl rfl)) rfl<|fun a F=>?_
  refine Bk F M H2.k Bm rfl rfl (cs:=[.int .u8 ((kq6:Nat):Int),.int .i64 a1q6,.int .i64 b1q6,.int .i64 t1q6,.slice adq6 lnq6 cnq6]) rfl rfl (by simp [Value.oneCell']) (by decide) rfl ?_;clear F M a;intro v17 w a M F;obtain ⟨av17,cv17,rfl,hlev17,hcmv17,hlv17⟩:=M.row_shape (k:=0) rfl;have Eb:Els Gi 5 Gq6 [.int .u8 ((kq6:Nat):Int),.int .i64 a1q6,.int .i64 b1q6,.int .i64 t1q6,.slice adq6 lnq6 cnq6] [{ x with items:=ys }]:=⟨[.int .u8 ((kq6:Nat):Int),.int .i64 a1q6,.int .i64 b1q6,.int .i64 t1q6,.slice adq6 lnq6 cnq6],[],rfl,rfl,hrd,rfl⟩;refine Ci F M (k:=3) (k2:=0) rfl rfl H2.k Bm rfl rfl (by decide) rfl rfl (by show _ * 56≤_;(try simp only [List.length_drop,List.length_take,List.length_append,List.length_cons,List.length_nil]);omega) (by (try simp only [List.length_drop,List.length_take,List.length_append,List.length_cons,List.length_nil]);omega) rfl ?_;clear F M a;intro v18 w a M F;have Ev18:=Els.append Er Eb;obtain ⟨av18,cv18,rfl,hlev18,hcmv18,hlv18⟩:=M.row_shape (k:=3) rfl;revert a;refine Ab rfl<|Bc<|Aoy<|Cm<|?_
  replace M:=M.perm (Ao _ 2 _ rfl);replace M:=M.perm (Ao _ 3 _ rfl);change Mem w0 Gq6 (_::_::_::.blk b7 [.int .u8 ((kq6:Nat):Int),.int .i64 a1q6,.int .i64 b1q6,.int .i64 t1q6,.slice adq6 lnq6 cnq6] 65::L) _ at M;intro a F
  exact ⟨_,(by have h9_:=congrArg List.length hce;have h8_:=Alx x sz;simp only [List.length_append] at h9_;omega),(xs++[{ x with items:=ys }]),cq6,(av18),(nr+1),(cv18),csr++([.int .u8 ((kq6:Nat):Int),.int .i64 a1q6,.int .i64 b1q6,.int .i64 t1q6,.slice adq6 lnq6 cnq6]),rfl,Gq6,(hG4.trans hGq6),F.to ⟨rfl,rfl,trivial⟩,(M.weaken (cC (.cons_cons _ (cN (.cons _ (sR _)))))),fun r h=>hP r (PR.step hh (by omega) hce hoi hyl h),by rw [List.length_append];simp only [List.length_cons,List.length_nil];omega,by omega,by rw [Tu,List.length_append];simp only [List.length_cons,List.length_nil];omega,Ev18,by rw [List.length_append,hnr];rfl⟩
 intro h19b;have h19:=dT (Ai h19b);have h19c:(decide (cj=([]:List UInt8)))=true:=(Ai h19b);refine B5<|Bw<|Bw<|Dj<|Ag<|?_
 obtain ⟨hnz20,Gz20,az20,cz20,hGz20,hez20,Sz20,M⟩:=M.freeze_row Bp (k:=0) rfl Er (by decide);clear hez20 az20 cz20;replace HG:=HG.mono hGz20;intro a F;rw [hnz20] at F Sz20;revert a;refine Az<|Aa rfl<|P6 ent88 rfl rfl (Z5 (ns:=xs) M Sz20 (by omega))<|?_;clear M;rintro _ _ w M ⟨ak21,nk21,ck21,csk21,rfl,rfl,hnk21,Ek21⟩
 subst hnk21;have sh22:=M.row_bound (k:=0) rfl;refine Bs ent87 rfl rfl (Adl M sh22.1 sh22.2)<|?_;clear M;rintro _ w M rfl
 obtain ⟨hnz23,Gz23,az23,cz23,hGz23,hez23,Sz23,M⟩:=M.freeze_row Bp (k:=0) rfl Ek21 (by decide);clear hez23 az23 cz23;replace HG:=HG.mono hGz23;replace Sz20:=Sz20.mono Bp hGz23;have S24:Au Gi 5 Gz23 (.slice ak21 ((xs).length) ((xs).length)) (xs):=Sz23.clip;refine Ab rfl<|Ab rfl<|Ab rfl<|Ae<|Yq rfl rfl rfl rfl<|?_
 exact ⟨_,((hG4.trans hGz20).trans hGz23),M.weaken dS1,ak21,xs,0,0,rfl,S24,Or.inr ⟨by omega,hP _ (by rw [show cj=[] from (by first | assumption | simp_all)];exact PR.done)⟩⟩
theorem ent30:Ent Tryz.prog 30:=.mk' Tryz.func30 (by kernel_rfl) (by kernel_rfl)
end Go.Proofs.YtmmhmcplegpenaaGreatDoor
namespace Go.Proofs.YtmmhmcplegpenaaGreatDoor.T
open Go Go.Y Go.Proofs
instance instNameB:DecidablePred Dz:=fun c=>by unfold Dz;infer_instance
instance instName:DecidablePred Dk:=fun s=>by unfold Dk;infer_instance
instance instStrB:DecidablePred Jn:=fun c=>by unfold Jn;infer_instance
instance instStr:DecidablePred Str:=fun s=>by unfold Str;infer_instance
instance instEqAttr:DecidableEq AttrD:=fun a b=>decidable_of_iff (a.n=b.n∧a.v=b.v) (by cases a;cases b;simp)
instance instEqSlot:DecidableEq SlotD:=fun a b=>decidable_of_iff (a.n=b.n∧a.src=b.src∧a.v=b.v) (by cases a;cases b;simp)
def Ow {α:Type} (p:α→Bool) (q:α→α→Bool):List α→Bool
 | []=>true
 | [a]=>p a
 | a::b::l=>p a && q a b && Ow p q (b::l)
theorem Ov {α:Type} {p:α→Bool} {q:α→α→Bool}:∀ l:List α,Ow p q l=true↔∀ (i:Nat) (x:α),l[i]?=some x→p x=true∧∀ y,0 < i→l[i - 1]?=some y→q y x=true
 | []=>by simp [Ow]
 | [a]=>by
  simp only [Ow]
  constructor
  ·intro h i x hx
   match i with
   | 0=>simp only [List.getElem?_cons_zero,Option.some.injEq] at hx;subst hx;exact ⟨h,fun y h0=>by omega⟩
   | i+1=>simp at hx
  ·intro h;exact (h 0 a rfl).1
 | a::b::l=>by
  simp only [Ow,Bool.and_eq_true,Ov (b::l)]
  constructor
  ·rintro ⟨⟨h1,h2⟩,h3⟩ i x hx
   match i with
   | 0=>simp only [List.getElem?_cons_zero,Option.some.injEq] at hx;subst hx;exact ⟨h1,fun y h0=>by omega⟩
   | 1 =>
    simp only [List.getElem?_cons_succ,List.getElem?_cons_zero,Option.some.injEq] at hx;subst hx;refine ⟨(h3 0 b rfl).1,fun y _ hy=>?_⟩;simp only [Nat.sub_self,List.getElem?_cons_zero,Option.some.injEq] at hy;subst hy;exact h2
   | i+2 =>
    simp only [List.getElem?_cons_succ] at hx;obtain ⟨h4,h5⟩:=h3 (i+1) x (by simpa using hx)
    exact ⟨h4,fun y _ hy=>h5 y (by omega) (by simpa using hy)⟩
  ·intro h;refine ⟨⟨(h 0 a rfl).1,(h 1 b rfl).2 a (by decide) rfl⟩,fun i x hx=>?_⟩;obtain ⟨h4,h5⟩:=h (i+1) x (by simpa using hx)
   exact ⟨h4,fun y h0 hy=>h5 y (by omega) (by
    obtain ⟨i',rfl⟩:∃ i',i=i' + 1:=⟨i - 1,by omega⟩
    simpa using hy)⟩
instance instAttrsOk:DecidablePred Ii:=fun l=>decidable_of_iff (Ow (fun x=>decide (Dk x.n∧Str x.v)) (fun y x=>Op.bytesLess y.n x.n) l=true) (by
 rw [Ov];unfold Ii;simp only [decide_eq_true_eq])
instance instSlotAt:DecidablePred Fp:=fun x=>by unfold Fp;infer_instance
instance instSlotsOk:DecidablePred Hy:=fun l=>decidable_of_iff (l.length≤8∧Ow (fun x=>decide (Fp x)) (fun y x=>Op.bytesLess y.n x.n) l=true) (by
 rw [Ov];unfold Hy Hp;simp only [decide_eq_true_eq]
 exact ⟨fun h=>⟨h.1,fun m x _ hx=>h.2 m x hx⟩,fun h=>⟨h.1,fun m x hx=>h.2 m x (Bj hx) hx⟩⟩)
instance instKeysOk:DecidablePred Oy:=fun l=>decidable_of_iff (l.Pairwise fun a b=>b.key≠[]→a.key≠b.key) (by
 rw [List.pairwise_iff_getElem];unfold Oy
 constructor
 ·intro h i j a b hij ha hb;obtain ⟨h1,rfl⟩:=List.getElem?_eq_some_iff.1 ha;obtain ⟨h2,rfl⟩:=List.getElem?_eq_some_iff.1 hb
  exact h i j h1 h2 hij
 intro h i j h1 h2 hij
 exact h i j _ _ hij (List.getElem?_eq_getElem h1) (List.getElem?_eq_getElem h2))
instance instAlone:DecidablePred Ij:=fun x=>by unfold Ij;infer_instance
instance instAloneP:DecidablePred B2:=fun x=>by unfold B2;infer_instance
def decOk {β:Type} (A:Tr β→Prop) [DecidablePred A]:(n:Nat)→(x:Tr β)→Decidable (Tr.Ok A n x)
 | 0,_=>isFalse id
 | n+1,x=>by
  have:∀ c,Decidable (Tr.Ok A n c):=decOk A n
  exact inferInstanceAs (Decidable (A x∧∀ c∈x.kids,Tr.Ok A n c))
instance instOk {β:Type} (A:Tr β→Prop) [DecidablePred A] (n:Nat):DecidablePred (Tr.Ok A n):=decOk A n
instance instValid:DecidablePred Ig:=fun x=>by unfold Ig;infer_instance
instance instValidP:DecidablePred ValidP:=fun x=>by unfold ValidP;infer_instance
instance instItemOk:DecidablePred ItemOk:=fun x=>by unfold ItemOk;infer_instance
end Go.Proofs.YtmmhmcplegpenaaGreatDoor.T
namespace Go.Proofs.YtmmhmcplegpenaaGreatDoor
open Go Go.Y Go.RowKit
def Xt:T.PT:=.mk 1 [114,111,119] [] [] [] []
def c3:RulesD:=⟨[⟨Xt,10,false,0⟩],1⟩
def it3 (k:Nat):ItemD:=⟨k,0,[],[]⟩
def en3 (k:Nat):EntD:=⟨it3 k,10,false⟩
def l3:List EntD:=[en3 1,en3 2,en3 3]
theorem Vs:T.ValidP Xt:=⟨rfl,by decide,by decide⟩
theorem Abj:D2 c3:=⟨⟨by decide,by decide⟩,fun k hk=>by rw [show k=⟨Xt,10,false,0⟩ by simpa [c3] using hk];exact ⟨by decide,Vs⟩⟩
theorem row_one {x:T.ItemD}:T.cntF (T.node1 x Xt)=1:=by
 have h:T.node1 x Xt=.mk 1 [114,111,119] [] [] [] []:=by simp [T.node1,Xt,T.madesF,Tr.kids,Tr.as,Tr.tag,Tr.key]
 rw [h];unfold T.cntF;rw [if_pos (by decide)];rfl
theorem Apn {x:ItemD} (h:ItemOk 1 x):Hv c3 x=0:=by
 have ht:=h.2.1;have h0:x.typ=0:=by omega
 rw [Oa (k:=⟨Xt,10,false,0⟩) (by rw [h0];rfl)]
 exact T.rend_ok (by decide) Vs (tI_ok h) (by rw [row_one];decide)
theorem Agu {x:ItemD} (h:ItemOk 1 x):Iv c3 x=10:=by
 have ht:=h.2.1;have h0:x.typ=0:=by omega
 rw [Hd (k:=⟨Xt,10,false,0⟩) (by rw [h0];rfl)]
theorem Pz {k:Nat} (h:ItemOk 1 (it3 k)):Cq c3 (it3 k)=en3 k:=by unfold Cq;rw [Agu h];rfl
theorem Apo {l:List EntD} {xs:List ItemD} (h1:∀ x∈xs,ItemOk 1 x) (h2:∀ i x,xs[i]?=some x→¬ (Dn l x.key∨Lu (xs.take i) x.key)):L7 c3 l xs=0:=by
 refine Eh.2 fun i hi=>?_;obtain ⟨x,hx⟩:=A2 hi;rw [Ol hx]
 exact Ko (h1 x (List.mem_of_getElem? hx)) (h2 i x hx) (Apn (h1 x (List.mem_of_getElem? hx)))
theorem ok3 {k:Nat} (h:¬ k=0):ItemOk 1 (it3 k):=by
 have h1:Str ([]:List UInt8):=by decide
 have h2:∀ s∈([]:List (List UInt8)),Dk s:=fun s hs=>by cases hs
 exact ⟨h,(show ((0:Nat):Int) < 1 by decide),h1,Nat.zero_le _,h2⟩
theorem res3:E2 c3 [] 0 [it3 1,it3 2,it3 3]=(l3,0):=by
 have h1:∀ x∈[it3 1,it3 2,it3 3],ItemOk 1 x:=by
  intro x hx;simp only [List.mem_cons,List.not_mem_nil,or_false] at hx
  rcases hx with rfl | rfl | rfl <;> exact ok3 (by decide)
 have h2:[it3 1,it3 2,it3 3].map (Cq c3)=l3:=by
  simp only [List.map_cons,List.map_nil,Pz (ok3 (show ¬ 1=0 by decide)),Pz (ok3 (show ¬ 2=0 by decide)),Pz (ok3 (show ¬ 3=0 by decide))];rfl
 rw [Wo (by decide) (by decide) (Apo h1 ?_) (by rw [h2];decide),h2]
 ·rfl
 intro i x hx
 rcases i with _ | _ | _ | i <;> simp only [List.getElem?_cons_zero,List.getElem?_cons_succ,List.getElem?_nil,Option.some.injEq,reduceCtorEq] at hx
 ·subst hx;simp [Dn,Lu]
 ·subst hx;simp [Dn,Lu,it3]
 subst hx;simp [Dn,Lu,it3]
theorem ins9:E2 c3 [en3 2,en3 3] 2 [it3 9]=([en3 2,en3 3,en3 9],0):=by
 have h1:∀ x∈[it3 9],ItemOk 1 x:=by intro x hx;rw [List.mem_singleton.1 hx];exact ok3 (by decide)
 have h2:[it3 9].map (Cq c3)=[en3 9]:=by simp only [List.map_cons,List.map_nil,Pz (ok3 (show ¬ 9=0 by decide))]
 rw [Wo (by decide) (by decide) (Apo h1 ?_) (by rw [h2];decide),h2]
 ·rfl
 intro i x hx
 rcases i with _ | i <;> simp only [List.getElem?_cons_zero,List.getElem?_cons_succ,List.getElem?_nil,Option.some.injEq,reduceCtorEq] at hx
 subst hx;simp [Dn,Lu,it3,en3]
def Q3:List NotD:=[⟨2,0,1,0,[]⟩,⟨1,2,0,0,[it3 9]⟩,⟨3,0,1,2,[]⟩]
def V4:List NotD:=[⟨2,0,1,0,[]⟩,⟨2,2,1,0,[]⟩]
theorem Apk:Bv c3 l3=0:=by
 refine Ho.2 ⟨Abj,by decide,?_,by decide,by decide⟩;intro x hx;have hb:∀ k:Nat,¬ k=0→Uy c3 (en3 k):=fun k hk=>⟨⟨ok3 hk,Apn (ok3 hk)⟩,by unfold Hh;rw [show Iv c3 (en3 k).item=10 from Agu (ok3 hk)];exact ⟨⟨by show (1:Int)≤10;decide,by show (10:Int)≤_;decide⟩,Or.inr rfl⟩⟩;simp only [l3,List.mem_cons,List.not_mem_nil,or_false] at hx
 rcases hx with rfl | rfl | rfl <;> exact hb _ (by decide)
theorem run1 {ns:List NotD} (h:ns[0]?=some ⟨2,0,1,0,[]⟩):Dp c3 l3 ns 1=([en3 2,en3 3],0):=by
 rw [Ia rfl h,W7 (by decide) rfl];rfl
theorem all3:Jf c3 l3 Q3=([en3 3,en3 9,en3 2],3,0):=by
 have h1:=run1 (ns:=Q3) rfl;have h2:Dp c3 l3 Q3 2=([en3 2,en3 3,en3 9],0):=by
  rw [Ia (by rw [h1]) (show Q3[1]?=some ⟨1,2,0,0,[it3 9]⟩ from rfl),Abn (by decide) rfl,h1];exact ins9
 have h3:Dp c3 l3 Q3 3=([en3 3,en3 9,en3 2],0):=by
  rw [Ia (by rw [h2]) (show Q3[2]?=some ⟨3,0,1,2,[]⟩ from rfl),Abm (by decide) rfl,h2];rfl
 rw [Nm Apk,Apr (i:=3) (by decide) (by rw [h3]) rfl,h3];rfl
theorem all3b:Jf c3 l3 V4=([],1,4):=by
 have h1:=run1 (ns:=V4) rfl;have h2:Dp c3 l3 V4 2=([],4):=by
  rw [Ia (by rw [h1]) (show V4[1]?=some ⟨2,2,1,0,[]⟩ from rfl),W7 (by decide) rfl,h1];rfl
 rw [Nm Apk,Apq (i:=1) (by decide) (by rw [h1]) (by decide) (by rw [h2];decide),h2]
theorem ia0:Lib.itoa 0=[48]:=by rw [show (0:Int)=((0:Nat):Int) from rfl,Lib.itoa_nonneg,Lib.decDigits,dif_pos (by decide)];rfl
theorem ia1:Lib.itoa 1=[49]:=by rw [show (1:Int)=((1:Nat):Int) from rfl,Lib.itoa_nonneg,Lib.decDigits,dif_pos (by decide)];rfl
theorem ia2:Lib.itoa 2=[50]:=by rw [show (2:Int)=((2:Nat):Int) from rfl,Lib.itoa_nonneg,Lib.decDigits,dif_pos (by decide)];rfl
theorem dd9:Lib.decDigits 9=[57]:=by rw [Lib.decDigits,dif_pos (by decide)];rfl
theorem dd0:Lib.decDigits 0=[48]:=by rw [Lib.decDigits,dif_pos (by decide)];rfl
theorem wn2 {a b:Int}:Ct [a,b]=32::Lib.itoa a++(32::Lib.itoa b):=by simp [Ct]
theorem wn1 {a:Int}:Ct [a]=32::Lib.itoa a:=by simp [Ct]
theorem Alw:Fq ⟨1,0,0,0,[]⟩ 1=[105,110,115,101,114,116,32,48,32,49,10]:=by
 unfold Fq;rw [show fm (nuK ⟨1,0,0,0,[]⟩ 1)=[0,1] from rfl,wn2,ia0,ia1];rfl
theorem Alv:Fq ⟨1,2,0,0,[⟨9,0,[120],[]⟩]⟩ 1=[105,110,115,101,114,116,32,50,32,49,10]:=by
 unfold Fq;rw [show fm (nuK ⟨1,2,0,0,[⟨9,0,[120],[]⟩]⟩ 1)=[2,1] from rfl,wn2,ia2,ia1];rfl
theorem Alu:Fq ⟨2,0,1,0,[]⟩ 0=[114,101,109,111,118,101,32,48,32,49,10]:=by
 unfold Fq;rw [show fm (nuK ⟨2,0,1,0,[]⟩ 0)=[0,1] from rfl,wn2,ia0,ia1];rfl
theorem ln_res0:Fq ⟨5,0,0,0,[]⟩ 0=[114,101,115,101,116,32,48,10]:=by
 unfold Fq;rw [show fm (nuK ⟨5,0,0,0,[]⟩ 0)=[0] from rfl,wn1,ia0];rfl
def Me:List NotD:=[⟨1,2,0,0,[⟨9,0,[120],[]⟩]⟩,⟨2,0,1,0,[]⟩]
theorem Aes:E1 Me=[105,110,115,101,114,116,32,50,32,49,10,57,32,48,32,45,32,120,10,114,101,109,111,118,101,32,48,32,49,10]:=by
 have h1:Z1 ⟨1,2,0,0,[⟨9,0,[120],[]⟩]⟩=Fq ⟨1,2,0,0,[⟨9,0,[120],[]⟩]⟩ 1++Dg [⟨9,0,[120],[]⟩]:=rfl;have h2:Z1 ⟨2,0,1,0,[]⟩=Fq ⟨2,0,1,0,[]⟩ 0++Dg []:=rfl;have h3:Dg [⟨9,0,[120],[]⟩]=[57,32,48,32,45,32,120,10]:=by
  simp only [Dg,List.map_cons,List.map_nil,Ep,dd9,dd0];rfl
 unfold E1 Me;simp only [List.flatMap_cons,List.flatMap_nil];rw [h1,h2,h3,Alv,Alu];rfl
theorem Y4:H0 Me=0∧Kw Me=[105,110,115,101,114,116,32,50,32,49,10,57,32,48,32,45,32,120,10,114,101,109,111,118,101,32,48,32,49,10]:=by
 have h:=nt_0 (l:=Me) (i:=2) (by decide) (by decide) rfl (by rw [show Me.take 2=Me from rfl,Aes];decide);rw [show Me.take 2=Me from rfl,Aes] at h
 exact h
def Ajt:List (List UInt8):=[[105,110,115,101,114,116,32,48,32,49,10],[114,101,109,111,118,101,32,48,10],[114,101,115,101,116,32,48,10,102,111,111,10]]
theorem no_item:¬ Qx []:=by
 rintro ⟨y,r,_,h⟩;have:=congrArg List.length h
 simp at this
theorem hd_ins:Head ⟨1,0,0,0,[]⟩ 1:=⟨by decide,Or.inr rfl,Or.inr rfl,Or.inr rfl,Or.inl (by decide),rfl,C0 (n:=0) (by decide) (by decide),C0 (n:=0) (by decide) (by decide),C0 (n:=0) (by decide) (by decide),by decide⟩
theorem hd_res:Head ⟨5,0,0,0,[]⟩ 0:=⟨by decide,Or.inr rfl,Or.inr rfl,Or.inr rfl,Or.inr rfl,rfl,C0 (n:=0) (by decide) (by decide),C0 (n:=0) (by decide) (by decide),C0 (n:=0) (by decide) (by decide),by decide⟩
theorem badN1:PR [] [105,110,115,101,114,116,32,48,32,49,10] ([],2,5) :=
 PR.bad (ys:=[]) (r:=[]) hd_ins (by decide) (by rw [Alw];rfl) (fun y hy=>by cases hy) (by decide) no_item
theorem badN2:PR [] [114,101,109,111,118,101,32,48,10] ([],1,5) :=
 PR.nohead (by decide) (Z4 (k:=2) (b:=0) (b2:=1) (W:=[114,101,109,111,118,101]) (wr:=[[48]]) (by decide) (by decide) (by decide) (by decide))
theorem badN3:PR [] [114,101,115,101,116,32,48,10,102,111,111,10] ([],2,5) :=
 PR.step (ys:=[]) (r:=[102,111,111,10]) hd_res (by decide) (by rw [ln_res0];rfl) (fun y hy=>by cases hy) rfl
  (PR.nohead (by decide) (Tq (z:=-1) (W:=[102,111,111]) (wr:=[]) (by decide) (Or.inl ⟨rfl,by decide⟩) (Or.inr (by decide))))
def lnN:List Nat:=[2,1,2]
theorem App {i:Nat} {s:List UInt8} (h:Ajt[i]?=some s):∃ n,lnN[i]?=some n∧PF s ([],n,5):=by
 rcases i with _ | _ | _ | i <;> simp only [Ajt,List.getElem?_cons_zero,List.getElem?_cons_succ,List.getElem?_nil,Option.some.injEq,reduceCtorEq] at h
 ·subst h;exact ⟨2,rfl,Or.inr ⟨by decide,badN1⟩⟩
 ·subst h;exact ⟨1,rfl,Or.inr ⟨by decide,badN2⟩⟩
 subst h;exact ⟨2,rfl,Or.inr ⟨by decide,badN3⟩⟩
open Go Go.Y Go.Proofs
variable {w0 w:World} {G:A4} {L:List Res}
theorem fin_aa {P:Program} {fn:Func} {n:Nat} {a:Act} {e:Env} {w0 w:World} {G:A4} {L:List Res} (F:Fits n a e) {t u ty1 ty2 k1 k2 b1 b2:Nat} {i1 i2:TI} {cs1 cs2:List Value} {R:Ending→World→Prop} (M:Mem w0 G L w)
  (hk1:L[k1]?=some (.blk b1 cs1 ty1)) (hk2:L[k2]?=some (.blk b2 cs2 ty2)) (hf:fn.results = #[.cell t ty1,.cell u ty2]) (ht1:TOK P ty1 i1) (ht2:TOK P ty2 i2) (ha1:i1.k.agg=some true) (ha2:i2.k.agg=some true)
  (hl1:cs1.length=i1.size) (hl2:cs2.length=i2.size) (hv1:Y.look e t=some (.pointer (some ⟨b1,0,none⟩))) (hv2:Y.look e u=some (.pointer (some ⟨b2,0,none⟩))) (h:R (.returned (.tuple #[.agg cs1.toArray,.agg cs2.toArray])) w):bodyPost P fn R .ret a w:=by
 refine Ly F (v:=.tuple #[.agg cs1.toArray,.agg cs2.toArray]) ?_ h;have h1:(loadVar ty1 ⟨b1,0,none⟩).run P w=.ok (.agg cs1.toArray) w:=Hj ht1 ha1 hl1 (M.cellsL hk1 (by rw [List.drop_zero,← hl1,List.take_length]));have h2:(loadVar ty2 ⟨b2,0,none⟩).run P w=.ok (.agg cs2.toArray) w:=Hj ht2 ha2 hl2 (M.cellsL hk2 (by rw [List.drop_zero,← hl2,List.take_length]))
 simp [results,hf,F.slot _ _ hv1,F.slot _ _ hv2,asAddr,h1,h2]
theorem lreset3 (M:Mem w0 G L w) {ka:Option Addr} {kc:Nat} (SC:Au C6 9 G (.slice ka c3.kinds.length kc) c3.kinds) {ta:Option Addr} {tc:Nat} (T:Au Cv 4 G (.slice ta 3 tc) [it3 1,it3 2,it3 3]) :
  Calls Tryz.prog 92 #[.agg #[.slice ka c3.kinds.length kc,.int .i64 1],.agg #[.slice none 0 0],.slice ta 3 tc] w (Iz w0 G (Kd L (l3,0))):=by
 rw [← res3]
 exact Rj (c:=c3) (l:=[]) M SC Au.nil (W3 Abj) T (by decide)
theorem Aca (M:Mem w0 G L w):Calls Tryz.prog 36 #[] w (Ret w0 G L fun G' v=>∃ (ka:Option Addr) (kc:Nat) (la:Option Addr) (lc:Nat),v=.tuple #[.agg #[.slice ka c3.kinds.length kc,.int .i64 1],.agg #[.slice la l3.length lc]]∧Au C6 9 G' (.slice ka c3.kinds.length kc) c3.kinds∧Au Ca 6 G' (.slice la l3.length lc) l3):=by
 refine Ay (vs:=[]) Tryz.func36 rfl (n:=21) rfl rfl<|Ac<|C9 M Co rfl rfl<|?_;clear M;intro b1 w M
 refine C9 M Ba rfl rfl<|?_;clear M;intro b3 w M
 refine Ac<|Ar (fun a F=>A3 (cs:=[.int .u8 1,.string (str [114,111,119]),.string (str []),.slice none 0 0,.string (str []),.slice none 0 0]) (ps:=[(0,.int .u8 1),(1,.string (str [114,111,119]))]) Bn.k rfl Bn (F.evp rfl) rfl) rfl<|Ar (fun a F=>A3 (cs:=[.int .u8 1,.string (str [114,111,119]),.string (str []),.slice none 0 0,.string (str []),.slice none 0 0,.int .i64 10,.bool false,.int .i64 0]) (ps:=[(0,.agg #[.int .u8 1,.string (str [114,111,119]),.string (str []),.slice none 0 0,.string (str []),.slice none 0 0]),(1,.int .i64 10)]) Fz.k rfl Fz (F.evp rfl) rfl) rfl<|fun a F=>?_
 refine Bk F M Dr.k Fz rfl rfl (cs:=[.int .u8 1,.string (str [114,111,119]),.string (str []),.slice none 0 0,.string (str []),.slice none 0 0,.int .i64 10,.bool false,.int .i64 0]) rfl rfl (by simp [Value.oneCell']) (by decide) rfl ?_;clear F M a;intro v5 w a M F;obtain ⟨av5,cv5,rfl,hlev5,hcmv5,hlv5⟩:=M.row_shape (k:=0) rfl;have Ek:Els C6 9 G [.int .u8 1,.string (str [114,111,119]),.string (str []),.slice none 0 0,.string (str []),.slice none 0 0,.int .i64 10,.bool false,.int .i64 0] c3.kinds:=Els.one ⟨[.int .u8 1,.string (str [114,111,119]),.string (str []),.slice none 0 0,.string (str []),.slice none 0 0],rfl,F9 (x:=Xt) ⟨by decide,by decide⟩ ⟨by decide,by decide,by decide⟩ Au.nil Au.nil,⟨by decide,by decide⟩⟩ rfl;obtain ⟨hnz6,Gz6,az6,cz6,hGz6,hez6,Sz6,M⟩:=M.freeze_row A1 (k:=0) rfl Ek (by decide);clear hez6 az6 cz6;revert a;refine Ar (fun a F=>A3 (cs:=[.slice av5 1 (cv5),.int .i64 1]) (ps:=[(0,.slice av5 1 (cv5)),(1,.int .i64 1)]) Co.k rfl Co (F.evp rfl) rfl) rfl<|C9 M Co rfl rfl<|?_;clear M;intro b7 w M
 intro a F;refine Cj F M Co 0 ?_;clear F M a;intro w a M F;change Mem w0 Gz6 (.blk b7 [.slice av5 1 (cv5),.int .i64 1] 51::_::_::L) _ at M;revert a;refine Ac<|Ar (fun a F=>Af Co rfl (F.ev rfl) (cs:=[.slice av5 1 (cv5),.int .i64 1]) rfl (M.cellsL (k:=0) rfl rfl)) rfl<|Ar (fun a F=>A3 (cs:=[.slice none 0 0]) (ps:=[]) Ba.k rfl Ba (F.evp rfl) rfl) rfl<|Ar (fun a F=>A3 (cs:=[.int .u64 1,.int .u8 0,.string (str []),.slice none 0 0]) (ps:=[(0,.int .u64 1)]) Bf.k rfl Bf (F.evp rfl) rfl) rfl<|Ar (fun a F=>A3 (cs:=[.int .u64 2,.int .u8 0,.string (str []),.slice none 0 0]) (ps:=[(0,.int .u64 2)]) Bf.k rfl Bf (F.evp rfl) rfl) rfl<|Ar (fun a F=>A3 (cs:=[.int .u64 3,.int .u8 0,.string (str []),.slice none 0 0]) (ps:=[(0,.int .u64 3)]) Bf.k rfl Bf (F.evp rfl) rfl) rfl<|fun a F=>?_
 refine F3 F M B9.k Bf (ps:=[(0,.agg #[.int .u64 1,.int .u8 0,.string (str []),.slice none 0 0]),(1,.agg #[.int .u64 2,.int .u8 0,.string (str []),.slice none 0 0]),(2,.agg #[.int .u64 3,.int .u8 0,.string (str []),.slice none 0 0])]) (cs:=[[.int .u64 1,.int .u8 0,.string (str []),.slice none 0 0],[.int .u64 2,.int .u8 0,.string (str []),.slice none 0 0],[.int .u64 3,.int .u8 0,.string (str []),.slice none 0 0]]) (fl:=[.int .u64 1,.int .u8 0,.string (str []),.slice none 0 0,.int .u64 2,.int .u8 0,.string (str []),.slice none 0 0,.int .u64 3,.int .u8 0,.string (str []),.slice none 0 0]) rfl rfl (by simp [N0,Value.cells]) (by simp [ti26]) rfl (by simp [Value.oneCell']) (by decide) (by decide) rfl ?_;clear F M a;intro v9 w a M F;obtain ⟨av9,cv9,rfl,hlev9,hcmv9,hlv9⟩:=M.row_shape (k:=0) rfl;have Ei:Els Cv 4 Gz6 [.int .u64 1,.int .u8 0,.string (str []),.slice none 0 0,.int .u64 2,.int .u8 0,.string (str []),.slice none 0 0,.int .u64 3,.int .u8 0,.string (str []),.slice none 0 0] [it3 1,it3 2,it3 3]:=⟨[.int .u64 1,.int .u8 0,.string (str []),.slice none 0 0],_,rfl,rfl,⟨none,0,rfl,by decide,by decide,by decide,by decide,Au.nil⟩,⟨[.int .u64 2,.int .u8 0,.string (str []),.slice none 0 0],_,rfl,rfl,⟨none,0,rfl,by decide,by decide,by decide,by decide,Au.nil⟩,⟨[.int .u64 3,.int .u8 0,.string (str []),.slice none 0 0],_,rfl,rfl,⟨none,0,rfl,by decide,by decide,by decide,by decide,Au.nil⟩,rfl⟩⟩⟩;obtain ⟨hnz10,Gz10,az10,cz10,hGz10,hez10,Sz10,M⟩:=M.freeze_row Aw (k:=0) rfl Ei (by decide);clear hez10 az10 cz10
 replace Sz6:=Sz6.mono A1 hGz10;refine Dy F ent92 rfl rfl (lreset3 M Sz6 Sz10) ?_;clear F M a;rintro _ Gq11 _ w a hGq11 M ⟨aoq11,csq11,Loq11,rfl,rfl,Eoq11⟩ F;replace Sz6:=Sz6.mono A1 hGq11;replace Sz10:=Sz10.mono Aw hGq11;have M:=M.perm (Cp (Cy aoq11 ((l3,(0:Int))).1.length csq11::Loq11) [.blk b7 [.slice av5 1 (cv5),.int .i64 1] 51,.blk b3 [.slice none 0 0] 54,.blk b1 [.slice none 0 0,.int .i64 0] 51] L);change Mem w0 Gq11 (.blk b7 [.slice av5 1 (cv5),.int .i64 1] 51::.blk b3 [.slice none 0 0] 54::.blk b1 [.slice none 0 0,.int .i64 0] 51::((Cy aoq11 ((l3,(0:Int))).1.length csq11::Loq11)++L)) _ at M;revert a;refine Aa rfl<|Df rfl rfl<|Df rfl rfl<|C9 M Ba rfl rfl<|?_;clear M;intro b12 w M
 intro a F;refine Cj F M Ba 0 ?_;clear F M a;intro w a M F;change Mem w0 Gq11 (.blk b12 [.slice aoq11 (((l3,(0:Int))).1.length) (((l3,(0:Int))).1.length)] 54::.blk b7 [.slice av5 1 (cv5),.int .i64 1] 51::_::_::((Cy aoq11 ((l3,(0:Int))).1.length csq11::Loq11)++L)) _ at M;revert a;refine Ab rfl<|Ag<|?_
 obtain ⟨Ggq11,hGgq11,M,Sgq11⟩:=K5 (M.perm (Cp [.blk b12 [.slice aoq11 (((l3,(0:Int))).1.length) (((l3,(0:Int))).1.length)] 54,.blk b7 [.slice av5 1 (cv5),.int .i64 1] 51,.blk b3 [.slice none 0 0] 54,.blk b1 [.slice none 0 0,.int .i64 0] 51] (Cy aoq11 ((l3,(0:Int))).1.length csq11::Loq11) L)) Eoq11;replace Sz6:=Sz6.mono A1 hGgq11;replace Sz10:=Sz10.mono Aw hGgq11;change Mem w0 Ggq11 (.blk b12 [.slice aoq11 ((l3,(0:Int)).1.length) ((l3,(0:Int)).1.length)] 54::.blk b7 [.slice av5 1 (cv5),.int .i64 1] 51::.blk b3 [.slice none 0 0] 54::.blk b1 [.slice none 0 0,.int .i64 0] 51::L) _ at M;intro a F;refine Gh [(true,0),(true,1),(false,2),(false,3)] (Keep Ggq11 [.blk b12 [.slice aoq11 ((l3,(0:Int)).1.length) ((l3,(0:Int)).1.length)] 54,.blk b7 [.slice av5 1 (cv5),.int .i64 1] 51]) rfl (by kernel_rfl) (fun c a d v w h=>by cases d <;> exact h) (Bo (M.drew _)) ?_;replace M:=M.drew (w.drawn+1);revert a;refine l_r (fun a F w M=>Af Co rfl (F.ev rfl) (cs:=[.slice av5 1 (cv5),.int .i64 1]) rfl (M.cellsL (k:=1) rfl rfl)) rfl<|l_r (fun a F w M=>Af Ba rfl (F.ev rfl) (cs:=[.slice aoq11 ((l3,(0:Int)).1.length) ((l3,(0:Int)).1.length)]) rfl (M.cellsL (k:=0) rfl rfl)) rfl<|l_a rfl<|fun a F=>?_
 refine Cj F M Co 3 ?_;clear F M a;intro w a M F;change Mem w0 Ggq11 (_::.blk b7 [.slice av5 1 (cv5),.int .i64 1] 51::_::.blk b1 [.slice av5 1 (cv5),.int .i64 1] 51::L) _ at M;revert a;refine eQ (Bo M)<|l_a rfl<|fun a F=>?_
 refine Cj F M Ba 2 ?_;clear F M a;intro w a M F;change Mem w0 Ggq11 (_::.blk b7 [.slice av5 1 (cv5),.int .i64 1] 51::.blk b3 [.slice aoq11 ((l3,(0:Int)).1.length) ((l3,(0:Int)).1.length)] 54::.blk b1 [.slice av5 1 (cv5),.int .i64 1] 51::L) _ at M;revert a;refine eQ (Bo M)<|Hq<|Ae<|fun a F=>fin_aa F M (k1:=3) (k2:=2) rfl rfl rfl Co Ba rfl rfl rfl rfl rfl rfl ?_
 exact ⟨_,(((hGz6.trans hGz10).trans hGq11).trans hGgq11),M.weaken dS4,_,_,_,_,rfl,Sz6,Sgq11⟩
end Go.Proofs.YtmmhmcplegpenaaGreatDoor
