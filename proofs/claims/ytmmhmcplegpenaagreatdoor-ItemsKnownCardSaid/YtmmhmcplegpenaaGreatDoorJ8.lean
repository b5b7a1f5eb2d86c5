/- The walks, part LR. · The walks, part LS. · The walks, part LT. · Notices: what a text stands for. · More layings of library functions (strconv.Atoi): began as written by lay-shelf.mjs. · The walks, part LU. · The walks, part LV. · The walks, part LW. · The walks, part LX. · What is valid can be decided, and the examples of chapter 14. · Notices: the examples of the chapter. · Notices: the examples of the chapter, texts. · The walks, part LY. · The walks, part LZ. · The walks, part LAA. · Notices: text and parsing are inverse. · The types and functions that the last walks name. · The walks, part LAB. · Notices: what the reference's Read and Parse read. · The walks, part LAC. · Notices: the state of the reference's Parse. · The walks, part LAD. · The walks, part LAE. · The walks, part LAF. · The statements' own makers of items, rules and lists. -/
import Derived.Test.YtmmhmcplegpenaaGreatDoorJ7
import Derived.Lib.AtoiAll
import Derived.Shelf.Strconv.AtoiAll
import Derived.Test.YtmmhmcplegpenaaGreatDoorJ1
import Derived.Test.YtmmhmcplegpenaaGreatDoorJ2
set_option linter.unusedSimpArgs false
set_option linter.unusedVariables false
set_option maxRecDepth 10000
namespace Go.Proofs.YtmmhmcplegpenaaGreatDoor
open Go Go.Y Go.Proofs
theorem Ju {w0 w:World} {G:Av} {L:List Res} (M:Mem w0 G L w) (HG:Globs 0 1 2 3 G) {an:Option Addr} {cn:Nat} {ns:List NotD} (SN:A8 K1 5 G (.slice an ns.length cn) ns):Calls Tryz.prog 32 #[.slice an ns.length cn] w (Ret w0 G L fun G' v=>v=.tuple #[.string (str (H2 ns)),.int .i64 (Fc ns)]):=by
 have bN:=SN.bound;refine Az (vs:=[_]) Tryz.func32 rfl (n:=68) rfl rfl<|Ad<|Ab rfl<|Ab rfl<|Ai<|Ad<|Aa rfl<|Cf Wt.k rfl<|C5 rfl rfl<|qD rfl ?_ ?_
 ·intro h1;refine Ad<|Ab rfl<|Ab rfl<|Al<|D5 rfl rfl rfl<|?_
  exact ⟨_,(Gle.refl _),M,by rw [(nt_3 (by omega)).1,(nt_3 (by omega)).2];try rfl⟩
 intro h2;refine Ao<|Ad<|Dy M Eg rfl rfl<|?_;clear M;intro b3 w M
 refine Ai<|Ai<|?_
 change Mem w0 G (_::L) _ at M;have M:=(M.nilrow 5 1).perm (List.Perm.swap _ _ _);intro a F;rw [show ([]:List Value)=bc [] from rfl] at M;revert a;refine Aw<|Aa rfl<|Cf Wt.k rfl<|Aa rfl<|Ar<|?_
 have hz0:([]:List UInt8)=C1 (ns.take 0):=by simp [C1]
 intro a F;rw [hz0] at M;refine Bi (fun m a' w'=>∃ (i:Nat),∃ (am:Option Addr),∃ (nm:Nat),∃ (cm:Nat),∃ (pm:Value),m=ns.length - i∧∃ G5,Gle G G5∧Fits 68 a' [(4,.pointer (some ⟨b3,0,none⟩)),(17,.slice an ns.length cn),(18,.int .i64 ((ns.length:Nat):Int)),(19,.int .i64 ((i:Nat):Int))]∧Mem w0 G5 (.blk b3 [pm,.slice am nm cm] 101::.row (.slice am nm cm) (nm) (bc (C1 (ns.take i))) 5 1::L) w'∧(i≤ns.length)∧(D3 (Lt ns) i=0)∧((C1 (ns.take i)).length≤320000 * i)∧(pm=.pointer none∨pm=.pointer (some ⟨b3,0,none⟩))∧(nm=(C1 (ns.take i)).length)∧((C1 (ns.take i))=[]→am=none)) _ ⟨0,(none),(0),(0),(.pointer none),rfl,G,Gle.refl _,F.to ⟨rfl,rfl,rfl,rfl,trivial⟩,M,Nat.zero_le _,rfl,by simp [C1],(Or.inl rfl),rfl,(fun _=>rfl)⟩ ?_;clear F M;rintro m a w ⟨i,am,nm,cm,pm,rfl,G5,hG5,F,M,hi,hS,hlen,hpm,hnm,hnilm⟩;replace HG:=HG.mono hG5;replace SN:=SN.mono He hG5;revert a;refine Ad<|Co rfl rfl<|Ai<|qD rfl ?_ ?_
 ·intro h6;refine Ao<|Ai<|Ar<|Ad<|?_
  obtain ⟨Xe7,hXe7⟩:=A0 (xs:=ns) (i:=i) (by omega);obtain ⟨be7,oe7,_,Ie7,_,Ae7,hTe7⟩:=SN.at hXe7;obtain ⟨nae7,nce7,rfl,h1e7,h2e7,h3e7,h4e7,h5e7,SIe7⟩:=hTe7;have hNe7:Xe7.kind < 256∧Bh .i64 Xe7.at_∧Bh .i64 Xe7.count∧Bh .i64 Xe7.to∧Xe7.items.length≤9223372036854775807:=⟨h1e7,h2e7,h3e7,h4e7,h5e7⟩;refine Db Wt.k De Ie7 rfl rfl<|Aq (fun a F=>Bj De rfl (F.ev rfl) (cs:=[.int .u8 ((Xe7.kind:Nat):Int),.int .i64 Xe7.at_,.int .i64 Xe7.count,.int .i64 Xe7.to,.slice nae7 Xe7.items.length nce7]) rfl (M.cellsA Ae7 0 (by omega) rfl)) rfl<|Dy M De rfl rfl<|?_;clear M;intro b8 w M
  intro a F;refine Di F M De 0 ?_;clear F M a;intro w a M F;revert a;refine Ai<|Ad<|F8 De M 0 rfl rfl rfl rfl<|Bc ent37 rfl rfl (Iu (x:=Xe7) M hNe7 SIe7)<|?_;clear M;rintro _ w M rfl
  refine Ab rfl<|Ad<|Aa rfl<|Df rfl rfl<|Ap rfl ?_ ?_
  ·intro h10b;have h10:=dF (Ag h10b);refine Ad<|Aa rfl<|Ab rfl<|Ab rfl<|Al<|D5 rfl rfl rfl<|?_
   exact ⟨_,hG5,M.weaken dS3,by rw [(nt_e (by omega) hS hXe7 (by rw [X9 (by omega)];omega)).1,(nt_e (by omega) hS hXe7 (by rw [X9 (by omega)];omega)).2,X9 (show Ge Xe7≠0 by omega)];try rfl⟩
  intro h11b;have h11:=dT (Ah h11b);refine Ao<|Ai<|?_
  have hne:Ge Xe7=0:=by omega
  refine Aw<|A9 De.k rfl rfl<|Bl A3 M 0 rfl rfl rfl rfl<|Bc Nc rfl rfl (Fo (xs:=Xe7.items) M HG SIe7)<|?_;clear M;rintro _ w M rfl
  refine Aa rfl<|Cd rfl rfl<|Cd rfl rfl<|Ab rfl<|Ab rfl<|Ai<|Ad<|Aa rfl<|Df rfl rfl<|Ap rfl ?_ ?_
  ·intro h12b;have h12:=dF (Ag h12b);refine Ad<|Aa rfl<|Ab rfl<|Ab rfl<|Al<|D5 rfl rfl rfl<|?_
   exact ⟨_,hG5,M.weaken dS3,by rw [(nt_e (by omega) hS hXe7 (by rw [Uh hne];omega)).1,(nt_e (by omega) hS hXe7 (by rw [Uh hne];omega)).2,Uh hne];try rfl⟩
  intro h13b;have h13:=dT (Ah h13b);refine Ao<|Ai<|?_
  have ht0:=N4 (l:=Xe7.items) (by omega);have htl:=Kz ht0.1.2 (L6 SIe7);intro a F;rw [← ht0.2] at htl;have hkk:=(Og.1 hne).1;have hnk:=Oj Xe7.kind;have hnu:=Pz (x:=Xe7) (sz:=((Xe7.items.length:Nat):Int)) hNe7.2.1 hNe7.2.2.1 hNe7.2.2.2.1 (Cl (by omega) (by omega));have hfl4:=X3 (nuK Xe7 ((Xe7.items.length:Nat):Int));rw [show (nuK Xe7 ((Xe7.items.length:Nat):Int)).length=4 from rfl] at hfl4;refine Ma (fun a' w'=>∃ (b10k b11k:Nat),Fits 68 a' [(4,.pointer (some ⟨b3,0,none⟩)),(6,.pointer (some ⟨b8,0,none⟩)),(8,.string (str (Eh Xe7.items))),(17,.slice an ns.length cn),(18,.int .i64 ((ns.length:Nat):Int)),(19,.int .i64 ((i:Nat):Int)),(10,.pointer (some ⟨b10k,0,none⟩)),(11,.pointer (some ⟨b11k,0,none⟩))]∧Mem w0 G5 (.blk b11k [.int .i64 ((Xe7.items.length:Nat):Int)] 3::.blk b10k [.string (str (Cc Xe7.kind)),.bool (decide (uAt Xe7.kind)),.bool (decide (uCo Xe7.kind)),.bool (decide (uTo Xe7.kind)),.bool (decide (uIt Xe7.kind)),.func (.func (Dq Xe7.kind)) #[] #[]] 138::.blk b8 [.int .u8 ((Xe7.kind:Nat):Int),.int .i64 Xe7.at_,.int .i64 Xe7.count,.int .i64 Xe7.to,.slice nae7 Xe7.items.length nce7] 65::.blk b3 [pm,.slice am nm cm] 101::.row (.slice am nm cm) (nm) (bc (C1 (ns.take i))) 5 1::L) w') ?_ ?_
  ·skip
   have ht0:=N4 (l:=Xe7.items) (by omega);have htl:=Kz ht0.1.2 (L6 SIe7);rw [← ht0.2] at htl;have hkk:=(Og.1 hne).1;have hnk:=Oj Xe7.kind;have hnu:=Pz (x:=Xe7) (sz:=((Xe7.items.length:Nat):Int)) hNe7.2.1 hNe7.2.2.1 hNe7.2.2.2.1 (Cl (by omega) (by omega));have hfl4:=X3 (nuK Xe7 ((Xe7.items.length:Nat):Int));rw [show (nuK Xe7 ((Xe7.items.length:Nat):Int)).length=4 from rfl] at hfl4;refine O8 (.run 1 (.run 2 (.run 4 (.run 5 (.run 6 (.act 0 (.run 3 (.act 7 (.act 8 (.act 9 (.act 10 .fin .no) .no) .no) (.act 8 (.act 7 (.act 9 (.act 10 .fin .no) .no) .no) .no))) (.act 7 (.act 0 (.run 3 (.act 8 (.act 9 (.act 10 .fin .no) .no) .no)) (.act 8 (.act 0 (.run 3 (.act 9 (.act 10 .fin .no) .no)) .no) .no)) (.act 8 (.act 0 (.run 3 (.act 7 (.act 9 (.act 10 .fin .no) .no) .no)) (.act 7 (.act 0 (.run 3 (.act 9 (.act 10 .fin .no) .no)) .no) .no)) .no)))))))) (Keep G5 [.blk b8 [.int .u8 ((Xe7.kind:Nat):Int),.int .i64 Xe7.at_,.int .i64 Xe7.count,.int .i64 Xe7.to,.slice nae7 Xe7.items.length nce7] 65]) rfl (by kernel_rfl) (fun c a d v w h=>by cases d <;> exact h) (Bx (M.drew _)) ?_;replace M:=M.drew (w.drawn+1);revert a;refine tFa De.k rfl rfl<|tLd Cz 0 rfl rfl rfl rfl<|tFa De.k rfl rfl<|tLd A3 0 rfl rfl rfl rfl<|t_r (fun a F w M=>Ec A3.k (F.ev rfl)) rfl<|fun a F=>Bq ?_ rfl ?_
   ·skip
    revert a;refine Bc Na rfl rfl (Ew M)<|?_;clear M;rintro _ w M rfl
    refine eQ (Bx M)<|t_r (fun a F w M=>Dz (j:=Xe7.kind) F7.k Bn rfl (F.ev rfl) (F.ev rfl) rfl (by omega) (us:=[.string (str (Cc Xe7.kind)),.bool (decide (uAt Xe7.kind)),.bool (decide (uCo Xe7.kind)),.bool (decide (uTo Xe7.kind)),.bool (decide (uIt Xe7.kind)),.func (.func (Dq Xe7.kind)) #[] #[]]) (Gx (by omega))) rfl<|fun a F=>Bq ?_ rfl ?_
    ·skip
     revert a;refine Dy M Bn rfl rfl<|?_;clear M;intro b14 w M
     refine eQ (Bx M)<|fun a F=>Bq ?_ rfl Cn
     revert a;refine Dy M Ct rfl rfl<|?_;clear M;intro b16 w M
     refine eQ (Bx M)<|fun a F=>Bq ?_ rfl Cn
     refine Di F M Bn 1 ?_;clear F M a;intro w a M F;revert a;refine eQ (Bx M)<|fun a F=>Bq ?_ rfl Cn
     revert a;refine F0 Ct M 0 rfl rfl rfl rfl rfl rfl<|?_;clear M;intro w M
     refine eQ (Bx M)<|Ho<|fun a F=>?_
     exact ⟨b14,b16,F.to ⟨rfl,rfl,rfl,rfl,rfl,rfl,rfl,rfl,trivial⟩,M⟩
    refine Bq ?_ rfl ?_
    ·skip
     revert a;refine Dy M Ct rfl rfl<|?_;clear M;intro b18 w M
     refine eQ (Bx M)<|fun a F=>Bq ?_ rfl Cn
     revert a;refine Dy M Bn rfl rfl<|?_;clear M;intro b20 w M
     refine eQ (Bx M)<|fun a F=>Bq ?_ rfl Cn
     refine Di F M Bn 0 ?_;clear F M a;intro w a M F;revert a;refine eQ (Bx M)<|fun a F=>Bq ?_ rfl Cn
     revert a;refine F0 Ct M 1 rfl rfl rfl rfl rfl rfl<|?_;clear M;intro w M
     refine eQ (Bx M)<|Ho<|?_
     have M:=M.perm (List.Perm.swap _ _ _);intro a F
     exact ⟨b20,b18,F.to ⟨rfl,rfl,rfl,rfl,rfl,rfl,rfl,rfl,trivial⟩,M⟩
    exact Cn
   refine Bq ?_ rfl ?_
   ·skip
    revert a;refine Dy M Bn rfl rfl<|?_;clear M;intro b22 w M
    refine eQ (Bx M)<|fun a F=>Bq ?_ rfl ?_
    ·skip
     revert a;refine Bc Na rfl rfl (Ew M)<|?_;clear M;rintro _ w M rfl
     refine eQ (Bx M)<|t_r (fun a F w M=>Dz (j:=Xe7.kind) F7.k Bn rfl (F.ev rfl) (F.ev rfl) rfl (by omega) (us:=[.string (str (Cc Xe7.kind)),.bool (decide (uAt Xe7.kind)),.bool (decide (uCo Xe7.kind)),.bool (decide (uTo Xe7.kind)),.bool (decide (uIt Xe7.kind)),.func (.func (Dq Xe7.kind)) #[] #[]]) (Gx (by omega))) rfl<|fun a F=>Bq ?_ rfl Cn
     revert a;refine Dy M Ct rfl rfl<|?_;clear M;intro b24 w M
     refine eQ (Bx M)<|fun a F=>Bq ?_ rfl Cn
     refine Di F M Bn 1 ?_;clear F M a;intro w a M F;revert a;refine eQ (Bx M)<|fun a F=>Bq ?_ rfl Cn
     revert a;refine F0 Ct M 0 rfl rfl rfl rfl rfl rfl<|?_;clear M;intro w M
     refine eQ (Bx M)<|Ho<|fun a F=>?_
     exact ⟨b22,b24,F.to ⟨rfl,rfl,rfl,rfl,rfl,rfl,rfl,rfl,trivial⟩,M⟩
    refine Bq ?_ rfl ?_
    ·skip
     revert a;refine Dy M Ct rfl rfl<|?_;clear M;intro b26 w M
     refine eQ (Bx M)<|fun a F=>Bq ?_ rfl Cn
     revert a;refine Bc Na rfl rfl (Ew M)<|?_;clear M;rintro _ w M rfl
     refine eQ (Bx M)<|t_r (fun a F w M=>Dz (j:=Xe7.kind) F7.k Bn rfl (F.ev rfl) (F.ev rfl) rfl (by omega) (us:=[.string (str (Cc Xe7.kind)),.bool (decide (uAt Xe7.kind)),.bool (decide (uCo Xe7.kind)),.bool (decide (uTo Xe7.kind)),.bool (decide (uIt Xe7.kind)),.func (.func (Dq Xe7.kind)) #[] #[]]) (Gx (by omega))) rfl<|fun a F=>Bq ?_ rfl Cn
     refine Di F M Bn 1 ?_;clear F M a;intro w a M F;revert a;refine eQ (Bx M)<|fun a F=>Bq ?_ rfl Cn
     revert a;refine F0 Ct M 0 rfl rfl rfl rfl rfl rfl<|?_;clear M;intro w M
     refine eQ (Bx M)<|Ho<|fun a F=>?_
     exact ⟨b22,b26,F.to ⟨rfl,rfl,rfl,rfl,rfl,rfl,rfl,rfl,trivial⟩,M⟩
    exact Cn
   refine Bq ?_ rfl ?_
   ·skip
    revert a;refine Dy M Ct rfl rfl<|?_;clear M;intro b28 w M
    refine eQ (Bx M)<|fun a F=>Bq ?_ rfl ?_
    ·skip
     revert a;refine Bc Na rfl rfl (Ew M)<|?_;clear M;rintro _ w M rfl
     refine eQ (Bx M)<|t_r (fun a F w M=>Dz (j:=Xe7.kind) F7.k Bn rfl (F.ev rfl) (F.ev rfl) rfl (by omega) (us:=[.string (str (Cc Xe7.kind)),.bool (decide (uAt Xe7.kind)),.bool (decide (uCo Xe7.kind)),.bool (decide (uTo Xe7.kind)),.bool (decide (uIt Xe7.kind)),.func (.func (Dq Xe7.kind)) #[] #[]]) (Gx (by omega))) rfl<|fun a F=>Bq ?_ rfl Cn
     revert a;refine Dy M Bn rfl rfl<|?_;clear M;intro b30 w M
     refine eQ (Bx M)<|fun a F=>Bq ?_ rfl Cn
     refine Di F M Bn 0 ?_;clear F M a;intro w a M F;revert a;refine eQ (Bx M)<|fun a F=>Bq ?_ rfl Cn
     revert a;refine F0 Ct M 1 rfl rfl rfl rfl rfl rfl<|?_;clear M;intro w M
     refine eQ (Bx M)<|Ho<|?_
     have M:=M.perm (List.Perm.swap _ _ _);intro a F
     exact ⟨b30,b28,F.to ⟨rfl,rfl,rfl,rfl,rfl,rfl,rfl,rfl,trivial⟩,M⟩
    refine Bq ?_ rfl ?_
    ·skip
     revert a;refine Dy M Bn rfl rfl<|?_;clear M;intro b32 w M
     refine eQ (Bx M)<|fun a F=>Bq ?_ rfl Cn
     revert a;refine Bc Na rfl rfl (Ew M)<|?_;clear M;rintro _ w M rfl
     refine eQ (Bx M)<|t_r (fun a F w M=>Dz (j:=Xe7.kind) F7.k Bn rfl (F.ev rfl) (F.ev rfl) rfl (by omega) (us:=[.string (str (Cc Xe7.kind)),.bool (decide (uAt Xe7.kind)),.bool (decide (uCo Xe7.kind)),.bool (decide (uTo Xe7.kind)),.bool (decide (uIt Xe7.kind)),.func (.func (Dq Xe7.kind)) #[] #[]]) (Gx (by omega))) rfl<|fun a F=>Bq ?_ rfl Cn
     refine Di F M Bn 0 ?_;clear F M a;intro w a M F;revert a;refine eQ (Bx M)<|fun a F=>Bq ?_ rfl Cn
     revert a;refine F0 Ct M 1 rfl rfl rfl rfl rfl rfl<|?_;clear M;intro w M
     refine eQ (Bx M)<|Ho<|?_
     have M:=M.perm (List.Perm.swap _ _ _);intro a F
     exact ⟨b32,b28,F.to ⟨rfl,rfl,rfl,rfl,rfl,rfl,rfl,rfl,trivial⟩,M⟩
    exact Cn
   exact Cn
  clear F M;rintro a w ⟨b10k,b11k,F,M⟩;revert a;refine Ad<|A9 Bn.k rfl rfl<|Bl A6 M 1 rfl rfl rfl rfl<|?_
  replace M:=M.perm (Am _ 4 _ rfl);replace M:=M.perm (Am _ 4 _ rfl);change Mem w0 G5 (_::_::_::_::.blk b8 [.int .u8 ((Xe7.kind:Nat):Int),.int .i64 Xe7.at_,.int .i64 Xe7.count,.int .i64 Xe7.to,.slice nae7 Xe7.items.length nce7] 65::L) _ at M;refine Ph Uj rfl rfl (I1 (s:=(Cc Xe7.kind)) hpm M hnm hnilm (by (first | omega | (simp only [List.length_append,List.length_cons,List.length_nil];omega))))<|?_;clear M;rintro _ _ w M ⟨rfl,au34,nu34,cu34,rfl,hnu34,hnilu34⟩
  refine Ai<|Ad<|F8 Bn M 3 rfl rfl rfl rfl<|Ik ent82 rfl rfl (Vj (k:=Xe7.kind) (b:=b8) (b2:=b11k) M)<|?_;clear M;rintro _ Gq35 w hGq35 M ⟨aq35,cq35,rfl,Sq35⟩
  replace HG:=HG.mono hGq35;replace SN:=SN.mono He hGq35;replace Ae7:=Ae7.mono hGq35;replace SIe7:=SIe7.mono Ae hGq35;refine Cf Pd.k rfl<|Aa rfl<|Ar<|?_
  have hz2:(C1 (ns.take i))++(Cc Xe7.kind)=C1 (ns.take i)++Cc Xe7.kind++Cy ((fm (nuK Xe7 ((Xe7.items.length:Nat):Int))).take 0):=by simp [Cy]
  intro a F;rw [hz2] at M hnu34 hnilu34;have hfe:=Ue (x:=Xe7) (b:=b8) (b2:=b11k) (sz:=((Xe7.items.length:Nat):Int));refine Bi (fun m a' w'=>∃ (j:Nat),∃ (ak:Option Addr),∃ (nk:Nat),∃ (ck:Nat),∃ (pk:Value),m=(fm (Ii Xe7.kind b8 b11k)).length - j∧Fits 68 a' [(4,.pointer (some ⟨b3,0,none⟩)),(6,.pointer (some ⟨b8,0,none⟩)),(8,.string (str (Eh Xe7.items))),(10,.pointer (some ⟨b10k,0,none⟩)),(11,.pointer (some ⟨b11k,0,none⟩)),(17,.slice an ns.length cn),(18,.int .i64 ((ns.length:Nat):Int)),(19,.int .i64 ((i:Nat):Int)),(48,.slice aq35 ((fm (Ii Xe7.kind b8 b11k)).length) (cq35)),(49,.int .i64 ((((fm (Ii Xe7.kind b8 b11k)).length:Nat):Int))),(50,.int .i64 ((j:Nat):Int))]∧Mem w0 Gq35 (.blk b3 [pk,.slice ak nk ck] 101::.row (.slice ak nk ck) (nk) (bc (C1 (ns.take i)++Cc Xe7.kind++Cy ((fm (nuK Xe7 ((Xe7.items.length:Nat):Int))).take j))) 5 1::.blk b11k [.int .i64 ((Xe7.items.length:Nat):Int)] 3::.blk b10k [.string (str (Cc Xe7.kind)),.bool (decide (uAt Xe7.kind)),.bool (decide (uCo Xe7.kind)),.bool (decide (uTo Xe7.kind)),.bool (decide (uIt Xe7.kind)),.func (.func (Dq Xe7.kind)) #[] #[]] 138::.blk b8 [.int .u8 ((Xe7.kind:Nat):Int),.int .i64 Xe7.at_,.int .i64 Xe7.count,.int .i64 Xe7.to,.slice nae7 Xe7.items.length nce7] 65::L) w'∧(j≤(fm (Ii Xe7.kind b8 b11k)).length)∧(pk=.pointer none∨pk=.pointer (some ⟨b3,0,none⟩))∧(nk=(C1 (ns.take i)++Cc Xe7.kind++Cy ((fm (nuK Xe7 ((Xe7.items.length:Nat):Int))).take j)).length)∧((C1 (ns.take i)++Cc Xe7.kind++Cy ((fm (nuK Xe7 ((Xe7.items.length:Nat):Int))).take j))=[]→ak=none)) _ ⟨0,(au34),(nu34),(cu34),(.pointer (some ⟨b3,0,none⟩)),rfl,F.to ⟨rfl,rfl,rfl,rfl,rfl,rfl,rfl,rfl,rfl,rfl,rfl,trivial⟩,M,Nat.zero_le _,(Or.inr rfl),hnu34,hnilu34⟩ ?_
  clear F M;rintro m a w ⟨j,ak,nk,ck,pk,rfl,F,M,hj,hpk,hnk,hnilk⟩;revert a;refine Ad<|Co rfl rfl<|Ai<|qD rfl ?_ ?_
  ·intro h36;refine Ao<|Ai<|Ar<|Ad<|?_
   obtain ⟨Xe37,hXe37⟩:=A0 (xs:=(fm (Ii Xe7.kind b8 b11k))) (i:=j) (by omega);obtain ⟨be37,oe37,_,Ie37,_,Ae37,rfl⟩:=Sq35.at hXe37;refine Db Pd.k Mc Ie37 rfl rfl<|Dm Mc M Ae37 0 rfl rfl (by omega) rfl<|Ab rfl<|Au<|Ch<|?_
   obtain ⟨z,hz,hpz⟩:=fld_get (sz:=((Xe7.items.length:Nat):Int)) hXe37;have hzi:=hnu z (List.mem_of_getElem? hz);have hzl:=Rg hzi;have hwl:=Kw (zs:=(fm (nuK Xe7 ((Xe7.items.length:Nat):Int))).take j) fun y hy=>hnu y (List.mem_of_mem_take hy);have hwt:((fm (nuK Xe7 ((Xe7.items.length:Nat):Int))).take j).length≤(fm (nuK Xe7 ((Xe7.items.length:Nat):Int))).length:=List.length_take_le' _ _;have hpc:w.cell? ⟨Xe37.1,Xe37.2,none⟩=some (.int .i64 z):=by rcases hpz with ⟨h8_,rfl⟩ | ⟨h8_,rfl⟩ | ⟨h8_,rfl⟩ | ⟨h8_,rfl⟩ <;> rw [h8_];exact M.cellL (k:=4) rfl rfl;exact M.cellL (k:=4) rfl rfl;exact M.cellL (k:=4) rfl rfl;exact M.cellL (k:=2) rfl rfl
   refine Aw<|Aa rfl<|Fj rfl<|Aq (fun a F=>Bk (agf Ct rfl) (F.ev rfl) hpc) rfl<|Bc Yb rfl rfl (S9 (z:=z) M HG hzi)<|?_;clear M;rintro _ w M rfl
   refine Aq (fun a F=>Bb (F.ev rfl) (F.ev rfl) (by (first | omega | (simp only [List.length_append,List.length_cons,List.length_nil];omega)))) rfl<|?_
   replace M:=M.perm (Am _ 1 _ rfl);replace M:=M.perm (Am _ 1 _ rfl);change Mem w0 Gq35 (_::_::_::_::.blk b8 [.int .u8 ((Xe7.kind:Nat):Int),.int .i64 Xe7.at_,.int .i64 Xe7.count,.int .i64 Xe7.to,.slice nae7 Xe7.items.length nce7] 65::L) _ at M;refine Ph Uj rfl rfl (I1 (s:=(([32]:List UInt8)++(Lib.itoa z))) hpk M hnk hnilk (by (first | omega | (simp only [List.length_append,List.length_cons,List.length_nil];omega))))<|?_;clear M;rintro _ _ w M ⟨rfl,au38,nu38,cu38,rfl,hnu38,hnilu38⟩
   refine Aw<|Bw rfl rfl<|Aa rfl<|Au<|Ch<|?_
   have hsn:(C1 (ns.take i)++Cc Xe7.kind++Cy ((fm (nuK Xe7 ((Xe7.items.length:Nat):Int))).take j))++(([32]:List UInt8)++(Lib.itoa z))=C1 (ns.take i)++Cc Xe7.kind++Cy ((fm (nuK Xe7 ((Xe7.items.length:Nat):Int))).take (j+1)):=R5 hz;intro a F;rw [hsn] at M hnu38 hnilu38
   exact ⟨_,by omega,j+1,(au38),(nu38),(cu38),(.pointer (some ⟨b3,0,none⟩)),rfl,F.to ⟨rfl,rfl,rfl,rfl,rfl,rfl,rfl,rfl,rfl,rfl,rfl,trivial⟩,M,by omega,(Or.inr rfl),hnu38,hnilu38⟩
  intro h39;refine Br<|Bu<|Bu<|C6<|Ch<|?_
  have hfl:(fm (Ii Xe7.kind b8 b11k)).length≤j:=by omega
  have hwl:=Kw (zs:=(fm (nuK Xe7 ((Xe7.items.length:Nat):Int))).take j) fun y hy=>hnu y (List.mem_of_mem_take hy);have hwt:((fm (nuK Xe7 ((Xe7.items.length:Nat):Int))).take j).length≤(fm (nuK Xe7 ((Xe7.items.length:Nat):Int))).length:=List.length_take_le' _ _;refine Aw<|Aa rfl<|Aq (fun a F=>Bb (F.ev rfl) (F.ev rfl) (by (first | omega | (simp only [List.length_append,List.length_cons,List.length_nil];omega)))) rfl<|?_
  replace M:=M.perm (Am _ 1 _ rfl);replace M:=M.perm (Am _ 1 _ rfl);change Mem w0 Gq35 (_::_::_::_::.blk b8 [.int .u8 ((Xe7.kind:Nat):Int),.int .i64 Xe7.at_,.int .i64 Xe7.count,.int .i64 Xe7.to,.slice nae7 Xe7.items.length nce7] 65::L) _ at M;refine Ph Uj rfl rfl (I1 (s:=(([10]:List UInt8)++(Eh Xe7.items))) hpk M hnk hnilk (by (first | omega | (simp only [List.length_append,List.length_cons,List.length_nil];omega))))<|?_;clear M;rintro _ _ w M ⟨rfl,au40,nu40,cu40,rfl,hnu40,hnilu40⟩
  refine Aw<|Bw rfl rfl<|Aa rfl<|Au<|Ch<|?_
  have hsn:(C1 (ns.take i)++Cc Xe7.kind++Cy ((fm (nuK Xe7 ((Xe7.items.length:Nat):Int))).take j))++(([10]:List UInt8)++(Eh Xe7.items))=C1 (ns.take (i+1)):=Xl hXe7 rfl (by have h9_:=Ue (x:=Xe7) (b:=0) (b2:=0) (sz:=((Xe7.items.length:Nat):Int));have h8_:=hfl;omega) ht0.2;intro a F;rw [hsn] at M hnu40 hnilu40
  exact ⟨_,by omega,i+1,(au40),(nu40),(cu40),(.pointer (some ⟨b3,0,none⟩)),rfl,Gq35,(hG5.trans hGq35),F.to ⟨rfl,rfl,rfl,rfl,trivial⟩,(M.weaken (cC (.cons_cons _ (cN (.cons _ (cN (sR _))))))),by omega,by rw [Lp hS,Ti hXe7,Uh hne];omega,by rw [← hsn];simp only [List.length_append,List.length_cons,List.length_nil];omega,(Or.inr rfl),hnu40,hnilu40⟩
 intro h41;refine Br<|Bu<|Bu<|C6<|Ai<|Ad<|?_
 replace M:=M.perm (Am _ 1 _ rfl);replace M:=M.perm (Am _ 1 _ rfl);change Mem w0 G5 (_::_::L) _ at M;refine Bc ent84 rfl rfl (We M hnm)<|?_;clear M;rintro _ w M rfl
 refine C5 rfl rfl<|qD rfl ?_ ?_
 ·intro h42;refine Ad<|Ab rfl<|Ab rfl<|Al<|D5 rfl rfl rfl<|?_
  exact ⟨_,hG5,M.weaken dS2,by rw [(Xk (by omega) hS (by omega) (by omega)).1,(Xk (by omega) hS (by omega) (by omega)).2];try rfl⟩
 intro h43;refine Ao<|Ad<|?_
 replace M:=M.perm (Am _ 1 _ rfl);replace M:=M.perm (Am _ 1 _ rfl);change Mem w0 G5 (_::_::L) _ at M;refine Bc ent43 rfl rfl (O3 M hnm hnilm)<|?_;clear M;rintro _ w M rfl
 refine Ab rfl<|Ab rfl<|Al<|D5 rfl rfl rfl<|?_
 exact ⟨_,hG5,M,by rw [(nt_0 (by omega) hS (by omega) (by omega)).1,(nt_0 (by omega) hS (by omega) (by omega)).2];try rfl⟩
open Go Go.Y Go.RowKit
section
variable {P:Program} {w:World} {ρ:Operand→Value} {dd:Option Tmp} {g:Option (Nat × Bool)} {t:TypeId} {p:String} {af:Array Edge}
end
def kfn (k:Nat):Value:=if k=0 then .nilFunc else .func (.func (Dq k)) #[] #[]
theorem S7 {k:Nat} (h:k < 6):(O5.drop (0+k * 6)).take 6=[.string (str (Cc k)),.bool (decide (uAt k)),.bool (decide (uCo k)),.bool (decide (uTo k)),.bool (decide (uIt k)),kfn k]:=by
 rcases (show k=0∨k=1∨k=2∨k=3∨k=4∨k=5 by omega) with rfl | rfl | rfl | rfl | rfl | rfl <;> rfl
def Md (s:List UInt8):List (List UInt8):=Lib.split s [32]
def Hi (r:List (List UInt8)):List UInt8:=r.flatMap fun s=>32::s
theorem Ql {d r:List UInt8} (k:Nat) (h:(32:UInt8) ∉ d):Lib.splitK [32] 0 (k+1) (d++32::r)=d::Lib.splitK [32] 0 k r:=by
 have h1:Lib.index (d++32::r) [32]=((d.length:Nat):Int):=by rw [Kp,P7 h,if_pos (by simp)]
 rw [Lib.splitK,h1,if_neg (by rw [beq_iff_eq];omega)]
 congr 1
 ·simp
 congr 1;simp
theorem Lg {s:List UInt8} {r:List (List UInt8)}:Hi (s::r)=32::(s++Hi r):=by simp [Hi]
theorem Jf:∀ (d:List UInt8) (r:List (List UInt8)),(∀ s∈d::r,(32:UInt8) ∉ s)→Lib.splitK [32] 0 r.length (d++Hi r)=d::r
 | d,[],_=>by simp [Hi,Lib.splitK]
 | d,y::r,h=>by
  rw [Lg,List.length_cons,Ql _ (h d (by simp)),Jf y r (fun s hs=>h s (by simp [hs]))]
theorem Lv:∀ (d:List UInt8) (r:List (List UInt8)),(∀ s∈d::r,(32:UInt8) ∉ s)→(d++Hi r).count 32=r.length
 | d,[],h=>by simpa [Hi] using List.count_eq_zero.2 (h d (by simp))
 | d,y::r,h=>by
  rw [Lg,List.count_append,List.count_cons_self,Lv y r (fun s hs=>h s (by simp [hs])),List.count_eq_zero.2 (h d (by simp)),List.length_cons]
  omega
theorem Pg {d:List UInt8} {r:List (List UInt8)} (h:∀ s∈d::r,(32:UInt8) ∉ s):Md (d++Hi r)=d::r:=by
 unfold Md Lib.split;rw [Lib.count_one,Lv d r h,Jf d r h]
theorem Wi (zs:List Int):Cy zs=Hi (zs.map Lib.itoa):=by unfold Cy Hi;rw [List.flatMap_map]
theorem Rf {c:UInt8} {z:Int} (h:¬ Iv c) (h2:c≠45):c ∉ Lib.itoa z:=by
 unfold Lib.itoa
 split
 ·intro h3
  rcases List.mem_cons.1 h3 with h3 | h3
  ·exact h2 h3
  exact Ja h h3
 exact Ja h
theorem Oi {k:Nat} {c:UInt8} (h:c=10∨c=32):c ∉ Cc k:=by
 unfold Cc
 split <;> rcases h with rfl | rfl <;> decide
theorem Qg {zs:List Int}:(10:UInt8) ∉ Cy zs:=by
 unfold Cy;simp only [List.mem_flatMap,not_exists,not_and,List.mem_cons,not_or]
 exact fun z _=>⟨by decide,Rf (by decide) (by decide)⟩
theorem Rm {x:NotD} {sz:Int} {r:List UInt8}:Lib.cut (Fl x sz++r) [10]=(Cc x.kind++Cy (fm (nuK x sz)),r,true):=by
 have:Fl x sz++r=(Cc x.kind++Cy (fm (nuK x sz)))++10::r:=by unfold Fl;simp
 rw [this,Gk];intro h
 rcases List.mem_append.1 h with h | h
 ·exact Oi (Or.inl rfl) h
 exact Qg h
theorem M6 {k:Nat} {zs:List Int}:Md (Cc k++Cy zs)=Cc k::zs.map Lib.itoa:=by
 rw [Wi,Pg];intro s hs
 rcases List.mem_cons.1 hs with rfl | hs
 ·exact Oi (Or.inr rfl)
 obtain ⟨z,_,rfl⟩:=List.mem_map.1 hs
 exact Rf (by decide) (by decide)
theorem Vm {j k:Nat} (hj:1≤j∧j≤5) (hk:1≤k∧k≤5) (h:Cc j=Cc k):j=k:=by
 rcases (show j=1∨j=2∨j=3∨j=4∨j=5 by omega) with rfl | rfl | rfl | rfl | rfl <;>
 rcases (show k=1∨k=2∨k=3∨k=4∨k=5 by omega) with rfl | rfl | rfl | rfl | rfl <;> first | rfl | (exact absurd h (by decide))
theorem Qz:∀ (l:List UInt8) (acc:Nat),(∀ c∈l,Iv c)→Hl l acc≤18446744073709551615→Lib.parseUint10 acc l=.ok (Hl l acc)
 | [],acc,_,_=>rfl
 | c::r,acc,hd,hv=>by
  have hc:48≤c.toNat∧c.toNat≤57:=hd c (by simp);simp only [Hl] at hv ⊢;have:=Pb r (10 * acc+(c.toNat - 48));unfold Lib.parseUint10;rw [if_pos hc,if_neg (by omega),if_neg (by omega),Nat.mul_comm acc 10]
  exact Qz r _ (fun x hx=>hd x (by simp [hx])) hv
theorem T5 {u:Nat} (h:u≤18446744073709551615):Lib.parseMag (Lib.decDigits u)=.ok u:=by
 unfold Lib.parseMag;rw [if_neg (Tm u),Qz _ 0 (Ib u) (by rw [Gi];exact h),Gi]
theorem Ow {z:Int} (h:Bh .i64 z):Lib.atoiAll (Lib.itoa z)=.ok z:=by
 obtain ⟨h1,h2⟩:=h;have h1:-9223372036854775808≤z:=h1;have h2:z≤9223372036854775807:=h2
 rcases Int.lt_or_le z 0 with h0 | h0
 ·obtain ⟨u,hu⟩:=Int.eq_ofNat_of_zero_le (show 0≤-z by omega);have hz:z = -(u:Int):=by omega
  subst hz;rw [Lib.itoa_neg u (by omega)];unfold Lib.atoiAll;simp only [show (45:UInt8).toNat=45 from rfl,or_true,if_true,T5 (show u≤18446744073709551615 by omega),not_true_eq_false,false_and,if_false,true_and];rw [if_neg (by omega)]
 ·obtain ⟨u,rfl⟩:=Int.eq_ofNat_of_zero_le h0;rw [Lib.itoa_nonneg]
  cases hd:Lib.decDigits u with
  | nil=>exact absurd hd (Tm u)
  | cons c r =>
   have hc:=Ib u c (by rw [hd];simp);have hc':48≤c.toNat∧c.toNat≤57:=hc;unfold Lib.atoiAll;simp only [show ¬ (c.toNat=43∨c.toNat=45) by omega,if_false,← hd];rw [T5 (show u≤18446744073709551615 by omega)];simp only [show ¬ c.toNat=45 by omega,not_false_eq_true,true_and,false_and,if_false];rw [if_neg (by omega)]
theorem Xx {z y:Int} (hz:Bh .i64 z) (hy:Bh .i64 y) (h:Lib.itoa z=Lib.itoa y):z=y:=by
 have h1:=Ow hz;rw [h,Ow hy] at h1
 exact (Lib.NumEnd.ok.inj h1).symm
structure Head (x:NotD) (sz:Int):Prop where
 kd:1≤x.kind∧x.kind≤5
 fa:uAt x.kind∨x.at_=0
 fc:uCo x.kind∨x.count=0
 ft:uTo x.kind∨x.to=0
 fi:uIt x.kind∨sz=0
 it:x.items=[]
 ra:Bh .i64 x.at_
 rc:Bh .i64 x.count
 rt:Bh .i64 x.to
 rs:0≤sz∧sz≤1024
structure FlH (x:NotD) (sz:Int):Prop where
 kd:1≤x.kind∧x.kind≤5
 fa:uAt x.kind∨x.at_=0
 fc:uCo x.kind∨x.count=0
 ft:uTo x.kind∨x.to=0
 fi:uIt x.kind∨sz=0
 it:x.items=[]
 ra:Bh .i64 x.at_
 rc:Bh .i64 x.count
 rt:Bh .i64 x.to
 rz:Bh .i64 sz
theorem Head.fl {x:NotD} {sz:Int} (h:Head x sz):FlH x sz:=⟨h.kd,h.fa,h.fc,h.ft,h.fi,h.it,h.ra,h.rc,h.rt,Cl (by have:=h.rs;omega) (by have:=h.rs;omega)⟩
theorem FlH.head {x:NotD} {sz:Int} (h:FlH x sz) (h2:0≤sz∧sz≤1024):Head x sz:=⟨h.kd,h.fa,h.fc,h.ft,h.fi,h.it,h.ra,h.rc,h.rt,h2⟩
theorem FlH.ink {x:NotD} {sz:Int} (h:FlH x sz):∀ z∈fm (nuK x sz),Bh .i64 z:=Pz h.ra h.rc h.rt h.rz
theorem Head.ink {x:NotD} {sz:Int} (h:Head x sz):∀ z∈fm (nuK x sz),Bh .i64 z:=Pz h.ra h.rc h.rt (Cl (by have:=h.rs;omega) (by have:=h.rs;omega))
def Nq (c:List UInt8):Prop:=∃ x sz r,Head x sz∧c=Fl x sz++r
theorem Kk:∀ {a b:List Int},(∀ z∈a,Bh .i64 z)→(∀ z∈b,Bh .i64 z)→a.map Lib.itoa=b.map Lib.itoa→a=b
 | [],[],_,_,_=>rfl
 | [],y::b,_,_,h=>by cases h
 | z::a,[],_,_,h=>by cases h
 | z::a,y::b,h1,h2,h=>by
  simp only [List.map_cons,List.cons.injEq] at h;rw [Xx (h1 z (by simp)) (h2 y (by simp)) h.1,Kk (fun q hq=>h1 q (by simp [hq])) (fun q hq=>h2 q (by simp [hq])) h.2]
theorem fm_cons {α:Type} {b:Bool} {v:α} {l:List (Bool × α)}:fm ((b,v)::l)=(if b=true then [v] else [])++fm l:=by
 unfold fm;cases b <;> simp
theorem nu_inj {x y:NotD} {sz tz:Int} (hk:x.kind=y.kind) (hx:FlH x sz) (hy:FlH y tz) (h:fm (nuK x sz)=fm (nuK y tz)):x=y∧sz=tz:=by
 have key:∀ (b:Bool) (a c:Int) (l r:List Int),l.length=r.length→(if b=true then [a] else [])++l=(if b=true then [c] else [])++r→l=r∧(b=true→a=c):=by
  intro b a c l r hl h
  cases b
  ·exact ⟨by simpa using h,fun h=>by cases h⟩
  simp only [if_true,List.cons_append,List.nil_append,List.cons.injEq] at h;exact ⟨h.2,fun _=>h.1⟩
 have lens:∀ (b:Bool) (a c:Int) (l r:List Int),l.length=r.length→((if b=true then [a] else [])++l).length=((if b=true then [c] else [])++r).length:=by
  intro b a c l r hl;cases b <;> simp [hl]
 unfold nuK at h;rw [hk] at h;simp only [fm_cons] at h;have e0:(fm ([]:List (Bool × Int))).length=(fm ([]:List (Bool × Int))).length:=rfl;have e1:=lens (decide (uIt y.kind)) sz tz _ _ e0;have e2:=lens (decide (uTo y.kind)) x.to y.to _ _ e1;have e3:=lens (decide (uCo y.kind)) x.count y.count _ _ e2;obtain ⟨h1,g1⟩:=key _ _ _ _ _ e3 h;obtain ⟨h2,g2⟩:=key _ _ _ _ _ e2 h1;obtain ⟨h3,g3⟩:=key _ _ _ _ _ e1 h2;obtain ⟨_,g4⟩:=key _ _ _ _ _ e0 h3;have pick:∀ {u v:Prop} {a c:Int} [Decidable v],(u↔v)→(u∨a=0)→(v∨c=0)→(decide v=true→a=c)→a=c:=by
  intro u v a c _ huv ha hc hg
  by_cases hv:v
  ·exact hg (decide_eq_true hv)
  rw [ha.resolve_left (fun h=>hv (huv.1 h)),hc.resolve_left hv]
 have i1:x.at_=y.at_:=pick (by rw [hk]) hx.fa hy.fa g1;have i2:x.count=y.count:=pick (by rw [hk]) hx.fc hy.fc g2;have i3:x.to=y.to:=pick (by rw [hk]) hx.ft hy.ft g3;have i4:sz=tz:=pick (by rw [hk]) hx.fi hy.fi g4;refine ⟨?_,i4⟩;have i5:x.items=y.items:=by rw [hx.it,hy.it]
 clear hx hy key lens pick e1 e2 e3 h1 h2 h3 h g1 g2 g3 g4
 cases x;cases y
 simp only [NotD.mk.injEq] at *
 exact ⟨hk,i1,i2,i3,i5⟩
theorem I8 {x y:NotD} {sz tz:Int} {r q:List UInt8} (hx:Head x sz) (hy:Head y tz) (h:Fl x sz++r=Fl y tz++q):x=y∧sz=tz∧r=q:=by
 have h1:Lib.cut (Fl x sz++r) [10]=Lib.cut (Fl y tz++q) [10]:=by rw [h]
 rw [Rm,Rm] at h1;simp only [Prod.mk.injEq,and_true] at h1;have h2:Md (Cc x.kind++Cy (fm (nuK x sz)))=Md (Cc y.kind++Cy (fm (nuK y tz))):=by rw [h1.1]
 rw [M6,M6,List.cons.injEq] at h2;have hk:=Vm hx.kd hy.kd h2.1;obtain ⟨e1,e2⟩:=nu_inj hk hx.fl hy.fl (Kk hx.ink hy.ink h2.2)
 exact ⟨e1,e2,h1.2⟩
def okI (ys:List ItemD):Prop:=∀ y∈ys,Bv 8 y∧y.key < 18446744073709551616∧y.typ < 256
def Ts (c:List UInt8):Prop:=∃ y r,(Bv 8 y∧y.key < 18446744073709551616∧y.typ < 256)∧c=B7 y++10::r
theorem Rh {y:ItemD} {r:List UInt8} (h:Bv 8 y):Lib.cut (B7 y++10::r) [10]=(B7 y,r,true):=Gk (Jw h)
theorem N5 {a b:List ItemD}:Bd (a++b)=Bd a++Bd b:=by unfold Bd;simp
theorem Jy:∀ {a b:List ItemD} {r q:List UInt8},okI a→okI b→a.length=b.length→Bd a++r=Bd b++q→a=b∧r=q
 | [],[],r,q,_,_,_,h=>⟨rfl,by simpa [Bd] using h⟩
 | [],y::b,_,_,_,_,h,_=>by cases h
 | x::a,[],_,_,_,_,h,_=>by cases h
 | x::a,y::b,r,q,h1,h2,h3,h=>by
  have e1:Bd (x::a)++r=B7 x++10::(Bd a++r):=by unfold Bd;simp
  have e2:Bd (y::b)++q=B7 y++10::(Bd b++q):=by unfold Bd;simp
  rw [e1,e2] at h;have hx:=h1 x (by simp);have hy:=h2 y (by simp);have h4:Lib.cut (B7 x++10::(Bd a++r)) [10]=Lib.cut (B7 y++10::(Bd b++q)) [10]:=by rw [h]
  rw [Rh hx.1,Rh hy.1] at h4;simp only [Prod.mk.injEq,and_true] at h4;have e:=Ou hx.1 hy.1 hx.2.1 hy.2.1 h4.1;obtain ⟨e3,e4⟩:=Jy (fun z hz=>h1 z (by simp [hz])) (fun z hz=>h2 z (by simp [hz])) (by simpa using h3) h4.2
  exact ⟨by rw [e,e3],e4⟩
theorem I7 {a b:List ItemD} {r q:List UInt8} (ha:okI a) (hb:okI b) (hl:a.length < b.length) (h:Bd a++r=Bd b++q):Ts r:=by
 have h1:b=b.take a.length++b.drop a.length:=(List.take_append_drop _ _).symm;rw [h1,N5,List.append_assoc] at h;obtain ⟨_,h2⟩:=Jy ha (fun y hy=>hb y (List.mem_of_mem_take hy)) (by rw [List.length_take];omega) h
 cases hd:b.drop a.length with
 | nil=>have:=congrArg List.length hd;simp only [List.length_drop,List.length_nil] at this;omega
 | cons y t =>
  rw [hd] at h2;refine ⟨y,Bd t++q,hb y (List.mem_of_mem_drop (by rw [hd];simp)),?_⟩;rw [h2];unfold Bd;simp
def nlN (xs:List NotD):Nat:=(xs.map fun x=>1+x.items.length).sum
theorem Xo {xs:List NotD} {x:NotD}:nlN (xs++[x])=nlN xs+(1+x.items.length):=by unfold nlN;simp
inductive PR:List NotD→List UInt8→List NotD × Nat × Int→Prop
 | done {xs}:PR xs [] (xs,0,0)
 | nohead {xs c}:c≠[]→¬ Nq c→PR xs c ([],nlN xs+1,5)
 | full {xs c}:Nq c→xs.length=32→PR xs c ([],nlN xs+1,3)
 | bad {xs c x sz ys r}:Head x sz→xs.length≠32→c=Fl x sz++(Bd ys++r)→okI ys→((ys.length:Nat):Int) < sz→¬ Ts r→PR xs c ([],nlN xs+1+ys.length+1,5)
 | step {xs c x sz ys r q}:Head x sz→xs.length≠32→c=Fl x sz++(Bd ys++r)→okI ys→((ys.length:Nat):Int)=sz→PR (xs++[{ x with items:=ys }]) r q→PR xs c q
theorem Kl {x:NotD} {sz:Int} {r:List UInt8}:Fl x sz++r≠[]:=by unfold Fl;simp
theorem Ua {c:List UInt8} (h:Nq c):c≠[]:=by
 obtain ⟨x,sz,r,_,rfl⟩:=h;exact Kl
theorem PR.uniq {xs:List NotD} {c:List UInt8} {a b:List NotD × Nat × Int} (h1:PR xs c a):PR xs c b→a=b:=by
 induction h1 with
 | done =>
  intro h2
  cases h2 with
  | done=>rfl
  | nohead h _=>exact absurd rfl h
  | full h _=>exact absurd rfl (Ua h)
  | bad _ _ h=>exact absurd h.symm Kl
  | step _ _ h=>exact absurd h.symm Kl
 | nohead h hn =>
  intro h2
  cases h2 with
  | done=>exact absurd rfl h
  | nohead=>rfl
  | full h3 _=>exact absurd h3 hn
  | bad h3 _ h4=>exact absurd ⟨_,_,_,h3,h4⟩ hn
  | step h3 _ h4=>exact absurd ⟨_,_,_,h3,h4⟩ hn
 | full h hl =>
  intro h2
  cases h2 with
  | done=>exact absurd rfl (Ua h)
  | nohead _ h3=>exact absurd h h3
  | full=>rfl
  | bad _ h3=>exact absurd hl h3
  | step _ h3=>exact absurd hl h3
 | @bad xs c x sz ys r hh hl hc hok hlt hn =>
  intro h2
  cases h2 with
  | done=>exact absurd hc.symm Kl
  | nohead _ h3=>exact absurd ⟨_,_,_,hh,hc⟩ h3
  | full _ h3=>exact absurd h3 hl
  | @bad _ _ y tz zs q hh2 _ hc2 hok2 hlt2 hn2 =>
   rw [hc] at hc2;obtain ⟨_,rfl,h4⟩:=I8 hh hh2 hc2
   rcases Nat.lt_trichotomy ys.length zs.length with h5 | h5 | h5
   ·exact absurd (I7 hok hok2 h5 h4) hn
   ·rw [h5]
   ·exact absurd (I7 hok2 hok h5 h4.symm) hn2
  | @step _ _ y tz zs q _ hh2 _ hc2 hok2 he2 _ =>
   rw [hc] at hc2;obtain ⟨_,rfl,h4⟩:=I8 hh hh2 hc2
   exact absurd (I7 hok hok2 (by omega) h4) hn
 | @step xs c x sz ys r q hh hl hc hok he _ ih =>
  intro h2
  cases h2 with
  | done=>exact absurd hc.symm Kl
  | nohead _ h3=>exact absurd ⟨_,_,_,hh,hc⟩ h3
  | full _ h3=>exact absurd h3 hl
  | @bad _ _ y tz zs q2 hh2 _ hc2 hok2 hlt2 hn2 =>
   rw [hc] at hc2;obtain ⟨_,rfl,h4⟩:=I8 hh hh2 hc2
   exact absurd (I7 hok2 hok (by omega) h4.symm) hn2
  | @step _ _ y tz zs q2 _ hh2 _ hc2 hok2 he2 hp =>
   rw [hc] at hc2;obtain ⟨rfl,rfl,h4⟩:=I8 hh hh2 hc2;obtain ⟨rfl,rfl⟩:=Jy hok hok2 (by omega) h4
   exact ih hp
end Go.Proofs.YtmmhmcplegpenaaGreatDoor
namespace Go.Proofs
open Go.Shelf
end Go.Proofs
namespace Go.Proofs.YtmmhmcplegpenaaGreatDoor
open Go Go.Y Go.Proofs
theorem n1_spec {w0 w:World} {G:Av} {L:List Res} {b6:Nat} {nm:List UInt8} {k1 k2 k3 k4:Bool} {fv:Value} (hfv:Value.oneCell' fv=true) {aw:Option Addr} {cw:Nat} {ws:List (List UInt8)} (S:A8 Cj 1 G (.slice aw ws.length cw) ws) (M:Mem w0 G (.blk b6 [.slice aw ws.length cw] 24::L) w) {W:List UInt8} (hW:ws[0]?=some W) :
  Calls Tryz.prog 135 #[.agg #[.string (str nm),.bool k1,.bool k2,.bool k3,.bool k4,fv],.pointer (some ⟨b6,0,none⟩)] w (B5 w0 G (.blk b6 [.slice aw ws.length cw] 24::L) fun v=>v=.bool (decide (nm=W))):=by
 refine Az (vs:=[_,_]) Tryz.func135 rfl (n:=10) rfl rfl<|Ad<|G4 M rfl rfl rfl<|?_;clear M;intro b1 w M
 refine Ab rfl<|Ai<|fun a F=>Hw [(true,0),(true,1),(true,2),(true,3),(true,4),(true,5),(true,6)] (Keep G [.blk b1 [.string (str nm),.bool k1,.bool k2,.bool k3,.bool k4,fv] 138,.blk b6 [.slice aw ws.length cw] 24]) rfl (by kernel_rfl) (fun c a d v w h=>by cases d <;> exact h) (Bx (M.drew _)) ?_
 replace M:=M.drew (w.drawn+1);revert a;refine lFa Bn.k rfl rfl<|lLd A6 0 rfl rfl rfl rfl<|lLd A5 1 rfl rfl rfl rfl<|?_
 obtain ⟨be2,oe2,_,Ie2,_,Ae2,⟨rfl,hsle2⟩⟩:=S.at hW;refine l_r (fun a F w M=>Bo A5.k A6 (F.ev rfl) (F.ev rfl) (by omega) Ie2) rfl<|l_r (fun a F w M=>Bk (agf A6 rfl) (F.ev rfl) (M.cellA Ae2 0 (by omega) rfl)) rfl<|l_r (fun a F w M=>Hp (F.ev rfl) (F.ev rfl)) rfl<|lAs rfl<|Jh<|?_
 generalize ({ w with drawn:=w.drawn+1 }:World)=w at M ⊢
 refine Al<|Ak rfl rfl<|?_
 exact ⟨M.weaken (cN (cC (sR _))),rfl⟩
theorem Ox {w0 w:World} {G:Av} {L:List Res} {b7 b6:Nat} {aw:Option Addr} {cw:Nat} {ws:List (List UInt8)} (S:A8 Cj 1 G (.slice aw ws.length cw) ws) (M:Mem w0 G (.blk b7 O5 139::.blk b6 [.slice aw ws.length cw] 24::L) w) {W:List UInt8} (hW:ws[0]?=some W) :
  Calls Tryz.prog 134 #[.slice (some ⟨b7,0,none⟩) 6 6,.func (.func 135) #[] #[.pointer (some ⟨b6,0,none⟩)]] w (B5 w0 G (.blk b7 O5 139::.blk b6 [.slice aw ws.length cw] 24::L) fun v=>∃ z:Int,v=.int .i64 z∧((z = -1∧∀ j,j < 6→Cc j≠W)∨∃ k:Nat,k < 6∧z=((k:Nat):Int)∧Cc k=W∧∀ j,j < k→Cc j≠W)):=by
 refine Az (vs:=[_,_]) Tryz.func134 rfl (n:=19) rfl rfl<|Ad<|Ab rfl<|Ai<|Ad<|Aa rfl<|Cf Wu.k rfl<|Aa rfl<|Ar<|fun a F=>Bi (fun m a' w'=>∃ (i:Nat),m=6 - i∧Fits 19 a' [(0,.slice (some ⟨b7,0,none⟩) 6 6),(1,.func (.func 135) #[] #[.pointer (some ⟨b6,0,none⟩)]),(6,.slice (some ⟨b7,0,none⟩) 6 6),(7,.int .i64 ((6:Nat):Int)),(8,.int .i64 ((i:Nat):Int))]∧Mem w0 G (.blk b7 O5 139::.blk b6 [.slice aw ws.length cw] 24::L) w'∧(i≤6)∧(∀ j,j < i→Cc j≠W)) _ ⟨0,rfl,F.to ⟨rfl,rfl,rfl,rfl,rfl,trivial⟩,M,by omega,fun j h=>by omega⟩ ?_
 clear F M;rintro m a w ⟨i,rfl,F,M,hi,hA⟩;revert a;refine Ad<|Co rfl rfl<|Ai<|qD rfl ?_ ?_
 ·intro h1;refine Ao<|Ai<|Ar<|Ad<|Aa rfl<|Ab rfl<|Ad<|Aa rfl<|Aa rfl<|Aa rfl<|Aq (fun a F=>Bo (b:=b7) (o:=0+i * 6) Wu.k Bn (F.ev rfl) (F.ev rfl) (by omega) ⟨0,rfl,rfl,by omega⟩) rfl<|Aq (fun a F=>Bj Bn rfl (F.ev rfl) (cs:=[.string (str (Cc i)),.bool (decide (uAt i)),.bool (decide (uCo i)),.bool (decide (uTo i)),.bool (decide (uIt i)),kfn i]) rfl (M.cellsL (k:=0) rfl (S7 (k:=i) (by omega)))) rfl<|?_
  replace M:=M.perm (Am _ 1 _ rfl);change Mem w0 G (_::_::L) _ at M;refine Si ent135 (caps:=[.pointer (some ⟨b6,0,none⟩)]) rfl rfl rfl (n1_spec (nm:=Cc i) (by unfold kfn;split <;> rfl) S M hW)<|?_;clear M;rintro _ w M rfl
  refine qD rfl ?_ ?_
  ·intro h2;refine Ad<|Aa rfl<|Ab rfl<|Al<|Ak rfl rfl<|?_
   replace M:=M.perm (Am _ 1 _ rfl);change Mem w0 G (_::_::L) _ at M
   exact ⟨M,_,rfl,Or.inr ⟨i,by omega,rfl,by assumption,hA⟩⟩
  intro h3;refine Ao<|Aw<|Bw rfl rfl<|Aa rfl<|Au<|Ch<|?_
  replace M:=M.perm (Am _ 1 _ rfl);change Mem w0 G (_::_::L) _ at M;intro a F
  exact ⟨_,by omega,i+1,rfl,F.to ⟨rfl,rfl,rfl,rfl,rfl,trivial⟩,(M.weaken (cC (.cons_cons _ (sR _)))),by omega,fun j hj=>by rcases Nat.lt_succ_iff_lt_or_eq.1 hj with h_ | h_;exact hA j h_;subst h_;assumption⟩
 intro h4;refine Br<|Bu<|Bu<|C6<|Ad<|Ab rfl<|Al<|Ak rfl rfl<|?_
 replace M:=M.perm (Am _ 1 _ rfl);replace M:=M.perm (Am _ 1 _ rfl);change Mem w0 G (_::_::L) _ at M
 exact ⟨M,_,rfl,Or.inl ⟨rfl,fun j hj=>hA j (by omega)⟩⟩
def PF (s:List UInt8) (r:List NotD × Nat × Int):Prop:=(1048576 < s.length∧r=([],0,3))∨(s.length≤1048576∧PR [] s r)
theorem PF.uniq {s:List UInt8} {a b:List NotD × Nat × Int} (h1:PF s a) (h2:PF s b):a=b:=by
 rcases h1 with ⟨h1,rfl⟩ | ⟨h1,h3⟩ <;> rcases h2 with ⟨h2,rfl⟩ | ⟨h2,h4⟩
 ·rfl
 ·omega
 ·omega
 exact h3.uniq h4
end Go.Proofs.YtmmhmcplegpenaaGreatDoor
namespace Go.Proofs.YtmmhmcplegpenaaGreatDoor.T
open Go Go.Y Go.Proofs
instance instNameB:DecidablePred Ck:=fun c=>by unfold Ck;infer_instance
instance instName:DecidablePred Cb:=fun s=>by unfold Cb;infer_instance
instance instStrB:DecidablePred Gl:=fun c=>by unfold Gl;infer_instance
instance instStr:DecidablePred Str:=fun s=>by unfold Str;infer_instance
instance instEqAttr:DecidableEq AttrD:=fun a b=>decidable_of_iff (a.n=b.n∧a.v=b.v) (by cases a;cases b;simp)
instance instEqSlot:DecidableEq SlotD:=fun a b=>decidable_of_iff (a.n=b.n∧a.src=b.src∧a.v=b.v) (by cases a;cases b;simp)
def J4 {α:Type} (p:α→Bool) (q:α→α→Bool):List α→Bool
 | []=>true
 | [a]=>p a
 | a::b::l=>p a && q a b && J4 p q (b::l)
theorem J3 {α:Type} {p:α→Bool} {q:α→α→Bool}:∀ l:List α,J4 p q l=true↔∀ (i:Nat) (x:α),l[i]?=some x→p x=true∧∀ y,0 < i→l[i - 1]?=some y→q y x=true
 | []=>by simp [J4]
 | [a]=>by
  simp only [J4]
  constructor
  ·intro h i x hx
   match i with
   | 0=>simp only [List.getElem?_cons_zero,Option.some.injEq] at hx;subst hx;exact ⟨h,fun y h0=>by omega⟩
   | i+1=>simp at hx
  ·intro h;exact (h 0 a rfl).1
 | a::b::l=>by
  simp only [J4,Bool.and_eq_true,J3 (b::l)]
  constructor
  ·rintro ⟨⟨h1,h2⟩,h3⟩ i x hx
   match i with
   | 0=>simp only [List.getElem?_cons_zero,Option.some.injEq] at hx;subst hx;exact ⟨h1,fun y h0=>by omega⟩
   | 1 =>
    simp only [List.getElem?_cons_succ,List.getElem?_cons_zero,Option.some.injEq] at hx;subst hx;refine ⟨(h3 0 b rfl).1,fun y _ hy=>?_⟩;simp only [Nat.sub_self,List.getElem?_cons_zero,Option.some.injEq] at hy;subst hy;exact h2
   | i+2 =>
    simp only [List.getElem?_cons_succ] at hx;obtain ⟨h4,h5⟩:=h3 (i+1) x (by simpa using hx)
    exact ⟨h4,fun y _ hy=>h5 y (by omega) (by simpa using hy)⟩
  ·intro h;refine ⟨⟨(h 0 a rfl).1,(h 1 b rfl).2 a (by decide) rfl⟩,fun i x hx=>?_⟩;obtain ⟨h4,h5⟩:=h (i+1) x (by simpa using hx)
   exact ⟨h4,fun y h0 hy=>h5 y (by omega) (by
    obtain ⟨i',rfl⟩:∃ i',i=i' + 1:=⟨i - 1,by omega⟩
    simpa using hy)⟩
instance instAttrsOk:DecidablePred Fh:=fun l=>decidable_of_iff (J4 (fun x=>decide (Cb x.n∧Str x.v)) (fun y x=>Op.bytesLess y.n x.n) l=true) (by
 rw [J3];unfold Fh;simp only [decide_eq_true_eq])
instance instSlotAt:DecidablePred Nn:=fun x=>by unfold Nn;infer_instance
instance instSlotsOk:DecidablePred Ku:=fun l=>decidable_of_iff (l.length≤8∧J4 (fun x=>decide (Nn x)) (fun y x=>Op.bytesLess y.n x.n) l=true) (by
 rw [J3];unfold Ku Gm;simp only [decide_eq_true_eq]
 exact ⟨fun h=>⟨h.1,fun m x _ hx=>h.2 m x hx⟩,fun h=>⟨h.1,fun m x hx=>h.2 m x (Bm hx) hx⟩⟩)
instance instKeysOk:DecidablePred J5:=fun l=>decidable_of_iff (l.Pairwise fun a b=>b.key≠[]→a.key≠b.key) (by
 rw [List.pairwise_iff_getElem];unfold J5
 constructor
 ·intro h i j a b hij ha hb;obtain ⟨h1,rfl⟩:=List.getElem?_eq_some_iff.1 ha;obtain ⟨h2,rfl⟩:=List.getElem?_eq_some_iff.1 hb
  exact h i j h1 h2 hij
 intro h i j h1 h2 hij
 exact h i j _ _ hij (List.getElem?_eq_getElem h1) (List.getElem?_eq_getElem h2))
instance instAlone:DecidablePred Fi:=fun x=>by unfold Fi;infer_instance
instance instAloneP:DecidablePred Tt:=fun x=>by unfold Tt;infer_instance
def decOk {β:Type} (A:Tr β→Prop) [DecidablePred A]:(n:Nat)→(x:Tr β)→Decidable (Tr.Ok A n x)
 | 0,_=>isFalse id
 | n+1,x=>by
  have:∀ c,Decidable (Tr.Ok A n c):=decOk A n
  exact inferInstanceAs (Decidable (A x∧∀ c∈x.kids,Tr.Ok A n c))
instance instOk {β:Type} (A:Tr β→Prop) [DecidablePred A] (n:Nat):DecidablePred (Tr.Ok A n):=decOk A n
instance instValid:DecidablePred F6:=fun x=>by unfold F6;infer_instance
instance instValidP:DecidablePred Yx:=fun x=>by unfold Yx;infer_instance
instance instItemOk:DecidablePred Bv:=fun x=>by unfold Bv;infer_instance
end Go.Proofs.YtmmhmcplegpenaaGreatDoor.T
namespace Go.Proofs.YtmmhmcplegpenaaGreatDoor
open Go Go.Y Go.RowKit
def it3 (k:Nat):ItemD:=⟨k,0,[],[]⟩
def en3 (k:Nat):EntD:=⟨it3 k,10,false⟩
def l3:List EntD:=[en3 1,en3 2,en3 3]
open Go Go.Y Go.Proofs
theorem hnl {k:Nat} {a b t:Int} {l:List ItemD} (h:k < 256∧(0≤a∧a≤9)∧(0≤b∧b≤9)∧(0≤t∧t≤9)∧l.length≤9):(⟨k,a,b,t,l⟩:NotD).kind < 256∧Bh .i64 (⟨k,a,b,t,l⟩:NotD).at_∧Bh .i64 (⟨k,a,b,t,l⟩:NotD).count∧Bh .i64 (⟨k,a,b,t,l⟩:NotD).to∧(⟨k,a,b,t,l⟩:NotD).items.length≤9223372036854775807 :=
 ⟨h.1,Cl (by show _≤a;omega) (by show a≤_;omega),Cl (by show _≤b;omega) (by show b≤_;omega),Cl (by show _≤t;omega) (by show t≤_;omega),(by have:=h.2.2.2.2;show l.length≤_;omega)⟩
def ti39:TI:=⟨.array 4 5,4,4,.agg #[.int .u8 0,.int .u8 0,.int .u8 0,.int .u8 0]⟩
theorem Hn:TOK Tryz.prog 39 ti39:=⟨by kernel_rfl,by kernel_rfl,by kernel_rfl⟩
def ti40:TI:=⟨.slice 39,1,24,.slice none 0 0⟩
theorem Qj:TOK Tryz.prog 40 ti40:=⟨by kernel_rfl,by kernel_rfl,by kernel_rfl⟩
def ti42:TI:=⟨.struct [(0,1,40)],1,24,.agg #[.slice none 0 0]⟩
theorem Tv:TOK Tryz.prog 42 ti42:=⟨by kernel_rfl,by kernel_rfl,by kernel_rfl⟩
theorem ent16:Ent Tryz.prog 16:=.mk' Tryz.func16 (by kernel_rfl) (by kernel_rfl)
theorem ent17:Ent Tryz.prog 17:=.mk' Tryz.func17 (by kernel_rfl) (by kernel_rfl)
theorem ent18:Ent Tryz.prog 18:=.mk' Tryz.func18 (by kernel_rfl) (by kernel_rfl)
theorem ent19:Ent Tryz.prog 19:=.mk' Tryz.func19 (by kernel_rfl) (by kernel_rfl)
theorem ent60:Ent Tryz.prog 60:=.mk' Tryz.func60 (by kernel_rfl) (by kernel_rfl)
section
variable {ρ:Operand→Value} {P:Program} {d:Option Tmp} {t:TypeId} {p:String} {af:Array Edge} {g:Option (Nat × Bool)} {w:World}
end
def updZ (v:Nat→Int) (i:Nat) (z:Int):Nat→Int:=fun j=>if j=i then z else v j
structure RdV (k:Nat) (v:Nat→Int) (i:Nat):Prop where
 ink:∀ j,Bh .i64 (v j)
 un:∀ j,j < i→uG k j=0→v j=0
 ze:∀ j,i≤j→v j=0
theorem RdV.start (k:Nat):RdV k (fun _=>0) 0:=⟨fun _=>Cl (n:=0) (by decide) (by decide),fun j h=>by omega,fun _ _=>rfl⟩
theorem RdV.skip {k i:Nat} {v:Nat→Int} (h:RdV k v i):RdV k v (i+1):=⟨h.ink,fun j hj hu=>by
 rcases Nat.lt_succ_iff_lt_or_eq.1 hj with h4 | h4
 ·exact h.un j h4 hu
 exact h.ze j (by omega),fun j hj=>h.ze j (by omega)⟩
theorem RdV.take {k i:Nat} {v:Nat→Int} {z:Int} (h:RdV k v i) (hz:Bh .i64 z) (hu:uG k i=1):RdV k (updZ v i z) (i+1):=⟨fun j=>by unfold updZ;split;exact hz;exact h.ink j,fun j hj hu2=>by
 unfold updZ
 rcases Nat.lt_succ_iff_lt_or_eq.1 hj with h4 | h4
 ·rw [if_neg (by omega)];exact h.un j h4 hu2
 subst h4;omega,fun j hj=>by unfold updZ;rw [if_neg (by omega)];exact h.ze j (by omega)⟩
def Pt:Rd (NotD × Option Value):=fun G cs y=>match y.2 with
 | none=>K1 G cs y.1
 | some v=>cs=[.int .u8 ((y.1.kind:Nat):Int),.int .i64 y.1.at_,.int .i64 y.1.count,.int .i64 y.1.to,v]
theorem Q5:Ie Pt:=by
 rintro G G' cs ⟨x,v⟩ h hr
 cases v with
 | none=>exact He _ _ _ _ h hr
 | some v=>exact hr
def Wj (xs:List NotD):List (NotD × Option Value):=xs.map fun y=>(y,none)
theorem N2 {G:Av}:∀ {xs:List NotD} {cs:List Value},Els K1 5 G cs xs→Els Pt 5 G cs (Wj xs)
 | [],_,h=>h
 | x::xs,cs,⟨c1,r,h1,h2,h3,h4⟩=>⟨c1,r,h1,h2,h3,N2 h4⟩
structure RpA (s c:List UInt8) (G:Av) (no:Nat) (cso:List Value) (line:Nat) (xs:List NotD):Prop where
 els:Els K1 5 G cso xs
 len:no=xs.length
 few:xs.length≤32
 at_:line=nlN xs
 suf:line+c.length≤s.length
 go:∀ r,PR xs c r→PR [] s r
structure RpB (s c:List UInt8) (G:Av) (vi:Value) (ni:Nat) (csi:List Value) (no:Nat) (cso:List Value) (left line:Nat) (xs:List NotD) (x:NotD) (sz:Int) (ys:List ItemD):Prop where
 els:Els Pt 5 G cso (Wj xs++[(x,some vi)])
 its:Els B1 4 G csi ys
 nit:ni=ys.length
 len:no=xs.length+1
 few:xs.length < 32
 hd:Head x sz
 ok:okI ys
 lf:((left:Nat):Int)=sz - ys.length
 pos:0 < left
 at_:line=nlN xs+1+ys.length
 suf:line+c.length≤s.length
 go:∀ r,PR xs (Fl x sz++(Bd ys++c)) r→PR [] s r
theorem RpA.mono {s c:List UInt8} {G G':Av} {no line:Nat} {cso:List Value} {xs:List NotD} (h:RpA s c G no cso line xs) (hG:Gle G G'):RpA s c G' no cso line xs:={ h with els:=h.els.mono He hG }
theorem RpB.mono {s c:List UInt8} {G G':Av} {vi:Value} {ni no left line:Nat} {csi cso:List Value} {xs:List NotD} {x:NotD} {sz:Int} {ys:List ItemD} (h:RpB s c G vi ni csi no cso left line xs x sz ys) (hG:Gle G G'):RpB s c G' vi ni csi no cso left line xs x sz ys:={ h with els:=h.els.mono Q5 hG,its:=h.its.mono Ae hG }
def RpS (s c:List UInt8) (G:Av) (vi:Value) (ni:Nat) (csi:List Value) (no:Nat) (cso:List Value) (left line:Nat):Prop :=
 (left=0∧∃ xs,RpA s c G no cso line xs)∨∃ xs x sz ys,RpB s c G vi ni csi no cso left line xs x sz ys
theorem RpS.mono {s c:List UInt8} {G G':Av} {vi:Value} {ni no left line:Nat} {csi cso:List Value} (h:RpS s c G vi ni csi no cso left line) (hG:Gle G G'):RpS s c G' vi ni csi no cso left line:=by
 rcases h with ⟨h1,xs,h⟩ | ⟨xs,x,sz,ys,h⟩
 ·exact Or.inl ⟨h1,xs,h.mono hG⟩
 exact Or.inr ⟨xs,x,sz,ys,h.mono hG⟩
section
variable {s c:List UInt8} {G:Av} {vi:Value} {ni no left line:Nat} {csi cso:List Value} {xs:List NotD} {x:NotD} {sz:Int} {ys:List ItemD}
theorem RpA.bad (h:RpA s c G no cso line xs) (hc:c≠[]) (hn:¬ Nq c):PR [] s ([],line+1,5):=h.go _ (by rw [h.at_];exact PR.nohead hc hn)
theorem RpA.full (h:RpA s c G no cso line xs) (hn:Nq c) (hl:xs.length=32):PR [] s ([],line+1,3):=h.go _ (by rw [h.at_];exact PR.full hn hl)
theorem RpA.fin (h:RpA s c G no cso line xs) (hc:c=[]):PR [] s (xs,0,0):=h.go _ (by rw [hc];exact PR.done)
theorem RpB.bad (h:RpB s c G vi ni csi no cso left line xs x sz ys) (hn:¬ Ts c):PR [] s ([],line+1,5) :=
 h.go _ (by rw [h.at_];exact PR.bad h.hd (by have:=h.few;omega) rfl h.ok (by have:=h.lf;have:=h.pos;omega) hn)
theorem RpA.one (h:RpA s c G no cso line xs) {x:NotD} {c':List UInt8} (hh:Head x 0) (hl:xs.length≠32) (hc:c=Fl x 0++c') {cs1:List Value} (e1:Els K1 5 G cs1 [x]) (hlen:line+1+c'.length≤s.length):RpA s c' G (no+1) (cso++cs1) (line+1) (xs++[x]) where
 els:=Els.append h.els e1
 len:=by rw [List.length_append,h.len];rfl
 few:=by have:=h.few;rw [List.length_append,List.length_singleton];omega
 at_:=by rw [Xo,h.at_,hh.it];rfl
 suf:=hlen
 go:=fun r hr=>h.go r (by
  have hx:({ x with items:=[] }:NotD)=x:=by have h1:=hh.it;cases x;simp only at h1;subst h1;rfl
  refine PR.step (ys:=[]) (r:=c') hh hl ?_ (fun y hy=>by cases hy) rfl ?_
  ·rw [hc];rfl
  rw [hx];exact hr)
theorem RpA.first (h:RpA s c G no cso line xs) {x:NotD} {sz:Int} {left:Nat} {c':List UInt8} (hh:Head x sz) (hl:xs.length≠32) (hc:c=Fl x sz++c') {cs1:List Value} (e1:cs1=[.int .u8 ((x.kind:Nat):Int),.int .i64 x.at_,.int .i64 x.count,.int .i64 x.to,vi]) (hlf:((left:Nat):Int)=sz) (hp:0 < left) (hlen:line+1+c'.length≤s.length) :
  RpB s c' G vi 0 [] (no+1) (cso++cs1) left (line+1) xs x sz [] where
 els:=Els.append (N2 h.els) ⟨cs1,[],by simp,by rw [e1];rfl,e1,rfl⟩
 its:=rfl
 nit:=rfl
 len:=by rw [h.len]
 few:=by have:=h.few;omega
 hd:=hh
 ok:=fun y hy=>by cases hy
 lf:=by simp only [List.length_nil];omega
 pos:=hp
 at_:=by rw [h.at_];rfl
 suf:=hlen
 go:=fun r hr=>h.go r (by rw [hc];exact hr)
theorem RpB.go1 (h:RpB s c G vi ni csi no cso left line xs x sz ys) {y:ItemD} {c':List UInt8} (hc:c=Bd [y]++c'):∀ r,PR xs (Fl x sz++(Bd (ys++[y])++c')) r→PR [] s r:=fun r hr=>h.go r (by
 rw [hc,← List.append_assoc (Bd ys),← N5];exact hr)
theorem RpB.ok1 (h:RpB s c G vi ni csi no cso left line xs x sz ys) {y:ItemD} (hy:Bv 8 y∧y.key < 18446744073709551616∧y.typ < 256):okI (ys++[y]):=by
 intro z hz
 rcases List.mem_append.1 hz with hz | hz
 ·exact h.ok z hz
 rw [List.mem_singleton.1 hz];exact hy
theorem RpB.more (h:RpB s c G vi ni csi no cso left line xs x sz ys) {y:ItemD} {c':List UInt8} {vi':Value} {ni':Nat} {csi' cso':List Value} (hc:c=Bd [y]++c') (hy:Bv 8 y∧y.key < 18446744073709551616∧y.typ < 256) (e1:Els B1 4 G csi' (ys++[y])) (hn:ni' = ys.length+1)
  (e2:Els Pt 5 G cso' (Wj xs++[(x,some vi')])) (hl:1 < left) (hlen:line+1+c'.length≤s.length):RpB s c' G vi' ni' csi' no cso' (left - 1) (line+1) xs x sz (ys++[y]) where
 els:=e2
 its:=e1
 nit:=by rw [hn,List.length_append];rfl
 len:=h.len
 few:=h.few
 hd:=h.hd
 ok:=h.ok1 hy
 lf:=by have:=h.lf;rw [List.length_append,List.length_singleton];omega
 pos:=by omega
 at_:=by rw [h.at_,List.length_append];rfl
 suf:=hlen
 go:=h.go1 hc
end
section
variable {P:Program} {w:World} {t:TypeId} {p:String} {af:Array Edge} {ρ:Operand→Value} {dd:Option Tmp} {g:Option (Nat × Bool)}
theorem W6 {x y:Operand} {ty yt:TypeId} {k yk:IntKind} {a b:Int} {n m:Nat} (hx:ρ x=.int k a) (hy:ρ y=.int yk b) (ha:a=(n:Int)) (hb:b=(m:Int)) (hm:m≤k.bits) :
  (execOp ρ ⟨dd,.binOp .shr ty x y yt,t,p,af,g⟩).run P w=.ok (.value (.int k ((n / 2 ^ m:Nat):Int))) w:=by
 subst ha;have:=W5 (P:=P) (w:=w) (t:=t) (p:=p) (af:=af) (dd:=dd) (g:=g) (ty:=ty) (yt:=yt) hx hy hb hm;rw [this,Int.natCast_ediv,Int.natCast_pow];rfl
theorem W7 {x y:Operand} {ty yt:TypeId} {n:Nat} (hx:ρ x=.int .u8 ((n:Nat):Int)) (hy:ρ y=.int .u8 1) (h:n < 256) :
  (execOp ρ ⟨dd,.binOp .and ty x y yt,t,p,af,g⟩).run P w=.ok (.value (.int .u8 ((n % 2:Nat):Int))) w:=by
 have h1:(BitVec.ofInt IntKind.u8.bits ((n:Nat):Int) &&& BitVec.ofInt IntKind.u8.bits 1).toNat=n % 2:=by
  rw [BitVec.toNat_and];simp only [BitVec.toNat_ofInt,IntKind.bits];have e1:(((n:Nat):Int) % ((2 ^ 8:Nat):Int)).toNat=n:=by omega
  rw [e1]
  exact Nat.and_one_is_mod n
 have h2:IntKind.u8.wrap ((n % 2:Nat):Int)=((n % 2:Nat):Int):=I2 (by constructor;show (0:Int)≤_;omega;show _≤(255:Int);omega);simp only [execOp,hx,hy,eqGuard,binOp,Op.intArith,Op.intBits,h1,h2]
 simp [h2]
end
structure Q4 where
 a:Nat
 b:Nat
 c:Nat
 d:Nat
def rdQ4:Rd Q4:=fun _ cs q=>cs=[.int .u8 ((q.a:Nat):Int),.int .u8 ((q.b:Nat):Int),.int .u8 ((q.c:Nat):Int),.int .u8 ((q.d:Nat):Int)]∧q.a < 256∧q.b < 256∧q.c < 256∧q.d < 256
theorem I5:Ie rdQ4:=fun _ _ _ _ _ h=>h
def TXT:List (List UInt8):=[[],[97],[114,111,119],[116,119,111,32,119,111,114,100,115],[32,32],[126,33,45,44],[97,32,108,111,110,103,101,114,32,116,101,120,116,32,111,102,32,116,104,105,115,32,107,105,110,100],[57]]
def MKS:List (List UInt8):=[[97],[98,50],[107,101,121]]
def Du (i:Nat):List UInt8:=TXT.getD i []
def mkT (i:Nat):List UInt8:=MKS.getD i []
theorem Ws {i:Nat} (h:i < 8):TXT[i]?=some (Du i):=by
 rcases (show i=0∨i=1∨i=2∨i=3∨i=4∨i=5∨i=6∨i=7 by omega) with rfl | rfl | rfl | rfl | rfl | rfl | rfl | rfl <;> rfl
theorem mk_at {i:Nat} (h:i < 3):MKS[i]?=some (mkT i):=by
 rcases (show i=0∨i=1∨i=2 by omega) with rfl | rfl | rfl <;> rfl
theorem txt_ok {i:Nat} (h:i < 8):Str (Du i):=by
 rcases (show i=0∨i=1∨i=2∨i=3∨i=4∨i=5∨i=6∨i=7 by omega) with rfl | rfl | rfl | rfl | rfl | rfl | rfl | rfl <;> decide
theorem P3 {i:Nat} (h:i < 3):Cb (mkT i):=by
 rcases (show i=0∨i=1∨i=2 by omega) with rfl | rfl | rfl <;> decide
def mkU (d:Nat):Nat→List (List UInt8)
 | 0=>[]
 | i+1=>mkU d i++(if d / 2 ^ i % 2=0 then [] else [mkT ((i+d / 8) % 3)])
theorem P1 {d i:Nat} (h:d / 2 ^ i % 2=0):mkU d (i+1)=mkU d i:=by rw [mkU,if_pos h,List.append_nil]
theorem Hf {d i:Nat} (h:¬ d / 2 ^ i % 2=0):mkU d (i+1)=mkU d i++[mkT ((i+d / 8) % 3)]:=by rw [mkU,if_neg h]
theorem P2 (d:Nat):∀ i,(mkU d i).length≤i
 | 0=>Nat.le_refl _
 | i+1=>by
  have:=P2 d i
  by_cases h:d / 2 ^ i % 2=0
  ·rw [P1 h];omega
  ·rw [Hf h,List.length_append];simp only [List.length_cons,List.length_nil];omega
theorem P0 (d:Nat):∀ i,∀ s∈mkU d i,Cb s
 | 0,s,h=>by cases h
 | i+1,s,hs=>by
  by_cases h:d / 2 ^ i % 2=0
  ·rw [P1 h] at hs;exact P0 d i s hs
  ·rw [Hf h] at hs
   rcases List.mem_append.1 hs with hs | hs
   ·exact P0 d i s hs
   ·rw [List.mem_singleton.1 hs];exact P3 (Nat.mod_lt _ (by decide))
def mkA (d:Nat):List (List UInt8):=if 240≤d then mkU d 3++[[97],[97]] else mkU d 3
theorem mkA_len (d:Nat):(mkA d).length≤5:=by
 have:=P2 d 3;unfold mkA;split
 ·rw [List.length_append];simp only [List.length_cons,List.length_nil];omega
 omega
def Dd (q:Q4):ItemD:=⟨1+q.a % 60,q.b % 3,Du (q.c % 8),mkA q.d⟩
theorem one_ok (q:Q4):Bv 3 (Dd q):=by
 refine ⟨?_,?_,txt_ok (Nat.mod_lt _ (by decide)),?_,?_⟩
 ·show 1+q.a % 60≠0;omega
 ·show ((q.b % 3:Nat):Int) < 3;omega
 ·have:=mkA_len q.d;show (mkA q.d).length≤8;omega
 show ∀ s∈mkA q.d,Cb s
 intro s hs;unfold mkA at hs
 split at hs
 ·rcases List.mem_append.1 hs with hs | hs
  ·exact P0 _ _ _ hs
  simp only [List.mem_cons,List.not_mem_nil,or_false,or_self] at hs;rw [hs];decide
 exact P0 _ _ _ hs
open Classical in
noncomputable def Tq (out:List ItemD) (x:ItemD):List ItemD:=if hasI out x.key then out else out++[x]
theorem Up {out:List ItemD} {x:ItemD} (h:hasI out x.key):Tq out x=out:=by unfold Tq;rw [if_pos h]
theorem Uo {out:List ItemD} {x:ItemD} (h:¬ hasI out x.key):Tq out x=out++[x]:=by unfold Tq;rw [if_neg h]
noncomputable def ofI (qs:List Q4):Nat→List ItemD
 | 0=>[]
 | i+1=>match qs[i]? with
  | some q=>Tq (ofI qs i) (Dd q)
  | none=>ofI qs i
theorem Kj {qs:List Q4} {i:Nat} {q:Q4} (h:qs[i]?=some q):ofI qs (i+1)=Tq (ofI qs i) (Dd q):=by rw [ofI,h]
theorem T4 (qs:List Q4):∀ i,(ofI qs i).length≤i
 | 0=>Nat.le_refl _
 | i+1=>by
  have:=T4 qs i;rw [ofI]
  split
  ·unfold Tq;split
   ·omega
   ·rw [List.length_append];simp only [List.length_cons,List.length_nil];omega
  ·omega
end Go.Proofs.YtmmhmcplegpenaaGreatDoor
