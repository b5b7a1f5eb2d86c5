/- The walks, part LD. · Any number of owned things lent for a while, and taken back. · The walks, part Z. · Lists: lists in new memory, entry by entry; what 'do' hands back. -/
import Derived.Test.YtmmhmcplegpenaaGreatDoorJ9
import Derived.Test.YtmmhmcplegpenaaGreatDoorJ7
import Derived.Test.YtmmhmcplegpenaaGreatDoorJ8
set_option linter.unusedSimpArgs false
set_option linter.unusedVariables false
namespace Go.Proofs.YtmmhmcplegpenaaGreatDoor
open Go Go.Y Go.Proofs
variable {w0 w:World} {G:A4} {L:List Res}
theorem Zp (M:Mem w0 G L w) {a1:Option Addr} {c1:Nat} {l:List EntD} (S:Au Ca 6 G (.slice a1 l.length c1) l) {z n:Int} (hl2:l.length≤1024):Calls Tryz.prog 71 #[.slice a1 l.length c1,.int .i64 z,.int .i64 n] w (Ret w0 G L fun G' v=>∃ (a:Option Addr) (cc:Nat),v=.tuple #[.slice a (Ic l z n).1.length cc,.int .i64 (Ic l z n).2]∧Au Ca 6 G' (.slice a (Ic l z n).1.length cc) (Ic l z n).1):=by
 have bS:=S.bound;refine Ay (vs:=[_,_,_]) Tryz.func71 rfl (n:=40) rfl rfl<|Ac<|Ab rfl<|Ab rfl<|Ag<|Ac<|Aa rfl<|Aa rfl<|Aa rfl<|B8 Br.k rfl<|Bs Yo rfl rfl (Kp (z:=z) (n:=n) (m:=((l.length:Nat):Int)) M (by omega))<|?_;clear M;rintro _ w M rfl
 refine C3 rfl rfl<|Ap rfl ?_ ?_
 ·intro h1b;have h1:=dT h1b;refine Ac<|Ab rfl<|Ab rfl<|Ae<|D6 rfl rfl rfl<|?_
  exact ⟨_,(Gle.refl _),M.weaken (sR _),none,0,by rw [Aew (Gx.1 (by assumption))];rfl,by rw [Aew (Gx.1 (by assumption))];exact Au.nil⟩
 intro h2b;have h2:=dF h2b;refine Aq<|Ag<|?_
 have hin:Bd z n ((l.length:Nat):Int):=Classical.byContradiction fun h_=>absurd (Gx.2 h_) (by assumption);have hin2:=hin;unfold Bd at hin2;obtain ⟨p,rfl⟩:=Int.eq_ofNat_of_zero_le (show 0≤z by omega);obtain ⟨u,rfl⟩:=Int.eq_ofNat_of_zero_le (show 0≤n by omega);refine Az<|Ab rfl<|Ag<|Ac<|Ab rfl<|Ax<|?_
 have M:=M.nilrow 69 6;change Mem w0 G (.row (.slice none 0 0) 0 ([]) 69 6::L) _ at M;intro a F;refine Bz (fun m a' w'=>∃ (i:Nat),∃ (ar:Option Addr),∃ (nr:Nat),∃ (cr:Nat),∃ (csr:List Value),m=l.length - i∧Fits 40 a' [(0,.slice a1 l.length c1),(1,.int .i64 ((p:Nat):Int)),(2,.int .i64 ((u:Nat):Int)),(8,.slice ar nr cr),(9,.int .i64 ((i:Nat):Int))]∧Mem w0 G (.row (.slice ar nr cr) (nr) (csr) 69 6::L) w'∧(i≤l.length)∧(Els Ca 6 G csr (Tg l p u i))∧(nr≤i)) _ ⟨0,none,0,0,[],rfl,F.to ⟨rfl,rfl,rfl,rfl,rfl,trivial⟩,M,by omega,by rw [Aht];exact Els.nil,by omega⟩ ?_;clear F M;rintro m a w ⟨i,ar,nr,cr,csr,rfl,F,M,hi,Er,hnr⟩;revert a;refine Ag<|Ac<|Aa rfl<|Aa rfl<|B8 Br.k rfl<|C2 rfl rfl<|Ap rfl ?_ ?_
 ·intro h3b;have h3:=dT h3b;refine Aq<|Ag<|Ax<|Ac<|Aa rfl<|Aa rfl<|C2 rfl rfl<|Aa rfl<|?_
  rcases bE (decide (((i:Nat):Int) < ((p:Nat):Int))) with h4b | h9b
  ·skip
   have h4:=dT h4b;refine g_f rfl h4b<|g_f rfl h4b<|g_f rfl h4b<|g_f rfl h4b<|g_f rfl h4b<|Bh rfl h4b rfl<|Bl rfl rfl<|Az<|Aa rfl<|Aa rfl<|Aa rfl<|?_
   obtain ⟨Xe5,hXe5⟩:=A2 (xs:=l) (i:=i) (by omega);obtain ⟨be5,oe5,_,Ie5,_,Ae5,hTe5⟩:=S.at hXe5;obtain ⟨c1e5,hcse5,hPe5,hBe5⟩:=hTe5;obtain ⟨mae5,mce5,rfl,hke5,hte5,hxe5,hne5,SMe5⟩:=hPe5;subst hcse5;have hIe5:(Xe5.item.key < 18446744073709551616∧Xe5.item.typ < 256∧Xe5.item.text.length≤9223372036854775807):=⟨hke5,hte5,hxe5⟩;have hQe5:-9223372036854775808≤Xe5.size∧Xe5.size≤9223372036854775807:=hBe5;refine D0 Br.k Bu Ie5 rfl rfl<|Ar (fun a F=>Af Bu rfl (F.ev rfl) (cs:=[.int .u64 ((Xe5.item.key:Nat):Int),.int .u8 ((Xe5.item.typ:Nat):Int),.string (str Xe5.item.text),.slice mae5 Xe5.item.marks.length mce5,.int .i64 Xe5.size,.bool Xe5.known]) rfl (M.cellsA Ae5 0 (by omega) rfl)) rfl<|fun a F=>?_
   refine Bk F M Br.k Bu rfl rfl (cs:=[.int .u64 ((Xe5.item.key:Nat):Int),.int .u8 ((Xe5.item.typ:Nat):Int),.string (str Xe5.item.text),.slice mae5 Xe5.item.marks.length mce5,.int .i64 Xe5.size,.bool Xe5.known]) rfl rfl (by simp [Value.oneCell']) (by decide) rfl ?_;clear F M a;intro v6 w a M F;obtain ⟨av6,cv6,rfl,hlev6,hcmv6,hlv6⟩:=M.row_shape (k:=0) rfl;have Eb7:Els Ca 6 G [.int .u64 ((Xe5.item.key:Nat):Int),.int .u8 ((Xe5.item.typ:Nat):Int),.string (str Xe5.item.text),.slice mae5 Xe5.item.marks.length mce5,.int .i64 Xe5.size,.bool Xe5.known] [Xe5]:=⟨[.int .u64 ((Xe5.item.key:Nat):Int),.int .u8 ((Xe5.item.typ:Nat):Int),.string (str Xe5.item.text),.slice mae5 Xe5.item.marks.length mce5,.int .i64 Xe5.size,.bool Xe5.known],[],rfl,rfl,⟨[.int .u64 ((Xe5.item.key:Nat):Int),.int .u8 ((Xe5.item.typ:Nat):Int),.string (str Xe5.item.text),.slice mae5 Xe5.item.marks.length mce5],rfl,⟨mae5,mce5,rfl,hke5,hte5,hxe5,hne5,SMe5⟩,hBe5⟩,rfl⟩;refine Ci F M (k:=1) (k2:=0) rfl rfl Br.k Bu rfl rfl (by decide) rfl rfl (by show _ * 72≤_;(try simp only [List.length_drop,List.length_take,List.length_append,List.length_cons,List.length_nil]);omega) (by (try simp only [List.length_drop,List.length_take,List.length_append,List.length_cons,List.length_nil]);omega) rfl ?_;clear F M a;intro v8 w a M F;have Ev8:=Els.append Er Eb7;obtain ⟨av8,cv8,rfl,hlev8,hcmv8,hlv8⟩:=M.row_shape (k:=1) rfl;revert a;refine Ab rfl<|Az<|Aa rfl<|Bx rfl rfl<|Ab rfl<|Bc<|Cm<|fun a F=>?_
   exact ⟨_,by omega,i+1,(av8),(nr+1),(cv8),csr++([.int .u64 ((Xe5.item.key:Nat):Int),.int .u8 ((Xe5.item.typ:Nat):Int),.string (str Xe5.item.text),.slice mae5 Xe5.item.marks.length mce5,.int .i64 Xe5.size,.bool Xe5.known]),rfl,F.to ⟨rfl,rfl,rfl,rfl,rfl,trivial⟩,(M.weaken (cN (cC (sR _)))),by omega,by have h_:=Ev8;rwa [Aex hXe5 (by omega)] at h_,by omega⟩
  have h9:=dF h9b;refine g_t rfl h9b<|Aa rfl<|g_t rfl h9b<|Aa rfl<|g_t rfl h9b<|Aa rfl<|g_t rfl h9b<|Bx rfl rfl<|g_t rfl h9b<|Kv rfl rfl<|Be rfl h9b rfl<|Ap rfl ?_ ?_
  ·intro h10b;have h10:=dT h10b;refine Az<|Aa rfl<|Aa rfl<|Aa rfl<|?_
   obtain ⟨Xe11,hXe11⟩:=A2 (xs:=l) (i:=i) (by omega);obtain ⟨be11,oe11,_,Ie11,_,Ae11,hTe11⟩:=S.at hXe11;obtain ⟨c1e11,hcse11,hPe11,hBe11⟩:=hTe11;obtain ⟨mae11,mce11,rfl,hke11,hte11,hxe11,hne11,SMe11⟩:=hPe11;subst hcse11;have hIe11:(Xe11.item.key < 18446744073709551616∧Xe11.item.typ < 256∧Xe11.item.text.length≤9223372036854775807):=⟨hke11,hte11,hxe11⟩;have hQe11:-9223372036854775808≤Xe11.size∧Xe11.size≤9223372036854775807:=hBe11;refine D0 Br.k Bu Ie11 rfl rfl<|Ar (fun a F=>Af Bu rfl (F.ev rfl) (cs:=[.int .u64 ((Xe11.item.key:Nat):Int),.int .u8 ((Xe11.item.typ:Nat):Int),.string (str Xe11.item.text),.slice mae11 Xe11.item.marks.length mce11,.int .i64 Xe11.size,.bool Xe11.known]) rfl (M.cellsA Ae11 0 (by omega) rfl)) rfl<|fun a F=>?_
   refine Bk F M Br.k Bu rfl rfl (cs:=[.int .u64 ((Xe11.item.key:Nat):Int),.int .u8 ((Xe11.item.typ:Nat):Int),.string (str Xe11.item.text),.slice mae11 Xe11.item.marks.length mce11,.int .i64 Xe11.size,.bool Xe11.known]) rfl rfl (by simp [Value.oneCell']) (by decide) rfl ?_;clear F M a;intro v12 w a M F;obtain ⟨av12,cv12,rfl,hlev12,hcmv12,hlv12⟩:=M.row_shape (k:=0) rfl;have Eb13:Els Ca 6 G [.int .u64 ((Xe11.item.key:Nat):Int),.int .u8 ((Xe11.item.typ:Nat):Int),.string (str Xe11.item.text),.slice mae11 Xe11.item.marks.length mce11,.int .i64 Xe11.size,.bool Xe11.known] [Xe11]:=⟨[.int .u64 ((Xe11.item.key:Nat):Int),.int .u8 ((Xe11.item.typ:Nat):Int),.string (str Xe11.item.text),.slice mae11 Xe11.item.marks.length mce11,.int .i64 Xe11.size,.bool Xe11.known],[],rfl,rfl,⟨[.int .u64 ((Xe11.item.key:Nat):Int),.int .u8 ((Xe11.item.typ:Nat):Int),.string (str Xe11.item.text),.slice mae11 Xe11.item.marks.length mce11],rfl,⟨mae11,mce11,rfl,hke11,hte11,hxe11,hne11,SMe11⟩,hBe11⟩,rfl⟩;refine Ci F M (k:=1) (k2:=0) rfl rfl Br.k Bu rfl rfl (by decide) rfl rfl (by show _ * 72≤_;(try simp only [List.length_drop,List.length_take,List.length_append,List.length_cons,List.length_nil]);omega) (by (try simp only [List.length_drop,List.length_take,List.length_append,List.length_cons,List.length_nil]);omega) rfl ?_;clear F M a;intro v14 w a M F;have Ev14:=Els.append Er Eb13;obtain ⟨av14,cv14,rfl,hlev14,hcmv14,hlv14⟩:=M.row_shape (k:=1) rfl;revert a;refine Ab rfl<|Az<|Aa rfl<|Bx rfl rfl<|Ab rfl<|Bc<|Cm<|fun a F=>?_
   exact ⟨_,by omega,i+1,(av14),(nr+1),(cv14),csr++([.int .u64 ((Xe11.item.key:Nat):Int),.int .u8 ((Xe11.item.typ:Nat):Int),.string (str Xe11.item.text),.slice mae11 Xe11.item.marks.length mce11,.int .i64 Xe11.size,.bool Xe11.known]),rfl,F.to ⟨rfl,rfl,rfl,rfl,rfl,trivial⟩,(M.weaken (cN (cC (sR _)))),by omega,by have h_:=Ev14;rwa [Aex hXe11 (by omega)] at h_,by omega⟩
  intro h15b;have h15:=dF h15b;refine Aq<|Az<|Aa rfl<|Bx rfl rfl<|Ab rfl<|Bc<|Cm<|fun a F=>?_
  exact ⟨_,by omega,i+1,(ar),(nr),(cr),csr,rfl,F.to ⟨rfl,rfl,rfl,rfl,rfl,trivial⟩,M,by omega,by have h_:=Er;obtain ⟨X_,hX_⟩:=A2 (xs:=l) (i:=i) (by omega);rwa [Aku hX_ (by omega) (by omega)] at h_,by omega⟩
 intro h16b;have h16:=dF h16b;refine B5<|Bw<|Bw<|Dj<|Ag<|fun a F=>?_
 rw [Akv (by omega)] at Er;obtain ⟨hnz17,Gz17,az17,cz17,hGz17,hez17,Sz17,M⟩:=M.freeze_row Am (k:=0) rfl Er (by decide);clear hez17 az17 cz17;replace S:=S.mono Am hGz17;rw [hnz17] at F Sz17;revert a;refine Az<|Aa rfl<|Ab rfl<|Ab rfl<|Ae<|D6 rfl rfl rfl<|?_
 exact ⟨_,hGz17,M.weaken (sR _),ar,cr,by rw [Vw hin,Int.toNat_natCast,Int.toNat_natCast],by rw [Vw hin,Int.toNat_natCast,Int.toNat_natCast];exact Sz17⟩
theorem mv_snoc {l:List EntD} {p m k:Nat} {x:EntD} (h:l[p+k]?=some x) (hk:k < m):((l.drop p).take m).take k++[x]=((l.drop p).take m).take (k+1):=by
 rw [List.take_add_one,List.getElem?_take,if_pos hk,List.getElem?_drop,h];rfl
theorem Aln (M:Mem w0 G L w) {a1:Option Addr} {c1:Nat} {l:List EntD} (S:Au Ca 6 G (.slice a1 l.length c1) l) {z n b:Int} (hl2:l.length≤1024):Calls Tryz.prog 72 #[.slice a1 l.length c1,.int .i64 z,.int .i64 n,.int .i64 b] w (Ret w0 G L fun G' v=>∃ (a:Option Addr) (cc:Nat),v=.tuple #[.slice a (Gr l z n b).1.length cc,.int .i64 (Gr l z n b).2]∧Au Ca 6 G' (.slice a (Gr l z n b).1.length cc) (Gr l z n b).1):=by
 have bS:=S.bound;refine Ay (vs:=[_,_,_,_]) Tryz.func72 rfl (n:=74) rfl rfl<|Ac<|Ab rfl<|Ab rfl<|Ag<|Ag<|fun a F=>Mb (fun a' w'=>∃ (bb:Bool),Fits 74 a' [(0,.slice a1 l.length c1),(1,.int .i64 z),(2,.int .i64 n),(3,.int .i64 b),(29,.bool bb)]∧Mem w0 G (L) w'∧(bb=true↔¬ (Bd z n ((l.length:Nat):Int)∧Bd b 0 (((l.length:Nat):Int) - n)))) ?_ ?_
 ·skip
  revert a;refine Az<|Aa rfl<|Aa rfl<|Aa rfl<|B8 Br.k rfl<|Bs Yo rfl rfl (Kp (z:=z) (n:=n) (m:=((l.length:Nat):Int)) M (by omega))<|?_;clear M;rintro _ w M rfl
  refine C3 rfl rfl<|Aa rfl<|?_
  rcases bE (decide ((if Bd z n ((l.length:Nat):Int) then (1:Int) else 0)=0)) with h1b | h2b
  ·skip
   have h1:=dT h1b;refine g_f rfl h1b<|g_f rfl h1b<|g_f rfl h1b<|g_f rfl h1b<|g_f rfl h1b<|g_f rfl h1b<|g_f rfl h1b<|Bh rfl h1b rfl<|Bc<|fun a F=>?_
   exact ⟨true,F.to ⟨rfl,rfl,rfl,rfl,rfl,trivial⟩,M,by simp only [decide_eq_true_eq,Gx] at *;clear F M;first | (simp only [true_iff];exact fun h_=>absurd h_.1 (by assumption)) | grind⟩
  have h2:=dF h2b;have hin1:Bd z n ((l.length:Nat):Int):=Classical.byContradiction fun h_=>absurd (Gx.2 h_) (by assumption);unfold Bd at hin1;refine g_t rfl h2b<|Aa rfl<|g_t rfl h2b<|Aa rfl<|g_t rfl h2b<|B8 Br.k rfl<|g_t rfl h2b<|Aa rfl<|g_t rfl h2b<|Q4 rfl rfl<|g_t rfl h2b<|Bs Yo rfl rfl (Kp (z:=b) (n:=0) (m:=((l.length:Nat):Int) - n) M (by omega))<|?_;clear M;rintro _ w M rfl
  refine g_t rfl h2b<|C3 rfl rfl<|Be rfl h2b rfl<|Bc<|fun a F=>?_
  exact ⟨(decide ((if Bd b 0 (((l.length:Nat):Int) - n) then (1:Int) else 0)=0)),F.to ⟨rfl,rfl,rfl,rfl,rfl,trivial⟩,M,by simp only [decide_eq_true_eq,Gx] at *;clear F M;first | (simp only [true_iff];exact fun h_=>absurd h_.1 (by assumption)) | grind⟩
 clear F M;rintro a w ⟨bb,F,M,hbb⟩;revert a;refine Ap rfl ?_ ?_
 ·intro h3b;have h3:(bb)=true:=h3b;refine Ac<|Ab rfl<|Ab rfl<|Ae<|D6 rfl rfl rfl<|?_
  exact ⟨_,(Gle.refl _),M.weaken (sR _),none,0,by rw [Afi (hbb.1 (by assumption))];rfl,by rw [Afi (hbb.1 (by assumption))];exact Au.nil⟩
 intro h4b;have h4:(bb)=false:=h4b;refine Aq<|Ag<|?_
 have hin:Bd z n ((l.length:Nat):Int)∧Bd b 0 (((l.length:Nat):Int) - n):=Classical.byContradiction fun h_=>by have:=hbb.2 h_;simp_all
 have hin2:=hin;unfold Bd at hin2;obtain ⟨p,rfl⟩:=Int.eq_ofNat_of_zero_le (show 0≤z by omega);obtain ⟨u,rfl⟩:=Int.eq_ofNat_of_zero_le (show 0≤n by omega);obtain ⟨q,rfl⟩:=Int.eq_ofNat_of_zero_le (show 0≤b by omega);refine Az<|Aa rfl<|Aa rfl<|Aa rfl<|Ge ent71 rfl rfl (Zp (l:=l) (z:=((p:Nat):Int)) (n:=((u:Nat):Int)) M S (by omega))<|?_;clear M;rintro _ Gq5 w hGq5 M ⟨aq5,cq5,rfl,Sq5⟩
 replace S:=S.mono Am hGq5;refine Aa rfl<|Df rfl rfl<|Df rfl rfl<|Ab rfl<|Ab rfl<|Ag<|fun a F=>?_
 rw [Vw hin.1,Int.toNat_natCast,Int.toNat_natCast] at F Sq5;have hml:=K7 (l:=l) (p:=p) (n:=u) (by omega);revert a;refine Az<|Ab rfl<|Ag<|Ac<|Ab rfl<|Ax<|?_
 have M:=M.nilrow 69 6;change Mem w0 Gq5 (.row (.slice none 0 0) 0 ([]) 69 6::L) _ at M;intro a F;refine Bz (fun m a' w'=>∃ (i:Nat),∃ (ar:Option Addr),∃ (nr:Nat),∃ (cr:Nat),∃ (csr:List Value),m=(Dd l p u []).length+1 - i∧Fits 74 a' [(0,.slice a1 l.length c1),(1,.int .i64 ((p:Nat):Int)),(2,.int .i64 ((u:Nat):Int)),(3,.int .i64 ((q:Nat):Int)),(10,.slice aq5 ((Dd l p u []).length) (cq5)),(12,.slice ar nr cr),(13,.int .i64 ((i:Nat):Int))]∧Mem w0 Gq5 (.row (.slice ar nr cr) (nr) (csr) 69 6::L) w'∧(i≤(Dd l p u []).length+1)∧(Els Ca 6 Gq5 csr (Kc (Dd l p u []) q ((l.drop p).take u) i))∧((i≤q∧nr≤i)∨(q < i∧nr≤i+u))) _ ⟨0,none,0,0,[],rfl,F.to ⟨rfl,rfl,rfl,rfl,rfl,rfl,rfl,trivial⟩,M,by omega,by rw [Wp];exact Els.nil,by omega⟩ ?_;clear F M;rintro m a w ⟨i,ar,nr,cr,csr,rfl,F,M,hi,Er,hnr⟩;revert a;refine Ag<|Ac<|Aa rfl<|Aa rfl<|B8 Br.k rfl<|Jk rfl rfl<|Ap rfl ?_ ?_
 ·intro h6b;have h6:=dT h6b;refine Aq<|Ag<|Ax<|Ag<|Ac<|Ab rfl<|Ax<|?_
  have Ek0:Els Ca 6 Gq5 csr ((Kc (Dd l p u []) q ((l.drop p).take u) i)++((l.drop p).take u).take 0):=by rw [List.take_zero,List.append_nil];exact Er
  intro a F;refine Bz (fun m a' w'=>∃ (k:Nat),∃ (ak:Option Addr),∃ (nk:Nat),∃ (ck:Nat),∃ (csk:List Value),m=u - k∧Fits 74 a' [(0,.slice a1 l.length c1),(1,.int .i64 ((p:Nat):Int)),(2,.int .i64 ((u:Nat):Int)),(3,.int .i64 ((q:Nat):Int)),(10,.slice aq5 ((Dd l p u []).length) (cq5)),(13,.int .i64 ((i:Nat):Int)),(12,.slice ak nk ck),(14,.int .i64 ((k:Nat):Int))]∧Mem w0 Gq5 (.row (.slice ak nk ck) (nk) (csk) 69 6::L) w'∧(k≤u)∧(Els Ca 6 Gq5 csk ((Kc (Dd l p u []) q ((l.drop p).take u) i)++((l.drop p).take u).take k))∧(nk≤nr+k)∧(k=0∨i=q)) _ ⟨0,ar,nr,cr,csr,rfl,F.to ⟨rfl,rfl,rfl,rfl,rfl,rfl,rfl,rfl,trivial⟩,M,by omega,Ek0,by omega,by omega⟩ ?_;clear F M;rintro m a w ⟨k,ak,nk,ck,csk,rfl,F,M,hk,Ek,hnk,hk0⟩;revert a;refine Ag<|Ac<|Aa rfl<|Aa rfl<|C3 rfl rfl<|Aa rfl<|?_
  rcases bE (decide (((i:Nat):Int)=((q:Nat):Int))) with h7b | h26b
  ·skip
   have h7:=dT h7b;refine g_t rfl h7b<|Aa rfl<|g_t rfl h7b<|Aa rfl<|g_t rfl h7b<|C2 rfl rfl<|Bh rfl h7b rfl<|Ap rfl ?_ ?_
   ·intro h8b;have h8:=dT h8b;refine Aq<|Ag<|Ax<|Az<|Aa rfl<|Aa rfl<|Aa rfl<|Aa rfl<|Bx rfl rfl<|?_
    obtain ⟨Xe9,hXe9⟩:=A2 (xs:=l) (i:=p+k) (by omega);obtain ⟨be9,oe9,_,Ie9,_,Ae9,hTe9⟩:=S.at hXe9;obtain ⟨c1e9,hcse9,hPe9,hBe9⟩:=hTe9;obtain ⟨mae9,mce9,rfl,hke9,hte9,hxe9,hne9,SMe9⟩:=hPe9;subst hcse9;have hIe9:(Xe9.item.key < 18446744073709551616∧Xe9.item.typ < 256∧Xe9.item.text.length≤9223372036854775807):=⟨hke9,hte9,hxe9⟩;have hQe9:-9223372036854775808≤Xe9.size∧Xe9.size≤9223372036854775807:=hBe9;refine D0 Br.k Bu Ie9 rfl rfl<|Ar (fun a F=>Af Bu rfl (F.ev rfl) (cs:=[.int .u64 ((Xe9.item.key:Nat):Int),.int .u8 ((Xe9.item.typ:Nat):Int),.string (str Xe9.item.text),.slice mae9 Xe9.item.marks.length mce9,.int .i64 Xe9.size,.bool Xe9.known]) rfl (M.cellsA Ae9 0 (by omega) rfl)) rfl<|fun a F=>?_
    refine Bk F M Br.k Bu rfl rfl (cs:=[.int .u64 ((Xe9.item.key:Nat):Int),.int .u8 ((Xe9.item.typ:Nat):Int),.string (str Xe9.item.text),.slice mae9 Xe9.item.marks.length mce9,.int .i64 Xe9.size,.bool Xe9.known]) rfl rfl (by simp [Value.oneCell']) (by decide) rfl ?_;clear F M a;intro v10 w a M F;obtain ⟨av10,cv10,rfl,hlev10,hcmv10,hlv10⟩:=M.row_shape (k:=0) rfl;have Eb11:Els Ca 6 Gq5 [.int .u64 ((Xe9.item.key:Nat):Int),.int .u8 ((Xe9.item.typ:Nat):Int),.string (str Xe9.item.text),.slice mae9 Xe9.item.marks.length mce9,.int .i64 Xe9.size,.bool Xe9.known] [Xe9]:=⟨[.int .u64 ((Xe9.item.key:Nat):Int),.int .u8 ((Xe9.item.typ:Nat):Int),.string (str Xe9.item.text),.slice mae9 Xe9.item.marks.length mce9,.int .i64 Xe9.size,.bool Xe9.known],[],rfl,rfl,⟨[.int .u64 ((Xe9.item.key:Nat):Int),.int .u8 ((Xe9.item.typ:Nat):Int),.string (str Xe9.item.text),.slice mae9 Xe9.item.marks.length mce9],rfl,⟨mae9,mce9,rfl,hke9,hte9,hxe9,hne9,SMe9⟩,hBe9⟩,rfl⟩;refine Ci F M (k:=1) (k2:=0) rfl rfl Br.k Bu rfl rfl (by decide) rfl rfl (by show _ * 72≤_;(try simp only [List.length_drop,List.length_take,List.length_append,List.length_cons,List.length_nil]);omega) (by (try simp only [List.length_drop,List.length_take,List.length_append,List.length_cons,List.length_nil]);omega) rfl ?_;clear F M a;intro v12 w a M F;have Ev12:=Els.append Ek Eb11;obtain ⟨av12,cv12,rfl,hlev12,hcmv12,hlv12⟩:=M.row_shape (k:=1) rfl;revert a;refine Ab rfl<|Az<|Aa rfl<|Bx rfl rfl<|Ab rfl<|Bc<|Cm<|fun a F=>?_
    exact ⟨_,by omega,k+1,(av12),(nk+1),(cv12),csk++([.int .u64 ((Xe9.item.key:Nat):Int),.int .u8 ((Xe9.item.typ:Nat):Int),.string (str Xe9.item.text),.slice mae9 Xe9.item.marks.length mce9,.int .i64 Xe9.size,.bool Xe9.known]),rfl,F.to ⟨rfl,rfl,rfl,rfl,rfl,rfl,rfl,rfl,trivial⟩,(M.weaken (cN (cC (sR _)))),by omega,by have h_:=Ev12;rwa [List.append_assoc,mv_snoc hXe9 (by omega)] at h_,by omega,by omega⟩
   intro h13b;have h13:=dF h13b;refine B5<|Bw<|Bw<|Dj<|Ag<|?_
   rcases (show (i=q∧k=u)∨(¬ i=q∧k=0) by omega) with ⟨hiq,hkm⟩ | ⟨hiq,hkm⟩
   ·skip
    have hkk:((l.drop p).take u).take k=(l.drop p).take u:=List.take_of_length_le (by rw [List.length_take];omega);intro a F;rw [hkk] at Ek;revert a;refine Az<|Aa rfl<|Aa rfl<|B8 Br.k rfl<|C2 rfl rfl<|Ap rfl ?_ ?_
    ·intro h14b;have h14:=dT h14b;refine Az<|Aa rfl<|Aa rfl<|Aa rfl<|?_
     obtain ⟨Xe15,hXe15⟩:=A2 (xs:=(Dd l p u [])) (i:=i) (by omega);obtain ⟨be15,oe15,_,Ie15,_,Ae15,hTe15⟩:=Sq5.at hXe15;obtain ⟨c1e15,hcse15,hPe15,hBe15⟩:=hTe15;obtain ⟨mae15,mce15,rfl,hke15,hte15,hxe15,hne15,SMe15⟩:=hPe15;subst hcse15;have hIe15:(Xe15.item.key < 18446744073709551616∧Xe15.item.typ < 256∧Xe15.item.text.length≤9223372036854775807):=⟨hke15,hte15,hxe15⟩;have hQe15:-9223372036854775808≤Xe15.size∧Xe15.size≤9223372036854775807:=hBe15;refine D0 Br.k Bu Ie15 rfl rfl<|Ar (fun a F=>Af Bu rfl (F.ev rfl) (cs:=[.int .u64 ((Xe15.item.key:Nat):Int),.int .u8 ((Xe15.item.typ:Nat):Int),.string (str Xe15.item.text),.slice mae15 Xe15.item.marks.length mce15,.int .i64 Xe15.size,.bool Xe15.known]) rfl (M.cellsA Ae15 0 (by omega) rfl)) rfl<|fun a F=>?_
     refine Bk F M Br.k Bu rfl rfl (cs:=[.int .u64 ((Xe15.item.key:Nat):Int),.int .u8 ((Xe15.item.typ:Nat):Int),.string (str Xe15.item.text),.slice mae15 Xe15.item.marks.length mce15,.int .i64 Xe15.size,.bool Xe15.known]) rfl rfl (by simp [Value.oneCell']) (by decide) rfl ?_;clear F M a;intro v16 w a M F;obtain ⟨av16,cv16,rfl,hlev16,hcmv16,hlv16⟩:=M.row_shape (k:=0) rfl;have Eb17:Els Ca 6 Gq5 [.int .u64 ((Xe15.item.key:Nat):Int),.int .u8 ((Xe15.item.typ:Nat):Int),.string (str Xe15.item.text),.slice mae15 Xe15.item.marks.length mce15,.int .i64 Xe15.size,.bool Xe15.known] [Xe15]:=⟨[.int .u64 ((Xe15.item.key:Nat):Int),.int .u8 ((Xe15.item.typ:Nat):Int),.string (str Xe15.item.text),.slice mae15 Xe15.item.marks.length mce15,.int .i64 Xe15.size,.bool Xe15.known],[],rfl,rfl,⟨[.int .u64 ((Xe15.item.key:Nat):Int),.int .u8 ((Xe15.item.typ:Nat):Int),.string (str Xe15.item.text),.slice mae15 Xe15.item.marks.length mce15],rfl,⟨mae15,mce15,rfl,hke15,hte15,hxe15,hne15,SMe15⟩,hBe15⟩,rfl⟩;refine Ci F M (k:=1) (k2:=0) rfl rfl Br.k Bu rfl rfl (by decide) rfl rfl (by show _ * 72≤_;(try simp only [List.length_drop,List.length_take,List.length_append,List.length_cons,List.length_nil]);omega) (by (try simp only [List.length_drop,List.length_take,List.length_append,List.length_cons,List.length_nil]);omega) rfl ?_;clear F M a;intro v18 w a M F;have Ev18:=Els.append Ek Eb17;obtain ⟨av18,cv18,rfl,hlev18,hcmv18,hlv18⟩:=M.row_shape (k:=1) rfl;revert a;refine Ab rfl<|Az<|Aa rfl<|Bx rfl rfl<|Ab rfl<|Bc<|Cm<|fun a F=>?_
     exact ⟨_,by omega,i+1,(av18),(nk+1),(cv18),csk++([.int .u64 ((Xe15.item.key:Nat):Int),.int .u8 ((Xe15.item.typ:Nat):Int),.string (str Xe15.item.text),.slice mae15 Xe15.item.marks.length mce15,.int .i64 Xe15.size,.bool Xe15.known]),rfl,F.to ⟨rfl,rfl,rfl,rfl,rfl,rfl,rfl,trivial⟩,(M.weaken (cN (cC (sR _)))),by omega,by have h_:=Ev18;first | rwa [Hx hXe15 (by omega)] at h_ | rwa [Gm hXe15 (by omega)] at h_ | rwa [Ga (by omega) (by omega)] at h_ | rwa [E6 (by omega) (by omega) (by omega)] at h_,by omega⟩
    intro h19b;have h19:=dF h19b;refine Aq<|Az<|Aa rfl<|Bx rfl rfl<|Ab rfl<|Bc<|Cm<|fun a F=>?_
    exact ⟨_,by omega,i+1,(ak),(nk),(ck),csk,rfl,F.to ⟨rfl,rfl,rfl,rfl,rfl,rfl,rfl,trivial⟩,M,by omega,by have h_:=Ek;first | rwa [Hx hX0 (by omega)] at h_ | rwa [Gm hX0 (by omega)] at h_ | rwa [Ga (by omega) (by omega)] at h_ | rwa [E6 (by omega) (by omega) (by omega)] at h_,by omega⟩
   have hkk:((l.drop p).take u).take k=[]:=by rw [hkm];rfl
   intro a F;rw [hkk,List.append_nil] at Ek;revert a;refine Az<|Aa rfl<|Aa rfl<|B8 Br.k rfl<|C2 rfl rfl<|Ap rfl ?_ ?_
   ·intro h20b;have h20:=dT h20b;refine Az<|Aa rfl<|Aa rfl<|Aa rfl<|?_
    obtain ⟨Xe21,hXe21⟩:=A2 (xs:=(Dd l p u [])) (i:=i) (by omega);obtain ⟨be21,oe21,_,Ie21,_,Ae21,hTe21⟩:=Sq5.at hXe21;obtain ⟨c1e21,hcse21,hPe21,hBe21⟩:=hTe21;obtain ⟨mae21,mce21,rfl,hke21,hte21,hxe21,hne21,SMe21⟩:=hPe21;subst hcse21;have hIe21:(Xe21.item.key < 18446744073709551616∧Xe21.item.typ < 256∧Xe21.item.text.length≤9223372036854775807):=⟨hke21,hte21,hxe21⟩;have hQe21:-9223372036854775808≤Xe21.size∧Xe21.size≤9223372036854775807:=hBe21;refine D0 Br.k Bu Ie21 rfl rfl<|Ar (fun a F=>Af Bu rfl (F.ev rfl) (cs:=[.int .u64 ((Xe21.item.key:Nat):Int),.int .u8 ((Xe21.item.typ:Nat):Int),.string (str Xe21.item.text),.slice mae21 Xe21.item.marks.length mce21,.int .i64 Xe21.size,.bool Xe21.known]) rfl (M.cellsA Ae21 0 (by omega) rfl)) rfl<|fun a F=>?_
    refine Bk F M Br.k Bu rfl rfl (cs:=[.int .u64 ((Xe21.item.key:Nat):Int),.int .u8 ((Xe21.item.typ:Nat):Int),.string (str Xe21.item.text),.slice mae21 Xe21.item.marks.length mce21,.int .i64 Xe21.size,.bool Xe21.known]) rfl rfl (by simp [Value.oneCell']) (by decide) rfl ?_;clear F M a;intro v22 w a M F;obtain ⟨av22,cv22,rfl,hlev22,hcmv22,hlv22⟩:=M.row_shape (k:=0) rfl;have Eb23:Els Ca 6 Gq5 [.int .u64 ((Xe21.item.key:Nat):Int),.int .u8 ((Xe21.item.typ:Nat):Int),.string (str Xe21.item.text),.slice mae21 Xe21.item.marks.length mce21,.int .i64 Xe21.size,.bool Xe21.known] [Xe21]:=⟨[.int .u64 ((Xe21.item.key:Nat):Int),.int .u8 ((Xe21.item.typ:Nat):Int),.string (str Xe21.item.text),.slice mae21 Xe21.item.marks.length mce21,.int .i64 Xe21.size,.bool Xe21.known],[],rfl,rfl,⟨[.int .u64 ((Xe21.item.key:Nat):Int),.int .u8 ((Xe21.item.typ:Nat):Int),.string (str Xe21.item.text),.slice mae21 Xe21.item.marks.length mce21],rfl,⟨mae21,mce21,rfl,hke21,hte21,hxe21,hne21,SMe21⟩,hBe21⟩,rfl⟩;refine Ci F M (k:=1) (k2:=0) rfl rfl Br.k Bu rfl rfl (by decide) rfl rfl (by show _ * 72≤_;(try simp only [List.length_drop,List.length_take,List.length_append,List.length_cons,List.length_nil]);omega) (by (try simp only [List.length_drop,List.length_take,List.length_append,List.length_cons,List.length_nil]);omega) rfl ?_;clear F M a;intro v24 w a M F;have Ev24:=Els.append Ek Eb23;obtain ⟨av24,cv24,rfl,hlev24,hcmv24,hlv24⟩:=M.row_shape (k:=1) rfl;revert a;refine Ab rfl<|Az<|Aa rfl<|Bx rfl rfl<|Ab rfl<|Bc<|Cm<|fun a F=>?_
    exact ⟨_,by omega,i+1,(av24),(nk+1),(cv24),csk++([.int .u64 ((Xe21.item.key:Nat):Int),.int .u8 ((Xe21.item.typ:Nat):Int),.string (str Xe21.item.text),.slice mae21 Xe21.item.marks.length mce21,.int .i64 Xe21.size,.bool Xe21.known]),rfl,F.to ⟨rfl,rfl,rfl,rfl,rfl,rfl,rfl,trivial⟩,(M.weaken (cN (cC (sR _)))),by omega,by have h_:=Ev24;first | rwa [Hx hXe21 (by omega)] at h_ | rwa [Gm hXe21 (by omega)] at h_ | rwa [Ga (by omega) (by omega)] at h_ | rwa [E6 (by omega) (by omega) (by omega)] at h_,by omega⟩
   intro h25b;have h25:=dF h25b;refine Aq<|Az<|Aa rfl<|Bx rfl rfl<|Ab rfl<|Bc<|Cm<|fun a F=>?_
   exact ⟨_,by omega,i+1,(ak),(nk),(ck),csk,rfl,F.to ⟨rfl,rfl,rfl,rfl,rfl,rfl,rfl,trivial⟩,M,by omega,by have h_:=Ek;first | rwa [Hx hX0 (by omega)] at h_ | rwa [Gm hX0 (by omega)] at h_ | rwa [Ga (by omega) (by omega)] at h_ | rwa [E6 (by omega) (by omega) (by omega)] at h_,by omega⟩
  have h26:=dF h26b;refine g_f rfl h26b<|g_f rfl h26b<|g_f rfl h26b<|Be rfl h26b rfl<|D4 rfl rfl<|B5<|Bw<|Bw<|Dj<|Ag<|?_
  rcases (show (i=q∧k=u)∨(¬ i=q∧k=0) by omega) with ⟨hiq,hkm⟩ | ⟨hiq,hkm⟩
  ·skip
   have hkk:((l.drop p).take u).take k=(l.drop p).take u:=List.take_of_length_le (by rw [List.length_take];omega);intro a F;rw [hkk] at Ek;revert a;refine Az<|Aa rfl<|Aa rfl<|B8 Br.k rfl<|C2 rfl rfl<|Ap rfl ?_ ?_
   ·intro h27b;have h27:=dT h27b;refine Az<|Aa rfl<|Aa rfl<|Aa rfl<|?_
    obtain ⟨Xe28,hXe28⟩:=A2 (xs:=(Dd l p u [])) (i:=i) (by omega);obtain ⟨be28,oe28,_,Ie28,_,Ae28,hTe28⟩:=Sq5.at hXe28;obtain ⟨c1e28,hcse28,hPe28,hBe28⟩:=hTe28;obtain ⟨mae28,mce28,rfl,hke28,hte28,hxe28,hne28,SMe28⟩:=hPe28;subst hcse28;have hIe28:(Xe28.item.key < 18446744073709551616∧Xe28.item.typ < 256∧Xe28.item.text.length≤9223372036854775807):=⟨hke28,hte28,hxe28⟩;have hQe28:-9223372036854775808≤Xe28.size∧Xe28.size≤9223372036854775807:=hBe28;refine D0 Br.k Bu Ie28 rfl rfl<|Ar (fun a F=>Af Bu rfl (F.ev rfl) (cs:=[.int .u64 ((Xe28.item.key:Nat):Int),.int .u8 ((Xe28.item.typ:Nat):Int),.string (str Xe28.item.text),.slice mae28 Xe28.item.marks.length mce28,.int .i64 Xe28.size,.bool Xe28.known]) rfl (M.cellsA Ae28 0 (by omega) rfl)) rfl<|fun a F=>?_
    refine Bk F M Br.k Bu rfl rfl (cs:=[.int .u64 ((Xe28.item.key:Nat):Int),.int .u8 ((Xe28.item.typ:Nat):Int),.string (str Xe28.item.text),.slice mae28 Xe28.item.marks.length mce28,.int .i64 Xe28.size,.bool Xe28.known]) rfl rfl (by simp [Value.oneCell']) (by decide) rfl ?_;clear F M a;intro v29 w a M F;obtain ⟨av29,cv29,rfl,hlev29,hcmv29,hlv29⟩:=M.row_shape (k:=0) rfl;have Eb30:Els Ca 6 Gq5 [.int .u64 ((Xe28.item.key:Nat):Int),.int .u8 ((Xe28.item.typ:Nat):Int),.string (str Xe28.item.text),.slice mae28 Xe28.item.marks.length mce28,.int .i64 Xe28.size,.bool Xe28.known] [Xe28]:=⟨[.int .u64 ((Xe28.item.key:Nat):Int),.int .u8 ((Xe28.item.typ:Nat):Int),.string (str Xe28.item.text),.slice mae28 Xe28.item.marks.length mce28,.int .i64 Xe28.size,.bool Xe28.known],[],rfl,rfl,⟨[.int .u64 ((Xe28.item.key:Nat):Int),.int .u8 ((Xe28.item.typ:Nat):Int),.string (str Xe28.item.text),.slice mae28 Xe28.item.marks.length mce28],rfl,⟨mae28,mce28,rfl,hke28,hte28,hxe28,hne28,SMe28⟩,hBe28⟩,rfl⟩;refine Ci F M (k:=1) (k2:=0) rfl rfl Br.k Bu rfl rfl (by decide) rfl rfl (by show _ * 72≤_;(try simp only [List.length_drop,List.length_take,List.length_append,List.length_cons,List.length_nil]);omega) (by (try simp only [List.length_drop,List.length_take,List.length_append,List.length_cons,List.length_nil]);omega) rfl ?_;clear F M a;intro v31 w a M F;have Ev31:=Els.append Ek Eb30;obtain ⟨av31,cv31,rfl,hlev31,hcmv31,hlv31⟩:=M.row_shape (k:=1) rfl;revert a;refine Ab rfl<|Az<|Aa rfl<|Bx rfl rfl<|Ab rfl<|Bc<|Cm<|fun a F=>?_
    exact ⟨_,by omega,i+1,(av31),(nk+1),(cv31),csk++([.int .u64 ((Xe28.item.key:Nat):Int),.int .u8 ((Xe28.item.typ:Nat):Int),.string (str Xe28.item.text),.slice mae28 Xe28.item.marks.length mce28,.int .i64 Xe28.size,.bool Xe28.known]),rfl,F.to ⟨rfl,rfl,rfl,rfl,rfl,rfl,rfl,trivial⟩,(M.weaken (cN (cC (sR _)))),by omega,by have h_:=Ev31;first | rwa [Hx hXe28 (by omega)] at h_ | rwa [Gm hXe28 (by omega)] at h_ | rwa [Ga (by omega) (by omega)] at h_ | rwa [E6 (by omega) (by omega) (by omega)] at h_,by omega⟩
   intro h32b;have h32:=dF h32b;refine Aq<|Az<|Aa rfl<|Bx rfl rfl<|Ab rfl<|Bc<|Cm<|fun a F=>?_
   exact ⟨_,by omega,i+1,(ak),(nk),(ck),csk,rfl,F.to ⟨rfl,rfl,rfl,rfl,rfl,rfl,rfl,trivial⟩,M,by omega,by have h_:=Ek;first | rwa [Hx hX0 (by omega)] at h_ | rwa [Gm hX0 (by omega)] at h_ | rwa [Ga (by omega) (by omega)] at h_ | rwa [E6 (by omega) (by omega) (by omega)] at h_,by omega⟩
  have hkk:((l.drop p).take u).take k=[]:=by rw [hkm];rfl
  intro a F;rw [hkk,List.append_nil] at Ek;revert a;refine Az<|Aa rfl<|Aa rfl<|B8 Br.k rfl<|C2 rfl rfl<|Ap rfl ?_ ?_
  ·intro h33b;have h33:=dT h33b;refine Az<|Aa rfl<|Aa rfl<|Aa rfl<|?_
   obtain ⟨Xe34,hXe34⟩:=A2 (xs:=(Dd l p u [])) (i:=i) (by omega);obtain ⟨be34,oe34,_,Ie34,_,Ae34,hTe34⟩:=Sq5.at hXe34;obtain ⟨c1e34,hcse34,hPe34,hBe34⟩:=hTe34;obtain ⟨mae34,mce34,rfl,hke34,hte34,hxe34,hne34,SMe34⟩:=hPe34;subst hcse34;have hIe34:(Xe34.item.key < 18446744073709551616∧Xe34.item.typ < 256∧Xe34.item.text.length≤9223372036854775807):=⟨hke34,hte34,hxe34⟩;have hQe34:-9223372036854775808≤Xe34.size∧Xe34.size≤9223372036854775807:=hBe34;refine D0 Br.k Bu Ie34 rfl rfl<|Ar (fun a F=>Af Bu rfl (F.ev rfl) (cs:=[.int .u64 ((Xe34.item.key:Nat):Int),.int .u8 ((Xe34.item.typ:Nat):Int),.string (str Xe34.item.text),.slice mae34 Xe34.item.marks.length mce34,.int .i64 Xe34.size,.bool Xe34.known]) rfl (M.cellsA Ae34 0 (by omega) rfl)) rfl<|fun a F=>?_
   refine Bk F M Br.k Bu rfl rfl (cs:=[.int .u64 ((Xe34.item.key:Nat):Int),.int .u8 ((Xe34.item.typ:Nat):Int),.string (str Xe34.item.text),.slice mae34 Xe34.item.marks.length mce34,.int .i64 Xe34.size,.bool Xe34.known]) rfl rfl (by simp [Value.oneCell']) (by decide) rfl ?_;clear F M a;intro v35 w a M F;obtain ⟨av35,cv35,rfl,hlev35,hcmv35,hlv35⟩:=M.row_shape (k:=0) rfl;have Eb36:Els Ca 6 Gq5 [.int .u64 ((Xe34.item.key:Nat):Int),.int .u8 ((Xe34.item.typ:Nat):Int),.string (str Xe34.item.text),.slice mae34 Xe34.item.marks.length mce34,.int .i64 Xe34.size,.bool Xe34.known] [Xe34]:=⟨[.int .u64 ((Xe34.item.key:Nat):Int),.int .u8 ((Xe34.item.typ:Nat):Int),.string (str Xe34.item.text),.slice mae34 Xe34.item.marks.length mce34,.int .i64 Xe34.size,.bool Xe34.known],[],rfl,rfl,⟨[.int .u64 ((Xe34.item.key:Nat):Int),.int .u8 ((Xe34.item.typ:Nat):Int),.string (str Xe34.item.text),.slice mae34 Xe34.item.marks.length mce34],rfl,⟨mae34,mce34,rfl,hke34,hte34,hxe34,hne34,SMe34⟩,hBe34⟩,rfl⟩;refine Ci F M (k:=1) (k2:=0) rfl rfl Br.k Bu rfl rfl (by decide) rfl rfl (by show _ * 72≤_;(try simp only [List.length_drop,List.length_take,List.length_append,List.length_cons,List.length_nil]);omega) (by (try simp only [List.length_drop,List.length_take,List.length_append,List.length_cons,List.length_nil]);omega) rfl ?_;clear F M a;intro v37 w a M F;have Ev37:=Els.append Ek Eb36;obtain ⟨av37,cv37,rfl,hlev37,hcmv37,hlv37⟩:=M.row_shape (k:=1) rfl;revert a;refine Ab rfl<|Az<|Aa rfl<|Bx rfl rfl<|Ab rfl<|Bc<|Cm<|fun a F=>?_
   exact ⟨_,by omega,i+1,(av37),(nk+1),(cv37),csk++([.int .u64 ((Xe34.item.key:Nat):Int),.int .u8 ((Xe34.item.typ:Nat):Int),.string (str Xe34.item.text),.slice mae34 Xe34.item.marks.length mce34,.int .i64 Xe34.size,.bool Xe34.known]),rfl,F.to ⟨rfl,rfl,rfl,rfl,rfl,rfl,rfl,trivial⟩,(M.weaken (cN (cC (sR _)))),by omega,by have h_:=Ev37;first | rwa [Hx hXe34 (by omega)] at h_ | rwa [Gm hXe34 (by omega)] at h_ | rwa [Ga (by omega) (by omega)] at h_ | rwa [E6 (by omega) (by omega) (by omega)] at h_,by omega⟩
  intro h38b;have h38:=dF h38b;refine Aq<|Az<|Aa rfl<|Bx rfl rfl<|Ab rfl<|Bc<|Cm<|fun a F=>?_
  exact ⟨_,by omega,i+1,(ak),(nk),(ck),csk,rfl,F.to ⟨rfl,rfl,rfl,rfl,rfl,rfl,rfl,trivial⟩,M,by omega,by have h_:=Ek;first | rwa [Hx hX0 (by omega)] at h_ | rwa [Gm hX0 (by omega)] at h_ | rwa [Ga (by omega) (by omega)] at h_ | rwa [E6 (by omega) (by omega) (by omega)] at h_,by omega⟩
 intro h39b;have h39:=dF h39b;refine B5<|Bw<|Bw<|Dj<|Ag<|fun a F=>?_
 rw [Aao (by omega) (by omega)] at Er;change Els Ca 6 _ _ (Pg l p u q) at Er;obtain ⟨hnz40,Gz40,az40,cz40,hGz40,hez40,Sz40,M⟩:=M.freeze_row Am (k:=0) rfl Er (by decide);clear hez40 az40 cz40;replace S:=S.mono Am hGz40;replace Sq5:=Sq5.mono Am hGz40;rw [hnz40] at F Sz40;revert a;refine Az<|Aa rfl<|Ab rfl<|Ab rfl<|Ae<|D6 rfl rfl rfl<|?_
 exact ⟨_,(hGq5.trans hGz40),M.weaken (sR _),ar,cr,by rw [Afj hin,Int.toNat_natCast,Int.toNat_natCast,Int.toNat_natCast],by rw [Afj hin,Int.toNat_natCast,Int.toNat_natCast,Int.toNat_natCast];exact Sz40⟩
section
variable {c:RulesD} {x:ItemD}
theorem it_6 (h:Ft c x ((0:Int)=1)=6):¬ ItemOk (c.kinds.length:Int) x:=fun h2=>by
 by_cases h3:Hv c x=0
 ·rw [Ko h2 (by decide) h3] at h;cases h
 rw [J6 h2 (by decide) h3] at h;cases h
theorem Nx (h:¬ Ft c x ((0:Int)=1)=6):ItemOk (c.kinds.length:Int) x:=Classical.byContradiction fun h2=>h (Po h2)
theorem Ame (hok:ItemOk (c.kinds.length:Int) x) (h:0 < Ft c x ((0:Int)=1)):Ft c x ((0:Int)=1)=14∧¬ Hv c x=0:=by
 by_cases h3:Hv c x=0
 ·rw [Ko hok (by decide) h3] at h;omega
 exact ⟨J6 hok (by decide) h3,h3⟩
theorem it_0 (hok:ItemOk (c.kinds.length:Int) x) (h:¬ 0 < Ft c x ((0:Int)=1)):Hv c x=0:=(Gj.1 (Adf h)).2.2
theorem I6 {l:List EntD} {q k:Nat} {y:EntD} (h:l[q]?=some y):Oe l q k↔y.item.key≠k:=⟨fun h2=>h2 y h,fun h2 z hz=>by rw [h] at hz;simp only [Option.some.injEq] at hz;subst hz;exact h2⟩
end
theorem fr_at {c:RulesD} {xs:List ItemD} {k:Nat} {x:ItemD} (h:xs[k]?=some x):(xs.map (Cq c))[k]?=some (Cq c x):=by rw [List.getElem?_map,h];rfl
theorem Aph (M:Mem w0 G L w) {c:RulesD} {kca:Option Addr} {kcc:Nat} (SC:Au C6 9 G (.slice kca c.kinds.length kcc) c.kinds) (hvc:D2 c) {a1:Option Addr} {c1:Nat} {l:List EntD} (S:Au Ca 6 G (.slice a1 l.length c1) l) {z:Int} {ta:Option Addr} {tc:Nat} {xs:List ItemD} (T:Au Cv 4 G (.slice ta xs.length tc) xs) (hl2:l.length≤1024):Calls Tryz.prog 73 #[.agg #[.slice kca c.kinds.length kcc,.int .i64 c.cap],.slice a1 l.length c1,.int .i64 z,.slice ta xs.length tc] w (Ret w0 G L fun G' v=>∃ (a:Option Addr) (cc:Nat),v=.tuple #[.slice a (Hn c l z xs).1.length cc,.int .i64 (Hn c l z xs).2]∧Au Ca 6 G' (.slice a (Hn c l z xs).1.length cc) (Hn c l z xs).1):=by
 have bS:=S.bound;have bT:=T.bound;refine Ay (vs:=[_,_,_,_]) Tryz.func73 rfl (n:=80) rfl rfl<|Ac<|Cz M rfl rfl rfl<|?_;clear M;intro b1 w M
 refine Ab rfl<|Ab rfl<|Ag<|Ac<|Aa rfl<|Aa rfl<|B8 B9.k rfl<|Aa rfl<|B8 Br.k rfl<|Bs Yo rfl rfl (Kp (z:=z) (n:=((xs.length:Nat):Int)) (m:=((l.length:Nat):Int)) M (by omega))<|?_;clear M;rintro _ w M rfl
 refine C3 rfl rfl<|Ap rfl ?_ ?_
 ·intro h2b;have h2:=dT h2b;refine Ac<|Ab rfl<|Ab rfl<|Ae<|D6 rfl rfl rfl<|?_
  exact ⟨_,(Gle.refl _),M.weaken dS1,none,0,by rw [Ags (Gx.1 (by assumption))];rfl,by rw [Ags (Gx.1 (by assumption))];exact Au.nil⟩
 intro h3b;have h3:=dF h3b;refine Aq<|Ag<|?_
 have hin:Bd z ((xs.length:Nat):Int) ((l.length:Nat):Int):=Classical.byContradiction fun h_=>absurd (Gx.2 h_) (by assumption);have hin2:=hin;unfold Bd at hin2;obtain ⟨p,rfl⟩:=Int.eq_ofNat_of_zero_le (show 0≤z by omega);refine Az<|Ab rfl<|Ag<|Ac<|Ab rfl<|Ax<|?_
 have M:=M.nilrow 69 6;change Mem w0 G (.row (.slice none 0 0) 0 ([]) 69 6::.blk b1 [.slice kca c.kinds.length kcc,.int .i64 c.cap] 51::L) _ at M;intro a F;refine Bz (fun m a' w'=>∃ (i:Nat),∃ (ar:Option Addr),∃ (nr:Nat),∃ (cr:Nat),∃ (csr:List Value),m=l.length - i∧Fits 80 a' [(1,.slice a1 l.length c1),(2,.int .i64 ((p:Nat):Int)),(3,.slice ta xs.length tc),(4,.pointer (some ⟨b1,0,none⟩)),(10,.slice ar nr cr),(11,.int .i64 ((i:Nat):Int))]∧Mem w0 G (.row (.slice ar nr cr) (nr) (csr) 69 6::.blk b1 [.slice kca c.kinds.length kcc,.int .i64 c.cap] 51::L) w'∧(i≤l.length)∧(Els Ca 6 G csr (l.take i))∧(nr≤i)) _ ⟨0,none,0,0,[],rfl,F.to ⟨rfl,rfl,rfl,rfl,rfl,rfl,trivial⟩,M,by omega,by rw [List.take_zero];exact Els.nil,by omega⟩ ?_;clear F M;rintro m a w ⟨i,ar,nr,cr,csr,rfl,F,M,hi,Er,hnr⟩;revert a;refine Ag<|Ac<|Aa rfl<|Aa rfl<|B8 Br.k rfl<|C2 rfl rfl<|Ap rfl ?_ ?_
 ·intro h4b;have h4:=dT h4b;refine Aq<|Ag<|Ax<|Az<|Aa rfl<|Aa rfl<|Aa rfl<|?_
  obtain ⟨Xe5,hXe5⟩:=A2 (xs:=l) (i:=i) (by omega);obtain ⟨be5,oe5,_,Ie5,_,Ae5,hTe5⟩:=S.at hXe5;obtain ⟨c1e5,hcse5,hPe5,hBe5⟩:=hTe5;obtain ⟨mae5,mce5,rfl,hke5,hte5,hxe5,hne5,SMe5⟩:=hPe5;subst hcse5;have hIe5:(Xe5.item.key < 18446744073709551616∧Xe5.item.typ < 256∧Xe5.item.text.length≤9223372036854775807):=⟨hke5,hte5,hxe5⟩;have hQe5:-9223372036854775808≤Xe5.size∧Xe5.size≤9223372036854775807:=hBe5;refine D0 Br.k Bu Ie5 rfl rfl<|Ar (fun a F=>Af Bu rfl (F.ev rfl) (cs:=[.int .u64 ((Xe5.item.key:Nat):Int),.int .u8 ((Xe5.item.typ:Nat):Int),.string (str Xe5.item.text),.slice mae5 Xe5.item.marks.length mce5,.int .i64 Xe5.size,.bool Xe5.known]) rfl (M.cellsA Ae5 0 (by omega) rfl)) rfl<|fun a F=>?_
  refine Bk F M Br.k Bu rfl rfl (cs:=[.int .u64 ((Xe5.item.key:Nat):Int),.int .u8 ((Xe5.item.typ:Nat):Int),.string (str Xe5.item.text),.slice mae5 Xe5.item.marks.length mce5,.int .i64 Xe5.size,.bool Xe5.known]) rfl rfl (by simp [Value.oneCell']) (by decide) rfl ?_;clear F M a;intro v6 w a M F;obtain ⟨av6,cv6,rfl,hlev6,hcmv6,hlv6⟩:=M.row_shape (k:=0) rfl;have Eb7:Els Ca 6 G [.int .u64 ((Xe5.item.key:Nat):Int),.int .u8 ((Xe5.item.typ:Nat):Int),.string (str Xe5.item.text),.slice mae5 Xe5.item.marks.length mce5,.int .i64 Xe5.size,.bool Xe5.known] [Xe5]:=⟨[.int .u64 ((Xe5.item.key:Nat):Int),.int .u8 ((Xe5.item.typ:Nat):Int),.string (str Xe5.item.text),.slice mae5 Xe5.item.marks.length mce5,.int .i64 Xe5.size,.bool Xe5.known],[],rfl,rfl,⟨[.int .u64 ((Xe5.item.key:Nat):Int),.int .u8 ((Xe5.item.typ:Nat):Int),.string (str Xe5.item.text),.slice mae5 Xe5.item.marks.length mce5],rfl,⟨mae5,mce5,rfl,hke5,hte5,hxe5,hne5,SMe5⟩,hBe5⟩,rfl⟩;refine Ci F M (k:=1) (k2:=0) rfl rfl Br.k Bu rfl rfl (by decide) rfl rfl (by show _ * 72≤_;(try simp only [List.length_drop,List.length_take,List.length_append,List.length_cons,List.length_nil]);omega) (by (try simp only [List.length_drop,List.length_take,List.length_append,List.length_cons,List.length_nil]);omega) rfl ?_;clear F M a;intro v8 w a M F;have Ev8:=Els.append Er Eb7;obtain ⟨av8,cv8,rfl,hlev8,hcmv8,hlv8⟩:=M.row_shape (k:=1) rfl;revert a;refine Ab rfl<|Az<|Aa rfl<|Bx rfl rfl<|Ab rfl<|Bc<|Cm<|fun a F=>?_
  exact ⟨_,by omega,i+1,(av8),(nr+1),(cv8),csr++([.int .u64 ((Xe5.item.key:Nat):Int),.int .u8 ((Xe5.item.typ:Nat):Int),.string (str Xe5.item.text),.slice mae5 Xe5.item.marks.length mce5,.int .i64 Xe5.size,.bool Xe5.known]),rfl,F.to ⟨rfl,rfl,rfl,rfl,rfl,rfl,trivial⟩,(M.weaken (cN (cC (.cons_cons _ (sR _))))),by omega,by have h_:=Ev8;rwa [← K2 hXe5] at h_,by omega⟩
 intro h9b;have h9:=dF h9b;refine B5<|Bw<|Bw<|Dj<|Ag<|Ac<|Ab rfl<|Ax<|?_
 have Ek0:Els Ca 6 G csr (Dd l p 0 ((xs.map (Cq c)).take 0)):=by rw [List.take_zero,Ajk];rwa [List.take_of_length_le (by omega)] at Er
 intro a F;refine Bz (fun m a' w'=>∃ (k:Nat),∃ (csk:List Value),m=xs.length - k∧Fits 80 a' [(1,.slice a1 l.length c1),(2,.int .i64 ((p:Nat):Int)),(3,.slice ta xs.length tc),(4,.pointer (some ⟨b1,0,none⟩)),(10,.slice ar nr cr),(12,.int .i64 ((k:Nat):Int))]∧Mem w0 G (.row (.slice ar nr cr) (nr) (csk) 69 6::.blk b1 [.slice kca c.kinds.length kcc,.int .i64 c.cap] 51::L) w'∧(k≤xs.length)∧(Els Ca 6 G csk (Dd l p k ((xs.map (Cq c)).take k)))∧(Cc (Jh c l p xs) k=0)) _ ⟨0,csr,rfl,F.to ⟨rfl,rfl,rfl,rfl,rfl,rfl,trivial⟩,M,by omega,Ek0,rfl⟩ ?_;clear F M;rintro m a w ⟨k,csk,rfl,F,M,hk,Ek,hS⟩;revert a;refine Ag<|Ac<|Aa rfl<|Aa rfl<|B8 B9.k rfl<|C2 rfl rfl<|Ap rfl ?_ ?_
 ·intro h10b;have h10:=dT h10b;refine Aq<|Ag<|Ax<|Ag<|?_
  obtain ⟨Xk,hXk⟩:=A2 (xs:=xs) (i:=k) (by omega);obtain ⟨Yk,hYk⟩:=A2 (xs:=l) (i:=p+k) (by omega);intro a F;refine Gh [(true,0),(true,1),(true,2),(true,3),(true,4),(false,5),(true,6)] (Keep G [.blk b1 [.slice kca c.kinds.length kcc,.int .i64 c.cap] 51]) rfl (by kernel_rfl) (fun c a d v w h=>by cases d <;> exact h) (Bo (M.drew _)) ?_;replace M:=M.drew (w.drawn+1);revert a;refine l_r (fun a F w M=>Af Co rfl (F.ev rfl) (cs:=[.slice kca c.kinds.length kcc,.int .i64 c.cap]) rfl (M.cellsL (k:=0) rfl rfl)) rfl<|l_r (fun a F w M=>B1 F rfl) rfl<|l_r (fun a F w M=>B1 F rfl) rfl<|?_
  obtain ⟨be11,oe11,_,Ie11,_,Ae11,hTe11⟩:=T.at hXk;obtain ⟨mae11,mce11,rfl,hke11,hte11,hxe11,hne11,SMe11⟩:=hTe11;have hIe11:(Xk.key < 18446744073709551616∧Xk.typ < 256∧Xk.text.length≤9223372036854775807):=⟨hke11,hte11,hxe11⟩;refine l_r (fun a F w M=>Bt B9.k Bf (F.ev rfl) (F.ev rfl) (by omega) Ie11) rfl<|l_r (fun a F w M=>Af Bf rfl (F.ev rfl) (cs:=[.int .u64 ((Xk.key:Nat):Int),.int .u8 ((Xk.typ:Nat):Int),.string (str Xk.text),.slice mae11 Xk.marks.length mce11]) rfl (M.cellsA Ae11 0 (by omega) rfl)) rfl<|l_a rfl<|Bs Agm rfl rfl (Lj (c:=c) (x:=Xk) (sn:=0) M SC hvc hIe11 SMe11)<|?_;clear M;rintro _ w M rfl
  refine eQ (Bo M)<|l_r (fun a F w M=>G8 F rfl) rfl<|Hq<|Ag<|Ac<|Aa rfl<|C3 rfl rfl<|Ap rfl ?_ ?_
  ·intro h12b;have h12:=dT h12b;refine Ac<|Ab rfl<|Ab rfl<|Ae<|D6 rfl rfl rfl<|?_
   exact ⟨_,(Gle.refl _),M.weaken dS2,none,0,by rw [Wz hin (i:=k) hS hXk (Aen (it_6 (by assumption))) (by decide)];rfl,by rw [Wz hin (i:=k) hS hXk (Aen (it_6 (by assumption))) (by decide)];exact Au.nil⟩
  intro h13b;have h13:=dF h13b;refine Aq<|Ag<|Ag<|fun a F=>Gh [(true,0),(true,1),(true,2),(true,3),(true,4),(true,5),(true,6),(true,7),(true,8),(true,9),(true,10),(true,11),(true,12),(true,13)] (Keep G [.blk b1 [.slice kca c.kinds.length kcc,.int .i64 c.cap] 51]) rfl (by kernel_rfl) (fun c a d v w h=>by cases d <;> exact h) (Bo (M.drew _)) ?_
  replace M:=M.drew (w.drawn+1);revert a;refine l_r (fun a F w M=>B1 F rfl) rfl<|l_r (fun a F w M=>B1 F rfl) rfl<|l_r (fun a F w M=>B1 F rfl) rfl<|l_r (fun a F w M=>Gf (F.ev rfl) (F.ev rfl) (C0 (by omega) (by omega))) rfl<|?_
  obtain ⟨be14,oe14,_,Ie14,_,Ae14,hTe14⟩:=S.at hYk;obtain ⟨c1e14,hcse14,hPe14,hBe14⟩:=hTe14;obtain ⟨mae14,mce14,rfl,hke14,hte14,hxe14,hne14,SMe14⟩:=hPe14;subst hcse14;have hIe14:(Yk.item.key < 18446744073709551616∧Yk.item.typ < 256∧Yk.item.text.length≤9223372036854775807):=⟨hke14,hte14,hxe14⟩;have hQe14:-9223372036854775808≤Yk.size∧Yk.size≤9223372036854775807:=hBe14;refine l_r (fun a F w M=>Bt Br.k Bu (F.ev rfl) (F.ev rfl) (by omega) Ie14) rfl<|l_r (fun a F w M=>Ce Bu.k rfl F rfl) rfl<|l_r (fun a F w M=>Ce Bf.k rfl F rfl) rfl<|l_r (fun a F w M=>Al (agf El rfl) (F.ev rfl) (M.cellA Ae14 0 (by omega) rfl)) rfl<|l_r (fun a F w M=>B1 F rfl) rfl<|l_r (fun a F w M=>B1 F rfl) rfl<|?_
  obtain ⟨be15,oe15,_,Ie15,_,Ae15,hTe15⟩:=T.at hXk;obtain ⟨mae15,mce15,rfl,hke15,hte15,hxe15,hne15,SMe15⟩:=hTe15;have hIe15:(Xk.key < 18446744073709551616∧Xk.typ < 256∧Xk.text.length≤9223372036854775807):=⟨hke15,hte15,hxe15⟩;refine l_r (fun a F w M=>Bt B9.k Bf (F.ev rfl) (F.ev rfl) (by omega) Ie15) rfl<|l_r (fun a F w M=>Ce Bf.k rfl F rfl) rfl<|l_r (fun a F w M=>Al (agf El rfl) (F.ev rfl) (M.cellA Ae15 0 rfl rfl)) rfl<|l_r (fun a F w M=>M8 (F.ev rfl) (F.ev rfl)) rfl<|Hq<|?_
  generalize ({ w with drawn:=w.drawn+1 }:World)=w at M ⊢
  refine Ap rfl ?_ ?_
  ·intro h16b;have h16:=dF (Ah h16b);have h16c:(decide (((Yk.item.key:Nat):Int)=((Xk.key:Nat):Int)))=false:=(Ah h16b);refine Ac<|Ab rfl<|Ab rfl<|Ae<|D6 rfl rfl rfl<|?_
   exact ⟨_,(Gle.refl _),M.weaken dS2,none,0,by rw [Wz hin (i:=k) hS hXk (Aem (Nx (by assumption)) ((I6 hYk).2 (by omega))) (by decide)];rfl,by rw [Wz hin (i:=k) hS hXk (Aem (Nx (by assumption)) ((I6 hYk).2 (by omega))) (by decide)];exact Au.nil⟩
  intro h17b;have h17:=dT (Ai h17b);have h17c:(decide (((Yk.item.key:Nat):Int)=((Xk.key:Nat):Int)))=true:=(Ai h17b);refine Aq<|Ag<|Ac<|Aa rfl<|Da rfl rfl<|Ap rfl ?_ ?_
  ·intro h18b;have h18:=dT h18b;refine Ac<|Aa rfl<|Ab rfl<|Ab rfl<|Ae<|D6 rfl rfl rfl<|?_
   have h14:=(Ame (Nx (c:=c) (x:=Xk) (by assumption)) (by assumption)).1
   exact ⟨_,(Gle.refl _),M.weaken dS2,none,0,by rw [Wz hin (i:=k) hS hXk (Yt (Nx (by assumption)) (fun h_=>(I6 hYk).1 h_ (by omega)) (Ame (Nx (by assumption)) (by assumption)).2) (by decide),h14];rfl,by rw [Wz hin (i:=k) hS hXk (Yt (Nx (by assumption)) (fun h_=>(I6 hYk).1 h_ (by omega)) (Ame (Nx (by assumption)) (by assumption)).2) (by decide)];exact Au.nil⟩
  intro h19b;have h19:=dF h19b;refine Aq<|Cm<|?_
  obtain ⟨kd,hK⟩:=Jm (Nx (c:=c) (x:=Xk) (by assumption));have hml:(Dd l p k ((xs.map (Cq c)).take k)).length=l.length:=by rw [J4 (by omega),List.length_take,List.length_map];omega
  intro a F;refine Gh [(true,0),(true,1),(true,2),(true,3),(true,4),(true,5),(true,6),(true,7),(true,8),(false,9),(true,10),(false,11)] (Keep G [.blk b1 [.slice kca c.kinds.length kcc,.int .i64 c.cap] 51]) rfl (by kernel_rfl) (fun c a d v w h=>by cases d <;> exact h) (Bo (M.drew _)) ?_;replace M:=M.drew (w.drawn+1);revert a;refine l_r (fun a F w M=>B1 F rfl) rfl<|l_r (fun a F w M=>B1 F rfl) rfl<|l_r (fun a F w M=>B1 F rfl) rfl<|l_r (fun a F w M=>Gf (F.ev rfl) (F.ev rfl) (C0 (by omega) (by omega))) rfl<|l_r (fun a F w M=>Af Co rfl (F.ev rfl) (cs:=[.slice kca c.kinds.length kcc,.int .i64 c.cap]) rfl (M.cellsL (k:=0) rfl rfl)) rfl<|l_r (fun a F w M=>B1 F rfl) rfl<|l_r (fun a F w M=>B1 F rfl) rfl<|?_
  obtain ⟨be20,oe20,_,Ie20,_,Ae20,hTe20⟩:=T.at hXk;obtain ⟨mae20,mce20,rfl,hke20,hte20,hxe20,hne20,SMe20⟩:=hTe20;have hIe20:(Xk.key < 18446744073709551616∧Xk.typ < 256∧Xk.text.length≤9223372036854775807):=⟨hke20,hte20,hxe20⟩;refine l_r (fun a F w M=>Bt B9.k Bf (F.ev rfl) (F.ev rfl) (by omega) Ie20) rfl<|l_r (fun a F w M=>Af Bf rfl (F.ev rfl) (cs:=[.int .u64 ((Xk.key:Nat):Int),.int .u8 ((Xk.typ:Nat):Int),.string (str Xk.text),.slice mae20 Xk.marks.length mce20]) rfl (M.cellsA Ae20 0 (by omega) rfl)) rfl<|l_a rfl<|Bs ent67 rfl rfl (Q8 (c:=c) (x:=Xk) M SC hIe20 SMe20 hK)<|?_;clear M;rintro _ w M rfl
  refine eQ (Bo M)<|?_
  obtain ⟨Xe21,hXe21⟩:=A2 (xs:=(Dd l p k ((xs.map (Cq c)).take k))) (i:=p+k) (by omega);obtain ⟨be21,_,Ie21,hme21,_,Ae21,hTe21⟩:=M.atRow (k:=0) rfl (by decide) Ek hXe21;obtain ⟨c1e21,hcse21,hPe21,hBe21⟩:=hTe21;obtain ⟨mae21,mce21,rfl,hke21,hte21,hxe21,hne21,SMe21⟩:=hPe21;subst hcse21;have hIe21:(Xe21.item.key < 18446744073709551616∧Xe21.item.typ < 256∧Xe21.item.text.length≤9223372036854775807):=⟨hke21,hte21,hxe21⟩;have hQe21:-9223372036854775808≤Xe21.size∧Xe21.size≤9223372036854775807:=hBe21;refine l_r (fun a F w M=>Bt Br.k Bu (F.ev rfl) (F.ev rfl) (by omega) Ie21) rfl<|l_a rfl<|fun a F=>?_
  refine Li F M Bu (k:=0) rfl rfl Ek Ie21 (Bj hXe21) rfl rfl (us:=[.int .u64 ((Xk.key:Nat):Int),.int .u8 ((Xk.typ:Nat):Int),.string (str Xk.text),.slice mae20 Xk.marks.length mce20,.int .i64 (Iv c Xk),.bool false]) rfl rfl (by simp [Value.oneCell']) (X':=(Cq c Xk)) (⟨[.int .u64 ((Xk.key:Nat):Int),.int .u8 ((Xk.typ:Nat):Int),.string (str Xk.text),.slice mae20 Xk.marks.length mce20],rfl,⟨mae20,mce20,rfl,hIe20.1,hIe20.2.1,hIe20.2.2,(by have h_:=SMe20.bound;show Xk.marks.length≤_;omega),SMe20⟩,Tf SC hK⟩) ?_;clear F M a;intro csu22 w a M Eu22 F;revert a;refine eQ (Bo M)<|Hq<|Az<|Aa rfl<|Bx rfl rfl<|Ab rfl<|Bc<|Cm<|fun a F=>?_
  exact ⟨_,by omega,k+1,csu22,rfl,F.to ⟨rfl,rfl,rfl,rfl,rfl,rfl,trivial⟩,M,by omega,by have h_:=Eu22;rwa [Ajl (fr_at hXk) (by rw [List.length_map];omega)] at h_,chg_ok hS hXk (Apj (Nx (by assumption)) (fun h_=>(I6 hYk).1 h_ (by omega)) (it_0 (Nx (by assumption)) (by assumption)))⟩
 intro h23b;have h23:=dF h23b;refine B5<|Bw<|Bw<|Dj<|Ag<|Ag<|?_
 have hkx:k=xs.length:=by omega
 subst hkx;intro a F;rw [List.take_of_length_le (by rw [List.length_map];omega)] at Ek;obtain ⟨hnz24,Gz24,az24,cz24,hGz24,hez24,Sz24,M⟩:=M.freeze_row Am (k:=0) rfl Ek (by decide);clear hez24 az24 cz24;replace SC:=SC.mono A1 hGz24;replace S:=S.mono Am hGz24;replace T:=T.mono Aw hGz24;rw [hnz24] at F Sz24;revert a;refine Az<|Aa rfl<|Bs Amt rfl rfl (N8 (l:=(Dd l p xs.length (xs.map (Cq c)))) M Sz24)<|?_;clear M;rintro _ w M rfl
 refine Da rfl rfl<|Ap rfl ?_ ?_
 ·intro h25b;have h25:=dT h25b;refine Ac<|Ab rfl<|Ab rfl<|Ae<|D6 rfl rfl rfl<|?_
  exact ⟨_,hGz24,M.weaken dS1,none,0,by rw [Ys hin hS (by rw [Int.toNat_natCast];omega)];rfl,by rw [Ys hin hS (by rw [Int.toNat_natCast];omega)];exact Au.nil⟩
 intro h26b;have h26:=dF h26b;refine Aq<|Ac<|Aa rfl<|Ab rfl<|Ab rfl<|Ae<|D6 rfl rfl rfl<|?_
 exact ⟨_,hGz24,M.weaken dS1,ar,cr,by rw [Agt hin hS (by rw [Int.toNat_natCast];unfold D9 at *;split at * <;> omega),Int.toNat_natCast],by rw [Agt hin hS (by rw [Int.toNat_natCast];unfold D9 at *;split at * <;> omega),Int.toNat_natCast];exact Sz24⟩
theorem Akq (M:Mem w0 G L w) {c:RulesD} {kca:Option Addr} {kcc:Nat} (SC:Au C6 9 G (.slice kca c.kinds.length kcc) c.kinds) (hvc:D2 c) {ta:Option Addr} {tc:Nat} {xs:List ItemD} (T:Au Cv 4 G (.slice ta xs.length tc) xs) (hx2:xs.length≤4000000):Calls Tryz.prog 74 #[.agg #[.slice kca c.kinds.length kcc,.int .i64 c.cap],.slice ta xs.length tc] w (Ret w0 G L fun G' v=>∃ (a:Option Addr) (cc:Nat),v=.tuple #[.slice a (E2 c [] 0 xs).1.length cc,.int .i64 (E2 c [] 0 xs).2]∧Au Ca 6 G' (.slice a (E2 c [] 0 xs).1.length cc) (E2 c [] 0 xs).1):=by
 refine Ay (vs:=[_,_]) Tryz.func74 rfl (n:=11) rfl rfl<|Ac<|Cz M rfl rfl rfl<|?_;clear M;intro b1 w M
 refine Ab rfl<|Ab rfl<|Ac<|Ar (fun a F=>Af Co rfl (F.ev rfl) (cs:=[.slice kca c.kinds.length kcc,.int .i64 c.cap]) rfl (M.cellsL (k:=0) rfl rfl)) rfl<|Aa rfl<|Ge ent70 rfl rfl (Aan (c:=c) (l:=([]:List EntD)) (z:=0) (xs:=xs) M SC hvc Au.nil T (by exact Nat.zero_le _) (by omega))<|?_;clear M;rintro _ Gq2 w hGq2 M ⟨aq2,cq2,rfl,Sq2⟩
 replace SC:=SC.mono A1 hGq2;replace T:=T.mono Aw hGq2;refine Df rfl rfl<|Df rfl rfl<|Ab rfl<|Ab rfl<|Ae<|D6 rfl rfl rfl<|?_
 exact ⟨_,hGq2,M.weaken dS1,aq2,cq2,rfl,Sq2⟩
theorem Vi (c:RulesD):0≤Ja c:=by unfold Ja;split <;> decide
theorem Xu (M:Mem w0 G L w) {c:RulesD} {kca:Option Addr} {kcc:Nat} (SC:Au C6 9 G (.slice kca c.kinds.length kcc) c.kinds) {a1:Option Addr} {c1:Nat} {l:List EntD} (S:Au Ca 6 G (.slice a1 l.length c1) l):Calls Tryz.prog 30 #[.agg #[.slice kca c.kinds.length kcc,.int .i64 c.cap],.slice a1 l.length c1] w (Cs w0 G L fun v=>v=.int .i64 (Bv c l)):=by
 have bS:=S.bound;refine Ay (vs:=[_,_]) Tryz.func30 rfl (n:=84) rfl rfl<|Ac<|Cz M rfl rfl rfl<|?_;clear M;intro b1 w M
 refine Ab rfl<|Ag<|Ac<|Ar (fun a F=>Af Co rfl (F.ev rfl) (cs:=[.slice kca c.kinds.length kcc,.int .i64 c.cap]) rfl (M.cellsL (k:=0) rfl rfl)) rfl<|Bs ent77 rfl rfl (Ze (c:=c) M SC)<|?_;clear M;rintro _ w M rfl
 refine Da rfl rfl<|Ap rfl ?_ ?_
 ·intro h2b;have h2:=dT h2b;refine Ac<|Ab rfl<|Ae<|Ad rfl rfl<|?_
  exact ⟨M.weaken dS1,by rw [Yu (fun h_=>by have h9_:=Jz h_;omega)]⟩
 intro h3b;have h3:=dF h3b;refine Aq<|Ag<|Ac<|Aa rfl<|B8 Br.k rfl<|Da rfl rfl<|Ap rfl ?_ ?_
 ·intro h4b;have h4:=dT h4b;refine Ac<|Ab rfl<|Ae<|Ad rfl rfl<|?_
  exact ⟨M.weaken dS1,by rw [Yv (Kg.1 (by have:=Vi c;omega)) (by omega)]⟩
 intro h5b;have h5:=dF h5b;refine Aq<|Ag<|Ac<|Ab rfl<|Ax<|?_
 have hv:D2 c:=Kg.1 (by have:=Vi c;omega);have hvc:=hv;intro a F;refine Bz (fun m a' w'=>∃ (i:Nat),m=l.length - i∧Fits 84 a' [(1,.slice a1 l.length c1),(2,.pointer (some ⟨b1,0,none⟩)),(5,.int .i64 ((i:Nat):Int))]∧Mem w0 G (.blk b1 [.slice kca c.kinds.length kcc,.int .i64 c.cap] 51::L) w'∧(i≤l.length)∧(Cc (Ht c l) i=0)) _ ⟨0,rfl,F.to ⟨rfl,rfl,rfl,trivial⟩,M,Nat.zero_le _,rfl⟩ ?_;clear F M;rintro m a w ⟨i,rfl,F,M,hi,hS⟩;revert a;refine Ag<|Ac<|Aa rfl<|Aa rfl<|B8 Br.k rfl<|C2 rfl rfl<|Ap rfl ?_ ?_
 ·intro h6b;have h6:=dT h6b;refine Aq<|Ag<|Ax<|Ag<|?_
  obtain ⟨Xi,hXi⟩:=A2 (xs:=l) (i:=i) (by omega);intro a F;refine Fg [(.pure,0),(.free,1),(.free,2),(.free,3),(.free,4),(.pure,5),(.free,6),(.free,7),(.free,8),(.free,9),(.free,10),(.free,11),(.free,12),(.free,13),(.pure,14),(.keep,15),(.free,16),(.keep,17),(.keep,18),(.free,19)] [] (Keep G [.blk b1 [.slice kca c.kinds.length kcc,.int .i64 c.cap] 51]) rfl (by kernel_rfl) (fun c a d v w h=>by cases d <;> exact h) (Bo (M.drew _)) ?_;replace M:=M.drew (w.drawn+1);revert a;refine k_p (fun a F w M=>Af Co rfl (F.ev rfl) (cs:=[.slice kca c.kinds.length kcc,.int .i64 c.cap]) rfl (M.cellsL (k:=0) rfl rfl)) rfl<|k_f (fun a F w _=>B1 F rfl) rfl<|k_f (fun a F w _=>B1 F rfl) rfl<|?_
  obtain ⟨be7,oe7,_,Ie7,_,Ae7,hTe7⟩:=S.at hXi;obtain ⟨c1e7,hcse7,hPe7,hBe7⟩:=hTe7;obtain ⟨mae7,mce7,rfl,hke7,hte7,hxe7,hne7,SMe7⟩:=hPe7;subst hcse7;have hIe7:(Xi.item.key < 18446744073709551616∧Xi.item.typ < 256∧Xi.item.text.length≤9223372036854775807):=⟨hke7,hte7,hxe7⟩;have hQe7:-9223372036854775808≤Xi.size∧Xi.size≤9223372036854775807:=hBe7;refine k_f (fun a F w _=>Bt Br.k Bu (F.ev rfl) (F.ev rfl) (by omega) Ie7) rfl<|k_f (fun a F w _=>Ce Bu.k rfl F rfl) rfl<|k_p (fun a F w M=>Af Bf rfl (F.ev rfl) (cs:=[.int .u64 ((Xi.item.key:Nat):Int),.int .u8 ((Xi.item.typ:Nat):Int),.string (str Xi.item.text),.slice mae7 Xi.item.marks.length mce7]) rfl (M.cellsA Ae7 0 rfl rfl)) rfl<|k_f (fun a F w _=>B1 F rfl) rfl<|k_f (fun a F w _=>B1 F rfl) rfl<|?_
  obtain ⟨as8,cs8,Is8,hms8,hcs8,Ss8⟩:=S.partT (i) (by omega);refine k_f (fun a F w _=>Ip Br.k Bu Is8 (F.ev rfl) (h:=i) (kl:=.i64) (zl:=0) rfl ⟨(F.ev rfl),by omega⟩ (by omega) (by omega)) rfl<|k_f (fun a F w _=>B1 F rfl) rfl<|k_f (fun a F w _=>B1 F rfl) rfl<|?_
  obtain ⟨be9,oe9,_,Ie9,_,Ae9,hTe9⟩:=S.at hXi;obtain ⟨c1e9,hcse9,hPe9,hBe9⟩:=hTe9;obtain ⟨mae9,mce9,rfl,hke9,hte9,hxe9,hne9,SMe9⟩:=hPe9;subst hcse9;have hIe9:(Xi.item.key < 18446744073709551616∧Xi.item.typ < 256∧Xi.item.text.length≤9223372036854775807):=⟨hke9,hte9,hxe9⟩;have hQe9:-9223372036854775808≤Xi.size∧Xi.size≤9223372036854775807:=hBe9;refine k_f (fun a F w _=>Bt Br.k Bu (F.ev rfl) (F.ev rfl) (by omega) Ie9) rfl<|k_f (fun a F w _=>Ce Bu.k rfl F rfl) rfl<|k_f (fun a F w _=>Ce Bf.k rfl F rfl) rfl<|k_p (fun a F w M=>Al (agf El rfl) (F.ev rfl) (M.cellA Ae9 0 (by omega) rfl)) rfl<|k_k rfl<|?_
  have hl11:i - 0=(l.take (i)).length:=by rw [List.length_take];omega
  intro a F;rw [hl11] at F Ss8;revert a;refine Bs ent79 rfl rfl (Q9 (l:=l.take (i)) (k:=Xi.item.key) M Ss8)<|?_;clear M;rintro _ w M ⟨z10,rfl,hz10⟩
  refine eQ (Bo M)<|k_f (fun a F w _=>Ry (F.ev rfl) (F.ev rfl)) rfl<|k_k rfl<|Bs Uf rfl rfl (Lt (b:=(decide (0≤z10))) M)<|?_;clear M;rintro _ w M rfl
  refine eQ (Bo M)<|k_k rfl<|Bs Agm rfl rfl (Lj (c:=c) (x:=Xi.item) (sn:=(if (decide (0≤z10))=true then (1:Int) else 0)) M SC hvc hIe7 SMe7)<|?_;clear M;rintro _ w M rfl
  refine eQ (Bo M)<|k_f (fun a F w _=>G8 F rfl) rfl<|De<|Ag<|Ag<|?_
  have hsn:((if (decide (0≤z10))=true then (1:Int) else 0)=1)↔Dn (l.take i) Xi.item.key:=by rw [T8,decide_eq_true_eq];exact hz10.has
  intro a F;rw [Ms hsn] at F;revert a;refine Az<|Aa rfl<|Da rfl rfl<|Ap rfl ?_ ?_
  ·intro h12b;have h12:=dT h12b;refine Ac<|Aa rfl<|Ab rfl<|Ae<|Ad rfl rfl<|?_
   exact ⟨M.weaken dS1,by rw [ckI hv (by omega) hS hXi rfl (by omega)]⟩
  intro h13b;have h13:=dF h13b;refine Aq<|Ag<|?_
  obtain ⟨hok,hnk,hr⟩:=Gj.1 (Adf (c:=c) (x:=Xi.item) (by assumption));obtain ⟨k,hK⟩:=Jm hok;intro a F;refine Fg [(.free,0),(.free,1),(.free,2),(.free,3),(.pure,4),(.free,5),(.free,6),(.free,7),(.free,8),(.free,9),(.free,10),(.pure,11),(.free,12),(.free,13),(.free,14),(.free,15),(.free,16),(.free,17),(.free,18),(.pure,19),(.free,20),(.free,21),(.free,22),(.free,23),(.free,24),(.free,25),(.pure,26),(.free,27),(.pure,28),(.free,29),(.free,30),(.free,31),(.free,32),(.free,33),(.pure,34),(.free,35),(.free,36),(.pure,37),(.free,38),(.free,39),(.free,40)] [] (Keep G [.blk b1 [.slice kca c.kinds.length kcc,.int .i64 c.cap] 51]) rfl (by kernel_rfl) (fun c a d v w h=>by cases d <;> exact h) (Bo (M.drew _)) ?_;replace M:=M.drew (w.drawn+1);revert a;refine k_f (fun a F w _=>B1 F rfl) rfl<|k_f (fun a F w _=>B1 F rfl) rfl<|?_
  obtain ⟨be14,oe14,_,Ie14,_,Ae14,hTe14⟩:=S.at hXi;obtain ⟨c1e14,hcse14,hPe14,hBe14⟩:=hTe14;obtain ⟨mae14,mce14,rfl,hke14,hte14,hxe14,hne14,SMe14⟩:=hPe14;subst hcse14;have hIe14:(Xi.item.key < 18446744073709551616∧Xi.item.typ < 256∧Xi.item.text.length≤9223372036854775807):=⟨hke14,hte14,hxe14⟩;have hQe14:-9223372036854775808≤Xi.size∧Xi.size≤9223372036854775807:=hBe14;refine k_f (fun a F w _=>Bt Br.k Bu (F.ev rfl) (F.ev rfl) (by omega) Ie14) rfl<|k_f (fun a F w _=>Ce Bu.k rfl F rfl) rfl<|k_p (fun a F w M=>Al (agf Ld rfl) (F.ev rfl) (M.cellA Ae14 4 rfl rfl)) rfl<|k_f (fun a F w _=>Aeu (F.ev rfl) (F.ev rfl)) rfl<|k_f (fun a F w _=>B1 F rfl) rfl<|?_
  rcases bE (decide (Xi.size < 1)) with h15b | h16b
  ·skip
   have h15:=dT h15b;refine k_s rfl h15b<|k_s rfl h15b<|k_s rfl h15b<|k_s rfl h15b<|k_s rfl h15b<|k_s rfl h15b<|k_f (fun a F w _=>F5 F rfl h15b rfl) rfl<|k_f (fun a F w _=>B1 F rfl) rfl<|k_s rfl rfl<|k_s rfl rfl<|k_s rfl rfl<|k_s rfl rfl<|k_s rfl rfl<|k_s rfl rfl<|k_s rfl rfl<|k_u rfl<|k_u rfl<|k_u rfl<|k_u rfl<|k_u rfl<|k_u rfl<|k_u rfl<|k_u rfl<|k_u rfl<|?_
   refine k_u rfl<|k_u rfl<|k_u rfl<|k_u rfl<|k_u rfl<|k_u rfl<|k_u rfl<|k_u rfl<|k_s rfl rfl<|k_f (fun a F w _=>F5 F rfl rfl rfl) rfl<|De<|?_
   generalize ({ w with drawn:=w.drawn+1 }:World)=w at M ⊢
   refine Bl rfl rfl<|Ac<|Ab rfl<|Ae<|Ad rfl rfl<|?_
   exact ⟨M.weaken dS1,by rw [Apf hv (by omega) hS hXi hok hnk hr (by unfold Hh;rw [Hd hK];clear M;grind)]⟩
  have h16:=dF h16b;refine Cb rfl h16b (fun a F w _=>B1 F rfl)<|Cb rfl h16b (fun a F w _=>B1 F rfl)<|?_
  obtain ⟨be17,oe17,_,Ie17,_,Ae17,hTe17⟩:=S.at hXi;obtain ⟨c1e17,hcse17,hPe17,hBe17⟩:=hTe17;obtain ⟨mae17,mce17,rfl,hke17,hte17,hxe17,hne17,SMe17⟩:=hPe17;subst hcse17;have hIe17:(Xi.item.key < 18446744073709551616∧Xi.item.typ < 256∧Xi.item.text.length≤9223372036854775807):=⟨hke17,hte17,hxe17⟩;have hQe17:-9223372036854775808≤Xi.size∧Xi.size≤9223372036854775807:=hBe17;refine Cb rfl h16b (fun a F w _=>Bt Br.k Bu (F.ev rfl) (F.ev rfl) (by omega) Ie17)<|Cb rfl h16b (fun a F w _=>Ce Bu.k rfl F rfl)<|Gk rfl h16b (fun a F w M=>Al (agf Ld rfl) (F.ev rfl) (M.cellA Ae17 4 rfl rfl))<|Cb rfl h16b (fun a F w _=>Hw (F.ev rfl) (F.ev rfl))<|k_f (fun a F w _=>Fx F rfl h16b rfl) rfl<|k_f (fun a F w _=>B1 F rfl) rfl<|?_
  rcases bE (decide (2305843009213693952 < Xi.size)) with h18b | h19b
  ·skip
   have h18:=dT h18b;refine k_s rfl h18b<|k_s rfl h18b<|k_s rfl h18b<|k_s rfl h18b<|k_s rfl h18b<|k_s rfl h18b<|k_s rfl h18b<|k_u rfl<|k_u rfl<|k_u rfl<|k_u rfl<|k_u rfl<|k_u rfl<|k_u rfl<|k_u rfl<|k_u rfl<|k_u rfl<|k_u rfl<|k_u rfl<|k_u rfl<|k_u rfl<|k_u rfl<|k_u rfl<|k_u rfl<|?_
   refine k_s rfl h18b<|k_f (fun a F w _=>F5 F rfl h18b rfl) rfl<|De<|?_
   generalize ({ w with drawn:=w.drawn+1 }:World)=w at M ⊢
   refine Bl rfl rfl<|Ac<|Ab rfl<|Ae<|Ad rfl rfl<|?_
   exact ⟨M.weaken dS1,by rw [Apf hv (by omega) hS hXi hok hnk hr (by unfold Hh;rw [Hd hK];clear M;grind)]⟩
  have h19:=dF h19b;refine Cb rfl h19b (fun a F w _=>B1 F rfl)<|Cb rfl h19b (fun a F w _=>B1 F rfl)<|?_
  obtain ⟨be20,oe20,_,Ie20,_,Ae20,hTe20⟩:=S.at hXi;obtain ⟨c1e20,hcse20,hPe20,hBe20⟩:=hTe20;obtain ⟨mae20,mce20,rfl,hke20,hte20,hxe20,hne20,SMe20⟩:=hPe20;subst hcse20;have hIe20:(Xi.item.key < 18446744073709551616∧Xi.item.typ < 256∧Xi.item.text.length≤9223372036854775807):=⟨hke20,hte20,hxe20⟩;have hQe20:-9223372036854775808≤Xi.size∧Xi.size≤9223372036854775807:=hBe20;refine Cb rfl h19b (fun a F w _=>Bt Br.k Bu (F.ev rfl) (F.ev rfl) (by omega) Ie20)<|Cb rfl h19b (fun a F w _=>Ce Bu.k rfl F rfl)<|Gk rfl h19b (fun a F w M=>Al (agf Io rfl) (F.ev rfl) (M.cellA Ae20 5 rfl rfl))<|Cb rfl h19b (fun a F w _=>Gl (F.ev rfl))<|Cb rfl h19b (fun a F w _=>B1 F rfl)<|?_
  rcases bE (!(Xi.known)) with h21b | h27b
  ·skip
   have h21:=Ah h21b;have h21c:(Xi.known)=false:=(Ah h21b);refine Cb rfl (Ak h21c) (fun a F w _=>B1 F rfl)<|Cb rfl (Ak h21c) (fun a F w _=>B1 F rfl)<|?_
   obtain ⟨be22,oe22,_,Ie22,_,Ae22,hTe22⟩:=S.at hXi;obtain ⟨c1e22,hcse22,hPe22,hBe22⟩:=hTe22;obtain ⟨mae22,mce22,rfl,hke22,hte22,hxe22,hne22,SMe22⟩:=hPe22;subst hcse22;have hIe22:(Xi.item.key < 18446744073709551616∧Xi.item.typ < 256∧Xi.item.text.length≤9223372036854775807):=⟨hke22,hte22,hxe22⟩;have hQe22:-9223372036854775808≤Xi.size∧Xi.size≤9223372036854775807:=hBe22;refine Cb rfl (Ak h21c) (fun a F w _=>Bt Br.k Bu (F.ev rfl) (F.ev rfl) (by omega) Ie22)<|Cb rfl (Ak h21c) (fun a F w _=>Ce Bu.k rfl F rfl)<|Gk rfl (Ak h21c) (fun a F w M=>Al (agf Ld rfl) (F.ev rfl) (M.cellA Ae22 4 rfl rfl))<|Cb rfl (Ak h21c) (fun a F w _=>Ce Co.k rfl F rfl)<|Gk rfl (Ak h21c) (fun a F w M=>Al (agf Dr rfl) (F.ev rfl) (M.cellL (k:=0) rfl rfl))<|Cb rfl (Ak h21c) (fun a F w _=>B1 F rfl)<|Cb rfl (Ak h21c) (fun a F w _=>B1 F rfl)<|?_
   obtain ⟨be23,oe23,_,Ie23,_,Ae23,hTe23⟩:=S.at hXi;obtain ⟨c1e23,hcse23,hPe23,hBe23⟩:=hTe23;obtain ⟨mae23,mce23,rfl,hke23,hte23,hxe23,hne23,SMe23⟩:=hPe23;subst hcse23;have hIe23:(Xi.item.key < 18446744073709551616∧Xi.item.typ < 256∧Xi.item.text.length≤9223372036854775807):=⟨hke23,hte23,hxe23⟩;have hQe23:-9223372036854775808≤Xi.size∧Xi.size≤9223372036854775807:=hBe23;refine Cb rfl (Ak h21c) (fun a F w _=>Bt Br.k Bu (F.ev rfl) (F.ev rfl) (by omega) Ie23)<|Cb rfl (Ak h21c) (fun a F w _=>Ce Bu.k rfl F rfl)<|Cb rfl (Ak h21c) (fun a F w _=>Ce Bf.k rfl F rfl)<|Gk rfl (Ak h21c) (fun a F w M=>Al (agf Fa rfl) (F.ev rfl) (M.cellA Ae23 1 (by omega) rfl))<|?_
   obtain ⟨be24,oe24,_,Ie24,_,Ae24,hTe24⟩:=SC.at hK;obtain ⟨c1e24,hcse24,hPe24,hBe24⟩:=hTe24;obtain ⟨tae24,tce24,kae24,kce24,rfl,hke24,hle24,SAe24,SKe24⟩:=Di hPe24;subst hcse24;have hQe24:-9223372036854775808≤k.base∧k.base≤9223372036854775807:=hBe24;refine Cb rfl (Ak h21c) (fun a F w _=>Bt Dr.k Fz (F.ev rfl) (F.ev rfl) (by omega) Ie24)<|Cb rfl (Ak h21c) (fun a F w _=>Ce Fz.k rfl F rfl)<|Gk rfl (Ak h21c) (fun a F w M=>Al (agf Ld rfl) (F.ev rfl) (M.cellA Ae24 6 rfl rfl))<|Cb rfl (Ak h21c) (fun a F w _=>M8 (F.ev rfl) (F.ev rfl))<|Cb rfl h19b (fun a F w _=>F5 F rfl (Ak h21c) rfl)<|k_f (fun a F w _=>Fx F rfl h19b rfl) rfl<|De<|?_
   generalize ({ w with drawn:=w.drawn+1 }:World)=w at M ⊢
   refine Ap rfl ?_ ?_
   ·intro h25b;have h25:=dF (Ah h25b);have h25c:(decide (Xi.size=k.base))=false:=(Ah h25b);refine Ac<|Ab rfl<|Ae<|Ad rfl rfl<|?_
    exact ⟨M.weaken dS1,by rw [Apf hv (by omega) hS hXi hok hnk hr (by unfold Hh;rw [Hd hK];clear M;grind)]⟩
   intro h26b;have h26:=dT (Ai h26b);have h26c:(decide (Xi.size=k.base))=true:=(Ai h26b);refine Aq<|Az<|Aa rfl<|Bx rfl rfl<|Ab rfl<|Bc<|Cm<|fun a F=>?_
   exact ⟨_,by omega,i+1,rfl,F.to ⟨rfl,rfl,rfl,trivial⟩,M,by omega,ck0 hS hXi hok hnk hr (by unfold Hh;rw [Hd hK];clear F M;grind)⟩
  have h27:=Ai h27b;have h27c:(Xi.known)=true:=(Ai h27b);refine k_s rfl (Aj h27c)<|k_s rfl (Aj h27c)<|k_s rfl (Aj h27c)<|k_s rfl (Aj h27c)<|k_s rfl (Aj h27c)<|k_s rfl (Aj h27c)<|k_s rfl (Aj h27c)<|k_s rfl (Aj h27c)<|k_s rfl (Aj h27c)<|k_s rfl (Aj h27c)<|k_s rfl (Aj h27c)<|k_s rfl (Aj h27c)<|k_s rfl (Aj h27c)<|k_s rfl (Aj h27c)<|k_s rfl (Aj h27c)<|k_s rfl (Aj h27c)<|k_s rfl (Aj h27c)<|Cb rfl h19b (fun a F w _=>Fx F rfl (Aj h27c) rfl)<|k_f (fun a F w _=>Fx F rfl h19b rfl) rfl<|De<|?_
  generalize ({ w with drawn:=w.drawn+1 }:World)=w at M ⊢
  refine D4 rfl rfl<|Aq<|Az<|Aa rfl<|Bx rfl rfl<|Ab rfl<|Bc<|Cm<|fun a F=>?_
  exact ⟨_,by omega,i+1,rfl,F.to ⟨rfl,rfl,rfl,trivial⟩,M,by omega,ck0 hS hXi hok hnk hr (by unfold Hh;rw [Hd hK];clear F M;grind)⟩
 intro h28b;have h28:=dF h28b;refine B5<|Bw<|Bw<|Dj<|Ac<|Aa rfl<|Bs Amt rfl rfl (N8 (l:=l) M S)<|?_;clear M;rintro _ w M rfl
 refine Ab rfl<|Ae<|Ad rfl rfl<|?_
 exact ⟨M.weaken dS1,by rw [Iu hv (by omega) hS (by omega)]⟩
end Go.Proofs.YtmmhmcplegpenaaGreatDoor
namespace Go.Y
open Go
section
variable {w0 w:World} {G:A4} {L Ls:List Res}
open Classical in
noncomputable def Pm (G:A4) (Ls:List Res) (w:World):A4:=fun r=>if ∃ x∈Ls,x.foot=some r then w.heap[r]? else G r
theorem Afs {x:Res} (hx:x∈Ls) {b:Nat} (hb:x.foot=some b):Pm G Ls w b=w.heap[b]?:=by
 unfold Pm;rw [if_pos ⟨x,hx,hb⟩]
theorem Mem.lend (M:Mem w0 G (Ls++L) w):Gle G (Pm G Ls w)∧Mem w0 (Pm G Ls w) L w:=by
 have hfree:∀ r,(∃ x∈Ls,x.foot=some r)→G r=none:=fun r ⟨x,hx,hb⟩=>M.free x (List.mem_append_left _ hx) r hb;refine ⟨fun r o hr=>?_,⟨M.os,M.tape,M.output,M.grow,fun r o hr=>?_,fun x hx=>M.own x (List.mem_append_right _ hx),fun x hx b hb=>?_,(List.pairwise_append.1 M.apart).2.1⟩⟩
 ·unfold Pm
  by_cases h:∃ x∈Ls,x.foot=some r
  ·rw [hfree r h] at hr;cases hr
  rw [if_neg h];exact hr
 ·unfold Pm at hr
  by_cases h:∃ x∈Ls,x.foot=some r
  ·rw [if_pos h] at hr;exact hr
  rw [if_neg h] at hr;exact M.pers r o hr
 unfold Pm;rw [if_neg]
 ·exact M.free x (List.mem_append_right _ hx) b hb
 rintro ⟨y,hy,hyb⟩
 exact (List.pairwise_append.1 M.apart).2.2 y hy x hx b hyb hb
theorem Mem.back {w':World} (M:Mem w0 G (Ls++L) w) (M':Mem w0 (Pm G Ls w) L w'):Mem w0 G (Ls++L) w':=by
 have hle:=M.lend.1;refine ⟨M'.os,M'.tape,M'.output,M'.grow,fun r o hr=>M'.pers r o (hle r o hr),fun x hx=>?_,M.free,M.apart⟩
 rcases List.mem_append.1 hx with hx | hx
 ·refine Res.holds_of (M.own x (List.mem_append_left _ hx)) fun b hb=>?_;have hlt:=Res.foot_lt (M.own x (List.mem_append_left _ hx)) hb;have h1:Pm G Ls w b=some w.heap[b]:=by rw [Afs hx hb];exact Array.getElem?_eq_getElem hlt
  rw [M'.pers b _ h1,Array.getElem?_eq_getElem hlt]
 exact M'.own x hx
theorem Aai {α:Type} {rd:Rd α} {sz:Nat} {a:Option Addr} {c:Nat} {cs:List Value} {t:TypeId} {xs:List α} (M:Mem w0 G (Ls++L) w) (hx:Res.row (.slice a xs.length c) xs.length cs t sz∈Ls) (hE:Els rd sz (Pm G Ls w) cs xs) (hs:0 < sz) :
  Au rd sz (Pm G Ls w) (.slice a xs.length c) xs:=by
 obtain ⟨⟨hl,h2⟩,h1⟩:=M.own _ (List.mem_append_left L hx)
 rcases h2 with ⟨h,h0⟩ | ⟨g,cap,cur,hv,_,hg,hnc,hcm,hcs,htake⟩
 ·have:xs=[]:=List.eq_nil_of_length_eq_zero h0;subst this;simp only [Value.slice.injEq] at h;obtain ⟨rfl,_,rfl⟩:=h
  exact Au.nil
 simp only [Value.slice.injEq,true_and] at hv;obtain ⟨rfl,rfl⟩:=hv;refine Au.of_cells (cs:=cs) hE h1 ?_ hnc (by simpa [maxLen] using hcm);intro j u hj;have hj':j < xs.length * sz:=by
  rw [← hl]
  rcases Nat.lt_or_ge j cs.length with h' | h'
  ·exact h'
  simp [List.getElem?_eq_none h'] at hj
 rw [← htake,List.getElem?_take,if_pos hj'] at hj;have h9:Pm G Ls w g=some (.cells cur t (0,0)):=by rw [Afs hx rfl];exact hg
 simp only [H6,h9,Nat.zero_add]
 simpa using hj
end
end Go.Y
namespace Go.Proofs.YtmmhmcplegpenaaGreatDoor
open Go Go.Y Go.Proofs
def ROWM (a:Option Addr) (k:Nat) (m:List Value):Res:=.row (.slice a k k) k m 9 1
def rdC (Ls:List Res):Rd ItemD:=fun G cs x=>∃ (a:Option Addr) (m:List Value),cs=[.int .u64 ((x.key:Nat):Int),.int .u8 ((x.typ:Nat):Int),.string (str x.text),.slice a x.marks.length x.marks.length] ∧
 x.key < 18446744073709551616∧x.typ < 256∧x.text.length≤9223372036854775807∧x.marks.length≤9223372036854775807∧ROWM a x.marks.length m∈Ls∧Els D3 1 G m x.marks
def Ade (Ls:List Res):Rd (ItemD × Bool):=fun G cs p=>(p.2=true→rdC Ls G cs p.1)∧(p.2=false→Cv G cs p.1)
theorem Alo {Ls:List Res}:Jo (rdC Ls):=by
 rintro G G' cs x h ⟨a,m,h1,h2,h3,h4,h5,h6,h7⟩
 exact ⟨a,m,h1,h2,h3,h4,h5,h6,h7.mono Bi h⟩
theorem Ahy {Ls:List Res} {r:Res} {G:A4} {cs:List Value} {p:ItemD × Bool} (h:Ade Ls G cs p):Ade (r::Ls) G cs p:=⟨fun e=>by
 obtain ⟨a,m,h1,h2,h3,h4,h5,h6,h7⟩:=h.1 e
 exact ⟨a,m,h1,h2,h3,h4,h5,List.mem_cons_of_mem _ h6,h7⟩,h.2⟩
theorem Aba {Ls:List Res} {r:Res} {G:A4}:∀ {ys:List (ItemD × Bool)} {cs:List Value},Els (Ade Ls) 4 G cs ys→Els (Ade (r::Ls)) 4 G cs ys
 | [],cs,h=>h
 | y::ys,cs,h=>by
  obtain ⟨c,r',h1,h2,h3,h4⟩:=h
  exact ⟨c,r',h1,h2,Ahy h3,Aba h4⟩
def ysF (xs:List ItemD) (i:Nat):List (ItemD × Bool):=(xs.take i).map (·,true)++(xs.drop i).map (·,false)
theorem ysF_get {xs:List ItemD} {i:Nat} {x:ItemD} (h:xs[i]?=some x):(ysF xs i)[i]?=some (x,false):=by
 have hi:=Bj h;unfold ysF;rw [List.getElem?_append_right (by simp;omega),List.length_map,List.length_take,Nat.min_eq_left (by omega),Nat.sub_self,List.getElem?_map,List.getElem?_drop,Nat.add_zero,h];rfl
theorem ysF_set {xs:List ItemD} {i:Nat} {x:ItemD} (h:xs[i]?=some x):(ysF xs i).set i (x,true)=ysF xs (i+1):=by
 have hi:=Bj h;have hl:((xs.take i).map (·,true)).length=i:=by simp;omega
 unfold ysF;have hx:xs[i]=x:=by rw [List.getElem?_eq_getElem hi] at h;simpa using h
 have hdr:xs.drop i=x::xs.drop (i+1):=by rw [List.drop_eq_getElem_cons hi,hx]
 rw [List.set_append_right _ _ (by omega),hl,Nat.sub_self,List.take_add_one,h,hdr]
 simp
theorem Aaz {G:A4}:∀ {xs:List ItemD} {cs:List Value},Els Cv 4 G cs xs→Els (Ade []) 4 G cs (ysF xs 0)
 | [],cs,h=>h
 | x::xs,cs,h=>by
  obtain ⟨c,r',h1,h2,h3,h4⟩:=h
  exact ⟨c,r',h1,h2,⟨(fun e=>by cases e),fun _=>h3⟩,Aaz h4⟩
theorem Aox {G:A4} {Ls:List Res} {xs:List ItemD} {cs:List Value} {i:Nat} (h:Els (Ade Ls) 4 G cs (ysF xs i)) (hi:xs.length≤i):Els (rdC Ls) 4 G cs xs:=by
 have e:ysF xs i=xs.map (·,true):=by unfold ysF;rw [List.take_of_length_le hi,List.drop_eq_nil_of_le hi];simp
 rw [e] at h;clear e hi
 induction xs generalizing cs with
 | nil=>exact h
 | cons x xs ih =>
  obtain ⟨c,r',h1,h2,h3,h4⟩:=h
  exact ⟨c,r',h1,h2,h3.1 rfl,ih h4⟩
theorem Ape {w0 w:World} {G:A4} {L:List Res} (M:Mem w0 G L w) {a1:Option Addr} {c1:Nat} {xs:List ItemD} (S:Au Cv 4 G (.slice a1 xs.length c1) xs) (hN:xs.length≤1000000) (hM:∀ x∈xs,x.marks.length≤1000000) :
  Calls Tryz.prog 15 #[.slice a1 xs.length c1] w (Ky w0 G fun L' v=>∃ (a:Option Addr) (cs:List Value) (Ls:List Res),v=.slice a xs.length xs.length∧L' = (.row (.slice a xs.length xs.length) xs.length cs 26 4::(Ls++L))∧Els (rdC Ls) 4 G cs xs):=by
 refine Ay (vs:=[_]) Tryz.func15 rfl (n:=24) rfl rfl<|Ac<|Ab rfl<|Ac<|Aa rfl<|P6 ent54 rfl rfl (Agj (xs:=xs) M S (by omega))<|?_;clear M;rintro _ _ w M ⟨aq1,csq1,rfl,rfl,Eq1⟩
 refine Ab rfl<|Ag<|Ac<|Aa rfl<|B8 B9.k rfl<|Aa rfl<|Ax<|?_
 have E0:=Aaz Eq1;intro a F;refine Bz (fun m a' w'=>∃ (i:Nat),∃ (Ls:List Res),∃ (cso:List Value),m=xs.length - i∧Fits 24 a' [(3,.slice aq1 xs.length xs.length),(7,.slice aq1 xs.length xs.length),(8,.int .i64 ((xs.length:Nat):Int)),(9,.int .i64 ((i:Nat):Int))]∧Mem w0 G (.row (.slice aq1 xs.length xs.length) (xs.length) (cso) 26 4::(Ls++L)) w'∧(i≤xs.length)∧(Els (Ade Ls) 4 G cso (ysF xs i))) _ ⟨0,[],csq1,rfl,F.to ⟨rfl,rfl,rfl,rfl,trivial⟩,M,Nat.zero_le _,E0⟩ ?_;clear F M;rintro m a w ⟨i,Ls,cso,rfl,F,M,hi,Eo⟩;revert a;refine Ac<|C2 rfl rfl<|Ag<|Ap rfl ?_ ?_
 ·intro h2b;have h2:=dT h2b;refine Aq<|Ag<|Ax<|Ac<|Aa rfl<|Ab rfl<|Bc<|Cm<|?_
  obtain ⟨Xi,hXi⟩:=A2 (xs:=xs) (i:=i) (by omega);have hYi:=ysF_get hXi;refine Az<|Aa rfl<|Aa rfl<|Aa rfl<|Aa rfl<|?_
  obtain ⟨be3,_,Ie3,hme3,_,Ae3,hTe3⟩:=M.atRow (k:=0) rfl (by decide) Eo hYi;obtain ⟨mae3,mce3,rfl,hke3,hte3,hxe3,hne3,SMe3⟩:=hTe3.2 rfl;refine D0 B9.k Bf Ie3 rfl rfl<|A0 Bf.k rfl rfl<|s_le Cw Ae3 3 rfl rfl rfl rfl<|P6 ent55 rfl rfl (Agi (xs:=Xi.marks) M SMe3 (hM Xi (List.mem_of_getElem? hXi)))<|?_;clear M;rintro _ _ w M ⟨aq4,csq4,rfl,rfl,Eq4⟩
  have em5:=Aba (r:=.row (.slice aq4 Xi.marks.length Xi.marks.length) (Xi.marks.length) (csq4) 9 1) Eo;obtain ⟨be6,_,Ie6,hme6,_,Ae6,hTe6⟩:=M.atRow (k:=1) rfl (by decide) em5 hYi;obtain ⟨mae6,mce6,rfl,hke6,hte6,hxe6,hne6,SMe6⟩:=hTe6.2 rfl;refine D0 B9.k Bf Ie6 rfl rfl<|A0 Bf.k rfl rfl<|fun a F=>?_
  refine Q7 F M Cw rfl (k:=1) rfl em5 Ie6 hYi (f:=3) (by decide) rfl rfl rfl rfl (X':=(Xi,true)) (fun ch _ h=>⟨fun _=>by obtain ⟨a_,c_,rfl,h1,h2,h3,h4,_⟩:=h.2 rfl;exact ⟨aq4,csq4,rfl,h1,h2,h3,h4,List.mem_cons_self,Eq4⟩,fun h_=>by cases h_⟩) ?_;clear F M a;intro csu7 w a M Eu7 F;revert a;refine Bc<|Aoy<|Cm<|?_
  replace M:=M.perm (Ao _ 1 _ rfl);change Mem w0 G (_::_::(Ls++L)) _ at M;change Mem w0 G (.row (.slice aq1 xs.length xs.length) (xs.length) (csu7) 26 4::((.row (.slice aq4 Xi.marks.length Xi.marks.length) (Xi.marks.length) (csq4) 9 1::Ls)++L)) _ at M;refine Az<|Bx rfl rfl<|Aa rfl<|Bc<|Cm<|fun a F=>?_
  exact ⟨_,by omega,i+1,(.row (.slice aq4 Xi.marks.length Xi.marks.length) (Xi.marks.length) (csq4) 9 1::Ls),csu7,rfl,F.to ⟨rfl,rfl,rfl,rfl,trivial⟩,M,by omega,by have h_:=Eu7;rwa [ysF_set hXi] at h_⟩
 intro h8b;have h8:=dF h8b;refine B5<|Bw<|Bw<|Dj<|Ac<|Aa rfl<|Ab rfl<|Ae<|Ad rfl rfl<|?_
 exact ⟨_,M,_,_,Ls,rfl,rfl,Aox Eo (by omega)⟩
open Go Go.Y
def Oc (Ls:List Res):Rd EntD:=fun G cs x=>∃ c1,cs=c1++[.int .i64 x.size,.bool x.known]∧rdC Ls G c1 x.item∧Bb .i64 x.size
theorem Ain {Ls:List Res}:Jo (Oc Ls):=by
 rintro G G' cs x h ⟨c1,h1,h2,h3⟩
 exact ⟨c1,h1,Alo _ _ _ _ h h2,h3⟩
def Adc (Ls:List Res):Rd (Option EntD):=fun G cs o=>match o with
 | some x=>Oc Ls G cs x
 | none=>True
theorem Aim {Ls:List Res}:Jo (Adc Ls):=by
 intro G G' cs o h hr
 cases o with
 | none=>trivial
 | some x=>exact Ain _ _ _ _ h hr
theorem Afc {Ls Ls':List Res} (hs:∀ r∈Ls,r∈Ls') {G:A4} {cs:List Value} {x:ItemD} (h:rdC Ls G cs x):rdC Ls' G cs x:=by
 obtain ⟨a,m,h1,h2,h3,h4,h5,h6,h7⟩:=h
 exact ⟨a,m,h1,h2,h3,h4,h5,hs _ h6,h7⟩
theorem Akx {Ls Ls':List Res} (hs:∀ r∈Ls,r∈Ls') {G:A4} {cs:List Value} {x:EntD} (h:Oc Ls G cs x):Oc Ls' G cs x:=by
 obtain ⟨c1,h1,h2,h3⟩:=h
 exact ⟨c1,h1,Afc hs h2,h3⟩
theorem Ws {Ls Ls':List Res} (hs:∀ r∈Ls,r∈Ls') {G:A4}:∀ {ys:List (Option EntD)} {cs:List Value},Els (Adc Ls) 6 G cs ys→Els (Adc Ls') 6 G cs ys
 | [],cs,h=>h
 | y::ys,cs,h=>by
  obtain ⟨c,r',h1,h2,h3,h4⟩:=h;refine ⟨c,r',h1,h2,?_,Ws hs h4⟩
  cases y with
  | none=>trivial
  | some x=>exact Akx hs h3
theorem Wt {Ls:List Res} {G:A4}:∀ {ys:List EntD} {cs:List Value},Els (Adc Ls) 6 G cs (ys.map some)→Els (Oc Ls) 6 G cs ys
 | [],cs,h=>h
 | y::ys,cs,h=>by
  obtain ⟨c,r',h1,h2,h3,h4⟩:=h
  exact ⟨c,r',h1,h2,h3,Wt h4⟩
theorem Un {w0 w:World} {G:A4} {L Ls LL:List Res} (hsub:∀ x∈Ls,x∈LL) (M:Mem w0 G (LL++L) w):∀ {xs:List EntD} {cs:List Value},Els (Oc Ls) 6 G cs xs→Els Ca 6 (Pm G LL w) cs xs
 | [],cs,h=>h
 | x::xs,cs,h=>by
  obtain ⟨c,r',h1,h2,⟨c1,e1,⟨a,m,e2,k1,k2,k3,k4,hm,hE⟩,h3⟩,h4⟩:=h
  exact ⟨c,r',h1,h2,⟨c1,e1,⟨a,x.item.marks.length,e2,k1,k2,k3,k4,Aai M (hsub _ hm) (hE.mono Bi M.lend.1) (by decide)⟩,h3⟩,Un hsub M h4⟩
def Cy (a:Option Addr) (n:Nat) (cs:List Value):Res:=.row (.slice a n n) n cs 69 6
theorem Zt {w0 w:World} {G:A4} {L Ls:List Res} {a:Option Addr} {cs:List Value} {xs:List EntD} (M:Mem w0 G ((Cy a xs.length cs::Ls)++L) w) (E:Els (Oc Ls) 6 G cs xs) :
  Au Ca 6 (Pm G (Cy a xs.length cs::Ls) w) (.slice a xs.length xs.length) xs :=
 Aai (t:=69) M (by simp [Cy]) (Un (fun x hx=>List.mem_cons_of_mem _ hx) M E) (by decide)
theorem Cp (A R L:List Res):(A++(R++L)).Perm (R++(A++L)):=by
 rw [← List.append_assoc,← List.append_assoc]
 exact List.Perm.append_right L List.perm_append_comm
section
variable {α β:Type}
def Og (f:α→β) (z:β) (xs:List α) (i:Nat):List β:=(xs.take i).map f++List.replicate (xs.length - i) z
theorem Aab (f:α→β) (z:β) (xs:List α):Og f z xs 0=List.replicate xs.length z:=by simp [Og]
theorem Afl (f:α→β) (z:β) (xs:List α) (i:Nat):(Og f z xs i).length=xs.length:=by simp [Og];omega
theorem Afk {f:α→β} {z:β} {xs:List α} {i:Nat} {x:α} (h:xs[i]?=some x):(Og f z xs i).set i (f x)=Og f z xs (i+1):=by
 have hi:=Bj h;have hl:((xs.take i).map f).length=i:=by simp;omega
 have e:xs.length - i=(xs.length - (i+1))+1:=by omega
 unfold Og;rw [List.set_append_right _ _ (by omega),hl,Nat.sub_self,List.take_add_one,h,e,List.replicate_succ,List.set_cons_zero]
 simp
theorem Afm {f:α→β} {z:β} {xs:List α} {i:Nat} (h:xs.length≤i):Og f z xs i=xs.map f:=by
 unfold Og;rw [List.take_of_length_le h,show xs.length - i=0 by omega];simp
end
def doR (cE:Int) (ins:Bool) (cnt:Int) (f:Nat→Int) (n:Nat) (out:List EntD):List EntD × Int :=
 if cE≠0 then ([],cE) else if ins=false then ([],4) else if 1024 < cnt then ([],3) else if Cc f n≠0 then ([],Cc f n) else if D9 out≠0 then ([],D9 out) else (out,0)
section
variable {cE:Int} {ins:Bool} {cnt:Int} {f:Nat→Int} {n:Nat} {out:List EntD}
theorem Aoz (h:cE=0) (h1:ins=false):doR cE ins cnt f n out=([],4):=by unfold doR;rw [if_neg (not_not_intro h),if_pos h1]
theorem do_3 (h:cE=0) (h1:ins=true) (h2:1024 < cnt):doR cE ins cnt f n out=([],3):=by unfold doR;rw [if_neg (not_not_intro h),if_neg (by simp [h1]),if_pos h2]
theorem do_e {i:Nat} {z:Int} (h:cE=0) (h1:ins=true) (h2:¬ 1024 < cnt) (h3:Cc f i=0) (hi:i < n) (hz:f i=z) (h0:z≠0):doR cE ins cnt f n out=([],z):=by
 have:=J8 h3 hi (by rw [hz];exact h0);unfold doR;rw [if_neg (not_not_intro h),if_neg (by simp [h1]),if_neg h2,if_pos (by rw [this,hz];exact h0),this,hz]
theorem Ajf (h:cE=0) (h1:ins=true) (h2:¬ 1024 < cnt) (h3:Cc f n=0) (h4:D9 out≠0):doR cE ins cnt f n out=([],D9 out):=by
 unfold doR;rw [if_neg (not_not_intro h),if_neg (by simp [h1]),if_neg h2,if_neg (not_not_intro h3),if_pos h4]
theorem Np (h:cE=0) (h1:ins=true) (h2:¬ 1024 < cnt) (h3:Cc f n=0) (h4:D9 out=0):doR cE ins cnt f n out=(out,0):=by
 unfold doR;rw [if_neg (not_not_intro h),if_neg (by simp [h1]),if_neg h2,if_neg (not_not_intro h3),if_neg (not_not_intro h4)]
end
open Classical in
noncomputable def inE (c:RulesD) (x:ItemD) (k:Int):Int:=if ¬ ItemOk (c.kinds.length:Int) x then 6 else if k≠0 then k else Hv c x
theorem Aga {c:RulesD} {x:ItemD} {k:Int} (h:¬ ItemOk (c.kinds.length:Int) x):inE c x k=6:=by unfold inE;rw [if_pos h]
theorem Ami {c:RulesD} {x:ItemD} {k:Int} (h:ItemOk (c.kinds.length:Int) x) (h2:k≠0):inE c x k=k:=by unfold inE;rw [if_neg (not_not_intro h),if_pos h2]
theorem Afz {c:RulesD} {x:ItemD} {k:Int} (h:ItemOk (c.kinds.length:Int) x) (h2:k=0):inE c x k=Hv c x:=by unfold inE;rw [if_neg (not_not_intro h),if_neg (not_not_intro h2)]
noncomputable def Kx (c:RulesD) (xs:List ItemD) (fK:Nat→Int) (i:Nat):Int:=match xs[i]? with
 | some x=>inE c x (fK i)
 | none=>0
theorem T9 {c:RulesD} {xs:List ItemD} {fK:Nat→Int} {i:Nat} {x:ItemD} (h:xs[i]?=some x):Kx c xs fK i=inE c x (fK i):=by unfold Kx;rw [h]
theorem Afy {c:RulesD} {xs:List ItemD} {fK:Nat→Int} {n:Nat} (h:Cc (Kx c xs fK) n=0) (hn:xs.length≤n):∀ x∈xs,ItemOk (c.kinds.length:Int) x:=by
 intro x hx;obtain ⟨i,hi⟩:=List.mem_iff_getElem?.1 hx;have h1:=Eh.1 h i (by have:=Bj hi;omega);rw [T9 hi] at h1
 exact Classical.byContradiction fun h2=>by rw [Aga h2] at h1;cases h1
theorem in_step {c:RulesD} {xs:List ItemD} {fK:Nat→Int} {i:Nat} {x:ItemD} (h:Cc (Kx c xs fK) i=0) (hx:xs[i]?=some x) (hz:inE c x (fK i)=0):Cc (Kx c xs fK) (i+1)=0:=by rw [Gt h,T9 hx,hz]
end Go.Proofs.YtmmhmcplegpenaaGreatDoor
