/- The walks, part LD. · Any number of owned things lent for a while, and taken back. · The walks, part Z. · Lists: lists in new memory, entry by entry; what 'do' hands back. · The walks, part LE. · The walks, part LF. · The walks, part LG. -/
import Derived.Test.YtmmhmcplegpenaaGreatDoorJ8
import Derived.Test.YtmmhmcplegpenaaGreatDoorJ7
set_option linter.unusedSimpArgs false
set_option linter.unusedVariables false
set_option maxRecDepth 10000
namespace Go.Proofs.YtmmhmcplegpenaaGreatDoor
open Go Go.Y Go.Proofs
variable {w0 w:World} {G:Aq} {L:List Res}
set_option maxHeartbeats 1600000
theorem Aap (M:Mem w0 G L w) {a1:Option Addr} {c1:Nat} {l:List EntD} (S:Ag Bg 6 G (.slice a1 l.length c1) l) {z n:Int} (hl2:l.length≤1024):Calls Tryz.prog 71 #[.slice a1 l.length c1,.int .i64 z,.int .i64 n] w (Ret w0 G L fun G' v=>∃ (a:Option Addr) (cc:Nat),v=.tuple #[.slice a (Le l z n).1.length cc,.int .i64 (Le l z n).2]∧Ag Bg 6 G' (.slice a (Le l z n).1.length cc) (Le l z n).1):=by
 have bS:=S.bound;refine Al (vs:=[_,_,_]) Tryz.func71 rfl (n:=40) rfl rfl<|?_
 refine wk ?_;refine A4 Zl rfl rfl (J1 (z:=z) (n:=n) (m:=((l.length:Nat):Int)) M (by omega))<|?_;clear M;rintro _ w M rfl
 refine wk ?_;refine qD rfl ?_ ?_
 ·intro h1;refine wk ?_;refine C8 rfl rfl rfl<|?_
  exact ⟨_,(Gle.refl _),M.weaken (sR _),none,0,by rw [Agv (Fv.1 (by assumption))];rfl,by rw [Agv (Fv.1 (by assumption))];exact Ag.nil⟩
 intro h2;refine wk ?_;have hin:Av z n ((l.length:Nat):Int):=Classical.byContradiction fun h_=>absurd (Fv.2 h_) (by assumption);have hin2:=hin;unfold Av at hin2;obtain ⟨p,rfl⟩:=Int.eq_ofNat_of_zero_le (show 0≤z by omega);obtain ⟨u,rfl⟩:=Int.eq_ofNat_of_zero_le (show 0≤n by omega);refine wk ?_;have M:=M.nilrow 69 6;replace M:=z_M M;intro a F;refine Ba (fun m a' w'=>∃ (i:Nat),∃ (ar:Option Addr),∃ (nr:Nat),∃ (cr:Nat),∃ (csr:List Value),m=l.length - i∧Fits 40 a' [(0,.slice a1 l.length c1),(1,.int .i64 ((p:Nat):Int)),(2,.int .i64 ((u:Nat):Int)),(8,.slice ar nr cr),(9,.int .i64 ((i:Nat):Int))]∧Mem w0 G (.row (.slice ar nr cr) (nr) (csr) 69 6::L) w'∧(i≤l.length)∧(Els Bg 6 G csr (Tj l p u i))∧(nr≤i)) _ ⟨0,none,0,0,[],rfl,F.to ⟨rfl,rfl,rfl,rfl,rfl,trivial⟩,M,by omega,by rw [Ajz];exact Els.nil,by omega⟩ ?_;clear F M;rintro m a w ⟨i,ar,nr,cr,csr,rfl,F,M,hi,Er,hnr⟩;revert a;refine wk ?_;refine qD rfl ?_ ?_
 ·intro h3;refine wk ?_
  rcases bE (decide (((i:Nat):Int) < ((p:Nat):Int))) with h4b | h9b
  ·skip
   have h4:=dT h4b;refine wk ?_;obtain ⟨Xe5,hXe5⟩:=Ap (xs:=l) (i:=i) (by omega);obtain ⟨be5,oe5,_,Ie5,_,Ae5,hTe5⟩:=S.at hXe5;obtain ⟨c1e5,hcse5,hPe5,hBe5⟩:=hTe5;obtain ⟨mae5,mce5,rfl,hke5,hte5,hxe5,hne5,SMe5⟩:=hPe5;subst hcse5;have hIe5:(Xe5.item.key < 18446744073709551616∧Xe5.item.typ < 256∧Xe5.item.text.length≤9223372036854775807):=⟨hke5,hte5,hxe5⟩;have hQe5:-9223372036854775808≤Xe5.size∧Xe5.size≤9223372036854775807:=hBe5;refine wk ?_;intro a F;refine Ar F M C6.k B9 rfl rfl (cs:=[.int .u64 ((Xe5.item.key:Nat):Int),.int .u8 ((Xe5.item.typ:Nat):Int),.string (str Xe5.item.text),.slice mae5 Xe5.item.marks.length mce5,.int .i64 Xe5.size,.bool Xe5.known]) rfl rfl (by simp [Value.oneCell']) (by decide) rfl ?_;clear F M a;intro v6 w a M F;obtain ⟨av6,cv6,rfl,hlev6,hcmv6,hlv6⟩:=M.row_shape (k:=0) rfl;have Eb7:Els Bg 6 G [.int .u64 ((Xe5.item.key:Nat):Int),.int .u8 ((Xe5.item.typ:Nat):Int),.string (str Xe5.item.text),.slice mae5 Xe5.item.marks.length mce5,.int .i64 Xe5.size,.bool Xe5.known] [Xe5]:=⟨[.int .u64 ((Xe5.item.key:Nat):Int),.int .u8 ((Xe5.item.typ:Nat):Int),.string (str Xe5.item.text),.slice mae5 Xe5.item.marks.length mce5,.int .i64 Xe5.size,.bool Xe5.known],[],rfl,rfl,⟨[.int .u64 ((Xe5.item.key:Nat):Int),.int .u8 ((Xe5.item.typ:Nat):Int),.string (str Xe5.item.text),.slice mae5 Xe5.item.marks.length mce5],rfl,⟨mae5,mce5,rfl,hke5,hte5,hxe5,hne5,SMe5⟩,hBe5⟩,rfl⟩;refine A3 F M (k:=1) (k2:=0) rfl rfl C6.k B9 rfl rfl (by decide) rfl rfl (by show _ * 72≤_;(try simp only [List.length_drop,List.length_take,List.length_append,List.length_cons,List.length_nil]);omega) (by (try simp only [List.length_drop,List.length_take,List.length_append,List.length_cons,List.length_nil]);omega) rfl ?_;clear F M a;intro v8 w a M F
   have Ev8:=Els.append Er Eb7;obtain ⟨av8,cv8,rfl,hlev8,hcmv8,hlv8⟩:=M.row_shape (k:=1) rfl;revert a;refine wk ?_;intro a F
   exact ⟨_,by omega,i+1,(av8),(nr+1),(cv8),csr++([.int .u64 ((Xe5.item.key:Nat):Int),.int .u8 ((Xe5.item.typ:Nat):Int),.string (str Xe5.item.text),.slice mae5 Xe5.item.marks.length mce5,.int .i64 Xe5.size,.bool Xe5.known]),rfl,F.to ⟨rfl,rfl,rfl,rfl,rfl,trivial⟩,(M.weaken (cN (cC (sR _)))),by omega,by have h_:=Ev8;rwa [Agw hXe5 (by omega)] at h_,by omega⟩
  have h9:=dF h9b;refine wk ?_;refine qD rfl ?_ ?_
  ·intro h10;refine wk ?_;obtain ⟨Xe11,hXe11⟩:=Ap (xs:=l) (i:=i) (by omega);obtain ⟨be11,oe11,_,Ie11,_,Ae11,hTe11⟩:=S.at hXe11;obtain ⟨c1e11,hcse11,hPe11,hBe11⟩:=hTe11;obtain ⟨mae11,mce11,rfl,hke11,hte11,hxe11,hne11,SMe11⟩:=hPe11;subst hcse11;have hIe11:(Xe11.item.key < 18446744073709551616∧Xe11.item.typ < 256∧Xe11.item.text.length≤9223372036854775807):=⟨hke11,hte11,hxe11⟩;have hQe11:-9223372036854775808≤Xe11.size∧Xe11.size≤9223372036854775807:=hBe11;refine wk ?_;intro a F;refine Ar F M C6.k B9 rfl rfl (cs:=[.int .u64 ((Xe11.item.key:Nat):Int),.int .u8 ((Xe11.item.typ:Nat):Int),.string (str Xe11.item.text),.slice mae11 Xe11.item.marks.length mce11,.int .i64 Xe11.size,.bool Xe11.known]) rfl rfl (by simp [Value.oneCell']) (by decide) rfl ?_;clear F M a;intro v12 w a M F;obtain ⟨av12,cv12,rfl,hlev12,hcmv12,hlv12⟩:=M.row_shape (k:=0) rfl;have Eb13:Els Bg 6 G [.int .u64 ((Xe11.item.key:Nat):Int),.int .u8 ((Xe11.item.typ:Nat):Int),.string (str Xe11.item.text),.slice mae11 Xe11.item.marks.length mce11,.int .i64 Xe11.size,.bool Xe11.known] [Xe11]:=⟨[.int .u64 ((Xe11.item.key:Nat):Int),.int .u8 ((Xe11.item.typ:Nat):Int),.string (str Xe11.item.text),.slice mae11 Xe11.item.marks.length mce11,.int .i64 Xe11.size,.bool Xe11.known],[],rfl,rfl,⟨[.int .u64 ((Xe11.item.key:Nat):Int),.int .u8 ((Xe11.item.typ:Nat):Int),.string (str Xe11.item.text),.slice mae11 Xe11.item.marks.length mce11],rfl,⟨mae11,mce11,rfl,hke11,hte11,hxe11,hne11,SMe11⟩,hBe11⟩,rfl⟩;refine A3 F M (k:=1) (k2:=0) rfl rfl C6.k B9 rfl rfl (by decide) rfl rfl (by show _ * 72≤_;(try simp only [List.length_drop,List.length_take,List.length_append,List.length_cons,List.length_nil]);omega) (by (try simp only [List.length_drop,List.length_take,List.length_append,List.length_cons,List.length_nil]);omega) rfl ?_;clear F M a;intro v14 w a M F
   have Ev14:=Els.append Er Eb13;obtain ⟨av14,cv14,rfl,hlev14,hcmv14,hlv14⟩:=M.row_shape (k:=1) rfl;revert a;refine wk ?_;intro a F
   exact ⟨_,by omega,i+1,(av14),(nr+1),(cv14),csr++([.int .u64 ((Xe11.item.key:Nat):Int),.int .u8 ((Xe11.item.typ:Nat):Int),.string (str Xe11.item.text),.slice mae11 Xe11.item.marks.length mce11,.int .i64 Xe11.size,.bool Xe11.known]),rfl,F.to ⟨rfl,rfl,rfl,rfl,rfl,trivial⟩,(M.weaken (cN (cC (sR _)))),by omega,by have h_:=Ev14;rwa [Agw hXe11 (by omega)] at h_,by omega⟩
  intro h15;refine wk ?_;intro a F
  exact ⟨_,by omega,i+1,(ar),(nr),(cr),csr,rfl,F.to ⟨rfl,rfl,rfl,rfl,rfl,trivial⟩,M,by omega,by have h_:=Er;obtain ⟨X_,hX_⟩:=Ap (xs:=l) (i:=i) (by omega);rwa [Aor hX_ (by omega) (by omega)] at h_,by omega⟩
 intro h16;refine wk ?_;intro a F;rw [Aos (by omega)] at Er;obtain ⟨hnz17,Gz17,az17,cz17,hGz17,hez17,Sz17,M⟩:=M.freeze_row Aa (k:=0) rfl Er (by decide);clear hez17 az17 cz17;replace S:=S.mono Aa hGz17;rw [hnz17] at F Sz17;revert a;refine wk ?_;refine C8 rfl rfl rfl<|?_
 exact ⟨_,hGz17,M.weaken (sR _),ar,cr,by rw [V6 hin,Int.toNat_natCast,Int.toNat_natCast],by rw [V6 hin,Int.toNat_natCast,Int.toNat_natCast];exact Sz17⟩
theorem mv_snoc {l:List EntD} {p m k:Nat} {x:EntD} (h:l[p+k]?=some x) (hk:k < m):((l.drop p).take m).take k++[x]=((l.drop p).take m).take (k+1):=by
 rw [List.take_add_one,List.getElem?_take,if_pos hk,List.getElem?_drop,h];rfl
theorem Apm (M:Mem w0 G L w) {a1:Option Addr} {c1:Nat} {l:List EntD} (S:Ag Bg 6 G (.slice a1 l.length c1) l) {z n b:Int} (hl2:l.length≤1024):Calls Tryz.prog 72 #[.slice a1 l.length c1,.int .i64 z,.int .i64 n,.int .i64 b] w (Ret w0 G L fun G' v=>∃ (a:Option Addr) (cc:Nat),v=.tuple #[.slice a (Hs l z n b).1.length cc,.int .i64 (Hs l z n b).2]∧Ag Bg 6 G' (.slice a (Hs l z n b).1.length cc) (Hs l z n b).1):=by
 have bS:=S.bound;refine Al (vs:=[_,_,_,_]) Tryz.func72 rfl (n:=74) rfl rfl<|?_
 refine Bt<|Ew rfl<|Ew rfl<|Cj<|Cj<|?_
 refine fun a F=>Jo (fun a' w'=>∃ (bb:Bool),Fits 74 a' [(0,.slice a1 l.length c1),(1,.int .i64 z),(2,.int .i64 n),(3,.int .i64 b),(29,.bool bb)]∧Mem w0 G (L) w'∧(bb=true↔¬ (Av z n ((l.length:Nat):Int)∧Av b 0 (((l.length:Nat):Int) - n)))) ?_ ?_
 ·skip
  revert a;refine wk ?_;refine A4 Zl rfl rfl (J1 (z:=z) (n:=n) (m:=((l.length:Nat):Int)) M (by omega))<|?_;clear M;rintro _ w M rfl
  refine wk ?_
  rcases bE (decide ((if Av z n ((l.length:Nat):Int) then (1:Int) else 0)=0)) with h1b | h2b
  ·skip
   have h1:=dT h1b;refine wk ?_;intro a F
   exact ⟨true,F.to ⟨rfl,rfl,rfl,rfl,rfl,trivial⟩,M,by simp only [decide_eq_true_eq,Fv] at *;clear F M;first | (simp only [true_iff];exact fun h_=>absurd h_.1 (by assumption)) | grind⟩
  have h2:=dF h2b;have hin1:Av z n ((l.length:Nat):Int):=Classical.byContradiction fun h_=>absurd (Fv.2 h_) (by assumption);unfold Av at hin1;refine wk ?_;refine A4 Zl rfl rfl (J1 (z:=b) (n:=0) (m:=((l.length:Nat):Int) - n) M (by omega))<|?_;clear M;rintro _ w M rfl
  refine wk ?_;intro a F
  exact ⟨(decide ((if Av b 0 (((l.length:Nat):Int) - n) then (1:Int) else 0)=0)),F.to ⟨rfl,rfl,rfl,rfl,rfl,trivial⟩,M,by simp only [decide_eq_true_eq,Fv] at *;clear F M;first | (simp only [true_iff];exact fun h_=>absurd h_.1 (by assumption)) | grind⟩
 clear F M;rintro a w ⟨bb,F,M,hbb⟩;revert a;refine F1<|?_
 refine Ae rfl ?_ ?_
 ·intro h3b;have h3:(bb)=true:=h3b;refine wk ?_;refine C8 rfl rfl rfl<|?_
  exact ⟨_,(Gle.refl _),M.weaken (sR _),none,0,by rw [Ahi (hbb.1 (by assumption))];rfl,by rw [Ahi (hbb.1 (by assumption))];exact Ag.nil⟩
 intro h4b;have h4:(bb)=false:=h4b;refine wk ?_;have hin:Av z n ((l.length:Nat):Int)∧Av b 0 (((l.length:Nat):Int) - n):=Classical.byContradiction fun h_=>by have:=hbb.2 h_;simp_all
 have hin2:=hin;unfold Av at hin2;obtain ⟨p,rfl⟩:=Int.eq_ofNat_of_zero_le (show 0≤z by omega);obtain ⟨u,rfl⟩:=Int.eq_ofNat_of_zero_le (show 0≤n by omega);obtain ⟨q,rfl⟩:=Int.eq_ofNat_of_zero_le (show 0≤b by omega);refine wk ?_;refine D4 ent71 rfl rfl (Aap (l:=l) (z:=((p:Nat):Int)) (n:=((u:Nat):Int)) M S (by omega))<|?_;clear M;rintro _ Gq5 w hGq5 M ⟨aq5,cq5,rfl,Sq5⟩
 replace S:=S.mono Aa hGq5;refine wk ?_;intro a F;rw [V6 hin.1,Int.toNat_natCast,Int.toNat_natCast] at F Sq5;have hml:=Km (l:=l) (p:=p) (n:=u) (by omega);revert a;refine wk ?_;have M:=M.nilrow 69 6;replace M:=z_M M;intro a F;refine Ba (fun m a' w'=>∃ (i:Nat),∃ (ar:Option Addr),∃ (nr:Nat),∃ (cr:Nat),∃ (csr:List Value),m=(Ci l p u []).length+1 - i∧Fits 74 a' [(0,.slice a1 l.length c1),(1,.int .i64 ((p:Nat):Int)),(2,.int .i64 ((u:Nat):Int)),(3,.int .i64 ((q:Nat):Int)),(10,.slice aq5 ((Ci l p u []).length) (cq5)),(12,.slice ar nr cr),(13,.int .i64 ((i:Nat):Int))]∧Mem w0 Gq5 (.row (.slice ar nr cr) (nr) (csr) 69 6::L) w'∧(i≤(Ci l p u []).length+1)∧(Els Bg 6 Gq5 csr (Jk (Ci l p u []) q ((l.drop p).take u) i))∧((i≤q∧nr≤i)∨(q < i∧nr≤i+u))) _ ⟨0,none,0,0,[],rfl,F.to ⟨rfl,rfl,rfl,rfl,rfl,rfl,rfl,trivial⟩,M,by omega,by rw [Wz];exact Els.nil,by omega⟩ ?_;clear F M;rintro m a w ⟨i,ar,nr,cr,csr,rfl,F,M,hi,Er,hnr⟩;revert a;refine wk ?_;refine qD rfl ?_ ?_
 ·intro h6;refine wk ?_;have Ek0:Els Bg 6 Gq5 csr ((Jk (Ci l p u []) q ((l.drop p).take u) i)++((l.drop p).take u).take 0):=by rw [List.take_zero,List.append_nil];exact Er
  intro a F;refine Ba (fun m a' w'=>∃ (k:Nat),∃ (ak:Option Addr),∃ (nk:Nat),∃ (ck:Nat),∃ (csk:List Value),m=u - k∧Fits 74 a' [(0,.slice a1 l.length c1),(1,.int .i64 ((p:Nat):Int)),(2,.int .i64 ((u:Nat):Int)),(3,.int .i64 ((q:Nat):Int)),(10,.slice aq5 ((Ci l p u []).length) (cq5)),(13,.int .i64 ((i:Nat):Int)),(12,.slice ak nk ck),(14,.int .i64 ((k:Nat):Int))]∧Mem w0 Gq5 (.row (.slice ak nk ck) (nk) (csk) 69 6::L) w'∧(k≤u)∧(Els Bg 6 Gq5 csk ((Jk (Ci l p u []) q ((l.drop p).take u) i)++((l.drop p).take u).take k))∧(nk≤nr+k)∧(k=0∨i=q)) _ ⟨0,ar,nr,cr,csr,rfl,F.to ⟨rfl,rfl,rfl,rfl,rfl,rfl,rfl,rfl,trivial⟩,M,by omega,Ek0,by omega,by omega⟩ ?_;clear F M;rintro m a w ⟨k,ak,nk,ck,csk,rfl,F,M,hk,Ek,hnk,hk0⟩;revert a;refine wk ?_
  rcases bE (decide (((i:Nat):Int)=((q:Nat):Int))) with h7b | h26b
  ·skip
   have h7:=dT h7b;refine wk ?_;refine qD rfl ?_ ?_
   ·intro h8;refine wk ?_;obtain ⟨Xe9,hXe9⟩:=Ap (xs:=l) (i:=p+k) (by omega);obtain ⟨be9,oe9,_,Ie9,_,Ae9,hTe9⟩:=S.at hXe9;obtain ⟨c1e9,hcse9,hPe9,hBe9⟩:=hTe9;obtain ⟨mae9,mce9,rfl,hke9,hte9,hxe9,hne9,SMe9⟩:=hPe9;subst hcse9;have hIe9:(Xe9.item.key < 18446744073709551616∧Xe9.item.typ < 256∧Xe9.item.text.length≤9223372036854775807):=⟨hke9,hte9,hxe9⟩;have hQe9:-9223372036854775808≤Xe9.size∧Xe9.size≤9223372036854775807:=hBe9;refine wk ?_;intro a F;refine Ar F M C6.k B9 rfl rfl (cs:=[.int .u64 ((Xe9.item.key:Nat):Int),.int .u8 ((Xe9.item.typ:Nat):Int),.string (str Xe9.item.text),.slice mae9 Xe9.item.marks.length mce9,.int .i64 Xe9.size,.bool Xe9.known]) rfl rfl (by simp [Value.oneCell']) (by decide) rfl ?_;clear F M a;intro v10 w a M F;obtain ⟨av10,cv10,rfl,hlev10,hcmv10,hlv10⟩:=M.row_shape (k:=0) rfl;have Eb11:Els Bg 6 Gq5 [.int .u64 ((Xe9.item.key:Nat):Int),.int .u8 ((Xe9.item.typ:Nat):Int),.string (str Xe9.item.text),.slice mae9 Xe9.item.marks.length mce9,.int .i64 Xe9.size,.bool Xe9.known] [Xe9]:=⟨[.int .u64 ((Xe9.item.key:Nat):Int),.int .u8 ((Xe9.item.typ:Nat):Int),.string (str Xe9.item.text),.slice mae9 Xe9.item.marks.length mce9,.int .i64 Xe9.size,.bool Xe9.known],[],rfl,rfl,⟨[.int .u64 ((Xe9.item.key:Nat):Int),.int .u8 ((Xe9.item.typ:Nat):Int),.string (str Xe9.item.text),.slice mae9 Xe9.item.marks.length mce9],rfl,⟨mae9,mce9,rfl,hke9,hte9,hxe9,hne9,SMe9⟩,hBe9⟩,rfl⟩;refine A3 F M (k:=1) (k2:=0) rfl rfl C6.k B9 rfl rfl (by decide) rfl rfl (by show _ * 72≤_;(try simp only [List.length_drop,List.length_take,List.length_append,List.length_cons,List.length_nil]);omega) (by (try simp only [List.length_drop,List.length_take,List.length_append,List.length_cons,List.length_nil]);omega) rfl ?_;clear F M a;intro v12 w a M F
    have Ev12:=Els.append Ek Eb11;obtain ⟨av12,cv12,rfl,hlev12,hcmv12,hlv12⟩:=M.row_shape (k:=1) rfl;revert a;refine wk ?_;intro a F
    exact ⟨_,by omega,k+1,(av12),(nk+1),(cv12),csk++([.int .u64 ((Xe9.item.key:Nat):Int),.int .u8 ((Xe9.item.typ:Nat):Int),.string (str Xe9.item.text),.slice mae9 Xe9.item.marks.length mce9,.int .i64 Xe9.size,.bool Xe9.known]),rfl,F.to ⟨rfl,rfl,rfl,rfl,rfl,rfl,rfl,rfl,trivial⟩,(M.weaken (cN (cC (sR _)))),by omega,by have h_:=Ev12;rwa [List.append_assoc,mv_snoc hXe9 (by omega)] at h_,by omega,by omega⟩
   intro h13;refine wk ?_
   rcases (show (i=q∧k=u)∨(¬ i=q∧k=0) by omega) with ⟨hiq,hkm⟩ | ⟨hiq,hkm⟩
   ·skip
    have hkk:((l.drop p).take u).take k=(l.drop p).take u:=List.take_of_length_le (by rw [List.length_take];omega);intro a F;rw [hkk] at Ek;revert a;refine wk ?_;refine qD rfl ?_ ?_
    ·intro h14;refine wk ?_;obtain ⟨Xe15,hXe15⟩:=Ap (xs:=(Ci l p u [])) (i:=i) (by omega);obtain ⟨be15,oe15,_,Ie15,_,Ae15,hTe15⟩:=Sq5.at hXe15;obtain ⟨c1e15,hcse15,hPe15,hBe15⟩:=hTe15;obtain ⟨mae15,mce15,rfl,hke15,hte15,hxe15,hne15,SMe15⟩:=hPe15;subst hcse15;have hIe15:(Xe15.item.key < 18446744073709551616∧Xe15.item.typ < 256∧Xe15.item.text.length≤9223372036854775807):=⟨hke15,hte15,hxe15⟩;have hQe15:-9223372036854775808≤Xe15.size∧Xe15.size≤9223372036854775807:=hBe15;refine wk ?_;intro a F;refine Ar F M C6.k B9 rfl rfl (cs:=[.int .u64 ((Xe15.item.key:Nat):Int),.int .u8 ((Xe15.item.typ:Nat):Int),.string (str Xe15.item.text),.slice mae15 Xe15.item.marks.length mce15,.int .i64 Xe15.size,.bool Xe15.known]) rfl rfl (by simp [Value.oneCell']) (by decide) rfl ?_;clear F M a;intro v16 w a M F;obtain ⟨av16,cv16,rfl,hlev16,hcmv16,hlv16⟩:=M.row_shape (k:=0) rfl;have Eb17:Els Bg 6 Gq5 [.int .u64 ((Xe15.item.key:Nat):Int),.int .u8 ((Xe15.item.typ:Nat):Int),.string (str Xe15.item.text),.slice mae15 Xe15.item.marks.length mce15,.int .i64 Xe15.size,.bool Xe15.known] [Xe15]:=⟨[.int .u64 ((Xe15.item.key:Nat):Int),.int .u8 ((Xe15.item.typ:Nat):Int),.string (str Xe15.item.text),.slice mae15 Xe15.item.marks.length mce15,.int .i64 Xe15.size,.bool Xe15.known],[],rfl,rfl,⟨[.int .u64 ((Xe15.item.key:Nat):Int),.int .u8 ((Xe15.item.typ:Nat):Int),.string (str Xe15.item.text),.slice mae15 Xe15.item.marks.length mce15],rfl,⟨mae15,mce15,rfl,hke15,hte15,hxe15,hne15,SMe15⟩,hBe15⟩,rfl⟩;refine A3 F M (k:=1) (k2:=0) rfl rfl C6.k B9 rfl rfl (by decide) rfl rfl (by show _ * 72≤_;(try simp only [List.length_drop,List.length_take,List.length_append,List.length_cons,List.length_nil]);omega) (by (try simp only [List.length_drop,List.length_take,List.length_append,List.length_cons,List.length_nil]);omega) rfl ?_;clear F M a;intro v18 w a M F
     have Ev18:=Els.append Ek Eb17;obtain ⟨av18,cv18,rfl,hlev18,hcmv18,hlv18⟩:=M.row_shape (k:=1) rfl;revert a;refine wk ?_;intro a F
     exact ⟨_,by omega,i+1,(av18),(nk+1),(cv18),csk++([.int .u64 ((Xe15.item.key:Nat):Int),.int .u8 ((Xe15.item.typ:Nat):Int),.string (str Xe15.item.text),.slice mae15 Xe15.item.marks.length mce15,.int .i64 Xe15.size,.bool Xe15.known]),rfl,F.to ⟨rfl,rfl,rfl,rfl,rfl,rfl,rfl,trivial⟩,(M.weaken (cN (cC (sR _)))),by omega,by have h_:=Ev18;first | rwa [Gw hXe15 (by omega)] at h_ | rwa [Fh hXe15 (by omega)] at h_ | rwa [Fg (by omega) (by omega)] at h_ | rwa [Ds (by omega) (by omega) (by omega)] at h_,by omega⟩
    intro h19;refine wk ?_;intro a F
    exact ⟨_,by omega,i+1,(ak),(nk),(ck),csk,rfl,F.to ⟨rfl,rfl,rfl,rfl,rfl,rfl,rfl,trivial⟩,M,by omega,by have h_:=Ek;first | rwa [Gw hX0 (by omega)] at h_ | rwa [Fh hX0 (by omega)] at h_ | rwa [Fg (by omega) (by omega)] at h_ | rwa [Ds (by omega) (by omega) (by omega)] at h_,by omega⟩
   have hkk:((l.drop p).take u).take k=[]:=by rw [hkm];rfl
   intro a F;rw [hkk,List.append_nil] at Ek;revert a;refine wk ?_;refine qD rfl ?_ ?_
   ·intro h20;refine wk ?_;obtain ⟨Xe21,hXe21⟩:=Ap (xs:=(Ci l p u [])) (i:=i) (by omega);obtain ⟨be21,oe21,_,Ie21,_,Ae21,hTe21⟩:=Sq5.at hXe21;obtain ⟨c1e21,hcse21,hPe21,hBe21⟩:=hTe21;obtain ⟨mae21,mce21,rfl,hke21,hte21,hxe21,hne21,SMe21⟩:=hPe21;subst hcse21;have hIe21:(Xe21.item.key < 18446744073709551616∧Xe21.item.typ < 256∧Xe21.item.text.length≤9223372036854775807):=⟨hke21,hte21,hxe21⟩;have hQe21:-9223372036854775808≤Xe21.size∧Xe21.size≤9223372036854775807:=hBe21;refine wk ?_;intro a F;refine Ar F M C6.k B9 rfl rfl (cs:=[.int .u64 ((Xe21.item.key:Nat):Int),.int .u8 ((Xe21.item.typ:Nat):Int),.string (str Xe21.item.text),.slice mae21 Xe21.item.marks.length mce21,.int .i64 Xe21.size,.bool Xe21.known]) rfl rfl (by simp [Value.oneCell']) (by decide) rfl ?_;clear F M a;intro v22 w a M F;obtain ⟨av22,cv22,rfl,hlev22,hcmv22,hlv22⟩:=M.row_shape (k:=0) rfl;have Eb23:Els Bg 6 Gq5 [.int .u64 ((Xe21.item.key:Nat):Int),.int .u8 ((Xe21.item.typ:Nat):Int),.string (str Xe21.item.text),.slice mae21 Xe21.item.marks.length mce21,.int .i64 Xe21.size,.bool Xe21.known] [Xe21]:=⟨[.int .u64 ((Xe21.item.key:Nat):Int),.int .u8 ((Xe21.item.typ:Nat):Int),.string (str Xe21.item.text),.slice mae21 Xe21.item.marks.length mce21,.int .i64 Xe21.size,.bool Xe21.known],[],rfl,rfl,⟨[.int .u64 ((Xe21.item.key:Nat):Int),.int .u8 ((Xe21.item.typ:Nat):Int),.string (str Xe21.item.text),.slice mae21 Xe21.item.marks.length mce21],rfl,⟨mae21,mce21,rfl,hke21,hte21,hxe21,hne21,SMe21⟩,hBe21⟩,rfl⟩;refine A3 F M (k:=1) (k2:=0) rfl rfl C6.k B9 rfl rfl (by decide) rfl rfl (by show _ * 72≤_;(try simp only [List.length_drop,List.length_take,List.length_append,List.length_cons,List.length_nil]);omega) (by (try simp only [List.length_drop,List.length_take,List.length_append,List.length_cons,List.length_nil]);omega) rfl ?_;clear F M a;intro v24 w a M F
    have Ev24:=Els.append Ek Eb23;obtain ⟨av24,cv24,rfl,hlev24,hcmv24,hlv24⟩:=M.row_shape (k:=1) rfl;revert a;refine wk ?_;intro a F
    exact ⟨_,by omega,i+1,(av24),(nk+1),(cv24),csk++([.int .u64 ((Xe21.item.key:Nat):Int),.int .u8 ((Xe21.item.typ:Nat):Int),.string (str Xe21.item.text),.slice mae21 Xe21.item.marks.length mce21,.int .i64 Xe21.size,.bool Xe21.known]),rfl,F.to ⟨rfl,rfl,rfl,rfl,rfl,rfl,rfl,trivial⟩,(M.weaken (cN (cC (sR _)))),by omega,by have h_:=Ev24;first | rwa [Gw hXe21 (by omega)] at h_ | rwa [Fh hXe21 (by omega)] at h_ | rwa [Fg (by omega) (by omega)] at h_ | rwa [Ds (by omega) (by omega) (by omega)] at h_,by omega⟩
   intro h25;refine wk ?_;intro a F
   exact ⟨_,by omega,i+1,(ak),(nk),(ck),csk,rfl,F.to ⟨rfl,rfl,rfl,rfl,rfl,rfl,rfl,trivial⟩,M,by omega,by have h_:=Ek;first | rwa [Gw hX0 (by omega)] at h_ | rwa [Fh hX0 (by omega)] at h_ | rwa [Fg (by omega) (by omega)] at h_ | rwa [Ds (by omega) (by omega) (by omega)] at h_,by omega⟩
  have h26:=dF h26b;refine wk ?_
  rcases (show (i=q∧k=u)∨(¬ i=q∧k=0) by omega) with ⟨hiq,hkm⟩ | ⟨hiq,hkm⟩
  ·skip
   have hkk:((l.drop p).take u).take k=(l.drop p).take u:=List.take_of_length_le (by rw [List.length_take];omega);intro a F;rw [hkk] at Ek;revert a;refine wk ?_;refine qD rfl ?_ ?_
   ·intro h27;refine wk ?_;obtain ⟨Xe28,hXe28⟩:=Ap (xs:=(Ci l p u [])) (i:=i) (by omega);obtain ⟨be28,oe28,_,Ie28,_,Ae28,hTe28⟩:=Sq5.at hXe28;obtain ⟨c1e28,hcse28,hPe28,hBe28⟩:=hTe28;obtain ⟨mae28,mce28,rfl,hke28,hte28,hxe28,hne28,SMe28⟩:=hPe28;subst hcse28;have hIe28:(Xe28.item.key < 18446744073709551616∧Xe28.item.typ < 256∧Xe28.item.text.length≤9223372036854775807):=⟨hke28,hte28,hxe28⟩;have hQe28:-9223372036854775808≤Xe28.size∧Xe28.size≤9223372036854775807:=hBe28;refine wk ?_;intro a F;refine Ar F M C6.k B9 rfl rfl (cs:=[.int .u64 ((Xe28.item.key:Nat):Int),.int .u8 ((Xe28.item.typ:Nat):Int),.string (str Xe28.item.text),.slice mae28 Xe28.item.marks.length mce28,.int .i64 Xe28.size,.bool Xe28.known]) rfl rfl (by simp [Value.oneCell']) (by decide) rfl ?_;clear F M a;intro v29 w a M F;obtain ⟨av29,cv29,rfl,hlev29,hcmv29,hlv29⟩:=M.row_shape (k:=0) rfl;have Eb30:Els Bg 6 Gq5 [.int .u64 ((Xe28.item.key:Nat):Int),.int .u8 ((Xe28.item.typ:Nat):Int),.string (str Xe28.item.text),.slice mae28 Xe28.item.marks.length mce28,.int .i64 Xe28.size,.bool Xe28.known] [Xe28]:=⟨[.int .u64 ((Xe28.item.key:Nat):Int),.int .u8 ((Xe28.item.typ:Nat):Int),.string (str Xe28.item.text),.slice mae28 Xe28.item.marks.length mce28,.int .i64 Xe28.size,.bool Xe28.known],[],rfl,rfl,⟨[.int .u64 ((Xe28.item.key:Nat):Int),.int .u8 ((Xe28.item.typ:Nat):Int),.string (str Xe28.item.text),.slice mae28 Xe28.item.marks.length mce28],rfl,⟨mae28,mce28,rfl,hke28,hte28,hxe28,hne28,SMe28⟩,hBe28⟩,rfl⟩;refine A3 F M (k:=1) (k2:=0) rfl rfl C6.k B9 rfl rfl (by decide) rfl rfl (by show _ * 72≤_;(try simp only [List.length_drop,List.length_take,List.length_append,List.length_cons,List.length_nil]);omega) (by (try simp only [List.length_drop,List.length_take,List.length_append,List.length_cons,List.length_nil]);omega) rfl ?_;clear F M a;intro v31 w a M F
    have Ev31:=Els.append Ek Eb30;obtain ⟨av31,cv31,rfl,hlev31,hcmv31,hlv31⟩:=M.row_shape (k:=1) rfl;revert a;refine wk ?_;intro a F
    exact ⟨_,by omega,i+1,(av31),(nk+1),(cv31),csk++([.int .u64 ((Xe28.item.key:Nat):Int),.int .u8 ((Xe28.item.typ:Nat):Int),.string (str Xe28.item.text),.slice mae28 Xe28.item.marks.length mce28,.int .i64 Xe28.size,.bool Xe28.known]),rfl,F.to ⟨rfl,rfl,rfl,rfl,rfl,rfl,rfl,trivial⟩,(M.weaken (cN (cC (sR _)))),by omega,by have h_:=Ev31;first | rwa [Gw hXe28 (by omega)] at h_ | rwa [Fh hXe28 (by omega)] at h_ | rwa [Fg (by omega) (by omega)] at h_ | rwa [Ds (by omega) (by omega) (by omega)] at h_,by omega⟩
   intro h32;refine wk ?_;intro a F
   exact ⟨_,by omega,i+1,(ak),(nk),(ck),csk,rfl,F.to ⟨rfl,rfl,rfl,rfl,rfl,rfl,rfl,trivial⟩,M,by omega,by have h_:=Ek;first | rwa [Gw hX0 (by omega)] at h_ | rwa [Fh hX0 (by omega)] at h_ | rwa [Fg (by omega) (by omega)] at h_ | rwa [Ds (by omega) (by omega) (by omega)] at h_,by omega⟩
  have hkk:((l.drop p).take u).take k=[]:=by rw [hkm];rfl
  intro a F;rw [hkk,List.append_nil] at Ek;revert a;refine wk ?_;refine qD rfl ?_ ?_
  ·intro h33;refine wk ?_;obtain ⟨Xe34,hXe34⟩:=Ap (xs:=(Ci l p u [])) (i:=i) (by omega);obtain ⟨be34,oe34,_,Ie34,_,Ae34,hTe34⟩:=Sq5.at hXe34;obtain ⟨c1e34,hcse34,hPe34,hBe34⟩:=hTe34;obtain ⟨mae34,mce34,rfl,hke34,hte34,hxe34,hne34,SMe34⟩:=hPe34;subst hcse34;have hIe34:(Xe34.item.key < 18446744073709551616∧Xe34.item.typ < 256∧Xe34.item.text.length≤9223372036854775807):=⟨hke34,hte34,hxe34⟩;have hQe34:-9223372036854775808≤Xe34.size∧Xe34.size≤9223372036854775807:=hBe34;refine wk ?_;intro a F;refine Ar F M C6.k B9 rfl rfl (cs:=[.int .u64 ((Xe34.item.key:Nat):Int),.int .u8 ((Xe34.item.typ:Nat):Int),.string (str Xe34.item.text),.slice mae34 Xe34.item.marks.length mce34,.int .i64 Xe34.size,.bool Xe34.known]) rfl rfl (by simp [Value.oneCell']) (by decide) rfl ?_;clear F M a;intro v35 w a M F;obtain ⟨av35,cv35,rfl,hlev35,hcmv35,hlv35⟩:=M.row_shape (k:=0) rfl;have Eb36:Els Bg 6 Gq5 [.int .u64 ((Xe34.item.key:Nat):Int),.int .u8 ((Xe34.item.typ:Nat):Int),.string (str Xe34.item.text),.slice mae34 Xe34.item.marks.length mce34,.int .i64 Xe34.size,.bool Xe34.known] [Xe34]:=⟨[.int .u64 ((Xe34.item.key:Nat):Int),.int .u8 ((Xe34.item.typ:Nat):Int),.string (str Xe34.item.text),.slice mae34 Xe34.item.marks.length mce34,.int .i64 Xe34.size,.bool Xe34.known],[],rfl,rfl,⟨[.int .u64 ((Xe34.item.key:Nat):Int),.int .u8 ((Xe34.item.typ:Nat):Int),.string (str Xe34.item.text),.slice mae34 Xe34.item.marks.length mce34],rfl,⟨mae34,mce34,rfl,hke34,hte34,hxe34,hne34,SMe34⟩,hBe34⟩,rfl⟩;refine A3 F M (k:=1) (k2:=0) rfl rfl C6.k B9 rfl rfl (by decide) rfl rfl (by show _ * 72≤_;(try simp only [List.length_drop,List.length_take,List.length_append,List.length_cons,List.length_nil]);omega) (by (try simp only [List.length_drop,List.length_take,List.length_append,List.length_cons,List.length_nil]);omega) rfl ?_;clear F M a;intro v37 w a M F
   have Ev37:=Els.append Ek Eb36;obtain ⟨av37,cv37,rfl,hlev37,hcmv37,hlv37⟩:=M.row_shape (k:=1) rfl;revert a;refine wk ?_;intro a F
   exact ⟨_,by omega,i+1,(av37),(nk+1),(cv37),csk++([.int .u64 ((Xe34.item.key:Nat):Int),.int .u8 ((Xe34.item.typ:Nat):Int),.string (str Xe34.item.text),.slice mae34 Xe34.item.marks.length mce34,.int .i64 Xe34.size,.bool Xe34.known]),rfl,F.to ⟨rfl,rfl,rfl,rfl,rfl,rfl,rfl,trivial⟩,(M.weaken (cN (cC (sR _)))),by omega,by have h_:=Ev37;first | rwa [Gw hXe34 (by omega)] at h_ | rwa [Fh hXe34 (by omega)] at h_ | rwa [Fg (by omega) (by omega)] at h_ | rwa [Ds (by omega) (by omega) (by omega)] at h_,by omega⟩
  intro h38;refine wk ?_;intro a F
  exact ⟨_,by omega,i+1,(ak),(nk),(ck),csk,rfl,F.to ⟨rfl,rfl,rfl,rfl,rfl,rfl,rfl,trivial⟩,M,by omega,by have h_:=Ek;first | rwa [Gw hX0 (by omega)] at h_ | rwa [Fh hX0 (by omega)] at h_ | rwa [Fg (by omega) (by omega)] at h_ | rwa [Ds (by omega) (by omega) (by omega)] at h_,by omega⟩
 intro h39;refine wk ?_;intro a F;rw [Acb (by omega) (by omega)] at Er;change Els Bg 6 _ _ (O3 l p u q) at Er;obtain ⟨hnz40,Gz40,az40,cz40,hGz40,hez40,Sz40,M⟩:=M.freeze_row Aa (k:=0) rfl Er (by decide);clear hez40 az40 cz40;replace S:=S.mono Aa hGz40;replace Sq5:=Sq5.mono Aa hGz40;rw [hnz40] at F Sz40;revert a;refine wk ?_;refine C8 rfl rfl rfl<|?_
 exact ⟨_,(hGq5.trans hGz40),M.weaken (sR _),ar,cr,by rw [Ahj hin,Int.toNat_natCast,Int.toNat_natCast,Int.toNat_natCast],by rw [Ahj hin,Int.toNat_natCast,Int.toNat_natCast,Int.toNat_natCast];exact Sz40⟩
section
variable {c:RulesD} {x:ItemD}
theorem it_6 (h:Dw c x ((0:Int)=1)=6):¬ ItemOk (c.kinds.length:Int) x:=fun h2=>by
 by_cases h3:Gu c x=0
 ·rw [J0 h2 (by decide) h3] at h;cases h
 rw [Jb h2 (by decide) h3] at h;cases h
theorem Nk (h:¬ Dw c x ((0:Int)=1)=6):ItemOk (c.kinds.length:Int) x:=Classical.byContradiction fun h2=>h (Pa h2)
theorem Aqg (hok:ItemOk (c.kinds.length:Int) x) (h:0 < Dw c x ((0:Int)=1)):Dw c x ((0:Int)=1)=14∧¬ Gu c x=0:=by
 by_cases h3:Gu c x=0
 ·rw [J0 hok (by decide) h3] at h;omega
 exact ⟨Jb hok (by decide) h3,h3⟩
theorem it_0 (hok:ItemOk (c.kinds.length:Int) x) (h:¬ 0 < Dw c x ((0:Int)=1)):Gu c x=0:=(Ep.1 (Yp h)).2.2
theorem H8 {l:List EntD} {q k:Nat} {y:EntD} (h:l[q]?=some y):Nz l q k↔y.item.key≠k:=⟨fun h2=>h2 y h,fun h2 z hz=>by rw [h] at hz;simp only [Option.some.injEq] at hz;subst hz;exact h2⟩
end
theorem fr_at {c:RulesD} {xs:List ItemD} {k:Nat} {x:ItemD} (h:xs[k]?=some x):(xs.map (Bp c))[k]?=some (Bp c x):=by rw [List.getElem?_map,h];rfl
theorem Aup (M:Mem w0 G L w) {c:RulesD} {kca:Option Addr} {kcc:Nat} (SC:Ag Cb 9 G (.slice kca c.kinds.length kcc) c.kinds) (hvc:Cy c) {a1:Option Addr} {c1:Nat} {l:List EntD} (S:Ag Bg 6 G (.slice a1 l.length c1) l) {z:Int} {ta:Option Addr} {tc:Nat} {xs:List ItemD} (T:Ag Bn 4 G (.slice ta xs.length tc) xs) (hl2:l.length≤1024):Calls Tryz.prog 73 #[.agg #[.slice kca c.kinds.length kcc,.int .i64 c.cap],.slice a1 l.length c1,.int .i64 z,.slice ta xs.length tc] w (Ret w0 G L fun G' v=>∃ (a:Option Addr) (cc:Nat),v=.tuple #[.slice a (Jh c l z xs).1.length cc,.int .i64 (Jh c l z xs).2]∧Ag Bg 6 G' (.slice a (Jh c l z xs).1.length cc) (Jh c l z xs).1):=by
 have bS:=S.bound;have bT:=T.bound;refine Al (vs:=[_,_,_,_]) Tryz.func73 rfl (n:=80) rfl rfl<|?_
 refine Bt<|?_
 refine B2 M rfl rfl rfl<|?_;clear M;intro b1 w M
 refine wk ?_;refine A4 Zl rfl rfl (J1 (z:=z) (n:=((xs.length:Nat):Int)) (m:=((l.length:Nat):Int)) M (by omega))<|?_;clear M;rintro _ w M rfl
 refine wk ?_;refine qD rfl ?_ ?_
 ·intro h2;refine wk ?_;refine C8 rfl rfl rfl<|?_
  exact ⟨_,(Gle.refl _),M.weaken dS1,none,0,by rw [Ait (Fv.1 (by assumption))];rfl,by rw [Ait (Fv.1 (by assumption))];exact Ag.nil⟩
 intro h3;refine wk ?_;have hin:Av z ((xs.length:Nat):Int) ((l.length:Nat):Int):=Classical.byContradiction fun h_=>absurd (Fv.2 h_) (by assumption);have hin2:=hin;unfold Av at hin2;obtain ⟨p,rfl⟩:=Int.eq_ofNat_of_zero_le (show 0≤z by omega);refine wk ?_;have M:=M.nilrow 69 6;replace M:=z_M M;intro a F;refine Ba (fun m a' w'=>∃ (i:Nat),∃ (ar:Option Addr),∃ (nr:Nat),∃ (cr:Nat),∃ (csr:List Value),m=l.length - i∧Fits 80 a' [(1,.slice a1 l.length c1),(2,.int .i64 ((p:Nat):Int)),(3,.slice ta xs.length tc),(4,.pointer (some ⟨b1,0,none⟩)),(10,.slice ar nr cr),(11,.int .i64 ((i:Nat):Int))]∧Mem w0 G (.row (.slice ar nr cr) (nr) (csr) 69 6::.blk b1 [.slice kca c.kinds.length kcc,.int .i64 c.cap] 51::L) w'∧(i≤l.length)∧(Els Bg 6 G csr (l.take i))∧(nr≤i)) _ ⟨0,none,0,0,[],rfl,F.to ⟨rfl,rfl,rfl,rfl,rfl,rfl,trivial⟩,M,by omega,by rw [List.take_zero];exact Els.nil,by omega⟩ ?_;clear F M;rintro m a w ⟨i,ar,nr,cr,csr,rfl,F,M,hi,Er,hnr⟩;revert a;refine wk ?_;refine qD rfl ?_ ?_
 ·intro h4;refine wk ?_;obtain ⟨Xe5,hXe5⟩:=Ap (xs:=l) (i:=i) (by omega);obtain ⟨be5,oe5,_,Ie5,_,Ae5,hTe5⟩:=S.at hXe5;obtain ⟨c1e5,hcse5,hPe5,hBe5⟩:=hTe5;obtain ⟨mae5,mce5,rfl,hke5,hte5,hxe5,hne5,SMe5⟩:=hPe5;subst hcse5;have hIe5:(Xe5.item.key < 18446744073709551616∧Xe5.item.typ < 256∧Xe5.item.text.length≤9223372036854775807):=⟨hke5,hte5,hxe5⟩;have hQe5:-9223372036854775808≤Xe5.size∧Xe5.size≤9223372036854775807:=hBe5;refine wk ?_;intro a F;refine Ar F M C6.k B9 rfl rfl (cs:=[.int .u64 ((Xe5.item.key:Nat):Int),.int .u8 ((Xe5.item.typ:Nat):Int),.string (str Xe5.item.text),.slice mae5 Xe5.item.marks.length mce5,.int .i64 Xe5.size,.bool Xe5.known]) rfl rfl (by simp [Value.oneCell']) (by decide) rfl ?_;clear F M a;intro v6 w a M F;obtain ⟨av6,cv6,rfl,hlev6,hcmv6,hlv6⟩:=M.row_shape (k:=0) rfl;have Eb7:Els Bg 6 G [.int .u64 ((Xe5.item.key:Nat):Int),.int .u8 ((Xe5.item.typ:Nat):Int),.string (str Xe5.item.text),.slice mae5 Xe5.item.marks.length mce5,.int .i64 Xe5.size,.bool Xe5.known] [Xe5]:=⟨[.int .u64 ((Xe5.item.key:Nat):Int),.int .u8 ((Xe5.item.typ:Nat):Int),.string (str Xe5.item.text),.slice mae5 Xe5.item.marks.length mce5,.int .i64 Xe5.size,.bool Xe5.known],[],rfl,rfl,⟨[.int .u64 ((Xe5.item.key:Nat):Int),.int .u8 ((Xe5.item.typ:Nat):Int),.string (str Xe5.item.text),.slice mae5 Xe5.item.marks.length mce5],rfl,⟨mae5,mce5,rfl,hke5,hte5,hxe5,hne5,SMe5⟩,hBe5⟩,rfl⟩;refine A3 F M (k:=1) (k2:=0) rfl rfl C6.k B9 rfl rfl (by decide) rfl rfl (by show _ * 72≤_;(try simp only [List.length_drop,List.length_take,List.length_append,List.length_cons,List.length_nil]);omega) (by (try simp only [List.length_drop,List.length_take,List.length_append,List.length_cons,List.length_nil]);omega) rfl ?_;clear F M a;intro v8 w a M F
  have Ev8:=Els.append Er Eb7;obtain ⟨av8,cv8,rfl,hlev8,hcmv8,hlv8⟩:=M.row_shape (k:=1) rfl;revert a;refine wk ?_;intro a F
  exact ⟨_,by omega,i+1,(av8),(nr+1),(cv8),csr++([.int .u64 ((Xe5.item.key:Nat):Int),.int .u8 ((Xe5.item.typ:Nat):Int),.string (str Xe5.item.text),.slice mae5 Xe5.item.marks.length mce5,.int .i64 Xe5.size,.bool Xe5.known]),rfl,F.to ⟨rfl,rfl,rfl,rfl,rfl,rfl,trivial⟩,(M.weaken (cN (cC (.cons_cons _ (sR _))))),by omega,by have h_:=Ev8;rwa [← Kh hXe5] at h_,by omega⟩
 intro h9;refine wk ?_;have Ek0:Els Bg 6 G csr (Ci l p 0 ((xs.map (Bp c)).take 0)):=by rw [List.take_zero,Alu];rwa [List.take_of_length_le (by omega)] at Er
 intro a F;refine Ba (fun m a' w'=>∃ (k:Nat),∃ (csk:List Value),m=xs.length - k∧Fits 80 a' [(1,.slice a1 l.length c1),(2,.int .i64 ((p:Nat):Int)),(3,.slice ta xs.length tc),(4,.pointer (some ⟨b1,0,none⟩)),(10,.slice ar nr cr),(12,.int .i64 ((k:Nat):Int))]∧Mem w0 G (.row (.slice ar nr cr) (nr) (csk) 69 6::.blk b1 [.slice kca c.kinds.length kcc,.int .i64 c.cap] 51::L) w'∧(k≤xs.length)∧(Els Bg 6 G csk (Ci l p k ((xs.map (Bp c)).take k)))∧(Bm (Ik c l p xs) k=0)) _ ⟨0,csr,rfl,F.to ⟨rfl,rfl,rfl,rfl,rfl,rfl,trivial⟩,M,by omega,Ek0,rfl⟩ ?_;clear F M;rintro m a w ⟨k,csk,rfl,F,M,hk,Ek,hS⟩;revert a;refine wk ?_;refine qD rfl ?_ ?_
 ·intro h10;refine wk ?_;obtain ⟨Xk,hXk⟩:=Ap (xs:=xs) (i:=k) (by omega);obtain ⟨Yk,hYk⟩:=Ap (xs:=l) (i:=p+k) (by omega);intro a F;refine E3 [(true,0),(true,1),(true,2),(true,3),(true,4),(false,5),(true,6)] (Keep G [.blk b1 [.slice kca c.kinds.length kcc,.int .i64 c.cap] 51]) rfl (by kernel_rfl) (fun c a d v w h=>by cases d <;> exact h) (Ax (M.drew _)) ?_;replace M:=M.drew (w.drawn+1);revert a;refine wk ?_;obtain ⟨be11,oe11,_,Ie11,_,Ae11,hTe11⟩:=T.at hXk;obtain ⟨mae11,mce11,rfl,hke11,hte11,hxe11,hne11,SMe11⟩:=hTe11;have hIe11:(Xk.key < 18446744073709551616∧Xk.typ < 256∧Xk.text.length≤9223372036854775807):=⟨hke11,hte11,hxe11⟩;refine wk ?_;refine l_a rfl<|A4 Ain rfl rfl (Ky (c:=c) (x:=Xk) (sn:=0) M SC hvc hIe11 SMe11)<|?_;clear M;rintro _ w M rfl
  refine Ao<|?_
  refine eQ (Ax M)<|?_
  refine wk ?_;refine qD rfl ?_ ?_
  ·intro h12;refine wk ?_;refine C8 rfl rfl rfl<|?_
   exact ⟨_,(Gle.refl _),M.weaken dS2,none,0,by rw [Xf hin (i:=k) hS hXk (Agf (it_6 (by assumption))) (by decide)];rfl,by rw [Xf hin (i:=k) hS hXk (Agf (it_6 (by assumption))) (by decide)];exact Ag.nil⟩
  intro h13;refine wk ?_;refine fun a F=>E3 [(true,0),(true,1),(true,2),(true,3),(true,4),(true,5),(true,6),(true,7),(true,8),(true,9),(true,10),(true,11),(true,12),(true,13)] (Keep G [.blk b1 [.slice kca c.kinds.length kcc,.int .i64 c.cap] 51]) rfl (by kernel_rfl) (fun c a d v w h=>by cases d <;> exact h) (Ax (M.drew _)) ?_;replace M:=M.drew (w.drawn+1);revert a;refine wk ?_;obtain ⟨be14,oe14,_,Ie14,_,Ae14,hTe14⟩:=S.at hYk;obtain ⟨c1e14,hcse14,hPe14,hBe14⟩:=hTe14;obtain ⟨mae14,mce14,rfl,hke14,hte14,hxe14,hne14,SMe14⟩:=hPe14;subst hcse14;have hIe14:(Yk.item.key < 18446744073709551616∧Yk.item.typ < 256∧Yk.item.text.length≤9223372036854775807):=⟨hke14,hte14,hxe14⟩;have hQe14:-9223372036854775808≤Yk.size∧Yk.size≤9223372036854775807:=hBe14;refine wk ?_;obtain ⟨be15,oe15,_,Ie15,_,Ae15,hTe15⟩:=T.at hXk;obtain ⟨mae15,mce15,rfl,hke15,hte15,hxe15,hne15,SMe15⟩:=hTe15;have hIe15:(Xk.key < 18446744073709551616∧Xk.typ < 256∧Xk.text.length≤9223372036854775807):=⟨hke15,hte15,hxe15⟩;refine wk ?_
  generalize ({ w with drawn:=w.drawn+1 }:World)=w at M ⊢
  refine wk ?_;refine Ae rfl ?_ ?_
  ·intro h16b;have h16:=dF (Ab h16b);have h16c:(decide (((Yk.item.key:Nat):Int)=((Xk.key:Nat):Int)))=false:=(Ab h16b);refine wk ?_;refine C8 rfl rfl rfl<|?_
   exact ⟨_,(Gle.refl _),M.weaken dS2,none,0,by rw [Xf hin (i:=k) hS hXk (Age (Nk (by assumption)) ((H8 hYk).2 (by omega))) (by decide)];rfl,by rw [Xf hin (i:=k) hS hXk (Age (Nk (by assumption)) ((H8 hYk).2 (by omega))) (by decide)];exact Ag.nil⟩
  intro h17b;have h17:=dT (Ac h17b);have h17c:(decide (((Yk.item.key:Nat):Int)=((Xk.key:Nat):Int)))=true:=(Ac h17b);refine wk ?_;refine qD rfl ?_ ?_
  ·intro h18;refine wk ?_;refine C8 rfl rfl rfl<|?_
   have h14:=(Aqg (Nk (c:=c) (x:=Xk) (by assumption)) (by assumption)).1
   exact ⟨_,(Gle.refl _),M.weaken dS2,none,0,by rw [Xf hin (i:=k) hS hXk (Zq (Nk (by assumption)) (fun h_=>(H8 hYk).1 h_ (by omega)) (Aqg (Nk (by assumption)) (by assumption)).2) (by decide),h14];rfl,by rw [Xf hin (i:=k) hS hXk (Zq (Nk (by assumption)) (fun h_=>(H8 hYk).1 h_ (by omega)) (Aqg (Nk (by assumption)) (by assumption)).2) (by decide)];exact Ag.nil⟩
  intro h19;refine F3<|F1<|?_
  obtain ⟨kd,hK⟩:=Iq (Nk (c:=c) (x:=Xk) (by assumption));have hml:(Ci l p k ((xs.map (Bp c)).take k)).length=l.length:=by rw [I9 (by omega),List.length_take,List.length_map];omega
  intro a F;refine E3 [(true,0),(true,1),(true,2),(true,3),(true,4),(true,5),(true,6),(true,7),(true,8),(false,9),(true,10),(false,11)] (Keep G [.blk b1 [.slice kca c.kinds.length kcc,.int .i64 c.cap] 51]) rfl (by kernel_rfl) (fun c a d v w h=>by cases d <;> exact h) (Ax (M.drew _)) ?_;replace M:=M.drew (w.drawn+1);revert a;refine lMv rfl<|lMv rfl<|lMv rfl<|l_r (fun a F w M=>Gi (F.ev rfl) (F.ev rfl) (Br (by omega) (by omega))) rfl<|lLb Gb 0 rfl rfl rfl rfl<|lMv rfl<|lMv rfl<|?_
  obtain ⟨be20,oe20,_,Ie20,_,Ae20,hTe20⟩:=T.at hXk;obtain ⟨mae20,mce20,rfl,hke20,hte20,hxe20,hne20,SMe20⟩:=hTe20;have hIe20:(Xk.key < 18446744073709551616∧Xk.typ < 256∧Xk.text.length≤9223372036854775807):=⟨hke20,hte20,hxe20⟩;refine l_r (fun a F w M=>Gf Co.k Bi (F.ev rfl) (F.ev rfl) (by omega) Ie20) rfl<|l_r (fun a F w M=>Da Bi rfl (F.ev rfl) (cs:=[.int .u64 ((Xk.key:Nat):Int),.int .u8 ((Xk.typ:Nat):Int),.string (str Xk.text),.slice mae20 Xk.marks.length mce20]) rfl (M.cellsA Ae20 0 (by omega) rfl)) rfl<|?_
  refine l_a rfl<|A4 Aim rfl rfl (Jt (c:=c) (x:=Xk) M SC hIe20 SMe20 hK)<|?_;clear M;rintro _ w M rfl
  refine Ao<|?_
  refine eQ (Ax M)<|?_
  obtain ⟨Xe21,hXe21⟩:=Ap (xs:=(Ci l p k ((xs.map (Bp c)).take k))) (i:=p+k) (by omega);obtain ⟨be21,_,Ie21,hme21,_,Ae21,hTe21⟩:=M.atRow (k:=0) rfl (by decide) Ek hXe21;obtain ⟨c1e21,hcse21,hPe21,hBe21⟩:=hTe21;obtain ⟨mae21,mce21,rfl,hke21,hte21,hxe21,hne21,SMe21⟩:=hPe21;subst hcse21;have hIe21:(Xe21.item.key < 18446744073709551616∧Xe21.item.typ < 256∧Xe21.item.text.length≤9223372036854775807):=⟨hke21,hte21,hxe21⟩;have hQe21:-9223372036854775808≤Xe21.size∧Xe21.size≤9223372036854775807:=hBe21;refine wk ?_;refine l_a rfl<|fun a F=>?_
  refine Kx F M B9 (k:=0) rfl rfl Ek Ie21 (A0 hXe21) rfl rfl (us:=[.int .u64 ((Xk.key:Nat):Int),.int .u8 ((Xk.typ:Nat):Int),.string (str Xk.text),.slice mae20 Xk.marks.length mce20,.int .i64 (Dc c Xk),.bool false]) rfl rfl (by simp [Value.oneCell']) (X':=(Bp c Xk)) (⟨[.int .u64 ((Xk.key:Nat):Int),.int .u8 ((Xk.typ:Nat):Int),.string (str Xk.text),.slice mae20 Xk.marks.length mce20],rfl,⟨mae20,mce20,rfl,hIe20.1,hIe20.2.1,hIe20.2.2,(by have h_:=SMe20.bound;show Xk.marks.length≤_;omega),SMe20⟩,L0 SC hK⟩) ?_;clear F M a;intro csu22 w a M Eu22 F;revert a;refine Ao<|?_
  refine eQ (Ax M)<|?_
  refine wk ?_;intro a F
  exact ⟨_,by omega,k+1,csu22,rfl,F.to ⟨rfl,rfl,rfl,rfl,rfl,rfl,trivial⟩,M,by omega,by have h_:=Eu22;rwa [Alv (fr_at hXk) (by rw [List.length_map];omega)] at h_,chg_ok hS hXk (Aur (Nk (by assumption)) (fun h_=>(H8 hYk).1 h_ (by omega)) (it_0 (Nk (by assumption)) (by assumption)))⟩
 intro h23;refine wk ?_;have hkx:k=xs.length:=by omega
 subst hkx;intro a F;rw [List.take_of_length_le (by rw [List.length_map];omega)] at Ek;obtain ⟨hnz24,Gz24,az24,cz24,hGz24,hez24,Sz24,M⟩:=M.freeze_row Aa (k:=0) rfl Ek (by decide);clear hez24 az24 cz24;replace SC:=SC.mono Ak hGz24;replace S:=S.mono Aa hGz24;replace T:=T.mono Ai hGz24;rw [hnz24] at F Sz24;revert a;refine wk ?_;refine A4 ent80 rfl rfl (Tb (l:=(Ci l p xs.length (xs.map (Bp c)))) M Sz24)<|?_;clear M;rintro _ w M rfl
 refine wk ?_;refine qD rfl ?_ ?_
 ·intro h25;refine wk ?_;refine C8 rfl rfl rfl<|?_
  exact ⟨_,hGz24,M.weaken dS1,none,0,by rw [Zp hin hS (by rw [Int.toNat_natCast];omega)];rfl,by rw [Zp hin hS (by rw [Int.toNat_natCast];omega)];exact Ag.nil⟩
 intro h26;refine wk ?_;refine C8 rfl rfl rfl<|?_
 exact ⟨_,hGz24,M.weaken dS1,ar,cr,by rw [Aiu hin hS (by rw [Int.toNat_natCast];unfold Db at *;split at * <;> omega),Int.toNat_natCast],by rw [Aiu hin hS (by rw [Int.toNat_natCast];unfold Db at *;split at * <;> omega),Int.toNat_natCast];exact Sz24⟩
theorem Aon (M:Mem w0 G L w) {c:RulesD} {kca:Option Addr} {kcc:Nat} (SC:Ag Cb 9 G (.slice kca c.kinds.length kcc) c.kinds) (hvc:Cy c) {ta:Option Addr} {tc:Nat} {xs:List ItemD} (T:Ag Bn 4 G (.slice ta xs.length tc) xs) (hx2:xs.length≤4000000):Calls Tryz.prog 74 #[.agg #[.slice kca c.kinds.length kcc,.int .i64 c.cap],.slice ta xs.length tc] w (Ret w0 G L fun G' v=>∃ (a:Option Addr) (cc:Nat),v=.tuple #[.slice a (F8 c [] 0 xs).1.length cc,.int .i64 (F8 c [] 0 xs).2]∧Ag Bg 6 G' (.slice a (F8 c [] 0 xs).1.length cc) (F8 c [] 0 xs).1):=by
 refine Al (vs:=[_,_]) Tryz.func74 rfl (n:=11) rfl rfl<|?_
 refine Bt<|?_
 refine B2 M rfl rfl rfl<|?_;clear M;intro b1 w M
 refine wk ?_;refine D4 ent70 rfl rfl (Aca (c:=c) (l:=([]:List EntD)) (z:=0) (xs:=xs) M SC hvc Ag.nil T (by exact Nat.zero_le _) (by omega))<|?_;clear M;rintro _ Gq2 w hGq2 M ⟨aq2,cq2,rfl,Sq2⟩
 replace SC:=SC.mono Ak hGq2;replace T:=T.mono Ai hGq2;refine wk ?_;refine C8 rfl rfl rfl<|?_
 exact ⟨_,hGq2,M.weaken dS1,aq2,cq2,rfl,Sq2⟩
end Go.Proofs.YtmmhmcplegpenaaGreatDoor
namespace Go.Y
open Go
section
variable {w0 w:World} {G:Aq} {L Ls:List Res}
open Classical in
noncomputable def O8 (G:Aq) (Ls:List Res) (w:World):Aq:=fun r=>if ∃ x∈Ls,x.foot=some r then w.heap[r]? else G r
theorem Aht {x:Res} (hx:x∈Ls) {b:Nat} (hb:x.foot=some b):O8 G Ls w b=w.heap[b]?:=by
 unfold O8;rw [if_pos ⟨x,hx,hb⟩]
theorem Mem.lend (M:Mem w0 G (Ls++L) w):Gle G (O8 G Ls w)∧Mem w0 (O8 G Ls w) L w:=by
 have hfree:∀ r,(∃ x∈Ls,x.foot=some r)→G r=none:=fun r ⟨x,hx,hb⟩=>M.free x (List.mem_append_left _ hx) r hb;refine ⟨fun r o hr=>?_,⟨M.os,M.tape,M.output,M.grow,fun r o hr=>?_,fun x hx=>M.own x (List.mem_append_right _ hx),fun x hx b hb=>?_,(List.pairwise_append.1 M.apart).2.1⟩⟩
 ·unfold O8
  by_cases h:∃ x∈Ls,x.foot=some r
  ·rw [hfree r h] at hr;cases hr
  rw [if_neg h];exact hr
 ·unfold O8 at hr
  by_cases h:∃ x∈Ls,x.foot=some r
  ·rw [if_pos h] at hr;exact hr
  rw [if_neg h] at hr;exact M.pers r o hr
 unfold O8;rw [if_neg]
 ·exact M.free x (List.mem_append_right _ hx) b hb
 rintro ⟨y,hy,hyb⟩
 exact (List.pairwise_append.1 M.apart).2.2 y hy x hx b hyb hb
theorem Mem.back {w':World} (M:Mem w0 G (Ls++L) w) (M':Mem w0 (O8 G Ls w) L w'):Mem w0 G (Ls++L) w':=by
 have hle:=M.lend.1;refine ⟨M'.os,M'.tape,M'.output,M'.grow,fun r o hr=>M'.pers r o (hle r o hr),fun x hx=>?_,M.free,M.apart⟩
 rcases List.mem_append.1 hx with hx | hx
 ·refine Res.holds_of (M.own x (List.mem_append_left _ hx)) fun b hb=>?_;have hlt:=Res.foot_lt (M.own x (List.mem_append_left _ hx)) hb;have h1:O8 G Ls w b=some w.heap[b]:=by rw [Aht hx hb];exact Array.getElem?_eq_getElem hlt
  rw [M'.pers b _ h1,Array.getElem?_eq_getElem hlt]
 exact M'.own x hx
theorem T3 {α:Type} {rd:Rd α} {sz:Nat} {a:Option Addr} {c:Nat} {cs:List Value} {t:TypeId} {xs:List α} (M:Mem w0 G (Ls++L) w) (hx:Res.row (.slice a xs.length c) xs.length cs t sz∈Ls) (hE:Els rd sz (O8 G Ls w) cs xs) (hs:0 < sz) :
  Ag rd sz (O8 G Ls w) (.slice a xs.length c) xs:=by
 obtain ⟨⟨hl,h2⟩,h1⟩:=M.own _ (List.mem_append_left L hx)
 rcases h2 with ⟨h,h0⟩ | ⟨g,cap,cur,hv,_,hg,hnc,hcm,hcs,htake⟩
 ·have:xs=[]:=List.eq_nil_of_length_eq_zero h0;subst this;simp only [Value.slice.injEq] at h;obtain ⟨rfl,_,rfl⟩:=h
  exact Ag.nil
 simp only [Value.slice.injEq,true_and] at hv;obtain ⟨rfl,rfl⟩:=hv;refine Ag.of_cells (cs:=cs) hE h1 ?_ hnc (by simpa [maxLen] using hcm);intro j u hj;have hj':j < xs.length * sz:=by
  rw [← hl]
  rcases Nat.lt_or_ge j cs.length with h' | h'
  ·exact h'
  simp [List.getElem?_eq_none h'] at hj
 rw [← htake,List.getElem?_take,if_pos hj'] at hj;have h9:O8 G Ls w g=some (.cells cur t (0,0)):=by rw [Aht hx rfl];exact hg
 simp only [Hc,h9,Nat.zero_add]
 simpa using hj
end
end Go.Y
namespace Go.Proofs.YtmmhmcplegpenaaGreatDoor
open Go Go.Y Go.Proofs
set_option maxHeartbeats 1600000
def ROWM (a:Option Addr) (k:Nat) (m:List Value):Res:=.row (.slice a k k) k m 9 1
def rdC (Ls:List Res):Rd ItemD:=fun G cs x=>∃ (a:Option Addr) (m:List Value),cs=[.int .u64 ((x.key:Nat):Int),.int .u8 ((x.typ:Nat):Int),.string (str x.text),.slice a x.marks.length x.marks.length] ∧
 x.key < 18446744073709551616∧x.typ < 256∧x.text.length≤9223372036854775807∧x.marks.length≤9223372036854775807∧ROWM a x.marks.length m∈Ls∧Els Cf 1 G m x.marks
def Aew (Ls:List Res):Rd (ItemD × Bool):=fun G cs p=>(p.2=true→rdC Ls G cs p.1)∧(p.2=false→Bn G cs p.1)
theorem Apn {Ls:List Res}:Ho (rdC Ls):=by
 rintro G G' cs x h ⟨a,m,h1,h2,h3,h4,h5,h6,h7⟩
 exact ⟨a,m,h1,h2,h3,h4,h5,h6,h7.mono Ay h⟩
theorem Akf {Ls:List Res} {r:Res} {G:Aq} {cs:List Value} {p:ItemD × Bool} (h:Aew Ls G cs p):Aew (r::Ls) G cs p:=⟨fun e=>by
 obtain ⟨a,m,h1,h2,h3,h4,h5,h6,h7⟩:=h.1 e
 exact ⟨a,m,h1,h2,h3,h4,h5,List.mem_cons_of_mem _ h6,h7⟩,h.2⟩
theorem Acq {Ls:List Res} {r:Res} {G:Aq}:∀ {ys:List (ItemD × Bool)} {cs:List Value},Els (Aew Ls) 4 G cs ys→Els (Aew (r::Ls)) 4 G cs ys
 | [],cs,h=>h
 | y::ys,cs,h=>by
  obtain ⟨c,r',h1,h2,h3,h4⟩:=h
  exact ⟨c,r',h1,h2,Akf h3,Acq h4⟩
def ysF (xs:List ItemD) (i:Nat):List (ItemD × Bool):=(xs.take i).map (·,true)++(xs.drop i).map (·,false)
theorem ysF_get {xs:List ItemD} {i:Nat} {x:ItemD} (h:xs[i]?=some x):(ysF xs i)[i]?=some (x,false):=by
 have hi:=A0 h;unfold ysF;rw [List.getElem?_append_right (by simp;omega),List.length_map,List.length_take,Nat.min_eq_left (by omega),Nat.sub_self,List.getElem?_map,List.getElem?_drop,Nat.add_zero,h];rfl
theorem ysF_set {xs:List ItemD} {i:Nat} {x:ItemD} (h:xs[i]?=some x):(ysF xs i).set i (x,true)=ysF xs (i+1):=by
 have hi:=A0 h;have hl:((xs.take i).map (·,true)).length=i:=by simp;omega
 unfold ysF;have hx:xs[i]=x:=by rw [List.getElem?_eq_getElem hi] at h;simpa using h
 have hdr:xs.drop i=x::xs.drop (i+1):=by rw [List.drop_eq_getElem_cons hi,hx]
 rw [List.set_append_right _ _ (by omega),hl,Nat.sub_self,List.take_add_one,h,hdr]
 simp
theorem Acp {G:Aq}:∀ {xs:List ItemD} {cs:List Value},Els Bn 4 G cs xs→Els (Aew []) 4 G cs (ysF xs 0)
 | [],cs,h=>h
 | x::xs,cs,h=>by
  obtain ⟨c,r',h1,h2,h3,h4⟩:=h
  exact ⟨c,r',h1,h2,⟨(fun e=>by cases e),fun _=>h3⟩,Acp h4⟩
theorem Aue {G:Aq} {Ls:List Res} {xs:List ItemD} {cs:List Value} {i:Nat} (h:Els (Aew Ls) 4 G cs (ysF xs i)) (hi:xs.length≤i):Els (rdC Ls) 4 G cs xs:=by
 have e:ysF xs i=xs.map (·,true):=by unfold ysF;rw [List.take_of_length_le hi,List.drop_eq_nil_of_le hi];simp
 rw [e] at h;clear e hi
 induction xs generalizing cs with
 | nil=>exact h
 | cons x xs ih =>
  obtain ⟨c,r',h1,h2,h3,h4⟩:=h
  exact ⟨c,r',h1,h2,h3.1 rfl,ih h4⟩
theorem Aun {w0 w:World} {G:Aq} {L:List Res} (M:Mem w0 G L w) {a1:Option Addr} {c1:Nat} {xs:List ItemD} (S:Ag Bn 4 G (.slice a1 xs.length c1) xs) (hN:xs.length≤1000000) (hM:∀ x∈xs,x.marks.length≤1000000) :
  Calls Tryz.prog 15 #[.slice a1 xs.length c1] w (Ke w0 G fun L' v=>∃ (a:Option Addr) (cs:List Value) (Ls:List Res),v=.slice a xs.length xs.length∧L' = (.row (.slice a xs.length xs.length) xs.length cs 26 4::(Ls++L))∧Els (rdC Ls) 4 G cs xs):=by
 refine Al (vs:=[_]) Tryz.func15 rfl (n:=24) rfl rfl<|?_
 refine wk ?_;refine Py ent54 rfl rfl (Aii (xs:=xs) M S (by omega))<|?_;clear M;rintro _ _ w M ⟨aq1,csq1,rfl,rfl,Eq1⟩
 refine wk ?_;have E0:=Acp Eq1;intro a F;refine Ba (fun m a' w'=>∃ (i:Nat),∃ (Ls:List Res),∃ (cso:List Value),m=xs.length - i∧Fits 24 a' [(3,.slice aq1 xs.length xs.length),(7,.slice aq1 xs.length xs.length),(8,.int .i64 ((xs.length:Nat):Int)),(9,.int .i64 ((i:Nat):Int))]∧Mem w0 G (.row (.slice aq1 xs.length xs.length) (xs.length) (cso) 26 4::(Ls++L)) w'∧(i≤xs.length)∧(Els (Aew Ls) 4 G cso (ysF xs i))) _ ⟨0,[],csq1,rfl,F.to ⟨rfl,rfl,rfl,rfl,trivial⟩,M,Nat.zero_le _,E0⟩ ?_;clear F M;rintro m a w ⟨i,Ls,cso,rfl,F,M,hi,Eo⟩;revert a;refine wk ?_;refine qD rfl ?_ ?_
 ·intro h2;refine wk ?_;obtain ⟨Xi,hXi⟩:=Ap (xs:=xs) (i:=i) (by omega);have hYi:=ysF_get hXi;refine wk ?_;obtain ⟨be3,_,Ie3,hme3,_,Ae3,hTe3⟩:=M.atRow (k:=0) rfl (by decide) Eo hYi;obtain ⟨mae3,mce3,rfl,hke3,hte3,hxe3,hne3,SMe3⟩:=hTe3.2 rfl;refine wk ?_;refine s_le E8 Ae3 3 rfl rfl rfl rfl<|Py ent55 rfl rfl (Aih (xs:=Xi.marks) M SMe3 (hM Xi (List.mem_of_getElem? hXi)))<|?_;clear M;rintro _ _ w M ⟨aq4,csq4,rfl,rfl,Eq4⟩
  have em5:=Acq (r:=.row (.slice aq4 Xi.marks.length Xi.marks.length) (Xi.marks.length) (csq4) 9 1) Eo;obtain ⟨be6,_,Ie6,hme6,_,Ae6,hTe6⟩:=M.atRow (k:=1) rfl (by decide) em5 hYi;obtain ⟨mae6,mce6,rfl,hke6,hte6,hxe6,hne6,SMe6⟩:=hTe6.2 rfl;refine wk ?_;intro a F;refine Q8 F M E8 rfl (k:=1) rfl em5 Ie6 hYi (f:=3) (by decide) rfl rfl rfl rfl (X':=(Xi,true)) (fun ch _ h=>⟨fun _=>by obtain ⟨a_,c_,rfl,h1,h2,h3,h4,_⟩:=h.2 rfl;exact ⟨aq4,csq4,rfl,h1,h2,h3,h4,List.mem_cons_self,Eq4⟩,fun h_=>by cases h_⟩) ?_;clear F M a;intro csu7 w a M Eu7 F;revert a;refine Ao<|e_bn<|F1<|?_
  replace M:=M.perm (Af _ 1 _ rfl);replace M:=z_M M;replace M:=z_M M;refine wk ?_;intro a F
  exact ⟨_,by omega,i+1,(.row (.slice aq4 Xi.marks.length Xi.marks.length) (Xi.marks.length) (csq4) 9 1::Ls),csu7,rfl,F.to ⟨rfl,rfl,rfl,rfl,trivial⟩,M,by omega,by have h_:=Eu7;rwa [ysF_set hXi] at h_⟩
 intro h8;refine wk ?_;refine Ad rfl rfl<|?_
 exact ⟨_,M,_,_,Ls,rfl,rfl,Aue Eo (by omega)⟩
open Go Go.Y
def M8 (Ls:List Res):Rd EntD:=fun G cs x=>∃ c1,cs=c1++[.int .i64 x.size,.bool x.known]∧rdC Ls G c1 x.item∧Au .i64 x.size
theorem Akv {Ls:List Res}:Ho (M8 Ls):=by
 rintro G G' cs x h ⟨c1,h1,h2,h3⟩
 exact ⟨c1,h1,Apn _ _ _ _ h h2,h3⟩
def Aev (Ls:List Res):Rd (Option EntD):=fun G cs o=>match o with
 | some x=>M8 Ls G cs x
 | none=>True
theorem Aku {Ls:List Res}:Ho (Aev Ls):=by
 intro G G' cs o h hr
 cases o with
 | none=>trivial
 | some x=>exact Akv _ _ _ _ h hr
theorem Ahb {Ls Ls':List Res} (hs:∀ r∈Ls,r∈Ls') {G:Aq} {cs:List Value} {x:ItemD} (h:rdC Ls G cs x):rdC Ls' G cs x:=by
 obtain ⟨a,m,h1,h2,h3,h4,h5,h6,h7⟩:=h
 exact ⟨a,m,h1,h2,h3,h4,h5,hs _ h6,h7⟩
theorem Aou {Ls Ls':List Res} (hs:∀ r∈Ls,r∈Ls') {G:Aq} {cs:List Value} {x:EntD} (h:M8 Ls G cs x):M8 Ls' G cs x:=by
 obtain ⟨c1,h1,h2,h3⟩:=h
 exact ⟨c1,h1,Ahb hs h2,h3⟩
theorem W8 {Ls Ls':List Res} (hs:∀ r∈Ls,r∈Ls') {G:Aq}:∀ {ys:List (Option EntD)} {cs:List Value},Els (Aev Ls) 6 G cs ys→Els (Aev Ls') 6 G cs ys
 | [],cs,h=>h
 | y::ys,cs,h=>by
  obtain ⟨c,r',h1,h2,h3,h4⟩:=h;refine ⟨c,r',h1,h2,?_,W8 hs h4⟩
  cases y with
  | none=>trivial
  | some x=>exact Aou hs h3
theorem W9 {Ls:List Res} {G:Aq}:∀ {ys:List EntD} {cs:List Value},Els (Aev Ls) 6 G cs (ys.map some)→Els (M8 Ls) 6 G cs ys
 | [],cs,h=>h
 | y::ys,cs,h=>by
  obtain ⟨c,r',h1,h2,h3,h4⟩:=h
  exact ⟨c,r',h1,h2,h3,W9 h4⟩
theorem Uq {w0 w:World} {G:Aq} {L Ls LL:List Res} (hsub:∀ x∈Ls,x∈LL) (M:Mem w0 G (LL++L) w):∀ {xs:List EntD} {cs:List Value},Els (M8 Ls) 6 G cs xs→Els Bg 6 (O8 G LL w) cs xs
 | [],cs,h=>h
 | x::xs,cs,h=>by
  obtain ⟨c,r',h1,h2,⟨c1,e1,⟨a,m,e2,k1,k2,k3,k4,hm,hE⟩,h3⟩,h4⟩:=h
  exact ⟨c,r',h1,h2,⟨c1,e1,⟨a,x.item.marks.length,e2,k1,k2,k3,k4,T3 M (hsub _ hm) (hE.mono Ay M.lend.1) (by decide)⟩,h3⟩,Uq hsub M h4⟩
def Cw (a:Option Addr) (n:Nat) (cs:List Value):Res:=.row (.slice a n n) n cs 69 6
theorem Aau {w0 w:World} {G:Aq} {L Ls:List Res} {a:Option Addr} {cs:List Value} {xs:List EntD} (M:Mem w0 G ((Cw a xs.length cs::Ls)++L) w) (E:Els (M8 Ls) 6 G cs xs) :
  Ag Bg 6 (O8 G (Cw a xs.length cs::Ls) w) (.slice a xs.length xs.length) xs :=
 T3 (t:=69) M (by simp [Cw]) (Uq (fun x hx=>List.mem_cons_of_mem _ hx) M E) (by decide)
theorem Bj (A R L:List Res):(A++(R++L)).Perm (R++(A++L)):=by
 rw [← List.append_assoc,← List.append_assoc]
 exact List.Perm.append_right L List.perm_append_comm
section
variable {α β:Type}
def N1 (f:α→β) (z:β) (xs:List α) (i:Nat):List β:=(xs.take i).map f++List.replicate (xs.length - i) z
theorem Abp (f:α→β) (z:β) (xs:List α):N1 f z xs 0=List.replicate xs.length z:=by simp [N1]
theorem Ahm (f:α→β) (z:β) (xs:List α) (i:Nat):(N1 f z xs i).length=xs.length:=by simp [N1];omega
theorem Ahl {f:α→β} {z:β} {xs:List α} {i:Nat} {x:α} (h:xs[i]?=some x):(N1 f z xs i).set i (f x)=N1 f z xs (i+1):=by
 have hi:=A0 h;have hl:((xs.take i).map f).length=i:=by simp;omega
 have e:xs.length - i=(xs.length - (i+1))+1:=by omega
 unfold N1;rw [List.set_append_right _ _ (by omega),hl,Nat.sub_self,List.take_add_one,h,e,List.replicate_succ,List.set_cons_zero]
 simp
theorem Ahn {f:α→β} {z:β} {xs:List α} {i:Nat} (h:xs.length≤i):N1 f z xs i=xs.map f:=by
 unfold N1;rw [List.take_of_length_le h,show xs.length - i=0 by omega];simp
end
def doR (cE:Int) (ins:Bool) (cnt:Int) (f:Nat→Int) (n:Nat) (out:List EntD):List EntD × Int :=
 if cE≠0 then ([],cE) else if ins=false then ([],4) else if 1024 < cnt then ([],3) else if Bm f n≠0 then ([],Bm f n) else if Db out≠0 then ([],Db out) else (out,0)
section
variable {cE:Int} {ins:Bool} {cnt:Int} {f:Nat→Int} {n:Nat} {out:List EntD}
theorem Aui (h:cE=0) (h1:ins=false):doR cE ins cnt f n out=([],4):=by unfold doR;rw [if_neg (not_not_intro h),if_pos h1]
theorem do_3 (h:cE=0) (h1:ins=true) (h2:1024 < cnt):doR cE ins cnt f n out=([],3):=by unfold doR;rw [if_neg (not_not_intro h),if_neg (by simp [h1]),if_pos h2]
theorem do_e {i:Nat} {z:Int} (h:cE=0) (h1:ins=true) (h2:¬ 1024 < cnt) (h3:Bm f i=0) (hi:i < n) (hz:f i=z) (h0:z≠0):doR cE ins cnt f n out=([],z):=by
 have:=Jg h3 hi (by rw [hz];exact h0);unfold doR;rw [if_neg (not_not_intro h),if_neg (by simp [h1]),if_neg h2,if_pos (by rw [this,hz];exact h0),this,hz]
theorem Alp (h:cE=0) (h1:ins=true) (h2:¬ 1024 < cnt) (h3:Bm f n=0) (h4:Db out≠0):doR cE ins cnt f n out=([],Db out):=by
 unfold doR;rw [if_neg (not_not_intro h),if_neg (by simp [h1]),if_neg h2,if_neg (not_not_intro h3),if_pos h4]
theorem Na (h:cE=0) (h1:ins=true) (h2:¬ 1024 < cnt) (h3:Bm f n=0) (h4:Db out=0):doR cE ins cnt f n out=(out,0):=by
 unfold doR;rw [if_neg (not_not_intro h),if_neg (by simp [h1]),if_neg h2,if_neg (not_not_intro h3),if_neg (not_not_intro h4)]
end
open Classical in
noncomputable def inE (c:RulesD) (x:ItemD) (k:Int):Int:=if ¬ ItemOk (c.kinds.length:Int) x then 6 else if k≠0 then k else Gu c x
theorem Aia {c:RulesD} {x:ItemD} {k:Int} (h:¬ ItemOk (c.kinds.length:Int) x):inE c x k=6:=by unfold inE;rw [if_pos h]
theorem Aql {c:RulesD} {x:ItemD} {k:Int} (h:ItemOk (c.kinds.length:Int) x) (h2:k≠0):inE c x k=k:=by unfold inE;rw [if_neg (not_not_intro h),if_pos h2]
theorem Ahz {c:RulesD} {x:ItemD} {k:Int} (h:ItemOk (c.kinds.length:Int) x) (h2:k=0):inE c x k=Gu c x:=by unfold inE;rw [if_neg (not_not_intro h),if_neg (not_not_intro h2)]
noncomputable def Kb (c:RulesD) (xs:List ItemD) (fK:Nat→Int) (i:Nat):Int:=match xs[i]? with
 | some x=>inE c x (fK i)
 | none=>0
theorem Ue {c:RulesD} {xs:List ItemD} {fK:Nat→Int} {i:Nat} {x:ItemD} (h:xs[i]?=some x):Kb c xs fK i=inE c x (fK i):=by unfold Kb;rw [h]
theorem Ahy {c:RulesD} {xs:List ItemD} {fK:Nat→Int} {n:Nat} (h:Bm (Kb c xs fK) n=0) (hn:xs.length≤n):∀ x∈xs,ItemOk (c.kinds.length:Int) x:=by
 intro x hx;obtain ⟨i,hi⟩:=List.mem_iff_getElem?.1 hx;have h1:=Dh.1 h i (by have:=A0 hi;omega);rw [Ue hi] at h1
 exact Classical.byContradiction fun h2=>by rw [Aia h2] at h1;cases h1
theorem in_step {c:RulesD} {xs:List ItemD} {fK:Nat→Int} {i:Nat} {x:ItemD} (h:Bm (Kb c xs fK) i=0) (hx:xs[i]?=some x) (hz:inE c x (fK i)=0):Bm (Kb c xs fK) (i+1)=0:=by rw [Fq h,Ue hx,hz]
variable {w0 w:World} {G:Aq} {L:List Res}
set_option maxHeartbeats 1600000
theorem Uh (M:Mem w0 G L w) {c:RulesD} {kca:Option Addr} {kcc:Nat} (SC:Ag Cb 9 G (.slice kca c.kinds.length kcc) c.kinds) {ta:Option Addr} {tc:Nat} {xs:List ItemD} (T:Ag Bn 4 G (.slice ta xs.length tc) xs) (hN:xs.length≤1000000) (hok:∀ x∈xs,ItemOk (c.kinds.length:Int) x):Calls Tryz.prog 160 #[.agg #[.slice kca c.kinds.length kcc,.int .i64 c.cap],.slice ta xs.length tc] w (Ret w0 G L fun G' v=>∃ (a:Option Addr) (cc:Nat),v=.slice a (xs.map (Bp c)).length cc∧Ag Bg 6 G' (.slice a (xs.map (Bp c)).length cc) (xs.map (Bp c))):=by
 have bT:=T.bound;refine Al (vs:=[_,_]) Tryz.func160 rfl (n:=32) rfl rfl<|?_
 refine Bt<|?_
 refine B2 M rfl rfl rfl<|?_;clear M;intro b1 w M
 refine wk ?_;intro a F;refine rl_make (rd:=Bg) (Z:=(⟨⟨0,0,[],[]⟩,0,false⟩:EntD)) F M C6.k B9 rfl (by decide) rfl rfl (l:=xs.length) (by omega) rfl (by omega) (by show 72 * _≤_;omega) (by omega) (by simp [ti69,Value.cells,Value.oneCell']) (⟨[.int .u64 0,.int .u8 0,.string (str []),.slice none 0 0],rfl,⟨none,0,rfl,by decide,by decide,by decide,by decide,Ag.nil⟩,⟨by decide,by decide⟩⟩) rfl ?_;clear F M a;intro v2 csv2 w a M Ev2 F;obtain ⟨av2,cv2,rfl,hlev2,hcmv2,hlv2⟩:=M.row_shape (k:=0) rfl;revert a;refine wk ?_;have E0:Els Bg 6 G csv2 (N1 (Bp c) (⟨⟨0,0,[],[]⟩,0,false⟩:EntD) xs 0):=by rw [Abp];exact Ev2
 intro a F;refine Ba (fun m a' w'=>∃ (i:Nat),∃ (cso:List Value),m=xs.length - i∧Fits 32 a' [(2,.pointer (some ⟨b1,0,none⟩)),(5,.slice av2 xs.length cv2),(11,.slice ta xs.length tc),(12,.int .i64 ((xs.length:Nat):Int)),(13,.int .i64 ((i:Nat):Int))]∧Mem w0 G (.row (.slice av2 xs.length cv2) (xs.length) (cso) 69 6::.blk b1 [.slice kca c.kinds.length kcc,.int .i64 c.cap] 51::L) w'∧(i≤xs.length)∧(Els Bg 6 G cso (N1 (Bp c) (⟨⟨0,0,[],[]⟩,0,false⟩:EntD) xs i))) _ ⟨0,csv2,rfl,F.to ⟨rfl,rfl,rfl,rfl,rfl,trivial⟩,M,Nat.zero_le _,E0⟩ ?_;clear F M;rintro m a w ⟨i,cso,rfl,F,M,hi,Eo⟩;revert a;refine wk ?_;refine qD rfl ?_ ?_
 ·intro h3;refine wk ?_;obtain ⟨Xi,hXi⟩:=Ap (xs:=xs) (i:=i) (by omega);obtain ⟨k,hK⟩:=Iq (hok Xi (List.mem_of_getElem? hXi));have hml:=Ahm (Bp c) (⟨⟨0,0,[],[]⟩,0,false⟩:EntD) xs i;refine wk ?_;obtain ⟨be4,oe4,_,Ie4,_,Ae4,hTe4⟩:=T.at hXi;obtain ⟨mae4,mce4,rfl,hke4,hte4,hxe4,hne4,SMe4⟩:=hTe4;have hIe4:(Xi.key < 18446744073709551616∧Xi.typ < 256∧Xi.text.length≤9223372036854775807):=⟨hke4,hte4,hxe4⟩;refine wk ?_;refine B1 M Bi rfl rfl<|?_;clear M;intro b5 w M
  refine Ew rfl<|?_
  intro a F;refine Be F M Bi 0 ?_;clear F M a;intro w a M F;revert a;refine Ao<|F1<|?_
  refine fun a F=>E3 [(true,0),(true,1),(true,2),(true,3),(true,4),(true,5),(true,6),(true,7),(true,8),(true,9),(true,10),(true,11),(false,12)] (Keep G [.blk b5 [.int .u64 ((Xi.key:Nat):Int),.int .u8 ((Xi.typ:Nat):Int),.string (str Xi.text),.slice mae4 Xi.marks.length mce4] 26,.blk b1 [.slice kca c.kinds.length kcc,.int .i64 c.cap] 51]) rfl (by kernel_rfl) (fun c a d v w h=>by cases d <;> exact h) (Ax (M.drew _)) ?_;replace M:=M.drew (w.drawn+1);revert a;refine wk ?_;obtain ⟨be7,oe7,_,Ie7,_,Ae7,hTe7⟩:=SC.at hK;obtain ⟨c1e7,hcse7,hPe7,hBe7⟩:=hTe7;obtain ⟨tae7,tce7,kae7,kce7,rfl,hke7,hle7,SAe7,SKe7⟩:=Dn hPe7;subst hcse7;have hQe7:-9223372036854775808≤k.base∧k.base≤9223372036854775807:=hBe7;refine wk ?_;refine l_r (fun a F w M=>Ah (cs:=[.int .u64 ((Xi.key:Nat):Int),.int .u8 ((Xi.typ:Nat):Int),.string (str Xi.text),.slice mae4 Xi.marks.length mce4,.int .i64 k.base,.bool false]) (ps:=[(0,.agg #[.int .u64 ((Xi.key:Nat):Int),.int .u8 ((Xi.typ:Nat):Int),.string (str Xi.text),.slice mae4 Xi.marks.length mce4]),(1,.int .i64 k.base)]) B9.k rfl B9 (F.evp rfl) rfl) rfl<|?_
  obtain ⟨Xe8,hXe8⟩:=Ap (xs:=(N1 (Bp c) (⟨⟨0,0,[],[]⟩,0,false⟩:EntD) xs i)) (i:=i) (by omega);obtain ⟨be8,_,Ie8,hme8,_,Ae8,hTe8⟩:=M.atRow (k:=1) rfl (by decide) Eo hXe8;obtain ⟨c1e8,hcse8,hPe8,hBe8⟩:=hTe8;obtain ⟨mae8,mce8,rfl,hke8,hte8,hxe8,hne8,SMe8⟩:=hPe8;subst hcse8;have hIe8:(Xe8.item.key < 18446744073709551616∧Xe8.item.typ < 256∧Xe8.item.text.length≤9223372036854775807):=⟨hke8,hte8,hxe8⟩;have hQe8:-9223372036854775808≤Xe8.size∧Xe8.size≤9223372036854775807:=hBe8;refine wk ?_;refine l_a rfl<|fun a F=>?_
  refine Kx F M B9 (k:=1) rfl rfl Eo Ie8 (A0 hXe8) rfl rfl (us:=[.int .u64 ((Xi.key:Nat):Int),.int .u8 ((Xi.typ:Nat):Int),.string (str Xi.text),.slice mae4 Xi.marks.length mce4,.int .i64 k.base,.bool false]) rfl rfl (by simp [Value.oneCell']) (X':=(Bp c Xi)) (⟨[.int .u64 ((Xi.key:Nat):Int),.int .u8 ((Xi.typ:Nat):Int),.string (str Xi.text),.slice mae4 Xi.marks.length mce4],by rw [show (Bp c Xi).size=k.base from H2 hK];rfl,⟨mae4,mce4,rfl,hIe4.1,hIe4.2.1,hIe4.2.2,(by have h_:=SMe4.bound;show Xi.marks.length≤_;omega),SMe4⟩,L0 SC hK⟩) ?_;clear F M a;intro csu9 w a M Eu9 F;revert a;refine Ao<|?_
  refine eQ (Ax M)<|?_
  refine wk ?_;intro a F
  exact ⟨_,by omega,i+1,csu9,rfl,F.to ⟨rfl,rfl,rfl,rfl,rfl,trivial⟩,(M.weaken (cN (cC (.cons_cons _ (sR _))))),by omega,by have h_:=Eu9;rwa [Ahl hXi] at h_⟩
 intro h10;refine wk ?_;refine Ad rfl rfl<|?_
 rw [Ahn (by omega)] at Eo;obtain ⟨hnz11,Gz11,az11,cz11,hGz11,hez11,Sz11,M⟩:=M.freeze_row Aa (k:=0) rfl Eo (by decide);clear hez11 az11 cz11;have hxl:(xs.map (Bp c)).length=xs.length:=List.length_map _
 exact ⟨Gz11,(Gle.refl _).trans hGz11,M.weaken dS1,av2,cv2,by rw [hxl],by rw [hxl];exact Sz11⟩
theorem H5 (M:Mem w0 G L w) {a1:Option Addr} {c1:Nat} {l:List EntD} (S:Ag Bg 6 G (.slice a1 l.length c1) l) {a2:Option Addr} {c2:Nat} {fr:List EntD} (R:Ag Bg 6 G (.slice a2 fr.length c2) fr) {p n:Nat} (hp:p+n≤l.length) (hl:l.length≤1000000) (hf:fr.length≤1000000):Calls Tryz.prog 119 #[.slice a1 l.length c1,.int .i64 ((p:Nat):Int),.int .i64 ((n:Nat):Int),.slice a2 fr.length c2] w
  (Ret w0 G L fun G' v=>∃ (a:Option Addr) (cc:Nat),v=.slice a (Ci l p n fr).length cc∧Ag Bg 6 G' (.slice a (Ci l p n fr).length cc) (Ci l p n fr)):=by
 refine Al (vs:=[_,_,_,_]) Tryz.func119 rfl (n:=33) rfl rfl<|?_
 refine wk ?_;have hs1:(((l.length:Nat):Int) - ((n:Nat):Int):Int)=((l.length - n:Nat):Int):=by omega
 intro a F;rw [hs1] at F;revert a;refine wk ?_;intro a F;refine Aom F M C6.k B9 rfl rfl (by omega) rfl (c:=(l.length - n)+fr.length) (by omega) (by show 72 * _≤_;omega) (by omega) rfl ?_;clear F M a;intro bv2 w a M F;revert a;refine wk ?_;obtain ⟨as3,cs3,Is3,hms3,hcs3,Ss3⟩:=S.partT (p) (by omega);refine Am (fun a F=>Ge C6.k B9 Is3 (F.ev rfl) (h:=p) (kl:=.i64) (zl:=0) rfl ⟨(F.ev rfl),by omega⟩ (by omega) (by omega)) rfl<|fun a F=>?_
 refine Iy F M (k:=0) rfl C6.k B9 rfl rfl (by decide) rfl Ss3 rfl (by show _ * 72≤_;(try simp only [List.length_drop,List.length_take,List.length_append,List.length_cons,List.length_nil]);omega) (by (try simp only [List.length_drop,List.length_take,List.length_append,List.length_cons,List.length_nil]);omega) rfl ?_;clear F M a;intro v4 csv4 w a M Ev4 F;have Ev4:=Els.append Els.nil Ev4;obtain ⟨av4,cv4,rfl,hlev4,hcmv4,hlv4⟩:=M.row_shape (k:=0) rfl;revert a;refine wk ?_;intro a F;refine Iy F M (k:=0) rfl C6.k B9 rfl rfl (by decide) rfl R rfl (by show _ * 72≤_;(try simp only [List.length_drop,List.length_take,List.length_append,List.length_cons,List.length_nil]);omega) (by (try simp only [List.length_drop,List.length_take,List.length_append,List.length_cons,List.length_nil]);omega) rfl ?_;clear F M a;intro v5 csv5 w a M Ev5 F;have Ev5:=Els.append Ev4 Ev5;obtain ⟨av5,cv5,rfl,hlev5,hcmv5,hlv5⟩:=M.row_shape (k:=0) rfl;revert a;refine wk ?_;obtain ⟨as6,cs6,Is6,hms6,hcs6,Ss6⟩:=S.partD (p+n) (by omega);refine Am (fun a F=>Ge C6.k B9 Is6 (F.ev rfl) (h:=l.length) (kh:=.i64) (zh:=0) ⟨(F.ev rfl),by omega⟩ (by omega) (by omega) (by omega)) rfl<|fun a F=>?_
 refine Iy F M (k:=0) rfl C6.k B9 rfl rfl (by decide) rfl Ss6 rfl (by show _ * 72≤_;(try simp only [List.length_drop,List.length_take,List.length_append,List.length_cons,List.length_nil]);omega) (by (try simp only [List.length_drop,List.length_take,List.length_append,List.length_cons,List.length_nil]);omega) rfl ?_;clear F M a;intro v7 csv7 w a M Ev7 F;have Ev7:=Els.append Ev5 Ev7;obtain ⟨av7,cv7,rfl,hlev7,hcmv7,hlv7⟩:=M.row_shape (k:=0) rfl;revert a;refine wk ?_;refine Ad rfl rfl<|?_
 have Ex:Els Bg 6 G (((([])++csv4)++csv5)++csv7) (Ci l p n fr):=by have h_:Els Bg 6 G (((([])++csv4)++csv5)++csv7) (((([])++(l.take (p)))++fr)++(l.drop (p+n))):=Ev7;simpa only [List.nil_append,Ci] using h_
 obtain ⟨hnz8,Gz8,az8,cz8,hGz8,hez8,Sz8,M⟩:=M.freeze_row Aa (k:=0) rfl Ex (by decide);clear hez8 az8 cz8;rw [hnz8] at Sz8
 exact ⟨Gz8,(Gle.refl _).trans hGz8,M.weaken (sR _),av7,cv7,by rw [hnz8],Sz8⟩
theorem Ph {p:Prop} [Decidable p] {b:Bool} (h:p↔b=true):decide p=b:=by
 by_cases hp:p
 ·rw [decide_eq_true hp,h.1 hp]
 ·cases b with
  | true=>exact absurd (h.2 rfl) hp
  | false=>exact decide_eq_false hp
theorem H3 (M:Mem w0 G L w) {z n m:Int} (hm:0≤m∧m≤9223372036854775807):Calls Tryz.prog 117 #[.int .i64 z,.int .i64 n,.int .i64 m] w (Bu w0 G L fun v=>v=.bool (decide (Av z n m))):=by
 refine Al (vs:=[_,_,_]) Tryz.func117 rfl (n:=25) rfl rfl<|?_
 refine wk ?_
 rcases bE (decide (0≤z)) with h1b | h6b
 ·skip
  have h1:=dT h1b;refine wk ?_
  rcases bE (decide (z≤m)) with h2b | h5b
  ·skip
   have h2:=dT h2b;refine wk ?_
   rcases bE (decide (0≤n)) with h3b | h4b
   ·skip
    have h3:=dT h3b;refine wk ?_;refine Ad rfl rfl<|?_
    exact ⟨M,by rw [Ph (show Av z n m↔((decide (n≤m - z))=true) by unfold Av;first | (simp only [decide_eq_true_eq];omega) | (simp only [Bool.false_eq_true,iff_false];omega))]⟩
   have h4:=dF h4b;refine wk ?_;refine Ad rfl rfl<|?_
   exact ⟨M,by rw [Ph (show Av z n m↔(false=true) by unfold Av;first | (simp only [decide_eq_true_eq];omega) | (simp only [Bool.false_eq_true,iff_false];omega))]⟩
  have h5:=dF h5b;refine wk ?_;refine Ad rfl rfl<|?_
  exact ⟨M,by rw [Ph (show Av z n m↔(false=true) by unfold Av;first | (simp only [decide_eq_true_eq];omega) | (simp only [Bool.false_eq_true,iff_false];omega))]⟩
 have h6:=dF h6b;refine wk ?_;refine Ad rfl rfl<|?_
 exact ⟨M,by rw [Ph (show Av z n m↔(false=true) by unfold Av;first | (simp only [decide_eq_true_eq];omega) | (simp only [Bool.false_eq_true,iff_false];omega))]⟩
set_option maxHeartbeats 1600000
theorem perm_in (L1 As Ls L:List Res):(L1++(As++(Ls++L))).Perm (As++((L1++Ls)++L)):=by
 rw [List.append_assoc];exact Bj L1 As (Ls++L)
theorem O0 {w0 w:World} {G:Aq} {L:List Res} (M:Mem w0 G L w) {a1:Option Addr} {c1:Nat} {l:List EntD} (S:Ag Bg 6 G (.slice a1 l.length c1) l) (hl:l.length≤1000000) (hmk:∀ x∈l,x.item.marks.length≤1000000):Calls Tryz.prog 159 #[.slice a1 l.length c1] w (Ht w0 G fun G' L' v=>∃ (a:Option Addr) (cs:List Value) (Ls:List Res),v=.agg #[.slice a l.length l.length]∧L' = (Cw a l.length cs::(Ls++L))∧Els (M8 Ls) 6 G' cs l):=by
 have bS:=S.bound;refine Al (vs:=[_]) Tryz.func159 rfl (n:=34) rfl rfl<|?_
 refine Bt<|?_
 refine B1 M Az rfl rfl<|?_;clear M;intro b1 w M
 refine wk ?_;refine qD rfl ?_ ?_
 ·intro h3;refine Bt<|?_
  refine Am (fun a F=>Ah (cs:=[.slice none 0 0]) (ps:=[]) Az.k rfl Az (F.evp rfl) rfl) rfl<|fun a F=>?_
  refine Be F M Az 0 ?_;clear F M a;intro w a M F;replace M:=z_M M;revert a;refine wk ?_;refine fun a F=>F6 F M (k:=0) rfl rfl Az rfl rfl rfl ?_;have hl0:l=[]:=List.eq_nil_of_length_eq_zero (by omega);subst hl0;have M:=(M.weaken (cN (sR _))).nilrow 69 6
  exact ⟨_,_,(Gle.refl _),M,none,[],[],rfl,rfl,Els.nil⟩
 intro h4;refine wk ?_;intro a F;refine Ox (rd:=(Aev [])) (Z:=(none:Option EntD)) F M C6.k B9 rfl (by decide) rfl rfl (l:=l.length) (by omega) rfl (by omega) (by show 72 * _≤_;omega) (by omega) (by simp [ti69,Value.cells,Value.oneCell']) (trivial) rfl ?_;clear F M a;intro bv5 csv5 w a M Ev5 F;revert a;refine wk ?_;have E0:Els (Aev []) 6 G csv5 (N1 some none l 0):=by rw [Abp];exact Ev5
 intro a F;refine Ba (fun m a' w'=>∃ (i:Nat),∃ (Ls:List Res),∃ (cso:List Value),m=l.length - i∧∃ G6,Gle G G6∧Fits 34 a' [(2,.pointer (some ⟨b1,0,none⟩)),(3,.slice (some ⟨bv5,0,none⟩) (l.length) (l.length)),(13,.slice a1 l.length c1),(14,.int .i64 ((l.length:Nat):Int)),(15,.int .i64 ((i:Nat):Int))]∧Mem w0 G6 (.row (.slice (some ⟨bv5,0,none⟩) (l.length) (l.length)) (l.length) (cso) 69 6::.blk b1 [.slice none 0 0] 54::(Ls++L)) w'∧(i≤l.length)∧(Els (Aev Ls) 6 G6 cso (N1 some none l i))) _ ⟨0,[],csv5,rfl,G,Gle.refl _,F.to ⟨rfl,rfl,rfl,rfl,rfl,trivial⟩,M,Nat.zero_le _,E0⟩ ?_;clear F M;rintro m a w ⟨i,Ls,cso,rfl,G6,hG6,F,M,hi,Eo⟩;replace S:=S.mono Aa hG6;revert a;refine wk ?_;refine qD rfl ?_ ?_
 ·intro h7;refine wk ?_;obtain ⟨Xi,hXi⟩:=Ap (xs:=l) (i:=i) (by omega);refine wk ?_;obtain ⟨be8,oe8,_,Ie8,_,Ae8,hTe8⟩:=S.at hXi;obtain ⟨c1e8,hcse8,hPe8,hBe8⟩:=hTe8;obtain ⟨mae8,mce8,rfl,hke8,hte8,hxe8,hne8,SMe8⟩:=hPe8;subst hcse8;have hIe8:(Xi.item.key < 18446744073709551616∧Xi.item.typ < 256∧Xi.item.text.length≤9223372036854775807):=⟨hke8,hte8,hxe8⟩;have hQe8:-9223372036854775808≤Xi.size∧Xi.size≤9223372036854775807:=hBe8;refine wk ?_;refine B1 M B9 rfl rfl<|?_;clear M;intro b9 w M
  refine Ew rfl<|?_
  intro a F;refine Be F M B9 0 ?_;clear F M a;intro w a M F;replace M:=z_M M;revert a;refine wk ?_;intro a F;refine Ar F M Co.k Bi rfl rfl (cs:=[.int .u64 ((Xi.item.key:Nat):Int),.int .u8 ((Xi.item.typ:Nat):Int),.string (str Xi.item.text),.slice mae8 Xi.item.marks.length mce8]) rfl rfl (by simp [Value.oneCell']) (by decide) rfl ?_;clear F M a;intro v11 w a M F;obtain ⟨av11,cv11,rfl,hlev11,hcmv11,hlv11⟩:=M.row_shape (k:=0) rfl;have Eb:Els Bn 4 G6 [.int .u64 ((Xi.item.key:Nat):Int),.int .u8 ((Xi.item.typ:Nat):Int),.string (str Xi.item.text),.slice mae8 Xi.item.marks.length mce8] [Xi.item]:=⟨[.int .u64 ((Xi.item.key:Nat):Int),.int .u8 ((Xi.item.typ:Nat):Int),.string (str Xi.item.text),.slice mae8 Xi.item.marks.length mce8],[],rfl,rfl,⟨mae8,mce8,rfl,hke8,hte8,hxe8,hne8,SMe8⟩,rfl⟩;obtain ⟨hnz12,Gz12,az12,cz12,hGz12,hez12,Sz12,M⟩:=M.freeze_row Ai (k:=0) rfl Eb (by decide);clear hez12 az12 cz12;replace S:=S.mono Aa hGz12;replace Eo:=Eo.mono Aku hGz12;replace Ae8:=Ae8.mono hGz12;replace SMe8:=SMe8.mono Ay hGz12;revert a;refine Py Ars rfl rfl (Aun (xs:=[Xi.item]) M Sz12 (by show 1≤1000000;omega) (fun x hx=>by rw [List.mem_singleton.1 hx];exact hmk Xi (List.mem_of_getElem? hXi)))<|?_;clear M;rintro _ _ w M ⟨ac,csc,L1,rfl,rfl,Ec⟩
  have M:=M.perm ((perm_in L1 [.blk b9 [.int .u64 ((Xi.item.key:Nat):Int),.int .u8 ((Xi.item.typ:Nat):Int),.string (str Xi.item.text),.slice mae8 Xi.item.marks.length mce8,.int .i64 Xi.size,.bool Xi.known] 69,.row (.slice (some ⟨bv5,0,none⟩) (l.length) (l.length)) (l.length) (cso) 69 6,.blk b1 [.slice none 0 0] 54] Ls L).cons _);obtain ⟨Ln,hLn⟩:∃ Ln,Ln=L1++Ls:=⟨_,rfl⟩;intro a F;rw [← hLn] at M;have hs1:∀ r∈Ls,r∈Ln:=fun r hr=>by rw [hLn];exact List.mem_append_right _ hr
  have hs2:∀ r∈L1,r∈Ln:=fun r hr=>by rw [hLn];exact List.mem_append_left _ hr
  clear hLn;replace M:=z_M M;obtain ⟨be13,_,Ie13,hme13,_,Ae13,⟨ace13,mme13,rfl,k1e13,k2e13,k3e13,k4e13,hme13,hEe13⟩⟩:=M.atRow (k:=0) rfl (by decide) Ec (rfl:[Xi.item][0]?=some Xi.item);revert a;refine wk ?_;refine Am (fun a F=>Da Bi rfl (F.ev rfl) (cs:=[.int .u64 ((Xi.item.key:Nat):Int),.int .u8 ((Xi.item.typ:Nat):Int),.string (str Xi.item.text),.slice ace13 Xi.item.marks.length Xi.item.marks.length]) rfl (Aut Ae13 0 (by omega) rfl)) rfl<|?_
  refine wk ?_;intro a F;refine Be F M Bi 1 ?_;clear F M a;intro w a M F;replace M:=z_M M;revert a;refine Ao<|F1<|?_
  have En:=W8 hs1 Eo;have hml:=Ahm some none l i;refine wk ?_;obtain ⟨Xe14,hXe14⟩:=Ap (xs:=(N1 some none l i)) (i:=i) (by omega);obtain ⟨be14,_,Ie14,hme14,_,Ae14,_⟩:=M.atRow (k:=2) rfl (by decide) En hXe14;refine wk ?_;intro a F;refine Kx F M B9 (k:=2) rfl rfl En Ie14 (A0 hXe14) rfl rfl (us:=[.int .u64 ((Xi.item.key:Nat):Int),.int .u8 ((Xi.item.typ:Nat):Int),.string (str Xi.item.text),.slice ace13 Xi.item.marks.length Xi.item.marks.length,.int .i64 Xi.size,.bool Xi.known]) rfl rfl (by simp [Value.oneCell']) (X':=(some Xi)) (show M8 Ln Gz12 [.int .u64 ((Xi.item.key:Nat):Int),.int .u8 ((Xi.item.typ:Nat):Int),.string (str Xi.item.text),.slice ace13 Xi.item.marks.length Xi.item.marks.length,.int .i64 Xi.size,.bool Xi.known] Xi from ⟨[.int .u64 ((Xi.item.key:Nat):Int),.int .u8 ((Xi.item.typ:Nat):Int),.string (str Xi.item.text),.slice ace13 Xi.item.marks.length Xi.item.marks.length],rfl,Ahb hs2 ⟨ace13,mme13,rfl,k1e13,k2e13,k3e13,k4e13,hme13,hEe13⟩,hBe8⟩) ?_;clear F M a;intro csu15 w a M Eu15 F;revert a;refine wk ?_;intro a F
  exact ⟨_,by omega,i+1,Ln,csu15,rfl,Gz12,(hG6.trans hGz12),F.to ⟨rfl,rfl,rfl,rfl,rfl,trivial⟩,(M.weaken (cN (.cons _ (cC (.cons_cons _ (sR _)))))),by omega,by have h_:=Eu15;rwa [Ahl hXi] at h_⟩
 intro h16;refine wk ?_;refine Am (fun a F=>Ah (cs:=[.slice (some ⟨bv5,0,none⟩) (l.length) (l.length)]) (ps:=[(0,.slice (some ⟨bv5,0,none⟩) (l.length) (l.length))]) Az.k rfl Az (F.evp rfl) rfl) rfl<|fun a F=>?_
 refine Be F M Az 1 ?_;clear F M a;intro w a M F;replace M:=z_M M;revert a;refine wk ?_;refine fun a F=>F6 F M (k:=1) rfl rfl Az rfl rfl rfl ?_;have Ex:=Eo;rw [Ahn (by omega)] at Ex
 exact ⟨_,_,hG6,M.weaken (cC (cN (sR _))),_,_,Ls,rfl,rfl,W9 Ex⟩
theorem O1 {w0 w:World} {G:Aq} {L Ls:List Res} {a:Option Addr} {cs:List Value} {xs:List EntD} (M:Mem w0 G (Cw a xs.length cs::(Ls++L)) w) (E:Els (M8 Ls) 6 G cs xs) :
  Calls Tryz.prog 115 #[.agg #[.slice a xs.length xs.length]] w (Bu w0 G (Cw a xs.length cs::(Ls++L)) fun v=>v=.int .i64 (Db xs)):=by
 have M1:Mem w0 G ((Cw a xs.length cs::Ls)++L) w:=M;obtain ⟨hG,M2⟩:=M1.lend;refine (Wa M2 (Aau M1 E)).mono ?_;rintro e w' h
 cases e with
 | returned v=>exact ⟨M1.back h.1,h.2⟩
 | panicked c=>exact h.elim
 | outgrown=>exact h.elim
theorem Gj {w0 w:World} {G:Aq} {L Ls:List Res} {a:Option Addr} {cs:List Value} {xs:List EntD} (M:Mem w0 G (Cw a xs.length cs::(Ls++L)) w) (E:Els (M8 Ls) 6 G cs xs) :
  ∃ G',Gle G G'∧Mem w0 G' L w∧Ag Bg 6 G' (.slice a xs.length xs.length) xs:=by
 have M1:Mem w0 G ((Cw a xs.length cs::Ls)++L) w:=M
 exact ⟨_,M1.lend.1,M1.lend.2,Aau M1 E⟩
set_option maxHeartbeats 1600000
theorem Dq {c:RulesD} {l:List EntD} (h:Bb c l=0):Cy c∧l.length≤1024∧(∀ i x,l[i]?=some x→Qm c (l.take i) x=0)∧Db l=0:=by
 by_cases hv:Cy c
 ·by_cases h2:1024 < l.length
  ·rw [Aiw hv h2] at h;cases h
  by_cases h3:Bm (Hi c l) l.length=0
  ·rw [I3 hv h2 h3 (Nat.le_refl _)] at h
   exact ⟨hv,by omega,fun i x hx=>by have:=Dh.1 h3 i (A0 hx);rwa [Oo hx] at this,h⟩
  unfold Bb at h;rw [if_neg (not_not_intro hv),if_neg h2,if_neg h3] at h;exact absurd h h3
 rw [Aiv hv] at h;cases h
theorem Xg {c:RulesD} {l:List EntD} (h:Bb c l=0) {i:Nat} {x:EntD} (hx:l[i]?=some x):¬ Cx (l.take i) x.item.key:=(Ep.1 (Mx.1 ((Dq h).2.2.1 i x hx)).1).2.1
theorem Ob {c:RulesD} {l:List EntD} (h:Bb c l=0):∀ x∈l,ItemOk (c.kinds.length:Int) x.item:=fun x hx=>by
 obtain ⟨i,hi⟩:=List.mem_iff_getElem?.1 hx
 exact (Ep.1 (Mx.1 ((Dq h).2.2.1 i x hi)).1).1
theorem Qy (M:Mem w0 G L w) {c:RulesD} {a1:Option Addr} {c1:Nat} {l:List EntD} (S:Ag Bg 6 G (.slice a1 l.length c1) l) (hck:Bb c l=0):Calls Tryz.prog 139 #[.slice a1 l.length c1] w (Ke w0 G fun L' v=>∃ (b mb:Nat) (es:Array MapEntry) (cl:Nat) (ks:List Nat),v=.func (.func 168) #[] #[.pointer (some ⟨b,0,none⟩)]∧L' = (.blk b [.map (some mb)] 185::.obj mb (.map es cl)::L)∧Il es ks∧∀ q,q∈ks↔Cx l q):=by
 have bS:=S.bound;refine Al (vs:=[_]) Tryz.func139 rfl (n:=19) rfl rfl<|?_
 refine wk ?_;intro a F;refine Td (kt:=23) (et:=4) F M rfl ?_;clear F M a;intro bm1 w a M F;revert a;refine B1 M Lm rfl rfl<|?_;clear M;intro b2 w M
 refine Dv Lm M 0 rfl rfl rfl rfl rfl rfl<|?_;clear M;intro w M
 refine wk ?_;refine fun a F=>Ba (fun m a' w'=>∃ (i:Nat),∃ (es:Array MapEntry),∃ (cl:Nat),∃ (ks:List Nat),m=l.length - i∧Fits 19 a' [(3,.pointer (some ⟨b2,0,none⟩)),(7,.slice a1 l.length c1),(8,.int .i64 ((l.length:Nat):Int)),(9,.int .i64 ((i:Nat):Int))]∧Mem w0 G (.blk b2 [.map (some bm1)] 185::.obj bm1 (.map es cl)::L) w'∧(i≤l.length)∧(Il es ks)∧(Fb l i ks)) _ ⟨0,#[],0,([]:List Nat),rfl,F.to ⟨rfl,rfl,rfl,rfl,trivial⟩,M,Nat.zero_le _,Il.nil,Fb.zero l⟩ ?_;clear F M;rintro m a w ⟨i,es,cl,ks,rfl,F,M,hi,Es,hks⟩;revert a;refine wk ?_;refine qD rfl ?_ ?_
 ·intro h4;refine wk ?_;obtain ⟨Xe5,hXe5⟩:=Ap (xs:=l) (i:=i) (by omega);obtain ⟨be5,oe5,_,Ie5,_,Ae5,hTe5⟩:=S.at hXe5;obtain ⟨c1e5,hcse5,hPe5,hBe5⟩:=hTe5;obtain ⟨mae5,mce5,rfl,hke5,hte5,hxe5,hne5,SMe5⟩:=hPe5;subst hcse5;have hIe5:(Xe5.item.key < 18446744073709551616∧Xe5.item.typ < 256∧Xe5.item.text.length≤9223372036854775807):=⟨hke5,hte5,hxe5⟩;have hQe5:-9223372036854775808≤Xe5.size∧Xe5.size≤9223372036854775807:=hBe5;refine wk ?_;refine B1 M B9 rfl rfl<|?_;clear M;intro b6 w M
  intro a F;refine Be F M B9 0 ?_;clear F M a;intro w a M F;replace M:=z_M M;revert a;refine Ao<|F1<|?_
  have hnk:¬ Xe5.item.key∈ks:=fun h_=>Xg hck hXe5 ((hks _).1 h_);refine wk ?_;intro a F;refine P6 (z:=Xe5.item.key) F M (k:=2) rfl Es Lm.k H4.k rfl rfl rfl (by assumption) ?_;clear F M a;intro esm8 clm8 w a Em8 M F;revert a;refine wk ?_;intro a F
  exact ⟨_,by omega,i+1,esm8,clm8,(Xe5.item.key::ks),rfl,F.to ⟨rfl,rfl,rfl,rfl,trivial⟩,(M.weaken (cN (cC (.cons_cons _ (sR _))))),by omega,Em8,hks.step hXe5⟩
 intro h9;refine wk ?_;refine Am (fun a F=>Ct (vs:=#[.pointer (some ⟨b2,0,none⟩)]) (by simp only [List.map_toArray,List.map_cons,List.map_nil,F.ev (x:=.tmp 3) rfl])) rfl<|?_
 refine wk ?_;refine Ad rfl rfl<|?_
 replace M:=M.perm (Af _ 1 _ rfl);replace M:=M.perm (Af _ 1 _ rfl);replace M:=z_M M
 exact ⟨_,M,b2,bm1,es,cl,ks,rfl,rfl,Es,by have h_:=hks;unfold Fb at h_;rwa [List.take_of_length_le (by omega)] at h_⟩
theorem Xt {w0 w:World} {G:Aq} {L:List Res} {b mb:Nat} {es:Array MapEntry} {cl:Nat} {ks:List Nat} (M:Mem w0 G (.blk b [.map (some mb)] 185::.obj mb (.map es cl)::L) w) (Es:Il es ks) {x:ItemD} {ma:Option Addr} {mc:Nat} (hI:(x.key < 18446744073709551616∧x.typ < 256∧x.text.length≤9223372036854775807)) (SM:Ag Cf 1 G (.slice ma x.marks.length mc) x.marks) {i:Int} :
  Calls Tryz.prog 168 #[.int .i64 i,.agg #[.int .u64 ((x.key:Nat):Int),.int .u8 ((x.typ:Nat):Int),.string (str x.text),.slice ma x.marks.length mc],.pointer (some ⟨b,0,none⟩)] w (Ke w0 G fun L' v=>∃ (es':Array MapEntry) (cl':Nat),v=.int .i64 (if x.key∈ks then 8 else 0)∧L' = (.blk b [.map (some mb)] 185::.obj mb (.map es' cl')::L)∧(¬ x.key∈ks→Il es' (x.key::ks))):=by
 refine Al (vs:=[_,_,_]) Tryz.func168 rfl (n:=13) rfl rfl<|?_
 refine Bt<|?_
 refine B2 M rfl rfl rfl<|?_;clear M;intro b1 w M
 refine wk ?_;refine fun a F=>Te F M (k:=2) rfl Es Lm.k H4.k Amq rfl rfl rfl rfl ?_;clear F a;intro a F;revert a;refine Ao<|F1<|?_
 refine qD rfl ?_ ?_
 ·intro h2;refine wk ?_;refine Ad rfl rfl<|?_
  replace M:=M.perm (Af _ 2 _ rfl);replace M:=M.perm (Af _ 2 _ rfl);replace M:=z_M M
  exact ⟨_,M.weaken (cC (.cons_cons _ (cN (sR _)))),es,cl,by rw [if_pos (by assumption)],rfl,fun h_=>absurd (by assumption) h_⟩
 intro h3;refine wk ?_;intro a F;refine P6 (z:=x.key) F M (k:=2) rfl Es Lm.k H4.k rfl rfl rfl (by assumption) ?_;clear F M a;intro esm4 clm4 w a Em4 M F;revert a;refine wk ?_;refine Ad rfl rfl<|?_
 replace M:=M.perm (Af _ 2 _ rfl);replace M:=M.perm (Af _ 2 _ rfl);replace M:=z_M M
 exact ⟨_,M.weaken (cC (.cons_cons _ (cN (sR _)))),esm4,clm4,by rw [if_neg (by assumption)],rfl,fun _=>Em4⟩
theorem Alh (M:Mem w0 G L w) {a1:Option Addr} {c1:Nat} {l:List EntD} (S:Ag Bg 6 G (.slice a1 l.length c1) l) {b5:Nat} (A5:At G b5 0 [.slice a1 l.length c1]) {b6 p:Nat} (A6:At G b6 0 [.int .i64 ((p:Nat):Int)]) {a2:Option Addr} {c2:Nat} {fr:List EntD} (R:Ag Bg 6 G (.slice a2 fr.length c2) fr) (hp:p≤l.length) (hl:l.length≤1000000) (hf:fr.length≤1000000):Calls Tryz.prog 161 #[.slice a2 fr.length c2,.pointer (some ⟨b5,0,none⟩),.pointer (some ⟨b6,0,none⟩)] w (Ret w0 G L fun G' v=>∃ (a:Option Addr) (cc:Nat),v=.slice a (Ci l p 0 fr).length cc∧Ag Bg 6 G' (.slice a (Ci l p 0 fr).length cc) (Ci l p 0 fr)):=by
 refine Al (vs:=[_,_,_]) Tryz.func161 rfl (n:=10) rfl rfl<|?_
 refine wk ?_;refine D4 Um rfl rfl (H5 (l:=l) (fr:=fr) (p:=p) (n:=0) M S R (by omega) (by omega) (by omega))<|?_;clear M;rintro _ Gq1 w hGq1 M ⟨aq1,cq1,rfl,Sq1⟩
 replace S:=S.mono Aa hGq1;replace A5:=A5.mono hGq1;replace A6:=A6.mono hGq1;replace R:=R.mono Aa hGq1;refine wk ?_;refine Ad rfl rfl<|?_
 exact ⟨_,hGq1,M,aq1,cq1,rfl,Sq1⟩
theorem Aka (M:Mem w0 G L w) {a1:Option Addr} {c1:Nat} {l:List EntD} (S:Ag Bg 6 G (.slice a1 l.length c1) l) {b5:Nat} (A5:At G b5 0 [.slice a1 l.length c1]) {b6 p:Nat} (A6:At G b6 0 [.int .i64 ((p:Nat):Int)]) {b7 n:Nat} (A7:At G b7 0 [.int .i64 ((n:Nat):Int)]) {a2:Option Addr} {c2:Nat} {fr:List EntD} (R:Ag Bg 6 G (.slice a2 fr.length c2) fr) (hp:p+n≤l.length) (hl:l.length≤1000000):Calls Tryz.prog 118 #[.slice a2 fr.length c2,.pointer (some ⟨b5,0,none⟩),.pointer (some ⟨b6,0,none⟩),.pointer (some ⟨b7,0,none⟩)] w (Ret w0 G L fun G' v=>∃ (a:Option Addr) (cc:Nat),v=.slice a (Ci l p n []).length cc∧Ag Bg 6 G' (.slice a (Ci l p n []).length cc) (Ci l p n [])):=by
 refine Al (vs:=[_,_,_,_]) Tryz.func118 rfl (n:=11) rfl rfl<|?_
 refine wk ?_;refine D4 Um rfl rfl (H5 (l:=l) (fr:=([]:List EntD)) (p:=p) (n:=n) M S Ag.nil (by omega) (by omega) (by (show 0≤1000000;omega)))<|?_;clear M;rintro _ Gq1 w hGq1 M ⟨aq1,cq1,rfl,Sq1⟩
 replace S:=S.mono Aa hGq1;replace A5:=A5.mono hGq1;replace A6:=A6.mono hGq1;replace A7:=A7.mono hGq1;replace R:=R.mono Aa hGq1;refine wk ?_;refine Ad rfl rfl<|?_
 exact ⟨_,hGq1,M,aq1,cq1,rfl,Sq1⟩
theorem Aks (M:Mem w0 G L w) {a1:Option Addr} {c1:Nat} {l:List EntD} (S:Ag Bg 6 G (.slice a1 l.length c1) l) {b5:Nat} (A5:At G b5 0 [.slice a1 l.length c1]) {b6 p:Nat} (A6:At G b6 0 [.int .i64 ((p:Nat):Int)]) {b7 n:Nat} (A7:At G b7 0 [.int .i64 ((n:Nat):Int)]) {b8 q:Nat} (A8:At G b8 0 [.int .i64 ((q:Nat):Int)]) {a2:Option Addr} {c2:Nat} {fr:List EntD} (R:Ag Bg 6 G (.slice a2 fr.length c2) fr) (hp:p+n≤l.length) (hq:q+n≤l.length) (hl:l.length≤1000000):Calls Tryz.prog 162 #[.slice a2 fr.length c2,.pointer (some ⟨b5,0,none⟩),.pointer (some ⟨b6,0,none⟩),.pointer (some ⟨b7,0,none⟩),.pointer (some ⟨b8,0,none⟩)] w (Ret w0 G L fun G' v=>∃ (a:Option Addr) (cc:Nat),v=.slice a (O3 l p n q).length cc∧Ag Bg 6 G' (.slice a (O3 l p n q).length cc) (O3 l p n q)):=by
 refine Al (vs:=[_,_,_,_,_]) Tryz.func162 rfl (n:=21) rfl rfl<|?_
 refine wk ?_;refine fun a F=>E3 [(true,0),(true,1),(true,2),(true,3),(true,5),(true,6),(true,7),(true,8),(true,9),(true,10),(true,11),(true,12),(false,4),(false,13),(true,14)] (Keep G []) rfl (by kernel_rfl) (fun c a d v w h=>by cases d <;> exact h) (Ax (M.drew _)) ?_;replace M:=M.drew (w.drawn+1);revert a;refine wk ?_;obtain ⟨as1,cs1,Is1,hms1,hcs1,Ss1⟩:=S.part (p) (p+n) (by omega) (by omega);refine l_r (fun a F w M=>Ge C6.k B9 Is1 (F.ev rfl) (h:=p+n) ⟨(F.ev rfl),by omega⟩ ⟨(F.ev rfl),by omega⟩ (by omega) (by omega)) rfl<|l_a rfl<|D4 Um rfl rfl (H5 (l:=l) (fr:=([]:List EntD)) (p:=p) (n:=n) M S Ag.nil (by omega) (by omega) (by (first | (show 0≤1000000;omega) | (rw [List.length_take];omega))))<|?_;clear M;rintro _ Gq2 w hGq2 M ⟨aq2,cq2,rfl,Sq2⟩
 replace S:=S.mono Aa hGq2;replace A5:=A5.mono hGq2;replace A6:=A6.mono hGq2;replace A7:=A7.mono hGq2;replace A8:=A8.mono hGq2;replace R:=R.mono Aa hGq2;replace Ss1:=Ss1.mono Aa hGq2;refine Ao<|?_
 refine eK (C':=Keep Gq2 []) (Ax M) (fun w h=>h.mono hGq2 (by simp))<|l_a rfl<|?_
 have hsl9:p+n - p=((l.drop p).take n).length:=by rw [List.length_take,List.length_drop];omega
 have hdt9:(l.take (p+n)).drop p=(l.drop p).take n:=by rw [List.drop_take];congr 1;omega
 intro a F;rw [hsl9,hdt9] at Ss1;rw [hsl9] at F;have hml9:=Km (l:=l) (p:=p) (n:=n) (by omega);revert a;refine D4 Um rfl rfl (H5 (l:=(Ci l p n ([]:List EntD))) (fr:=((l.drop p).take n)) (p:=q) (n:=0) M Sq2 Ss1 (by omega) (by omega) (by (first | (show 0≤1000000;omega) | (rw [List.length_take];omega))))<|?_;clear M;rintro _ Gq3 w hGq3 M ⟨aq3,cq3,rfl,Sq3⟩
 replace S:=S.mono Aa hGq3;replace A5:=A5.mono hGq3;replace A6:=A6.mono hGq3;replace A7:=A7.mono hGq3;replace A8:=A8.mono hGq3;replace R:=R.mono Aa hGq3;replace Ss1:=Ss1.mono Aa hGq3;replace Sq2:=Sq2.mono Aa hGq3;refine Ao<|?_
 refine eK (C':=Keep Gq3 []) (Ax M) (fun w h=>h.mono hGq3 (by simp))<|?_
 refine wk ?_;refine Ad rfl rfl<|?_
 exact ⟨_,(hGq2.trans hGq3),M,aq3,cq3,rfl,Sq3⟩
theorem Aly (M:Mem w0 G L w) {a1:Option Addr} {c1:Nat} {l:List EntD} (S:Ag Bg 6 G (.slice a1 l.length c1) l) {b5:Nat} (A5:At G b5 0 [.slice a1 l.length c1]) {b6 p:Nat} (A6:At G b6 0 [.int .i64 ((p:Nat):Int)]) {x:ItemD} {ma:Option Addr} {mc:Nat} (hI:(x.key < 18446744073709551616∧x.typ < 256∧x.text.length≤9223372036854775807)) (SM:Ag Cf 1 G (.slice ma x.marks.length mc) x.marks) {i:Nat} {y:EntD} (hy:l[p+i]?=some y) (hl:l.length≤1000000):Calls Tryz.prog 163 #[.int .i64 ((i:Nat):Int),.agg #[.int .u64 ((x.key:Nat):Int),.int .u8 ((x.typ:Nat):Int),.string (str x.text),.slice ma x.marks.length mc],.pointer (some ⟨b5,0,none⟩),.pointer (some ⟨b6,0,none⟩)] w (Bu w0 G L fun v=>v=.int .i64 (if y.item.key=x.key then 0 else 9)):=by
 have hyl:=A0 hy;refine Al (vs:=[_,_,_,_]) Tryz.func163 rfl (n:=19) rfl rfl<|?_
 refine Bt<|?_
 refine B2 M rfl rfl rfl<|?_;clear M;intro b1 w M
 refine wk ?_;refine fun a F=>E3 [(true,0),(true,1),(true,2),(true,3),(true,4),(true,5),(true,6),(true,7),(true,8),(true,9),(true,10),(true,11)] (Keep G [.blk b1 [.int .u64 ((x.key:Nat):Int),.int .u8 ((x.typ:Nat):Int),.string (str x.text),.slice ma x.marks.length mc] 26]) rfl (by kernel_rfl) (fun c a d v w h=>by cases d <;> exact h) (Ax (M.drew _)) ?_;replace M:=M.drew (w.drawn+1);revert a;refine wk ?_;obtain ⟨be2,oe2,_,Ie2,_,Ae2,hTe2⟩:=S.at hy;obtain ⟨c1e2,hcse2,hPe2,hBe2⟩:=hTe2;obtain ⟨mae2,mce2,rfl,hke2,hte2,hxe2,hne2,SMe2⟩:=hPe2;subst hcse2;have hIe2:(y.item.key < 18446744073709551616∧y.item.typ < 256∧y.item.text.length≤9223372036854775807):=⟨hke2,hte2,hxe2⟩;have hQe2:-9223372036854775808≤y.size∧y.size≤9223372036854775807:=hBe2;refine wk ?_
 generalize ({ w with drawn:=w.drawn+1 }:World)=w at M ⊢
 refine wk ?_;refine Ae rfl ?_ ?_
 ·intro h3b;have h3:=dF (Ab h3b);refine wk ?_;refine Ad rfl rfl<|?_
  exact ⟨M.weaken dS1,by rw [if_neg (by omega)]⟩
 intro h4b;have h4:=dT (Ac h4b);refine wk ?_;refine Ad rfl rfl<|?_
 exact ⟨M.weaken dS1,by rw [if_pos (by omega)]⟩
theorem Alx (M:Mem w0 G L w) {a1:Option Addr} {c1:Nat} {l:List EntD} (S:Ag Bg 6 G (.slice a1 l.length c1) l) {b5:Nat} (A5:At G b5 0 [.slice a1 l.length c1]) {b6 p:Nat} (A6:At G b6 0 [.int .i64 ((p:Nat):Int)]) {ta:Option Addr} {tc:Nat} {xs:List ItemD} (T:Ag Bn 4 G (.slice ta xs.length tc) xs) {b9:Nat} (A9:At G b9 0 [.slice ta xs.length tc]) {a2:Option Addr} {c2:Nat} {fr:List EntD} (R:Ag Bg 6 G (.slice a2 fr.length c2) fr) (hp:p+xs.length≤l.length) (hl:l.length≤1000000) (hf:fr.length≤1000000):Calls Tryz.prog 164 #[.slice a2 fr.length c2,.pointer (some ⟨b5,0,none⟩),.pointer (some ⟨b6,0,none⟩),.pointer (some ⟨b9,0,none⟩)] w (Ret w0 G L fun G' v=>∃ (a:Option Addr) (cc:Nat),v=.slice a (Ci l p xs.length fr).length cc∧Ag Bg 6 G' (.slice a (Ci l p xs.length fr).length cc) (Ci l p xs.length fr)):=by
 refine Al (vs:=[_,_,_,_]) Tryz.func164 rfl (n:=13) rfl rfl<|?_
 refine wk ?_;refine D4 Um rfl rfl (H5 (l:=l) (fr:=fr) (p:=p) (n:=xs.length) M S R (by omega) (by omega) (by omega))<|?_;clear M;rintro _ Gq1 w hGq1 M ⟨aq1,cq1,rfl,Sq1⟩
 replace S:=S.mono Aa hGq1;replace A5:=A5.mono hGq1;replace A6:=A6.mono hGq1;replace A9:=A9.mono hGq1;replace R:=R.mono Aa hGq1;replace T:=T.mono Ai hGq1;refine wk ?_;refine Ad rfl rfl<|?_
 exact ⟨_,hGq1,M,aq1,cq1,rfl,Sq1⟩
theorem Ajx (M:Mem w0 G L w) {a2:Option Addr} {c2:Nat} {fr:List EntD} (R:Ag Bg 6 G (.slice a2 fr.length c2) fr):Calls Tryz.prog 140 #[.slice a2 fr.length c2] w (Ret w0 G L fun G' v=>∃ (a:Option Addr) (cc:Nat),v=.slice a (fr).length cc∧Ag Bg 6 G' (.slice a (fr).length cc) (fr)):=by
 refine Al (vs:=[_]) Tryz.func140 rfl (n:=4) rfl rfl<|?_
 refine wk ?_;refine Ad rfl rfl<|?_
 exact ⟨_,(Gle.refl _),M,a2,c2,rfl,R⟩
end Go.Proofs.YtmmhmcplegpenaaGreatDoor
