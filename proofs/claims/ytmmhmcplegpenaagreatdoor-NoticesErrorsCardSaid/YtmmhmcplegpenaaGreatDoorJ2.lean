/- The walks, part TB. · The walks, part TC. -/
import Derived.Test.YtmmhmcplegpenaaGreatDoorJ1
set_option linter.unusedSimpArgs false
set_option linter.unusedVariables false
namespace Go.Proofs.YtmmhmcplegpenaaGreatDoor.T
open Go Go.Y Go.Proofs
variable {w0 w:World} {G:A4} {L:List Res}
theorem Aiu {w0 w:World} {G:A4} {L:List Res} {b:Nat} {x d:NT} {ta ka tad kad:Option Addr} {tc kc tcd kcd:Nat} (M:Mem w0 G (.blk b [.int .u8 x.kind,.string (str x.tag),.string (str x.key),.slice ta x.as.length tc,.string (str x.text),.slice ka x.kids.length kc] 193::L) w) :
  Calls Tryz.prog 239 #[.agg #[.int .u8 d.kind,.string (str d.tag),.string (str d.key),.slice tad d.as.length tcd,.string (str d.text),.slice kad d.kids.length kcd],.pointer (some ⟨b,0,none⟩)] w (Cs w0 G (.blk b [.int .u8 x.kind,.string (str x.tag),.string (str x.key),.slice ta x.as.length tc,.string (str x.text),.slice ka x.kids.length kc] 193::L) fun v=>v=.bool (decide (d.key=x.key))):=by
 refine Ay (vs:=[_,_]) Tryz.func239 rfl (n:=9) rfl rfl<|Ac<|Cz M rfl rfl rfl<|?_;clear M;intro b1 w M
 refine Ab rfl<|Ac<|A0 Av.k rfl rfl<|Bg Bq M 0 rfl rfl rfl rfl<|A0 Av.k rfl rfl<|Bg Bq M 1 rfl rfl rfl rfl<|E3 rfl rfl<|Ab rfl<|Ae<|Ad rfl rfl<|?_
 exact ⟨M.weaken (cN (cC (sR _))),by simp⟩
theorem Qm {w0 w:World} {G:A4} {L:List Res} {b:Nat} {x:NT} {ta ka:Option Addr} {tc kc:Nat} (M:Mem w0 G (.blk b [.int .u8 x.kind,.string (str x.tag),.string (str x.key),.slice ta x.as.length tc,.string (str x.text),.slice ka x.kids.length kc] 193::L) w) {ks:List NT} {kad:Option Addr} {kcd:Nat} (S:Au rdN 6 G (.slice kad ks.length kcd) ks) (hks:ks.length≤9223372036854775807) :
  Calls Tryz.prog 242 #[.slice kad ks.length kcd,.func (.func 239) #[] #[.pointer (some ⟨b,0,none⟩)]] w (Cs w0 G (.blk b [.int .u8 x.kind,.string (str x.tag),.string (str x.key),.slice ta x.as.length tc,.string (str x.text),.slice ka x.kids.length kc] 193::L) fun v=>∃ z:Int,v=.int .i64 z∧(0≤z↔Yx ks x.key)):=by
 refine Ay (vs:=[_,_]) Tryz.func242 rfl (n:=19) rfl rfl<|Ac<|Ab rfl<|Ag<|Ac<|Aa rfl<|B8 Cf.k rfl<|Aa rfl<|Ax<|fun a F=>Bz (fun m a' w'=>∃ (i:Nat),m=ks.length - i∧Fits 19 a' [(0,.slice kad ks.length kcd),(1,.func (.func 239) #[] #[.pointer (some ⟨b,0,none⟩)]),(7,.int .i64 ((ks.length:Nat):Int)),(8,.int .i64 ((i:Nat):Int))]∧Mem w0 G (.blk b [.int .u8 x.kind,.string (str x.tag),.string (str x.key),.slice ta x.as.length tc,.string (str x.text),.slice ka x.kids.length kc] 193::L) w'∧(i≤ks.length)∧(∀ (m:Nat) (d:NT),m < i→ks[m]?=some d→d.key≠x.key)) _ ⟨0,rfl,F.to ⟨rfl,rfl,rfl,rfl,trivial⟩,M,Nat.zero_le _,fun m d h=>by omega⟩ ?_
 clear F M;rintro m a w ⟨i,rfl,F,M,hi,hA⟩;revert a;refine Ac<|C2 rfl rfl<|Ag<|Ap rfl ?_ ?_
 ·intro h1b;have h1:=dT h1b;refine Aq<|Ag<|Ax<|Ac<|Aa rfl<|Ab rfl<|Ac<|Aa rfl<|Aa rfl<|Aa rfl<|?_
  obtain ⟨Xe2,hXe2⟩:=A2 (xs:=ks) (i:=i) (by omega);obtain ⟨be2,oe2,_,Ie2,_,Ae2,hTe2⟩:=S.at hXe2;obtain ⟨tae2,tce2,kae2,kce2,rfl,hke2,hle2,SAe2,SKe2⟩:=Di hTe2;refine D0 Cf.k Av Ie2 rfl rfl<|Ar (fun a F=>Af Av rfl (F.ev rfl) (cs:=[.int .u8 Xe2.kind,.string (str Xe2.tag),.string (str Xe2.key),.slice tae2 Xe2.as.length tce2,.string (str Xe2.text),.slice kae2 Xe2.kids.length kce2]) rfl (M.cellsA Ae2 0 (by omega) rfl)) rfl<|?_
  change Mem w0 G (_::L) _ at M;refine Acm ent239 (caps:=[.pointer (some ⟨b,0,none⟩)]) rfl rfl rfl (Aiu (x:=x) (d:=Xe2) M)<|?_;clear M;rintro _ w M rfl
  refine Ap rfl ?_ ?_
  ·intro h3b;have h3:=dT h3b;refine Ac<|Aa rfl<|Ab rfl<|Ae<|Ad rfl rfl<|?_
   exact ⟨M,_,rfl,⟨fun _=>⟨_,List.mem_of_getElem? hXe2,by assumption⟩,fun _=>by omega⟩⟩
  intro h4b;have h4:=dF h4b;refine Aq<|Az<|Bx rfl rfl<|Aa rfl<|Bc<|Cm<|fun a F=>?_
  exact ⟨_,by omega,i+1,rfl,F.to ⟨rfl,rfl,rfl,rfl,trivial⟩,M,by omega,fun m d hm hd=>by rcases Nat.eq_or_lt_of_le (show m≤i by omega) with e | e;(subst e;rw [hXe2] at hd;simp only [Option.some.injEq] at hd;subst hd;assumption);exact hA m d e hd⟩
 intro h5b;have h5:=dF h5b;refine B5<|Bw<|Bw<|Dj<|Ac<|Ab rfl<|Ae<|Ad rfl rfl<|?_
 exact ⟨M,_,rfl,⟨fun h=>by omega,fun ⟨d,hd,he⟩=>by obtain ⟨m,hm⟩:=List.mem_iff_getElem?.1 hd;exact absurd he (hA m d (by have:=Bj hm;omega) hm)⟩⟩
theorem Aei {w0 w:World} {G:A4} {L:List Res} {b:Nat} {x:NT} {ta ka:Option Addr} {tc kc:Nat} (M:Mem w0 G (.blk b [.int .u8 x.kind,.string (str x.tag),.string (str x.key),.slice ta x.as.length tc,.string (str x.text),.slice ka x.kids.length kc] 193::L) w) {ks:List NT} {kad:Option Addr} {kcd:Nat} (S:Au rdN 6 G (.slice kad ks.length kcd) ks) (hks:ks.length≤9223372036854775807) :
  Calls Tryz.prog 238 #[.slice kad ks.length kcd,.func (.func 239) #[] #[.pointer (some ⟨b,0,none⟩)]] w (Cs w0 G (.blk b [.int .u8 x.kind,.string (str x.tag),.string (str x.key),.slice ta x.as.length tc,.string (str x.text),.slice ka x.kids.length kc] 193::L) fun v=>∃ bb:Bool,v=.bool bb∧(bb=true↔Yx ks x.key)):=by
 refine Ay (vs:=[_,_]) Tryz.func238 rfl (n:=9) rfl rfl<|Ac<|Ab rfl<|Ac<|Aa rfl<|Aa rfl<|?_
 change Mem w0 G (_::L) _ at M;refine Bs ent242 rfl rfl (Qm (x:=x) (ks:=ks) M S (by omega))<|?_;clear M;rintro _ w M ⟨z1,rfl,hz1⟩
 refine Kv rfl rfl<|Ab rfl<|Ae<|Ad rfl rfl<|?_
 exact ⟨M,_,rfl,decide_eq_true_iff.trans hz1⟩
theorem Aep (M:Mem w0 G L w) {x:NT} {ta:Option Addr} {tc:Nat} {ka:Option Addr} {kc:Nat} (hk:Bb .u8 x.kind) (hl:(x.tag.length≤9223372036854775807∧x.key.length≤9223372036854775807∧x.text.length≤9223372036854775807)) (SA:Au Fc 2 G (.slice ta x.as.length tc) x.as) (SK:Au rdN 6 G (.slice ka x.kids.length kc) x.kids) {nb no:Nat} (A:At G nb no [.int .u8 x.kind,.string (str x.tag),.string (str x.key),.slice ta x.as.length tc,.string (str x.text),.slice ka x.kids.length kc]):Calls Tryz.prog 233 #[.pointer (some ⟨nb,no,none⟩)] w (Cs w0 G L fun v=>∃ bb:Bool,v=.bool bb∧(bb=true↔Ij x)):=by
 refine Ay (vs:=[_]) Tryz.func233 rfl (n:=161) rfl rfl<|Ac<|Ab rfl<|Ag<|Ac<|Aa rfl<|Fi rfl<|A0 Av.k rfl rfl<|Dq Fa M A 0 rfl rfl rfl rfl<|C3 rfl rfl<|Ap rfl ?_ ?_
 ·intro h1b;have h1:=dT h1b;refine Ac<|Aa rfl<|Fi rfl<|A0 Av.k rfl rfl<|Dq Bq M A 4 rfl rfl rfl rfl<|Bs Amx rfl rfl (Lk (s:=x.text) M (by omega))<|?_;clear M;rintro _ w M ⟨b2,rfl,hb2⟩
  refine Aa rfl<|?_
  rcases bE (b2) with h3b | h10b
  ·skip
   have h3:(b2)=true:=h3b;refine g_t rfl h3b<|Aa rfl<|g_t rfl h3b<|Fi rfl<|g_t rfl h3b<|A0 Av.k rfl rfl<|g_t rfl h3b<|Dq Bq M A 1 rfl rfl rfl rfl<|g_t rfl h3b<|E3 rfl rfl<|Bh rfl h3b rfl<|Aa rfl<|?_
   rcases bE (decide (x.tag=([]:List UInt8))) with h4b | h9b
   ·skip
    have h4:=dT h4b;refine g_t rfl h4b<|Aa rfl<|g_t rfl h4b<|Fi rfl<|g_t rfl h4b<|A0 Av.k rfl rfl<|g_t rfl h4b<|Dq Bq M A 2 rfl rfl rfl rfl<|g_t rfl h4b<|E3 rfl rfl<|Bh rfl h4b rfl<|Aa rfl<|?_
    rcases bE (decide (x.key=([]:List UInt8))) with h5b | h8b
    ·skip
     have h5:=dT h5b;refine g_t rfl h5b<|Aa rfl<|g_t rfl h5b<|Fi rfl<|g_t rfl h5b<|A0 Av.k rfl rfl<|g_t rfl h5b<|Dq Ee M A 3 rfl rfl rfl rfl<|g_t rfl h5b<|B8 Ee.k rfl<|g_t rfl h5b<|C3 rfl rfl<|Bh rfl h5b rfl<|Aa rfl<|?_
     rcases bE (decide (((x.as.length:Nat):Int)=0)) with h6b | h7b
     ·skip
      have h6:=dT h6b;refine g_t rfl h6b<|Aa rfl<|g_t rfl h6b<|Fi rfl<|g_t rfl h6b<|A0 Av.k rfl rfl<|g_t rfl h6b<|Dq Cf M A 5 rfl rfl rfl rfl<|g_t rfl h6b<|B8 Cf.k rfl<|g_t rfl h6b<|C3 rfl rfl<|Bh rfl h6b rfl<|Ab rfl<|Ae<|Ad rfl rfl<|?_
      exact ⟨M,(decide (((x.kids.length:Nat):Int)=0)),rfl,(by rw [F0 (by assumption)];clear M;grind)⟩
     have h7:=dF h7b;refine g_f rfl h7b<|g_f rfl h7b<|g_f rfl h7b<|g_f rfl h7b<|g_f rfl h7b<|g_f rfl h7b<|Be rfl h7b rfl<|Ab rfl<|Ae<|Ad rfl rfl<|?_
     exact ⟨M,false,rfl,(by rw [F0 (by assumption)];clear M;grind)⟩
    have h8:=dF h8b;refine g_f rfl h8b<|g_f rfl h8b<|g_f rfl h8b<|g_f rfl h8b<|g_f rfl h8b<|g_f rfl h8b<|Be rfl h8b rfl<|Aa rfl<|g_f rfl rfl<|g_f rfl rfl<|g_f rfl rfl<|g_f rfl rfl<|g_f rfl rfl<|g_f rfl rfl<|Be rfl rfl rfl<|Ab rfl<|Ae<|Ad rfl rfl<|?_
    exact ⟨M,false,rfl,(by rw [F0 (by assumption)];clear M;grind)⟩
   have h9:=dF h9b;refine g_f rfl h9b<|g_f rfl h9b<|g_f rfl h9b<|g_f rfl h9b<|g_f rfl h9b<|Be rfl h9b rfl<|Aa rfl<|g_f rfl rfl<|g_f rfl rfl<|g_f rfl rfl<|g_f rfl rfl<|g_f rfl rfl<|g_f rfl rfl<|Be rfl rfl rfl<|Aa rfl<|g_f rfl rfl<|g_f rfl rfl<|g_f rfl rfl<|g_f rfl rfl<|g_f rfl rfl<|g_f rfl rfl<|Be rfl rfl rfl<|Ab rfl<|Bc<|?_
   refine Ae<|Ad rfl rfl<|?_
   exact ⟨M,false,rfl,(by rw [F0 (by assumption)];clear M;grind)⟩
  have h10:(b2)=false:=h10b;refine g_f rfl h10b<|g_f rfl h10b<|g_f rfl h10b<|g_f rfl h10b<|g_f rfl h10b<|Be rfl h10b rfl<|Aa rfl<|g_f rfl rfl<|g_f rfl rfl<|g_f rfl rfl<|g_f rfl rfl<|g_f rfl rfl<|Be rfl rfl rfl<|Aa rfl<|g_f rfl rfl<|g_f rfl rfl<|g_f rfl rfl<|g_f rfl rfl<|g_f rfl rfl<|g_f rfl rfl<|Be rfl rfl rfl<|Aa rfl<|g_f rfl rfl<|g_f rfl rfl<|?_
  refine g_f rfl rfl<|g_f rfl rfl<|g_f rfl rfl<|g_f rfl rfl<|Be rfl rfl rfl<|Ab rfl<|Ae<|Ad rfl rfl<|?_
  exact ⟨M,false,rfl,(by rw [F0 (by assumption)];clear M;grind)⟩
 intro h11b;have h11:=dF h11b;refine Aq<|Ag<|Ag<|fun a F=>Mb (fun a' w'=>∃ (bb:Bool),Fits 161 a' [(0,.pointer (some ⟨nb,no,none⟩)),(97,.bool bb)]∧Mem w0 G (L) w'∧(bb=true↔¬ Jp x)) ?_ ?_
 ·skip
  revert a;refine Az<|Aa rfl<|Fi rfl<|A0 Av.k rfl rfl<|Dq Fa M A 0 rfl rfl rfl rfl<|Fh rfl rfl<|Aa rfl<|?_
  rcases bE (!(decide (x.kind=1))) with h12b | h13b
  ·skip
   have h12:=dF (Ah h12b);have h12c:(decide (x.kind=1))=false:=(Ah h12b);refine g_f rfl (Ak h12c)<|g_f rfl (Ak h12c)<|g_f rfl (Ak h12c)<|g_f rfl (Ak h12c)<|g_f rfl (Ak h12c)<|g_f rfl (Ak h12c)<|Bh rfl (Ak h12c) rfl<|Aa rfl<|g_f rfl rfl<|g_f rfl rfl<|g_f rfl rfl<|g_f rfl rfl<|g_f rfl rfl<|g_f rfl rfl<|g_u rfl<|g_u rfl<|g_u rfl<|g_u rfl<|g_u rfl<|g_u rfl<|g_f rfl rfl<|Bh rfl rfl rfl<|Aa rfl<|g_f rfl rfl<|?_
   refine g_f rfl rfl<|g_f rfl rfl<|g_f rfl rfl<|g_f rfl rfl<|Bh rfl rfl rfl<|Aa rfl<|g_f rfl rfl<|g_f rfl rfl<|g_f rfl rfl<|g_f rfl rfl<|g_f rfl rfl<|g_f rfl rfl<|Bh rfl rfl rfl<|Aa rfl<|g_f rfl rfl<|g_f rfl rfl<|g_f rfl rfl<|g_f rfl rfl<|g_f rfl rfl<|g_f rfl rfl<|Bh rfl rfl rfl<|Bc<|fun a F=>?_
   exact ⟨true,F.to ⟨rfl,rfl,trivial⟩,M,by unfold Jp;clear F M;grind⟩
  have h13:=dT (Ai h13b);have h13c:(decide (x.kind=1))=true:=(Ai h13b);refine g_t rfl (Aj h13c)<|Aa rfl<|g_t rfl (Aj h13c)<|Fi rfl<|g_t rfl (Aj h13c)<|A0 Av.k rfl rfl<|g_t rfl (Aj h13c)<|Dq Bq M A 1 rfl rfl rfl rfl<|g_t rfl (Aj h13c)<|Bs Adz rfl rfl (Mq (s:=x.tag) M (by omega))<|?_;clear M;rintro _ w M ⟨b14,rfl,hb14⟩
  refine g_t rfl (Aj h13c)<|Dh rfl<|Be rfl (Aj h13c) rfl<|Aa rfl<|?_
  rcases bE (!(b14)) with h15b | h16b
  ·skip
   have h15:=Ah h15b;have h15c:(b14)=false:=(Ah h15b);refine g_f rfl (Ak h15c)<|g_f rfl (Ak h15c)<|g_f rfl (Ak h15c)<|g_f rfl (Ak h15c)<|g_f rfl (Ak h15c)<|g_f rfl (Ak h15c)<|g_u rfl<|g_u rfl<|g_u rfl<|g_u rfl<|g_u rfl<|g_u rfl<|g_f rfl (Ak h15c)<|Bh rfl (Ak h15c) rfl<|Aa rfl<|g_f rfl rfl<|g_f rfl rfl<|g_f rfl rfl<|g_f rfl rfl<|g_f rfl rfl<|Bh rfl rfl rfl<|Aa rfl<|g_f rfl rfl<|g_f rfl rfl<|?_
   refine g_f rfl rfl<|g_f rfl rfl<|g_f rfl rfl<|g_f rfl rfl<|Bh rfl rfl rfl<|Aa rfl<|g_f rfl rfl<|g_f rfl rfl<|g_f rfl rfl<|g_f rfl rfl<|g_f rfl rfl<|g_f rfl rfl<|Bh rfl rfl rfl<|Bc<|fun a F=>?_
   exact ⟨true,F.to ⟨rfl,rfl,trivial⟩,M,by unfold Jp;clear F M;grind⟩
  have h16:=Ai h16b;have h16c:(b14)=true:=(Ai h16b);refine g_t rfl (Aj h16c)<|Aa rfl<|g_t rfl (Aj h16c)<|Fi rfl<|g_t rfl (Aj h16c)<|A0 Av.k rfl rfl<|g_t rfl (Aj h16c)<|Dq Bq M A 2 rfl rfl rfl rfl<|g_t rfl (Aj h16c)<|Mg rfl rfl<|g_t rfl (Aj h16c)<|Aa rfl<|?_
  rcases bE (!(decide (x.key=([]:List UInt8)))) with h17b | h25b
  ·skip
   have h17:=dF (Ah h17b);have h17c:(decide (x.key=([]:List UInt8)))=false:=(Ah h17b);refine g_t rfl (Ak h17c)<|Aa rfl<|g_t rfl (Ak h17c)<|Fi rfl<|g_t rfl (Ak h17c)<|A0 Av.k rfl rfl<|g_t rfl (Ak h17c)<|Dq Bq M A 2 rfl rfl rfl rfl<|g_t rfl (Ak h17c)<|Bs Adz rfl rfl (Mq (s:=x.key) M (by omega))<|?_;clear M;rintro _ w M ⟨b18,rfl,hb18⟩
   refine g_t rfl (Ak h17c)<|Dh rfl<|g_t rfl (Aj h16c)<|Bh rfl (Ak h17c) rfl<|Be rfl (Aj h16c) rfl<|Aa rfl<|?_
   rcases bE (!(b18)) with h19b | h20b
   ·skip
    have h19:=Ah h19b;have h19c:(b18)=false:=(Ah h19b);refine g_f rfl (Ak h19c)<|g_f rfl (Ak h19c)<|g_f rfl (Ak h19c)<|g_f rfl (Ak h19c)<|g_f rfl (Ak h19c)<|Bh rfl (Ak h19c) rfl<|Aa rfl<|g_f rfl rfl<|g_f rfl rfl<|g_f rfl rfl<|g_f rfl rfl<|g_f rfl rfl<|g_f rfl rfl<|Bh rfl rfl rfl<|Aa rfl<|g_f rfl rfl<|g_f rfl rfl<|g_f rfl rfl<|g_f rfl rfl<|g_f rfl rfl<|g_f rfl rfl<|Bh rfl rfl rfl<|Bc<|fun a F=>?_
    exact ⟨true,F.to ⟨rfl,rfl,trivial⟩,M,by unfold Jp;clear F M;grind⟩
   have h20:=Ai h20b;have h20c:(b18)=true:=(Ai h20b);refine g_t rfl (Aj h20c)<|Aa rfl<|g_t rfl (Aj h20c)<|Fi rfl<|g_t rfl (Aj h20c)<|A0 Av.k rfl rfl<|g_t rfl (Aj h20c)<|Dq Bq M A 4 rfl rfl rfl rfl<|g_t rfl (Aj h20c)<|Mg rfl rfl<|Be rfl (Aj h20c) rfl<|Aa rfl<|?_
   rcases bE (!(decide (x.text=([]:List UInt8)))) with h21b | h22b
   ·skip
    have h21:=dF (Ah h21b);have h21c:(decide (x.text=([]:List UInt8)))=false:=(Ah h21b);refine g_f rfl (Ak h21c)<|g_f rfl (Ak h21c)<|g_f rfl (Ak h21c)<|g_f rfl (Ak h21c)<|g_f rfl (Ak h21c)<|g_f rfl (Ak h21c)<|Bh rfl (Ak h21c) rfl<|Aa rfl<|g_f rfl rfl<|g_f rfl rfl<|g_f rfl rfl<|g_f rfl rfl<|g_f rfl rfl<|g_f rfl rfl<|Bh rfl rfl rfl<|Bc<|fun a F=>?_
    exact ⟨true,F.to ⟨rfl,rfl,trivial⟩,M,by unfold Jp;clear F M;grind⟩
   have h22:=dT (Ai h22b);have h22c:(decide (x.text=([]:List UInt8)))=true:=(Ai h22b);refine g_t rfl (Aj h22c)<|Aa rfl<|g_t rfl (Aj h22c)<|Fi rfl<|g_t rfl (Aj h22c)<|A0 Av.k rfl rfl<|g_t rfl (Aj h22c)<|Dq Ee M A 3 rfl rfl rfl rfl<|g_t rfl (Aj h22c)<|B8 Ee.k rfl<|g_t rfl (Aj h22c)<|Da rfl rfl<|Be rfl (Aj h22c) rfl<|Aa rfl<|?_
   rcases bE (decide (8 < ((x.as.length:Nat):Int))) with h23b | h24b
   ·skip
    have h23:=dT h23b;refine g_f rfl h23b<|g_f rfl h23b<|g_f rfl h23b<|g_f rfl h23b<|g_f rfl h23b<|g_f rfl h23b<|Bh rfl h23b rfl<|Bc<|fun a F=>?_
    exact ⟨true,F.to ⟨rfl,rfl,trivial⟩,M,by unfold Jp;clear F M;grind⟩
   have h24:=dF h24b;refine g_t rfl h24b<|Aa rfl<|g_t rfl h24b<|Fi rfl<|g_t rfl h24b<|A0 Av.k rfl rfl<|g_t rfl h24b<|Dq Cf M A 5 rfl rfl rfl rfl<|g_t rfl h24b<|B8 Cf.k rfl<|g_t rfl h24b<|Da rfl rfl<|Be rfl h24b rfl<|Bc<|fun a F=>?_
   exact ⟨(decide (16 < ((x.kids.length:Nat):Int))),F.to ⟨rfl,rfl,trivial⟩,M,by unfold Jp;clear F M;grind⟩
  have h25:=dT (Ai h25b);have h25c:(decide (x.key=([]:List UInt8)))=true:=(Ai h25b);refine g_f rfl (Aj h25c)<|g_f rfl (Aj h25c)<|g_f rfl (Aj h25c)<|g_f rfl (Aj h25c)<|g_f rfl (Aj h25c)<|g_f rfl (Aj h25c)<|g_t rfl (Aj h16c)<|Be rfl (Aj h25c) rfl<|Be rfl (Aj h16c) rfl<|Aa rfl<|g_t rfl rfl<|Aa rfl<|g_t rfl rfl<|Fi rfl<|g_t rfl rfl<|A0 Av.k rfl rfl<|g_t rfl rfl<|Dq Bq M A 4 rfl rfl rfl rfl<|g_t rfl rfl<|Mg rfl rfl<|Be rfl rfl rfl<|Aa rfl<|?_
  rcases bE (!(decide (x.text=([]:List UInt8)))) with h26b | h27b
  ·skip
   have h26:=dF (Ah h26b);have h26c:(decide (x.text=([]:List UInt8)))=false:=(Ah h26b);refine g_f rfl (Ak h26c)<|g_f rfl (Ak h26c)<|g_f rfl (Ak h26c)<|g_f rfl (Ak h26c)<|g_f rfl (Ak h26c)<|g_f rfl (Ak h26c)<|Bh rfl (Ak h26c) rfl<|Aa rfl<|g_f rfl rfl<|g_f rfl rfl<|g_f rfl rfl<|g_f rfl rfl<|g_f rfl rfl<|g_f rfl rfl<|Bh rfl rfl rfl<|Bc<|fun a F=>?_
   exact ⟨true,F.to ⟨rfl,rfl,trivial⟩,M,by unfold Jp;clear F M;grind⟩
  have h27:=dT (Ai h27b);have h27c:(decide (x.text=([]:List UInt8)))=true:=(Ai h27b);refine g_t rfl (Aj h27c)<|Aa rfl<|g_t rfl (Aj h27c)<|Fi rfl<|g_t rfl (Aj h27c)<|A0 Av.k rfl rfl<|g_t rfl (Aj h27c)<|Dq Ee M A 3 rfl rfl rfl rfl<|g_t rfl (Aj h27c)<|B8 Ee.k rfl<|g_t rfl (Aj h27c)<|Da rfl rfl<|Be rfl (Aj h27c) rfl<|Aa rfl<|?_
  rcases bE (decide (8 < ((x.as.length:Nat):Int))) with h28b | h29b
  ·skip
   have h28:=dT h28b;refine g_f rfl h28b<|g_f rfl h28b<|g_f rfl h28b<|g_f rfl h28b<|g_f rfl h28b<|g_f rfl h28b<|Bh rfl h28b rfl<|Bc<|fun a F=>?_
   exact ⟨true,F.to ⟨rfl,rfl,trivial⟩,M,by unfold Jp;clear F M;grind⟩
  have h29:=dF h29b;refine g_t rfl h29b<|Aa rfl<|g_t rfl h29b<|Fi rfl<|g_t rfl h29b<|A0 Av.k rfl rfl<|g_t rfl h29b<|Dq Cf M A 5 rfl rfl rfl rfl<|g_t rfl h29b<|B8 Cf.k rfl<|g_t rfl h29b<|Da rfl rfl<|Be rfl h29b rfl<|Bc<|fun a F=>?_
  exact ⟨(decide (16 < ((x.kids.length:Nat):Int))),F.to ⟨rfl,rfl,trivial⟩,M,by unfold Jp;clear F M;grind⟩
 clear F M;rintro a w ⟨bb,F,M,hbb⟩;revert a;refine Ap rfl ?_ ?_
 ·intro h30b;have h30:(bb)=true:=h30b;refine Ac<|Ab rfl<|Ae<|Ad rfl rfl<|?_
  exact ⟨M,false,rfl,(by rw [Fv (by assumption)];have q99:=@Gq;clear M;grind)⟩
 intro h31b;have h31:(bb)=false:=h31b;refine Aq<|Ag<|Ag<|?_
 have hE:Jp x:=by clear M;grind
 obtain ⟨hE1,hE2,hE3,hE4,hE5,hE6⟩:=id hE;refine Az<|Aa rfl<|Fi rfl<|A0 Av.k rfl rfl<|Dq Ee M A 3 rfl rfl rfl rfl<|B8 Ee.k rfl<|Aa rfl<|Ax<|fun a F=>Bz (fun m a' w'=>∃ (i:Nat),m=x.as.length - i∧Fits 161 a' [(0,.pointer (some ⟨nb,no,none⟩)),(101,.slice ta x.as.length tc),(102,.int .i64 ((x.as.length:Nat):Int)),(103,.int .i64 ((i:Nat):Int))]∧Mem w0 G (L) w'∧(i≤x.as.length)∧(Ih x.as i)) _ ⟨0,rfl,F.to ⟨rfl,rfl,rfl,rfl,trivial⟩,M,Nat.zero_le _,Ih.zero _⟩ ?_
 clear F M;rintro m a w ⟨i,rfl,F,M,hi,hA⟩;revert a;refine Ac<|C2 rfl rfl<|Ag<|Ap rfl ?_ ?_
 ·intro h32b;have h32:=dT h32b;refine Aq<|Ag<|Ax<|Ac<|Aa rfl<|?_
  obtain ⟨Xe33,hXe33⟩:=A2 (xs:=x.as) (i:=i) (by omega);obtain ⟨be33,oe33,_,Ie33,_,Ae33,⟨rfl,hn1e33,hv1e33⟩⟩:=SA.at hXe33;refine D0 Ee.k Fk Ie33 rfl rfl<|Ar (fun a F=>Af Fk rfl (F.ev rfl) (cs:=[.string (str Xe33.n),.string (str Xe33.v)]) rfl (M.cellsA Ae33 0 (by omega) rfl)) rfl<|C9 M Fk rfl rfl<|?_;clear M;intro b34 w M
  refine Ab rfl<|fun a F=>?_
  refine Cj F M Fk 0 ?_;clear F M a;intro w a M F;change Mem w0 G (.blk b34 [.string (str Xe33.n),.string (str Xe33.v)] 282::L) _ at M;revert a;refine Ag<|fun a F=>Fg [(.free,0),(.pure,1),(.keep,2),(.free,3),(.free,4),(.free,5),(.pure,6),(.keep,7),(.free,8),(.free,9),(.free,10),(.free,11),(.free,12),(.free,13),(.free,14),(.pure,15),(.free,16),(.free,17),(.free,18),(.pure,19),(.free,20),(.free,21),(.free,22),(.free,23),(.pure,24),(.free,25),(.free,26),(.free,27)] [] (Keep G [.blk b34 [.string (str Xe33.n),.string (str Xe33.v)] 282]) rfl (by kernel_rfl) (fun c a d v w h=>by cases d <;> exact h) (Bo (M.drew _)) ?_
  replace M:=M.drew (w.drawn+1);revert a;refine k_f (fun a F w _=>Ce Fk.k rfl F rfl) rfl<|k_p (fun a F w M=>Al (agf Bq rfl) (F.ev rfl) (M.cellL (k:=0) rfl rfl)) rfl<|k_k rfl<|Bs Adz rfl rfl (Mq (s:=Xe33.n) M (by omega))<|?_;clear M;rintro _ w M ⟨b36,rfl,hb36⟩
  refine eQ (Bo M)<|k_f (fun a F w _=>Gl (F.ev rfl)) rfl<|k_f (fun a F w _=>B1 F rfl) rfl<|?_
  rcases bE (!(b36)) with h37b | h38b
  ·skip
   have h37:=Ah h37b;have h37c:(b36)=false:=(Ah h37b);refine k_s rfl (Ak h37c)<|k_s rfl (Ak h37c)<|k_s rfl (Ak h37c)<|k_s rfl (Ak h37c)<|k_f (fun a F w _=>F5 F rfl (Ak h37c) rfl) rfl<|k_f (fun a F w _=>B1 F rfl) rfl<|k_s rfl rfl<|k_s rfl rfl<|k_s rfl rfl<|k_u rfl<|k_u rfl<|k_u rfl<|k_u rfl<|k_u rfl<|k_u rfl<|k_u rfl<|k_u rfl<|k_u rfl<|k_u rfl<|k_u rfl<|k_u rfl<|k_s rfl rfl<|k_f (fun a F w _=>F5 F rfl rfl rfl) rfl<|De<|?_
   refine Bl rfl rfl<|Ac<|Ab rfl<|Ae<|Ad rfl rfl<|?_
   exact ⟨(M.weaken (cN (sR _))),false,rfl,(by rw [Fv (by assumption)];have q0:=H8 hXe33;have q99:=@Gq;clear M;grind)⟩
  have h38:=Ai h38b;have h38c:(b36)=true:=(Ai h38b);refine Cb rfl (Aj h38c) (fun a F w _=>Ce Fk.k rfl F rfl)<|Gk rfl (Aj h38c) (fun a F w M=>Al (agf Bq rfl) (F.ev rfl) (M.cellL (k:=0) rfl rfl))<|fun a F=>G3 F rfl rfl (Aj h38c) ?_
  revert a;refine g_t rfl (Aj h38c)<|Bs Amx rfl rfl (Lk (s:=Xe33.v) M (by omega))<|?_;clear M;rintro _ w M ⟨b39,rfl,hb39⟩
  refine eQ (Bo M)<|Cb rfl (Aj h38c) (fun a F w _=>Gl (F.ev rfl))<|k_f (fun a F w _=>Fx F rfl (Aj h38c) rfl) rfl<|k_f (fun a F w _=>B1 F rfl) rfl<|?_
  rcases bE (!(b39)) with h40b | h41b
  ·skip
   have h40:=Ah h40b;have h40c:(b39)=false:=(Ah h40b);refine k_s rfl (Ak h40c)<|k_s rfl (Ak h40c)<|k_s rfl (Ak h40c)<|k_u rfl<|k_u rfl<|k_u rfl<|k_u rfl<|k_u rfl<|k_u rfl<|k_u rfl<|k_u rfl<|k_u rfl<|k_u rfl<|k_u rfl<|k_u rfl<|k_s rfl (Ak h40c)<|k_f (fun a F w _=>F5 F rfl (Ak h40c) rfl) rfl<|De<|Bl rfl rfl<|Ac<|Ab rfl<|Bc<|?_
   refine Ae<|Ad rfl rfl<|?_
   exact ⟨(M.weaken (cN (sR _))),false,rfl,(by rw [Fv (by assumption)];have q0:=H8 hXe33;have q99:=@Gq;clear M;grind)⟩
  have h41:=Ai h41b;have h41c:(b39)=true:=(Ai h41b);refine Cb rfl (Aj h41c) (fun a F w _=>B1 F rfl)<|Cb rfl (Aj h41c) (fun a F w _=>Hw (F.ev rfl) (F.ev rfl))<|Cb rfl (Aj h41c) (fun a F w _=>B1 F rfl)<|?_
  rcases bE (decide (0 < ((i:Nat):Int))) with h42b | h47b
  ·skip
   have h42:=dT h42b;refine Cb rfl h42b (fun a F w _=>Ce Fk.k rfl F rfl)<|Gk rfl h42b (fun a F w M=>Al (agf Bq rfl) (F.ev rfl) (M.cellL (k:=0) rfl rfl))<|Cb rfl h42b (fun a F w _=>B1 F rfl)<|Cb rfl h42b (fun a F w _=>Ea (F.ev rfl))<|Cb rfl h42b (fun a F w _=>Ce Av.k rfl F rfl)<|Gk rfl h42b (fun a F w M=>Al (agf Ee rfl) (F.ev rfl) (M.cellA A 3 rfl rfl))<|Cb rfl h42b (fun a F w _=>B1 F rfl)<|Cb rfl h42b (fun a F w _=>J1 (F.ev rfl) (F.ev rfl) (C0 (by omega) (by omega)))<|?_
   have hs43:(((i:Nat):Int) - 1:Int)=((i - 1:Nat):Int):=by omega
   intro a F;rw [hs43] at F;obtain ⟨Xe44,hXe44⟩:=A2 (xs:=x.as) (i:=i - 1) (by omega);obtain ⟨be44,oe44,_,Ie44,_,Ae44,⟨rfl,hn1e44,hv1e44⟩⟩:=SA.at hXe44;revert a;refine Cb rfl h42b (fun a F w _=>Bt Ee.k Fk (F.ev rfl) (F.ev rfl) (by omega) Ie44)<|Cb rfl h42b (fun a F w _=>Ce Fk.k rfl F rfl)<|Gk rfl h42b (fun a F w M=>Al (agf Bq rfl) (F.ev rfl) (M.cellA Ae44 0 rfl rfl))<|Cb rfl h42b (fun a F w _=>N4 (F.ev rfl) (F.ev rfl))<|Cb rfl (Aj h41c) (fun a F w _=>F5 F rfl h42b rfl)<|k_f (fun a F w _=>Fx F rfl (Aj h41c) rfl) rfl<|De<|Ap rfl ?_ ?_
   ·intro h45b;have h45:(Op.bytesLess Xe33.n Xe44.n || Xe33.n==Xe44.n)=true:=h45b;refine Ac<|Ab rfl<|Ae<|Ad rfl rfl<|?_
    exact ⟨(M.weaken (cN (sR _))),false,rfl,(by rw [Fv (by assumption)];have q0:=H8 hXe33;have q1:=fun h=>Nl hXe33 hXe44 h;have q2:=H8 hXe44;have q3:=fun h=>Nl hXe44 hXe33 h;have q99:=@Gq;clear M;grind)⟩
   intro h46b;have h46:(Op.bytesLess Xe33.n Xe44.n || Xe33.n==Xe44.n)=false:=h46b;refine Aq<|Az<|Bx rfl rfl<|Aa rfl<|Bc<|Cm<|fun a F=>?_
   exact ⟨_,by omega,i+1,rfl,F.to ⟨rfl,rfl,rfl,rfl,trivial⟩,(M.weaken (cN (sR _))),by omega,hA.step hXe33 (by clear F M;grind) (by clear F M;grind) (fun y h_ hy=>by rw [hXe44] at hy;simp only [Option.some.injEq] at hy;subst hy;clear F M;have q99:=@Gq;grind)⟩
  have h47:=dF h47b;refine k_s rfl h47b<|k_s rfl h47b<|k_s rfl h47b<|k_s rfl h47b<|k_s rfl h47b<|k_s rfl h47b<|k_s rfl h47b<|k_s rfl h47b<|k_s rfl h47b<|k_s rfl h47b<|k_s rfl h47b<|k_s rfl h47b<|Cb rfl (Aj h41c) (fun a F w _=>Fx F rfl h47b rfl)<|k_f (fun a F w _=>Fx F rfl (Aj h41c) rfl) rfl<|De<|D4 rfl rfl<|Aq<|Az<|Bx rfl rfl<|Aa rfl<|Bc<|?_
  refine Cm<|fun a F=>?_
  exact ⟨_,by omega,i+1,rfl,F.to ⟨rfl,rfl,rfl,rfl,trivial⟩,(M.weaken (cN (sR _))),by omega,hA.step hXe33 (by clear F M;grind) (by clear F M;grind) (fun y h_=>by omega)⟩
 intro h48b;have h48:=dF h48b;refine B5<|Bw<|Bw<|Dj<|Ag<|Ac<|Aa rfl<|Fi rfl<|A0 Av.k rfl rfl<|Dq Cf M A 5 rfl rfl rfl rfl<|B8 Cf.k rfl<|Aa rfl<|Ax<|fun a F=>Bz (fun m a' w'=>∃ (j:Nat),m=x.kids.length - j∧Fits 161 a' [(0,.pointer (some ⟨nb,no,none⟩)),(140,.slice ka x.kids.length kc),(141,.int .i64 ((x.kids.length:Nat):Int)),(142,.int .i64 ((j:Nat):Int))]∧Mem w0 G (L) w'∧(j≤x.kids.length)∧(Ii x.as)∧(F7 x.kids j)) _ ⟨0,rfl,F.to ⟨rfl,rfl,rfl,rfl,trivial⟩,M,Nat.zero_le _,hA.all (by omega),F7.zero _⟩ ?_
 clear F M;rintro m a w ⟨j,rfl,F,M,hj,hAO,hK⟩;revert a;refine Ac<|C2 rfl rfl<|Ag<|Ap rfl ?_ ?_
 ·intro h49b;have h49:=dT h49b;refine Aq<|Ag<|Ax<|Ac<|Aa rfl<|?_
  obtain ⟨Xe50,hXe50⟩:=A2 (xs:=x.kids) (i:=j) (by omega);obtain ⟨be50,oe50,_,Ie50,_,Ae50,hTe50⟩:=SK.at hXe50;obtain ⟨tae50,tce50,kae50,kce50,rfl,hke50,hle50,SAe50,SKe50⟩:=Di hTe50;refine D0 Cf.k Av Ie50 rfl rfl<|Ar (fun a F=>Af Av rfl (F.ev rfl) (cs:=[.int .u8 Xe50.kind,.string (str Xe50.tag),.string (str Xe50.key),.slice tae50 Xe50.as.length tce50,.string (str Xe50.text),.slice kae50 Xe50.kids.length kce50]) rfl (M.cellsA Ae50 0 (by omega) rfl)) rfl<|C9 M Av rfl rfl<|?_;clear M;intro b51 w M
  refine Ab rfl<|fun a F=>?_
  refine Cj F M Av 0 ?_;clear F M a;intro w a M F;change Mem w0 G (.blk b51 [.int .u8 Xe50.kind,.string (str Xe50.tag),.string (str Xe50.key),.slice tae50 Xe50.as.length tce50,.string (str Xe50.text),.slice kae50 Xe50.kids.length kce50] 193::L) _ at M;revert a;refine Ac<|A0 Av.k rfl rfl<|Bg Bq M 0 rfl rfl rfl rfl<|Mg rfl rfl<|Aa rfl<|?_
  rcases bE (!(decide (Xe50.key=([]:List UInt8)))) with h53b | h59b
  ·skip
   have h53:=dF (Ah h53b);have h53c:(decide (Xe50.key=([]:List UInt8)))=false:=(Ah h53b);refine g_t rfl (Ak h53c)<|Aa rfl<|g_t rfl (Ak h53c)<|Fi rfl<|g_t rfl (Ak h53c)<|A0 Av.k rfl rfl<|g_t rfl (Ak h53c)<|Dq Cf M A 5 rfl rfl rfl rfl<|g_t rfl (Ak h53c)<|Aa rfl<|g_t rfl (Ak h53c)<|?_
   obtain ⟨as54,cs54,Is54,hms54,hcs54,Ss54⟩:=SK.partT (j) (by omega);refine Ar (fun a F=>Ip Cf.k Av Is54 (F.ev rfl) (h:=j) (kl:=.i64) (zl:=0) rfl ⟨(F.ev rfl),by omega⟩ (by omega) (by omega)) rfl<|?_
   have hf55:j - 0=(x.kids.take (j)).length:=by rw [List.length_take];omega
   intro a F;rw [hf55] at F Ss54;revert a;refine g_t rfl (Ak h53c)<|Ar (fun a F=>Ds (vs:=#[.pointer (some ⟨b51,0,none⟩)]) (by simp only [List.map_toArray,List.map_cons,List.map_nil,F.ev (x:=.tmp 6) rfl])) rfl<|g_t rfl (Ak h53c)<|?_
   change Mem w0 G (.blk b51 [.int .u8 Xe50.kind,.string (str Xe50.tag),.string (str Xe50.key),.slice tae50 Xe50.as.length tce50,.string (str Xe50.text),.slice kae50 Xe50.kids.length kce50] 193::L) _ at M;refine Bs ent238 rfl rfl (Aei (x:=Xe50) (ks:=x.kids.take (j)) M (by have h_:=Ss54;simpa using h_) (by omega))<|?_;clear M;rintro _ w M ⟨b56,rfl,hb56⟩
   refine Bh rfl (Ak h53c) rfl<|Ap rfl ?_ ?_
   ·intro h57b;have h57:(b56)=true:=h57b;refine Ac<|Ab rfl<|Ae<|Ad rfl rfl<|?_
    exact ⟨(M.weaken (cN (sR _))),false,rfl,(by rw [Fv (by assumption)];have q0:=Qn hXe50;have q99:=@Gq;clear M;grind)⟩
   intro h58b;have h58:(b56)=false:=h58b;refine Aq<|Az<|Bx rfl rfl<|Aa rfl<|Bc<|Cm<|fun a F=>?_
   exact ⟨_,by omega,j+1,rfl,F.to ⟨rfl,rfl,rfl,rfl,trivial⟩,(M.weaken (cN (sR _))),by omega,hAO,hK.step hXe50 (by clear F M;first | (left;assumption) | (right;exact Rp (by grind)))⟩
  have h59:=dT (Ai h59b);have h59c:(decide (Xe50.key=([]:List UInt8)))=true:=(Ai h59b);refine g_f rfl (Aj h59c)<|g_f rfl (Aj h59c)<|g_f rfl (Aj h59c)<|g_f rfl (Aj h59c)<|g_f rfl (Aj h59c)<|g_f rfl (Aj h59c)<|g_f rfl (Aj h59c)<|g_f rfl (Aj h59c)<|Be rfl (Aj h59c) rfl<|D4 rfl rfl<|Aq<|Az<|Bx rfl rfl<|Aa rfl<|Bc<|Cm<|fun a F=>?_
  exact ⟨_,by omega,j+1,rfl,F.to ⟨rfl,rfl,rfl,rfl,trivial⟩,(M.weaken (cN (sR _))),by omega,hAO,hK.step hXe50 (by clear F M;first | (left;assumption) | (right;exact Rp (by grind)))⟩
 intro h60b;have h60:=dF h60b;refine B5<|Bw<|Bw<|Dj<|Ac<|Ab rfl<|Ae<|Ad rfl rfl<|?_
 exact ⟨M,true,rfl,(by rw [Fv (by assumption)];exact ⟨fun _=>⟨hE,hAO,hK.all (by omega)⟩,fun _=>rfl⟩)⟩
theorem Ahm (M:Mem w0 G L w) {x:NT} {ta:Option Addr} {tc:Nat} {ka:Option Addr} {kc:Nat} (hk:Bb .u8 x.kind) (hl:(x.tag.length≤9223372036854775807∧x.key.length≤9223372036854775807∧x.text.length≤9223372036854775807)) (SA:Au Fc 2 G (.slice ta x.as.length tc) x.as) (SK:Au rdN 6 G (.slice ka x.kids.length kc) x.kids):Calls Tryz.prog 211 #[.agg #[.int .u8 x.kind,.string (str x.tag),.string (str x.key),.slice ta x.as.length tc,.string (str x.text),.slice ka x.kids.length kc]] w (Cs w0 G L fun v=>∃ bb:Bool,v=.bool bb∧(bb=true↔Ij x)):=by
 refine Ay (vs:=[_]) Tryz.func211 rfl (n:=149) rfl rfl<|Ac<|Cz M rfl rfl rfl<|?_;clear M;intro b1 w M
 refine Ab rfl<|Ag<|Ac<|A0 Av.k rfl rfl<|Bg Fa M 0 rfl rfl rfl rfl<|C3 rfl rfl<|Ap rfl ?_ ?_
 ·intro h2b;have h2:=dT h2b;refine Ac<|A0 Av.k rfl rfl<|Bg Bq M 0 rfl rfl rfl rfl<|Bs Ui rfl rfl (K4 (s:=x.text) M (by omega))<|?_;clear M;rintro _ w M ⟨b3,rfl,hb3⟩
  refine Aa rfl<|?_
  rcases bE (b3) with h4b | h11b
  ·skip
   have h4:(b3)=true:=h4b;refine g_t rfl h4b<|A0 Av.k rfl rfl<|g_t rfl h4b<|Bg Bq M 0 rfl rfl rfl rfl<|g_t rfl h4b<|E3 rfl rfl<|Bh rfl h4b rfl<|Aa rfl<|?_
   rcases bE (decide (x.tag=([]:List UInt8))) with h5b | h10b
   ·skip
    have h5:=dT h5b;refine g_t rfl h5b<|A0 Av.k rfl rfl<|g_t rfl h5b<|Bg Bq M 0 rfl rfl rfl rfl<|g_t rfl h5b<|E3 rfl rfl<|Bh rfl h5b rfl<|Aa rfl<|?_
    rcases bE (decide (x.key=([]:List UInt8))) with h6b | h9b
    ·skip
     have h6:=dT h6b;refine g_t rfl h6b<|A0 Av.k rfl rfl<|g_t rfl h6b<|Bg Ee M 0 rfl rfl rfl rfl<|g_t rfl h6b<|B8 Ee.k rfl<|g_t rfl h6b<|C3 rfl rfl<|Bh rfl h6b rfl<|Aa rfl<|?_
     rcases bE (decide (((x.as.length:Nat):Int)=0)) with h7b | h8b
     ·skip
      have h7:=dT h7b;refine g_t rfl h7b<|A0 Av.k rfl rfl<|g_t rfl h7b<|Bg Cf M 0 rfl rfl rfl rfl<|g_t rfl h7b<|B8 Cf.k rfl<|g_t rfl h7b<|C3 rfl rfl<|Bh rfl h7b rfl<|Ab rfl<|Ae<|Ad rfl rfl<|?_
      exact ⟨(M.weaken (cN (sR _))),(decide (((x.kids.length:Nat):Int)=0)),rfl,(by rw [F0 (by assumption)];clear M;grind)⟩
     have h8:=dF h8b;refine g_f rfl h8b<|g_f rfl h8b<|g_f rfl h8b<|g_f rfl h8b<|Be rfl h8b rfl<|Ab rfl<|Ae<|Ad rfl rfl<|?_
     exact ⟨(M.weaken (cN (sR _))),false,rfl,(by rw [F0 (by assumption)];clear M;grind)⟩
    have h9:=dF h9b;refine g_f rfl h9b<|g_f rfl h9b<|g_f rfl h9b<|g_f rfl h9b<|Be rfl h9b rfl<|Aa rfl<|g_f rfl rfl<|g_f rfl rfl<|g_f rfl rfl<|g_f rfl rfl<|Be rfl rfl rfl<|Ab rfl<|Ae<|Ad rfl rfl<|?_
    exact ⟨(M.weaken (cN (sR _))),false,rfl,(by rw [F0 (by assumption)];clear M;grind)⟩
   have h10:=dF h10b;refine g_f rfl h10b<|g_f rfl h10b<|g_f rfl h10b<|Be rfl h10b rfl<|Aa rfl<|g_f rfl rfl<|g_f rfl rfl<|g_f rfl rfl<|g_f rfl rfl<|Be rfl rfl rfl<|Aa rfl<|g_f rfl rfl<|g_f rfl rfl<|g_f rfl rfl<|g_f rfl rfl<|Be rfl rfl rfl<|Ab rfl<|Ae<|Ad rfl rfl<|?_
   exact ⟨(M.weaken (cN (sR _))),false,rfl,(by rw [F0 (by assumption)];clear M;grind)⟩
  have h11:(b3)=false:=h11b;refine g_f rfl h11b<|g_f rfl h11b<|g_f rfl h11b<|Be rfl h11b rfl<|Aa rfl<|g_f rfl rfl<|g_f rfl rfl<|g_f rfl rfl<|Be rfl rfl rfl<|Aa rfl<|g_f rfl rfl<|g_f rfl rfl<|g_f rfl rfl<|g_f rfl rfl<|Be rfl rfl rfl<|Aa rfl<|g_f rfl rfl<|g_f rfl rfl<|g_f rfl rfl<|g_f rfl rfl<|Be rfl rfl rfl<|Ab rfl<|Bc<|Cm<|?_
  refine Ae<|Ad rfl rfl<|?_
  exact ⟨(M.weaken (cN (sR _))),false,rfl,(by rw [F0 (by assumption)];clear M;grind)⟩
 intro h12b;have h12:=dF h12b;refine Aq<|Ag<|Ag<|fun a F=>Mb (fun a' w'=>∃ (bb:Bool),Fits 149 a' [(1,.pointer (some ⟨b1,0,none⟩)),(71,.bool bb)]∧Mem w0 G (.blk b1 [.int .u8 x.kind,.string (str x.tag),.string (str x.key),.slice ta x.as.length tc,.string (str x.text),.slice ka x.kids.length kc] 193::L) w'∧(bb=true↔¬ Jp x)) ?_ ?_
 ·skip
  revert a;refine Az<|A0 Av.k rfl rfl<|Bg Fa M 0 rfl rfl rfl rfl<|Fh rfl rfl<|Aa rfl<|?_
  rcases bE (!(decide (x.kind=1))) with h13b | h14b
  ·skip
   have h13:=dF (Ah h13b);have h13c:(decide (x.kind=1))=false:=(Ah h13b);refine g_f rfl (Ak h13c)<|g_f rfl (Ak h13c)<|g_f rfl (Ak h13c)<|g_f rfl (Ak h13c)<|Bh rfl (Ak h13c) rfl<|Aa rfl<|g_f rfl rfl<|g_f rfl rfl<|g_f rfl rfl<|g_f rfl rfl<|g_u rfl<|g_u rfl<|g_u rfl<|g_u rfl<|g_f rfl rfl<|Bh rfl rfl rfl<|Aa rfl<|g_f rfl rfl<|g_f rfl rfl<|g_f rfl rfl<|Bh rfl rfl rfl<|Aa rfl<|g_f rfl rfl<|g_f rfl rfl<|?_
   refine g_f rfl rfl<|g_f rfl rfl<|Bh rfl rfl rfl<|Aa rfl<|g_f rfl rfl<|g_f rfl rfl<|g_f rfl rfl<|g_f rfl rfl<|Bh rfl rfl rfl<|Bc<|fun a F=>?_
   exact ⟨true,F.to ⟨rfl,rfl,trivial⟩,M,by unfold Jp;clear F M;grind⟩
  have h14:=dT (Ai h14b);have h14c:(decide (x.kind=1))=true:=(Ai h14b);refine g_t rfl (Aj h14c)<|A0 Av.k rfl rfl<|g_t rfl (Aj h14c)<|Bg Bq M 0 rfl rfl rfl rfl<|g_t rfl (Aj h14c)<|Bs Mu rfl rfl (Fb (s:=x.tag) M (by omega))<|?_;clear M;rintro _ w M ⟨b15,rfl,hb15⟩
  refine g_t rfl (Aj h14c)<|Dh rfl<|Be rfl (Aj h14c) rfl<|Aa rfl<|?_
  rcases bE (!(b15)) with h16b | h17b
  ·skip
   have h16:=Ah h16b;have h16c:(b15)=false:=(Ah h16b);refine g_f rfl (Ak h16c)<|g_f rfl (Ak h16c)<|g_f rfl (Ak h16c)<|g_f rfl (Ak h16c)<|g_u rfl<|g_u rfl<|g_u rfl<|g_u rfl<|g_f rfl (Ak h16c)<|Bh rfl (Ak h16c) rfl<|Aa rfl<|g_f rfl rfl<|g_f rfl rfl<|g_f rfl rfl<|Bh rfl rfl rfl<|Aa rfl<|g_f rfl rfl<|g_f rfl rfl<|g_f rfl rfl<|g_f rfl rfl<|Bh rfl rfl rfl<|Aa rfl<|g_f rfl rfl<|g_f rfl rfl<|?_
   refine g_f rfl rfl<|g_f rfl rfl<|Bh rfl rfl rfl<|Bc<|fun a F=>?_
   exact ⟨true,F.to ⟨rfl,rfl,trivial⟩,M,by unfold Jp;clear F M;grind⟩
  have h17:=Ai h17b;have h17c:(b15)=true:=(Ai h17b);refine g_t rfl (Aj h17c)<|A0 Av.k rfl rfl<|g_t rfl (Aj h17c)<|Bg Bq M 0 rfl rfl rfl rfl<|g_t rfl (Aj h17c)<|Mg rfl rfl<|g_t rfl (Aj h17c)<|Aa rfl<|?_
  rcases bE (!(decide (x.key=([]:List UInt8)))) with h18b | h26b
  ·skip
   have h18:=dF (Ah h18b);have h18c:(decide (x.key=([]:List UInt8)))=false:=(Ah h18b);refine g_t rfl (Ak h18c)<|A0 Av.k rfl rfl<|g_t rfl (Ak h18c)<|Bg Bq M 0 rfl rfl rfl rfl<|g_t rfl (Ak h18c)<|Bs Mu rfl rfl (Fb (s:=x.key) M (by omega))<|?_;clear M;rintro _ w M ⟨b19,rfl,hb19⟩
   refine g_t rfl (Ak h18c)<|Dh rfl<|g_t rfl (Aj h17c)<|Bh rfl (Ak h18c) rfl<|Be rfl (Aj h17c) rfl<|Aa rfl<|?_
   rcases bE (!(b19)) with h20b | h21b
   ·skip
    have h20:=Ah h20b;have h20c:(b19)=false:=(Ah h20b);refine g_f rfl (Ak h20c)<|g_f rfl (Ak h20c)<|g_f rfl (Ak h20c)<|Bh rfl (Ak h20c) rfl<|Aa rfl<|g_f rfl rfl<|g_f rfl rfl<|g_f rfl rfl<|g_f rfl rfl<|Bh rfl rfl rfl<|Aa rfl<|g_f rfl rfl<|g_f rfl rfl<|g_f rfl rfl<|g_f rfl rfl<|Bh rfl rfl rfl<|Bc<|fun a F=>?_
    exact ⟨true,F.to ⟨rfl,rfl,trivial⟩,M,by unfold Jp;clear F M;grind⟩
   have h21:=Ai h21b;have h21c:(b19)=true:=(Ai h21b);refine g_t rfl (Aj h21c)<|A0 Av.k rfl rfl<|g_t rfl (Aj h21c)<|Bg Bq M 0 rfl rfl rfl rfl<|g_t rfl (Aj h21c)<|Mg rfl rfl<|Be rfl (Aj h21c) rfl<|Aa rfl<|?_
   rcases bE (!(decide (x.text=([]:List UInt8)))) with h22b | h23b
   ·skip
    have h22:=dF (Ah h22b);have h22c:(decide (x.text=([]:List UInt8)))=false:=(Ah h22b);refine g_f rfl (Ak h22c)<|g_f rfl (Ak h22c)<|g_f rfl (Ak h22c)<|g_f rfl (Ak h22c)<|Bh rfl (Ak h22c) rfl<|Aa rfl<|g_f rfl rfl<|g_f rfl rfl<|g_f rfl rfl<|g_f rfl rfl<|Bh rfl rfl rfl<|Bc<|fun a F=>?_
    exact ⟨true,F.to ⟨rfl,rfl,trivial⟩,M,by unfold Jp;clear F M;grind⟩
   have h23:=dT (Ai h23b);have h23c:(decide (x.text=([]:List UInt8)))=true:=(Ai h23b);refine g_t rfl (Aj h23c)<|A0 Av.k rfl rfl<|g_t rfl (Aj h23c)<|Bg Ee M 0 rfl rfl rfl rfl<|g_t rfl (Aj h23c)<|B8 Ee.k rfl<|g_t rfl (Aj h23c)<|Da rfl rfl<|Be rfl (Aj h23c) rfl<|Aa rfl<|?_
   rcases bE (decide (8 < ((x.as.length:Nat):Int))) with h24b | h25b
   ·skip
    have h24:=dT h24b;refine g_f rfl h24b<|g_f rfl h24b<|g_f rfl h24b<|g_f rfl h24b<|Bh rfl h24b rfl<|Bc<|fun a F=>?_
    exact ⟨true,F.to ⟨rfl,rfl,trivial⟩,M,by unfold Jp;clear F M;grind⟩
   have h25:=dF h25b;refine g_t rfl h25b<|A0 Av.k rfl rfl<|g_t rfl h25b<|Bg Cf M 0 rfl rfl rfl rfl<|g_t rfl h25b<|B8 Cf.k rfl<|g_t rfl h25b<|Da rfl rfl<|Be rfl h25b rfl<|Bc<|fun a F=>?_
   exact ⟨(decide (16 < ((x.kids.length:Nat):Int))),F.to ⟨rfl,rfl,trivial⟩,M,by unfold Jp;clear F M;grind⟩
  have h26:=dT (Ai h26b);have h26c:(decide (x.key=([]:List UInt8)))=true:=(Ai h26b);refine g_f rfl (Aj h26c)<|g_f rfl (Aj h26c)<|g_f rfl (Aj h26c)<|g_f rfl (Aj h26c)<|g_t rfl (Aj h17c)<|Be rfl (Aj h26c) rfl<|Be rfl (Aj h17c) rfl<|Aa rfl<|g_t rfl rfl<|A0 Av.k rfl rfl<|g_t rfl rfl<|Bg Bq M 0 rfl rfl rfl rfl<|g_t rfl rfl<|Mg rfl rfl<|Be rfl rfl rfl<|Aa rfl<|?_
  rcases bE (!(decide (x.text=([]:List UInt8)))) with h27b | h28b
  ·skip
   have h27:=dF (Ah h27b);have h27c:(decide (x.text=([]:List UInt8)))=false:=(Ah h27b);refine g_f rfl (Ak h27c)<|g_f rfl (Ak h27c)<|g_f rfl (Ak h27c)<|g_f rfl (Ak h27c)<|Bh rfl (Ak h27c) rfl<|Aa rfl<|g_f rfl rfl<|g_f rfl rfl<|g_f rfl rfl<|g_f rfl rfl<|Bh rfl rfl rfl<|Bc<|fun a F=>?_
   exact ⟨true,F.to ⟨rfl,rfl,trivial⟩,M,by unfold Jp;clear F M;grind⟩
  have h28:=dT (Ai h28b);have h28c:(decide (x.text=([]:List UInt8)))=true:=(Ai h28b);refine g_t rfl (Aj h28c)<|A0 Av.k rfl rfl<|g_t rfl (Aj h28c)<|Bg Ee M 0 rfl rfl rfl rfl<|g_t rfl (Aj h28c)<|B8 Ee.k rfl<|g_t rfl (Aj h28c)<|Da rfl rfl<|Be rfl (Aj h28c) rfl<|Aa rfl<|?_
  rcases bE (decide (8 < ((x.as.length:Nat):Int))) with h29b | h30b
  ·skip
   have h29:=dT h29b;refine g_f rfl h29b<|g_f rfl h29b<|g_f rfl h29b<|g_f rfl h29b<|Bh rfl h29b rfl<|Bc<|fun a F=>?_
   exact ⟨true,F.to ⟨rfl,rfl,trivial⟩,M,by unfold Jp;clear F M;grind⟩
  have h30:=dF h30b;refine g_t rfl h30b<|A0 Av.k rfl rfl<|g_t rfl h30b<|Bg Cf M 0 rfl rfl rfl rfl<|g_t rfl h30b<|B8 Cf.k rfl<|g_t rfl h30b<|Da rfl rfl<|Be rfl h30b rfl<|Bc<|fun a F=>?_
  exact ⟨(decide (16 < ((x.kids.length:Nat):Int))),F.to ⟨rfl,rfl,trivial⟩,M,by unfold Jp;clear F M;grind⟩
 clear F M;rintro a w ⟨bb,F,M,hbb⟩;revert a;refine Ap rfl ?_ ?_
 ·intro h31b;have h31:(bb)=true:=h31b;refine Ac<|Ab rfl<|Ae<|Ad rfl rfl<|?_
  exact ⟨(M.weaken (cN (sR _))),false,rfl,(by rw [Fv (by assumption)];have q99:=@Gq;clear M;grind)⟩
 intro h32b;have h32:(bb)=false:=h32b;refine Aq<|Ag<|Ag<|?_
 have hE:Jp x:=by clear M;grind
 obtain ⟨hE1,hE2,hE3,hE4,hE5,hE6⟩:=id hE;refine Az<|Ab rfl<|Ax<|fun a F=>Bz (fun m a' w'=>∃ (i:Nat),m=x.as.length - i∧Fits 149 a' [(1,.pointer (some ⟨b1,0,none⟩)),(3,.int .i64 ((i:Nat):Int))]∧Mem w0 G (.blk b1 [.int .u8 x.kind,.string (str x.tag),.string (str x.key),.slice ta x.as.length tc,.string (str x.text),.slice ka x.kids.length kc] 193::L) w'∧(i≤x.as.length)∧(Ih x.as i)) _ ⟨0,rfl,F.to ⟨rfl,rfl,trivial⟩,M,Nat.zero_le _,Ih.zero _⟩ ?_
 clear F M;rintro m a w ⟨i,rfl,F,M,hi,hA⟩;revert a;refine Ag<|Ac<|Aa rfl<|A0 Av.k rfl rfl<|Bg Ee M 0 rfl rfl rfl rfl<|B8 Ee.k rfl<|C2 rfl rfl<|Ap rfl ?_ ?_
 ·intro h33b;have h33:=dT h33b;refine Aq<|Ag<|Ax<|Ag<|Ac<|A0 Av.k rfl rfl<|Bg Ee M 0 rfl rfl rfl rfl<|Aa rfl<|?_
  obtain ⟨Xe34,hXe34⟩:=A2 (xs:=x.as) (i:=i) (by omega);obtain ⟨be34,oe34,_,Ie34,_,Ae34,⟨rfl,hn1e34,hv1e34⟩⟩:=SA.at hXe34;refine D0 Ee.k Fk Ie34 rfl rfl<|A0 Fk.k rfl rfl<|Dq Bq M Ae34 0 rfl rfl rfl rfl<|Bs Mu rfl rfl (Fb (s:=Xe34.n) M (by omega))<|?_;clear M;rintro _ w M ⟨b35,rfl,hb35⟩
  refine Dh rfl<|Aa rfl<|?_
  rcases bE (!(b35)) with h36b | h37b
  ·skip
   have h36:=Ah h36b;have h36c:(b35)=false:=(Ah h36b);refine g_f rfl (Ak h36c)<|g_f rfl (Ak h36c)<|g_f rfl (Ak h36c)<|g_f rfl (Ak h36c)<|g_f rfl (Ak h36c)<|g_f rfl (Ak h36c)<|g_f rfl (Ak h36c)<|g_f rfl (Ak h36c)<|Bh rfl (Ak h36c) rfl<|Bl rfl rfl<|Ac<|Ab rfl<|Ae<|C5<|Fy<|C5<|C5<|Fy<|C5<|?_
   refine Ad rfl rfl<|?_
   exact ⟨(M.weaken (cN (sR _))),false,rfl,(by rw [Fv (by assumption)];have q0:=H8 hXe34;have q99:=@Gq;clear M;grind)⟩
  have h37:=Ai h37b;have h37c:(b35)=true:=(Ai h37b);refine g_t rfl (Aj h37c)<|A0 Av.k rfl rfl<|g_t rfl (Aj h37c)<|Bg Ee M 0 rfl rfl rfl rfl<|g_t rfl (Aj h37c)<|Aa rfl<|g_t rfl (Aj h37c)<|?_
  obtain ⟨be38,oe38,_,Ie38,_,Ae38,⟨rfl,hn1e38,hv1e38⟩⟩:=SA.at hXe34;refine D0 Ee.k Fk Ie38 rfl rfl<|g_t rfl (Aj h37c)<|A0 Fk.k rfl rfl<|g_t rfl (Aj h37c)<|Dq Bq M Ae38 1 rfl rfl rfl rfl<|g_t rfl (Aj h37c)<|Bs Ui rfl rfl (K4 (s:=Xe34.v) M (by omega))<|?_;clear M;rintro _ w M ⟨b39,rfl,hb39⟩
  refine g_t rfl (Aj h37c)<|Dh rfl<|Be rfl (Aj h37c) rfl<|Ap rfl ?_ ?_
  ·intro h40b;have h40:=Ah h40b;have h40c:(b39)=false:=(Ah h40b);refine Ac<|Ab rfl<|Ae<|Ad rfl rfl<|?_
   exact ⟨(M.weaken (cN (sR _))),false,rfl,(by rw [Fv (by assumption)];have q0:=H8 hXe34;have q99:=@Gq;clear M;grind)⟩
  intro h41b;have h41:=Ai h41b;have h41c:(b39)=true:=(Ai h41b);refine Aq<|Ac<|Ab rfl<|Ax<|?_
  have hNv:Dk Xe34.n∧Str Xe34.v:=by clear M;grind
  intro a F;refine Bz (fun m a' w'=>∃ (k:Nat),m=i - k∧Fits 149 a' [(1,.pointer (some ⟨b1,0,none⟩)),(3,.int .i64 ((i:Nat):Int)),(4,.int .i64 ((k:Nat):Int))]∧Mem w0 G (.blk b1 [.int .u8 x.kind,.string (str x.tag),.string (str x.key),.slice ta x.as.length tc,.string (str x.text),.slice ka x.kids.length kc] 193::L) w'∧(k≤i)∧(∀ (m:Nat) (y:AttrD),m < k→x.as[m]?=some y→Op.bytesLess y.n Xe34.n=true)) _ ⟨0,rfl,F.to ⟨rfl,rfl,rfl,trivial⟩,M,Nat.zero_le _,fun m y h=>by omega⟩ ?_;clear F M;rintro m a w ⟨k,rfl,F,M,hk2,hB⟩;revert a;refine Ag<|Ac<|Aa rfl<|Aa rfl<|C2 rfl rfl<|Ap rfl ?_ ?_
  ·intro h42b;have h42:=dT h42b;refine Aq<|Ag<|Ax<|Ag<|fun a F=>Gh [(true,0),(true,1),(true,2),(true,3),(true,4),(true,5),(true,6),(true,7),(true,8),(true,9),(true,10),(true,11),(true,12)] (Keep G [.blk b1 [.int .u8 x.kind,.string (str x.tag),.string (str x.key),.slice ta x.as.length tc,.string (str x.text),.slice ka x.kids.length kc] 193]) rfl (by kernel_rfl) (fun c a d v w h=>by cases d <;> exact h) (Bo (M.drew _)) ?_
   replace M:=M.drew (w.drawn+1);revert a;refine l_r (fun a F w M=>Ce Av.k rfl F rfl) rfl<|l_r (fun a F w M=>Al (agf Ee rfl) (F.ev rfl) (M.cellL (k:=0) rfl rfl)) rfl<|l_r (fun a F w M=>B1 F rfl) rfl<|?_
   obtain ⟨Xe43,hXe43⟩:=A2 (xs:=x.as) (i:=k) (by omega);obtain ⟨be43,oe43,_,Ie43,_,Ae43,⟨rfl,hn1e43,hv1e43⟩⟩:=SA.at hXe43;refine l_r (fun a F w M=>Bt Ee.k Fk (F.ev rfl) (F.ev rfl) (by omega) Ie43) rfl<|l_r (fun a F w M=>Ce Fk.k rfl F rfl) rfl<|l_r (fun a F w M=>Al (agf Bq rfl) (F.ev rfl) (M.cellA Ae43 0 rfl rfl)) rfl<|l_r (fun a F w M=>Ce Av.k rfl F rfl) rfl<|l_r (fun a F w M=>Al (agf Ee rfl) (F.ev rfl) (M.cellL (k:=0) rfl rfl)) rfl<|l_r (fun a F w M=>B1 F rfl) rfl<|?_
   obtain ⟨be44,oe44,_,Ie44,_,Ae44,⟨rfl,hn1e44,hv1e44⟩⟩:=SA.at hXe34;refine l_r (fun a F w M=>Bt Ee.k Fk (F.ev rfl) (F.ev rfl) (by omega) Ie44) rfl<|l_r (fun a F w M=>Ce Fk.k rfl F rfl) rfl<|l_r (fun a F w M=>Al (agf Bq rfl) (F.ev rfl) (M.cellA Ae44 0 rfl rfl)) rfl<|l_r (fun a F w M=>N5 (F.ev rfl) (F.ev rfl)) rfl<|Hq<|?_
   generalize ({ w with drawn:=w.drawn+1 }:World)=w at M ⊢
   refine Ap rfl ?_ ?_
   ·intro h45b;have h45:=Ah h45b;have h45c:(Op.bytesLess Xe43.n Xe34.n)=false:=(Ah h45b);refine Ac<|Ab rfl<|Ae<|Ad rfl rfl<|?_
    exact ⟨(M.weaken (cN (sR _))),false,rfl,(by rw [Fv (by assumption)];have q0:=H8 hXe34;have q1:=fun h=>Nl hXe34 hXe43 h;have q2:=H8 hXe43;have q3:=fun h=>Nl hXe43 hXe34 h;have q99:=@Gq;clear M;grind)⟩
   intro h46b;have h46:=Ai h46b;have h46c:(Op.bytesLess Xe43.n Xe34.n)=true:=(Ai h46b);refine Aq<|Az<|Aa rfl<|Bx rfl rfl<|Ab rfl<|Bc<|Cm<|fun a F=>?_
   exact ⟨_,by omega,k+1,rfl,F.to ⟨rfl,rfl,rfl,trivial⟩,M,by omega,fun m y hm hy=>by rcases Nat.eq_or_lt_of_le (show m≤k by omega) with e | e;(subst e;rw [hXe43] at hy;simp only [Option.some.injEq] at hy;subst hy;clear F M;grind);exact hB m y e hy⟩
  intro h47b;have h47:=dF h47b;refine B5<|Bw<|Bw<|Dj<|Az<|Aa rfl<|Bx rfl rfl<|Ab rfl<|Bc<|Cm<|fun a F=>?_
  exact ⟨_,by omega,i+1,rfl,F.to ⟨rfl,rfl,trivial⟩,M,by omega,hA.step hXe34 hNv.1 hNv.2 (fun y h_ hy=>hB (i - 1) y (by omega) hy)⟩
 intro h48b;have h48:=dF h48b;refine B5<|Bw<|Bw<|Dj<|Ag<|Ag<|?_
 have hAO:Ii x.as:=hA.all (by omega);refine Az<|Ab rfl<|Ax<|fun a F=>Bz (fun m a' w'=>∃ (j:Nat),m=x.kids.length - j∧Fits 149 a' [(1,.pointer (some ⟨b1,0,none⟩)),(5,.int .i64 ((j:Nat):Int))]∧Mem w0 G (.blk b1 [.int .u8 x.kind,.string (str x.tag),.string (str x.key),.slice ta x.as.length tc,.string (str x.text),.slice ka x.kids.length kc] 193::L) w'∧(j≤x.kids.length)∧(F7 x.kids j)) _ ⟨0,rfl,F.to ⟨rfl,rfl,trivial⟩,M,Nat.zero_le _,F7.zero _⟩ ?_
 clear F M;rintro m a w ⟨j,rfl,F,M,hj,hK⟩;revert a;refine Ag<|Ac<|Aa rfl<|A0 Av.k rfl rfl<|Bg Cf M 0 rfl rfl rfl rfl<|B8 Cf.k rfl<|C2 rfl rfl<|Ap rfl ?_ ?_
 ·intro h49b;have h49:=dT h49b;refine Aq<|Ag<|Ax<|Ag<|?_
  obtain ⟨Xj,hXj⟩:=A2 (xs:=x.kids) (i:=j) (by omega);refine Az<|Ab rfl<|Ax<|fun a F=>Bz (fun m a' w'=>∃ (k:Nat),m=j - k∧Fits 149 a' [(1,.pointer (some ⟨b1,0,none⟩)),(5,.int .i64 ((j:Nat):Int)),(6,.int .i64 ((k:Nat):Int))]∧Mem w0 G (.blk b1 [.int .u8 x.kind,.string (str x.tag),.string (str x.key),.slice ta x.as.length tc,.string (str x.text),.slice ka x.kids.length kc] 193::L) w'∧(k≤j)∧(∀ (m:Nat) (d:NT),m < k→x.kids[m]?=some d→Xj.key=[]∨d.key≠Xj.key)) _ ⟨0,rfl,F.to ⟨rfl,rfl,rfl,trivial⟩,M,Nat.zero_le _,fun m y h=>by omega⟩ ?_
  clear F M;rintro m a w ⟨k,rfl,F,M,hk2,hC⟩;revert a;refine Ag<|Ac<|Aa rfl<|Aa rfl<|C2 rfl rfl<|Ap rfl ?_ ?_
  ·intro h50b;have h50:=dT h50b;refine Aq<|Ag<|Ax<|Ag<|fun a F=>Gh [(true,0),(true,1),(true,2),(true,3),(true,4),(true,5),(true,6),(true,7),(true,8),(true,9),(true,10),(true,11),(true,12),(true,13),(true,14),(true,15),(true,16),(true,17),(true,18),(true,19),(true,20),(true,21)] (Keep G [.blk b1 [.int .u8 x.kind,.string (str x.tag),.string (str x.key),.slice ta x.as.length tc,.string (str x.text),.slice ka x.kids.length kc] 193]) rfl (by kernel_rfl) (fun c a d v w h=>by cases d <;> exact h) (Bo (M.drew _)) ?_
   replace M:=M.drew (w.drawn+1);revert a;refine l_r (fun a F w M=>Ce Av.k rfl F rfl) rfl<|l_r (fun a F w M=>Al (agf Cf rfl) (F.ev rfl) (M.cellL (k:=0) rfl rfl)) rfl<|l_r (fun a F w M=>B1 F rfl) rfl<|?_
   obtain ⟨be51,oe51,_,Ie51,_,Ae51,hTe51⟩:=SK.at hXj;obtain ⟨tae51,tce51,kae51,kce51,rfl,hke51,hle51,SAe51,SKe51⟩:=Di hTe51;refine l_r (fun a F w M=>Bt Cf.k Av (F.ev rfl) (F.ev rfl) (by omega) Ie51) rfl<|l_r (fun a F w M=>Ce Av.k rfl F rfl) rfl<|l_r (fun a F w M=>Al (agf Bq rfl) (F.ev rfl) (M.cellA Ae51 2 rfl rfl)) rfl<|l_r (fun a F w M=>Js (F.ev rfl) (F.ev rfl)) rfl<|l_r (fun a F w M=>B1 F rfl) rfl<|?_
   rcases bE (!(decide (Xj.key=([]:List UInt8)))) with h52b | h57b
   ·skip
    have h52:=dF (Ah h52b);have h52c:(decide (Xj.key=([]:List UInt8)))=false:=(Ah h52b);refine l_g rfl (Ak h52c) (fun a F w M=>Ce Av.k rfl F rfl)<|l_g rfl (Ak h52c) (fun a F w M=>Al (agf Cf rfl) (F.ev rfl) (M.cellL (k:=0) rfl rfl))<|l_g rfl (Ak h52c) (fun a F w M=>B1 F rfl)<|?_
    obtain ⟨be53,oe53,_,Ie53,_,Ae53,hTe53⟩:=SK.at hXj;obtain ⟨tae53,tce53,kae53,kce53,rfl,hke53,hle53,SAe53,SKe53⟩:=Di hTe53;refine l_g rfl (Ak h52c) (fun a F w M=>Bt Cf.k Av (F.ev rfl) (F.ev rfl) (by omega) Ie53)<|l_g rfl (Ak h52c) (fun a F w M=>Ce Av.k rfl F rfl)<|l_g rfl (Ak h52c) (fun a F w M=>Al (agf Bq rfl) (F.ev rfl) (M.cellA Ae53 2 rfl rfl))<|l_g rfl (Ak h52c) (fun a F w M=>Ce Av.k rfl F rfl)<|l_g rfl (Ak h52c) (fun a F w M=>Al (agf Cf rfl) (F.ev rfl) (M.cellL (k:=0) rfl rfl))<|l_g rfl (Ak h52c) (fun a F w M=>B1 F rfl)<|?_
    obtain ⟨Xe54,hXe54⟩:=A2 (xs:=x.kids) (i:=k) (by omega);obtain ⟨be54,oe54,_,Ie54,_,Ae54,hTe54⟩:=SK.at hXe54;obtain ⟨tae54,tce54,kae54,kce54,rfl,hke54,hle54,SAe54,SKe54⟩:=Di hTe54;refine l_g rfl (Ak h52c) (fun a F w M=>Bt Cf.k Av (F.ev rfl) (F.ev rfl) (by omega) Ie54)<|l_g rfl (Ak h52c) (fun a F w M=>Ce Av.k rfl F rfl)<|l_g rfl (Ak h52c) (fun a F w M=>Al (agf Bq rfl) (F.ev rfl) (M.cellA Ae54 2 rfl rfl))<|l_g rfl (Ak h52c) (fun a F w M=>K3 (F.ev rfl) (F.ev rfl))<|l_r (fun a F w M=>F5 F rfl (Ak h52c) rfl) rfl<|Hq<|?_
    generalize ({ w with drawn:=w.drawn+1 }:World)=w at M ⊢
    refine Ap rfl ?_ ?_
    ·intro h55b;have h55:=dT h55b;refine Ac<|Ab rfl<|Ae<|Ad rfl rfl<|?_
     exact ⟨(M.weaken (cN (sR _))),false,rfl,(by rw [Fv (by assumption)];have q0:=Qn hXj;have q1:=fun h=>Yc h hXe54 hXj;have q2:=Qn hXe54;have q3:=fun h=>Yc h hXj hXe54;have q99:=@Gq;clear M;grind)⟩
    intro h56b;have h56:=dF h56b;refine Aq<|Az<|Aa rfl<|Bx rfl rfl<|Ab rfl<|Bc<|Cm<|fun a F=>?_
    exact ⟨_,by omega,k+1,rfl,F.to ⟨rfl,rfl,rfl,trivial⟩,M,by omega,fun m d hm hy=>by rcases Nat.eq_or_lt_of_le (show m≤k by omega) with e | e;(subst e;rw [hXe54] at hy;simp only [Option.some.injEq] at hy;subst hy;clear F M;grind);exact hC m d e hy⟩
   have h57:=dT (Ai h57b);have h57c:(decide (Xj.key=([]:List UInt8)))=true:=(Ai h57b);refine l_s rfl (Aj h57c)<|l_s rfl (Aj h57c)<|l_s rfl (Aj h57c)<|l_s rfl (Aj h57c)<|l_s rfl (Aj h57c)<|l_s rfl (Aj h57c)<|l_s rfl (Aj h57c)<|l_s rfl (Aj h57c)<|l_s rfl (Aj h57c)<|l_s rfl (Aj h57c)<|l_s rfl (Aj h57c)<|l_s rfl (Aj h57c)<|l_s rfl (Aj h57c)<|l_r (fun a F w M=>Fx F rfl (Aj h57c) rfl) rfl<|Hq<|?_
   generalize ({ w with drawn:=w.drawn+1 }:World)=w at M ⊢
   refine D4 rfl rfl<|Aq<|Az<|Aa rfl<|Bx rfl rfl<|Ab rfl<|Bc<|Cm<|fun a F=>?_
   exact ⟨_,by omega,k+1,rfl,F.to ⟨rfl,rfl,rfl,trivial⟩,M,by omega,fun m d hm hy=>by rcases Nat.eq_or_lt_of_le (show m≤k by omega) with e | e;(clear F M;grind);exact hC m d e hy⟩
  intro h58b;have h58:=dF h58b;refine B5<|Bw<|Bw<|Dj<|Az<|Aa rfl<|Bx rfl rfl<|Ab rfl<|Bc<|Cm<|fun a F=>?_
  exact ⟨_,by omega,j+1,rfl,F.to ⟨rfl,rfl,trivial⟩,M,by omega,hK.step hXj (by by_cases e:Xj.key=[];exact Or.inl e;exact Or.inr fun m a_ hm ha=>(hC m a_ (by omega) ha).resolve_left e)⟩
 intro h59b;have h59:=dF h59b;refine B5<|Bw<|Bw<|Dj<|Ac<|Ab rfl<|Ae<|Ad rfl rfl<|?_
 exact ⟨(M.weaken (cN (sR _))),true,rfl,(by rw [Fv (by assumption)];exact ⟨fun _=>⟨hE,hAO,hK.all (by omega)⟩,fun _=>rfl⟩)⟩
def MeasP (x:NT):Prop:=∀ (w0 w:World) (G:A4) (L:List Res) (cb db wb nb no c d lev:Nat) (ta ka:Option Addr) (tc kc:Nat),Mem w0 G (.blk cb [.int .i64 ((c:Nat):Int)] 3::.blk db [.int .i64 ((d:Nat):Int)] 3::.blk wb [.func (.func 232) #[] #[.pointer (some ⟨cb,0,none⟩),.pointer (some ⟨db,0,none⟩),.pointer (some ⟨wb,0,none⟩)]] 303::L) w→Bb .u8 x.kind→(x.tag.length≤9223372036854775807∧x.key.length≤9223372036854775807∧x.text.length≤9223372036854775807) →
  Au Fc 2 G (.slice ta x.as.length tc) x.as→Au rdN 6 G (.slice ka x.kids.length kc) x.kids→At G nb no [.int .u8 x.kind,.string (str x.tag),.string (str x.key),.slice ta x.as.length tc,.string (str x.text),.slice ka x.kids.length kc]→c≤64→d≤7→1≤lev→lev≤7 →
  Calls Tryz.prog 232 #[.pointer (some ⟨nb,no,none⟩),.int .i64 (lev:Int),.pointer (some ⟨cb,0,none⟩),.pointer (some ⟨db,0,none⟩),.pointer (some ⟨wb,0,none⟩)] w
   (Ky w0 G fun L' v=>∃ (bb:Bool) (c' d':Nat),v=.bool bb∧L' = (.blk cb [.int .i64 ((c':Nat):Int)] 3::.blk db [.int .i64 ((d':Nat):Int)] 3::.blk wb [.func (.func 232) #[] #[.pointer (some ⟨cb,0,none⟩),.pointer (some ⟨db,0,none⟩),.pointer (some ⟨wb,0,none⟩)]] 303::L)∧(bb=true↔Tr.Ok Ij (7 - lev) x∧c+x.size≤64)∧(bb=true→c' = c+x.size∧d' = max d (lev+x.depth - 1)))
theorem Aip {x:NT} (ih:∀ y∈x.kids,MeasP y) {w0 w:World} {G:A4} {L:List Res} {cb db wb nb no c d lev:Nat} {ta ka:Option Addr} {tc kc:Nat} (M:Mem w0 G (.blk cb [.int .i64 ((c:Nat):Int)] 3::.blk db [.int .i64 ((d:Nat):Int)] 3::.blk wb [.func (.func 232) #[] #[.pointer (some ⟨cb,0,none⟩),.pointer (some ⟨db,0,none⟩),.pointer (some ⟨wb,0,none⟩)]] 303::L) w) (hk:Bb .u8 x.kind) (hl:(x.tag.length≤9223372036854775807∧x.key.length≤9223372036854775807∧x.text.length≤9223372036854775807))
  (SA:Au Fc 2 G (.slice ta x.as.length tc) x.as) (SK:Au rdN 6 G (.slice ka x.kids.length kc) x.kids) (A:At G nb no [.int .u8 x.kind,.string (str x.tag),.string (str x.key),.slice ta x.as.length tc,.string (str x.text),.slice ka x.kids.length kc]) (hc:c≤64) (hd:d≤7) (hl1:1≤lev) (hl2:lev≤7) :
  Calls Tryz.prog 232 #[.pointer (some ⟨nb,no,none⟩),.int .i64 (lev:Int),.pointer (some ⟨cb,0,none⟩),.pointer (some ⟨db,0,none⟩),.pointer (some ⟨wb,0,none⟩)] w
   (Ky w0 G fun L' v=>∃ (bb:Bool) (c' d':Nat),v=.bool bb∧L' = (.blk cb [.int .i64 ((c':Nat):Int)] 3::.blk db [.int .i64 ((d':Nat):Int)] 3::.blk wb [.func (.func 232) #[] #[.pointer (some ⟨cb,0,none⟩),.pointer (some ⟨db,0,none⟩),.pointer (some ⟨wb,0,none⟩)]] 303::L)∧(bb=true↔Tr.Ok Ij (7 - lev) x∧c+x.size≤64)∧(bb=true→c' = c+x.size∧d' = max d (lev+x.depth - 1))):=by
 refine Ay (vs:=[_,_,_,_,_]) Tryz.func232 rfl (n:=45) rfl rfl<|Ac<|Ab rfl<|Ac<|Bg Cg M 0 rfl rfl rfl rfl<|Bx rfl rfl<|Gd Cg M 0 rfl rfl rfl rfl rfl rfl<|?_;clear M;intro w M
 refine Ac<|Bg Cg M 1 rfl rfl rfl rfl<|Aa rfl<|Ar (fun a F=>Ahi (b:=d) (c:=lev) (F.ev rfl) (F.ev rfl)) rfl<|Gd Cg M 1 rfl rfl rfl rfl rfl rfl<|?_;clear M;intro w M
 refine Ag<|Ac<|Aa rfl<|Da rfl rfl<|Aa rfl<|?_
 rcases bE (decide (6 < (lev:Int))) with h1b | h2b
 ·skip
  have h1:=dT h1b;refine g_f rfl h1b<|g_f rfl h1b<|Bh rfl h1b rfl<|Aa rfl<|g_f rfl rfl<|g_f rfl rfl<|g_f rfl rfl<|Bh rfl rfl rfl<|Bl rfl rfl<|Ac<|Ab rfl<|Ae<|Ad rfl rfl<|?_
  replace M:=M.perm (Ao _ 2 _ rfl);replace M:=M.perm (Ao _ 2 _ rfl);replace M:=M.perm (Ao _ 2 _ rfl);change Mem w0 G (.blk cb [.int .i64 (((c:Nat):Int)+1)] 3::.blk db [.int .i64 ((max d lev:Nat):Int)] 3::_::L) _ at M
  exact ⟨_,M,false,_,_,rfl,rfl,⟨fun h_=>(by cases h_),fun h_=>absurd h_ (K8 (by clear M;grind))⟩,fun h_=>(by cases h_)⟩
 have h2:=dF h2b;refine g_t rfl h2b<|Bg Cg M 0 rfl rfl rfl rfl<|g_t rfl h2b<|Da rfl rfl<|Be rfl h2b rfl<|Aa rfl<|?_
 rcases bE (decide (64 < ((c:Nat):Int)+1)) with h3b | h4b
 ·skip
  have h3:=dT h3b;refine g_f rfl h3b<|g_f rfl h3b<|g_f rfl h3b<|Bh rfl h3b rfl<|Bl rfl rfl<|Ac<|Ab rfl<|Ae<|Ad rfl rfl<|?_
  replace M:=M.perm (Ao _ 2 _ rfl);replace M:=M.perm (Ao _ 2 _ rfl);replace M:=M.perm (Ao _ 2 _ rfl);change Mem w0 G (.blk cb [.int .i64 (((c:Nat):Int)+1)] 3::.blk db [.int .i64 ((max d lev:Nat):Int)] 3::_::L) _ at M
  exact ⟨_,M,false,_,_,rfl,rfl,⟨fun h_=>(by cases h_),fun h_=>absurd h_ (K8 (by clear M;grind))⟩,fun h_=>(by cases h_)⟩
 have h4:=dF h4b;refine g_t rfl h4b<|Aa rfl<|g_t rfl h4b<|Bs ent233 rfl rfl (Aep (x:=x) M hk hl SA SK A)<|?_;clear M;rintro _ w M ⟨b5,rfl,hb5⟩
 refine g_t rfl h4b<|Dh rfl<|Be rfl h4b rfl<|Ap rfl ?_ ?_
 ·intro h6b;have h6:=Ah h6b;have h6c:(b5)=false:=(Ah h6b);refine Ac<|Ab rfl<|Ae<|Ad rfl rfl<|?_
  replace M:=M.perm (Ao _ 2 _ rfl);replace M:=M.perm (Ao _ 2 _ rfl);replace M:=M.perm (Ao _ 2 _ rfl);change Mem w0 G (.blk cb [.int .i64 (((c:Nat):Int)+1)] 3::.blk db [.int .i64 ((max d lev:Nat):Int)] 3::_::L) _ at M
  exact ⟨_,M,false,_,_,rfl,rfl,⟨fun h_=>(by cases h_),fun h_=>absurd h_ (K8 (by clear M;grind))⟩,fun h_=>(by cases h_)⟩
 intro h7b;have h7:=Ai h7b;have h7c:(b5)=true:=(Ai h7b);refine Aq<|Ag<|Ag<|?_
 have hAl:Ij x:=by clear M;grind
 have hl6:lev≤6:=by omega
 have hkl:=W8 hAl;refine Az<|Aa rfl<|Fi rfl<|A0 Av.k rfl rfl<|Dq Cf M A 5 rfl rfl rfl rfl<|B8 Cf.k rfl<|Aa rfl<|Ax<|fun a F=>Bz (fun m a' w'=>∃ (i:Nat),∃ (ci:Nat),∃ (di:Nat),m=x.kids.length - i∧Fits 45 a' [(0,.pointer (some ⟨nb,no,none⟩)),(1,.int .i64 ((lev:Int))),(2,.pointer (some ⟨cb,0,none⟩)),(3,.pointer (some ⟨db,0,none⟩)),(4,.pointer (some ⟨wb,0,none⟩)),(28,.slice ka x.kids.length kc),(29,.int .i64 ((x.kids.length:Nat):Int)),(30,.int .i64 ((i:Nat):Int))]∧Mem w0 G (.blk cb [.int .i64 ((ci:Nat):Int)] 3::.blk db [.int .i64 ((di:Nat):Int)] 3::.blk wb [.func (.func 232) #[] #[.pointer (some ⟨cb,0,none⟩),.pointer (some ⟨db,0,none⟩),.pointer (some ⟨wb,0,none⟩)]] 303::L) w'∧(i≤x.kids.length)∧(ci=c+1+Tr.sizes (x.kids.take i)∧ci≤64)∧(di=max d (lev+Tr.depths (x.kids.take i)))∧(di≤7)∧(∀ (m:Nat) (y:NT),m < i→x.kids[m]?=some y→Tr.Ok Ij (7 - (lev+1)) y)) _ ⟨0,c+1,max d lev,rfl,F.to ⟨rfl,rfl,rfl,rfl,rfl,rfl,rfl,rfl,trivial⟩,M,Nat.zero_le _,⟨by simp [Tr.sizes],by omega⟩,by simp only [List.take_zero,Tr.depths];omega,by omega,fun m y h=>by omega⟩ ?_
 clear F M;rintro m a w ⟨i,ci,di,rfl,F,M,hi,hci,hdi,hd7,hO⟩;revert a;refine Ac<|C2 rfl rfl<|Ag<|Ap rfl ?_ ?_
 ·intro h8b;have h8:=dT h8b;refine Aq<|Ag<|Ax<|Ac<|Aa rfl<|Ab rfl<|Ag<|fun a F=>Fg [(.pure,0),(.free,1),(.free,2),(.free,3),(.pure,4),(.free,5),(.free,6),(.free,7),(.free,8),(.keep,9),(.free,10)] [] (Keep G [.blk wb [.func (.func 232) #[] #[.pointer (some ⟨cb,0,none⟩),.pointer (some ⟨db,0,none⟩),.pointer (some ⟨wb,0,none⟩)]] 303]) rfl (by kernel_rfl) (fun c a d v w h=>by cases d <;> exact h) (Bo (M.drew _)) ?_
  replace M:=M.drew (w.drawn+1);revert a;refine k_p (fun a F w M=>Al (agf Xf rfl) (F.ev rfl) (M.cellL (k:=0) rfl rfl)) rfl<|k_f (fun a F w _=>B1 F rfl) rfl<|k_f (fun a F w _=>Ea (F.ev rfl)) rfl<|k_f (fun a F w _=>Ce Av.k rfl F rfl) rfl<|k_p (fun a F w M=>Al (agf Cf rfl) (F.ev rfl) (M.cellA A 5 rfl rfl)) rfl<|k_f (fun a F w _=>B1 F rfl) rfl<|?_
  obtain ⟨Xe9,hXe9⟩:=A2 (xs:=x.kids) (i:=i) (by omega);obtain ⟨be9,oe9,_,Ie9,_,Ae9,hTe9⟩:=SK.at hXe9;obtain ⟨tae9,tce9,kae9,kce9,rfl,hke9,hle9,SAe9,SKe9⟩:=Di hTe9;refine k_f (fun a F w _=>Bt Cf.k Av (F.ev rfl) (F.ev rfl) (by omega) Ie9) rfl<|k_f (fun a F w _=>B1 F rfl) rfl<|k_f (fun a F w _=>Gf (F.ev rfl) (F.ev rfl) (C0 (by omega) (by omega))) rfl<|k_k rfl<|?_
  replace M:=M.perm (Ao _ 2 _ rfl);replace M:=M.perm (Ao _ 2 _ rfl);replace M:=M.perm (Ao _ 2 _ rfl);change Mem w0 G (_::_::_::L) _ at M;refine s_vL Amy (caps:=[.pointer (some ⟨cb,0,none⟩),.pointer (some ⟨db,0,none⟩),.pointer (some ⟨wb,0,none⟩)]) rfl rfl rfl (ih Xe9 (List.mem_of_getElem? hXe9) _ _ _ _ _ _ _ _ _ ci di (lev+1) _ _ _ _ M hke9 hle9 SAe9 SKe9 Ae9 (by omega) (by omega) (by omega) (by omega))<|?_;clear M;rintro _ _ w M ⟨b10,cb10,db10,rfl,rfl,hb10,eb10⟩
  refine eQ (Bo M)<|k_f (fun a F w _=>Gl (F.ev rfl)) rfl<|De<|Ap rfl ?_ ?_
  ·intro h11b;have h11:=Ah h11b;have h11c:(b10)=false:=(Ah h11b);refine Ac<|Ab rfl<|Ae<|Ad rfl rfl<|?_
   replace M:=M.perm (Ao _ 2 _ rfl);replace M:=M.perm (Ao _ 2 _ rfl);replace M:=M.perm (Ao _ 2 _ rfl);change Mem w0 G (_::_::_::L) _ at M
   exact ⟨_,M,false,_,_,rfl,rfl,⟨fun h_=>(by cases h_),fun h_=>absurd h_ (Rh hXe9 hl6 (by rw [← hci.1];exact fun h_=>by have h9:=hb10.2 h_;simp_all))⟩,fun h_=>(by cases h_)⟩
  intro h12b;have h12:=Ai h12b;have h12c:(b10)=true:=(Ai h12b);refine Aq<|Az<|Bx rfl rfl<|Aa rfl<|Bc<|Cm<|?_
  have hq:=hb10.1 (by assumption);obtain ⟨hc2,hd2⟩:=eb10 (by assumption);have hs2:=Tr.sizes_snoc hXe9;have hp2:=Tr.depths_snoc hXe9;have hps:=hq.1.depth;intro a F
  exact ⟨_,by omega,i+1,cb10,db10,rfl,F.to ⟨rfl,rfl,rfl,rfl,rfl,rfl,rfl,rfl,trivial⟩,M,by omega,by omega,by omega,by omega,X6 hO hXe9 hq.1⟩
 intro h13b;have h13:=dF h13b;refine B5<|Bw<|Bw<|Dj<|Ac<|Ab rfl<|Ae<|Ad rfl rfl<|?_
 replace M:=M.perm (Ao _ 2 _ rfl);replace M:=M.perm (Ao _ 2 _ rfl);replace M:=M.perm (Ao _ 2 _ rfl);change Mem w0 G (_::_::_::L) _ at M;have hf:=Lf (x:=x) (i:=i) (by omega);have hg:=Abb (x:=x) (i:=i) (by omega)
 exact ⟨_,M,true,_,_,rfl,rfl,⟨fun _=>⟨Aad hl6 hAl (by omega) hO,by omega⟩,fun _=>rfl⟩,fun _=>⟨by omega,by omega⟩⟩
theorem Als (x:NT):MeasP x:=by
 induction x using Tr.ind with
 | _ x ih=>intro w0 w G L cb db wb nb no c d lev ta ka tc kc M hk hl SA SK A hc hd hl1 hl2;exact Aip ih M hk hl SA SK A hc hd hl1 hl2
theorem Aac (M:Mem w0 G L w) {x:NT} {ta:Option Addr} {tc:Nat} {ka:Option Addr} {kc:Nat} (hk:Bb .u8 x.kind) (hl:(x.tag.length≤9223372036854775807∧x.key.length≤9223372036854775807∧x.text.length≤9223372036854775807)) (SA:Au Fc 2 G (.slice ta x.as.length tc) x.as) (SK:Au rdN 6 G (.slice ka x.kids.length kc) x.kids):Calls Tryz.prog 220 #[.agg #[.int .u8 x.kind,.string (str x.tag),.string (str x.key),.slice ta x.as.length tc,.string (str x.text),.slice ka x.kids.length kc]] w (Ret w0 G L fun _ v=>v=.tuple #[.int .i64 ((cntF x:Nat):Int),.int .i64 ((Ajg x:Nat):Int)]):=by
 refine Ay (vs:=[_]) Tryz.func220 rfl (n:=11) rfl rfl<|Ac<|Cz M rfl rfl rfl<|?_;clear M;intro b1 w M
 refine C9 M Cg rfl rfl<|?_;clear M;intro b2 w M
 refine C9 M Cg rfl rfl<|?_;clear M;intro b4 w M
 refine Ac<|C9 M Xf rfl rfl<|?_;clear M;intro b6 w M
 refine Ac<|Ar (fun a F=>Ds (vs:=#[.pointer (some ⟨b2,0,none⟩),.pointer (some ⟨b4,0,none⟩),.pointer (some ⟨b6,0,none⟩)]) (by simp only [List.map_toArray,List.map_cons,List.map_nil,F.ev (x:=.tmp 2) rfl,F.ev (x:=.tmp 3) rfl,F.ev (x:=.tmp 4) rfl])) rfl<|Gd Xf M 0 rfl rfl rfl rfl rfl rfl<|?_;clear M;intro w M
 refine Ag<|Ag<|?_
 obtain ⟨Gq8,hGq8,hbq8,M⟩:=M.freeze (k:=3) rfl;have Aq8:At Gq8 b1 0 [.int .u8 x.kind,.string (str x.tag),.string (str x.key),.slice ta x.as.length tc,.string (str x.text),.slice ka x.kids.length kc]:=At.of_cells hbq8;clear hbq8;replace SA:=SA.mono Eg hGq8;replace SK:=SK.mono Fm hGq8;change Mem w0 Gq8 (.blk b6 [.func (.func 232) #[] #[.pointer (some ⟨b2,0,none⟩),.pointer (some ⟨b4,0,none⟩),.pointer (some ⟨b6,0,none⟩)]] 303::.blk b4 [.int .i64 0] 3::.blk b2 [.int .i64 0] 3::L) _ at M;refine Az<|Bg Xf M 0 rfl rfl rfl rfl<|?_
 replace M:=M.perm (Ao _ 1 _ rfl);replace M:=M.perm (Ao _ 2 _ rfl);change Mem w0 Gq8 (_::_::.blk b6 [.func (.func 232) #[] #[.pointer (some ⟨b2,0,none⟩),.pointer (some ⟨b4,0,none⟩),.pointer (some ⟨b6,0,none⟩)]] 303::L) _ at M;refine s_vL Amy (caps:=[.pointer (some ⟨b2,0,none⟩),.pointer (some ⟨b4,0,none⟩),.pointer (some ⟨b6,0,none⟩)]) rfl rfl rfl (Als x _ _ _ _ _ _ _ _ _ 0 0 1 _ _ _ _ M hk hl SA SK Aq8 (by omega) (by omega) (by omega) (by omega))<|?_;clear M;rintro _ _ w M ⟨b9,cb9,db9,rfl,rfl,hb9,eb9⟩
 refine Dh rfl<|Ap rfl ?_ ?_
 ·intro h10b;have h10:=Ah h10b;have h10c:(b9)=false:=(Ah h10b);refine Ac<|Gd Cg M 0 rfl rfl rfl rfl rfl rfl<|?_;clear M;intro w M
  refine Gd Cg M 1 rfl rfl rfl rfl rfl rfl<|?_;clear M;intro w M
  refine Ae<|C5<|fun a F=>Amn F M (k1:=0) (k2:=1) rfl rfl rfl (agf Cg rfl) (agf Cg rfl) rfl rfl ?_
  have hV:¬ Ig x:=fun h_=>by have h9:=hb9.2 ⟨h_.1,by have:=h_.2;omega⟩;simp_all
  exact ⟨_,hGq8,(M.weaken (cN (.cons _ (cN (sR _))))),by rw [Sd hV,depF_no hV];rfl⟩
 intro h11b;have h11:=Ai h11b;have h11c:(b9)=true:=(Ai h11b);refine Aq<|Ag<|fun a F=>Fg [(.pure,0),(.pure,1),(.keep,2),(.keep,3)] [] (Keep Gq8 [.blk b2 [.int .i64 ((cb9:Nat):Int)] 3,.blk b4 [.int .i64 ((db9:Nat):Int)] 3,.blk b6 [.func (.func 232) #[] #[.pointer (some ⟨b2,0,none⟩),.pointer (some ⟨b4,0,none⟩),.pointer (some ⟨b6,0,none⟩)]] 303]) rfl (by kernel_rfl) (fun c a d v w h=>by cases d <;> exact h) (Bo (M.drew _)) ?_
 replace M:=M.drew (w.drawn+1);revert a;refine k_p (fun a F w M=>Al (agf Cg rfl) (F.ev rfl) (M.cellL (k:=0) rfl rfl)) rfl<|k_p (fun a F w M=>Al (agf Cg rfl) (F.ev rfl) (M.cellL (k:=1) rfl rfl)) rfl<|k_k rfl<|Gd Cg M 0 rfl rfl rfl rfl rfl rfl<|?_;clear M;intro w M
 refine eQ (Bo M)<|k_k rfl<|Gd Cg M 1 rfl rfl rfl rfl rfl rfl<|?_;clear M;intro w M
 refine eQ (Bo M)<|De<|Ae<|fun a F=>Amn F M (k1:=0) (k2:=1) rfl rfl rfl (agf Cg rfl) (agf Cg rfl) rfl rfl ?_
 have hq:=hb9.1 (by assumption);have hV:Ig x:=⟨hq.1,by omega⟩;obtain ⟨hc2,hd2⟩:=eb9 (by assumption);have hp1:=Tr.depth_eq x
 exact ⟨_,hGq8,(M.weaken (cN (.cons _ (cN (sR _))))),by rw [Abg hV,Apa hV,show x.size=cb9 by omega,show x.depth=db9 by omega]⟩
theorem X9 (M:Mem w0 G L w) {x:NT} {ta:Option Addr} {tc:Nat} {ka:Option Addr} {kc:Nat} (hk:Bb .u8 x.kind) (hl:(x.tag.length≤9223372036854775807∧x.key.length≤9223372036854775807∧x.text.length≤9223372036854775807)) (SA:Au Fc 2 G (.slice ta x.as.length tc) x.as) (SK:Au rdN 6 G (.slice ka x.kids.length kc) x.kids):Calls Tryz.prog 220 #[.agg #[.int .u8 x.kind,.string (str x.tag),.string (str x.key),.slice ta x.as.length tc,.string (str x.text),.slice ka x.kids.length kc]] w (Cs w0 G L fun v=>v=.tuple #[.int .i64 ((cntF x:Nat):Int),.int .i64 ((Ajg x:Nat):Int)]):=Ret.plain M (Aac M hk hl SA SK)
theorem Rf (M:Mem w0 G L w) {x:NT} {ta:Option Addr} {tc:Nat} {ka:Option Addr} {kc:Nat} (hk:Bb .u8 x.kind) (hl:(x.tag.length≤9223372036854775807∧x.key.length≤9223372036854775807∧x.text.length≤9223372036854775807)) (SA:Au Fc 2 G (.slice ta x.as.length tc) x.as) (SK:Au rdN 6 G (.slice ka x.kids.length kc) x.kids):Calls Tryz.prog 193 #[.agg #[.int .u8 x.kind,.string (str x.tag),.string (str x.key),.slice ta x.as.length tc,.string (str x.text),.slice ka x.kids.length kc]] w (Cs w0 G L fun v=>v=.int .i64 ((cntF x:Nat):Int)):=by
 refine Ay (vs:=[_]) Tryz.func193 rfl (n:=11) rfl rfl<|Ac<|Cz M rfl rfl rfl<|?_;clear M;intro b1 w M
 refine Ab rfl<|Ac<|Ar (fun a F=>Af Av rfl (F.ev rfl) (cs:=[.int .u8 x.kind,.string (str x.tag),.string (str x.key),.slice ta x.as.length tc,.string (str x.text),.slice ka x.kids.length kc]) rfl (M.cellsL (k:=0) rfl rfl)) rfl<|Bs ent220 rfl rfl (X9 (x:=x) M hk hl SA SK)<|?_;clear M;rintro _ w M rfl
 refine Aa rfl<|Df rfl rfl<|Df rfl rfl<|Ab rfl<|Ab rfl<|Ac<|Aa rfl<|Ab rfl<|Ae<|Ad rfl rfl<|?_
 exact ⟨M.weaken dS1,rfl⟩
theorem H4 (M:Mem w0 G L w) {x:NT} {ta:Option Addr} {tc:Nat} {ka:Option Addr} {kc:Nat} (hk:Bb .u8 x.kind) (hl:(x.tag.length≤9223372036854775807∧x.key.length≤9223372036854775807∧x.text.length≤9223372036854775807)) (SA:Au Fc 2 G (.slice ta x.as.length tc) x.as) (SK:Au rdN 6 G (.slice ka x.kids.length kc) x.kids):Calls Tryz.prog 229 #[.agg #[.int .u8 x.kind,.string (str x.tag),.string (str x.key),.slice ta x.as.length tc,.string (str x.text),.slice ka x.kids.length kc]] w (Cs w0 G L fun v=>v=.int .i64 (Qu x)):=by
 refine Ay (vs:=[_]) Tryz.func229 rfl (n:=6) rfl rfl<|Ac<|Cz M rfl rfl rfl<|?_;clear M;intro b1 w M
 refine Ab rfl<|Ag<|Ac<|Ar (fun a F=>Af Av rfl (F.ev rfl) (cs:=[.int .u8 x.kind,.string (str x.tag),.string (str x.key),.slice ta x.as.length tc,.string (str x.text),.slice ka x.kids.length kc]) rfl (M.cellsL (k:=0) rfl rfl)) rfl<|Bs Aod rfl rfl (Rf (x:=x) M hk hl SA SK)<|?_;clear M;rintro _ w M rfl
 refine C3 rfl rfl<|Ap rfl ?_ ?_
 ·intro h2b;have h2:=dT h2b;refine Ac<|Ab rfl<|Ae<|Ad rfl rfl<|?_
  exact ⟨M.weaken dS1,by rw [Agr fun h_=>by have:=Mx.2 h_;omega]⟩
 intro h3b;have h3:=dF h3b;refine Aq<|Ac<|Ab rfl<|Ae<|Ad rfl rfl<|?_
 exact ⟨M.weaken dS1,by rw [Pw (Mx.1 (by omega))]⟩
def RcntP (x:NT):Prop:=∀ (w0 w:World) (G:A4) (L:List Res) (ta ka:Option Addr) (tc kc lev:Nat),Mem w0 G L w→Bb .u8 x.kind→(x.tag.length≤9223372036854775807∧x.key.length≤9223372036854775807∧x.text.length≤9223372036854775807)→Au Fc 2 G (.slice ta x.as.length tc) x.as→Au rdN 6 G (.slice ka x.kids.length kc) x.kids→lev≤8 →
  Calls Tryz.prog 188 #[.agg #[.int .u8 x.kind,.string (str x.tag),.string (str x.key),.slice ta x.as.length tc,.string (str x.text),.slice ka x.kids.length kc],.int .i64 (lev:Int)] w (Cs w0 G L fun v=>∃ r:Nat,v=.int .i64 (r:Int)∧Cnt Ij x lev r)
theorem Ahz {x:NT} (ih:∀ y∈x.kids,RcntP y) {w0 w:World} {G:A4} {L:List Res} (M:Mem w0 G L w) {ta:Option Addr} {tc:Nat} {ka:Option Addr} {kc:Nat} (hk:Bb .u8 x.kind) (hl:(x.tag.length≤9223372036854775807∧x.key.length≤9223372036854775807∧x.text.length≤9223372036854775807)) (SA:Au Fc 2 G (.slice ta x.as.length tc) x.as) (SK:Au rdN 6 G (.slice ka x.kids.length kc) x.kids) {lev:Nat} (hlev:lev≤8):Calls Tryz.prog 188 #[.agg #[.int .u8 x.kind,.string (str x.tag),.string (str x.key),.slice ta x.as.length tc,.string (str x.text),.slice ka x.kids.length kc],.int .i64 (lev:Int)] w (Cs w0 G L fun v=>∃ r:Nat,v=.int .i64 (r:Int)∧Cnt Ij x lev r):=by
 refine Ay (vs:=[_,_]) Tryz.func188 rfl (n:=36) rfl rfl<|Ac<|Cz M rfl rfl rfl<|?_;clear M;intro b1 w M
 refine Ab rfl<|Ag<|Ac<|Aa rfl<|C2 rfl rfl<|Aa rfl<|?_
 rcases bE (decide ((lev:Int) < 1)) with h2b | h3b
 ·skip
  have h2:=dT h2b;refine g_f rfl h2b<|g_f rfl h2b<|g_f rfl h2b<|Bh rfl h2b rfl<|Bl rfl rfl<|Ac<|Ab rfl<|Ae<|Ad rfl rfl<|?_
  exact ⟨M.weaken dS1,1000,rfl,Cnt.bad (by clear M;grind)⟩
 have h3:=dF h3b;refine g_t rfl h3b<|Ar (fun a F=>Af Av rfl (F.ev rfl) (cs:=[.int .u8 x.kind,.string (str x.tag),.string (str x.key),.slice ta x.as.length tc,.string (str x.text),.slice ka x.kids.length kc]) rfl (M.cellsL (k:=0) rfl rfl)) rfl<|g_t rfl h3b<|Bs ent211 rfl rfl (Ahm (x:=x) M hk hl SA SK)<|?_;clear M;rintro _ w M ⟨b4,rfl,hb4⟩
 refine g_t rfl h3b<|Dh rfl<|Be rfl h3b rfl<|Ap rfl ?_ ?_
 ·intro h5b;have h5:=Ah h5b;have h5c:(b4)=false:=(Ah h5b);refine Ac<|Ab rfl<|Ae<|Ad rfl rfl<|?_
  exact ⟨M.weaken dS1,1000,rfl,Cnt.bad (by clear M;grind)⟩
 intro h6b;have h6:=Ai h6b;have h6c:(b4)=true:=(Ai h6b);refine Aq<|Ag<|?_
 have hAl:Ij x:=by clear M;grind
 have hl1:1≤lev:=by omega
 have hkl:=W8 hAl;refine Az<|Ab rfl<|Ag<|Ac<|Ab rfl<|Ax<|fun a F=>Bz (fun m a' w'=>∃ (i:Nat),∃ (c:Nat),m=x.kids.length - i∧Fits 36 a' [(1,.int .i64 ((lev:Int))),(2,.pointer (some ⟨b1,0,none⟩)),(5,.int .i64 ((c:Nat):Int)),(6,.int .i64 ((i:Nat):Int))]∧Mem w0 G (.blk b1 [.int .u8 x.kind,.string (str x.tag),.string (str x.key),.slice ta x.as.length tc,.string (str x.text),.slice ka x.kids.length kc] 193::L) w'∧(i≤x.kids.length)∧(CntL Ij x lev i c)) _ ⟨0,1,rfl,F.to ⟨rfl,rfl,rfl,rfl,trivial⟩,M,Nat.zero_le _,CntL.zero _ _⟩ ?_
 clear F M;rintro m a w ⟨i,c,rfl,F,M,hi,hL⟩;revert a;refine Ag<|Ag<|?_
 have hchi:=hL.hi;refine Az<|Aa rfl<|A0 Av.k rfl rfl<|Bg Cf M 0 rfl rfl rfl rfl<|B8 Cf.k rfl<|C2 rfl rfl<|Aa rfl<|?_
 rcases bE (decide (((i:Nat):Int) < ((x.kids.length:Nat):Int))) with h7b | h13b
 ·skip
  have h7:=dT h7b;refine g_t rfl h7b<|Aa rfl<|g_t rfl h7b<|Jk rfl rfl<|Bh rfl h7b rfl<|Ap rfl ?_ ?_
  ·intro h8b;have h8:=dT h8b;refine Aq<|Ag<|Ax<|Az<|Aa rfl<|A0 Av.k rfl rfl<|Bg Cf M 0 rfl rfl rfl rfl<|Aa rfl<|?_
   obtain ⟨Xe9,hXe9⟩:=A2 (xs:=x.kids) (i:=i) (by omega);obtain ⟨be9,oe9,_,Ie9,_,Ae9,hTe9⟩:=SK.at hXe9;obtain ⟨tae9,tce9,kae9,kce9,rfl,hke9,hle9,SAe9,SKe9⟩:=Di hTe9;refine D0 Cf.k Av Ie9 rfl rfl<|Ar (fun a F=>Af Av rfl (F.ev rfl) (cs:=[.int .u8 Xe9.kind,.string (str Xe9.tag),.string (str Xe9.key),.slice tae9 Xe9.as.length tce9,.string (str Xe9.text),.slice kae9 Xe9.kids.length kce9]) rfl (M.cellsA Ae9 0 (by omega) rfl)) rfl<|Aa rfl<|Q4 rfl rfl<|?_
   have hs10:((lev:Int) - 1:Int)=((lev - 1:Nat):Int):=by omega
   intro a F;rw [hs10] at F;revert a;refine Bs Aof rfl rfl (ih Xe9 (List.mem_of_getElem? hXe9) _ _ _ _ _ _ _ _ (lev - 1) M hke9 hle9 SAe9 SKe9 (by omega))<|?_;clear M;rintro _ w M ⟨r11,rfl,hr11⟩
   have hir11:=hr11.hi;have lor11:=hr11.lo;refine Bx rfl rfl<|Ab rfl<|Az<|Aa rfl<|Bx rfl rfl<|Ab rfl<|Bc<|Cm<|fun a F=>?_
   exact ⟨_,by omega,i+1,c+r11,rfl,F.to ⟨rfl,rfl,rfl,rfl,trivial⟩,M,by omega,hL.step (by omega) (by omega) hXe9 hr11⟩
  intro h12b;have h12:=dF h12b;refine B5<|Bw<|Bw<|Dj<|Ac<|Aa rfl<|Ab rfl<|Ae<|Ad rfl rfl<|?_
  exact ⟨M.weaken dS1,c,rfl,hL.done (by omega) hAl (by omega)⟩
 have h13:=dF h13b;refine g_f rfl h13b<|g_f rfl h13b<|Be rfl h13b rfl<|D4 rfl rfl<|B5<|Bw<|Bw<|Dj<|Ac<|Aa rfl<|Ab rfl<|Ae<|Ad rfl rfl<|?_
 exact ⟨M.weaken dS1,c,rfl,hL.done (by omega) hAl (by omega)⟩
theorem Aky (x:NT):RcntP x:=by
 induction x using Tr.ind with
 | _ x ih=>intro w0 w G L ta ka tc kc lev M hk hl SA SK hlev;exact Ahz ih M hk hl SA SK hlev
theorem Re (M:Mem w0 G L w) {x:NT} {ta:Option Addr} {tc:Nat} {ka:Option Addr} {kc:Nat} (hk:Bb .u8 x.kind) (hl:(x.tag.length≤9223372036854775807∧x.key.length≤9223372036854775807∧x.text.length≤9223372036854775807)) (SA:Au Fc 2 G (.slice ta x.as.length tc) x.as) (SK:Au rdN 6 G (.slice ka x.kids.length kc) x.kids):Calls Tryz.prog 153 #[.agg #[.int .u8 x.kind,.string (str x.tag),.string (str x.key),.slice ta x.as.length tc,.string (str x.text),.slice ka x.kids.length kc]] w (Cs w0 G L fun v=>v=.int .i64 ((cntF x:Nat):Int)):=by
 refine Ay (vs:=[_]) Tryz.func153 rfl (n:=9) rfl rfl<|Ac<|Cz M rfl rfl rfl<|?_;clear M;intro b1 w M
 refine Ab rfl<|Ac<|Ar (fun a F=>Af Av rfl (F.ev rfl) (cs:=[.int .u8 x.kind,.string (str x.tag),.string (str x.key),.slice ta x.as.length tc,.string (str x.text),.slice ka x.kids.length kc]) rfl (M.cellsL (k:=0) rfl rfl)) rfl<|Bs Aof rfl rfl (Aky x _ _ _ _ _ _ _ _ 6 M hk hl SA SK (by omega))<|?_;clear M;rintro _ w M ⟨r2,rfl,hr2⟩
 have hir2:=hr2.hi;have lor2:=hr2.lo;refine Ab rfl<|Ag<|Ac<|Aa rfl<|Da rfl rfl<|Ap rfl ?_ ?_
 ·intro h3b;have h3:=dT h3b;refine Ac<|Ab rfl<|Ae<|Ad rfl rfl<|?_
  exact ⟨M.weaken dS1,by rw [hr2.cntF.1 (by omega)];rfl⟩
 intro h4b;have h4:=dF h4b;refine Aq<|Ac<|Aa rfl<|Ab rfl<|Ae<|Ad rfl rfl<|?_
 exact ⟨M.weaken dS1,by rw [hr2.cntF.2 (by omega)]⟩
theorem Ml (M:Mem w0 G L w) {x:NT} {ta:Option Addr} {tc:Nat} {ka:Option Addr} {kc:Nat} (hk:Bb .u8 x.kind) (hl:(x.tag.length≤9223372036854775807∧x.key.length≤9223372036854775807∧x.text.length≤9223372036854775807)) (SA:Au Fc 2 G (.slice ta x.as.length tc) x.as) (SK:Au rdN 6 G (.slice ka x.kids.length kc) x.kids):Calls Tryz.prog 152 #[.agg #[.int .u8 x.kind,.string (str x.tag),.string (str x.key),.slice ta x.as.length tc,.string (str x.text),.slice ka x.kids.length kc]] w (Cs w0 G L fun v=>v=.int .i64 (Qu x)):=by
 refine Ay (vs:=[_]) Tryz.func152 rfl (n:=6) rfl rfl<|Ac<|Cz M rfl rfl rfl<|?_;clear M;intro b1 w M
 refine Ab rfl<|Ag<|Ac<|Ar (fun a F=>Af Av rfl (F.ev rfl) (cs:=[.int .u8 x.kind,.string (str x.tag),.string (str x.key),.slice ta x.as.length tc,.string (str x.text),.slice ka x.kids.length kc]) rfl (M.cellsL (k:=0) rfl rfl)) rfl<|Bs Aok rfl rfl (Re (x:=x) M hk hl SA SK)<|?_;clear M;rintro _ w M rfl
 refine C3 rfl rfl<|Ap rfl ?_ ?_
 ·intro h2b;have h2:=dT h2b;refine Ac<|Ab rfl<|Ae<|Ad rfl rfl<|?_
  exact ⟨M.weaken dS1,by rw [Agr fun h_=>by have:=Mx.2 h_;omega]⟩
 intro h3b;have h3:=dF h3b;refine Aq<|Ac<|Ab rfl<|Ae<|Ad rfl rfl<|?_
 exact ⟨M.weaken dS1,by rw [Pw (Mx.1 (by omega))]⟩
end Go.Proofs.YtmmhmcplegpenaaGreatDoor.T
