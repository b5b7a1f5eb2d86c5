/- The walks, part TB. · The walks, part TC. · Templates: slots, valid parts; what a walk over all parts does. · The walks, part TD. · The walks, part TE. · The walks, part TH. · The walks, part TI. · The walks, part TJ. · The walks, part TK. · The walks, part TL. · The walks, part TM. -/
import Derived.Test.YtmmhmcplegpenaaGreatDoorJ1
set_option linter.unusedSimpArgs false
set_option linter.unusedVariables false
set_option maxRecDepth 10000
namespace Go.Proofs.YtmmhmcplegpenaaGreatDoor.T
open Go Go.Y Go.Proofs
variable {w0 w:World} {G:Av} {L:List Res}
theorem Vt {w0 w:World} {G:Av} {L:List Res} {b:Nat} {x d:NT} {ta ka tad kad:Option Addr} {tc kc tcd kcd:Nat} (M:Mem w0 G (.blk b [.int .u8 x.kind,.string (str x.tag),.string (str x.key),.slice ta x.as.length tc,.string (str x.text),.slice ka x.kids.length kc] 193::L) w) :
  Calls Tryz.prog 239 #[.agg #[.int .u8 d.kind,.string (str d.tag),.string (str d.key),.slice tad d.as.length tcd,.string (str d.text),.slice kad d.kids.length kcd],.pointer (some ⟨b,0,none⟩)] w (B5 w0 G (.blk b [.int .u8 x.kind,.string (str x.tag),.string (str x.key),.slice ta x.as.length tc,.string (str x.text),.slice ka x.kids.length kc] 193::L) fun v=>v=.bool (decide (d.key=x.key))):=by
 refine Az (vs:=[_,_]) Tryz.func239 rfl (n:=9) rfl rfl<|Ad<|G4 M rfl rfl rfl<|?_;clear M;intro b1 w M
 refine Ab rfl<|Ad<|A9 Ba.k rfl rfl<|Bl A6 M 0 rfl rfl rfl rfl<|A9 Ba.k rfl rfl<|Bl A6 M 1 rfl rfl rfl rfl<|Kd rfl rfl<|Ab rfl<|Al<|Ak rfl rfl<|?_
 exact ⟨M.weaken (cN (cC (sR _))),by simp⟩
theorem Ox {w0 w:World} {G:Av} {L:List Res} {b:Nat} {x:NT} {ta ka:Option Addr} {tc kc:Nat} (M:Mem w0 G (.blk b [.int .u8 x.kind,.string (str x.tag),.string (str x.key),.slice ta x.as.length tc,.string (str x.text),.slice ka x.kids.length kc] 193::L) w) {ks:List NT} {kad:Option Addr} {kcd:Nat} (S:A8 rdN 6 G (.slice kad ks.length kcd) ks) (hks:ks.length≤9223372036854775807) :
  Calls Tryz.prog 242 #[.slice kad ks.length kcd,.func (.func 239) #[] #[.pointer (some ⟨b,0,none⟩)]] w (B5 w0 G (.blk b [.int .u8 x.kind,.string (str x.tag),.string (str x.key),.slice ta x.as.length tc,.string (str x.text),.slice ka x.kids.length kc] 193::L) fun v=>∃ z:Int,v=.int .i64 z∧(0≤z↔Qf ks x.key)):=by
 refine Az (vs:=[_,_]) Tryz.func242 rfl (n:=19) rfl rfl<|Ad<|Ab rfl<|Ai<|Ad<|Aa rfl<|Cf Ci.k rfl<|Aa rfl<|Ar<|fun a F=>Bi (fun m a' w'=>∃ (i:Nat),m=ks.length - i∧Fits 19 a' [(0,.slice kad ks.length kcd),(1,.func (.func 239) #[] #[.pointer (some ⟨b,0,none⟩)]),(7,.int .i64 ((ks.length:Nat):Int)),(8,.int .i64 ((i:Nat):Int))]∧Mem w0 G (.blk b [.int .u8 x.kind,.string (str x.tag),.string (str x.key),.slice ta x.as.length tc,.string (str x.text),.slice ka x.kids.length kc] 193::L) w'∧(i≤ks.length)∧(∀ (m:Nat) (d:NT),m < i→ks[m]?=some d→d.key≠x.key)) _ ⟨0,rfl,F.to ⟨rfl,rfl,rfl,rfl,trivial⟩,M,Nat.zero_le _,fun m d h=>by omega⟩ ?_
 clear F M;rintro m a w ⟨i,rfl,F,M,hi,hA⟩;revert a;refine Ad<|Co rfl rfl<|Ai<|qD rfl ?_ ?_
 ·intro h1;refine Ao<|Ai<|Ar<|Ad<|Aa rfl<|Ab rfl<|Ad<|Aa rfl<|Aa rfl<|Aa rfl<|?_
  obtain ⟨Xe2,hXe2⟩:=A0 (xs:=ks) (i:=i) (by omega);obtain ⟨be2,oe2,_,Ie2,_,Ae2,hTe2⟩:=S.at hXe2;obtain ⟨tae2,tce2,kae2,kce2,rfl,hke2,hle2,SAe2,SKe2⟩:=Gu hTe2;refine Db Ci.k Ba Ie2 rfl rfl<|Aq (fun a F=>Bj Ba rfl (F.ev rfl) (cs:=[.int .u8 Xe2.kind,.string (str Xe2.tag),.string (str Xe2.key),.slice tae2 Xe2.as.length tce2,.string (str Xe2.text),.slice kae2 Xe2.kids.length kce2]) rfl (M.cellsA Ae2 0 (by omega) rfl)) rfl<|?_
  change Mem w0 G (_::L) _ at M;refine Si ent239 (caps:=[.pointer (some ⟨b,0,none⟩)]) rfl rfl rfl (Vt (x:=x) (d:=Xe2) M)<|?_;clear M;rintro _ w M rfl
  refine qD rfl ?_ ?_
  ·intro h3;refine Ad<|Aa rfl<|Ab rfl<|Al<|Ak rfl rfl<|?_
   exact ⟨M,_,rfl,⟨fun _=>⟨_,List.mem_of_getElem? hXe2,by assumption⟩,fun _=>by omega⟩⟩
  intro h4;refine Ao<|Aw<|Bw rfl rfl<|Aa rfl<|Au<|Ch<|fun a F=>?_
  exact ⟨_,by omega,i+1,rfl,F.to ⟨rfl,rfl,rfl,rfl,trivial⟩,M,by omega,fun m d hm hd=>by rcases Nat.eq_or_lt_of_le (show m≤i by omega) with e | e;(subst e;rw [hXe2] at hd;simp only [Option.some.injEq] at hd;subst hd;assumption);exact hA m d e hd⟩
 intro h5;refine Br<|Bu<|Bu<|C6<|Ad<|Ab rfl<|Al<|Ak rfl rfl<|?_
 exact ⟨M,_,rfl,⟨fun h=>by omega,fun ⟨d,hd,he⟩=>by obtain ⟨m,hm⟩:=List.mem_iff_getElem?.1 hd;exact absurd he (hA m d (by have:=Bm hm;omega) hm)⟩⟩
theorem Tn {w0 w:World} {G:Av} {L:List Res} {b:Nat} {x:NT} {ta ka:Option Addr} {tc kc:Nat} (M:Mem w0 G (.blk b [.int .u8 x.kind,.string (str x.tag),.string (str x.key),.slice ta x.as.length tc,.string (str x.text),.slice ka x.kids.length kc] 193::L) w) {ks:List NT} {kad:Option Addr} {kcd:Nat} (S:A8 rdN 6 G (.slice kad ks.length kcd) ks) (hks:ks.length≤9223372036854775807) :
  Calls Tryz.prog 238 #[.slice kad ks.length kcd,.func (.func 239) #[] #[.pointer (some ⟨b,0,none⟩)]] w (B5 w0 G (.blk b [.int .u8 x.kind,.string (str x.tag),.string (str x.key),.slice ta x.as.length tc,.string (str x.text),.slice ka x.kids.length kc] 193::L) fun v=>∃ bb:Bool,v=.bool bb∧(bb=true↔Qf ks x.key)):=by
 refine Az (vs:=[_,_]) Tryz.func238 rfl (n:=9) rfl rfl<|Ad<|Ab rfl<|Ad<|Aa rfl<|Aa rfl<|?_
 change Mem w0 G (_::L) _ at M;refine Bc ent242 rfl rfl (Ox (x:=x) (ks:=ks) M S (by omega))<|?_;clear M;rintro _ w M ⟨z1,rfl,hz1⟩
 refine Jc rfl rfl<|Ab rfl<|Al<|Ak rfl rfl<|?_
 exact ⟨M,_,rfl,decide_eq_true_iff.trans hz1⟩
theorem Tp (M:Mem w0 G L w) {x:NT} {ta:Option Addr} {tc:Nat} {ka:Option Addr} {kc:Nat} (hk:Bh .u8 x.kind) (hl:(x.tag.length≤9223372036854775807∧x.key.length≤9223372036854775807∧x.text.length≤9223372036854775807)) (SA:A8 Fb 2 G (.slice ta x.as.length tc) x.as) (SK:A8 rdN 6 G (.slice ka x.kids.length kc) x.kids) {nb no:Nat} (A:At G nb no [.int .u8 x.kind,.string (str x.tag),.string (str x.key),.slice ta x.as.length tc,.string (str x.text),.slice ka x.kids.length kc]):Calls Tryz.prog 233 #[.pointer (some ⟨nb,no,none⟩)] w (B5 w0 G L fun v=>∃ bb:Bool,v=.bool bb∧(bb=true↔Fi x)):=by
 refine Az (vs:=[_]) Tryz.func233 rfl (n:=161) rfl rfl<|Ad<|Ab rfl<|Ai<|Ad<|Aa rfl<|Fj rfl<|A9 Ba.k rfl rfl<|Dm Cz M A 0 rfl rfl rfl rfl<|C2 rfl rfl<|qD rfl ?_ ?_
 ·intro h1;refine Ad<|Aa rfl<|Fj rfl<|A9 Ba.k rfl rfl<|Dm A6 M A 4 rfl rfl rfl rfl<|Bc Yf rfl rfl (Ju (s:=x.text) M (by omega))<|?_;clear M;rintro _ w M ⟨b2,rfl,hb2⟩
  refine Aa rfl<|?_
  rcases bE (b2) with h3b | h10b
  ·skip
   have h3:(b2)=true:=h3b;refine g_t rfl h3b<|Aa rfl<|g_t rfl h3b<|Fj rfl<|g_t rfl h3b<|A9 Ba.k rfl rfl<|g_t rfl h3b<|Dm A6 M A 1 rfl rfl rfl rfl<|g_t rfl h3b<|Kd rfl rfl<|A7 rfl h3b rfl<|Aa rfl<|?_
   rcases bE (decide (x.tag=([]:List UInt8))) with h4b | h9b
   ·skip
    have h4:=dT h4b;refine g_t rfl h4b<|Aa rfl<|g_t rfl h4b<|Fj rfl<|g_t rfl h4b<|A9 Ba.k rfl rfl<|g_t rfl h4b<|Dm A6 M A 2 rfl rfl rfl rfl<|g_t rfl h4b<|Kd rfl rfl<|A7 rfl h4b rfl<|Aa rfl<|?_
    rcases bE (decide (x.key=([]:List UInt8))) with h5b | h8b
    ·skip
     have h5:=dT h5b;refine g_t rfl h5b<|Aa rfl<|g_t rfl h5b<|Fj rfl<|g_t rfl h5b<|A9 Ba.k rfl rfl<|g_t rfl h5b<|Dm C0 M A 3 rfl rfl rfl rfl<|g_t rfl h5b<|Cf C0.k rfl<|g_t rfl h5b<|C2 rfl rfl<|A7 rfl h5b rfl<|Aa rfl<|?_
     rcases bE (decide (((x.as.length:Nat):Int)=0)) with h6b | h7b
     ·skip
      have h6:=dT h6b;refine g_t rfl h6b<|Aa rfl<|g_t rfl h6b<|Fj rfl<|g_t rfl h6b<|A9 Ba.k rfl rfl<|g_t rfl h6b<|Dm Ci M A 5 rfl rfl rfl rfl<|g_t rfl h6b<|Cf Ci.k rfl<|g_t rfl h6b<|C2 rfl rfl<|A7 rfl h6b rfl<|Ab rfl<|Al<|Ak rfl rfl<|?_
      exact ⟨M,(decide (((x.kids.length:Nat):Int)=0)),rfl,(by rw [C9 (by assumption)];clear M;grind)⟩
     have h7:=dF h7b;refine g_f rfl h7b<|g_f rfl h7b<|g_f rfl h7b<|g_f rfl h7b<|g_f rfl h7b<|g_f rfl h7b<|A1 rfl h7b rfl<|Ab rfl<|Al<|Ak rfl rfl<|?_
     exact ⟨M,false,rfl,(by rw [C9 (by assumption)];clear M;grind)⟩
    have h8:=dF h8b;refine g_f rfl h8b<|g_f rfl h8b<|g_f rfl h8b<|g_f rfl h8b<|g_f rfl h8b<|g_f rfl h8b<|A1 rfl h8b rfl<|Aa rfl<|g_f rfl rfl<|g_f rfl rfl<|g_f rfl rfl<|g_f rfl rfl<|g_f rfl rfl<|g_f rfl rfl<|A1 rfl rfl rfl<|Ab rfl<|Al<|Ak rfl rfl<|?_
    exact ⟨M,false,rfl,(by rw [C9 (by assumption)];clear M;grind)⟩
   have h9:=dF h9b;refine g_f rfl h9b<|g_f rfl h9b<|g_f rfl h9b<|g_f rfl h9b<|g_f rfl h9b<|A1 rfl h9b rfl<|Aa rfl<|g_f rfl rfl<|g_f rfl rfl<|g_f rfl rfl<|g_f rfl rfl<|g_f rfl rfl<|g_f rfl rfl<|A1 rfl rfl rfl<|Aa rfl<|g_f rfl rfl<|g_f rfl rfl<|g_f rfl rfl<|g_f rfl rfl<|g_f rfl rfl<|g_f rfl rfl<|A1 rfl rfl rfl<|Ab rfl<|Au<|?_
   refine Al<|Ak rfl rfl<|?_
   exact ⟨M,false,rfl,(by rw [C9 (by assumption)];clear M;grind)⟩
  have h10:(b2)=false:=h10b;refine g_f rfl h10b<|g_f rfl h10b<|g_f rfl h10b<|g_f rfl h10b<|g_f rfl h10b<|A1 rfl h10b rfl<|Aa rfl<|g_f rfl rfl<|g_f rfl rfl<|g_f rfl rfl<|g_f rfl rfl<|g_f rfl rfl<|A1 rfl rfl rfl<|Aa rfl<|g_f rfl rfl<|g_f rfl rfl<|g_f rfl rfl<|g_f rfl rfl<|g_f rfl rfl<|g_f rfl rfl<|A1 rfl rfl rfl<|Aa rfl<|g_f rfl rfl<|g_f rfl rfl<|?_
  refine g_f rfl rfl<|g_f rfl rfl<|g_f rfl rfl<|g_f rfl rfl<|A1 rfl rfl rfl<|Ab rfl<|Al<|Ak rfl rfl<|?_
  exact ⟨M,false,rfl,(by rw [C9 (by assumption)];clear M;grind)⟩
 intro h11;refine Ao<|Ai<|Ai<|fun a F=>Ma (fun a' w'=>∃ (bb:Bool),Fits 161 a' [(0,.pointer (some ⟨nb,no,none⟩)),(97,.bool bb)]∧Mem w0 G (L) w'∧(bb=true↔¬ Gn x)) ?_ ?_
 ·skip
  revert a;refine Aw<|Aa rfl<|Fj rfl<|A9 Ba.k rfl rfl<|Dm Cz M A 0 rfl rfl rfl rfl<|Df rfl rfl<|Aa rfl<|?_
  rcases bE (!(decide (x.kind=1))) with h12b | h13b
  ·skip
   have h12:=dF (Ag h12b);have h12c:(decide (x.kind=1))=false:=(Ag h12b);refine g_f rfl (Aj h12c)<|g_f rfl (Aj h12c)<|g_f rfl (Aj h12c)<|g_f rfl (Aj h12c)<|g_f rfl (Aj h12c)<|g_f rfl (Aj h12c)<|A7 rfl (Aj h12c) rfl<|Aa rfl<|g_f rfl rfl<|g_f rfl rfl<|g_f rfl rfl<|g_f rfl rfl<|g_f rfl rfl<|g_f rfl rfl<|g_u rfl<|g_u rfl<|g_u rfl<|g_u rfl<|g_u rfl<|g_u rfl<|g_f rfl rfl<|A7 rfl rfl rfl<|Aa rfl<|g_f rfl rfl<|?_
   refine g_f rfl rfl<|g_f rfl rfl<|g_f rfl rfl<|g_f rfl rfl<|A7 rfl rfl rfl<|Aa rfl<|g_f rfl rfl<|g_f rfl rfl<|g_f rfl rfl<|g_f rfl rfl<|g_f rfl rfl<|g_f rfl rfl<|A7 rfl rfl rfl<|Aa rfl<|g_f rfl rfl<|g_f rfl rfl<|g_f rfl rfl<|g_f rfl rfl<|g_f rfl rfl<|g_f rfl rfl<|A7 rfl rfl rfl<|Au<|fun a F=>?_
   exact ⟨true,F.to ⟨rfl,rfl,trivial⟩,M,by unfold Gn;clear F M;grind⟩
  have h13:=dT (Ah h13b);have h13c:(decide (x.kind=1))=true:=(Ah h13b);refine g_t rfl (Ac h13c)<|Aa rfl<|g_t rfl (Ac h13c)<|Fj rfl<|g_t rfl (Ac h13c)<|A9 Ba.k rfl rfl<|g_t rfl (Ac h13c)<|Dm A6 M A 1 rfl rfl rfl rfl<|g_t rfl (Ac h13c)<|Bc Tj rfl rfl (It (s:=x.tag) M (by omega))<|?_;clear M;rintro _ w M ⟨b14,rfl,hb14⟩
  refine g_t rfl (Ac h13c)<|Cu rfl<|A1 rfl (Ac h13c) rfl<|Aa rfl<|?_
  rcases bE (!(b14)) with h15b | h16b
  ·skip
   have h15:=Ag h15b;have h15c:(b14)=false:=(Ag h15b);refine g_f rfl (Aj h15c)<|g_f rfl (Aj h15c)<|g_f rfl (Aj h15c)<|g_f rfl (Aj h15c)<|g_f rfl (Aj h15c)<|g_f rfl (Aj h15c)<|g_u rfl<|g_u rfl<|g_u rfl<|g_u rfl<|g_u rfl<|g_u rfl<|g_f rfl (Aj h15c)<|A7 rfl (Aj h15c) rfl<|Aa rfl<|g_f rfl rfl<|g_f rfl rfl<|g_f rfl rfl<|g_f rfl rfl<|g_f rfl rfl<|A7 rfl rfl rfl<|Aa rfl<|g_f rfl rfl<|g_f rfl rfl<|?_
   refine g_f rfl rfl<|g_f rfl rfl<|g_f rfl rfl<|g_f rfl rfl<|A7 rfl rfl rfl<|Aa rfl<|g_f rfl rfl<|g_f rfl rfl<|g_f rfl rfl<|g_f rfl rfl<|g_f rfl rfl<|g_f rfl rfl<|A7 rfl rfl rfl<|Au<|fun a F=>?_
   exact ⟨true,F.to ⟨rfl,rfl,trivial⟩,M,by unfold Gn;clear F M;grind⟩
  have h16:=Ah h16b;have h16c:(b14)=true:=(Ah h16b);refine g_t rfl (Ac h16c)<|Aa rfl<|g_t rfl (Ac h16c)<|Fj rfl<|g_t rfl (Ac h16c)<|A9 Ba.k rfl rfl<|g_t rfl (Ac h16c)<|Dm A6 M A 2 rfl rfl rfl rfl<|g_t rfl (Ac h16c)<|F1 rfl rfl<|g_t rfl (Ac h16c)<|Aa rfl<|?_
  rcases bE (!(decide (x.key=([]:List UInt8)))) with h17b | h25b
  ·skip
   have h17:=dF (Ag h17b);have h17c:(decide (x.key=([]:List UInt8)))=false:=(Ag h17b);refine g_t rfl (Aj h17c)<|Aa rfl<|g_t rfl (Aj h17c)<|Fj rfl<|g_t rfl (Aj h17c)<|A9 Ba.k rfl rfl<|g_t rfl (Aj h17c)<|Dm A6 M A 2 rfl rfl rfl rfl<|g_t rfl (Aj h17c)<|Bc Tj rfl rfl (It (s:=x.key) M (by omega))<|?_;clear M;rintro _ w M ⟨b18,rfl,hb18⟩
   refine g_t rfl (Aj h17c)<|Cu rfl<|g_t rfl (Ac h16c)<|A7 rfl (Aj h17c) rfl<|A1 rfl (Ac h16c) rfl<|Aa rfl<|?_
   rcases bE (!(b18)) with h19b | h20b
   ·skip
    have h19:=Ag h19b;have h19c:(b18)=false:=(Ag h19b);refine g_f rfl (Aj h19c)<|g_f rfl (Aj h19c)<|g_f rfl (Aj h19c)<|g_f rfl (Aj h19c)<|g_f rfl (Aj h19c)<|A7 rfl (Aj h19c) rfl<|Aa rfl<|g_f rfl rfl<|g_f rfl rfl<|g_f rfl rfl<|g_f rfl rfl<|g_f rfl rfl<|g_f rfl rfl<|A7 rfl rfl rfl<|Aa rfl<|g_f rfl rfl<|g_f rfl rfl<|g_f rfl rfl<|g_f rfl rfl<|g_f rfl rfl<|g_f rfl rfl<|A7 rfl rfl rfl<|Au<|fun a F=>?_
    exact ⟨true,F.to ⟨rfl,rfl,trivial⟩,M,by unfold Gn;clear F M;grind⟩
   have h20:=Ah h20b;have h20c:(b18)=true:=(Ah h20b);refine g_t rfl (Ac h20c)<|Aa rfl<|g_t rfl (Ac h20c)<|Fj rfl<|g_t rfl (Ac h20c)<|A9 Ba.k rfl rfl<|g_t rfl (Ac h20c)<|Dm A6 M A 4 rfl rfl rfl rfl<|g_t rfl (Ac h20c)<|F1 rfl rfl<|A1 rfl (Ac h20c) rfl<|Aa rfl<|?_
   rcases bE (!(decide (x.text=([]:List UInt8)))) with h21b | h22b
   ·skip
    have h21:=dF (Ag h21b);have h21c:(decide (x.text=([]:List UInt8)))=false:=(Ag h21b);refine g_f rfl (Aj h21c)<|g_f rfl (Aj h21c)<|g_f rfl (Aj h21c)<|g_f rfl (Aj h21c)<|g_f rfl (Aj h21c)<|g_f rfl (Aj h21c)<|A7 rfl (Aj h21c) rfl<|Aa rfl<|g_f rfl rfl<|g_f rfl rfl<|g_f rfl rfl<|g_f rfl rfl<|g_f rfl rfl<|g_f rfl rfl<|A7 rfl rfl rfl<|Au<|fun a F=>?_
    exact ⟨true,F.to ⟨rfl,rfl,trivial⟩,M,by unfold Gn;clear F M;grind⟩
   have h22:=dT (Ah h22b);have h22c:(decide (x.text=([]:List UInt8)))=true:=(Ah h22b);refine g_t rfl (Ac h22c)<|Aa rfl<|g_t rfl (Ac h22c)<|Fj rfl<|g_t rfl (Ac h22c)<|A9 Ba.k rfl rfl<|g_t rfl (Ac h22c)<|Dm C0 M A 3 rfl rfl rfl rfl<|g_t rfl (Ac h22c)<|Cf C0.k rfl<|g_t rfl (Ac h22c)<|C5 rfl rfl<|A1 rfl (Ac h22c) rfl<|Aa rfl<|?_
   rcases bE (decide (8 < ((x.as.length:Nat):Int))) with h23b | h24b
   ·skip
    have h23:=dT h23b;refine g_f rfl h23b<|g_f rfl h23b<|g_f rfl h23b<|g_f rfl h23b<|g_f rfl h23b<|g_f rfl h23b<|A7 rfl h23b rfl<|Au<|fun a F=>?_
    exact ⟨true,F.to ⟨rfl,rfl,trivial⟩,M,by unfold Gn;clear F M;grind⟩
   have h24:=dF h24b;refine g_t rfl h24b<|Aa rfl<|g_t rfl h24b<|Fj rfl<|g_t rfl h24b<|A9 Ba.k rfl rfl<|g_t rfl h24b<|Dm Ci M A 5 rfl rfl rfl rfl<|g_t rfl h24b<|Cf Ci.k rfl<|g_t rfl h24b<|C5 rfl rfl<|A1 rfl h24b rfl<|Au<|fun a F=>?_
   exact ⟨(decide (16 < ((x.kids.length:Nat):Int))),F.to ⟨rfl,rfl,trivial⟩,M,by unfold Gn;clear F M;grind⟩
  have h25:=dT (Ah h25b);have h25c:(decide (x.key=([]:List UInt8)))=true:=(Ah h25b);refine g_f rfl (Ac h25c)<|g_f rfl (Ac h25c)<|g_f rfl (Ac h25c)<|g_f rfl (Ac h25c)<|g_f rfl (Ac h25c)<|g_f rfl (Ac h25c)<|g_t rfl (Ac h16c)<|A1 rfl (Ac h25c) rfl<|A1 rfl (Ac h16c) rfl<|Aa rfl<|g_t rfl rfl<|Aa rfl<|g_t rfl rfl<|Fj rfl<|g_t rfl rfl<|A9 Ba.k rfl rfl<|g_t rfl rfl<|Dm A6 M A 4 rfl rfl rfl rfl<|g_t rfl rfl<|F1 rfl rfl<|A1 rfl rfl rfl<|Aa rfl<|?_
  rcases bE (!(decide (x.text=([]:List UInt8)))) with h26b | h27b
  ·skip
   have h26:=dF (Ag h26b);have h26c:(decide (x.text=([]:List UInt8)))=false:=(Ag h26b);refine g_f rfl (Aj h26c)<|g_f rfl (Aj h26c)<|g_f rfl (Aj h26c)<|g_f rfl (Aj h26c)<|g_f rfl (Aj h26c)<|g_f rfl (Aj h26c)<|A7 rfl (Aj h26c) rfl<|Aa rfl<|g_f rfl rfl<|g_f rfl rfl<|g_f rfl rfl<|g_f rfl rfl<|g_f rfl rfl<|g_f rfl rfl<|A7 rfl rfl rfl<|Au<|fun a F=>?_
   exact ⟨true,F.to ⟨rfl,rfl,trivial⟩,M,by unfold Gn;clear F M;grind⟩
  have h27:=dT (Ah h27b);have h27c:(decide (x.text=([]:List UInt8)))=true:=(Ah h27b);refine g_t rfl (Ac h27c)<|Aa rfl<|g_t rfl (Ac h27c)<|Fj rfl<|g_t rfl (Ac h27c)<|A9 Ba.k rfl rfl<|g_t rfl (Ac h27c)<|Dm C0 M A 3 rfl rfl rfl rfl<|g_t rfl (Ac h27c)<|Cf C0.k rfl<|g_t rfl (Ac h27c)<|C5 rfl rfl<|A1 rfl (Ac h27c) rfl<|Aa rfl<|?_
  rcases bE (decide (8 < ((x.as.length:Nat):Int))) with h28b | h29b
  ·skip
   have h28:=dT h28b;refine g_f rfl h28b<|g_f rfl h28b<|g_f rfl h28b<|g_f rfl h28b<|g_f rfl h28b<|g_f rfl h28b<|A7 rfl h28b rfl<|Au<|fun a F=>?_
   exact ⟨true,F.to ⟨rfl,rfl,trivial⟩,M,by unfold Gn;clear F M;grind⟩
  have h29:=dF h29b;refine g_t rfl h29b<|Aa rfl<|g_t rfl h29b<|Fj rfl<|g_t rfl h29b<|A9 Ba.k rfl rfl<|g_t rfl h29b<|Dm Ci M A 5 rfl rfl rfl rfl<|g_t rfl h29b<|Cf Ci.k rfl<|g_t rfl h29b<|C5 rfl rfl<|A1 rfl h29b rfl<|Au<|fun a F=>?_
  exact ⟨(decide (16 < ((x.kids.length:Nat):Int))),F.to ⟨rfl,rfl,trivial⟩,M,by unfold Gn;clear F M;grind⟩
 clear F M;rintro a w ⟨bb,F,M,hbb⟩;revert a;refine Ap rfl ?_ ?_
 ·intro h30b;have h30:(bb)=true:=h30b;refine Ad<|Ab rfl<|Al<|Ak rfl rfl<|?_
  exact ⟨M,false,rfl,(by rw [C7 (by assumption)];have q99:=@Iz;clear M;grind)⟩
 intro h31b;have h31:(bb)=false:=h31b;refine Ao<|Ai<|Ai<|?_
 have hE:Gn x:=by clear M;grind
 obtain ⟨hE1,hE2,hE3,hE4,hE5,hE6⟩:=id hE;refine Aw<|Aa rfl<|Fj rfl<|A9 Ba.k rfl rfl<|Dm C0 M A 3 rfl rfl rfl rfl<|Cf C0.k rfl<|Aa rfl<|Ar<|fun a F=>Bi (fun m a' w'=>∃ (i:Nat),m=x.as.length - i∧Fits 161 a' [(0,.pointer (some ⟨nb,no,none⟩)),(101,.slice ta x.as.length tc),(102,.int .i64 ((x.as.length:Nat):Int)),(103,.int .i64 ((i:Nat):Int))]∧Mem w0 G (L) w'∧(i≤x.as.length)∧(Fg x.as i)) _ ⟨0,rfl,F.to ⟨rfl,rfl,rfl,rfl,trivial⟩,M,Nat.zero_le _,Fg.zero _⟩ ?_
 clear F M;rintro m a w ⟨i,rfl,F,M,hi,hA⟩;revert a;refine Ad<|Co rfl rfl<|Ai<|qD rfl ?_ ?_
 ·intro h32;refine Ao<|Ai<|Ar<|Ad<|Aa rfl<|?_
  obtain ⟨Xe33,hXe33⟩:=A0 (xs:=x.as) (i:=i) (by omega);obtain ⟨be33,oe33,_,Ie33,_,Ae33,⟨rfl,hn1e33,hv1e33⟩⟩:=SA.at hXe33;refine Db C0.k Dx Ie33 rfl rfl<|Aq (fun a F=>Bj Dx rfl (F.ev rfl) (cs:=[.string (str Xe33.n),.string (str Xe33.v)]) rfl (M.cellsA Ae33 0 (by omega) rfl)) rfl<|Dy M Dx rfl rfl<|?_;clear M;intro b34 w M
  refine Ab rfl<|fun a F=>?_
  refine Di F M Dx 0 ?_;clear F M a;intro w a M F;revert a;refine Ai<|fun a F=>Gh [(.free,0),(.pure,1),(.keep,2),(.free,3),(.free,4),(.free,5),(.pure,6),(.keep,7),(.free,8),(.free,9),(.free,10),(.free,11),(.free,12),(.free,13),(.free,14),(.pure,15),(.free,16),(.free,17),(.free,18),(.pure,19),(.free,20),(.free,21),(.free,22),(.free,23),(.pure,24),(.free,25),(.free,26),(.free,27)] [] (Keep G [.blk b34 [.string (str Xe33.n),.string (str Xe33.v)] 282]) rfl (by kernel_rfl) (fun c a d v w h=>by cases d <;> exact h) (Bx (M.drew _)) ?_
  replace M:=M.drew (w.drawn+1);revert a;refine fFa Dx.k rfl rfl<|pLd A6 0 rfl rfl rfl rfl<|k_k rfl<|Bc Tj rfl rfl (It (s:=Xe33.n) M (by omega))<|?_;clear M;rintro _ w M ⟨b36,rfl,hb36⟩
  refine eQ (Bx M)<|k_f (fun a F w _=>Hb (F.ev rfl)) rfl<|fMv rfl<|?_
  rcases bE (!(b36)) with h37b | h38b
  ·skip
   have h37:=Ag h37b;have h37c:(b36)=false:=(Ag h37b);refine k_s rfl (Aj h37c)<|k_s rfl (Aj h37c)<|k_s rfl (Aj h37c)<|k_s rfl (Aj h37c)<|k_f (fun a F w _=>L8 F rfl (Aj h37c) rfl) rfl<|fMv rfl<|k_s rfl rfl<|k_s rfl rfl<|k_s rfl rfl<|k_u rfl<|k_u rfl<|k_u rfl<|k_u rfl<|k_u rfl<|k_u rfl<|k_u rfl<|k_u rfl<|k_u rfl<|k_u rfl<|k_u rfl<|k_u rfl<|k_s rfl rfl<|k_f (fun a F w _=>L8 F rfl rfl rfl) rfl<|Fm<|?_
   refine Bz rfl rfl<|Ad<|Ab rfl<|Al<|Ak rfl rfl<|?_
   exact ⟨(M.weaken (cN (sR _))),false,rfl,(by rw [C7 (by assumption)];have q0:=E9 hXe33;have q99:=@Iz;clear M;grind)⟩
  have h38:=Ah h38b;have h38c:(b36)=true:=(Ah h38b);refine F4 rfl (Ac h38c) (fun a F w _=>Kv Dx.k rfl F rfl)<|Re rfl (Ac h38c) (fun a F w M=>Bk (agf A6 rfl) (F.ev rfl) (M.cellL (k:=0) rfl rfl))<|fun a F=>Hs F rfl rfl (Ac h38c) ?_
  revert a;refine g_t rfl (Ac h38c)<|Bc Yf rfl rfl (Ju (s:=Xe33.v) M (by omega))<|?_;clear M;rintro _ w M ⟨b39,rfl,hb39⟩
  refine eQ (Bx M)<|F4 rfl (Ac h38c) (fun a F w _=>Hb (F.ev rfl))<|k_f (fun a F w _=>Ih F rfl (Ac h38c) rfl) rfl<|fMv rfl<|?_
  rcases bE (!(b39)) with h40b | h41b
  ·skip
   have h40:=Ag h40b;have h40c:(b39)=false:=(Ag h40b);refine k_s rfl (Aj h40c)<|k_s rfl (Aj h40c)<|k_s rfl (Aj h40c)<|k_u rfl<|k_u rfl<|k_u rfl<|k_u rfl<|k_u rfl<|k_u rfl<|k_u rfl<|k_u rfl<|k_u rfl<|k_u rfl<|k_u rfl<|k_u rfl<|k_s rfl (Aj h40c)<|k_f (fun a F w _=>L8 F rfl (Aj h40c) rfl) rfl<|Fm<|Bz rfl rfl<|Ad<|Ab rfl<|Au<|?_
   refine Al<|Ak rfl rfl<|?_
   exact ⟨(M.weaken (cN (sR _))),false,rfl,(by rw [C7 (by assumption)];have q0:=E9 hXe33;have q99:=@Iz;clear M;grind)⟩
  have h41:=Ah h41b;have h41c:(b39)=true:=(Ah h41b);refine F4 rfl (Ac h41c) (fun a F w _=>J6 F rfl)<|F4 rfl (Ac h41c) (fun a F w _=>Pm (F.ev rfl) (F.ev rfl))<|F4 rfl (Ac h41c) (fun a F w _=>J6 F rfl)<|?_
  rcases bE (decide (0 < ((i:Nat):Int))) with h42b | h47b
  ·skip
   have h42:=dT h42b;refine F4 rfl h42b (fun a F w _=>Kv Dx.k rfl F rfl)<|Re rfl h42b (fun a F w M=>Bk (agf A6 rfl) (F.ev rfl) (M.cellL (k:=0) rfl rfl))<|F4 rfl h42b (fun a F w _=>J6 F rfl)<|F4 rfl h42b (fun a F w _=>C3 (F.ev rfl))<|F4 rfl h42b (fun a F w _=>Kv Ba.k rfl F rfl)<|Re rfl h42b (fun a F w M=>Bk (agf C0 rfl) (F.ev rfl) (M.cellA A 3 rfl rfl))<|F4 rfl h42b (fun a F w _=>J6 F rfl)<|F4 rfl h42b (fun a F w _=>Mg (F.ev rfl) (F.ev rfl) (Cl (by omega) (by omega)))<|?_
   have hs43:(((i:Nat):Int) - 1:Int)=((i - 1:Nat):Int):=by omega
   intro a F;rw [hs43] at F;obtain ⟨Xe44,hXe44⟩:=A0 (xs:=x.as) (i:=i - 1) (by omega);obtain ⟨be44,oe44,_,Ie44,_,Ae44,⟨rfl,hn1e44,hv1e44⟩⟩:=SA.at hXe44;revert a;refine F4 rfl h42b (fun a F w _=>Bo C0.k Dx (F.ev rfl) (F.ev rfl) (by omega) Ie44)<|F4 rfl h42b (fun a F w _=>Kv Dx.k rfl F rfl)<|Re rfl h42b (fun a F w M=>Bk (agf A6 rfl) (F.ev rfl) (M.cellA Ae44 0 rfl rfl))<|F4 rfl h42b (fun a F w _=>Sj (F.ev rfl) (F.ev rfl))<|F4 rfl (Ac h41c) (fun a F w _=>L8 F rfl h42b rfl)<|k_f (fun a F w _=>Ih F rfl (Ac h41c) rfl) rfl<|Fm<|Ap rfl ?_ ?_
   ·intro h45b;have h45:(Op.bytesLess Xe33.n Xe44.n || Xe33.n==Xe44.n)=true:=h45b;refine Ad<|Ab rfl<|Al<|Ak rfl rfl<|?_
    exact ⟨(M.weaken (cN (sR _))),false,rfl,(by rw [C7 (by assumption)];have q0:=E9 hXe33;have q1:=fun h=>Jb hXe33 hXe44 h;have q2:=E9 hXe44;have q3:=fun h=>Jb hXe44 hXe33 h;have q99:=@Iz;clear M;grind)⟩
   intro h46b;have h46:(Op.bytesLess Xe33.n Xe44.n || Xe33.n==Xe44.n)=false:=h46b;refine Ao<|Aw<|Bw rfl rfl<|Aa rfl<|Au<|Ch<|fun a F=>?_
   exact ⟨_,by omega,i+1,rfl,F.to ⟨rfl,rfl,rfl,rfl,trivial⟩,(M.weaken (cN (sR _))),by omega,hA.step hXe33 (by clear F M;grind) (by clear F M;grind) (fun y h_ hy=>by rw [hXe44] at hy;simp only [Option.some.injEq] at hy;subst hy;clear F M;have q99:=@Iz;grind)⟩
  have h47:=dF h47b;refine k_s rfl h47b<|k_s rfl h47b<|k_s rfl h47b<|k_s rfl h47b<|k_s rfl h47b<|k_s rfl h47b<|k_s rfl h47b<|k_s rfl h47b<|k_s rfl h47b<|k_s rfl h47b<|k_s rfl h47b<|k_s rfl h47b<|F4 rfl (Ac h41c) (fun a F w _=>Ih F rfl h47b rfl)<|k_f (fun a F w _=>Ih F rfl (Ac h41c) rfl) rfl<|Fm<|Cq rfl rfl<|Ao<|Aw<|Bw rfl rfl<|Aa rfl<|Au<|?_
  refine Ch<|fun a F=>?_
  exact ⟨_,by omega,i+1,rfl,F.to ⟨rfl,rfl,rfl,rfl,trivial⟩,(M.weaken (cN (sR _))),by omega,hA.step hXe33 (by clear F M;grind) (by clear F M;grind) (fun y h_=>by omega)⟩
 intro h48;refine Br<|Bu<|Bu<|C6<|Ai<|Ad<|Aa rfl<|Fj rfl<|A9 Ba.k rfl rfl<|Dm Ci M A 5 rfl rfl rfl rfl<|Cf Ci.k rfl<|Aa rfl<|Ar<|fun a F=>Bi (fun m a' w'=>∃ (j:Nat),m=x.kids.length - j∧Fits 161 a' [(0,.pointer (some ⟨nb,no,none⟩)),(140,.slice ka x.kids.length kc),(141,.int .i64 ((x.kids.length:Nat):Int)),(142,.int .i64 ((j:Nat):Int))]∧Mem w0 G (L) w'∧(j≤x.kids.length)∧(Fh x.as)∧(D7 x.kids j)) _ ⟨0,rfl,F.to ⟨rfl,rfl,rfl,rfl,trivial⟩,M,Nat.zero_le _,hA.all (by omega),D7.zero _⟩ ?_
 clear F M;rintro m a w ⟨j,rfl,F,M,hj,hAO,hK⟩;revert a;refine Ad<|Co rfl rfl<|Ai<|qD rfl ?_ ?_
 ·intro h49;refine Ao<|Ai<|Ar<|Ad<|Aa rfl<|?_
  obtain ⟨Xe50,hXe50⟩:=A0 (xs:=x.kids) (i:=j) (by omega);obtain ⟨be50,oe50,_,Ie50,_,Ae50,hTe50⟩:=SK.at hXe50;obtain ⟨tae50,tce50,kae50,kce50,rfl,hke50,hle50,SAe50,SKe50⟩:=Gu hTe50;refine Db Ci.k Ba Ie50 rfl rfl<|Aq (fun a F=>Bj Ba rfl (F.ev rfl) (cs:=[.int .u8 Xe50.kind,.string (str Xe50.tag),.string (str Xe50.key),.slice tae50 Xe50.as.length tce50,.string (str Xe50.text),.slice kae50 Xe50.kids.length kce50]) rfl (M.cellsA Ae50 0 (by omega) rfl)) rfl<|Dy M Ba rfl rfl<|?_;clear M;intro b51 w M
  refine Ab rfl<|fun a F=>?_
  refine Di F M Ba 0 ?_;clear F M a;intro w a M F;revert a;refine Ad<|A9 Ba.k rfl rfl<|Bl A6 M 0 rfl rfl rfl rfl<|F1 rfl rfl<|Aa rfl<|?_
  rcases bE (!(decide (Xe50.key=([]:List UInt8)))) with h53b | h59b
  ·skip
   have h53:=dF (Ag h53b);have h53c:(decide (Xe50.key=([]:List UInt8)))=false:=(Ag h53b);refine g_t rfl (Aj h53c)<|Aa rfl<|g_t rfl (Aj h53c)<|Fj rfl<|g_t rfl (Aj h53c)<|A9 Ba.k rfl rfl<|g_t rfl (Aj h53c)<|Dm Ci M A 5 rfl rfl rfl rfl<|g_t rfl (Aj h53c)<|Aa rfl<|g_t rfl (Aj h53c)<|?_
   obtain ⟨as54,cs54,Is54,hms54,hcs54,Ss54⟩:=SK.partT (j) (by omega);refine Aq (fun a F=>Sl Ci.k Ba Is54 (F.ev rfl) (h:=j) (kl:=.i64) (zl:=0) rfl ⟨(F.ev rfl),by omega⟩ (by omega) (by omega)) rfl<|?_
   have hf55:j - 0=(x.kids.take (j)).length:=by rw [List.length_take];omega
   intro a F;rw [hf55] at F Ss54;revert a;refine g_t rfl (Aj h53c)<|Aq (fun a F=>D8 (vs:=#[.pointer (some ⟨b51,0,none⟩)]) (by simp only [List.map_toArray,List.map_cons,List.map_nil,F.ev (x:=.tmp 6) rfl])) rfl<|g_t rfl (Aj h53c)<|?_
   change Mem w0 G (.blk b51 [.int .u8 Xe50.kind,.string (str Xe50.tag),.string (str Xe50.key),.slice tae50 Xe50.as.length tce50,.string (str Xe50.text),.slice kae50 Xe50.kids.length kce50] 193::L) _ at M;refine Bc ent238 rfl rfl (Tn (x:=Xe50) (ks:=x.kids.take (j)) M (by have h_:=Ss54;simpa using h_) (by omega))<|?_;clear M;rintro _ w M ⟨b56,rfl,hb56⟩
   refine A7 rfl (Aj h53c) rfl<|Ap rfl ?_ ?_
   ·intro h57b;have h57:(b56)=true:=h57b;refine Ad<|Ab rfl<|Al<|Ak rfl rfl<|?_
    exact ⟨(M.weaken (cN (sR _))),false,rfl,(by rw [C7 (by assumption)];have q0:=La hXe50;have q99:=@Iz;clear M;grind)⟩
   intro h58b;have h58:(b56)=false:=h58b;refine Ao<|Aw<|Bw rfl rfl<|Aa rfl<|Au<|Ch<|fun a F=>?_
   exact ⟨_,by omega,j+1,rfl,F.to ⟨rfl,rfl,rfl,rfl,trivial⟩,(M.weaken (cN (sR _))),by omega,hAO,hK.step hXe50 (by clear F M;first | (left;assumption) | (right;exact Ln (by grind)))⟩
  have h59:=dT (Ah h59b);have h59c:(decide (Xe50.key=([]:List UInt8)))=true:=(Ah h59b);refine g_f rfl (Ac h59c)<|g_f rfl (Ac h59c)<|g_f rfl (Ac h59c)<|g_f rfl (Ac h59c)<|g_f rfl (Ac h59c)<|g_f rfl (Ac h59c)<|g_f rfl (Ac h59c)<|g_f rfl (Ac h59c)<|A1 rfl (Ac h59c) rfl<|Cq rfl rfl<|Ao<|Aw<|Bw rfl rfl<|Aa rfl<|Au<|Ch<|fun a F=>?_
  exact ⟨_,by omega,j+1,rfl,F.to ⟨rfl,rfl,rfl,rfl,trivial⟩,(M.weaken (cN (sR _))),by omega,hAO,hK.step hXe50 (by clear F M;first | (left;assumption) | (right;exact Ln (by grind)))⟩
 intro h60;refine Br<|Bu<|Bu<|C6<|Ad<|Ab rfl<|Al<|Ak rfl rfl<|?_
 exact ⟨M,true,rfl,(by rw [C7 (by assumption)];exact ⟨fun _=>⟨hE,hAO,hK.all (by omega)⟩,fun _=>rfl⟩)⟩
theorem Uy (M:Mem w0 G L w) {x:NT} {ta:Option Addr} {tc:Nat} {ka:Option Addr} {kc:Nat} (hk:Bh .u8 x.kind) (hl:(x.tag.length≤9223372036854775807∧x.key.length≤9223372036854775807∧x.text.length≤9223372036854775807)) (SA:A8 Fb 2 G (.slice ta x.as.length tc) x.as) (SK:A8 rdN 6 G (.slice ka x.kids.length kc) x.kids):Calls Tryz.prog 211 #[.agg #[.int .u8 x.kind,.string (str x.tag),.string (str x.key),.slice ta x.as.length tc,.string (str x.text),.slice ka x.kids.length kc]] w (B5 w0 G L fun v=>∃ bb:Bool,v=.bool bb∧(bb=true↔Fi x)):=by
 refine Az (vs:=[_]) Tryz.func211 rfl (n:=149) rfl rfl<|Ad<|G4 M rfl rfl rfl<|?_;clear M;intro b1 w M
 refine Ab rfl<|Ai<|Ad<|A9 Ba.k rfl rfl<|Bl Cz M 0 rfl rfl rfl rfl<|C2 rfl rfl<|qD rfl ?_ ?_
 ·intro h2;refine Ad<|A9 Ba.k rfl rfl<|Bl A6 M 0 rfl rfl rfl rfl<|Bc Yi rfl rfl (Oc (s:=x.text) M (by omega))<|?_;clear M;rintro _ w M ⟨b3,rfl,hb3⟩
  refine Aa rfl<|?_
  rcases bE (b3) with h4b | h11b
  ·skip
   have h4:(b3)=true:=h4b;refine g_t rfl h4b<|A9 Ba.k rfl rfl<|g_t rfl h4b<|Bl A6 M 0 rfl rfl rfl rfl<|g_t rfl h4b<|Kd rfl rfl<|A7 rfl h4b rfl<|Aa rfl<|?_
   rcases bE (decide (x.tag=([]:List UInt8))) with h5b | h10b
   ·skip
    have h5:=dT h5b;refine g_t rfl h5b<|A9 Ba.k rfl rfl<|g_t rfl h5b<|Bl A6 M 0 rfl rfl rfl rfl<|g_t rfl h5b<|Kd rfl rfl<|A7 rfl h5b rfl<|Aa rfl<|?_
    rcases bE (decide (x.key=([]:List UInt8))) with h6b | h9b
    ·skip
     have h6:=dT h6b;refine g_t rfl h6b<|A9 Ba.k rfl rfl<|g_t rfl h6b<|Bl C0 M 0 rfl rfl rfl rfl<|g_t rfl h6b<|Cf C0.k rfl<|g_t rfl h6b<|C2 rfl rfl<|A7 rfl h6b rfl<|Aa rfl<|?_
     rcases bE (decide (((x.as.length:Nat):Int)=0)) with h7b | h8b
     ·skip
      have h7:=dT h7b;refine g_t rfl h7b<|A9 Ba.k rfl rfl<|g_t rfl h7b<|Bl Ci M 0 rfl rfl rfl rfl<|g_t rfl h7b<|Cf Ci.k rfl<|g_t rfl h7b<|C2 rfl rfl<|A7 rfl h7b rfl<|Ab rfl<|Al<|Ak rfl rfl<|?_
      exact ⟨(M.weaken (cN (sR _))),(decide (((x.kids.length:Nat):Int)=0)),rfl,(by rw [C9 (by assumption)];clear M;grind)⟩
     have h8:=dF h8b;refine g_f rfl h8b<|g_f rfl h8b<|g_f rfl h8b<|g_f rfl h8b<|A1 rfl h8b rfl<|Ab rfl<|Al<|Ak rfl rfl<|?_
     exact ⟨(M.weaken (cN (sR _))),false,rfl,(by rw [C9 (by assumption)];clear M;grind)⟩
    have h9:=dF h9b;refine g_f rfl h9b<|g_f rfl h9b<|g_f rfl h9b<|g_f rfl h9b<|A1 rfl h9b rfl<|Aa rfl<|g_f rfl rfl<|g_f rfl rfl<|g_f rfl rfl<|g_f rfl rfl<|A1 rfl rfl rfl<|Ab rfl<|Al<|Ak rfl rfl<|?_
    exact ⟨(M.weaken (cN (sR _))),false,rfl,(by rw [C9 (by assumption)];clear M;grind)⟩
   have h10:=dF h10b;refine g_f rfl h10b<|g_f rfl h10b<|g_f rfl h10b<|A1 rfl h10b rfl<|Aa rfl<|g_f rfl rfl<|g_f rfl rfl<|g_f rfl rfl<|g_f rfl rfl<|A1 rfl rfl rfl<|Aa rfl<|g_f rfl rfl<|g_f rfl rfl<|g_f rfl rfl<|g_f rfl rfl<|A1 rfl rfl rfl<|Ab rfl<|Al<|Ak rfl rfl<|?_
   exact ⟨(M.weaken (cN (sR _))),false,rfl,(by rw [C9 (by assumption)];clear M;grind)⟩
  have h11:(b3)=false:=h11b;refine g_f rfl h11b<|g_f rfl h11b<|g_f rfl h11b<|A1 rfl h11b rfl<|Aa rfl<|g_f rfl rfl<|g_f rfl rfl<|g_f rfl rfl<|A1 rfl rfl rfl<|Aa rfl<|g_f rfl rfl<|g_f rfl rfl<|g_f rfl rfl<|g_f rfl rfl<|A1 rfl rfl rfl<|Aa rfl<|g_f rfl rfl<|g_f rfl rfl<|g_f rfl rfl<|g_f rfl rfl<|A1 rfl rfl rfl<|Ab rfl<|Au<|Ch<|?_
  refine Al<|Ak rfl rfl<|?_
  exact ⟨(M.weaken (cN (sR _))),false,rfl,(by rw [C9 (by assumption)];clear M;grind)⟩
 intro h12;refine Ao<|Ai<|Ai<|fun a F=>Ma (fun a' w'=>∃ (bb:Bool),Fits 149 a' [(1,.pointer (some ⟨b1,0,none⟩)),(71,.bool bb)]∧Mem w0 G (.blk b1 [.int .u8 x.kind,.string (str x.tag),.string (str x.key),.slice ta x.as.length tc,.string (str x.text),.slice ka x.kids.length kc] 193::L) w'∧(bb=true↔¬ Gn x)) ?_ ?_
 ·skip
  revert a;refine Aw<|A9 Ba.k rfl rfl<|Bl Cz M 0 rfl rfl rfl rfl<|Df rfl rfl<|Aa rfl<|?_
  rcases bE (!(decide (x.kind=1))) with h13b | h14b
  ·skip
   have h13:=dF (Ag h13b);have h13c:(decide (x.kind=1))=false:=(Ag h13b);refine g_f rfl (Aj h13c)<|g_f rfl (Aj h13c)<|g_f rfl (Aj h13c)<|g_f rfl (Aj h13c)<|A7 rfl (Aj h13c) rfl<|Aa rfl<|g_f rfl rfl<|g_f rfl rfl<|g_f rfl rfl<|g_f rfl rfl<|g_u rfl<|g_u rfl<|g_u rfl<|g_u rfl<|g_f rfl rfl<|A7 rfl rfl rfl<|Aa rfl<|g_f rfl rfl<|g_f rfl rfl<|g_f rfl rfl<|A7 rfl rfl rfl<|Aa rfl<|g_f rfl rfl<|g_f rfl rfl<|?_
   refine g_f rfl rfl<|g_f rfl rfl<|A7 rfl rfl rfl<|Aa rfl<|g_f rfl rfl<|g_f rfl rfl<|g_f rfl rfl<|g_f rfl rfl<|A7 rfl rfl rfl<|Au<|fun a F=>?_
   exact ⟨true,F.to ⟨rfl,rfl,trivial⟩,M,by unfold Gn;clear F M;grind⟩
  have h14:=dT (Ah h14b);have h14c:(decide (x.kind=1))=true:=(Ah h14b);refine g_t rfl (Ac h14c)<|A9 Ba.k rfl rfl<|g_t rfl (Ac h14c)<|Bl A6 M 0 rfl rfl rfl rfl<|g_t rfl (Ac h14c)<|Bc Tk rfl rfl (D0 (s:=x.tag) M (by omega))<|?_;clear M;rintro _ w M ⟨b15,rfl,hb15⟩
  refine g_t rfl (Ac h14c)<|Cu rfl<|A1 rfl (Ac h14c) rfl<|Aa rfl<|?_
  rcases bE (!(b15)) with h16b | h17b
  ·skip
   have h16:=Ag h16b;have h16c:(b15)=false:=(Ag h16b);refine g_f rfl (Aj h16c)<|g_f rfl (Aj h16c)<|g_f rfl (Aj h16c)<|g_f rfl (Aj h16c)<|g_u rfl<|g_u rfl<|g_u rfl<|g_u rfl<|g_f rfl (Aj h16c)<|A7 rfl (Aj h16c) rfl<|Aa rfl<|g_f rfl rfl<|g_f rfl rfl<|g_f rfl rfl<|A7 rfl rfl rfl<|Aa rfl<|g_f rfl rfl<|g_f rfl rfl<|g_f rfl rfl<|g_f rfl rfl<|A7 rfl rfl rfl<|Aa rfl<|g_f rfl rfl<|g_f rfl rfl<|?_
   refine g_f rfl rfl<|g_f rfl rfl<|A7 rfl rfl rfl<|Au<|fun a F=>?_
   exact ⟨true,F.to ⟨rfl,rfl,trivial⟩,M,by unfold Gn;clear F M;grind⟩
  have h17:=Ah h17b;have h17c:(b15)=true:=(Ah h17b);refine g_t rfl (Ac h17c)<|A9 Ba.k rfl rfl<|g_t rfl (Ac h17c)<|Bl A6 M 0 rfl rfl rfl rfl<|g_t rfl (Ac h17c)<|F1 rfl rfl<|g_t rfl (Ac h17c)<|Aa rfl<|?_
  rcases bE (!(decide (x.key=([]:List UInt8)))) with h18b | h26b
  ·skip
   have h18:=dF (Ag h18b);have h18c:(decide (x.key=([]:List UInt8)))=false:=(Ag h18b);refine g_t rfl (Aj h18c)<|A9 Ba.k rfl rfl<|g_t rfl (Aj h18c)<|Bl A6 M 0 rfl rfl rfl rfl<|g_t rfl (Aj h18c)<|Bc Tk rfl rfl (D0 (s:=x.key) M (by omega))<|?_;clear M;rintro _ w M ⟨b19,rfl,hb19⟩
   refine g_t rfl (Aj h18c)<|Cu rfl<|g_t rfl (Ac h17c)<|A7 rfl (Aj h18c) rfl<|A1 rfl (Ac h17c) rfl<|Aa rfl<|?_
   rcases bE (!(b19)) with h20b | h21b
   ·skip
    have h20:=Ag h20b;have h20c:(b19)=false:=(Ag h20b);refine g_f rfl (Aj h20c)<|g_f rfl (Aj h20c)<|g_f rfl (Aj h20c)<|A7 rfl (Aj h20c) rfl<|Aa rfl<|g_f rfl rfl<|g_f rfl rfl<|g_f rfl rfl<|g_f rfl rfl<|A7 rfl rfl rfl<|Aa rfl<|g_f rfl rfl<|g_f rfl rfl<|g_f rfl rfl<|g_f rfl rfl<|A7 rfl rfl rfl<|Au<|fun a F=>?_
    exact ⟨true,F.to ⟨rfl,rfl,trivial⟩,M,by unfold Gn;clear F M;grind⟩
   have h21:=Ah h21b;have h21c:(b19)=true:=(Ah h21b);refine g_t rfl (Ac h21c)<|A9 Ba.k rfl rfl<|g_t rfl (Ac h21c)<|Bl A6 M 0 rfl rfl rfl rfl<|g_t rfl (Ac h21c)<|F1 rfl rfl<|A1 rfl (Ac h21c) rfl<|Aa rfl<|?_
   rcases bE (!(decide (x.text=([]:List UInt8)))) with h22b | h23b
   ·skip
    have h22:=dF (Ag h22b);have h22c:(decide (x.text=([]:List UInt8)))=false:=(Ag h22b);refine g_f rfl (Aj h22c)<|g_f rfl (Aj h22c)<|g_f rfl (Aj h22c)<|g_f rfl (Aj h22c)<|A7 rfl (Aj h22c) rfl<|Aa rfl<|g_f rfl rfl<|g_f rfl rfl<|g_f rfl rfl<|g_f rfl rfl<|A7 rfl rfl rfl<|Au<|fun a F=>?_
    exact ⟨true,F.to ⟨rfl,rfl,trivial⟩,M,by unfold Gn;clear F M;grind⟩
   have h23:=dT (Ah h23b);have h23c:(decide (x.text=([]:List UInt8)))=true:=(Ah h23b);refine g_t rfl (Ac h23c)<|A9 Ba.k rfl rfl<|g_t rfl (Ac h23c)<|Bl C0 M 0 rfl rfl rfl rfl<|g_t rfl (Ac h23c)<|Cf C0.k rfl<|g_t rfl (Ac h23c)<|C5 rfl rfl<|A1 rfl (Ac h23c) rfl<|Aa rfl<|?_
   rcases bE (decide (8 < ((x.as.length:Nat):Int))) with h24b | h25b
   ·skip
    have h24:=dT h24b;refine g_f rfl h24b<|g_f rfl h24b<|g_f rfl h24b<|g_f rfl h24b<|A7 rfl h24b rfl<|Au<|fun a F=>?_
    exact ⟨true,F.to ⟨rfl,rfl,trivial⟩,M,by unfold Gn;clear F M;grind⟩
   have h25:=dF h25b;refine g_t rfl h25b<|A9 Ba.k rfl rfl<|g_t rfl h25b<|Bl Ci M 0 rfl rfl rfl rfl<|g_t rfl h25b<|Cf Ci.k rfl<|g_t rfl h25b<|C5 rfl rfl<|A1 rfl h25b rfl<|Au<|fun a F=>?_
   exact ⟨(decide (16 < ((x.kids.length:Nat):Int))),F.to ⟨rfl,rfl,trivial⟩,M,by unfold Gn;clear F M;grind⟩
  have h26:=dT (Ah h26b);have h26c:(decide (x.key=([]:List UInt8)))=true:=(Ah h26b);refine g_f rfl (Ac h26c)<|g_f rfl (Ac h26c)<|g_f rfl (Ac h26c)<|g_f rfl (Ac h26c)<|g_t rfl (Ac h17c)<|A1 rfl (Ac h26c) rfl<|A1 rfl (Ac h17c) rfl<|Aa rfl<|g_t rfl rfl<|A9 Ba.k rfl rfl<|g_t rfl rfl<|Bl A6 M 0 rfl rfl rfl rfl<|g_t rfl rfl<|F1 rfl rfl<|A1 rfl rfl rfl<|Aa rfl<|?_
  rcases bE (!(decide (x.text=([]:List UInt8)))) with h27b | h28b
  ·skip
   have h27:=dF (Ag h27b);have h27c:(decide (x.text=([]:List UInt8)))=false:=(Ag h27b);refine g_f rfl (Aj h27c)<|g_f rfl (Aj h27c)<|g_f rfl (Aj h27c)<|g_f rfl (Aj h27c)<|A7 rfl (Aj h27c) rfl<|Aa rfl<|g_f rfl rfl<|g_f rfl rfl<|g_f rfl rfl<|g_f rfl rfl<|A7 rfl rfl rfl<|Au<|fun a F=>?_
   exact ⟨true,F.to ⟨rfl,rfl,trivial⟩,M,by unfold Gn;clear F M;grind⟩
  have h28:=dT (Ah h28b);have h28c:(decide (x.text=([]:List UInt8)))=true:=(Ah h28b);refine g_t rfl (Ac h28c)<|A9 Ba.k rfl rfl<|g_t rfl (Ac h28c)<|Bl C0 M 0 rfl rfl rfl rfl<|g_t rfl (Ac h28c)<|Cf C0.k rfl<|g_t rfl (Ac h28c)<|C5 rfl rfl<|A1 rfl (Ac h28c) rfl<|Aa rfl<|?_
  rcases bE (decide (8 < ((x.as.length:Nat):Int))) with h29b | h30b
  ·skip
   have h29:=dT h29b;refine g_f rfl h29b<|g_f rfl h29b<|g_f rfl h29b<|g_f rfl h29b<|A7 rfl h29b rfl<|Au<|fun a F=>?_
   exact ⟨true,F.to ⟨rfl,rfl,trivial⟩,M,by unfold Gn;clear F M;grind⟩
  have h30:=dF h30b;refine g_t rfl h30b<|A9 Ba.k rfl rfl<|g_t rfl h30b<|Bl Ci M 0 rfl rfl rfl rfl<|g_t rfl h30b<|Cf Ci.k rfl<|g_t rfl h30b<|C5 rfl rfl<|A1 rfl h30b rfl<|Au<|fun a F=>?_
  exact ⟨(decide (16 < ((x.kids.length:Nat):Int))),F.to ⟨rfl,rfl,trivial⟩,M,by unfold Gn;clear F M;grind⟩
 clear F M;rintro a w ⟨bb,F,M,hbb⟩;revert a;refine Ap rfl ?_ ?_
 ·intro h31b;have h31:(bb)=true:=h31b;refine Ad<|Ab rfl<|Al<|Ak rfl rfl<|?_
  exact ⟨(M.weaken (cN (sR _))),false,rfl,(by rw [C7 (by assumption)];have q99:=@Iz;clear M;grind)⟩
 intro h32b;have h32:(bb)=false:=h32b;refine Ao<|Ai<|Ai<|?_
 have hE:Gn x:=by clear M;grind
 obtain ⟨hE1,hE2,hE3,hE4,hE5,hE6⟩:=id hE;refine Aw<|Ab rfl<|Ar<|fun a F=>Bi (fun m a' w'=>∃ (i:Nat),m=x.as.length - i∧Fits 149 a' [(1,.pointer (some ⟨b1,0,none⟩)),(3,.int .i64 ((i:Nat):Int))]∧Mem w0 G (.blk b1 [.int .u8 x.kind,.string (str x.tag),.string (str x.key),.slice ta x.as.length tc,.string (str x.text),.slice ka x.kids.length kc] 193::L) w'∧(i≤x.as.length)∧(Fg x.as i)) _ ⟨0,rfl,F.to ⟨rfl,rfl,trivial⟩,M,Nat.zero_le _,Fg.zero _⟩ ?_
 clear F M;rintro m a w ⟨i,rfl,F,M,hi,hA⟩;revert a;refine Ai<|Ad<|Aa rfl<|A9 Ba.k rfl rfl<|Bl C0 M 0 rfl rfl rfl rfl<|Cf C0.k rfl<|Co rfl rfl<|qD rfl ?_ ?_
 ·intro h33;refine Ao<|Ai<|Ar<|Ai<|Ad<|A9 Ba.k rfl rfl<|Bl C0 M 0 rfl rfl rfl rfl<|Aa rfl<|?_
  obtain ⟨Xe34,hXe34⟩:=A0 (xs:=x.as) (i:=i) (by omega);obtain ⟨be34,oe34,_,Ie34,_,Ae34,⟨rfl,hn1e34,hv1e34⟩⟩:=SA.at hXe34;refine Db C0.k Dx Ie34 rfl rfl<|A9 Dx.k rfl rfl<|Dm A6 M Ae34 0 rfl rfl rfl rfl<|Bc Tk rfl rfl (D0 (s:=Xe34.n) M (by omega))<|?_;clear M;rintro _ w M ⟨b35,rfl,hb35⟩
  refine Cu rfl<|Aa rfl<|?_
  rcases bE (!(b35)) with h36b | h37b
  ·skip
   have h36:=Ag h36b;have h36c:(b35)=false:=(Ag h36b);refine g_f rfl (Aj h36c)<|g_f rfl (Aj h36c)<|g_f rfl (Aj h36c)<|g_f rfl (Aj h36c)<|g_f rfl (Aj h36c)<|g_f rfl (Aj h36c)<|g_f rfl (Aj h36c)<|g_f rfl (Aj h36c)<|A7 rfl (Aj h36c) rfl<|Bz rfl rfl<|Ad<|Ab rfl<|Al<|J2<|e_br<|J2<|J2<|e_br<|J2<|?_
   refine Ak rfl rfl<|?_
   exact ⟨(M.weaken (cN (sR _))),false,rfl,(by rw [C7 (by assumption)];have q0:=E9 hXe34;have q99:=@Iz;clear M;grind)⟩
  have h37:=Ah h37b;have h37c:(b35)=true:=(Ah h37b);refine g_t rfl (Ac h37c)<|A9 Ba.k rfl rfl<|g_t rfl (Ac h37c)<|Bl C0 M 0 rfl rfl rfl rfl<|g_t rfl (Ac h37c)<|Aa rfl<|g_t rfl (Ac h37c)<|?_
  obtain ⟨be38,oe38,_,Ie38,_,Ae38,⟨rfl,hn1e38,hv1e38⟩⟩:=SA.at hXe34;refine Db C0.k Dx Ie38 rfl rfl<|g_t rfl (Ac h37c)<|A9 Dx.k rfl rfl<|g_t rfl (Ac h37c)<|Dm A6 M Ae38 1 rfl rfl rfl rfl<|g_t rfl (Ac h37c)<|Bc Yi rfl rfl (Oc (s:=Xe34.v) M (by omega))<|?_;clear M;rintro _ w M ⟨b39,rfl,hb39⟩
  refine g_t rfl (Ac h37c)<|Cu rfl<|A1 rfl (Ac h37c) rfl<|Ap rfl ?_ ?_
  ·intro h40b;have h40:=Ag h40b;have h40c:(b39)=false:=(Ag h40b);refine Ad<|Ab rfl<|Al<|Ak rfl rfl<|?_
   exact ⟨(M.weaken (cN (sR _))),false,rfl,(by rw [C7 (by assumption)];have q0:=E9 hXe34;have q99:=@Iz;clear M;grind)⟩
  intro h41b;have h41:=Ah h41b;have h41c:(b39)=true:=(Ah h41b);refine Ao<|Ad<|Ab rfl<|Ar<|?_
  have hNv:Cb Xe34.n∧Str Xe34.v:=by clear M;grind
  intro a F;refine Bi (fun m a' w'=>∃ (k:Nat),m=i - k∧Fits 149 a' [(1,.pointer (some ⟨b1,0,none⟩)),(3,.int .i64 ((i:Nat):Int)),(4,.int .i64 ((k:Nat):Int))]∧Mem w0 G (.blk b1 [.int .u8 x.kind,.string (str x.tag),.string (str x.key),.slice ta x.as.length tc,.string (str x.text),.slice ka x.kids.length kc] 193::L) w'∧(k≤i)∧(∀ (m:Nat) (y:AttrD),m < k→x.as[m]?=some y→Op.bytesLess y.n Xe34.n=true)) _ ⟨0,rfl,F.to ⟨rfl,rfl,rfl,trivial⟩,M,Nat.zero_le _,fun m y h=>by omega⟩ ?_;clear F M;rintro m a w ⟨k,rfl,F,M,hk2,hB⟩;revert a;refine Ai<|Ad<|Aa rfl<|Aa rfl<|Co rfl rfl<|qD rfl ?_ ?_
  ·intro h42;refine Ao<|Ai<|Ar<|Ai<|fun a F=>Hw [(true,0),(true,1),(true,2),(true,3),(true,4),(true,5),(true,6),(true,7),(true,8),(true,9),(true,10),(true,11),(true,12)] (Keep G [.blk b1 [.int .u8 x.kind,.string (str x.tag),.string (str x.key),.slice ta x.as.length tc,.string (str x.text),.slice ka x.kids.length kc] 193]) rfl (by kernel_rfl) (fun c a d v w h=>by cases d <;> exact h) (Bx (M.drew _)) ?_
   replace M:=M.drew (w.drawn+1);revert a;refine lFa Ba.k rfl rfl<|lLd C0 0 rfl rfl rfl rfl<|lMv rfl<|?_
   obtain ⟨Xe43,hXe43⟩:=A0 (xs:=x.as) (i:=k) (by omega);obtain ⟨be43,oe43,_,Ie43,_,Ae43,⟨rfl,hn1e43,hv1e43⟩⟩:=SA.at hXe43;refine l_r (fun a F w M=>Bo C0.k Dx (F.ev rfl) (F.ev rfl) (by omega) Ie43) rfl<|lFa Dx.k rfl rfl<|l_r (fun a F w M=>Bk (agf A6 rfl) (F.ev rfl) (M.cellA Ae43 0 rfl rfl)) rfl<|lFa Ba.k rfl rfl<|lLd C0 0 rfl rfl rfl rfl<|lMv rfl<|?_
   obtain ⟨be44,oe44,_,Ie44,_,Ae44,⟨rfl,hn1e44,hv1e44⟩⟩:=SA.at hXe34;refine l_r (fun a F w M=>Bo C0.k Dx (F.ev rfl) (F.ev rfl) (by omega) Ie44) rfl<|lFa Dx.k rfl rfl<|l_r (fun a F w M=>Bk (agf A6 rfl) (F.ev rfl) (M.cellA Ae44 0 rfl rfl)) rfl<|l_r (fun a F w M=>Sk (F.ev rfl) (F.ev rfl)) rfl<|Jh<|?_
   generalize ({ w with drawn:=w.drawn+1 }:World)=w at M ⊢
   refine Ap rfl ?_ ?_
   ·intro h45b;have h45:=Ag h45b;have h45c:(Op.bytesLess Xe43.n Xe34.n)=false:=(Ag h45b);refine Ad<|Ab rfl<|Al<|Ak rfl rfl<|?_
    exact ⟨(M.weaken (cN (sR _))),false,rfl,(by rw [C7 (by assumption)];have q0:=E9 hXe34;have q1:=fun h=>Jb hXe34 hXe43 h;have q2:=E9 hXe43;have q3:=fun h=>Jb hXe43 hXe34 h;have q99:=@Iz;clear M;grind)⟩
   intro h46b;have h46:=Ah h46b;have h46c:(Op.bytesLess Xe43.n Xe34.n)=true:=(Ah h46b);refine Ao<|Aw<|Aa rfl<|Bw rfl rfl<|Ab rfl<|Au<|Ch<|fun a F=>?_
   exact ⟨_,by omega,k+1,rfl,F.to ⟨rfl,rfl,rfl,trivial⟩,M,by omega,fun m y hm hy=>by rcases Nat.eq_or_lt_of_le (show m≤k by omega) with e | e;(subst e;rw [hXe43] at hy;simp only [Option.some.injEq] at hy;subst hy;clear F M;grind);exact hB m y e hy⟩
  intro h47;refine Br<|Bu<|Bu<|C6<|Aw<|Aa rfl<|Bw rfl rfl<|Ab rfl<|Au<|Ch<|fun a F=>?_
  exact ⟨_,by omega,i+1,rfl,F.to ⟨rfl,rfl,trivial⟩,M,by omega,hA.step hXe34 hNv.1 hNv.2 (fun y h_ hy=>hB (i - 1) y (by omega) hy)⟩
 intro h48;refine Br<|Bu<|Bu<|C6<|Ai<|Ai<|?_
 have hAO:Fh x.as:=hA.all (by omega);refine Aw<|Ab rfl<|Ar<|fun a F=>Bi (fun m a' w'=>∃ (j:Nat),m=x.kids.length - j∧Fits 149 a' [(1,.pointer (some ⟨b1,0,none⟩)),(5,.int .i64 ((j:Nat):Int))]∧Mem w0 G (.blk b1 [.int .u8 x.kind,.string (str x.tag),.string (str x.key),.slice ta x.as.length tc,.string (str x.text),.slice ka x.kids.length kc] 193::L) w'∧(j≤x.kids.length)∧(D7 x.kids j)) _ ⟨0,rfl,F.to ⟨rfl,rfl,trivial⟩,M,Nat.zero_le _,D7.zero _⟩ ?_
 clear F M;rintro m a w ⟨j,rfl,F,M,hj,hK⟩;revert a;refine Ai<|Ad<|Aa rfl<|A9 Ba.k rfl rfl<|Bl Ci M 0 rfl rfl rfl rfl<|Cf Ci.k rfl<|Co rfl rfl<|qD rfl ?_ ?_
 ·intro h49;refine Ao<|Ai<|Ar<|Ai<|?_
  obtain ⟨Xj,hXj⟩:=A0 (xs:=x.kids) (i:=j) (by omega);refine Aw<|Ab rfl<|Ar<|fun a F=>Bi (fun m a' w'=>∃ (k:Nat),m=j - k∧Fits 149 a' [(1,.pointer (some ⟨b1,0,none⟩)),(5,.int .i64 ((j:Nat):Int)),(6,.int .i64 ((k:Nat):Int))]∧Mem w0 G (.blk b1 [.int .u8 x.kind,.string (str x.tag),.string (str x.key),.slice ta x.as.length tc,.string (str x.text),.slice ka x.kids.length kc] 193::L) w'∧(k≤j)∧(∀ (m:Nat) (d:NT),m < k→x.kids[m]?=some d→Xj.key=[]∨d.key≠Xj.key)) _ ⟨0,rfl,F.to ⟨rfl,rfl,rfl,trivial⟩,M,Nat.zero_le _,fun m y h=>by omega⟩ ?_
  clear F M;rintro m a w ⟨k,rfl,F,M,hk2,hC⟩;revert a;refine Ai<|Ad<|Aa rfl<|Aa rfl<|Co rfl rfl<|qD rfl ?_ ?_
  ·intro h50;refine Ao<|Ai<|Ar<|Ai<|fun a F=>Hw [(true,0),(true,1),(true,2),(true,3),(true,4),(true,5),(true,6),(true,7),(true,8),(true,9),(true,10),(true,11),(true,12),(true,13),(true,14),(true,15),(true,16),(true,17),(true,18),(true,19),(true,20),(true,21)] (Keep G [.blk b1 [.int .u8 x.kind,.string (str x.tag),.string (str x.key),.slice ta x.as.length tc,.string (str x.text),.slice ka x.kids.length kc] 193]) rfl (by kernel_rfl) (fun c a d v w h=>by cases d <;> exact h) (Bx (M.drew _)) ?_
   replace M:=M.drew (w.drawn+1);revert a;refine lFa Ba.k rfl rfl<|lLd Ci 0 rfl rfl rfl rfl<|lMv rfl<|?_
   obtain ⟨be51,oe51,_,Ie51,_,Ae51,hTe51⟩:=SK.at hXj;obtain ⟨tae51,tce51,kae51,kce51,rfl,hke51,hle51,SAe51,SKe51⟩:=Gu hTe51;refine l_r (fun a F w M=>Bo Ci.k Ba (F.ev rfl) (F.ev rfl) (by omega) Ie51) rfl<|lFa Ba.k rfl rfl<|l_r (fun a F w M=>Bk (agf A6 rfl) (F.ev rfl) (M.cellA Ae51 2 rfl rfl)) rfl<|l_r (fun a F w M=>I3 (F.ev rfl) (F.ev rfl)) rfl<|lMv rfl<|?_
   rcases bE (!(decide (Xj.key=([]:List UInt8)))) with h52b | h57b
   ·skip
    have h52:=dF (Ag h52b);have h52c:(decide (Xj.key=([]:List UInt8)))=false:=(Ag h52b);refine l_g rfl (Aj h52c) (fun a F w M=>Kv Ba.k rfl F rfl)<|l_g rfl (Aj h52c) (fun a F w M=>Bk (agf Ci rfl) (F.ev rfl) (M.cellL (k:=0) rfl rfl))<|l_g rfl (Aj h52c) (fun a F w M=>J6 F rfl)<|?_
    obtain ⟨be53,oe53,_,Ie53,_,Ae53,hTe53⟩:=SK.at hXj;obtain ⟨tae53,tce53,kae53,kce53,rfl,hke53,hle53,SAe53,SKe53⟩:=Gu hTe53;refine l_g rfl (Aj h52c) (fun a F w M=>Bo Ci.k Ba (F.ev rfl) (F.ev rfl) (by omega) Ie53)<|l_g rfl (Aj h52c) (fun a F w M=>Kv Ba.k rfl F rfl)<|l_g rfl (Aj h52c) (fun a F w M=>Bk (agf A6 rfl) (F.ev rfl) (M.cellA Ae53 2 rfl rfl))<|l_g rfl (Aj h52c) (fun a F w M=>Kv Ba.k rfl F rfl)<|l_g rfl (Aj h52c) (fun a F w M=>Bk (agf Ci rfl) (F.ev rfl) (M.cellL (k:=0) rfl rfl))<|l_g rfl (Aj h52c) (fun a F w M=>J6 F rfl)<|?_
    obtain ⟨Xe54,hXe54⟩:=A0 (xs:=x.kids) (i:=k) (by omega);obtain ⟨be54,oe54,_,Ie54,_,Ae54,hTe54⟩:=SK.at hXe54;obtain ⟨tae54,tce54,kae54,kce54,rfl,hke54,hle54,SAe54,SKe54⟩:=Gu hTe54;refine l_g rfl (Aj h52c) (fun a F w M=>Bo Ci.k Ba (F.ev rfl) (F.ev rfl) (by omega) Ie54)<|l_g rfl (Aj h52c) (fun a F w M=>Kv Ba.k rfl F rfl)<|l_g rfl (Aj h52c) (fun a F w M=>Bk (agf A6 rfl) (F.ev rfl) (M.cellA Ae54 2 rfl rfl))<|l_g rfl (Aj h52c) (fun a F w M=>Hp (F.ev rfl) (F.ev rfl))<|l_r (fun a F w M=>L8 F rfl (Aj h52c) rfl) rfl<|Jh<|?_
    generalize ({ w with drawn:=w.drawn+1 }:World)=w at M ⊢
    refine qD rfl ?_ ?_
    ·intro h55;refine Ad<|Ab rfl<|Al<|Ak rfl rfl<|?_
     exact ⟨(M.weaken (cN (sR _))),false,rfl,(by rw [C7 (by assumption)];have q0:=La hXj;have q1:=fun h=>P5 h hXe54 hXj;have q2:=La hXe54;have q3:=fun h=>P5 h hXj hXe54;have q99:=@Iz;clear M;grind)⟩
    intro h56;refine Ao<|Aw<|Aa rfl<|Bw rfl rfl<|Ab rfl<|Au<|Ch<|fun a F=>?_
    exact ⟨_,by omega,k+1,rfl,F.to ⟨rfl,rfl,rfl,trivial⟩,M,by omega,fun m d hm hy=>by rcases Nat.eq_or_lt_of_le (show m≤k by omega) with e | e;(subst e;rw [hXe54] at hy;simp only [Option.some.injEq] at hy;subst hy;clear F M;grind);exact hC m d e hy⟩
   have h57:=dT (Ah h57b);have h57c:(decide (Xj.key=([]:List UInt8)))=true:=(Ah h57b);refine l_s rfl (Ac h57c)<|l_s rfl (Ac h57c)<|l_s rfl (Ac h57c)<|l_s rfl (Ac h57c)<|l_s rfl (Ac h57c)<|l_s rfl (Ac h57c)<|l_s rfl (Ac h57c)<|l_s rfl (Ac h57c)<|l_s rfl (Ac h57c)<|l_s rfl (Ac h57c)<|l_s rfl (Ac h57c)<|l_s rfl (Ac h57c)<|l_s rfl (Ac h57c)<|l_r (fun a F w M=>Ih F rfl (Ac h57c) rfl) rfl<|Jh<|?_
   generalize ({ w with drawn:=w.drawn+1 }:World)=w at M ⊢
   refine Cq rfl rfl<|Ao<|Aw<|Aa rfl<|Bw rfl rfl<|Ab rfl<|Au<|Ch<|fun a F=>?_
   exact ⟨_,by omega,k+1,rfl,F.to ⟨rfl,rfl,rfl,trivial⟩,M,by omega,fun m d hm hy=>by rcases Nat.eq_or_lt_of_le (show m≤k by omega) with e | e;(clear F M;grind);exact hC m d e hy⟩
  intro h58;refine Br<|Bu<|Bu<|C6<|Aw<|Aa rfl<|Bw rfl rfl<|Ab rfl<|Au<|Ch<|fun a F=>?_
  exact ⟨_,by omega,j+1,rfl,F.to ⟨rfl,rfl,trivial⟩,M,by omega,hK.step hXj (by by_cases e:Xj.key=[];exact Or.inl e;exact Or.inr fun m a_ hm ha=>(hC m a_ (by omega) ha).resolve_left e)⟩
 intro h59;refine Br<|Bu<|Bu<|C6<|Ad<|Ab rfl<|Al<|Ak rfl rfl<|?_
 exact ⟨(M.weaken (cN (sR _))),true,rfl,(by rw [C7 (by assumption)];exact ⟨fun _=>⟨hE,hAO,hK.all (by omega)⟩,fun _=>rfl⟩)⟩
def MeasP (x:NT):Prop:=∀ (w0 w:World) (G:Av) (L:List Res) (cb db wb nb no c d lev:Nat) (ta ka:Option Addr) (tc kc:Nat),Mem w0 G (.blk cb [.int .i64 ((c:Nat):Int)] 3::.blk db [.int .i64 ((d:Nat):Int)] 3::.blk wb [.func (.func 232) #[] #[.pointer (some ⟨cb,0,none⟩),.pointer (some ⟨db,0,none⟩),.pointer (some ⟨wb,0,none⟩)]] 303::L) w→Bh .u8 x.kind→(x.tag.length≤9223372036854775807∧x.key.length≤9223372036854775807∧x.text.length≤9223372036854775807) →
  A8 Fb 2 G (.slice ta x.as.length tc) x.as→A8 rdN 6 G (.slice ka x.kids.length kc) x.kids→At G nb no [.int .u8 x.kind,.string (str x.tag),.string (str x.key),.slice ta x.as.length tc,.string (str x.text),.slice ka x.kids.length kc]→c≤64→d≤7→1≤lev→lev≤7 →
  Calls Tryz.prog 232 #[.pointer (some ⟨nb,no,none⟩),.int .i64 (lev:Int),.pointer (some ⟨cb,0,none⟩),.pointer (some ⟨db,0,none⟩),.pointer (some ⟨wb,0,none⟩)] w
   (Lf w0 G fun L' v=>∃ (bb:Bool) (c' d':Nat),v=.bool bb∧L' = (.blk cb [.int .i64 ((c':Nat):Int)] 3::.blk db [.int .i64 ((d':Nat):Int)] 3::.blk wb [.func (.func 232) #[] #[.pointer (some ⟨cb,0,none⟩),.pointer (some ⟨db,0,none⟩),.pointer (some ⟨wb,0,none⟩)]] 303::L)∧(bb=true↔Tr.Ok Fi (7 - lev) x∧c+x.size≤64)∧(bb=true→c' = c+x.size∧d' = max d (lev+x.depth - 1)))
theorem Vp {x:NT} (ih:∀ y∈x.kids,MeasP y) {w0 w:World} {G:Av} {L:List Res} {cb db wb nb no c d lev:Nat} {ta ka:Option Addr} {tc kc:Nat} (M:Mem w0 G (.blk cb [.int .i64 ((c:Nat):Int)] 3::.blk db [.int .i64 ((d:Nat):Int)] 3::.blk wb [.func (.func 232) #[] #[.pointer (some ⟨cb,0,none⟩),.pointer (some ⟨db,0,none⟩),.pointer (some ⟨wb,0,none⟩)]] 303::L) w) (hk:Bh .u8 x.kind) (hl:(x.tag.length≤9223372036854775807∧x.key.length≤9223372036854775807∧x.text.length≤9223372036854775807))
  (SA:A8 Fb 2 G (.slice ta x.as.length tc) x.as) (SK:A8 rdN 6 G (.slice ka x.kids.length kc) x.kids) (A:At G nb no [.int .u8 x.kind,.string (str x.tag),.string (str x.key),.slice ta x.as.length tc,.string (str x.text),.slice ka x.kids.length kc]) (hc:c≤64) (hd:d≤7) (hl1:1≤lev) (hl2:lev≤7) :
  Calls Tryz.prog 232 #[.pointer (some ⟨nb,no,none⟩),.int .i64 (lev:Int),.pointer (some ⟨cb,0,none⟩),.pointer (some ⟨db,0,none⟩),.pointer (some ⟨wb,0,none⟩)] w
   (Lf w0 G fun L' v=>∃ (bb:Bool) (c' d':Nat),v=.bool bb∧L' = (.blk cb [.int .i64 ((c':Nat):Int)] 3::.blk db [.int .i64 ((d':Nat):Int)] 3::.blk wb [.func (.func 232) #[] #[.pointer (some ⟨cb,0,none⟩),.pointer (some ⟨db,0,none⟩),.pointer (some ⟨wb,0,none⟩)]] 303::L)∧(bb=true↔Tr.Ok Fi (7 - lev) x∧c+x.size≤64)∧(bb=true→c' = c+x.size∧d' = max d (lev+x.depth - 1))):=by
 refine Az (vs:=[_,_,_,_,_]) Tryz.func232 rfl (n:=45) rfl rfl<|Ad<|Ab rfl<|Ad<|Bl Ct M 0 rfl rfl rfl rfl<|Bw rfl rfl<|F0 Ct M 0 rfl rfl rfl rfl rfl rfl<|?_;clear M;intro w M
 refine Ad<|Bl Ct M 1 rfl rfl rfl rfl<|Aa rfl<|Aq (fun a F=>Uv (b:=d) (c:=lev) (F.ev rfl) (F.ev rfl)) rfl<|F0 Ct M 1 rfl rfl rfl rfl rfl rfl<|?_;clear M;intro w M
 refine Ai<|Ad<|Aa rfl<|C5 rfl rfl<|Aa rfl<|?_
 rcases bE (decide (6 < (lev:Int))) with h1b | h2b
 ·skip
  have h1:=dT h1b;refine g_f rfl h1b<|g_f rfl h1b<|A7 rfl h1b rfl<|Aa rfl<|g_f rfl rfl<|g_f rfl rfl<|g_f rfl rfl<|A7 rfl rfl rfl<|Bz rfl rfl<|Ad<|Ab rfl<|Al<|Ak rfl rfl<|?_
  replace M:=M.perm (Am _ 2 _ rfl);replace M:=M.perm (Am _ 2 _ rfl);replace M:=M.perm (Am _ 2 _ rfl);change Mem w0 G (.blk cb [.int .i64 (((c:Nat):Int)+1)] 3::.blk db [.int .i64 ((max d lev:Nat):Int)] 3::_::L) _ at M
  exact ⟨_,M,false,_,_,rfl,rfl,⟨fun h_=>(by cases h_),fun h_=>absurd h_ (Mz (by clear M;grind))⟩,fun h_=>(by cases h_)⟩
 have h2:=dF h2b;refine g_t rfl h2b<|Bl Ct M 0 rfl rfl rfl rfl<|g_t rfl h2b<|C5 rfl rfl<|A1 rfl h2b rfl<|Aa rfl<|?_
 rcases bE (decide (64 < ((c:Nat):Int)+1)) with h3b | h4b
 ·skip
  have h3:=dT h3b;refine g_f rfl h3b<|g_f rfl h3b<|g_f rfl h3b<|A7 rfl h3b rfl<|Bz rfl rfl<|Ad<|Ab rfl<|Al<|Ak rfl rfl<|?_
  replace M:=M.perm (Am _ 2 _ rfl);replace M:=M.perm (Am _ 2 _ rfl);replace M:=M.perm (Am _ 2 _ rfl);change Mem w0 G (.blk cb [.int .i64 (((c:Nat):Int)+1)] 3::.blk db [.int .i64 ((max d lev:Nat):Int)] 3::_::L) _ at M
  exact ⟨_,M,false,_,_,rfl,rfl,⟨fun h_=>(by cases h_),fun h_=>absurd h_ (Mz (by clear M;grind))⟩,fun h_=>(by cases h_)⟩
 have h4:=dF h4b;refine g_t rfl h4b<|Aa rfl<|g_t rfl h4b<|Bc ent233 rfl rfl (Tp (x:=x) M hk hl SA SK A)<|?_;clear M;rintro _ w M ⟨b5,rfl,hb5⟩
 refine g_t rfl h4b<|Cu rfl<|A1 rfl h4b rfl<|Ap rfl ?_ ?_
 ·intro h6b;have h6:=Ag h6b;have h6c:(b5)=false:=(Ag h6b);refine Ad<|Ab rfl<|Al<|Ak rfl rfl<|?_
  replace M:=M.perm (Am _ 2 _ rfl);replace M:=M.perm (Am _ 2 _ rfl);replace M:=M.perm (Am _ 2 _ rfl);change Mem w0 G (.blk cb [.int .i64 (((c:Nat):Int)+1)] 3::.blk db [.int .i64 ((max d lev:Nat):Int)] 3::_::L) _ at M
  exact ⟨_,M,false,_,_,rfl,rfl,⟨fun h_=>(by cases h_),fun h_=>absurd h_ (Mz (by clear M;grind))⟩,fun h_=>(by cases h_)⟩
 intro h7b;have h7:=Ah h7b;have h7c:(b5)=true:=(Ah h7b);refine Ao<|Ai<|Ai<|?_
 have hAl:Fi x:=by clear M;grind
 have hl6:lev≤6:=by omega
 have hkl:=O4 hAl;refine Aw<|Aa rfl<|Fj rfl<|A9 Ba.k rfl rfl<|Dm Ci M A 5 rfl rfl rfl rfl<|Cf Ci.k rfl<|Aa rfl<|Ar<|fun a F=>Bi (fun m a' w'=>∃ (i:Nat),∃ (ci:Nat),∃ (di:Nat),m=x.kids.length - i∧Fits 45 a' [(0,.pointer (some ⟨nb,no,none⟩)),(1,.int .i64 ((lev:Int))),(2,.pointer (some ⟨cb,0,none⟩)),(3,.pointer (some ⟨db,0,none⟩)),(4,.pointer (some ⟨wb,0,none⟩)),(28,.slice ka x.kids.length kc),(29,.int .i64 ((x.kids.length:Nat):Int)),(30,.int .i64 ((i:Nat):Int))]∧Mem w0 G (.blk cb [.int .i64 ((ci:Nat):Int)] 3::.blk db [.int .i64 ((di:Nat):Int)] 3::.blk wb [.func (.func 232) #[] #[.pointer (some ⟨cb,0,none⟩),.pointer (some ⟨db,0,none⟩),.pointer (some ⟨wb,0,none⟩)]] 303::L) w'∧(i≤x.kids.length)∧(ci=c+1+Tr.sizes (x.kids.take i)∧ci≤64)∧(di=max d (lev+Tr.depths (x.kids.take i)))∧(di≤7)∧(∀ (m:Nat) (y:NT),m < i→x.kids[m]?=some y→Tr.Ok Fi (7 - (lev+1)) y)) _ ⟨0,c+1,max d lev,rfl,F.to ⟨rfl,rfl,rfl,rfl,rfl,rfl,rfl,rfl,trivial⟩,M,Nat.zero_le _,⟨by simp [Tr.sizes],by omega⟩,by simp only [List.take_zero,Tr.depths];omega,by omega,fun m y h=>by omega⟩ ?_
 clear F M;rintro m a w ⟨i,ci,di,rfl,F,M,hi,hci,hdi,hd7,hO⟩;revert a;refine Ad<|Co rfl rfl<|Ai<|qD rfl ?_ ?_
 ·intro h8;refine Ao<|Ai<|Ar<|Ad<|Aa rfl<|Ab rfl<|Ai<|fun a F=>Gh [(.pure,0),(.free,1),(.free,2),(.free,3),(.pure,4),(.free,5),(.free,6),(.free,7),(.free,8),(.keep,9),(.free,10)] [] (Keep G [.blk wb [.func (.func 232) #[] #[.pointer (some ⟨cb,0,none⟩),.pointer (some ⟨db,0,none⟩),.pointer (some ⟨wb,0,none⟩)]] 303]) rfl (by kernel_rfl) (fun c a d v w h=>by cases d <;> exact h) (Bx (M.drew _)) ?_
  replace M:=M.drew (w.drawn+1);revert a;refine pLd Pc 0 rfl rfl rfl rfl<|fMv rfl<|k_f (fun a F w _=>C3 (F.ev rfl)) rfl<|fFa Ba.k rfl rfl<|k_p (fun a F w M=>Bk (agf Ci rfl) (F.ev rfl) (M.cellA A 5 rfl rfl)) rfl<|fMv rfl<|?_
  obtain ⟨Xe9,hXe9⟩:=A0 (xs:=x.kids) (i:=i) (by omega);obtain ⟨be9,oe9,_,Ie9,_,Ae9,hTe9⟩:=SK.at hXe9;obtain ⟨tae9,tce9,kae9,kce9,rfl,hke9,hle9,SAe9,SKe9⟩:=Gu hTe9;refine k_f (fun a F w _=>Bo Ci.k Ba (F.ev rfl) (F.ev rfl) (by omega) Ie9) rfl<|fMv rfl<|k_f (fun a F w _=>Fa (F.ev rfl) (F.ev rfl) (Cl (by omega) (by omega))) rfl<|k_k rfl<|?_
  replace M:=M.perm (Am _ 2 _ rfl);replace M:=M.perm (Am _ 2 _ rfl);replace M:=M.perm (Am _ 2 _ rfl);change Mem w0 G (_::_::_::L) _ at M;refine s_vL Yg (caps:=[.pointer (some ⟨cb,0,none⟩),.pointer (some ⟨db,0,none⟩),.pointer (some ⟨wb,0,none⟩)]) rfl rfl rfl (ih Xe9 (List.mem_of_getElem? hXe9) _ _ _ _ _ _ _ _ _ ci di (lev+1) _ _ _ _ M hke9 hle9 SAe9 SKe9 Ae9 (by omega) (by omega) (by omega) (by omega))<|?_;clear M;rintro _ _ w M ⟨b10,cb10,db10,rfl,rfl,hb10,eb10⟩
  refine eQ (Bx M)<|k_f (fun a F w _=>Hb (F.ev rfl)) rfl<|Fm<|Ap rfl ?_ ?_
  ·intro h11b;have h11:=Ag h11b;have h11c:(b10)=false:=(Ag h11b);refine Ad<|Ab rfl<|Al<|Ak rfl rfl<|?_
   replace M:=M.perm (Am _ 2 _ rfl);replace M:=M.perm (Am _ 2 _ rfl);replace M:=M.perm (Am _ 2 _ rfl);change Mem w0 G (_::_::_::L) _ at M
   exact ⟨_,M,false,_,_,rfl,rfl,⟨fun h_=>(by cases h_),fun h_=>absurd h_ (Q7 hXe9 hl6 (by rw [← hci.1];exact fun h_=>by have h9:=hb10.2 h_;simp_all))⟩,fun h_=>(by cases h_)⟩
  intro h12b;have h12:=Ah h12b;have h12c:(b10)=true:=(Ah h12b);refine Ao<|Aw<|Bw rfl rfl<|Aa rfl<|Au<|Ch<|?_
  have hq:=hb10.1 (by assumption);obtain ⟨hc2,hd2⟩:=eb10 (by assumption);have hs2:=Tr.sizes_snoc hXe9;have hp2:=Tr.depths_snoc hXe9;have hps:=hq.1.depth;intro a F
  exact ⟨_,by omega,i+1,cb10,db10,rfl,F.to ⟨rfl,rfl,rfl,rfl,rfl,rfl,rfl,rfl,trivial⟩,M,by omega,by omega,by omega,by omega,T3 hO hXe9 hq.1⟩
 intro h13;refine Br<|Bu<|Bu<|C6<|Ad<|Ab rfl<|Al<|Ak rfl rfl<|?_
 replace M:=M.perm (Am _ 2 _ rfl);replace M:=M.perm (Am _ 2 _ rfl);replace M:=M.perm (Am _ 2 _ rfl);change Mem w0 G (_::_::_::L) _ at M;have hf:=Jn (x:=x) (i:=i) (by omega);have hg:=Rt (x:=x) (i:=i) (by omega)
 exact ⟨_,M,true,_,_,rfl,rfl,⟨fun _=>⟨Xr hl6 hAl (by omega) hO,by omega⟩,fun _=>rfl⟩,fun _=>⟨by omega,by omega⟩⟩
theorem Xs (x:NT):MeasP x:=by
 induction x using Tr.ind with
 | _ x ih=>intro w0 w G L cb db wb nb no c d lev ta ka tc kc M hk hl SA SK A hc hd hl1 hl2;exact Vp ih M hk hl SA SK A hc hd hl1 hl2
theorem Q6 (M:Mem w0 G L w) {x:NT} {ta:Option Addr} {tc:Nat} {ka:Option Addr} {kc:Nat} (hk:Bh .u8 x.kind) (hl:(x.tag.length≤9223372036854775807∧x.key.length≤9223372036854775807∧x.text.length≤9223372036854775807)) (SA:A8 Fb 2 G (.slice ta x.as.length tc) x.as) (SK:A8 rdN 6 G (.slice ka x.kids.length kc) x.kids):Calls Tryz.prog 220 #[.agg #[.int .u8 x.kind,.string (str x.tag),.string (str x.key),.slice ta x.as.length tc,.string (str x.text),.slice ka x.kids.length kc]] w (Ret w0 G L fun _ v=>v=.tuple #[.int .i64 ((cntF x:Nat):Int),.int .i64 ((V4 x:Nat):Int)]):=by
 refine Az (vs:=[_]) Tryz.func220 rfl (n:=11) rfl rfl<|Ad<|G4 M rfl rfl rfl<|?_;clear M;intro b1 w M
 refine Dy M Ct rfl rfl<|?_;clear M;intro b2 w M
 refine Dy M Ct rfl rfl<|?_;clear M;intro b4 w M
 refine Ad<|Dy M Pc rfl rfl<|?_;clear M;intro b6 w M
 refine Ad<|Aq (fun a F=>D8 (vs:=#[.pointer (some ⟨b2,0,none⟩),.pointer (some ⟨b4,0,none⟩),.pointer (some ⟨b6,0,none⟩)]) (by simp only [List.map_toArray,List.map_cons,List.map_nil,F.ev (x:=.tmp 2) rfl,F.ev (x:=.tmp 3) rfl,F.ev (x:=.tmp 4) rfl])) rfl<|F0 Pc M 0 rfl rfl rfl rfl rfl rfl<|?_;clear M;intro w M
 refine Ai<|Ai<|?_
 obtain ⟨Gq8,hGq8,hbq8,M⟩:=M.freeze (k:=3) rfl;have Aq8:At Gq8 b1 0 [.int .u8 x.kind,.string (str x.tag),.string (str x.key),.slice ta x.as.length tc,.string (str x.text),.slice ka x.kids.length kc]:=At.of_cells hbq8;clear hbq8;replace SA:=SA.mono Ll hGq8;replace SK:=SK.mono Xq hGq8;change Mem w0 Gq8 (.blk b6 [.func (.func 232) #[] #[.pointer (some ⟨b2,0,none⟩),.pointer (some ⟨b4,0,none⟩),.pointer (some ⟨b6,0,none⟩)]] 303::.blk b4 [.int .i64 0] 3::.blk b2 [.int .i64 0] 3::L) _ at M;refine Aw<|Bl Pc M 0 rfl rfl rfl rfl<|?_
 replace M:=M.perm (Am _ 1 _ rfl);replace M:=M.perm (Am _ 2 _ rfl);change Mem w0 Gq8 (_::_::.blk b6 [.func (.func 232) #[] #[.pointer (some ⟨b2,0,none⟩),.pointer (some ⟨b4,0,none⟩),.pointer (some ⟨b6,0,none⟩)]] 303::L) _ at M;refine s_vL Yg (caps:=[.pointer (some ⟨b2,0,none⟩),.pointer (some ⟨b4,0,none⟩),.pointer (some ⟨b6,0,none⟩)]) rfl rfl rfl (Xs x _ _ _ _ _ _ _ _ _ 0 0 1 _ _ _ _ M hk hl SA SK Aq8 (by omega) (by omega) (by omega) (by omega))<|?_;clear M;rintro _ _ w M ⟨b9,cb9,db9,rfl,rfl,hb9,eb9⟩
 refine Cu rfl<|Ap rfl ?_ ?_
 ·intro h10b;have h10:=Ag h10b;have h10c:(b9)=false:=(Ag h10b);refine Ad<|F0 Ct M 0 rfl rfl rfl rfl rfl rfl<|?_;clear M;intro w M
  refine F0 Ct M 1 rfl rfl rfl rfl rfl rfl<|?_;clear M;intro w M
  refine Al<|J2<|fun a F=>X5 F M (k1:=0) (k2:=1) rfl rfl rfl (agf Ct rfl) (agf Ct rfl) rfl rfl ?_
  have hV:¬ F6 x:=fun h_=>by have h9:=hb9.2 ⟨h_.1,by have:=h_.2;omega⟩;simp_all
  exact ⟨_,hGq8,(M.weaken (cN (.cons _ (cN (sR _))))),by rw [Ul hV,depF_no hV];rfl⟩
 intro h11b;have h11:=Ah h11b;have h11c:(b9)=true:=(Ah h11b);refine Ao<|Ai<|fun a F=>Gh [(.pure,0),(.pure,1),(.keep,2),(.keep,3)] [] (Keep Gq8 [.blk b2 [.int .i64 ((cb9:Nat):Int)] 3,.blk b4 [.int .i64 ((db9:Nat):Int)] 3,.blk b6 [.func (.func 232) #[] #[.pointer (some ⟨b2,0,none⟩),.pointer (some ⟨b4,0,none⟩),.pointer (some ⟨b6,0,none⟩)]] 303]) rfl (by kernel_rfl) (fun c a d v w h=>by cases d <;> exact h) (Bx (M.drew _)) ?_
 replace M:=M.drew (w.drawn+1);revert a;refine pLd Ct 0 rfl rfl rfl rfl<|pLd Ct 1 rfl rfl rfl rfl<|k_k rfl<|F0 Ct M 0 rfl rfl rfl rfl rfl rfl<|?_;clear M;intro w M
 refine eQ (Bx M)<|k_k rfl<|F0 Ct M 1 rfl rfl rfl rfl rfl rfl<|?_;clear M;intro w M
 refine eQ (Bx M)<|Fm<|Al<|fun a F=>X5 F M (k1:=0) (k2:=1) rfl rfl rfl (agf Ct rfl) (agf Ct rfl) rfl rfl ?_
 have hq:=hb9.1 (by assumption);have hV:F6 x:=⟨hq.1,by omega⟩;obtain ⟨hc2,hd2⟩:=eb9 (by assumption);have hp1:=Tr.depth_eq x
 exact ⟨_,hGq8,(M.weaken (cN (.cons _ (cN (sR _))))),by rw [Rx hV,Yq hV,show x.size=cb9 by omega,show x.depth=db9 by omega]⟩
theorem P4 (M:Mem w0 G L w) {x:NT} {ta:Option Addr} {tc:Nat} {ka:Option Addr} {kc:Nat} (hk:Bh .u8 x.kind) (hl:(x.tag.length≤9223372036854775807∧x.key.length≤9223372036854775807∧x.text.length≤9223372036854775807)) (SA:A8 Fb 2 G (.slice ta x.as.length tc) x.as) (SK:A8 rdN 6 G (.slice ka x.kids.length kc) x.kids):Calls Tryz.prog 220 #[.agg #[.int .u8 x.kind,.string (str x.tag),.string (str x.key),.slice ta x.as.length tc,.string (str x.text),.slice ka x.kids.length kc]] w (B5 w0 G L fun v=>v=.tuple #[.int .i64 ((cntF x:Nat):Int),.int .i64 ((V4 x:Nat):Int)]):=Ret.plain M (Q6 M hk hl SA SK)
theorem Q2 (M:Mem w0 G L w) {x:NT} {ta:Option Addr} {tc:Nat} {ka:Option Addr} {kc:Nat} (hk:Bh .u8 x.kind) (hl:(x.tag.length≤9223372036854775807∧x.key.length≤9223372036854775807∧x.text.length≤9223372036854775807)) (SA:A8 Fb 2 G (.slice ta x.as.length tc) x.as) (SK:A8 rdN 6 G (.slice ka x.kids.length kc) x.kids):Calls Tryz.prog 193 #[.agg #[.int .u8 x.kind,.string (str x.tag),.string (str x.key),.slice ta x.as.length tc,.string (str x.text),.slice ka x.kids.length kc]] w (B5 w0 G L fun v=>v=.int .i64 ((cntF x:Nat):Int)):=by
 refine Az (vs:=[_]) Tryz.func193 rfl (n:=11) rfl rfl<|Ad<|G4 M rfl rfl rfl<|?_;clear M;intro b1 w M
 refine Ab rfl<|Ad<|F8 Ba M 0 rfl rfl rfl rfl<|Bc ent220 rfl rfl (P4 (x:=x) M hk hl SA SK)<|?_;clear M;rintro _ w M rfl
 refine Aa rfl<|Cd rfl rfl<|Cd rfl rfl<|Ab rfl<|Ab rfl<|Ad<|Aa rfl<|Ab rfl<|Al<|Ak rfl rfl<|?_
 exact ⟨M.weaken dS1,rfl⟩
theorem Iu (M:Mem w0 G L w) {x:NT} {ta:Option Addr} {tc:Nat} {ka:Option Addr} {kc:Nat} (hk:Bh .u8 x.kind) (hl:(x.tag.length≤9223372036854775807∧x.key.length≤9223372036854775807∧x.text.length≤9223372036854775807)) (SA:A8 Fb 2 G (.slice ta x.as.length tc) x.as) (SK:A8 rdN 6 G (.slice ka x.kids.length kc) x.kids):Calls Tryz.prog 229 #[.agg #[.int .u8 x.kind,.string (str x.tag),.string (str x.key),.slice ta x.as.length tc,.string (str x.text),.slice ka x.kids.length kc]] w (B5 w0 G L fun v=>v=.int .i64 (Qd x)):=by
 refine Az (vs:=[_]) Tryz.func229 rfl (n:=6) rfl rfl<|Ad<|G4 M rfl rfl rfl<|?_;clear M;intro b1 w M
 refine Ab rfl<|Ai<|Ad<|F8 Ba M 0 rfl rfl rfl rfl<|Bc ent193 rfl rfl (Q2 (x:=x) M hk hl SA SK)<|?_;clear M;rintro _ w M rfl
 refine C2 rfl rfl<|qD rfl ?_ ?_
 ·intro h2;refine Ad<|Ab rfl<|Al<|Ak rfl rfl<|?_
  exact ⟨M.weaken dS1,by rw [Um fun h_=>by have:=Ks.2 h_;omega]⟩
 intro h3;refine Ao<|Ad<|Ab rfl<|Al<|Ak rfl rfl<|?_
 exact ⟨M.weaken dS1,by rw [Ry (Ks.1 (by omega))]⟩
def RcntP (x:NT):Prop:=∀ (w0 w:World) (G:Av) (L:List Res) (ta ka:Option Addr) (tc kc lev:Nat),Mem w0 G L w→Bh .u8 x.kind→(x.tag.length≤9223372036854775807∧x.key.length≤9223372036854775807∧x.text.length≤9223372036854775807)→A8 Fb 2 G (.slice ta x.as.length tc) x.as→A8 rdN 6 G (.slice ka x.kids.length kc) x.kids→lev≤8 →
  Calls Tryz.prog 188 #[.agg #[.int .u8 x.kind,.string (str x.tag),.string (str x.key),.slice ta x.as.length tc,.string (str x.text),.slice ka x.kids.length kc],.int .i64 (lev:Int)] w (B5 w0 G L fun v=>∃ r:Nat,v=.int .i64 (r:Int)∧Cnt Fi x lev r)
theorem U9 {x:NT} (ih:∀ y∈x.kids,RcntP y) {w0 w:World} {G:Av} {L:List Res} (M:Mem w0 G L w) {ta:Option Addr} {tc:Nat} {ka:Option Addr} {kc:Nat} (hk:Bh .u8 x.kind) (hl:(x.tag.length≤9223372036854775807∧x.key.length≤9223372036854775807∧x.text.length≤9223372036854775807)) (SA:A8 Fb 2 G (.slice ta x.as.length tc) x.as) (SK:A8 rdN 6 G (.slice ka x.kids.length kc) x.kids) {lev:Nat} (hlev:lev≤8):Calls Tryz.prog 188 #[.agg #[.int .u8 x.kind,.string (str x.tag),.string (str x.key),.slice ta x.as.length tc,.string (str x.text),.slice ka x.kids.length kc],.int .i64 (lev:Int)] w (B5 w0 G L fun v=>∃ r:Nat,v=.int .i64 (r:Int)∧Cnt Fi x lev r):=by
 refine Az (vs:=[_,_]) Tryz.func188 rfl (n:=36) rfl rfl<|Ad<|G4 M rfl rfl rfl<|?_;clear M;intro b1 w M
 refine Ab rfl<|Ai<|Ad<|Aa rfl<|Co rfl rfl<|Aa rfl<|?_
 rcases bE (decide ((lev:Int) < 1)) with h2b | h3b
 ·skip
  have h2:=dT h2b;refine g_f rfl h2b<|g_f rfl h2b<|g_f rfl h2b<|A7 rfl h2b rfl<|Bz rfl rfl<|Ad<|Ab rfl<|Al<|Ak rfl rfl<|?_
  exact ⟨M.weaken dS1,1000,rfl,Cnt.bad (by clear M;grind)⟩
 have h3:=dF h3b;refine g_t rfl h3b<|F8 Ba M 0 rfl rfl rfl rfl<|g_t rfl h3b<|Bc ent211 rfl rfl (Uy (x:=x) M hk hl SA SK)<|?_;clear M;rintro _ w M ⟨b4,rfl,hb4⟩
 refine g_t rfl h3b<|Cu rfl<|A1 rfl h3b rfl<|Ap rfl ?_ ?_
 ·intro h5b;have h5:=Ag h5b;have h5c:(b4)=false:=(Ag h5b);refine Ad<|Ab rfl<|Al<|Ak rfl rfl<|?_
  exact ⟨M.weaken dS1,1000,rfl,Cnt.bad (by clear M;grind)⟩
 intro h6b;have h6:=Ah h6b;have h6c:(b4)=true:=(Ah h6b);refine Ao<|Ai<|?_
 have hAl:Fi x:=by clear M;grind
 have hl1:1≤lev:=by omega
 have hkl:=O4 hAl;refine Aw<|Ab rfl<|Ai<|Ad<|Ab rfl<|Ar<|fun a F=>Bi (fun m a' w'=>∃ (i:Nat),∃ (c:Nat),m=x.kids.length - i∧Fits 36 a' [(1,.int .i64 ((lev:Int))),(2,.pointer (some ⟨b1,0,none⟩)),(5,.int .i64 ((c:Nat):Int)),(6,.int .i64 ((i:Nat):Int))]∧Mem w0 G (.blk b1 [.int .u8 x.kind,.string (str x.tag),.string (str x.key),.slice ta x.as.length tc,.string (str x.text),.slice ka x.kids.length kc] 193::L) w'∧(i≤x.kids.length)∧(CntL Fi x lev i c)) _ ⟨0,1,rfl,F.to ⟨rfl,rfl,rfl,rfl,trivial⟩,M,Nat.zero_le _,CntL.zero _ _⟩ ?_
 clear F M;rintro m a w ⟨i,c,rfl,F,M,hi,hL⟩;revert a;refine Ai<|Ai<|?_
 have hchi:=hL.hi;refine Aw<|Aa rfl<|A9 Ba.k rfl rfl<|Bl Ci M 0 rfl rfl rfl rfl<|Cf Ci.k rfl<|Co rfl rfl<|Aa rfl<|?_
 rcases bE (decide (((i:Nat):Int) < ((x.kids.length:Nat):Int))) with h7b | h13b
 ·skip
  have h7:=dT h7b;refine g_t rfl h7b<|Aa rfl<|g_t rfl h7b<|Ke rfl rfl<|A7 rfl h7b rfl<|qD rfl ?_ ?_
  ·intro h8;refine Ao<|Ai<|Ar<|Aw<|Aa rfl<|A9 Ba.k rfl rfl<|Bl Ci M 0 rfl rfl rfl rfl<|Aa rfl<|?_
   obtain ⟨Xe9,hXe9⟩:=A0 (xs:=x.kids) (i:=i) (by omega);obtain ⟨be9,oe9,_,Ie9,_,Ae9,hTe9⟩:=SK.at hXe9;obtain ⟨tae9,tce9,kae9,kce9,rfl,hke9,hle9,SAe9,SKe9⟩:=Gu hTe9;refine Db Ci.k Ba Ie9 rfl rfl<|Aq (fun a F=>Bj Ba rfl (F.ev rfl) (cs:=[.int .u8 Xe9.kind,.string (str Xe9.tag),.string (str Xe9.key),.slice tae9 Xe9.as.length tce9,.string (str Xe9.text),.slice kae9 Xe9.kids.length kce9]) rfl (M.cellsA Ae9 0 (by omega) rfl)) rfl<|Aa rfl<|s_sub rfl rfl<|?_
   have hs10:((lev:Int) - 1:Int)=((lev - 1:Nat):Int):=by omega
   intro a F;rw [hs10] at F;revert a;refine Bc Yh rfl rfl (ih Xe9 (List.mem_of_getElem? hXe9) _ _ _ _ _ _ _ _ (lev - 1) M hke9 hle9 SAe9 SKe9 (by omega))<|?_;clear M;rintro _ w M ⟨r11,rfl,hr11⟩
   have hir11:=hr11.hi;have lor11:=hr11.lo;refine Bw rfl rfl<|Ab rfl<|Aw<|Aa rfl<|Bw rfl rfl<|Ab rfl<|Au<|Ch<|fun a F=>?_
   exact ⟨_,by omega,i+1,c+r11,rfl,F.to ⟨rfl,rfl,rfl,rfl,trivial⟩,M,by omega,hL.step (by omega) (by omega) hXe9 hr11⟩
  intro h12;refine Br<|Bu<|Bu<|C6<|Ad<|Aa rfl<|Ab rfl<|Al<|Ak rfl rfl<|?_
  exact ⟨M.weaken dS1,c,rfl,hL.done (by omega) hAl (by omega)⟩
 have h13:=dF h13b;refine g_f rfl h13b<|g_f rfl h13b<|A1 rfl h13b rfl<|Cq rfl rfl<|Br<|Bu<|Bu<|C6<|Ad<|Aa rfl<|Ab rfl<|Al<|Ak rfl rfl<|?_
 exact ⟨M.weaken dS1,c,rfl,hL.done (by omega) hAl (by omega)⟩
theorem Xb (x:NT):RcntP x:=by
 induction x using Tr.ind with
 | _ x ih=>intro w0 w G L ta ka tc kc lev M hk hl SA SK hlev;exact U9 ih M hk hl SA SK hlev
theorem Qx (M:Mem w0 G L w) {x:NT} {ta:Option Addr} {tc:Nat} {ka:Option Addr} {kc:Nat} (hk:Bh .u8 x.kind) (hl:(x.tag.length≤9223372036854775807∧x.key.length≤9223372036854775807∧x.text.length≤9223372036854775807)) (SA:A8 Fb 2 G (.slice ta x.as.length tc) x.as) (SK:A8 rdN 6 G (.slice ka x.kids.length kc) x.kids):Calls Tryz.prog 153 #[.agg #[.int .u8 x.kind,.string (str x.tag),.string (str x.key),.slice ta x.as.length tc,.string (str x.text),.slice ka x.kids.length kc]] w (B5 w0 G L fun v=>v=.int .i64 ((cntF x:Nat):Int)):=by
 refine Az (vs:=[_]) Tryz.func153 rfl (n:=9) rfl rfl<|Ad<|G4 M rfl rfl rfl<|?_;clear M;intro b1 w M
 refine Ab rfl<|Ad<|F8 Ba M 0 rfl rfl rfl rfl<|Bc Yh rfl rfl (Xb x _ _ _ _ _ _ _ _ 6 M hk hl SA SK (by omega))<|?_;clear M;rintro _ w M ⟨r2,rfl,hr2⟩
 have hir2:=hr2.hi;have lor2:=hr2.lo;refine Ab rfl<|Ai<|Ad<|Aa rfl<|C5 rfl rfl<|qD rfl ?_ ?_
 ·intro h3;refine Ad<|Ab rfl<|Al<|Ak rfl rfl<|?_
  exact ⟨M.weaken dS1,by rw [hr2.cntF.1 (by omega)];rfl⟩
 intro h4;refine Ao<|Ad<|Aa rfl<|Ab rfl<|Al<|Ak rfl rfl<|?_
 exact ⟨M.weaken dS1,by rw [hr2.cntF.2 (by omega)]⟩
theorem D1 (M:Mem w0 G L w) {x:NT} {ta:Option Addr} {tc:Nat} {ka:Option Addr} {kc:Nat} (hk:Bh .u8 x.kind) (hl:(x.tag.length≤9223372036854775807∧x.key.length≤9223372036854775807∧x.text.length≤9223372036854775807)) (SA:A8 Fb 2 G (.slice ta x.as.length tc) x.as) (SK:A8 rdN 6 G (.slice ka x.kids.length kc) x.kids):Calls Tryz.prog 152 #[.agg #[.int .u8 x.kind,.string (str x.tag),.string (str x.key),.slice ta x.as.length tc,.string (str x.text),.slice ka x.kids.length kc]] w (B5 w0 G L fun v=>v=.int .i64 (Qd x)):=by
 refine Az (vs:=[_]) Tryz.func152 rfl (n:=6) rfl rfl<|Ad<|G4 M rfl rfl rfl<|?_;clear M;intro b1 w M
 refine Ab rfl<|Ai<|Ad<|F8 Ba M 0 rfl rfl rfl rfl<|Bc ent153 rfl rfl (Qx (x:=x) M hk hl SA SK)<|?_;clear M;rintro _ w M rfl
 refine C2 rfl rfl<|qD rfl ?_ ?_
 ·intro h2;refine Ad<|Ab rfl<|Al<|Ak rfl rfl<|?_
  exact ⟨M.weaken dS1,by rw [Um fun h_=>by have:=Ks.2 h_;omega]⟩
 intro h3;refine Ao<|Ad<|Ab rfl<|Al<|Ak rfl rfl<|?_
 exact ⟨M.weaken dS1,by rw [Ry (Ks.1 (by omega))]⟩
open Go Go.Y
theorem Q3 {s:List UInt8}:F6 (.mk 1 s [] [] [] [])↔Cb s:=by
 unfold F6
 constructor
 ·rintro ⟨⟨h,_⟩,_⟩
  rcases h with ⟨h1,_⟩ | ⟨_,_,h,_⟩
  ·exact absurd h1 (by simp [Tr.kind])
  exact h
 intro h;refine ⟨⟨Or.inr ⟨by simp [Tr.kind],rfl,h,Or.inl rfl,rfl,by simp [Tr.as],by simp [Tr.kids],fun i x hx=>?_,fun i j a b _ ha=>?_⟩,fun c hc=>?_⟩,by simp [Tr.size,Tr.sizes]⟩
 ·simp [Tr.as] at hx
 ·simp [Tr.kids] at ha
 simp [Tr.kids] at hc
theorem V6 {x:NT}:Qd x=0↔F6 x:=by
 unfold Qd
 split
 ·rename_i h;exact ⟨fun _=>h,fun _=>rfl⟩
 rename_i h;exact ⟨fun h2=>(by cases h2),fun h2=>absurd h2 h⟩
def Nn (x:SlotD):Prop:=Cb x.n∧x.src≤3∧Str x.v∧(x.src=0∨x.v=[])
def Gm (l:List SlotD) (i:Nat):Prop:=∀ (m:Nat) (x:SlotD),m < i→l[m]?=some x→Nn x∧∀ y,0 < m→l[m - 1]?=some y→Op.bytesLess y.n x.n=true
def Ku (l:List SlotD):Prop:=l.length≤8∧Gm l l.length
theorem Gm.zero (l:List SlotD):Gm l 0:=fun m x h=>by omega
theorem Gm.step {l:List SlotD} {i:Nat} {x:SlotD} (h:Gm l i) (hx:l[i]?=some x) (hn:Nn x) (ho:∀ y,0 < i→l[i - 1]?=some y→Op.bytesLess y.n x.n=true):Gm l (i+1):=by
 intro m z hm hz
 rcases Nat.eq_or_lt_of_le (show m≤i by omega) with e | e
 ·subst e;rw [hx] at hz;simp only [Option.some.injEq] at hz;subst hz;exact ⟨hn,ho⟩
 exact h m z e hz
theorem Gm.done {l:List SlotD} {i:Nat} (h:Gm l i) (h8:l.length≤8) (hi:l.length≤i):Ku l:=⟨h8,fun m x hm hx=>h m x (by omega) hx⟩
def Tt (x:PT):Prop :=
 (x.kind=1∧Cb x.tag∧(x.key=[]∨Cb x.key)∧Ku x.as∧x.text=[]∧x.kids.length≤16) ∨
 (x.kind=2∧Str x.text∧x.tag=[]∧x.key=[]∧x.as.length=0∧x.kids.length=0) ∨
 ((x.kind=3∨x.kind=4)∧x.text=[]∧x.tag=[]∧x.key=[]∧x.as.length=0∧x.kids.length=0) ∨
 (x.kind=5∧Cb x.tag∧Ku x.as∧x.key=[]∧x.text=[]∧x.kids.length=0)
def Yx (x:PT):Prop:=x.kind=1∧Tr.Ok Tt 6 x∧x.size≤64
section
variable {β σ:Type} (f:σ→Tr β→σ)
end
theorem K3 {α:Type} {p:α→Prop} {l:List α} {i:Nat} {x:α} (h:∀ (m:Nat) (y:α),m < i→l[m]?=some y→p y) (hx:l[i]?=some x) (hp:p x):∀ (m:Nat) (y:α),m < i+1→l[m]?=some y→p y:=by
 intro m y hm hy
 rcases Nat.eq_or_lt_of_le (show m≤i by omega) with e | e
 ·subst e;rw [hx] at hy;simp only [Option.some.injEq] at hy;subst hy;exact hp
 exact h m y e hy
structure ItemD where
 key:Int
 typ:Int
 text:List UInt8
 marks:List (List UInt8)
def Bv (x:ItemD):Prop:=¬ x.key=0∧Str x.text∧x.marks.length≤8∧∀ s∈x.marks,Cb s
open Classical in
noncomputable def Dh (x:ItemD):Int:=if Bv x then 0 else 6
theorem Cs {x:ItemD} (h:Bv x):Dh x=0:=by unfold Dh;rw [if_pos h]
theorem Ek {x:ItemD} (h:¬ Bv x):Dh x=6:=by unfold Dh;rw [if_neg h]
theorem E3 {l:List (List UInt8)} {i:Nat} (h:∀ (m:Nat) (s:List UInt8),m < i→l[m]?=some s→Cb s) (hi:l.length≤i):∀ s∈l,Cb s:=by
 intro s hs;obtain ⟨m,hm⟩:=List.mem_iff_getElem?.1 hs
 exact h m s (by have:=Bm hm;omega) hm
theorem E8 (u:Nat):Lib.decDigits u=(if u / 10=0 then [] else Lib.decDigits (u / 10))++[UInt8.ofNat (48+u % 10)]:=by
 rw [Lib.decDigits]
 split
 ·rename_i h
  rw [if_pos (by omega),Nat.mod_eq_of_lt h]
  rfl
 rename_i h
 rw [if_neg (by omega)]
theorem Ed (u:Nat) (h:u < 18446744073709551616):(Lib.decDigits u).length≤20:=by
 rw [Lib.decDigits_length]
 rcases Nat.eq_zero_or_pos u with h0 | h0
 ·subst h0;rw [Lib.nDigits_small (by decide)];omega
 have h1:=Lib.numDigits_eq u h0 h
 split at h1 <;> omega
theorem O1:∀ k:Nat,k < 10→(([48,49,50,51,52,53,54,55,56,57]:List UInt8).take (k+1)).drop k=[UInt8.ofNat (48+k)]:=by decide
theorem O2 {k:Nat} (h:k < 10):Lib.decDigits k=[UInt8.ofNat (48+k)]:=by
 rw [E8,if_pos (by omega),Nat.mod_eq_of_lt h];rfl
def Cy (s:List UInt8):NT:=.mk 2 [] [] [] s []
section
variable {p:PT} {x:ItemD} {most:Int}
end
theorem Cr {x:ItemD}:Dh x=0↔Bv x:=by
 unfold Dh
 split
 ·rename_i h;exact ⟨fun _=>h,fun _=>rfl⟩
 rename_i h;exact ⟨fun h2=>(by cases h2),fun h2=>absurd h2 h⟩
theorem Qk {w0 w:World} {G:Av} {L:List Res} (M:Mem w0 G L w) {s:List UInt8} (hs:s.length≤9223372036854775807):Calls Tryz.prog 216 #[.string (str s)] w (B5 w0 G L fun v=>∃ b:Bool,v=.bool b∧(b=true↔Cb s)):=by
 refine Az (vs:=[_]) Tryz.func216 rfl (n:=7) rfl rfl<|Ad<|Ab rfl<|Ad<|Aa rfl<|Aq (fun a F=>Bf (cs:=[.int .u8 1,.string (str s),.string (str []),.slice none 0 0,.string (str []),.slice none 0 0]) (ps:=[(0,.int .u8 1),(1,.string (str s))]) Ba.k rfl Ba (F.evp rfl) rfl) rfl<|Bc ent229 rfl rfl (Iu (x:=(.mk 1 s ([]:List UInt8) [] ([]:List UInt8) []:NT)) M ⟨by show (0:Int)≤1;omega,by show 1≤(255:Int);omega⟩ ⟨by first | exact Nat.zero_le _ | assumption | (simp only [Tr.tag,Tr.key,Tr.text];omega),by first | exact Nat.zero_le _ | assumption | (simp only [Tr.tag,Tr.key,Tr.text];omega),by first | exact Nat.zero_le _ | assumption | (simp only [Tr.tag,Tr.key,Tr.text];omega)⟩ A8.nil A8.nil)<|?_;clear M;rintro _ w M rfl
 refine C2 rfl rfl<|Ab rfl<|Al<|Ak rfl rfl<|?_
 exact ⟨M,(decide (Qd ((.mk 1 s ([]:List UInt8) [] ([]:List UInt8) []:NT))=0)),rfl,(decide_eq_true_iff.trans (V6.trans Q3))⟩
theorem Yv (M:Mem w0 G L w) {s:List UInt8} (hs:s.length≤9223372036854775807):Calls Tryz.prog 215 #[.string (str s)] w (B5 w0 G L fun v=>∃ b:Bool,v=.bool b∧(b=true↔¬ Cb s)):=by
 refine Az (vs:=[_]) Tryz.func215 rfl (n:=6) rfl rfl<|Ad<|Ab rfl<|Ad<|Aa rfl<|Bc ent216 rfl rfl (Qk (s:=s) M (by assumption))<|?_;clear M;rintro _ w M ⟨b1,rfl,hb1⟩
 refine Cu rfl<|Ab rfl<|Al<|Ak rfl rfl<|?_
 exact ⟨M,(!(b1)),rfl,(by clear M;grind)⟩
theorem K9 (M:Mem w0 G L w) {ad:Option Addr} {cd:Nat} {xs:List (List UInt8)} (S:A8 Cj 1 G (.slice ad xs.length cd) xs):Calls Tryz.prog 104 #[.slice ad xs.length cd,.func (.func 215) #[] #[]] w (B5 w0 G L fun v=>∃ z:Int,v=.int .i64 z∧(0≤z↔¬ ∀ s∈xs,Cb s)):=by
 have bS:=S.bound;refine Az (vs:=[_,_]) Tryz.func104 rfl (n:=19) rfl rfl<|Ad<|Ab rfl<|Ai<|Ad<|Aa rfl<|Cf A5.k rfl<|Aa rfl<|Ar<|fun a F=>Bi (fun m a' w'=>∃ (i:Nat),m=xs.length - i∧Fits 19 a' [(0,.slice ad xs.length cd),(1,.func (.func 215) #[] #[]),(7,.int .i64 ((xs.length:Nat):Int)),(8,.int .i64 ((i:Nat):Int))]∧Mem w0 G (L) w'∧(i≤xs.length)∧(∀ (m:Nat) (s:List UInt8),m < i→xs[m]?=some s→Cb s)) _ ⟨0,rfl,F.to ⟨rfl,rfl,rfl,rfl,trivial⟩,M,Nat.zero_le _,fun m d h=>by omega⟩ ?_
 clear F M;rintro m a w ⟨i,rfl,F,M,hi,hA⟩;revert a;refine Ad<|Co rfl rfl<|Ai<|qD rfl ?_ ?_
 ·intro h1;refine Ao<|Ai<|Ar<|Ad<|Aa rfl<|Ab rfl<|Ad<|Aa rfl<|Aa rfl<|Aa rfl<|?_
  obtain ⟨Xe2,hXe2⟩:=A0 (xs:=xs) (i:=i) (by omega);obtain ⟨be2,oe2,_,Ie2,_,Ae2,⟨rfl,hsle2⟩⟩:=S.at hXe2;refine Db A5.k A6 Ie2 rfl rfl<|Dm A6 M Ae2 0 rfl rfl (by omega) rfl<|Si ent215 (caps:=[]) rfl rfl rfl (Yv (s:=Xe2) M (by omega))<|?_;clear M;rintro _ w M ⟨b3,rfl,hb3⟩
  refine Ap rfl ?_ ?_
  ·intro h4b;have h4:(b3)=true:=h4b;refine Ad<|Aa rfl<|Ab rfl<|Al<|Ak rfl rfl<|?_
   exact ⟨M,_,rfl,⟨fun _ h_=>(hb3.1 (by assumption)) (h_ _ (List.mem_of_getElem? hXe2)),fun _=>by omega⟩⟩
  intro h5b;have h5:(b3)=false:=h5b;refine Ao<|Aw<|Bw rfl rfl<|Aa rfl<|Au<|Ch<|fun a F=>?_
  exact ⟨_,by omega,i+1,rfl,F.to ⟨rfl,rfl,rfl,rfl,trivial⟩,M,by omega,K3 hA hXe2 (by clear F M;grind)⟩
 intro h6;refine Br<|Bu<|Bu<|C6<|Ad<|Ab rfl<|Al<|Ak rfl rfl<|?_
 exact ⟨M,_,rfl,⟨fun h=>by omega,fun h=>absurd (E3 hA (by omega)) h⟩⟩
theorem Ni (M:Mem w0 G L w) {ad:Option Addr} {cd:Nat} {xs:List (List UInt8)} (S:A8 Cj 1 G (.slice ad xs.length cd) xs):Calls Tryz.prog 51 #[.slice ad xs.length cd,.func (.func 215) #[] #[]] w (B5 w0 G L fun v=>∃ b:Bool,v=.bool b∧(b=true↔¬ ∀ s∈xs,Cb s)):=by
 refine Az (vs:=[_,_]) Tryz.func51 rfl (n:=9) rfl rfl<|Ad<|Ab rfl<|Ad<|Aa rfl<|Aa rfl<|Bc Ym rfl rfl (K9 (xs:=xs) M S)<|?_;clear M;rintro _ w M ⟨z1,rfl,hz1⟩
 refine Jc rfl rfl<|Ab rfl<|Al<|Ak rfl rfl<|?_
 exact ⟨M,_,rfl,decide_eq_true_iff.trans hz1⟩
end Go.Proofs.YtmmhmcplegpenaaGreatDoor.T
