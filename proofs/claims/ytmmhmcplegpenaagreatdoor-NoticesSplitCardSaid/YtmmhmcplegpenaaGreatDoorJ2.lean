/- The walks, part TB. · The walks, part TC. · Templates: slots, valid parts; what a walk over all parts does. -/
import Derived.Test.YtmmhmcplegpenaaGreatDoorJ1
set_option linter.unusedSimpArgs false
set_option linter.unusedVariables false
set_option maxRecDepth 10000
namespace Go.Proofs.YtmmhmcplegpenaaGreatDoor.T
open Go Go.Y Go.Proofs
variable {w0 w:World} {G:Aq} {L:List Res}
set_option maxHeartbeats 1600000
theorem Ale {w0 w:World} {G:Aq} {L:List Res} {b:Nat} {x d:NT} {ta ka tad kad:Option Addr} {tc kc tcd kcd:Nat} (M:Mem w0 G (.blk b [.int .u8 x.kind,.string (str x.tag),.string (str x.key),.slice ta x.as.length tc,.string (str x.text),.slice ka x.kids.length kc] 193::L) w) :
  Calls Tryz.prog 239 #[.agg #[.int .u8 d.kind,.string (str d.tag),.string (str d.key),.slice tad d.as.length tcd,.string (str d.text),.slice kad d.kids.length kcd],.pointer (some ⟨b,0,none⟩)] w (Bu w0 G (.blk b [.int .u8 x.kind,.string (str x.tag),.string (str x.key),.slice ta x.as.length tc,.string (str x.text),.slice ka x.kids.length kc] 193::L) fun v=>v=.bool (decide (d.key=x.key))):=by
 refine Al (vs:=[_,_]) Tryz.func239 rfl (n:=9) rfl rfl<|?_
 refine Bt<|?_
 refine B2 M rfl rfl rfl<|?_;clear M;intro b1 w M
 refine wk ?_;refine Ad rfl rfl<|?_
 exact ⟨M.weaken (cN (cC (sR _))),by simp⟩
theorem Qj {w0 w:World} {G:Aq} {L:List Res} {b:Nat} {x:NT} {ta ka:Option Addr} {tc kc:Nat} (M:Mem w0 G (.blk b [.int .u8 x.kind,.string (str x.tag),.string (str x.key),.slice ta x.as.length tc,.string (str x.text),.slice ka x.kids.length kc] 193::L) w) {ks:List NT} {kad:Option Addr} {kcd:Nat} (S:Ag rdN 6 G (.slice kad ks.length kcd) ks) (hks:ks.length≤9223372036854775807) :
  Calls Tryz.prog 242 #[.slice kad ks.length kcd,.func (.func 239) #[] #[.pointer (some ⟨b,0,none⟩)]] w (Bu w0 G (.blk b [.int .u8 x.kind,.string (str x.tag),.string (str x.key),.slice ta x.as.length tc,.string (str x.text),.slice ka x.kids.length kc] 193::L) fun v=>∃ z:Int,v=.int .i64 z∧(0≤z↔Zu ks x.key)):=by
 refine Al (vs:=[_,_]) Tryz.func242 rfl (n:=19) rfl rfl<|?_
 refine wk ?_;refine fun a F=>Ba (fun m a' w'=>∃ (i:Nat),m=ks.length - i∧Fits 19 a' [(0,.slice kad ks.length kcd),(1,.func (.func 239) #[] #[.pointer (some ⟨b,0,none⟩)]),(7,.int .i64 ((ks.length:Nat):Int)),(8,.int .i64 ((i:Nat):Int))]∧Mem w0 G (.blk b [.int .u8 x.kind,.string (str x.tag),.string (str x.key),.slice ta x.as.length tc,.string (str x.text),.slice ka x.kids.length kc] 193::L) w'∧(i≤ks.length)∧(∀ (m:Nat) (d:NT),m < i→ks[m]?=some d→d.key≠x.key)) _ ⟨0,rfl,F.to ⟨rfl,rfl,rfl,rfl,trivial⟩,M,Nat.zero_le _,fun m d h=>by omega⟩ ?_;clear F M;rintro m a w ⟨i,rfl,F,M,hi,hA⟩;revert a;refine wk ?_;refine qD rfl ?_ ?_
 ·intro h1;refine wk ?_;obtain ⟨Xe2,hXe2⟩:=Ap (xs:=ks) (i:=i) (by omega);obtain ⟨be2,oe2,_,Ie2,_,Ae2,hTe2⟩:=S.at hXe2;obtain ⟨tae2,tce2,kae2,kce2,rfl,hke2,hle2,SAe2,SKe2⟩:=Dn hTe2;refine wk ?_;replace M:=z_M M;refine Aef ent239 (caps:=[.pointer (some ⟨b,0,none⟩)]) rfl rfl rfl (Ale (x:=x) (d:=Xe2) M)<|?_;clear M;rintro _ w M rfl
  refine Ao<|F1<|?_
  refine qD rfl ?_ ?_
  ·intro h3;refine wk ?_;refine Ad rfl rfl<|?_
   exact ⟨M,_,rfl,⟨fun _=>⟨_,List.mem_of_getElem? hXe2,by assumption⟩,fun _=>by omega⟩⟩
  intro h4;refine wk ?_;intro a F
  exact ⟨_,by omega,i+1,rfl,F.to ⟨rfl,rfl,rfl,rfl,trivial⟩,M,by omega,fun m d hm hd=>by rcases Nat.eq_or_lt_of_le (show m≤i by omega) with e | e;(subst e;rw [hXe2] at hd;simp only [Option.some.injEq] at hd;subst hd;assumption);exact hA m d e hd⟩
 intro h5;refine wk ?_;refine Ad rfl rfl<|?_
 exact ⟨M,_,rfl,⟨fun h=>by omega,fun ⟨d,hd,he⟩=>by obtain ⟨m,hm⟩:=List.mem_iff_getElem?.1 hd;exact absurd he (hA m d (by have:=A0 hm;omega) hm)⟩⟩
theorem Aga {w0 w:World} {G:Aq} {L:List Res} {b:Nat} {x:NT} {ta ka:Option Addr} {tc kc:Nat} (M:Mem w0 G (.blk b [.int .u8 x.kind,.string (str x.tag),.string (str x.key),.slice ta x.as.length tc,.string (str x.text),.slice ka x.kids.length kc] 193::L) w) {ks:List NT} {kad:Option Addr} {kcd:Nat} (S:Ag rdN 6 G (.slice kad ks.length kcd) ks) (hks:ks.length≤9223372036854775807) :
  Calls Tryz.prog 238 #[.slice kad ks.length kcd,.func (.func 239) #[] #[.pointer (some ⟨b,0,none⟩)]] w (Bu w0 G (.blk b [.int .u8 x.kind,.string (str x.tag),.string (str x.key),.slice ta x.as.length tc,.string (str x.text),.slice ka x.kids.length kc] 193::L) fun v=>∃ bb:Bool,v=.bool bb∧(bb=true↔Zu ks x.key)):=by
 refine Al (vs:=[_,_]) Tryz.func238 rfl (n:=9) rfl rfl<|?_
 refine wk ?_;replace M:=z_M M;refine A4 ent242 rfl rfl (Qj (x:=x) (ks:=ks) M S (by omega))<|?_;clear M;rintro _ w M ⟨z1,rfl,hz1⟩
 refine wk ?_;refine Ad rfl rfl<|?_
 exact ⟨M,_,rfl,decide_eq_true_iff.trans hz1⟩
theorem Agj (M:Mem w0 G L w) {x:NT} {ta:Option Addr} {tc:Nat} {ka:Option Addr} {kc:Nat} (hk:Au .u8 x.kind) (hl:(x.tag.length≤9223372036854775807∧x.key.length≤9223372036854775807∧x.text.length≤9223372036854775807)) (SA:Ag Dy 2 G (.slice ta x.as.length tc) x.as) (SK:Ag rdN 6 G (.slice ka x.kids.length kc) x.kids) {nb no:Nat} (A:At G nb no [.int .u8 x.kind,.string (str x.tag),.string (str x.key),.slice ta x.as.length tc,.string (str x.text),.slice ka x.kids.length kc]):Calls Tryz.prog 233 #[.pointer (some ⟨nb,no,none⟩)] w (Bu w0 G L fun v=>∃ bb:Bool,v=.bool bb∧(bb=true↔Hr x)):=by
 refine Al (vs:=[_]) Tryz.func233 rfl (n:=161) rfl rfl<|?_
 refine wk ?_;refine qD rfl ?_ ?_
 ·intro h1;refine wk ?_;refine A4 Arc rfl rfl (Kz (s:=x.text) M (by omega))<|?_;clear M;rintro _ w M ⟨b2,rfl,hb2⟩
  refine C0 rfl<|?_
  rcases bE (b2) with h3b | h10b
  ·skip
   have h3:(b2)=true:=h3b;refine wk ?_
   rcases bE (decide (x.tag=([]:List UInt8))) with h4b | h9b
   ·skip
    have h4:=dT h4b;refine wk ?_
    rcases bE (decide (x.key=([]:List UInt8))) with h5b | h8b
    ·skip
     have h5:=dT h5b;refine wk ?_
     rcases bE (decide (((x.as.length:Nat):Int)=0)) with h6b | h7b
     ·skip
      have h6:=dT h6b;refine wk ?_;refine Ad rfl rfl<|?_
      exact ⟨M,(decide (((x.kids.length:Nat):Int)=0)),rfl,(by rw [E4 (by assumption)];clear M;grind)⟩
     have h7:=dF h7b;refine wk ?_;refine Ad rfl rfl<|?_
     exact ⟨M,false,rfl,(by rw [E4 (by assumption)];clear M;grind)⟩
    have h8:=dF h8b;refine wk ?_;refine Ad rfl rfl<|?_
    exact ⟨M,false,rfl,(by rw [E4 (by assumption)];clear M;grind)⟩
   have h9:=dF h9b;refine wk ?_;refine Ad rfl rfl<|?_
   exact ⟨M,false,rfl,(by rw [E4 (by assumption)];clear M;grind)⟩
  have h10:(b2)=false:=h10b;refine g_f rfl h10b<|g_f rfl h10b<|g_f rfl h10b<|g_f rfl h10b<|g_f rfl h10b<|Hj rfl h10b rfl<|C0 rfl<|g_f rfl rfl<|g_f rfl rfl<|g_f rfl rfl<|g_f rfl rfl<|g_f rfl rfl<|Hj rfl rfl rfl<|C0 rfl<|g_f rfl rfl<|g_f rfl rfl<|g_f rfl rfl<|g_f rfl rfl<|g_f rfl rfl<|g_f rfl rfl<|Hj rfl rfl rfl<|C0 rfl<|g_f rfl rfl<|g_f rfl rfl<|g_f rfl rfl<|g_f rfl rfl<|g_f rfl rfl<|g_f rfl rfl<|Hj rfl rfl rfl<|Ew rfl<|E9<|Gr<|?_
  refine Ad rfl rfl<|?_
  exact ⟨M,false,rfl,(by rw [E4 (by assumption)];clear M;grind)⟩
 intro h11;refine F3<|Cj<|Cj<|?_
 refine fun a F=>Jo (fun a' w'=>∃ (bb:Bool),Fits 161 a' [(0,.pointer (some ⟨nb,no,none⟩)),(97,.bool bb)]∧Mem w0 G (L) w'∧(bb=true↔¬ It x)) ?_ ?_
 ·skip
  revert a;refine wk ?_
  rcases bE (!(decide (x.kind=1))) with h12b | h13b
  ·skip
   have h12:=dF (Ab h12b);have h12c:(decide (x.kind=1))=false:=(Ab h12b);refine wk ?_;intro a F
   exact ⟨true,F.to ⟨rfl,rfl,trivial⟩,M,by unfold It;clear F M;grind⟩
  have h13:=dT (Ac h13b);have h13c:(decide (x.kind=1))=true:=(Ac h13b);refine wk ?_;refine A4 Afs rfl rfl (L7 (s:=x.tag) M (by omega))<|?_;clear M;rintro _ w M ⟨b14,rfl,hb14⟩
  refine wk ?_
  rcases bE (!(b14)) with h15b | h16b
  ·skip
   have h15:=Ab h15b;have h15c:(b14)=false:=(Ab h15b);refine wk ?_;intro a F
   exact ⟨true,F.to ⟨rfl,rfl,trivial⟩,M,by unfold It;clear F M;grind⟩
  have h16:=Ac h16b;have h16c:(b14)=true:=(Ac h16b);refine wk ?_
  rcases bE (!(decide (x.key=([]:List UInt8)))) with h17b | h25b
  ·skip
   have h17:=dF (Ab h17b);have h17c:(decide (x.key=([]:List UInt8)))=false:=(Ab h17b);refine wk ?_;refine A4 Afs rfl rfl (L7 (s:=x.key) M (by omega))<|?_;clear M;rintro _ w M ⟨b18,rfl,hb18⟩
   refine wk ?_
   rcases bE (!(b18)) with h19b | h20b
   ·skip
    have h19:=Ab h19b;have h19c:(b18)=false:=(Ab h19b);refine wk ?_;intro a F
    exact ⟨true,F.to ⟨rfl,rfl,trivial⟩,M,by unfold It;clear F M;grind⟩
   have h20:=Ac h20b;have h20c:(b18)=true:=(Ac h20b);refine wk ?_
   rcases bE (!(decide (x.text=([]:List UInt8)))) with h21b | h22b
   ·skip
    have h21:=dF (Ab h21b);have h21c:(decide (x.text=([]:List UInt8)))=false:=(Ab h21b);refine wk ?_;intro a F
    exact ⟨true,F.to ⟨rfl,rfl,trivial⟩,M,by unfold It;clear F M;grind⟩
   have h22:=dT (Ac h22b);have h22c:(decide (x.text=([]:List UInt8)))=true:=(Ac h22b);refine wk ?_
   rcases bE (decide (8 < ((x.as.length:Nat):Int))) with h23b | h24b
   ·skip
    have h23:=dT h23b;refine wk ?_;intro a F
    exact ⟨true,F.to ⟨rfl,rfl,trivial⟩,M,by unfold It;clear F M;grind⟩
   have h24:=dF h24b;refine wk ?_;intro a F
   exact ⟨(decide (16 < ((x.kids.length:Nat):Int))),F.to ⟨rfl,rfl,trivial⟩,M,by unfold It;clear F M;grind⟩
  have h25:=dT (Ac h25b);have h25c:(decide (x.key=([]:List UInt8)))=true:=(Ac h25b);refine wk ?_
  rcases bE (!(decide (x.text=([]:List UInt8)))) with h26b | h27b
  ·skip
   have h26:=dF (Ab h26b);have h26c:(decide (x.text=([]:List UInt8)))=false:=(Ab h26b);refine wk ?_;intro a F
   exact ⟨true,F.to ⟨rfl,rfl,trivial⟩,M,by unfold It;clear F M;grind⟩
  have h27:=dT (Ac h27b);have h27c:(decide (x.text=([]:List UInt8)))=true:=(Ac h27b);refine wk ?_
  rcases bE (decide (8 < ((x.as.length:Nat):Int))) with h28b | h29b
  ·skip
   have h28:=dT h28b;refine wk ?_;intro a F
   exact ⟨true,F.to ⟨rfl,rfl,trivial⟩,M,by unfold It;clear F M;grind⟩
  have h29:=dF h29b;refine wk ?_;intro a F
  exact ⟨(decide (16 < ((x.kids.length:Nat):Int))),F.to ⟨rfl,rfl,trivial⟩,M,by unfold It;clear F M;grind⟩
 clear F M;rintro a w ⟨bb,F,M,hbb⟩;revert a;refine F1<|?_
 refine Ae rfl ?_ ?_
 ·intro h30b;have h30:(bb)=true:=h30b;refine wk ?_;refine Ad rfl rfl<|?_
  exact ⟨M,false,rfl,(by rw [Ev (by assumption)];have q99:=@Fm;clear M;grind)⟩
 intro h31b;have h31:(bb)=false:=h31b;refine wk ?_;have hE:It x:=by clear M;grind
 obtain ⟨hE1,hE2,hE3,hE4,hE5,hE6⟩:=id hE;refine wk ?_;refine fun a F=>Ba (fun m a' w'=>∃ (i:Nat),m=x.as.length - i∧Fits 161 a' [(0,.pointer (some ⟨nb,no,none⟩)),(101,.slice ta x.as.length tc),(102,.int .i64 ((x.as.length:Nat):Int)),(103,.int .i64 ((i:Nat):Int))]∧Mem w0 G (L) w'∧(i≤x.as.length)∧(Hp x.as i)) _ ⟨0,rfl,F.to ⟨rfl,rfl,rfl,rfl,trivial⟩,M,Nat.zero_le _,Hp.zero _⟩ ?_;clear F M;rintro m a w ⟨i,rfl,F,M,hi,hA⟩;revert a;refine wk ?_;refine qD rfl ?_ ?_
 ·intro h32;refine wk ?_;obtain ⟨Xe33,hXe33⟩:=Ap (xs:=x.as) (i:=i) (by omega);obtain ⟨be33,oe33,_,Ie33,_,Ae33,⟨rfl,hn1e33,hv1e33⟩⟩:=SA.at hXe33;refine wk ?_;refine B1 M I6 rfl rfl<|?_;clear M;intro b34 w M
  refine Ew rfl<|?_
  intro a F;refine Be F M I6 0 ?_;clear F M a;intro w a M F;revert a;refine Cj<|?_
  refine fun a F=>D5 [(.free,0),(.pure,1),(.keep,2),(.free,3),(.free,4),(.free,5),(.pure,6),(.keep,7),(.free,8),(.free,9),(.free,10),(.free,11),(.free,12),(.free,13),(.free,14),(.pure,15),(.free,16),(.free,17),(.free,18),(.pure,19),(.free,20),(.free,21),(.free,22),(.free,23),(.pure,24),(.free,25),(.free,26),(.free,27)] [] (Keep G [.blk b34 [.string (str Xe33.n),.string (str Xe33.v)] 282]) rfl (by kernel_rfl) (fun c a d v w h=>by cases d <;> exact h) (Ax (M.drew _)) ?_;replace M:=M.drew (w.drawn+1);revert a;refine wk ?_;refine k_k rfl<|A4 Afs rfl rfl (L7 (s:=Xe33.n) M (by omega))<|?_;clear M;rintro _ w M ⟨b36,rfl,hb36⟩
  refine Ao<|?_
  refine eQ (Ax M)<|?_
  refine wk ?_
  rcases bE (!(b36)) with h37b | h38b
  ·skip
   have h37:=Ab h37b;have h37c:(b36)=false:=(Ab h37b);refine wk ?_;refine Ad rfl rfl<|?_
   exact ⟨(M.weaken (cN (sR _))),false,rfl,(by rw [Ev (by assumption)];have q0:=He hXe33;have q99:=@Fm;clear M;grind)⟩
  have h38:=Ac h38b;have h38c:(b36)=true:=(Ac h38b);refine wk ?_;refine fun a F=>Fj F rfl rfl (F4 h38c) ?_;revert a;refine wk ?_;refine A4 Arc rfl rfl (Kz (s:=Xe33.v) M (by omega))<|?_;clear M;rintro _ w M ⟨b39,rfl,hb39⟩
  refine Ao<|?_
  refine eQ (Ax M)<|?_
  refine wk ?_
  rcases bE (!(b39)) with h40b | h41b
  ·skip
   have h40:=Ab h40b;have h40c:(b39)=false:=(Ab h40b);refine wk ?_;refine Ad rfl rfl<|?_
   exact ⟨(M.weaken (cN (sR _))),false,rfl,(by rw [Ev (by assumption)];have q0:=He hXe33;have q99:=@Fm;clear M;grind)⟩
  have h41:=Ac h41b;have h41c:(b39)=true:=(Ac h41b);refine wk ?_
  rcases bE (decide (0 < ((i:Nat):Int))) with h42b | h47b
  ·skip
   have h42:=dT h42b;refine wk ?_;have hs43:(((i:Nat):Int) - 1:Int)=((i - 1:Nat):Int):=by omega
   intro a F;rw [hs43] at F;obtain ⟨Xe44,hXe44⟩:=Ap (xs:=x.as) (i:=i - 1) (by omega);obtain ⟨be44,oe44,_,Ie44,_,Ae44,⟨rfl,hn1e44,hv1e44⟩⟩:=SA.at hXe44;revert a;refine wk ?_;refine Lf rfl h42b (fun a F w _=>Ns (F.ev rfl) (F.ev rfl))<|?_
   refine wk ?_;refine Ae rfl ?_ ?_
   ·intro h45b;have h45:(Op.bytesLess Xe33.n Xe44.n || Xe33.n==Xe44.n)=true:=h45b;refine wk ?_;refine Ad rfl rfl<|?_
    exact ⟨(M.weaken (cN (sR _))),false,rfl,(by rw [Ev (by assumption)];have q0:=He hXe33;have q1:=fun h=>M0 hXe33 hXe44 h;have q2:=He hXe44;have q3:=fun h=>M0 hXe44 hXe33 h;have q99:=@Fm;clear M;grind)⟩
   intro h46b;have h46:(Op.bytesLess Xe33.n Xe44.n || Xe33.n==Xe44.n)=false:=h46b;refine wk ?_;intro a F
   exact ⟨_,by omega,i+1,rfl,F.to ⟨rfl,rfl,rfl,rfl,trivial⟩,(M.weaken (cN (sR _))),by omega,hA.step hXe33 (by clear F M;grind) (by clear F M;grind) (fun y h_ hy=>by rw [hXe44] at hy;simp only [Option.some.injEq] at hy;subst hy;clear F M;have q99:=@Fm;grind)⟩
  have h47:=dF h47b;refine wk ?_;intro a F
  exact ⟨_,by omega,i+1,rfl,F.to ⟨rfl,rfl,rfl,rfl,trivial⟩,(M.weaken (cN (sR _))),by omega,hA.step hXe33 (by clear F M;grind) (by clear F M;grind) (fun y h_=>by omega)⟩
 intro h48;refine wk ?_;refine fun a F=>Ba (fun m a' w'=>∃ (j:Nat),m=x.kids.length - j∧Fits 161 a' [(0,.pointer (some ⟨nb,no,none⟩)),(140,.slice ka x.kids.length kc),(141,.int .i64 ((x.kids.length:Nat):Int)),(142,.int .i64 ((j:Nat):Int))]∧Mem w0 G (L) w'∧(j≤x.kids.length)∧(Hq x.as)∧(Fb x.kids j)) _ ⟨0,rfl,F.to ⟨rfl,rfl,rfl,rfl,trivial⟩,M,Nat.zero_le _,hA.all (by omega),Fb.zero _⟩ ?_;clear F M;rintro m a w ⟨j,rfl,F,M,hj,hAO,hK⟩;revert a;refine wk ?_;refine qD rfl ?_ ?_
 ·intro h49;refine wk ?_;obtain ⟨Xe50,hXe50⟩:=Ap (xs:=x.kids) (i:=j) (by omega);obtain ⟨be50,oe50,_,Ie50,_,Ae50,hTe50⟩:=SK.at hXe50;obtain ⟨tae50,tce50,kae50,kce50,rfl,hke50,hle50,SAe50,SKe50⟩:=Dn hTe50;refine wk ?_;refine B1 M Aw rfl rfl<|?_;clear M;intro b51 w M
  refine Ew rfl<|?_
  intro a F;refine Be F M Aw 0 ?_;clear F M a;intro w a M F;replace M:=z_M M;revert a;refine wk ?_
  rcases bE (!(decide (Xe50.key=([]:List UInt8)))) with h53b | h59b
  ·skip
   have h53:=dF (Ab h53b);have h53c:(decide (Xe50.key=([]:List UInt8)))=false:=(Ab h53b);refine wk ?_;obtain ⟨as54,cs54,Is54,hms54,hcs54,Ss54⟩:=SK.partT (j) (by omega);refine Am (fun a F=>Ge Dl.k Aw Is54 (F.ev rfl) (h:=j) (kl:=.i64) (zl:=0) rfl ⟨(F.ev rfl),by omega⟩ (by omega) (by omega)) rfl<|?_
   have hf55:j - 0=(x.kids.take (j)).length:=by rw [List.length_take];omega
   intro a F;rw [hf55] at F Ss54;revert a;refine wk ?_;refine Am (fun a F=>Ct (vs:=#[.pointer (some ⟨b51,0,none⟩)]) (by simp only [List.map_toArray,List.map_cons,List.map_nil,F.ev (x:=.tmp 6) rfl])) rfl<|?_
   refine wk ?_;replace M:=z_M M;refine A4 ent238 rfl rfl (Aga (x:=Xe50) (ks:=x.kids.take (j)) M (by have h_:=Ss54;simpa using h_) (by omega))<|?_;clear M;rintro _ w M ⟨b56,rfl,hb56⟩
   refine wk ?_;refine Ae rfl ?_ ?_
   ·intro h57b;have h57:(b56)=true:=h57b;refine wk ?_;refine Ad rfl rfl<|?_
    exact ⟨(M.weaken (cN (sR _))),false,rfl,(by rw [Ev (by assumption)];have q0:=Qk hXe50;have q99:=@Fm;clear M;grind)⟩
   intro h58b;have h58:(b56)=false:=h58b;refine wk ?_;intro a F
   exact ⟨_,by omega,j+1,rfl,F.to ⟨rfl,rfl,rfl,rfl,trivial⟩,(M.weaken (cN (sR _))),by omega,hAO,hK.step hXe50 (by clear F M;first | (left;assumption) | (right;exact Rp (by grind)))⟩
  have h59:=dT (Ac h59b);have h59c:(decide (Xe50.key=([]:List UInt8)))=true:=(Ac h59b);refine wk ?_;intro a F
  exact ⟨_,by omega,j+1,rfl,F.to ⟨rfl,rfl,rfl,rfl,trivial⟩,(M.weaken (cN (sR _))),by omega,hAO,hK.step hXe50 (by clear F M;first | (left;assumption) | (right;exact Rp (by grind)))⟩
 intro h60;refine wk ?_;refine Ad rfl rfl<|?_
 exact ⟨M,true,rfl,(by rw [Ev (by assumption)];exact ⟨fun _=>⟨hE,hAO,hK.all (by omega)⟩,fun _=>rfl⟩)⟩
theorem Ajr (M:Mem w0 G L w) {x:NT} {ta:Option Addr} {tc:Nat} {ka:Option Addr} {kc:Nat} (hk:Au .u8 x.kind) (hl:(x.tag.length≤9223372036854775807∧x.key.length≤9223372036854775807∧x.text.length≤9223372036854775807)) (SA:Ag Dy 2 G (.slice ta x.as.length tc) x.as) (SK:Ag rdN 6 G (.slice ka x.kids.length kc) x.kids):Calls Tryz.prog 211 #[.agg #[.int .u8 x.kind,.string (str x.tag),.string (str x.key),.slice ta x.as.length tc,.string (str x.text),.slice ka x.kids.length kc]] w (Bu w0 G L fun v=>∃ bb:Bool,v=.bool bb∧(bb=true↔Hr x)):=by
 refine Al (vs:=[_]) Tryz.func211 rfl (n:=149) rfl rfl<|?_
 refine Bt<|?_
 refine B2 M rfl rfl rfl<|?_;clear M;intro b1 w M
 refine wk ?_;refine qD rfl ?_ ?_
 ·intro h2;refine wk ?_;refine A4 Ul rfl rfl (Kk (s:=x.text) M (by omega))<|?_;clear M;rintro _ w M ⟨b3,rfl,hb3⟩
  refine C0 rfl<|?_
  rcases bE (b3) with h4b | h11b
  ·skip
   have h4:(b3)=true:=h4b;refine wk ?_
   rcases bE (decide (x.tag=([]:List UInt8))) with h5b | h10b
   ·skip
    have h5:=dT h5b;refine wk ?_
    rcases bE (decide (x.key=([]:List UInt8))) with h6b | h9b
    ·skip
     have h6:=dT h6b;refine wk ?_
     rcases bE (decide (((x.as.length:Nat):Int)=0)) with h7b | h8b
     ·skip
      have h7:=dT h7b;refine wk ?_;refine Ad rfl rfl<|?_
      exact ⟨(M.weaken (cN (sR _))),(decide (((x.kids.length:Nat):Int)=0)),rfl,(by rw [E4 (by assumption)];clear M;grind)⟩
     have h8:=dF h8b;refine wk ?_;refine Ad rfl rfl<|?_
     exact ⟨(M.weaken (cN (sR _))),false,rfl,(by rw [E4 (by assumption)];clear M;grind)⟩
    have h9:=dF h9b;refine wk ?_;refine Ad rfl rfl<|?_
    exact ⟨(M.weaken (cN (sR _))),false,rfl,(by rw [E4 (by assumption)];clear M;grind)⟩
   have h10:=dF h10b;refine wk ?_;refine Ad rfl rfl<|?_
   exact ⟨(M.weaken (cN (sR _))),false,rfl,(by rw [E4 (by assumption)];clear M;grind)⟩
  have h11:(b3)=false:=h11b;refine g_f rfl h11b<|g_f rfl h11b<|g_f rfl h11b<|Hj rfl h11b rfl<|C0 rfl<|g_f rfl rfl<|g_f rfl rfl<|g_f rfl rfl<|Hj rfl rfl rfl<|C0 rfl<|g_f rfl rfl<|g_f rfl rfl<|g_f rfl rfl<|g_f rfl rfl<|Hj rfl rfl rfl<|C0 rfl<|g_f rfl rfl<|g_f rfl rfl<|g_f rfl rfl<|g_f rfl rfl<|Hj rfl rfl rfl<|Ew rfl<|E9<|Gr<|?_
  refine Ad rfl rfl<|?_
  exact ⟨(M.weaken (cN (sR _))),false,rfl,(by rw [E4 (by assumption)];clear M;grind)⟩
 intro h12;refine F3<|Cj<|Cj<|?_
 refine fun a F=>Jo (fun a' w'=>∃ (bb:Bool),Fits 149 a' [(1,.pointer (some ⟨b1,0,none⟩)),(71,.bool bb)]∧Mem w0 G (.blk b1 [.int .u8 x.kind,.string (str x.tag),.string (str x.key),.slice ta x.as.length tc,.string (str x.text),.slice ka x.kids.length kc] 193::L) w'∧(bb=true↔¬ It x)) ?_ ?_
 ·skip
  revert a;refine wk ?_
  rcases bE (!(decide (x.kind=1))) with h13b | h14b
  ·skip
   have h13:=dF (Ab h13b);have h13c:(decide (x.kind=1))=false:=(Ab h13b);refine wk ?_;intro a F
   exact ⟨true,F.to ⟨rfl,rfl,trivial⟩,M,by unfold It;clear F M;grind⟩
  have h14:=dT (Ac h14b);have h14c:(decide (x.kind=1))=true:=(Ac h14b);refine wk ?_;refine A4 Mb rfl rfl (Dx (s:=x.tag) M (by omega))<|?_;clear M;rintro _ w M ⟨b15,rfl,hb15⟩
  refine wk ?_
  rcases bE (!(b15)) with h16b | h17b
  ·skip
   have h16:=Ab h16b;have h16c:(b15)=false:=(Ab h16b);refine wk ?_;intro a F
   exact ⟨true,F.to ⟨rfl,rfl,trivial⟩,M,by unfold It;clear F M;grind⟩
  have h17:=Ac h17b;have h17c:(b15)=true:=(Ac h17b);refine wk ?_
  rcases bE (!(decide (x.key=([]:List UInt8)))) with h18b | h26b
  ·skip
   have h18:=dF (Ab h18b);have h18c:(decide (x.key=([]:List UInt8)))=false:=(Ab h18b);refine wk ?_;refine A4 Mb rfl rfl (Dx (s:=x.key) M (by omega))<|?_;clear M;rintro _ w M ⟨b19,rfl,hb19⟩
   refine wk ?_
   rcases bE (!(b19)) with h20b | h21b
   ·skip
    have h20:=Ab h20b;have h20c:(b19)=false:=(Ab h20b);refine wk ?_;intro a F
    exact ⟨true,F.to ⟨rfl,rfl,trivial⟩,M,by unfold It;clear F M;grind⟩
   have h21:=Ac h21b;have h21c:(b19)=true:=(Ac h21b);refine wk ?_
   rcases bE (!(decide (x.text=([]:List UInt8)))) with h22b | h23b
   ·skip
    have h22:=dF (Ab h22b);have h22c:(decide (x.text=([]:List UInt8)))=false:=(Ab h22b);refine wk ?_;intro a F
    exact ⟨true,F.to ⟨rfl,rfl,trivial⟩,M,by unfold It;clear F M;grind⟩
   have h23:=dT (Ac h23b);have h23c:(decide (x.text=([]:List UInt8)))=true:=(Ac h23b);refine wk ?_
   rcases bE (decide (8 < ((x.as.length:Nat):Int))) with h24b | h25b
   ·skip
    have h24:=dT h24b;refine wk ?_;intro a F
    exact ⟨true,F.to ⟨rfl,rfl,trivial⟩,M,by unfold It;clear F M;grind⟩
   have h25:=dF h25b;refine wk ?_;intro a F
   exact ⟨(decide (16 < ((x.kids.length:Nat):Int))),F.to ⟨rfl,rfl,trivial⟩,M,by unfold It;clear F M;grind⟩
  have h26:=dT (Ac h26b);have h26c:(decide (x.key=([]:List UInt8)))=true:=(Ac h26b);refine wk ?_
  rcases bE (!(decide (x.text=([]:List UInt8)))) with h27b | h28b
  ·skip
   have h27:=dF (Ab h27b);have h27c:(decide (x.text=([]:List UInt8)))=false:=(Ab h27b);refine wk ?_;intro a F
   exact ⟨true,F.to ⟨rfl,rfl,trivial⟩,M,by unfold It;clear F M;grind⟩
  have h28:=dT (Ac h28b);have h28c:(decide (x.text=([]:List UInt8)))=true:=(Ac h28b);refine wk ?_
  rcases bE (decide (8 < ((x.as.length:Nat):Int))) with h29b | h30b
  ·skip
   have h29:=dT h29b;refine wk ?_;intro a F
   exact ⟨true,F.to ⟨rfl,rfl,trivial⟩,M,by unfold It;clear F M;grind⟩
  have h30:=dF h30b;refine wk ?_;intro a F
  exact ⟨(decide (16 < ((x.kids.length:Nat):Int))),F.to ⟨rfl,rfl,trivial⟩,M,by unfold It;clear F M;grind⟩
 clear F M;rintro a w ⟨bb,F,M,hbb⟩;revert a;refine F1<|?_
 refine Ae rfl ?_ ?_
 ·intro h31b;have h31:(bb)=true:=h31b;refine wk ?_;refine Ad rfl rfl<|?_
  exact ⟨(M.weaken (cN (sR _))),false,rfl,(by rw [Ev (by assumption)];have q99:=@Fm;clear M;grind)⟩
 intro h32b;have h32:(bb)=false:=h32b;refine wk ?_;have hE:It x:=by clear M;grind
 obtain ⟨hE1,hE2,hE3,hE4,hE5,hE6⟩:=id hE;refine wk ?_;refine fun a F=>Ba (fun m a' w'=>∃ (i:Nat),m=x.as.length - i∧Fits 149 a' [(1,.pointer (some ⟨b1,0,none⟩)),(3,.int .i64 ((i:Nat):Int))]∧Mem w0 G (.blk b1 [.int .u8 x.kind,.string (str x.tag),.string (str x.key),.slice ta x.as.length tc,.string (str x.text),.slice ka x.kids.length kc] 193::L) w'∧(i≤x.as.length)∧(Hp x.as i)) _ ⟨0,rfl,F.to ⟨rfl,rfl,trivial⟩,M,Nat.zero_le _,Hp.zero _⟩ ?_;clear F M;rintro m a w ⟨i,rfl,F,M,hi,hA⟩;revert a;refine wk ?_;refine qD rfl ?_ ?_
 ·intro h33;refine wk ?_;obtain ⟨Xe34,hXe34⟩:=Ap (xs:=x.as) (i:=i) (by omega);obtain ⟨be34,oe34,_,Ie34,_,Ae34,⟨rfl,hn1e34,hv1e34⟩⟩:=SA.at hXe34;refine wk ?_;refine A4 Mb rfl rfl (Dx (s:=Xe34.n) M (by omega))<|?_;clear M;rintro _ w M ⟨b35,rfl,hb35⟩
  refine wk ?_
  rcases bE (!(b35)) with h36b | h37b
  ·skip
   have h36:=Ab h36b;have h36c:(b35)=false:=(Ab h36b);refine wk ?_;refine Ad rfl rfl<|?_
   exact ⟨(M.weaken (cN (sR _))),false,rfl,(by rw [Ev (by assumption)];have q0:=He hXe34;have q99:=@Fm;clear M;grind)⟩
  have h37:=Ac h37b;have h37c:(b35)=true:=(Ac h37b);refine wk ?_;obtain ⟨be38,oe38,_,Ie38,_,Ae38,⟨rfl,hn1e38,hv1e38⟩⟩:=SA.at hXe34;refine wk ?_;refine A4 Ul rfl rfl (Kk (s:=Xe34.v) M (by omega))<|?_;clear M;rintro _ w M ⟨b39,rfl,hb39⟩
  refine wk ?_;refine Ae rfl ?_ ?_
  ·intro h40b;have h40:=Ab h40b;have h40c:(b39)=false:=(Ab h40b);refine wk ?_;refine Ad rfl rfl<|?_
   exact ⟨(M.weaken (cN (sR _))),false,rfl,(by rw [Ev (by assumption)];have q0:=He hXe34;have q99:=@Fm;clear M;grind)⟩
  intro h41b;have h41:=Ac h41b;have h41c:(b39)=true:=(Ac h41b);refine wk ?_;have hNv:Ck Xe34.n∧Str Xe34.v:=by clear M;grind
  intro a F;refine Ba (fun m a' w'=>∃ (k:Nat),m=i - k∧Fits 149 a' [(1,.pointer (some ⟨b1,0,none⟩)),(3,.int .i64 ((i:Nat):Int)),(4,.int .i64 ((k:Nat):Int))]∧Mem w0 G (.blk b1 [.int .u8 x.kind,.string (str x.tag),.string (str x.key),.slice ta x.as.length tc,.string (str x.text),.slice ka x.kids.length kc] 193::L) w'∧(k≤i)∧(∀ (m:Nat) (y:AttrD),m < k→x.as[m]?=some y→Op.bytesLess y.n Xe34.n=true)) _ ⟨0,rfl,F.to ⟨rfl,rfl,rfl,trivial⟩,M,Nat.zero_le _,fun m y h=>by omega⟩ ?_;clear F M;rintro m a w ⟨k,rfl,F,M,hk2,hB⟩;revert a;refine wk ?_;refine qD rfl ?_ ?_
  ·intro h42;refine wk ?_;refine fun a F=>E3 [(true,0),(true,1),(true,2),(true,3),(true,4),(true,5),(true,6),(true,7),(true,8),(true,9),(true,10),(true,11),(true,12)] (Keep G [.blk b1 [.int .u8 x.kind,.string (str x.tag),.string (str x.key),.slice ta x.as.length tc,.string (str x.text),.slice ka x.kids.length kc] 193]) rfl (by kernel_rfl) (fun c a d v w h=>by cases d <;> exact h) (Ax (M.drew _)) ?_;replace M:=M.drew (w.drawn+1);revert a;refine wk ?_;obtain ⟨Xe43,hXe43⟩:=Ap (xs:=x.as) (i:=k) (by omega);obtain ⟨be43,oe43,_,Ie43,_,Ae43,⟨rfl,hn1e43,hv1e43⟩⟩:=SA.at hXe43;refine wk ?_;obtain ⟨be44,oe44,_,Ie44,_,Ae44,⟨rfl,hn1e44,hv1e44⟩⟩:=SA.at hXe34;refine wk ?_;refine l_r (fun a F w M=>Nt (F.ev rfl) (F.ev rfl)) rfl<|?_
   refine l_nil<|?_
   generalize ({ w with drawn:=w.drawn+1 }:World)=w at M ⊢
   refine F1<|?_
   refine Ae rfl ?_ ?_
   ·intro h45b;have h45:=Ab h45b;have h45c:(Op.bytesLess Xe43.n Xe34.n)=false:=(Ab h45b);refine wk ?_;refine Ad rfl rfl<|?_
    exact ⟨(M.weaken (cN (sR _))),false,rfl,(by rw [Ev (by assumption)];have q0:=He hXe34;have q1:=fun h=>M0 hXe34 hXe43 h;have q2:=He hXe43;have q3:=fun h=>M0 hXe43 hXe34 h;have q99:=@Fm;clear M;grind)⟩
   intro h46b;have h46:=Ac h46b;have h46c:(Op.bytesLess Xe43.n Xe34.n)=true:=(Ac h46b);refine wk ?_;intro a F
   exact ⟨_,by omega,k+1,rfl,F.to ⟨rfl,rfl,rfl,trivial⟩,M,by omega,fun m y hm hy=>by rcases Nat.eq_or_lt_of_le (show m≤k by omega) with e | e;(subst e;rw [hXe43] at hy;simp only [Option.some.injEq] at hy;subst hy;clear F M;grind);exact hB m y e hy⟩
  intro h47;refine wk ?_;intro a F
  exact ⟨_,by omega,i+1,rfl,F.to ⟨rfl,rfl,trivial⟩,M,by omega,hA.step hXe34 hNv.1 hNv.2 (fun y h_ hy=>hB (i - 1) y (by omega) hy)⟩
 intro h48;refine wk ?_;have hAO:Hq x.as:=hA.all (by omega);refine wk ?_;refine fun a F=>Ba (fun m a' w'=>∃ (j:Nat),m=x.kids.length - j∧Fits 149 a' [(1,.pointer (some ⟨b1,0,none⟩)),(5,.int .i64 ((j:Nat):Int))]∧Mem w0 G (.blk b1 [.int .u8 x.kind,.string (str x.tag),.string (str x.key),.slice ta x.as.length tc,.string (str x.text),.slice ka x.kids.length kc] 193::L) w'∧(j≤x.kids.length)∧(Fb x.kids j)) _ ⟨0,rfl,F.to ⟨rfl,rfl,trivial⟩,M,Nat.zero_le _,Fb.zero _⟩ ?_;clear F M;rintro m a w ⟨j,rfl,F,M,hj,hK⟩;revert a;refine wk ?_;refine qD rfl ?_ ?_
 ·intro h49;refine wk ?_;obtain ⟨Xj,hXj⟩:=Ap (xs:=x.kids) (i:=j) (by omega);refine wk ?_;refine fun a F=>Ba (fun m a' w'=>∃ (k:Nat),m=j - k∧Fits 149 a' [(1,.pointer (some ⟨b1,0,none⟩)),(5,.int .i64 ((j:Nat):Int)),(6,.int .i64 ((k:Nat):Int))]∧Mem w0 G (.blk b1 [.int .u8 x.kind,.string (str x.tag),.string (str x.key),.slice ta x.as.length tc,.string (str x.text),.slice ka x.kids.length kc] 193::L) w'∧(k≤j)∧(∀ (m:Nat) (d:NT),m < k→x.kids[m]?=some d→Xj.key=[]∨d.key≠Xj.key)) _ ⟨0,rfl,F.to ⟨rfl,rfl,rfl,trivial⟩,M,Nat.zero_le _,fun m y h=>by omega⟩ ?_;clear F M;rintro m a w ⟨k,rfl,F,M,hk2,hC⟩;revert a;refine wk ?_;refine qD rfl ?_ ?_
  ·intro h50;refine wk ?_;refine fun a F=>E3 [(true,0),(true,1),(true,2),(true,3),(true,4),(true,5),(true,6),(true,7),(true,8),(true,9),(true,10),(true,11),(true,12),(true,13),(true,14),(true,15),(true,16),(true,17),(true,18),(true,19),(true,20),(true,21)] (Keep G [.blk b1 [.int .u8 x.kind,.string (str x.tag),.string (str x.key),.slice ta x.as.length tc,.string (str x.text),.slice ka x.kids.length kc] 193]) rfl (by kernel_rfl) (fun c a d v w h=>by cases d <;> exact h) (Ax (M.drew _)) ?_;replace M:=M.drew (w.drawn+1);revert a;refine wk ?_;obtain ⟨be51,oe51,_,Ie51,_,Ae51,hTe51⟩:=SK.at hXj;obtain ⟨tae51,tce51,kae51,kce51,rfl,hke51,hle51,SAe51,SKe51⟩:=Dn hTe51;refine wk ?_
   rcases bE (!(decide (Xj.key=([]:List UInt8)))) with h52b | h57b
   ·skip
    have h52:=dF (Ab h52b);have h52c:(decide (Xj.key=([]:List UInt8)))=false:=(Ab h52b);refine wk ?_;obtain ⟨be53,oe53,_,Ie53,_,Ae53,hTe53⟩:=SK.at hXj;obtain ⟨tae53,tce53,kae53,kce53,rfl,hke53,hle53,SAe53,SKe53⟩:=Dn hTe53;refine wk ?_;obtain ⟨Xe54,hXe54⟩:=Ap (xs:=x.kids) (i:=k) (by omega);obtain ⟨be54,oe54,_,Ie54,_,Ae54,hTe54⟩:=SK.at hXe54;obtain ⟨tae54,tce54,kae54,kce54,rfl,hke54,hle54,SAe54,SKe54⟩:=Dn hTe54;refine wk ?_
    generalize ({ w with drawn:=w.drawn+1 }:World)=w at M ⊢
    refine wk ?_;refine qD rfl ?_ ?_
    ·intro h55;refine wk ?_;refine Ad rfl rfl<|?_
     exact ⟨(M.weaken (cN (sR _))),false,rfl,(by rw [Ev (by assumption)];have q0:=Qk hXj;have q1:=fun h=>Y8 h hXe54 hXj;have q2:=Qk hXe54;have q3:=fun h=>Y8 h hXj hXe54;have q99:=@Fm;clear M;grind)⟩
    intro h56;refine wk ?_;intro a F
    exact ⟨_,by omega,k+1,rfl,F.to ⟨rfl,rfl,rfl,trivial⟩,M,by omega,fun m d hm hy=>by rcases Nat.eq_or_lt_of_le (show m≤k by omega) with e | e;(subst e;rw [hXe54] at hy;simp only [Option.some.injEq] at hy;subst hy;clear F M;grind);exact hC m d e hy⟩
   have h57:=dT (Ac h57b);have h57c:(decide (Xj.key=([]:List UInt8)))=true:=(Ac h57b);refine wk ?_
   generalize ({ w with drawn:=w.drawn+1 }:World)=w at M ⊢
   refine wk ?_;intro a F
   exact ⟨_,by omega,k+1,rfl,F.to ⟨rfl,rfl,rfl,trivial⟩,M,by omega,fun m d hm hy=>by rcases Nat.eq_or_lt_of_le (show m≤k by omega) with e | e;(clear F M;grind);exact hC m d e hy⟩
  intro h58;refine wk ?_;intro a F
  exact ⟨_,by omega,j+1,rfl,F.to ⟨rfl,rfl,trivial⟩,M,by omega,hK.step hXj (by by_cases e:Xj.key=[];exact Or.inl e;exact Or.inr fun m a_ hm ha=>(hC m a_ (by omega) ha).resolve_left e)⟩
 intro h59;refine wk ?_;refine Ad rfl rfl<|?_
 exact ⟨(M.weaken (cN (sR _))),true,rfl,(by rw [Ev (by assumption)];exact ⟨fun _=>⟨hE,hAO,hK.all (by omega)⟩,fun _=>rfl⟩)⟩
set_option maxHeartbeats 1600000
def MeasP (x:NT):Prop:=∀ (w0 w:World) (G:Aq) (L:List Res) (cb db wb nb no c d lev:Nat) (ta ka:Option Addr) (tc kc:Nat),Mem w0 G (.blk cb [.int .i64 ((c:Nat):Int)] 3::.blk db [.int .i64 ((d:Nat):Int)] 3::.blk wb [.func (.func 232) #[] #[.pointer (some ⟨cb,0,none⟩),.pointer (some ⟨db,0,none⟩),.pointer (some ⟨wb,0,none⟩)]] 303::L) w→Au .u8 x.kind→(x.tag.length≤9223372036854775807∧x.key.length≤9223372036854775807∧x.text.length≤9223372036854775807) →
  Ag Dy 2 G (.slice ta x.as.length tc) x.as→Ag rdN 6 G (.slice ka x.kids.length kc) x.kids→At G nb no [.int .u8 x.kind,.string (str x.tag),.string (str x.key),.slice ta x.as.length tc,.string (str x.text),.slice ka x.kids.length kc]→c≤64→d≤7→1≤lev→lev≤7 →
  Calls Tryz.prog 232 #[.pointer (some ⟨nb,no,none⟩),.int .i64 (lev:Int),.pointer (some ⟨cb,0,none⟩),.pointer (some ⟨db,0,none⟩),.pointer (some ⟨wb,0,none⟩)] w
   (Ke w0 G fun L' v=>∃ (bb:Bool) (c' d':Nat),v=.bool bb∧L' = (.blk cb [.int .i64 ((c':Nat):Int)] 3::.blk db [.int .i64 ((d':Nat):Int)] 3::.blk wb [.func (.func 232) #[] #[.pointer (some ⟨cb,0,none⟩),.pointer (some ⟨db,0,none⟩),.pointer (some ⟨wb,0,none⟩)]] 303::L)∧(bb=true↔Tr.Ok Hr (7 - lev) x∧c+x.size≤64)∧(bb=true→c' = c+x.size∧d' = max d (lev+x.depth - 1)))
theorem Akx {x:NT} (ih:∀ y∈x.kids,MeasP y) {w0 w:World} {G:Aq} {L:List Res} {cb db wb nb no c d lev:Nat} {ta ka:Option Addr} {tc kc:Nat} (M:Mem w0 G (.blk cb [.int .i64 ((c:Nat):Int)] 3::.blk db [.int .i64 ((d:Nat):Int)] 3::.blk wb [.func (.func 232) #[] #[.pointer (some ⟨cb,0,none⟩),.pointer (some ⟨db,0,none⟩),.pointer (some ⟨wb,0,none⟩)]] 303::L) w) (hk:Au .u8 x.kind) (hl:(x.tag.length≤9223372036854775807∧x.key.length≤9223372036854775807∧x.text.length≤9223372036854775807))
  (SA:Ag Dy 2 G (.slice ta x.as.length tc) x.as) (SK:Ag rdN 6 G (.slice ka x.kids.length kc) x.kids) (A:At G nb no [.int .u8 x.kind,.string (str x.tag),.string (str x.key),.slice ta x.as.length tc,.string (str x.text),.slice ka x.kids.length kc]) (hc:c≤64) (hd:d≤7) (hl1:1≤lev) (hl2:lev≤7) :
  Calls Tryz.prog 232 #[.pointer (some ⟨nb,no,none⟩),.int .i64 (lev:Int),.pointer (some ⟨cb,0,none⟩),.pointer (some ⟨db,0,none⟩),.pointer (some ⟨wb,0,none⟩)] w
   (Ke w0 G fun L' v=>∃ (bb:Bool) (c' d':Nat),v=.bool bb∧L' = (.blk cb [.int .i64 ((c':Nat):Int)] 3::.blk db [.int .i64 ((d':Nat):Int)] 3::.blk wb [.func (.func 232) #[] #[.pointer (some ⟨cb,0,none⟩),.pointer (some ⟨db,0,none⟩),.pointer (some ⟨wb,0,none⟩)]] 303::L)∧(bb=true↔Tr.Ok Hr (7 - lev) x∧c+x.size≤64)∧(bb=true→c' = c+x.size∧d' = max d (lev+x.depth - 1))):=by
 refine Al (vs:=[_,_,_,_,_]) Tryz.func232 rfl (n:=45) rfl rfl<|?_
 refine wk ?_;refine Dv Cq M 0 rfl rfl rfl rfl rfl rfl<|?_;clear M;intro w M
 refine wk ?_;refine Am (fun a F=>Ajm (b:=d) (c:=lev) (F.ev rfl) (F.ev rfl)) rfl<|Dv Cq M 1 rfl rfl rfl rfl rfl rfl<|?_;clear M;intro w M
 refine wk ?_
 rcases bE (decide (6 < (lev:Int))) with h1b | h2b
 ·skip
  have h1:=dT h1b;refine wk ?_;refine Ad rfl rfl<|?_
  replace M:=M.perm (Af _ 2 _ rfl);replace M:=M.perm (Af _ 2 _ rfl);replace M:=M.perm (Af _ 2 _ rfl);replace M:=z_M M
  exact ⟨_,M,false,_,_,rfl,rfl,⟨fun h_=>(by cases h_),fun h_=>absurd h_ (Kn (by clear M;grind))⟩,fun h_=>(by cases h_)⟩
 have h2:=dF h2b;refine wk ?_
 rcases bE (decide (64 < ((c:Nat):Int)+1)) with h3b | h4b
 ·skip
  have h3:=dT h3b;refine wk ?_;refine Ad rfl rfl<|?_
  replace M:=M.perm (Af _ 2 _ rfl);replace M:=M.perm (Af _ 2 _ rfl);replace M:=M.perm (Af _ 2 _ rfl);replace M:=z_M M
  exact ⟨_,M,false,_,_,rfl,rfl,⟨fun h_=>(by cases h_),fun h_=>absurd h_ (Kn (by clear M;grind))⟩,fun h_=>(by cases h_)⟩
 have h4:=dF h4b;refine wk ?_;refine A4 ent233 rfl rfl (Agj (x:=x) M hk hl SA SK A)<|?_;clear M;rintro _ w M ⟨b5,rfl,hb5⟩
 refine wk ?_;refine Ae rfl ?_ ?_
 ·intro h6b;have h6:=Ab h6b;have h6c:(b5)=false:=(Ab h6b);refine wk ?_;refine Ad rfl rfl<|?_
  replace M:=M.perm (Af _ 2 _ rfl);replace M:=M.perm (Af _ 2 _ rfl);replace M:=M.perm (Af _ 2 _ rfl);replace M:=z_M M
  exact ⟨_,M,false,_,_,rfl,rfl,⟨fun h_=>(by cases h_),fun h_=>absurd h_ (Kn (by clear M;grind))⟩,fun h_=>(by cases h_)⟩
 intro h7b;have h7:=Ac h7b;have h7c:(b5)=true:=(Ac h7b);refine wk ?_;have hAl:Hr x:=by clear M;grind
 have hl6:lev≤6:=by omega
 have hkl:=Xn hAl;refine wk ?_;refine fun a F=>Ba (fun m a' w'=>∃ (i:Nat),∃ (ci:Nat),∃ (di:Nat),m=x.kids.length - i∧Fits 45 a' [(0,.pointer (some ⟨nb,no,none⟩)),(1,.int .i64 ((lev:Int))),(2,.pointer (some ⟨cb,0,none⟩)),(3,.pointer (some ⟨db,0,none⟩)),(4,.pointer (some ⟨wb,0,none⟩)),(28,.slice ka x.kids.length kc),(29,.int .i64 ((x.kids.length:Nat):Int)),(30,.int .i64 ((i:Nat):Int))]∧Mem w0 G (.blk cb [.int .i64 ((ci:Nat):Int)] 3::.blk db [.int .i64 ((di:Nat):Int)] 3::.blk wb [.func (.func 232) #[] #[.pointer (some ⟨cb,0,none⟩),.pointer (some ⟨db,0,none⟩),.pointer (some ⟨wb,0,none⟩)]] 303::L) w'∧(i≤x.kids.length)∧(ci=c+1+Tr.sizes (x.kids.take i)∧ci≤64)∧(di=max d (lev+Tr.depths (x.kids.take i)))∧(di≤7)∧(∀ (m:Nat) (y:NT),m < i→x.kids[m]?=some y→Tr.Ok Hr (7 - (lev+1)) y)) _ ⟨0,c+1,max d lev,rfl,F.to ⟨rfl,rfl,rfl,rfl,rfl,rfl,rfl,rfl,trivial⟩,M,Nat.zero_le _,⟨by simp [Tr.sizes],by omega⟩,by simp only [List.take_zero,Tr.depths];omega,by omega,fun m y h=>by omega⟩ ?_;clear F M;rintro m a w ⟨i,ci,di,rfl,F,M,hi,hci,hdi,hd7,hO⟩;revert a;refine wk ?_;refine qD rfl ?_ ?_
 ·intro h8;refine wk ?_;refine fun a F=>D5 [(.pure,0),(.free,1),(.free,2),(.free,3),(.pure,4),(.free,5),(.free,6),(.free,7),(.free,8),(.keep,9),(.free,10)] [] (Keep G [.blk wb [.func (.func 232) #[] #[.pointer (some ⟨cb,0,none⟩),.pointer (some ⟨db,0,none⟩),.pointer (some ⟨wb,0,none⟩)]] 303]) rfl (by kernel_rfl) (fun c a d v w h=>by cases d <;> exact h) (Ax (M.drew _)) ?_;replace M:=M.drew (w.drawn+1);revert a;refine wk ?_;obtain ⟨Xe9,hXe9⟩:=Ap (xs:=x.kids) (i:=i) (by omega);obtain ⟨be9,oe9,_,Ie9,_,Ae9,hTe9⟩:=SK.at hXe9;obtain ⟨tae9,tce9,kae9,kce9,rfl,hke9,hle9,SAe9,SKe9⟩:=Dn hTe9;refine wk ?_;refine k_k rfl<|?_
  replace M:=M.perm (Af _ 2 _ rfl);replace M:=M.perm (Af _ 2 _ rfl);replace M:=M.perm (Af _ 2 _ rfl);replace M:=z_M M;refine s_vL Ard (caps:=[.pointer (some ⟨cb,0,none⟩),.pointer (some ⟨db,0,none⟩),.pointer (some ⟨wb,0,none⟩)]) rfl rfl rfl (ih Xe9 (List.mem_of_getElem? hXe9) _ _ _ _ _ _ _ _ _ ci di (lev+1) _ _ _ _ M hke9 hle9 SAe9 SKe9 Ae9 (by omega) (by omega) (by omega) (by omega))<|?_;clear M;rintro _ _ w M ⟨b10,cb10,db10,rfl,rfl,hb10,eb10⟩
  refine Ao<|?_
  refine eQ (Ax M)<|?_
  refine wk ?_;refine Ae rfl ?_ ?_
  ·intro h11b;have h11:=Ab h11b;have h11c:(b10)=false:=(Ab h11b);refine wk ?_;refine Ad rfl rfl<|?_
   replace M:=M.perm (Af _ 2 _ rfl);replace M:=M.perm (Af _ 2 _ rfl);replace M:=M.perm (Af _ 2 _ rfl);replace M:=z_M M
   exact ⟨_,M,false,_,_,rfl,rfl,⟨fun h_=>(by cases h_),fun h_=>absurd h_ (Rf hXe9 hl6 (by rw [← hci.1];exact fun h_=>by have h9:=hb10.2 h_;simp_all))⟩,fun h_=>(by cases h_)⟩
  intro h12b;have h12:=Ac h12b;have h12c:(b10)=true:=(Ac h12b);refine wk ?_;have hq:=hb10.1 (by assumption);obtain ⟨hc2,hd2⟩:=eb10 (by assumption);have hs2:=Tr.sizes_snoc hXe9;have hp2:=Tr.depths_snoc hXe9;have hps:=hq.1.depth;intro a F
  exact ⟨_,by omega,i+1,cb10,db10,rfl,F.to ⟨rfl,rfl,rfl,rfl,rfl,rfl,rfl,rfl,trivial⟩,M,by omega,by omega,by omega,by omega,Yw hO hXe9 hq.1⟩
 intro h13;refine wk ?_;refine Ad rfl rfl<|?_
 replace M:=M.perm (Af _ 2 _ rfl);replace M:=M.perm (Af _ 2 _ rfl);replace M:=M.perm (Af _ 2 _ rfl);replace M:=z_M M;have hf:=Kt (x:=x) (i:=i) (by omega);have hg:=Acr (x:=x) (i:=i) (by omega)
 exact ⟨_,M,true,_,_,rfl,rfl,⟨fun _=>⟨Abr hl6 hAl (by omega) hO,by omega⟩,fun _=>rfl⟩,fun _=>⟨by omega,by omega⟩⟩
theorem Apr (x:NT):MeasP x:=by
 induction x using Tr.ind with
 | _ x ih=>intro w0 w G L cb db wb nb no c d lev ta ka tc kc M hk hl SA SK A hc hd hl1 hl2;exact Akx ih M hk hl SA SK A hc hd hl1 hl2
theorem Abq (M:Mem w0 G L w) {x:NT} {ta:Option Addr} {tc:Nat} {ka:Option Addr} {kc:Nat} (hk:Au .u8 x.kind) (hl:(x.tag.length≤9223372036854775807∧x.key.length≤9223372036854775807∧x.text.length≤9223372036854775807)) (SA:Ag Dy 2 G (.slice ta x.as.length tc) x.as) (SK:Ag rdN 6 G (.slice ka x.kids.length kc) x.kids):Calls Tryz.prog 220 #[.agg #[.int .u8 x.kind,.string (str x.tag),.string (str x.key),.slice ta x.as.length tc,.string (str x.text),.slice ka x.kids.length kc]] w (Ret w0 G L fun _ v=>v=.tuple #[.int .i64 ((cntF x:Nat):Int),.int .i64 ((Alq x:Nat):Int)]):=by
 refine Al (vs:=[_]) Tryz.func220 rfl (n:=11) rfl rfl<|?_
 refine Bt<|?_
 refine B2 M rfl rfl rfl<|?_;clear M;intro b1 w M
 refine B1 M Cq rfl rfl<|?_;clear M;intro b2 w M
 refine B1 M Cq rfl rfl<|?_;clear M;intro b4 w M
 refine wk ?_;refine B1 M Ado rfl rfl<|?_;clear M;intro b6 w M
 refine wk ?_;refine Am (fun a F=>Ct (vs:=#[.pointer (some ⟨b2,0,none⟩),.pointer (some ⟨b4,0,none⟩),.pointer (some ⟨b6,0,none⟩)]) (by simp only [List.map_toArray,List.map_cons,List.map_nil,F.ev (x:=.tmp 2) rfl,F.ev (x:=.tmp 3) rfl,F.ev (x:=.tmp 4) rfl])) rfl<|Dv Ado M 0 rfl rfl rfl rfl rfl rfl<|?_;clear M;intro w M
 refine wk ?_;obtain ⟨Gq8,hGq8,hbq8,M⟩:=M.freeze (k:=3) rfl;have Aq8:At Gq8 b1 0 [.int .u8 x.kind,.string (str x.tag),.string (str x.key),.slice ta x.as.length tc,.string (str x.text),.slice ka x.kids.length kc]:=At.of_cells hbq8;clear hbq8;replace SA:=SA.mono Df hGq8;replace SK:=SK.mono D2 hGq8;replace M:=z_M M;refine wk ?_;replace M:=M.perm (Af _ 1 _ rfl);replace M:=M.perm (Af _ 2 _ rfl);replace M:=z_M M;refine s_vL Ard (caps:=[.pointer (some ⟨b2,0,none⟩),.pointer (some ⟨b4,0,none⟩),.pointer (some ⟨b6,0,none⟩)]) rfl rfl rfl (Apr x _ _ _ _ _ _ _ _ _ 0 0 1 _ _ _ _ M hk hl SA SK Aq8 (by omega) (by omega) (by omega) (by omega))<|?_;clear M;rintro _ _ w M ⟨b9,cb9,db9,rfl,rfl,hb9,eb9⟩
 refine wk ?_;refine Ae rfl ?_ ?_
 ·intro h10b;have h10:=Ab h10b;have h10c:(b9)=false:=(Ab h10b);refine Bt<|?_
  refine Dv Cq M 0 rfl rfl rfl rfl rfl rfl<|?_;clear M;intro w M
  refine Dv Cq M 1 rfl rfl rfl rfl rfl rfl<|?_;clear M;intro w M
  refine wk ?_;refine fun a F=>Aqq F M (k1:=0) (k2:=1) rfl rfl rfl (agf Cq rfl) (agf Cq rfl) rfl rfl ?_;have hV:¬ Hm x:=fun h_=>by have h9:=hb9.2 ⟨h_.1,by have:=h_.2;omega⟩;simp_all
  exact ⟨_,hGq8,(M.weaken (cN (.cons _ (cN (sR _))))),by rw [Sd hV,depF_no hV];rfl⟩
 intro h11b;have h11:=Ac h11b;have h11c:(b9)=true:=(Ac h11b);refine wk ?_;refine fun a F=>D5 [(.pure,0),(.pure,1),(.keep,2),(.keep,3)] [] (Keep Gq8 [.blk b2 [.int .i64 ((cb9:Nat):Int)] 3,.blk b4 [.int .i64 ((db9:Nat):Int)] 3,.blk b6 [.func (.func 232) #[] #[.pointer (some ⟨b2,0,none⟩),.pointer (some ⟨b4,0,none⟩),.pointer (some ⟨b6,0,none⟩)]] 303]) rfl (by kernel_rfl) (fun c a d v w h=>by cases d <;> exact h) (Ax (M.drew _)) ?_;replace M:=M.drew (w.drawn+1);revert a;refine wk ?_;refine k_k rfl<|Dv Cq M 0 rfl rfl rfl rfl rfl rfl<|?_;clear M;intro w M
 refine Ao<|?_
 refine eQ (Ax M)<|k_k rfl<|Dv Cq M 1 rfl rfl rfl rfl rfl rfl<|?_;clear M;intro w M
 refine Ao<|?_
 refine eQ (Ax M)<|?_
 refine wk ?_;refine fun a F=>Aqq F M (k1:=0) (k2:=1) rfl rfl rfl (agf Cq rfl) (agf Cq rfl) rfl rfl ?_;have hq:=hb9.1 (by assumption);have hV:Hm x:=⟨hq.1,by omega⟩;obtain ⟨hc2,hd2⟩:=eb9 (by assumption);have hp1:=Tr.depth_eq x
 exact ⟨_,hGq8,(M.weaken (cN (.cons _ (cN (sR _))))),by rw [Acx hV,Auj hV,show x.size=cb9 by omega,show x.depth=db9 by omega]⟩
theorem Y4 (M:Mem w0 G L w) {x:NT} {ta:Option Addr} {tc:Nat} {ka:Option Addr} {kc:Nat} (hk:Au .u8 x.kind) (hl:(x.tag.length≤9223372036854775807∧x.key.length≤9223372036854775807∧x.text.length≤9223372036854775807)) (SA:Ag Dy 2 G (.slice ta x.as.length tc) x.as) (SK:Ag rdN 6 G (.slice ka x.kids.length kc) x.kids):Calls Tryz.prog 220 #[.agg #[.int .u8 x.kind,.string (str x.tag),.string (str x.key),.slice ta x.as.length tc,.string (str x.text),.slice ka x.kids.length kc]] w (Bu w0 G L fun v=>v=.tuple #[.int .i64 ((cntF x:Nat):Int),.int .i64 ((Alq x:Nat):Int)]):=Ret.plain M (Abq M hk hl SA SK)
theorem Re (M:Mem w0 G L w) {x:NT} {ta:Option Addr} {tc:Nat} {ka:Option Addr} {kc:Nat} (hk:Au .u8 x.kind) (hl:(x.tag.length≤9223372036854775807∧x.key.length≤9223372036854775807∧x.text.length≤9223372036854775807)) (SA:Ag Dy 2 G (.slice ta x.as.length tc) x.as) (SK:Ag rdN 6 G (.slice ka x.kids.length kc) x.kids):Calls Tryz.prog 193 #[.agg #[.int .u8 x.kind,.string (str x.tag),.string (str x.key),.slice ta x.as.length tc,.string (str x.text),.slice ka x.kids.length kc]] w (Bu w0 G L fun v=>v=.int .i64 ((cntF x:Nat):Int)):=by
 refine Al (vs:=[_]) Tryz.func193 rfl (n:=11) rfl rfl<|?_
 refine Bt<|?_
 refine B2 M rfl rfl rfl<|?_;clear M;intro b1 w M
 refine wk ?_;refine A4 ent220 rfl rfl (Y4 (x:=x) M hk hl SA SK)<|?_;clear M;rintro _ w M rfl
 refine wk ?_;refine Ad rfl rfl<|?_
 exact ⟨M.weaken dS1,rfl⟩
theorem Ha (M:Mem w0 G L w) {x:NT} {ta:Option Addr} {tc:Nat} {ka:Option Addr} {kc:Nat} (hk:Au .u8 x.kind) (hl:(x.tag.length≤9223372036854775807∧x.key.length≤9223372036854775807∧x.text.length≤9223372036854775807)) (SA:Ag Dy 2 G (.slice ta x.as.length tc) x.as) (SK:Ag rdN 6 G (.slice ka x.kids.length kc) x.kids):Calls Tryz.prog 229 #[.agg #[.int .u8 x.kind,.string (str x.tag),.string (str x.key),.slice ta x.as.length tc,.string (str x.text),.slice ka x.kids.length kc]] w (Bu w0 G L fun v=>v=.int .i64 (Uu x)):=by
 refine Al (vs:=[_]) Tryz.func229 rfl (n:=6) rfl rfl<|?_
 refine Bt<|?_
 refine B2 M rfl rfl rfl<|?_;clear M;intro b1 w M
 refine wk ?_;refine A4 Arj rfl rfl (Re (x:=x) M hk hl SA SK)<|?_;clear M;rintro _ w M rfl
 refine wk ?_;refine qD rfl ?_ ?_
 ·intro h2;refine wk ?_;refine Ad rfl rfl<|?_
  exact ⟨M.weaken dS1,by rw [Ais fun h_=>by have:=Me.2 h_;omega]⟩
 intro h3;refine wk ?_;refine Ad rfl rfl<|?_
 exact ⟨M.weaken dS1,by rw [Pj (Me.1 (by omega))]⟩
def RcntP (x:NT):Prop:=∀ (w0 w:World) (G:Aq) (L:List Res) (ta ka:Option Addr) (tc kc lev:Nat),Mem w0 G L w→Au .u8 x.kind→(x.tag.length≤9223372036854775807∧x.key.length≤9223372036854775807∧x.text.length≤9223372036854775807)→Ag Dy 2 G (.slice ta x.as.length tc) x.as→Ag rdN 6 G (.slice ka x.kids.length kc) x.kids→lev≤8 →
  Calls Tryz.prog 188 #[.agg #[.int .u8 x.kind,.string (str x.tag),.string (str x.key),.slice ta x.as.length tc,.string (str x.text),.slice ka x.kids.length kc],.int .i64 (lev:Int)] w (Bu w0 G L fun v=>∃ r:Nat,v=.int .i64 (r:Int)∧Cnt Hr x lev r)
theorem Akg {x:NT} (ih:∀ y∈x.kids,RcntP y) {w0 w:World} {G:Aq} {L:List Res} (M:Mem w0 G L w) {ta:Option Addr} {tc:Nat} {ka:Option Addr} {kc:Nat} (hk:Au .u8 x.kind) (hl:(x.tag.length≤9223372036854775807∧x.key.length≤9223372036854775807∧x.text.length≤9223372036854775807)) (SA:Ag Dy 2 G (.slice ta x.as.length tc) x.as) (SK:Ag rdN 6 G (.slice ka x.kids.length kc) x.kids) {lev:Nat} (hlev:lev≤8):Calls Tryz.prog 188 #[.agg #[.int .u8 x.kind,.string (str x.tag),.string (str x.key),.slice ta x.as.length tc,.string (str x.text),.slice ka x.kids.length kc],.int .i64 (lev:Int)] w (Bu w0 G L fun v=>∃ r:Nat,v=.int .i64 (r:Int)∧Cnt Hr x lev r):=by
 refine Al (vs:=[_,_]) Tryz.func188 rfl (n:=36) rfl rfl<|?_
 refine Bt<|?_
 refine B2 M rfl rfl rfl<|?_;clear M;intro b1 w M
 refine wk ?_
 rcases bE (decide ((lev:Int) < 1)) with h2b | h3b
 ·skip
  have h2:=dT h2b;refine wk ?_;refine Ad rfl rfl<|?_
  exact ⟨M.weaken dS1,1000,rfl,Cnt.bad (by clear M;grind)⟩
 have h3:=dF h3b;refine wk ?_;refine A4 ent211 rfl rfl (Ajr (x:=x) M hk hl SA SK)<|?_;clear M;rintro _ w M ⟨b4,rfl,hb4⟩
 refine wk ?_;refine Ae rfl ?_ ?_
 ·intro h5b;have h5:=Ab h5b;have h5c:(b4)=false:=(Ab h5b);refine wk ?_;refine Ad rfl rfl<|?_
  exact ⟨M.weaken dS1,1000,rfl,Cnt.bad (by clear M;grind)⟩
 intro h6b;have h6:=Ac h6b;have h6c:(b4)=true:=(Ac h6b);refine wk ?_;have hAl:Hr x:=by clear M;grind
 have hl1:1≤lev:=by omega
 have hkl:=Xn hAl;refine wk ?_;refine fun a F=>Ba (fun m a' w'=>∃ (i:Nat),∃ (c:Nat),m=x.kids.length - i∧Fits 36 a' [(1,.int .i64 ((lev:Int))),(2,.pointer (some ⟨b1,0,none⟩)),(5,.int .i64 ((c:Nat):Int)),(6,.int .i64 ((i:Nat):Int))]∧Mem w0 G (.blk b1 [.int .u8 x.kind,.string (str x.tag),.string (str x.key),.slice ta x.as.length tc,.string (str x.text),.slice ka x.kids.length kc] 193::L) w'∧(i≤x.kids.length)∧(CntL Hr x lev i c)) _ ⟨0,1,rfl,F.to ⟨rfl,rfl,rfl,rfl,trivial⟩,M,Nat.zero_le _,CntL.zero _ _⟩ ?_;clear F M;rintro m a w ⟨i,c,rfl,F,M,hi,hL⟩;revert a;refine Cj<|Cj<|?_
 have hchi:=hL.hi;refine wk ?_
 rcases bE (decide (((i:Nat):Int) < ((x.kids.length:Nat):Int))) with h7b | h13b
 ·skip
  have h7:=dT h7b;refine wk ?_;refine qD rfl ?_ ?_
  ·intro h8;refine wk ?_;obtain ⟨Xe9,hXe9⟩:=Ap (xs:=x.kids) (i:=i) (by omega);obtain ⟨be9,oe9,_,Ie9,_,Ae9,hTe9⟩:=SK.at hXe9;obtain ⟨tae9,tce9,kae9,kce9,rfl,hke9,hle9,SAe9,SKe9⟩:=Dn hTe9;refine wk ?_;have hs10:((lev:Int) - 1:Int)=((lev - 1:Nat):Int):=by omega
   intro a F;rw [hs10] at F;revert a;refine A4 Arl rfl rfl (ih Xe9 (List.mem_of_getElem? hXe9) _ _ _ _ _ _ _ _ (lev - 1) M hke9 hle9 SAe9 SKe9 (by omega))<|?_;clear M;rintro _ w M ⟨r11,rfl,hr11⟩
   have hir11:=hr11.hi;have lor11:=hr11.lo;refine wk ?_;intro a F
   exact ⟨_,by omega,i+1,c+r11,rfl,F.to ⟨rfl,rfl,rfl,rfl,trivial⟩,M,by omega,hL.step (by omega) (by omega) hXe9 hr11⟩
  intro h12;refine wk ?_;refine Ad rfl rfl<|?_
  exact ⟨M.weaken dS1,c,rfl,hL.done (by omega) hAl (by omega)⟩
 have h13:=dF h13b;refine wk ?_;refine Ad rfl rfl<|?_
 exact ⟨M.weaken dS1,c,rfl,hL.done (by omega) hAl (by omega)⟩
theorem Aov (x:NT):RcntP x:=by
 induction x using Tr.ind with
 | _ x ih=>intro w0 w G L ta ka tc kc lev M hk hl SA SK hlev;exact Akg ih M hk hl SA SK hlev
theorem Rb (M:Mem w0 G L w) {x:NT} {ta:Option Addr} {tc:Nat} {ka:Option Addr} {kc:Nat} (hk:Au .u8 x.kind) (hl:(x.tag.length≤9223372036854775807∧x.key.length≤9223372036854775807∧x.text.length≤9223372036854775807)) (SA:Ag Dy 2 G (.slice ta x.as.length tc) x.as) (SK:Ag rdN 6 G (.slice ka x.kids.length kc) x.kids):Calls Tryz.prog 153 #[.agg #[.int .u8 x.kind,.string (str x.tag),.string (str x.key),.slice ta x.as.length tc,.string (str x.text),.slice ka x.kids.length kc]] w (Bu w0 G L fun v=>v=.int .i64 ((cntF x:Nat):Int)):=by
 refine Al (vs:=[_]) Tryz.func153 rfl (n:=9) rfl rfl<|?_
 refine Bt<|?_
 refine B2 M rfl rfl rfl<|?_;clear M;intro b1 w M
 refine wk ?_;refine A4 Arl rfl rfl (Aov x _ _ _ _ _ _ _ _ 6 M hk hl SA SK (by omega))<|?_;clear M;rintro _ w M ⟨r2,rfl,hr2⟩
 have hir2:=hr2.hi;have lor2:=hr2.lo;refine wk ?_;refine qD rfl ?_ ?_
 ·intro h3;refine wk ?_;refine Ad rfl rfl<|?_
  exact ⟨M.weaken dS1,by rw [hr2.cntF.1 (by omega)];rfl⟩
 intro h4;refine wk ?_;refine Ad rfl rfl<|?_
 exact ⟨M.weaken dS1,by rw [hr2.cntF.2 (by omega)]⟩
theorem L3 (M:Mem w0 G L w) {x:NT} {ta:Option Addr} {tc:Nat} {ka:Option Addr} {kc:Nat} (hk:Au .u8 x.kind) (hl:(x.tag.length≤9223372036854775807∧x.key.length≤9223372036854775807∧x.text.length≤9223372036854775807)) (SA:Ag Dy 2 G (.slice ta x.as.length tc) x.as) (SK:Ag rdN 6 G (.slice ka x.kids.length kc) x.kids):Calls Tryz.prog 152 #[.agg #[.int .u8 x.kind,.string (str x.tag),.string (str x.key),.slice ta x.as.length tc,.string (str x.text),.slice ka x.kids.length kc]] w (Bu w0 G L fun v=>v=.int .i64 (Uu x)):=by
 refine Al (vs:=[_]) Tryz.func152 rfl (n:=6) rfl rfl<|?_
 refine Bt<|?_
 refine B2 M rfl rfl rfl<|?_;clear M;intro b1 w M
 refine wk ?_;refine A4 Arq rfl rfl (Rb (x:=x) M hk hl SA SK)<|?_;clear M;rintro _ w M rfl
 refine wk ?_;refine qD rfl ?_ ?_
 ·intro h2;refine wk ?_;refine Ad rfl rfl<|?_
  exact ⟨M.weaken dS1,by rw [Ais fun h_=>by have:=Me.2 h_;omega]⟩
 intro h3;refine wk ?_;refine Ad rfl rfl<|?_
 exact ⟨M.weaken dS1,by rw [Pj (Me.1 (by omega))]⟩
open Go Go.Y
theorem Aje:Au .u8 1:=⟨by decide,by decide⟩
theorem Xu:Au .u8 2:=⟨by decide,by decide⟩
theorem J9 {x:Int} (h:Au .u8 x):0≤x∧x≤255:=h
theorem Abk {s:List UInt8}:Hm (.mk 1 s [] [] [] [])↔Ck s:=by
 unfold Hm
 constructor
 ·rintro ⟨⟨h,_⟩,_⟩
  rcases h with ⟨h1,_⟩ | ⟨_,_,h,_⟩
  ·exact absurd h1 (by simp [Tr.kind])
  exact h
 intro h;refine ⟨⟨Or.inr ⟨by simp [Tr.kind],rfl,h,Or.inl rfl,rfl,by simp [Tr.as],by simp [Tr.kids],fun i x hx=>?_,fun i j a b _ ha=>?_⟩,fun c hc=>?_⟩,by simp [Tr.size,Tr.sizes]⟩
 ·simp [Tr.as] at hx
 ·simp [Tr.kids] at ha
 simp [Tr.kids] at hc
theorem Zx {s:List UInt8}:Hm (.mk 2 [] [] [] s [])↔Str s:=by
 unfold Hm
 constructor
 ·rintro ⟨⟨h,_⟩,_⟩
  rcases h with ⟨_,h,_⟩ | ⟨_,h1,_⟩
  ·exact h
  exact absurd h1 (by simp [Tr.kind])
 intro h;refine ⟨⟨Or.inl ⟨rfl,h,rfl,rfl,rfl,rfl⟩,fun c hc=>?_⟩,by simp [Tr.size,Tr.sizes]⟩
 simp [Tr.kids] at hc
theorem Qr {x:NT}:Uu x=0↔Hm x:=by
 unfold Uu
 split
 ·rename_i h;exact ⟨fun _=>h,fun _=>rfl⟩
 rename_i h;exact ⟨fun h2=>(by cases h2),fun h2=>absurd h2 h⟩
def D3 (x:SlotD):Prop:=Ck x.n∧x.src≤3∧Str x.v∧(x.src=0∨x.v=[])
def Gs (l:List SlotD) (i:Nat):Prop:=∀ (m:Nat) (x:SlotD),m < i→l[m]?=some x→D3 x∧∀ y,0 < m→l[m - 1]?=some y→Op.bytesLess y.n x.n=true
def Gx (l:List SlotD):Prop:=l.length≤8∧Gs l l.length
theorem Gs.zero (l:List SlotD):Gs l 0:=fun m x h=>by omega
theorem Gs.step {l:List SlotD} {i:Nat} {x:SlotD} (h:Gs l i) (hx:l[i]?=some x) (hn:D3 x) (ho:∀ y,0 < i→l[i - 1]?=some y→Op.bytesLess y.n x.n=true):Gs l (i+1):=by
 intro m z hm hz
 rcases Nat.eq_or_lt_of_le (show m≤i by omega) with e | e
 ·subst e;rw [hx] at hz;simp only [Option.some.injEq] at hz;subst hz;exact ⟨hn,ho⟩
 exact h m z e hz
theorem Gs.done {l:List SlotD} {i:Nat} (h:Gs l i) (h8:l.length≤8) (hi:l.length≤i):Gx l:=⟨h8,fun m x hm hx=>h m x (by omega) hx⟩
theorem Fc {l:List SlotD} {i:Nat} {x:SlotD} (hx:l[i]?=some x) (h:¬ D3 x):¬ Gx l:=fun ho=>h (ho.2 i x (A0 hx) hx).1
theorem Ml {l:List SlotD} {i:Nat} {x y:SlotD} (hx:l[i]?=some x) (hy:l[i - 1]?=some y) (hi:0 < i) (h:¬ Op.bytesLess y.n x.n=true):¬ Gx l:=fun ho=>h ((ho.2 i x (A0 hx) hx).2 y hi hy)
def Bc (x:PT):Prop :=
 (x.kind=1∧Ck x.tag∧(x.key=[]∨Ck x.key)∧Gx x.as∧x.text=[]∧x.kids.length≤16) ∨
 (x.kind=2∧Str x.text∧x.tag=[]∧x.key=[]∧x.as.length=0∧x.kids.length=0) ∨
 ((x.kind=3∨x.kind=4)∧x.text=[]∧x.tag=[]∧x.key=[]∧x.as.length=0∧x.kids.length=0) ∨
 (x.kind=5∧Ck x.tag∧Gx x.as∧x.key=[]∧x.text=[]∧x.kids.length=0)
theorem Oe {x:PT} (h:Bc x):x.kids.length≤16∧x.as.length≤8:=by
 rcases h with ⟨_,_,_,h,_,h2⟩ | ⟨_,_,_,_,h,h2⟩ | ⟨_,_,_,_,h,h2⟩ | ⟨_,_,h,_,_,h2⟩
 ·exact ⟨h2,h.1⟩
 ·omega
 ·omega
 exact ⟨by omega,h.1⟩
def ValidP (x:PT):Prop:=x.kind=1∧Tr.Ok Bc 6 x∧x.size≤64
open Classical in
noncomputable def cntP (x:PT):Nat:=if ValidP x then x.size else 0
open Classical in
noncomputable def Vl (x:PT):Int:=if ValidP x then 0 else 14
theorem Acw {x:PT} (h:ValidP x):cntP x=x.size:=by unfold cntP;rw [if_pos h]
theorem Zo {x:PT} (h:¬ ValidP x):cntP x=0:=by unfold cntP;rw [if_neg h]
theorem Acy {x:PT} (h:ValidP x):Vl x=0:=by unfold Vl;rw [if_pos h]
theorem Se {x:PT} (h:¬ ValidP x):Vl x=14:=by unfold Vl;rw [if_neg h]
theorem Pi {x:PT}:0 < cntP x↔ValidP x:=by
 unfold cntP
 split
 ·rename_i h;exact ⟨fun _=>h,fun _=>Tr.size_pos x⟩
 rename_i h;exact ⟨fun h2=>(by omega),fun h2=>absurd h2 h⟩
theorem chkP_zero {x:PT}:Vl x=0↔ValidP x:=by
 unfold Vl
 split
 ·rename_i h;exact ⟨fun _=>h,fun _=>rfl⟩
 rename_i h;exact ⟨fun h2=>(by cases h2),fun h2=>absurd h2 h⟩
theorem Cnt.cntP {x:PT} {r:Nat} (h:Cnt Bc x 6 r):(x.kind≠1∨64 < r→_root_.Go.Proofs.YtmmhmcplegpenaaGreatDoor.T.cntP x=0)∧(x.kind=1→r≤64→_root_.Go.Proofs.YtmmhmcplegpenaaGreatDoor.T.cntP x=r):=by
 refine ⟨fun h1=>Zo fun h2=>?_,fun h0 h1=>?_⟩
 ·rcases h1 with h1 | h1
  ·exact h1 h2.1
  have:=h.ok.2 h2.2;omega
 rw [Acw ⟨h0,h.ok.1 h1⟩,h.eq h1]
theorem Cp {a b:Nat} (h1:a≤9223372036854775807) (h2:b≤9223372036854775807):IntKind.i64.wrap (((a:Nat):Int)+((b:Nat):Int))=0↔(a=0∧b=0):=by
 simp [IntKind.wrap,IntKind.signed,IntKind.bits]
 split <;> omega
section
variable {β σ:Type} (f:σ→Tr β→σ)
mutual
def Sh (s:σ):Tr β→σ
 | .mk k t y a x l=>Hu (f s (.mk k t y a x l)) l
def Hu (s:σ):List (Tr β)→σ
 | []=>s
 | c::l=>Hu (Sh s c) l
end
theorem Amm (s:σ) (x:Tr β):Sh f s x=Hu f (f s x) x.kids:=by cases x;simp only [Sh,Tr.kids]
theorem Nd:∀ (l m:List (Tr β)) (s:σ),Hu f s (l++m)=Hu f (Hu f s l) m
 | [],m,s=>by simp [Hu]
 | x::l,m,s=>by simp only [List.cons_append,Hu,Nd l m]
theorem Z0 {l:List (Tr β)} {i:Nat} {x:Tr β} (h:l[i]?=some x) (s:σ):Hu f s (l.take (i+1))=Sh f (Hu f s (l.take i)) x:=by
 rw [Tr.take_snoc' h,Nd];simp [Hu]
end
theorem Tr.Ok.kid {β:Type} {A:Tr β→Prop} {n:Nat} {x c:Tr β} (h:Tr.Ok A n x) (hc:c∈x.kids):∃ m,Tr.Ok A m c:=by
 cases n with
 | zero=>exact h.elim
 | succ n=>exact ⟨n,h.2 c hc⟩
theorem Mq {α:Type} {p:α→Prop} {l:List α} {i:Nat} {x:α} (h:∀ (m:Nat) (y:α),m < i→l[m]?=some y→p y) (hx:l[i]?=some x) (hp:p x):∀ (m:Nat) (y:α),m < i+1→l[m]?=some y→p y:=by
 intro m y hm hy
 rcases Nat.eq_or_lt_of_le (show m≤i by omega) with e | e
 ·subst e;rw [hx] at hy;simp only [Option.some.injEq] at hy;subst hy;exact hp
 exact h m y e hy
structure ItemD where
 key:Int
 typ:Int
 text:List UInt8
 marks:List (List UInt8)
def ItemOk (x:ItemD):Prop:=¬ x.key=0∧Str x.text∧x.marks.length≤8∧∀ s∈x.marks,Ck s
open Classical in
noncomputable def Gq (x:ItemD):Int:=if ItemOk x then 0 else 6
theorem Cv {x:ItemD} (h:ItemOk x):Gq x=0:=by unfold Gq;rw [if_pos h]
theorem Dt {x:ItemD} (h:¬ ItemOk x):Gq x=6:=by unfold Gq;rw [if_neg h]
theorem Fx {l:List (List UInt8)} {i:Nat} (h:∀ (m:Nat) (s:List UInt8),m < i→l[m]?=some s→Ck s) (hi:l.length≤i):∀ s∈l,Ck s:=by
 intro s hs;obtain ⟨m,hm⟩:=List.mem_iff_getElem?.1 hs
 exact h m s (by have:=A0 hm;omega) hm
theorem Abt {x:ItemD} {i:Nat} {s:List UInt8} (hs:x.marks[i]?=some s) (h:¬ Ck s):¬ ItemOk x:=fun ho=>h (ho.2.2.2 s (List.mem_of_getElem? hs))
theorem Hd (u:Nat):Lib.decDigits u=(if u / 10=0 then [] else Lib.decDigits (u / 10))++[UInt8.ofNat (48+u % 10)]:=by
 rw [Lib.decDigits]
 split
 ·rename_i h
  rw [if_pos (by omega),Nat.mod_eq_of_lt h]
  rfl
 rename_i h
 rw [if_neg (by omega)]
theorem Dd (u:Nat) (h:u < 18446744073709551616):(Lib.decDigits u).length≤20:=by
 rw [Lib.decDigits_length]
 rcases Nat.eq_zero_or_pos u with h0 | h0
 ·subst h0;rw [Lib.nDigits_small (by decide)];omega
 have h1:=Lib.numDigits_eq u h0 h
 split at h1 <;> omega
theorem dig_at:∀ k:Nat,k < 10→([48,49,50,51,52,53,54,55,56,57]:List UInt8)[k]?=some (UInt8.ofNat (48+k)):=by decide
theorem Xb:∀ k:Nat,k < 10→(([48,49,50,51,52,53,54,55,56,57]:List UInt8).take (k+1)).drop k=[UInt8.ofNat (48+k)]:=by decide
theorem Qq {k:Nat} (h:k < 10):Lib.decDigits k=[UInt8.ofNat (48+k)]:=by
 rw [Hd,if_pos (by omega),Nat.mod_eq_of_lt h];rfl
theorem dec_two {u:Nat} (h:¬ u < 10):Lib.decDigits (u / 10)++Lib.decDigits (u % 10)=Lib.decDigits u:=by
 rw [Hd u,if_neg (by omega),Qq (k:=u % 10) (by omega)]
theorem Aoc {l:List UInt8} {k:Nat} {b:UInt8} (h:k < l.length):(l.set k b).drop k=b::l.drop (k+1):=by
 rw [List.drop_eq_getElem_cons (by rw [List.length_set];exact h),List.getElem_set_self,List.drop_set_of_lt (by omega)]
theorem Xd {u n i:Nat} {l:List UInt8} {b:UInt8} (h:Lib.decDigits u=Lib.decDigits n++l.drop i) (hi:1≤i) (hi2:i≤20) (hl:l.length=20) (hb:([48,49,50,51,52,53,54,55,56,57]:List UInt8)[n % 10]?=some b) :
  Lib.decDigits u=(if n / 10=0 then [] else Lib.decDigits (n / 10))++(l.set (i - 1) b).drop (i - 1):=by
 rw [dig_at _ (by omega)] at hb;simp only [Option.some.injEq] at hb;rw [h,Hd n,Aoc (by omega),← hb,show i - 1+1=i by omega]
 simp
theorem Auk {u n i:Nat} {l:List UInt8} (h:Lib.decDigits u=Lib.decDigits n++l.drop i) (hu:u < 18446744073709551616) (hl:l.length=20) (hi:i≤20):1≤i:=by
 have h1:=Dd u hu;rw [h,List.length_append,List.length_drop,Lib.decDigits_length] at h1;have:=Lib.nDigits_pos n
 omega
def Hl (x:ItemD) (s:SlotD):List UInt8:=if s.src=1 then x.text else if s.src=2 then Lib.decDigits x.key.toNat else if s.src=3 then Lib.decDigits x.marks.length else s.v
def Bq (x:ItemD) (s:SlotD):AttrD:=⟨s.n,Hl x s⟩
theorem Agi {x:ItemD} {xs:List SlotD} {i:Nat} {s:SlotD} (h:xs[i]?=some s) :
  ((xs.take i).map (Bq x)++List.replicate (xs.length - i) (⟨[],[]⟩:AttrD)).set i (Bq x s)=(xs.take (i+1)).map (Bq x)++List.replicate (xs.length - (i+1)) (⟨[],[]⟩:AttrD):=by
 have hi:=A0 h;rw [Tr.take_snoc' h,List.map_append,List.set_append_right _ _ (by simp;omega)];have e:xs.length - i=(xs.length - (i+1))+1:=by omega
 have e2:i - ((xs.take i).map (Bq x)).length=0:=by simp;omega
 rw [e,e2,List.replicate_succ]
 simp
theorem pick4 {x:ItemD} {s:SlotD} (h0:0≤s.src) (h3:s.src≤3):(#[Value.string (str s.v),Value.string (str x.text),Value.string (str (Lib.decDigits x.key.toNat)),Value.string (str (Lib.decDigits x.marks.length))]:Array Value)[s.src.toNat]?=some (.string (str (Hl x s))):=by
 unfold Hl;have h:s.src=0∨s.src=1∨s.src=2∨s.src=3:=by omega
 rcases h with h | h | h | h <;> rw [h] <;> rfl
theorem Xl {x:ItemD} (ht:x.text.length≤9223372036854775807) (hk:Au .u64 x.key) (hm:x.marks.length≤9223372036854775807) (s:SlotD) (hv:s.v.length≤9223372036854775807):(Hl x s).length≤9223372036854775807:=by
 obtain ⟨h1,h2⟩:0≤x.key∧x.key≤18446744073709551615:=hk;have a:=Dd x.key.toNat (by omega);have b:=Dd x.marks.length (by omega);unfold Hl
 split
 ·exact ht
 split
 ·omega
 split
 ·omega
 exact hv
theorem Ajj {l:List SlotD} (h:Gx l) {s:SlotD} (hs:s∈l):s.src≤3:=by
 obtain ⟨m,hm⟩:=List.mem_iff_getElem?.1 hs
 exact (h.2 m s (A0 hm) hm).1.2.1
def Bv (s:List UInt8):NT:=.mk 2 [] [] [] s []
def Xa (x:ItemD) (tag:List UInt8) (al:List SlotD) (m:List UInt8):NT:=.mk 1 tag m (al.map (Bq x)) [] [Bv m]
mutual
def E7 (x:ItemD):PT→List NT
 | .mk k tag key al text kids=>if k=1 then [.mk 1 tag key (al.map (Bq x)) [] (madesF x kids)] else if k=2 then [Bv text] else if k=3 then [Bv x.text] else if k=4 then [Bv (Lib.decDigits x.key.toNat)] else
   if k=5 then x.marks.map (Xa x tag al) else []
def madesF (x:ItemD):List PT→List NT
 | []=>[]
 | c::l=>E7 x c++madesF x l
end
theorem O4 (x:ItemD):∀ (l r:List PT),madesF x (l++r)=madesF x l++madesF x r
 | [],r=>by simp [madesF]
 | c::l,r=>by simp only [List.cons_append,madesF,O4 x l r,List.append_assoc]
theorem C7 {x:ItemD} {l:List PT} {i:Nat} {c:PT} (h:l[i]?=some c):madesF x (l.take (i+1))=madesF x (l.take i)++E7 x c:=by
 rw [Tr.take_snoc' h,O4];simp [madesF]
theorem Rg {x:ItemD} {p:PT} (h:p.kind=1):E7 x p=[.mk 1 p.tag p.key (p.as.map (Bq x)) [] (madesF x p.kids)]:=by
 cases p;simp only [Tr.kind] at h;subst h;simp [E7,Tr.tag,Tr.key,Tr.as,Tr.kids]
theorem Ahs {x:ItemD} {p:PT} (h:p.kind=2):E7 x p=[Bv p.text]:=by
 cases p;simp only [Tr.kind] at h;subst h;simp [E7,Tr.text]
theorem Ahr {x:ItemD} {p:PT} (h:p.kind=3):E7 x p=[Bv x.text]:=by
 cases p;simp only [Tr.kind] at h;subst h;simp [E7]
theorem Ahq {x:ItemD} {p:PT} (h:p.kind=4):E7 x p=[Bv (Lib.decDigits x.key.toNat)]:=by
 cases p;simp only [Tr.kind] at h;subst h;simp [E7]
theorem Ahp {x:ItemD} {p:PT} (h:p.kind=5):E7 x p=x.marks.map (Xa x p.tag p.as):=by
 cases p;simp only [Tr.kind] at h;subst h;simp [E7,Tr.tag,Tr.as]
theorem made0 {x:ItemD} {p:PT} (h1:¬ p.kind=1) (h2:¬ p.kind=2) (h3:¬ p.kind=3) (h4:¬ p.kind=4) (h5:¬ p.kind=5):E7 x p=[]:=by
 cases p;simp only [Tr.kind] at h1 h2 h3 h4 h5;simp [E7,h1,h2,h3,h4,h5]
theorem T2 {x:ItemD} (hm:x.marks.length≤8) (p:PT):(E7 x p).length≤8:=by
 cases p with
 | mk k tag key al text kids =>
  simp only [E7]
  repeat' split
  all_goals simp
  exact hm
theorem Mr {x:ItemD} (hm:x.marks.length≤8):∀ l:List PT,(madesF x l).length≤8 * l.length
 | []=>by simp [madesF]
 | c::l=>by
  have h1:=T2 hm c;have h2:=Mr hm l;simp only [madesF,List.length_append,List.length_cons];omega
theorem Iz {p:PT} {n:Nat} (h:Tr.Ok Bc n p) (hk:p.kind=1∨p.kind=5):Gx p.as:=by
 cases n with
 | zero=>exact h.elim
 | succ n =>
  rcases h.1 with ⟨_,_,_,h,_⟩ | ⟨h,_⟩ | ⟨h,_⟩ | ⟨_,_,h,_⟩
  ·exact h
  ·omega
  ·omega
  ·exact h
theorem Ahf {p:PT} {n:Nat} (h:Tr.Ok Bc n p):p.kids.length≤16:=by
 cases n with
 | zero=>exact h.elim
 | succ n=>exact (Oe h.1).1
theorem Tu {p:PT} {n:Nat} (h:Tr.Ok Bc n p):∀ c∈p.kids,∃ m,Tr.Ok Bc m c:=fun c hc=>Tr.Ok.kid h hc
theorem I2 {l:List (List UInt8)} {j:Nat} {s:List UInt8} (h:l[j]?=some s) (f:List UInt8→NT):(l.take (j+1)).map f=(l.take j).map f++[f s]:=by
 rw [Tr.take_snoc' h,List.map_append];rfl
theorem Ni {ps:List PT} {p:PT} (h:p∈ps):Tr.sizes p.kids < Tr.sizes ps:=by
 have h1:=Tr.size_mem h;rw [Tr.size_eq] at h1;omega
def node1 (x:ItemD) (p:PT):NT:=.mk 1 p.tag p.key (p.as.map (Bq x)) [] (madesF x p.kids)
def Jm:NT:=.mk 0 [] [] [] [] []
theorem Akz {x:ItemD} {p:PT} (h:p.kind=1):madesF x [p]=[node1 x p]:=by simp [madesF,Rg h,node1]
open Classical in
noncomputable def rendE (p:PT) (x:ItemD) (most:Int):Int :=
 if most < 1∨64 < most then 1 else if ¬ ValidP p then 14 else if ¬ ItemOk x then 6 else if cntF (node1 x p)=0∨most < (cntF (node1 x p):Int) then 14 else 0
open Classical in
noncomputable def Dj (p:PT) (x:ItemD) (most:Int):NT:=if rendE p x most=0 then node1 x p else Jm
section
variable {p:PT} {x:ItemD} {most:Int}
theorem Oy (h:most < 1∨64 < most):rendE p x most=1:=by unfold rendE;rw [if_pos h]
theorem V4 (h:¬ (most < 1∨64 < most)) (hp:¬ ValidP p):rendE p x most=14:=by unfold rendE;rw [if_neg h,if_pos hp]
theorem V5 (h:¬ (most < 1∨64 < most)) (hp:ValidP p) (hx:¬ ItemOk x):rendE p x most=6:=by unfold rendE;rw [if_neg h,if_neg (not_not_intro hp),if_pos hx]
theorem rend_many (h:¬ (most < 1∨64 < most)) (hp:ValidP p) (hx:ItemOk x) (hc:cntF (node1 x p)=0∨most < (cntF (node1 x p):Int)):rendE p x most=14:=by
 unfold rendE;rw [if_neg h,if_neg (not_not_intro hp),if_neg (not_not_intro hx),if_pos hc]
theorem rend_ok (h:¬ (most < 1∨64 < most)) (hp:ValidP p) (hx:ItemOk x) (hc:¬ (cntF (node1 x p)=0∨most < (cntF (node1 x p):Int))):rendE p x most=0:=by
 unfold rendE;rw [if_neg h,if_neg (not_not_intro hp),if_neg (not_not_intro hx),if_neg hc]
theorem Aao (h:rendE p x most=0):Dj p x most=node1 x p:=by unfold Dj;rw [if_pos h]
theorem Fw (h:rendE p x most≠0):Dj p x most=Jm:=by unfold Dj;rw [if_neg h]
end
theorem Cz {x:ItemD}:Gq x=0↔ItemOk x:=by
 unfold Gq
 split
 ·rename_i h;exact ⟨fun _=>h,fun _=>rfl⟩
 rename_i h;exact ⟨fun h2=>(by cases h2),fun h2=>absurd h2 h⟩
theorem Qw {p:PT} (h:ValidP p):∃ n,Tr.Ok Bc n p:=⟨6,h.2.1⟩
theorem Apb {p:PT} {n:Nat} (h:Tr.Ok Bc n p) (h2:¬ p.kind=2) (h3:¬ p.kind=3) (h4:¬ p.kind=4) (h5:¬ p.kind=5):p.kind=1:=by
 cases n with
 | zero=>exact h.elim
 | succ n =>
  rcases h.1 with ⟨h,_⟩ | ⟨h,_⟩ | ⟨h,_⟩ | ⟨h,_⟩
  ·exact h
  ·exact absurd h h2
  ·rcases h with h | h
   ·exact absurd h h3
   ·exact absurd h h4
  ·exact absurd h h5
theorem V9 {a b c:Res} (R L:List Res):(a::b::c::(R++L)).Perm (R++(a::b::c::L)):=by
 have h1:(R++(a::b::c::L)).Perm (a::(R++(b::c::L))):=List.perm_middle;have h2:(R++(b::c::L)).Perm (b::(R++(c::L))):=List.perm_middle;have h3:(R++(c::L)).Perm (c::(R++L)):=List.perm_middle
 exact (h1.trans ((h2.trans (h3.cons b)).cons a)).symm
end Go.Proofs.YtmmhmcplegpenaaGreatDoor.T
