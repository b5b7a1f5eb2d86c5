/- The walks, part TB. · The walks, part TC. -/
import Derived.Test.YtmmhmcplegpenaaGreatDoorJ1
namespace Go.Proofs.YtmmhmcplegpenaaGreatDoor.T
open Go Go.Y Go.Proofs
variable {w0 w:World} {G:A4} {L:List Res}
set_option linter.unusedSimpArgs false
set_option linter.unusedVariables false
theorem Agx {w0 w:World} {G:A4} {L:List Res} {b:Nat} {x d:NT} {ta ka tad kad:Option Addr} {tc kc tcd kcd:Nat} (M:Mem w0 G (.blk b [.int .u8 x.kind,.string (str x.tag),.string (str x.key),.slice ta x.as.length tc,.string (str x.text),.slice ka x.kids.length kc] 193::L) w) :
  Calls Tryz.prog 239 #[.agg #[.int .u8 d.kind,.string (str d.tag),.string (str d.key),.slice tad d.as.length tcd,.string (str d.text),.slice kad d.kids.length kcd],.pointer (some ⟨b,0,none⟩)] w (Cl w0 G (.blk b [.int .u8 x.kind,.string (str x.tag),.string (str x.key),.slice ta x.as.length tc,.string (str x.text),.slice ka x.kids.length kc] 193::L) fun v=>v=.bool (decide (d.key=x.key))):=by
 refine Az (vs:=[_,_]) Tryz.func239 rfl (n:=9) rfl rfl<|Ab<|Ac<|C4 M rfl rfl rfl<|?_;clear M;intro b1 w M
 refine Af rfl<|Aa<|Ad<|Ab<|Ac<|Bc Bd.k rfl rfl<|Bl Bq M 0 rfl rfl rfl rfl<|Bc Bd.k rfl rfl<|Bl Bq M 1 rfl rfl rfl rfl<|F0 rfl rfl<|Af rfl<|Aa<|Ad<|Aj<|Al rfl rfl<|?_
 exact ⟨M.weaken (.cons _ (.cons_cons _ (sR _))),by simp⟩
theorem P1 {w0 w:World} {G:A4} {L:List Res} {b:Nat} {x:NT} {ta ka:Option Addr} {tc kc:Nat} (M:Mem w0 G (.blk b [.int .u8 x.kind,.string (str x.tag),.string (str x.key),.slice ta x.as.length tc,.string (str x.text),.slice ka x.kids.length kc] 193::L) w) {ks:List NT} {kad:Option Addr} {kcd:Nat} (S:Ay rdN 6 G (.slice kad ks.length kcd) ks) (hks:ks.length≤9223372036854775807) :
  Calls Tryz.prog 242 #[.slice kad ks.length kcd,.func (.func 239) #[] #[.pointer (some ⟨b,0,none⟩)]] w (Cl w0 G (.blk b [.int .u8 x.kind,.string (str x.tag),.string (str x.key),.slice ta x.as.length tc,.string (str x.text),.slice ka x.kids.length kc] 193::L) fun v=>∃ z:Int,v=.int .i64 z∧(0≤z↔Xw ks x.key)):=by
 refine Az (vs:=[_,_]) Tryz.func242 rfl (n:=19) rfl rfl<|Ab<|Ac<|Af rfl<|Aa<|Ad<|Ab<|Ab<|Ac<|Ae rfl<|Cg Ct.k rfl<|Ae rfl<|Aa<|Ad<|A3<|fun a F=>B8 (fun m a' w'=>∃ (i:Nat),m=ks.length - i∧Fits 19 a' [(0,.slice kad ks.length kcd),(1,.func (.func 239) #[] #[.pointer (some ⟨b,0,none⟩)]),(7,.int .i64 ((ks.length:Nat):Int)),(8,.int .i64 ((i:Nat):Int))]∧Mem w0 G (.blk b [.int .u8 x.kind,.string (str x.tag),.string (str x.key),.slice ta x.as.length tc,.string (str x.text),.slice ka x.kids.length kc] 193::L) w'∧(i≤ks.length)∧(∀ (m:Nat) (d:NT),m < i→ks[m]?=some d→d.key≠x.key)) _ ⟨0,rfl,F.to ⟨rfl,rfl,rfl,rfl,trivial⟩,M,Nat.zero_le _,fun m d h=>by omega⟩ ?_
 clear F M
 rintro m a w ⟨i,rfl,F,M,hi,hA⟩
 revert a
 refine Ab<|Ac<|Df rfl rfl<|Aa<|Ad<|Ab<|Av rfl ?_ ?_
 ·intro h1b
  have h1:=dT h1b
  refine Au<|Ad<|Ab<|A3<|Ab<|Ac<|Ae rfl<|Af rfl<|Aa<|Ad<|Ab<|Ac<|Ae rfl<|Ae rfl<|Ae rfl<|?_
  obtain ⟨Xe2,hXe2⟩:=Be (xs:=ks) (i:=i) (by omega)
  obtain ⟨be2,oe2,_,Ie2,_,Ae2,hTe2⟩:=S.at hXe2
  obtain ⟨tae2,tce2,kae2,kce2,rfl,hke2,hle2,SAe2,SKe2⟩:=F1 hTe2
  refine Fp Ct.k Bd Ie2 rfl rfl<|Ap (fun a F=>Am Bd rfl (F.ev rfl) (cs:=[.int .u8 Xe2.kind,.string (str Xe2.tag),.string (str Xe2.key),.slice tae2 Xe2.as.length tce2,.string (str Xe2.text),.slice kae2 Xe2.kids.length kce2]) rfl (M.cellsA Ae2 0 (by omega) rfl)) rfl<|?_
  change Mem w0 G (_::L) _ at M
  refine Abg ent239 (caps:=[.pointer (some ⟨b,0,none⟩)]) rfl rfl rfl (Agx (x:=x) (d:=Xe2) M)<|?_;clear M;rintro _ w M rfl
  refine Aa<|Ad<|Av rfl ?_ ?_
  ·intro h3b
   have h3:=dT h3b
   refine Ab<|Ac<|Ae rfl<|Af rfl<|Aa<|Ad<|Aj<|Bo<|Aw<|Aw<|Bo<|Aw<|Al rfl rfl<|?_
   exact ⟨M,_,rfl,⟨fun _=>⟨_,List.mem_of_getElem? hXe2,by assumption⟩,fun _=>by omega⟩⟩
  ·intro h4b
   have h4:=dF h4b
   refine Au<|C0<|Ad<|Ac<|B9 rfl rfl<|Ae rfl<|Aa<|Ad<|fun a F=>?_
   exact ⟨_,by omega,i+1,rfl,F.to ⟨rfl,rfl,rfl,rfl,trivial⟩,M,by omega,fun m d hm hd=>by rcases Nat.eq_or_lt_of_le (show m≤i by omega) with e | e;(subst e;rw [hXe2] at hd;simp only [Option.some.injEq] at hd;subst hd;assumption);exact hA m d e hd⟩
 ·intro h5b
  have h5:=dF h5b
  refine B1<|Bx<|Bx<|Dj<|Ad<|Ab<|Ac<|Af rfl<|Aa<|Ad<|Aj<|Al rfl rfl<|?_
  exact ⟨M,_,rfl,⟨fun h=>by omega,fun ⟨d,hd,he⟩=>by obtain ⟨m,hm⟩:=List.mem_iff_getElem?.1 hd;exact absurd he (hA m d (by have:=Bj hm;omega) hm)⟩⟩
theorem Acy {w0 w:World} {G:A4} {L:List Res} {b:Nat} {x:NT} {ta ka:Option Addr} {tc kc:Nat} (M:Mem w0 G (.blk b [.int .u8 x.kind,.string (str x.tag),.string (str x.key),.slice ta x.as.length tc,.string (str x.text),.slice ka x.kids.length kc] 193::L) w) {ks:List NT} {kad:Option Addr} {kcd:Nat} (S:Ay rdN 6 G (.slice kad ks.length kcd) ks) (hks:ks.length≤9223372036854775807) :
  Calls Tryz.prog 238 #[.slice kad ks.length kcd,.func (.func 239) #[] #[.pointer (some ⟨b,0,none⟩)]] w (Cl w0 G (.blk b [.int .u8 x.kind,.string (str x.tag),.string (str x.key),.slice ta x.as.length tc,.string (str x.text),.slice ka x.kids.length kc] 193::L) fun v=>∃ bb:Bool,v=.bool bb∧(bb=true↔Xw ks x.key)):=by
 refine Az (vs:=[_,_]) Tryz.func238 rfl (n:=9) rfl rfl<|Ab<|Ac<|Af rfl<|Aa<|Ad<|Ab<|Ac<|Ae rfl<|Ae rfl<|?_
 change Mem w0 G (_::L) _ at M
 refine Br ent242 rfl rfl (P1 (x:=x) (ks:=ks) M S (by omega))<|?_;clear M;rintro _ w M ⟨z1,rfl,hz1⟩
 refine Li rfl rfl<|Af rfl<|Aa<|Ad<|Aj<|Al rfl rfl<|?_
 exact ⟨M,_,rfl,decide_eq_true_iff.trans hz1⟩
theorem Add (M:Mem w0 G L w) {x:NT} {ta:Option Addr} {tc:Nat} {ka:Option Addr} {kc:Nat} (hk:A2 .u8 x.kind) (hl:(x.tag.length≤9223372036854775807∧x.key.length≤9223372036854775807∧x.text.length≤9223372036854775807)) (SA:Ay Fk 2 G (.slice ta x.as.length tc) x.as) (SK:Ay rdN 6 G (.slice ka x.kids.length kc) x.kids) {nb no:Nat} (A:At G nb no [.int .u8 x.kind,.string (str x.tag),.string (str x.key),.slice ta x.as.length tc,.string (str x.text),.slice ka x.kids.length kc]):Calls Tryz.prog 233 #[.pointer (some ⟨nb,no,none⟩)] w (Cl w0 G L fun v=>∃ bb:Bool,v=.bool bb∧(bb=true↔H3 x)):=by
 refine Az (vs:=[_]) Tryz.func233 rfl (n:=161) rfl rfl<|Ab<|Ac<|Af rfl<|Aa<|Ad<|Ab<|Ab<|Ac<|Ae rfl<|Ep rfl<|Bc Bd.k rfl rfl<|D4 Ew M A 0 rfl rfl rfl rfl<|Dc rfl rfl<|Aa<|Ad<|Av rfl ?_ ?_
 ·intro h1b
  have h1:=dT h1b
  refine Ab<|Ac<|Ae rfl<|Ep rfl<|Bc Bd.k rfl rfl<|D4 Bq M A 4 rfl rfl rfl rfl<|Br Alo rfl rfl (Jk (s:=x.text) M (by omega))<|?_;clear M;rintro _ w M ⟨b2,rfl,hb2⟩
  refine Ae rfl<|?_
  rcases bE (b2) with h3b | h10b
  ·skip
   have h3:(b2)=true:=h3b
   refine g_t rfl h3b<|Ae rfl<|g_t rfl h3b<|Ep rfl<|g_t rfl h3b<|Bc Bd.k rfl rfl<|g_t rfl h3b<|D4 Bq M A 1 rfl rfl rfl rfl<|g_t rfl h3b<|F0 rfl rfl<|Bi rfl h3b rfl<|Ae rfl<|?_
   rcases bE (decide (x.tag=([]:List UInt8))) with h4b | h9b
   ·skip
    have h4:=dT h4b
    refine g_t rfl h4b<|Ae rfl<|g_t rfl h4b<|Ep rfl<|g_t rfl h4b<|Bc Bd.k rfl rfl<|g_t rfl h4b<|D4 Bq M A 2 rfl rfl rfl rfl<|g_t rfl h4b<|F0 rfl rfl<|Bi rfl h4b rfl<|Ae rfl<|?_
    rcases bE (decide (x.key=([]:List UInt8))) with h5b | h8b
    ·skip
     have h5:=dT h5b
     refine g_t rfl h5b<|Ae rfl<|g_t rfl h5b<|Ep rfl<|g_t rfl h5b<|Bc Bd.k rfl rfl<|g_t rfl h5b<|D4 Ee M A 3 rfl rfl rfl rfl<|g_t rfl h5b<|Cg Ee.k rfl<|g_t rfl h5b<|Dc rfl rfl<|Bi rfl h5b rfl<|Ae rfl<|?_
     rcases bE (decide (((x.as.length:Nat):Int)=0)) with h6b | h7b
     ·skip
      have h6:=dT h6b
      refine g_t rfl h6b<|Ae rfl<|g_t rfl h6b<|Ep rfl<|g_t rfl h6b<|Bc Bd.k rfl rfl<|g_t rfl h6b<|D4 Ct M A 5 rfl rfl rfl rfl<|g_t rfl h6b<|Cg Ct.k rfl<|g_t rfl h6b<|Dc rfl rfl<|Bi rfl h6b rfl<|Af rfl<|Aa<|Ad<|Aj<|Aw<|Al rfl rfl<|?_
      exact ⟨M,(decide (((x.kids.length:Nat):Int)=0)),rfl,(by rw [Ff (by assumption)];clear M;grind)⟩
     ·skip
      have h7:=dF h7b
      refine g_f rfl h7b<|g_f rfl h7b<|g_f rfl h7b<|g_f rfl h7b<|g_f rfl h7b<|g_f rfl h7b<|Bh rfl h7b rfl<|Af rfl<|Aa<|Ad<|Aj<|Aw<|Al rfl rfl<|?_
      exact ⟨M,false,rfl,(by rw [Ff (by assumption)];clear M;grind)⟩
    ·skip
     have h8:=dF h8b
     refine g_f rfl h8b<|g_f rfl h8b<|g_f rfl h8b<|g_f rfl h8b<|g_f rfl h8b<|g_f rfl h8b<|Bh rfl h8b rfl<|Ae rfl<|g_f rfl rfl<|g_f rfl rfl<|g_f rfl rfl<|g_f rfl rfl<|g_f rfl rfl<|g_f rfl rfl<|Bh rfl rfl rfl<|Af rfl<|Aa<|Ad<|Aj<|Aw<|Al rfl rfl<|?_
     exact ⟨M,false,rfl,(by rw [Ff (by assumption)];clear M;grind)⟩
   ·skip
    have h9:=dF h9b
    refine g_f rfl h9b<|g_f rfl h9b<|g_f rfl h9b<|g_f rfl h9b<|g_f rfl h9b<|Bh rfl h9b rfl<|Ae rfl<|g_f rfl rfl<|g_f rfl rfl<|g_f rfl rfl<|g_f rfl rfl<|g_f rfl rfl<|g_f rfl rfl<|Bh rfl rfl rfl<|Ae rfl<|g_f rfl rfl<|g_f rfl rfl<|g_f rfl rfl<|g_f rfl rfl<|g_f rfl rfl<|g_f rfl rfl<|Bh rfl rfl rfl<|Af rfl<|Aa<|?_
    refine Ad<|Aj<|Aw<|Al rfl rfl<|?_
    exact ⟨M,false,rfl,(by rw [Ff (by assumption)];clear M;grind)⟩
  ·skip
   have h10:(b2)=false:=h10b
   refine g_f rfl h10b<|g_f rfl h10b<|g_f rfl h10b<|g_f rfl h10b<|g_f rfl h10b<|Bh rfl h10b rfl<|Ae rfl<|g_f rfl rfl<|g_f rfl rfl<|g_f rfl rfl<|g_f rfl rfl<|g_f rfl rfl<|Bh rfl rfl rfl<|Ae rfl<|g_f rfl rfl<|g_f rfl rfl<|g_f rfl rfl<|g_f rfl rfl<|g_f rfl rfl<|g_f rfl rfl<|Bh rfl rfl rfl<|Ae rfl<|g_f rfl rfl<|g_f rfl rfl<|?_
   refine g_f rfl rfl<|g_f rfl rfl<|g_f rfl rfl<|g_f rfl rfl<|Bh rfl rfl rfl<|Af rfl<|Aa<|Ad<|Aj<|Aw<|Al rfl rfl<|?_
   exact ⟨M,false,rfl,(by rw [Ff (by assumption)];clear M;grind)⟩
 ·intro h11b
  have h11:=dF h11b
  refine Au<|Ad<|Ab<|Ab<|fun a F=>Qd (fun a' w'=>∃ (bb:Bool),Fits 161 a' [(0,.pointer (some ⟨nb,no,none⟩)),(97,.bool bb)]∧Mem w0 G (L) w'∧(bb=true↔¬ Ja x)) ?_ ?_
  ·skip
   revert a
   refine Ac<|Ae rfl<|Ep rfl<|Bc Bd.k rfl rfl<|D4 Ew M A 0 rfl rfl rfl rfl<|D9 rfl rfl<|Ae rfl<|?_
   rcases bE (!(decide (x.kind=1))) with h12b | h13b
   ·skip
    have h12:=dF (Ag h12b)
    have h12c:(decide (x.kind=1))=false:=(Ag h12b)
    refine g_f rfl (Ak h12c)<|g_f rfl (Ak h12c)<|g_f rfl (Ak h12c)<|g_f rfl (Ak h12c)<|g_f rfl (Ak h12c)<|g_f rfl (Ak h12c)<|Bi rfl (Ak h12c) rfl<|Ae rfl<|g_f rfl rfl<|g_f rfl rfl<|g_f rfl rfl<|g_f rfl rfl<|g_f rfl rfl<|g_f rfl rfl<|g_u rfl<|g_u rfl<|g_u rfl<|g_u rfl<|g_u rfl<|g_u rfl<|g_f rfl rfl<|Bi rfl rfl rfl<|Ae rfl<|g_f rfl rfl<|?_
    refine g_f rfl rfl<|g_f rfl rfl<|g_f rfl rfl<|g_f rfl rfl<|Bi rfl rfl rfl<|Ae rfl<|g_f rfl rfl<|g_f rfl rfl<|g_f rfl rfl<|g_f rfl rfl<|g_f rfl rfl<|g_f rfl rfl<|Bi rfl rfl rfl<|Ae rfl<|g_f rfl rfl<|g_f rfl rfl<|g_f rfl rfl<|g_f rfl rfl<|g_f rfl rfl<|g_f rfl rfl<|Bi rfl rfl rfl<|Aa<|fun a F=>?_
    exact ⟨true,F.to ⟨rfl,rfl,trivial⟩,M,by unfold Ja;clear F M;grind⟩
   ·skip
    have h13:=dT (Ah h13b)
    have h13c:(decide (x.kind=1))=true:=(Ah h13b)
    refine g_t rfl (Ai h13c)<|Ae rfl<|g_t rfl (Ai h13c)<|Ep rfl<|g_t rfl (Ai h13c)<|Bc Bd.k rfl rfl<|g_t rfl (Ai h13c)<|D4 Bq M A 1 rfl rfl rfl rfl<|g_t rfl (Ai h13c)<|Br Acp rfl rfl (L7 (s:=x.tag) M (by omega))<|?_;clear M;rintro _ w M ⟨b14,rfl,hb14⟩
    refine g_t rfl (Ai h13c)<|C9 rfl<|Bh rfl (Ai h13c) rfl<|Ae rfl<|?_
    rcases bE (!(b14)) with h15b | h16b
    ·skip
     have h15:=Ag h15b
     have h15c:(b14)=false:=(Ag h15b)
     refine g_f rfl (Ak h15c)<|g_f rfl (Ak h15c)<|g_f rfl (Ak h15c)<|g_f rfl (Ak h15c)<|g_f rfl (Ak h15c)<|g_f rfl (Ak h15c)<|g_u rfl<|g_u rfl<|g_u rfl<|g_u rfl<|g_u rfl<|g_u rfl<|g_f rfl (Ak h15c)<|Bi rfl (Ak h15c) rfl<|Ae rfl<|g_f rfl rfl<|g_f rfl rfl<|g_f rfl rfl<|g_f rfl rfl<|g_f rfl rfl<|Bi rfl rfl rfl<|Ae rfl<|g_f rfl rfl<|g_f rfl rfl<|?_
     refine g_f rfl rfl<|g_f rfl rfl<|g_f rfl rfl<|g_f rfl rfl<|Bi rfl rfl rfl<|Ae rfl<|g_f rfl rfl<|g_f rfl rfl<|g_f rfl rfl<|g_f rfl rfl<|g_f rfl rfl<|g_f rfl rfl<|Bi rfl rfl rfl<|Aa<|fun a F=>?_
     exact ⟨true,F.to ⟨rfl,rfl,trivial⟩,M,by unfold Ja;clear F M;grind⟩
    ·skip
     have h16:=Ah h16b
     have h16c:(b14)=true:=(Ah h16b)
     refine g_t rfl (Ai h16c)<|Ae rfl<|g_t rfl (Ai h16c)<|Ep rfl<|g_t rfl (Ai h16c)<|Bc Bd.k rfl rfl<|g_t rfl (Ai h16c)<|D4 Bq M A 2 rfl rfl rfl rfl<|g_t rfl (Ai h16c)<|Gw rfl rfl<|g_t rfl (Ai h16c)<|Ae rfl<|?_
     rcases bE (!(decide (x.key=([]:List UInt8)))) with h17b | h25b
     ·skip
      have h17:=dF (Ag h17b)
      have h17c:(decide (x.key=([]:List UInt8)))=false:=(Ag h17b)
      refine g_t rfl (Ak h17c)<|Ae rfl<|g_t rfl (Ak h17c)<|Ep rfl<|g_t rfl (Ak h17c)<|Bc Bd.k rfl rfl<|g_t rfl (Ak h17c)<|D4 Bq M A 2 rfl rfl rfl rfl<|g_t rfl (Ak h17c)<|Br Acp rfl rfl (L7 (s:=x.key) M (by omega))<|?_;clear M;rintro _ w M ⟨b18,rfl,hb18⟩
      refine g_t rfl (Ak h17c)<|C9 rfl<|g_t rfl (Ai h16c)<|Bi rfl (Ak h17c) rfl<|Bh rfl (Ai h16c) rfl<|Ae rfl<|?_
      rcases bE (!(b18)) with h19b | h20b
      ·skip
       have h19:=Ag h19b
       have h19c:(b18)=false:=(Ag h19b)
       refine g_f rfl (Ak h19c)<|g_f rfl (Ak h19c)<|g_f rfl (Ak h19c)<|g_f rfl (Ak h19c)<|g_f rfl (Ak h19c)<|Bi rfl (Ak h19c) rfl<|Ae rfl<|g_f rfl rfl<|g_f rfl rfl<|g_f rfl rfl<|g_f rfl rfl<|g_f rfl rfl<|g_f rfl rfl<|Bi rfl rfl rfl<|Ae rfl<|g_f rfl rfl<|g_f rfl rfl<|g_f rfl rfl<|g_f rfl rfl<|g_f rfl rfl<|g_f rfl rfl<|Bi rfl rfl rfl<|Aa<|fun a F=>?_
       exact ⟨true,F.to ⟨rfl,rfl,trivial⟩,M,by unfold Ja;clear F M;grind⟩
      ·skip
       have h20:=Ah h20b
       have h20c:(b18)=true:=(Ah h20b)
       refine g_t rfl (Ai h20c)<|Ae rfl<|g_t rfl (Ai h20c)<|Ep rfl<|g_t rfl (Ai h20c)<|Bc Bd.k rfl rfl<|g_t rfl (Ai h20c)<|D4 Bq M A 4 rfl rfl rfl rfl<|g_t rfl (Ai h20c)<|Gw rfl rfl<|Bh rfl (Ai h20c) rfl<|Ae rfl<|?_
       rcases bE (!(decide (x.text=([]:List UInt8)))) with h21b | h22b
       ·skip
        have h21:=dF (Ag h21b)
        have h21c:(decide (x.text=([]:List UInt8)))=false:=(Ag h21b)
        refine g_f rfl (Ak h21c)<|g_f rfl (Ak h21c)<|g_f rfl (Ak h21c)<|g_f rfl (Ak h21c)<|g_f rfl (Ak h21c)<|g_f rfl (Ak h21c)<|Bi rfl (Ak h21c) rfl<|Ae rfl<|g_f rfl rfl<|g_f rfl rfl<|g_f rfl rfl<|g_f rfl rfl<|g_f rfl rfl<|g_f rfl rfl<|Bi rfl rfl rfl<|Aa<|fun a F=>?_
        exact ⟨true,F.to ⟨rfl,rfl,trivial⟩,M,by unfold Ja;clear F M;grind⟩
       ·skip
        have h22:=dT (Ah h22b)
        have h22c:(decide (x.text=([]:List UInt8)))=true:=(Ah h22b)
        refine g_t rfl (Ai h22c)<|Ae rfl<|g_t rfl (Ai h22c)<|Ep rfl<|g_t rfl (Ai h22c)<|Bc Bd.k rfl rfl<|g_t rfl (Ai h22c)<|D4 Ee M A 3 rfl rfl rfl rfl<|g_t rfl (Ai h22c)<|Cg Ee.k rfl<|g_t rfl (Ai h22c)<|Dn rfl rfl<|Bh rfl (Ai h22c) rfl<|Ae rfl<|?_
        rcases bE (decide (8 < ((x.as.length:Nat):Int))) with h23b | h24b
        ·skip
         have h23:=dT h23b
         refine g_f rfl h23b<|g_f rfl h23b<|g_f rfl h23b<|g_f rfl h23b<|g_f rfl h23b<|g_f rfl h23b<|Bi rfl h23b rfl<|Aa<|fun a F=>?_
         exact ⟨true,F.to ⟨rfl,rfl,trivial⟩,M,by unfold Ja;clear F M;grind⟩
        ·skip
         have h24:=dF h24b
         refine g_t rfl h24b<|Ae rfl<|g_t rfl h24b<|Ep rfl<|g_t rfl h24b<|Bc Bd.k rfl rfl<|g_t rfl h24b<|D4 Ct M A 5 rfl rfl rfl rfl<|g_t rfl h24b<|Cg Ct.k rfl<|g_t rfl h24b<|Dn rfl rfl<|Bh rfl h24b rfl<|Aa<|fun a F=>?_
         exact ⟨(decide (16 < ((x.kids.length:Nat):Int))),F.to ⟨rfl,rfl,trivial⟩,M,by unfold Ja;clear F M;grind⟩
     ·skip
      have h25:=dT (Ah h25b)
      have h25c:(decide (x.key=([]:List UInt8)))=true:=(Ah h25b)
      refine g_f rfl (Ai h25c)<|g_f rfl (Ai h25c)<|g_f rfl (Ai h25c)<|g_f rfl (Ai h25c)<|g_f rfl (Ai h25c)<|g_f rfl (Ai h25c)<|g_t rfl (Ai h16c)<|Bh rfl (Ai h25c) rfl<|Bh rfl (Ai h16c) rfl<|Ae rfl<|g_t rfl rfl<|Ae rfl<|g_t rfl rfl<|Ep rfl<|g_t rfl rfl<|Bc Bd.k rfl rfl<|g_t rfl rfl<|D4 Bq M A 4 rfl rfl rfl rfl<|g_t rfl rfl<|Gw rfl rfl<|Bh rfl rfl rfl<|Ae rfl<|?_
      rcases bE (!(decide (x.text=([]:List UInt8)))) with h26b | h27b
      ·skip
       have h26:=dF (Ag h26b)
       have h26c:(decide (x.text=([]:List UInt8)))=false:=(Ag h26b)
       refine g_f rfl (Ak h26c)<|g_f rfl (Ak h26c)<|g_f rfl (Ak h26c)<|g_f rfl (Ak h26c)<|g_f rfl (Ak h26c)<|g_f rfl (Ak h26c)<|Bi rfl (Ak h26c) rfl<|Ae rfl<|g_f rfl rfl<|g_f rfl rfl<|g_f rfl rfl<|g_f rfl rfl<|g_f rfl rfl<|g_f rfl rfl<|Bi rfl rfl rfl<|Aa<|fun a F=>?_
       exact ⟨true,F.to ⟨rfl,rfl,trivial⟩,M,by unfold Ja;clear F M;grind⟩
      ·skip
       have h27:=dT (Ah h27b)
       have h27c:(decide (x.text=([]:List UInt8)))=true:=(Ah h27b)
       refine g_t rfl (Ai h27c)<|Ae rfl<|g_t rfl (Ai h27c)<|Ep rfl<|g_t rfl (Ai h27c)<|Bc Bd.k rfl rfl<|g_t rfl (Ai h27c)<|D4 Ee M A 3 rfl rfl rfl rfl<|g_t rfl (Ai h27c)<|Cg Ee.k rfl<|g_t rfl (Ai h27c)<|Dn rfl rfl<|Bh rfl (Ai h27c) rfl<|Ae rfl<|?_
       rcases bE (decide (8 < ((x.as.length:Nat):Int))) with h28b | h29b
       ·skip
        have h28:=dT h28b
        refine g_f rfl h28b<|g_f rfl h28b<|g_f rfl h28b<|g_f rfl h28b<|g_f rfl h28b<|g_f rfl h28b<|Bi rfl h28b rfl<|Aa<|fun a F=>?_
        exact ⟨true,F.to ⟨rfl,rfl,trivial⟩,M,by unfold Ja;clear F M;grind⟩
       ·skip
        have h29:=dF h29b
        refine g_t rfl h29b<|Ae rfl<|g_t rfl h29b<|Ep rfl<|g_t rfl h29b<|Bc Bd.k rfl rfl<|g_t rfl h29b<|D4 Ct M A 5 rfl rfl rfl rfl<|g_t rfl h29b<|Cg Ct.k rfl<|g_t rfl h29b<|Dn rfl rfl<|Bh rfl h29b rfl<|Aa<|fun a F=>?_
        exact ⟨(decide (16 < ((x.kids.length:Nat):Int))),F.to ⟨rfl,rfl,trivial⟩,M,by unfold Ja;clear F M;grind⟩
  ·clear F M
   rintro a w ⟨bb,F,M,hbb⟩
   revert a
   refine Ad<|Av rfl ?_ ?_
   ·intro h30b
    have h30:(bb)=true:=h30b
    refine Ab<|Ac<|Af rfl<|Aa<|Ad<|Aj<|Aw<|Al rfl rfl<|?_
    exact ⟨M,false,rfl,(by rw [E8 (by assumption)];have q99:=@Hv;clear M;grind)⟩
   ·intro h31b
    have h31:(bb)=false:=h31b
    refine Au<|Ad<|Ab<|Ab<|?_
    have hE:Ja x:=by clear M;grind
    obtain ⟨hE1,hE2,hE3,hE4,hE5,hE6⟩:=id hE
    refine Ac<|Ae rfl<|Ep rfl<|Bc Bd.k rfl rfl<|D4 Ee M A 3 rfl rfl rfl rfl<|Cg Ee.k rfl<|Ae rfl<|Aa<|Ad<|A3<|fun a F=>B8 (fun m a' w'=>∃ (i:Nat),m=x.as.length - i∧Fits 161 a' [(0,.pointer (some ⟨nb,no,none⟩)),(101,.slice ta x.as.length tc),(102,.int .i64 ((x.as.length:Nat):Int)),(103,.int .i64 ((i:Nat):Int))]∧Mem w0 G (L) w'∧(i≤x.as.length)∧(H1 x.as i)) _ ⟨0,rfl,F.to ⟨rfl,rfl,rfl,rfl,trivial⟩,M,Nat.zero_le _,H1.zero _⟩ ?_
    clear F M
    rintro m a w ⟨i,rfl,F,M,hi,hA⟩
    revert a
    refine Ab<|Ac<|Df rfl rfl<|Aa<|Ad<|Ab<|Av rfl ?_ ?_
    ·intro h32b
     have h32:=dT h32b
     refine Au<|Ad<|Ab<|A3<|Ab<|Ac<|Ae rfl<|?_
     obtain ⟨Xe33,hXe33⟩:=Be (xs:=x.as) (i:=i) (by omega)
     obtain ⟨be33,oe33,_,Ie33,_,Ae33,⟨rfl,hn1e33,hv1e33⟩⟩:=SA.at hXe33
     refine Fp Ee.k Fq Ie33 rfl rfl<|Ap (fun a F=>Am Fq rfl (F.ev rfl) (cs:=[.string (str Xe33.n),.string (str Xe33.v)]) rfl (M.cellsA Ae33 0 (by omega) rfl)) rfl<|Cz M Fq rfl rfl<|?_;clear M;intro b34 w M
     refine Af rfl<|fun a F=>?_
     refine Ar F M Fq (k:=0) rfl rfl rfl (us:=[.string (str Xe33.n),.string (str Xe33.v)]) rfl rfl (by simp [Value.oneCell']) (by simp) ?_;clear F M a;intro w a M F
     change Mem w0 G (.blk b34 [.string (str Xe33.n),.string (str Xe33.v)] 282::L) _ at M
     revert a
     refine Aa<|Ad<|Ab<|fun a F=>Fm [(.free,0),(.pure,1),(.keep,2),(.free,3),(.free,4),(.free,5),(.pure,6),(.keep,7),(.free,8),(.free,9),(.free,10),(.free,11),(.free,12),(.free,13),(.free,14),(.pure,15),(.free,16),(.free,17),(.free,18),(.pure,19),(.free,20),(.free,21),(.free,22),(.free,23),(.pure,24),(.free,25),(.free,26),(.free,27)] [] (Keep G [.blk b34 [.string (str Xe33.n),.string (str Xe33.v)] 282]) rfl (by kernel_rfl) (fun c a d v w h=>by cases d <;> exact h) ((M.drew _).keep (Gle.refl _) (by simp)) ?_
     replace M:=M.drew (w.drawn+1)
     revert a
     refine k_f (fun a F w _=>Co Fq.k rfl F rfl) rfl<|k_p (fun a F w M=>Aq (agf Bq rfl) (F.ev rfl) (M.cellL (k:=0) rfl rfl)) rfl<|k_k rfl<|Br Acp rfl rfl (L7 (s:=Xe33.n) M (by omega))<|?_;clear M;rintro _ w M ⟨b36,rfl,hb36⟩
     refine Aa<|eK (C':=Keep G [.blk b34 [.string (str Xe33.n),.string (str Xe33.v)] 282]) (M.keep (Gle.refl _) (by simp)) (fun w h=>h.mono (Gle.refl _) (by simp))<|k_f (fun a F w _=>Gn (F.ev rfl)) rfl<|k_f (fun a F w _=>Cj F rfl) rfl<|?_
     rcases bE (!(b36)) with h37b | h38b
     ·skip
      have h37:=Ag h37b
      have h37c:(b36)=false:=(Ag h37b)
      refine k_s rfl (Ak h37c)<|k_s rfl (Ak h37c)<|k_s rfl (Ak h37c)<|k_s rfl (Ak h37c)<|k_f (fun a F w _=>H4 F rfl (Ak h37c) rfl) rfl<|k_f (fun a F w _=>Cj F rfl) rfl<|k_s rfl rfl<|k_s rfl rfl<|k_s rfl rfl<|k_u rfl<|k_u rfl<|k_u rfl<|k_u rfl<|k_u rfl<|k_u rfl<|k_u rfl<|k_u rfl<|k_u rfl<|k_u rfl<|k_u rfl<|k_u rfl<|k_s rfl rfl<|k_f (fun a F w _=>H4 F rfl rfl rfl) rfl<|D1<|?_
      refine Ad<|Bk rfl rfl<|Ab<|Ac<|Af rfl<|Aa<|Ad<|Aj<|Bo<|Aw<|Aw<|Bo<|Aw<|Al rfl rfl<|?_
      exact ⟨(M.weaken (.cons _ (sR _))),false,rfl,(by rw [E8 (by assumption)];have q0:=Hp hXe33;have q99:=@Hv;clear M;grind)⟩
     ·skip
      have h38:=Ah h38b
      have h38c:(b36)=true:=(Ah h38b)
      refine Db rfl (Ai h38c) (fun a F w _=>Co Fq.k rfl F rfl)<|Ig rfl (Ai h38c) (fun a F w M=>Aq (agf Bq rfl) (F.ev rfl) (M.cellL (k:=0) rfl rfl))<|fun a F=>Hi F rfl rfl (Ai h38c) ?_
      revert a
      refine g_t rfl (Ai h38c)<|Br Alo rfl rfl (Jk (s:=Xe33.v) M (by omega))<|?_;clear M;rintro _ w M ⟨b39,rfl,hb39⟩
      refine Aa<|eK (C':=Keep G [.blk b34 [.string (str Xe33.n),.string (str Xe33.v)] 282]) (M.keep (Gle.refl _) (by simp)) (fun w h=>h.mono (Gle.refl _) (by simp))<|Db rfl (Ai h38c) (fun a F w _=>Gn (F.ev rfl))<|k_f (fun a F w _=>Gy F rfl (Ai h38c) rfl) rfl<|k_f (fun a F w _=>Cj F rfl) rfl<|?_
      rcases bE (!(b39)) with h40b | h41b
      ·skip
       have h40:=Ag h40b
       have h40c:(b39)=false:=(Ag h40b)
       refine k_s rfl (Ak h40c)<|k_s rfl (Ak h40c)<|k_s rfl (Ak h40c)<|k_u rfl<|k_u rfl<|k_u rfl<|k_u rfl<|k_u rfl<|k_u rfl<|k_u rfl<|k_u rfl<|k_u rfl<|k_u rfl<|k_u rfl<|k_u rfl<|k_s rfl (Ak h40c)<|k_f (fun a F w _=>H4 F rfl (Ak h40c) rfl) rfl<|D1<|Ad<|Bk rfl rfl<|Ab<|Ac<|Af rfl<|Aa<|?_
       refine Ad<|Aj<|Bo<|Aw<|Aw<|Bo<|Aw<|Al rfl rfl<|?_
       exact ⟨(M.weaken (.cons _ (sR _))),false,rfl,(by rw [E8 (by assumption)];have q0:=Hp hXe33;have q99:=@Hv;clear M;grind)⟩
      ·skip
       have h41:=Ah h41b
       have h41c:(b39)=true:=(Ah h41b)
       refine Db rfl (Ai h41c) (fun a F w _=>Cj F rfl)<|Db rfl (Ai h41c) (fun a F w _=>Ky (F.ev rfl) (F.ev rfl))<|Db rfl (Ai h41c) (fun a F w _=>Cj F rfl)<|?_
       rcases bE (decide (0 < ((i:Nat):Int))) with h42b | h47b
       ·skip
        have h42:=dT h42b
        refine Db rfl h42b (fun a F w _=>Co Fq.k rfl F rfl)<|Ig rfl h42b (fun a F w M=>Aq (agf Bq rfl) (F.ev rfl) (M.cellL (k:=0) rfl rfl))<|Db rfl h42b (fun a F w _=>Cj F rfl)<|Db rfl h42b (fun a F w _=>D3 (F.ev rfl))<|Db rfl h42b (fun a F w _=>Co Bd.k rfl F rfl)<|Ig rfl h42b (fun a F w M=>Aq (agf Ee rfl) (F.ev rfl) (M.cellA A 3 rfl rfl))<|Db rfl h42b (fun a F w _=>Cj F rfl)<|Db rfl h42b (fun a F w _=>Lw (F.ev rfl) (F.ev rfl) (Cr (by omega) (by omega)))<|?_
        have hs43:(((i:Nat):Int) - 1:Int)=((i - 1:Nat):Int):=by omega
        intro a F
        rw [hs43] at F
        obtain ⟨Xe44,hXe44⟩:=Be (xs:=x.as) (i:=i - 1) (by omega)
        obtain ⟨be44,oe44,_,Ie44,_,Ae44,⟨rfl,hn1e44,hv1e44⟩⟩:=SA.at hXe44
        revert a
        refine Db rfl h42b (fun a F w _=>Ca Ee.k Fq (F.ev rfl) (F.ev rfl) (by omega) Ie44)<|Db rfl h42b (fun a F w _=>Co Fq.k rfl F rfl)<|Ig rfl h42b (fun a F w M=>Aq (agf Bq rfl) (F.ev rfl) (M.cellA Ae44 0 rfl rfl))<|Db rfl h42b (fun a F w _=>Ns (F.ev rfl) (F.ev rfl))<|Db rfl (Ai h41c) (fun a F w _=>H4 F rfl h42b rfl)<|k_f (fun a F w _=>Gy F rfl (Ai h41c) rfl) rfl<|D1<|Ad<|Av rfl ?_ ?_
        ·intro h45b
         have h45:(Op.bytesLess Xe33.n Xe44.n || Xe33.n==Xe44.n)=true:=h45b
         refine Ab<|Ac<|Af rfl<|Aa<|Ad<|Aj<|Bo<|Aw<|Aw<|Bo<|Aw<|Al rfl rfl<|?_
         exact ⟨(M.weaken (.cons _ (sR _))),false,rfl,(by rw [E8 (by assumption)];have q0:=Hp hXe33;have q1:=fun h=>Na hXe33 hXe44 h;have q2:=Hp hXe44;have q3:=fun h=>Na hXe44 hXe33 h;have q99:=@Hv;clear M;grind)⟩
        ·intro h46b
         have h46:(Op.bytesLess Xe33.n Xe44.n || Xe33.n==Xe44.n)=false:=h46b
         refine Au<|C0<|Ad<|Ac<|B9 rfl rfl<|Ae rfl<|Aa<|Ad<|fun a F=>?_
         exact ⟨_,by omega,i+1,rfl,F.to ⟨rfl,rfl,rfl,rfl,trivial⟩,(M.weaken (.cons _ (sR _))),by omega,hA.step hXe33 (by clear F M;grind) (by clear F M;grind) (fun y h_ hy=>by rw [hXe44] at hy;simp only [Option.some.injEq] at hy;subst hy;clear F M;have q99:=@Hv;grind)⟩
       ·skip
        have h47:=dF h47b
        refine k_s rfl h47b<|k_s rfl h47b<|k_s rfl h47b<|k_s rfl h47b<|k_s rfl h47b<|k_s rfl h47b<|k_s rfl h47b<|k_s rfl h47b<|k_s rfl h47b<|k_s rfl h47b<|k_s rfl h47b<|k_s rfl h47b<|Db rfl (Ai h41c) (fun a F w _=>Gy F rfl h47b rfl)<|k_f (fun a F w _=>Gy F rfl (Ai h41c) rfl) rfl<|D1<|Ad<|D2 rfl rfl<|Au<|C0<|Ad<|Ac<|B9 rfl rfl<|Ae rfl<|Aa<|?_
        refine Ad<|fun a F=>?_
        exact ⟨_,by omega,i+1,rfl,F.to ⟨rfl,rfl,rfl,rfl,trivial⟩,(M.weaken (.cons _ (sR _))),by omega,hA.step hXe33 (by clear F M;grind) (by clear F M;grind) (fun y h_=>by omega)⟩
    ·intro h48b
     have h48:=dF h48b
     refine B1<|Bx<|Bx<|Dj<|Ad<|Ab<|Ab<|Ac<|Ae rfl<|Ep rfl<|Bc Bd.k rfl rfl<|D4 Ct M A 5 rfl rfl rfl rfl<|Cg Ct.k rfl<|Ae rfl<|Aa<|Ad<|A3<|fun a F=>B8 (fun m a' w'=>∃ (j:Nat),m=x.kids.length - j∧Fits 161 a' [(0,.pointer (some ⟨nb,no,none⟩)),(140,.slice ka x.kids.length kc),(141,.int .i64 ((x.kids.length:Nat):Int)),(142,.int .i64 ((j:Nat):Int))]∧Mem w0 G (L) w'∧(j≤x.kids.length)∧(H2 x.as)∧(Ft x.kids j)) _ ⟨0,rfl,F.to ⟨rfl,rfl,rfl,rfl,trivial⟩,M,Nat.zero_le _,hA.all (by omega),Ft.zero _⟩ ?_
     clear F M
     rintro m a w ⟨j,rfl,F,M,hj,hAO,hK⟩
     revert a
     refine Ab<|Ac<|Df rfl rfl<|Aa<|Ad<|Ab<|Av rfl ?_ ?_
     ·intro h49b
      have h49:=dT h49b
      refine Au<|Ad<|Ab<|A3<|Ab<|Ac<|Ae rfl<|?_
      obtain ⟨Xe50,hXe50⟩:=Be (xs:=x.kids) (i:=j) (by omega)
      obtain ⟨be50,oe50,_,Ie50,_,Ae50,hTe50⟩:=SK.at hXe50
      obtain ⟨tae50,tce50,kae50,kce50,rfl,hke50,hle50,SAe50,SKe50⟩:=F1 hTe50
      refine Fp Ct.k Bd Ie50 rfl rfl<|Ap (fun a F=>Am Bd rfl (F.ev rfl) (cs:=[.int .u8 Xe50.kind,.string (str Xe50.tag),.string (str Xe50.key),.slice tae50 Xe50.as.length tce50,.string (str Xe50.text),.slice kae50 Xe50.kids.length kce50]) rfl (M.cellsA Ae50 0 (by omega) rfl)) rfl<|Cz M Bd rfl rfl<|?_;clear M;intro b51 w M
      refine Af rfl<|fun a F=>?_
      refine Ar F M Bd (k:=0) rfl rfl rfl (us:=[.int .u8 Xe50.kind,.string (str Xe50.tag),.string (str Xe50.key),.slice tae50 Xe50.as.length tce50,.string (str Xe50.text),.slice kae50 Xe50.kids.length kce50]) rfl rfl (by simp [Value.oneCell']) (by simp) ?_;clear F M a;intro w a M F
      change Mem w0 G (.blk b51 [.int .u8 Xe50.kind,.string (str Xe50.tag),.string (str Xe50.key),.slice tae50 Xe50.as.length tce50,.string (str Xe50.text),.slice kae50 Xe50.kids.length kce50] 193::L) _ at M
      revert a
      refine Aa<|Ad<|Ab<|Ac<|Bc Bd.k rfl rfl<|Bl Bq M 0 rfl rfl rfl rfl<|Gw rfl rfl<|Ae rfl<|?_
      rcases bE (!(decide (Xe50.key=([]:List UInt8)))) with h53b | h59b
      ·skip
       have h53:=dF (Ag h53b)
       have h53c:(decide (Xe50.key=([]:List UInt8)))=false:=(Ag h53b)
       refine g_t rfl (Ak h53c)<|Ae rfl<|g_t rfl (Ak h53c)<|Ep rfl<|g_t rfl (Ak h53c)<|Bc Bd.k rfl rfl<|g_t rfl (Ak h53c)<|D4 Ct M A 5 rfl rfl rfl rfl<|g_t rfl (Ak h53c)<|Ae rfl<|g_t rfl (Ak h53c)<|?_
       obtain ⟨as54,cs54,Is54,hms54,hcs54,Ss54⟩:=SK.partT (j) (by omega)
       refine Ap (fun a F=>Kx Ct.k Bd Is54 (F.ev rfl) (h:=j) (kl:=.i64) (zl:=0) rfl ⟨(F.ev rfl),by omega⟩ (by omega) (by omega)) rfl<|?_
       have hf55:j - 0=(x.kids.take (j)).length:=by rw [List.length_take];omega
       intro a F
       rw [hf55] at F Ss54
       revert a
       refine g_t rfl (Ak h53c)<|Ap (fun a F=>Dk (vs:=#[.pointer (some ⟨b51,0,none⟩)]) (by simp only [List.map_toArray,List.map_cons,List.map_nil,F.ev (x:=.tmp 6) rfl])) rfl<|g_t rfl (Ak h53c)<|?_
       change Mem w0 G (.blk b51 [.int .u8 Xe50.kind,.string (str Xe50.tag),.string (str Xe50.key),.slice tae50 Xe50.as.length tce50,.string (str Xe50.text),.slice kae50 Xe50.kids.length kce50] 193::L) _ at M
       refine Br ent238 rfl rfl (Acy (x:=Xe50) (ks:=x.kids.take (j)) M (by have h_:=Ss54;simpa using h_) (by omega))<|?_;clear M;rintro _ w M ⟨b56,rfl,hb56⟩
       refine Bi rfl (Ak h53c) rfl<|Aa<|Ad<|Av rfl ?_ ?_
       ·intro h57b
        have h57:(b56)=true:=h57b
        refine Ab<|Ac<|Af rfl<|Aa<|Ad<|Aj<|Bo<|Aw<|Aw<|Bo<|Aw<|Al rfl rfl<|?_
        exact ⟨(M.weaken (.cons _ (sR _))),false,rfl,(by rw [E8 (by assumption)];have q0:=P2 hXe50;have q99:=@Hv;clear M;grind)⟩
       ·intro h58b
        have h58:(b56)=false:=h58b
        refine Au<|C0<|Ad<|Ac<|B9 rfl rfl<|Ae rfl<|Aa<|Ad<|fun a F=>?_
        exact ⟨_,by omega,j+1,rfl,F.to ⟨rfl,rfl,rfl,rfl,trivial⟩,(M.weaken (.cons _ (sR _))),by omega,hAO,hK.step hXe50 (by clear F M;first | (left;assumption) | (right;exact Qv (by grind)))⟩
      ·skip
       have h59:=dT (Ah h59b)
       have h59c:(decide (Xe50.key=([]:List UInt8)))=true:=(Ah h59b)
       refine g_f rfl (Ai h59c)<|g_f rfl (Ai h59c)<|g_f rfl (Ai h59c)<|g_f rfl (Ai h59c)<|g_f rfl (Ai h59c)<|g_f rfl (Ai h59c)<|g_f rfl (Ai h59c)<|g_f rfl (Ai h59c)<|Bh rfl (Ai h59c) rfl<|Aa<|Ad<|D2 rfl rfl<|Au<|C0<|Ad<|Ac<|B9 rfl rfl<|Ae rfl<|Aa<|Ad<|fun a F=>?_
       exact ⟨_,by omega,j+1,rfl,F.to ⟨rfl,rfl,rfl,rfl,trivial⟩,(M.weaken (.cons _ (sR _))),by omega,hAO,hK.step hXe50 (by clear F M;first | (left;assumption) | (right;exact Qv (by grind)))⟩
     ·intro h60b
      have h60:=dF h60b
      refine B1<|Bx<|Bx<|Dj<|Ad<|Ab<|Ac<|Af rfl<|Aa<|Ad<|Aj<|Al rfl rfl<|?_
      exact ⟨M,true,rfl,(by rw [E8 (by assumption)];exact ⟨fun _=>⟨hE,hAO,hK.all (by omega)⟩,fun _=>rfl⟩)⟩
theorem Afl (M:Mem w0 G L w) {x:NT} {ta:Option Addr} {tc:Nat} {ka:Option Addr} {kc:Nat} (hk:A2 .u8 x.kind) (hl:(x.tag.length≤9223372036854775807∧x.key.length≤9223372036854775807∧x.text.length≤9223372036854775807)) (SA:Ay Fk 2 G (.slice ta x.as.length tc) x.as) (SK:Ay rdN 6 G (.slice ka x.kids.length kc) x.kids):Calls Tryz.prog 211 #[.agg #[.int .u8 x.kind,.string (str x.tag),.string (str x.key),.slice ta x.as.length tc,.string (str x.text),.slice ka x.kids.length kc]] w (Cl w0 G L fun v=>∃ bb:Bool,v=.bool bb∧(bb=true↔H3 x)):=by
 refine Az (vs:=[_]) Tryz.func211 rfl (n:=149) rfl rfl<|Ab<|Ac<|C4 M rfl rfl rfl<|?_;clear M;intro b1 w M
 refine Af rfl<|Aa<|Ad<|Ab<|Ab<|Ac<|Bc Bd.k rfl rfl<|Bl Ew M 0 rfl rfl rfl rfl<|Dc rfl rfl<|Aa<|Ad<|Av rfl ?_ ?_
 ·intro h2b
  have h2:=dT h2b
  refine Ab<|Ac<|Bc Bd.k rfl rfl<|Bl Bq M 0 rfl rfl rfl rfl<|Br Alx rfl rfl (U6 (s:=x.text) M (by omega))<|?_;clear M;rintro _ w M ⟨b3,rfl,hb3⟩
  refine Ae rfl<|?_
  rcases bE (b3) with h4b | h11b
  ·skip
   have h4:(b3)=true:=h4b
   refine g_t rfl h4b<|Bc Bd.k rfl rfl<|g_t rfl h4b<|Bl Bq M 0 rfl rfl rfl rfl<|g_t rfl h4b<|F0 rfl rfl<|Bi rfl h4b rfl<|Ae rfl<|?_
   rcases bE (decide (x.tag=([]:List UInt8))) with h5b | h10b
   ·skip
    have h5:=dT h5b
    refine g_t rfl h5b<|Bc Bd.k rfl rfl<|g_t rfl h5b<|Bl Bq M 0 rfl rfl rfl rfl<|g_t rfl h5b<|F0 rfl rfl<|Bi rfl h5b rfl<|Ae rfl<|?_
    rcases bE (decide (x.key=([]:List UInt8))) with h6b | h9b
    ·skip
     have h6:=dT h6b
     refine g_t rfl h6b<|Bc Bd.k rfl rfl<|g_t rfl h6b<|Bl Ee M 0 rfl rfl rfl rfl<|g_t rfl h6b<|Cg Ee.k rfl<|g_t rfl h6b<|Dc rfl rfl<|Bi rfl h6b rfl<|Ae rfl<|?_
     rcases bE (decide (((x.as.length:Nat):Int)=0)) with h7b | h8b
     ·skip
      have h7:=dT h7b
      refine g_t rfl h7b<|Bc Bd.k rfl rfl<|g_t rfl h7b<|Bl Ct M 0 rfl rfl rfl rfl<|g_t rfl h7b<|Cg Ct.k rfl<|g_t rfl h7b<|Dc rfl rfl<|Bi rfl h7b rfl<|Af rfl<|Aa<|Ad<|Aj<|Aw<|Al rfl rfl<|?_
      exact ⟨(M.weaken (.cons _ (sR _))),(decide (((x.kids.length:Nat):Int)=0)),rfl,(by rw [Ff (by assumption)];clear M;grind)⟩
     ·skip
      have h8:=dF h8b
      refine g_f rfl h8b<|g_f rfl h8b<|g_f rfl h8b<|g_f rfl h8b<|Bh rfl h8b rfl<|Af rfl<|Aa<|Ad<|Aj<|Aw<|Al rfl rfl<|?_
      exact ⟨(M.weaken (.cons _ (sR _))),false,rfl,(by rw [Ff (by assumption)];clear M;grind)⟩
    ·skip
     have h9:=dF h9b
     refine g_f rfl h9b<|g_f rfl h9b<|g_f rfl h9b<|g_f rfl h9b<|Bh rfl h9b rfl<|Ae rfl<|g_f rfl rfl<|g_f rfl rfl<|g_f rfl rfl<|g_f rfl rfl<|Bh rfl rfl rfl<|Af rfl<|Aa<|Ad<|Aj<|Aw<|Al rfl rfl<|?_
     exact ⟨(M.weaken (.cons _ (sR _))),false,rfl,(by rw [Ff (by assumption)];clear M;grind)⟩
   ·skip
    have h10:=dF h10b
    refine g_f rfl h10b<|g_f rfl h10b<|g_f rfl h10b<|Bh rfl h10b rfl<|Ae rfl<|g_f rfl rfl<|g_f rfl rfl<|g_f rfl rfl<|g_f rfl rfl<|Bh rfl rfl rfl<|Ae rfl<|g_f rfl rfl<|g_f rfl rfl<|g_f rfl rfl<|g_f rfl rfl<|Bh rfl rfl rfl<|Af rfl<|Aa<|Ad<|Aj<|Aw<|Al rfl rfl<|?_
    exact ⟨(M.weaken (.cons _ (sR _))),false,rfl,(by rw [Ff (by assumption)];clear M;grind)⟩
  ·skip
   have h11:(b3)=false:=h11b
   refine g_f rfl h11b<|g_f rfl h11b<|g_f rfl h11b<|Bh rfl h11b rfl<|Ae rfl<|g_f rfl rfl<|g_f rfl rfl<|g_f rfl rfl<|Bh rfl rfl rfl<|Ae rfl<|g_f rfl rfl<|g_f rfl rfl<|g_f rfl rfl<|g_f rfl rfl<|Bh rfl rfl rfl<|Ae rfl<|g_f rfl rfl<|g_f rfl rfl<|g_f rfl rfl<|g_f rfl rfl<|Bh rfl rfl rfl<|Af rfl<|Aa<|Ad<|?_
   refine Aj<|Aw<|Al rfl rfl<|?_
   exact ⟨(M.weaken (.cons _ (sR _))),false,rfl,(by rw [Ff (by assumption)];clear M;grind)⟩
 ·intro h12b
  have h12:=dF h12b
  refine Au<|Ad<|Ab<|Ab<|fun a F=>Qd (fun a' w'=>∃ (bb:Bool),Fits 149 a' [(1,.pointer (some ⟨b1,0,none⟩)),(71,.bool bb)]∧Mem w0 G (.blk b1 [.int .u8 x.kind,.string (str x.tag),.string (str x.key),.slice ta x.as.length tc,.string (str x.text),.slice ka x.kids.length kc] 193::L) w'∧(bb=true↔¬ Ja x)) ?_ ?_
  ·skip
   revert a
   refine Ac<|Bc Bd.k rfl rfl<|Bl Ew M 0 rfl rfl rfl rfl<|D9 rfl rfl<|Ae rfl<|?_
   rcases bE (!(decide (x.kind=1))) with h13b | h14b
   ·skip
    have h13:=dF (Ag h13b)
    have h13c:(decide (x.kind=1))=false:=(Ag h13b)
    refine g_f rfl (Ak h13c)<|g_f rfl (Ak h13c)<|g_f rfl (Ak h13c)<|g_f rfl (Ak h13c)<|Bi rfl (Ak h13c) rfl<|Ae rfl<|g_f rfl rfl<|g_f rfl rfl<|g_f rfl rfl<|g_f rfl rfl<|g_u rfl<|g_u rfl<|g_u rfl<|g_u rfl<|g_f rfl rfl<|Bi rfl rfl rfl<|Ae rfl<|g_f rfl rfl<|g_f rfl rfl<|g_f rfl rfl<|Bi rfl rfl rfl<|Ae rfl<|g_f rfl rfl<|g_f rfl rfl<|?_
    refine g_f rfl rfl<|g_f rfl rfl<|Bi rfl rfl rfl<|Ae rfl<|g_f rfl rfl<|g_f rfl rfl<|g_f rfl rfl<|g_f rfl rfl<|Bi rfl rfl rfl<|Aa<|fun a F=>?_
    exact ⟨true,F.to ⟨rfl,rfl,trivial⟩,M,by unfold Ja;clear F M;grind⟩
   ·skip
    have h14:=dT (Ah h14b)
    have h14c:(decide (x.kind=1))=true:=(Ah h14b)
    refine g_t rfl (Ai h14c)<|Bc Bd.k rfl rfl<|g_t rfl (Ai h14c)<|Bl Bq M 0 rfl rfl rfl rfl<|g_t rfl (Ai h14c)<|Br Acu rfl rfl (Gk (s:=x.tag) M (by omega))<|?_;clear M;rintro _ w M ⟨b15,rfl,hb15⟩
    refine g_t rfl (Ai h14c)<|C9 rfl<|Bh rfl (Ai h14c) rfl<|Ae rfl<|?_
    rcases bE (!(b15)) with h16b | h17b
    ·skip
     have h16:=Ag h16b
     have h16c:(b15)=false:=(Ag h16b)
     refine g_f rfl (Ak h16c)<|g_f rfl (Ak h16c)<|g_f rfl (Ak h16c)<|g_f rfl (Ak h16c)<|g_u rfl<|g_u rfl<|g_u rfl<|g_u rfl<|g_f rfl (Ak h16c)<|Bi rfl (Ak h16c) rfl<|Ae rfl<|g_f rfl rfl<|g_f rfl rfl<|g_f rfl rfl<|Bi rfl rfl rfl<|Ae rfl<|g_f rfl rfl<|g_f rfl rfl<|g_f rfl rfl<|g_f rfl rfl<|Bi rfl rfl rfl<|Ae rfl<|g_f rfl rfl<|g_f rfl rfl<|?_
     refine g_f rfl rfl<|g_f rfl rfl<|Bi rfl rfl rfl<|Aa<|fun a F=>?_
     exact ⟨true,F.to ⟨rfl,rfl,trivial⟩,M,by unfold Ja;clear F M;grind⟩
    ·skip
     have h17:=Ah h17b
     have h17c:(b15)=true:=(Ah h17b)
     refine g_t rfl (Ai h17c)<|Bc Bd.k rfl rfl<|g_t rfl (Ai h17c)<|Bl Bq M 0 rfl rfl rfl rfl<|g_t rfl (Ai h17c)<|Gw rfl rfl<|g_t rfl (Ai h17c)<|Ae rfl<|?_
     rcases bE (!(decide (x.key=([]:List UInt8)))) with h18b | h26b
     ·skip
      have h18:=dF (Ag h18b)
      have h18c:(decide (x.key=([]:List UInt8)))=false:=(Ag h18b)
      refine g_t rfl (Ak h18c)<|Bc Bd.k rfl rfl<|g_t rfl (Ak h18c)<|Bl Bq M 0 rfl rfl rfl rfl<|g_t rfl (Ak h18c)<|Br Acu rfl rfl (Gk (s:=x.key) M (by omega))<|?_;clear M;rintro _ w M ⟨b19,rfl,hb19⟩
      refine g_t rfl (Ak h18c)<|C9 rfl<|g_t rfl (Ai h17c)<|Bi rfl (Ak h18c) rfl<|Bh rfl (Ai h17c) rfl<|Ae rfl<|?_
      rcases bE (!(b19)) with h20b | h21b
      ·skip
       have h20:=Ag h20b
       have h20c:(b19)=false:=(Ag h20b)
       refine g_f rfl (Ak h20c)<|g_f rfl (Ak h20c)<|g_f rfl (Ak h20c)<|Bi rfl (Ak h20c) rfl<|Ae rfl<|g_f rfl rfl<|g_f rfl rfl<|g_f rfl rfl<|g_f rfl rfl<|Bi rfl rfl rfl<|Ae rfl<|g_f rfl rfl<|g_f rfl rfl<|g_f rfl rfl<|g_f rfl rfl<|Bi rfl rfl rfl<|Aa<|fun a F=>?_
       exact ⟨true,F.to ⟨rfl,rfl,trivial⟩,M,by unfold Ja;clear F M;grind⟩
      ·skip
       have h21:=Ah h21b
       have h21c:(b19)=true:=(Ah h21b)
       refine g_t rfl (Ai h21c)<|Bc Bd.k rfl rfl<|g_t rfl (Ai h21c)<|Bl Bq M 0 rfl rfl rfl rfl<|g_t rfl (Ai h21c)<|Gw rfl rfl<|Bh rfl (Ai h21c) rfl<|Ae rfl<|?_
       rcases bE (!(decide (x.text=([]:List UInt8)))) with h22b | h23b
       ·skip
        have h22:=dF (Ag h22b)
        have h22c:(decide (x.text=([]:List UInt8)))=false:=(Ag h22b)
        refine g_f rfl (Ak h22c)<|g_f rfl (Ak h22c)<|g_f rfl (Ak h22c)<|g_f rfl (Ak h22c)<|Bi rfl (Ak h22c) rfl<|Ae rfl<|g_f rfl rfl<|g_f rfl rfl<|g_f rfl rfl<|g_f rfl rfl<|Bi rfl rfl rfl<|Aa<|fun a F=>?_
        exact ⟨true,F.to ⟨rfl,rfl,trivial⟩,M,by unfold Ja;clear F M;grind⟩
       ·skip
        have h23:=dT (Ah h23b)
        have h23c:(decide (x.text=([]:List UInt8)))=true:=(Ah h23b)
        refine g_t rfl (Ai h23c)<|Bc Bd.k rfl rfl<|g_t rfl (Ai h23c)<|Bl Ee M 0 rfl rfl rfl rfl<|g_t rfl (Ai h23c)<|Cg Ee.k rfl<|g_t rfl (Ai h23c)<|Dn rfl rfl<|Bh rfl (Ai h23c) rfl<|Ae rfl<|?_
        rcases bE (decide (8 < ((x.as.length:Nat):Int))) with h24b | h25b
        ·skip
         have h24:=dT h24b
         refine g_f rfl h24b<|g_f rfl h24b<|g_f rfl h24b<|g_f rfl h24b<|Bi rfl h24b rfl<|Aa<|fun a F=>?_
         exact ⟨true,F.to ⟨rfl,rfl,trivial⟩,M,by unfold Ja;clear F M;grind⟩
        ·skip
         have h25:=dF h25b
         refine g_t rfl h25b<|Bc Bd.k rfl rfl<|g_t rfl h25b<|Bl Ct M 0 rfl rfl rfl rfl<|g_t rfl h25b<|Cg Ct.k rfl<|g_t rfl h25b<|Dn rfl rfl<|Bh rfl h25b rfl<|Aa<|fun a F=>?_
         exact ⟨(decide (16 < ((x.kids.length:Nat):Int))),F.to ⟨rfl,rfl,trivial⟩,M,by unfold Ja;clear F M;grind⟩
     ·skip
      have h26:=dT (Ah h26b)
      have h26c:(decide (x.key=([]:List UInt8)))=true:=(Ah h26b)
      refine g_f rfl (Ai h26c)<|g_f rfl (Ai h26c)<|g_f rfl (Ai h26c)<|g_f rfl (Ai h26c)<|g_t rfl (Ai h17c)<|Bh rfl (Ai h26c) rfl<|Bh rfl (Ai h17c) rfl<|Ae rfl<|g_t rfl rfl<|Bc Bd.k rfl rfl<|g_t rfl rfl<|Bl Bq M 0 rfl rfl rfl rfl<|g_t rfl rfl<|Gw rfl rfl<|Bh rfl rfl rfl<|Ae rfl<|?_
      rcases bE (!(decide (x.text=([]:List UInt8)))) with h27b | h28b
      ·skip
       have h27:=dF (Ag h27b)
       have h27c:(decide (x.text=([]:List UInt8)))=false:=(Ag h27b)
       refine g_f rfl (Ak h27c)<|g_f rfl (Ak h27c)<|g_f rfl (Ak h27c)<|g_f rfl (Ak h27c)<|Bi rfl (Ak h27c) rfl<|Ae rfl<|g_f rfl rfl<|g_f rfl rfl<|g_f rfl rfl<|g_f rfl rfl<|Bi rfl rfl rfl<|Aa<|fun a F=>?_
       exact ⟨true,F.to ⟨rfl,rfl,trivial⟩,M,by unfold Ja;clear F M;grind⟩
      ·skip
       have h28:=dT (Ah h28b)
       have h28c:(decide (x.text=([]:List UInt8)))=true:=(Ah h28b)
       refine g_t rfl (Ai h28c)<|Bc Bd.k rfl rfl<|g_t rfl (Ai h28c)<|Bl Ee M 0 rfl rfl rfl rfl<|g_t rfl (Ai h28c)<|Cg Ee.k rfl<|g_t rfl (Ai h28c)<|Dn rfl rfl<|Bh rfl (Ai h28c) rfl<|Ae rfl<|?_
       rcases bE (decide (8 < ((x.as.length:Nat):Int))) with h29b | h30b
       ·skip
        have h29:=dT h29b
        refine g_f rfl h29b<|g_f rfl h29b<|g_f rfl h29b<|g_f rfl h29b<|Bi rfl h29b rfl<|Aa<|fun a F=>?_
        exact ⟨true,F.to ⟨rfl,rfl,trivial⟩,M,by unfold Ja;clear F M;grind⟩
       ·skip
        have h30:=dF h30b
        refine g_t rfl h30b<|Bc Bd.k rfl rfl<|g_t rfl h30b<|Bl Ct M 0 rfl rfl rfl rfl<|g_t rfl h30b<|Cg Ct.k rfl<|g_t rfl h30b<|Dn rfl rfl<|Bh rfl h30b rfl<|Aa<|fun a F=>?_
        exact ⟨(decide (16 < ((x.kids.length:Nat):Int))),F.to ⟨rfl,rfl,trivial⟩,M,by unfold Ja;clear F M;grind⟩
  ·clear F M
   rintro a w ⟨bb,F,M,hbb⟩
   revert a
   refine Ad<|Av rfl ?_ ?_
   ·intro h31b
    have h31:(bb)=true:=h31b
    refine Ab<|Ac<|Af rfl<|Aa<|Ad<|Aj<|Aw<|Al rfl rfl<|?_
    exact ⟨(M.weaken (.cons _ (sR _))),false,rfl,(by rw [E8 (by assumption)];have q99:=@Hv;clear M;grind)⟩
   ·intro h32b
    have h32:(bb)=false:=h32b
    refine Au<|Ad<|Ab<|Ab<|?_
    have hE:Ja x:=by clear M;grind
    obtain ⟨hE1,hE2,hE3,hE4,hE5,hE6⟩:=id hE
    refine Ac<|Af rfl<|Aa<|Ad<|A3<|fun a F=>B8 (fun m a' w'=>∃ (i:Nat),m=x.as.length - i∧Fits 149 a' [(1,.pointer (some ⟨b1,0,none⟩)),(3,.int .i64 ((i:Nat):Int))]∧Mem w0 G (.blk b1 [.int .u8 x.kind,.string (str x.tag),.string (str x.key),.slice ta x.as.length tc,.string (str x.text),.slice ka x.kids.length kc] 193::L) w'∧(i≤x.as.length)∧(H1 x.as i)) _ ⟨0,rfl,F.to ⟨rfl,rfl,trivial⟩,M,Nat.zero_le _,H1.zero _⟩ ?_
    clear F M
    rintro m a w ⟨i,rfl,F,M,hi,hA⟩
    revert a
    refine Ab<|Ab<|Ac<|Ae rfl<|Bc Bd.k rfl rfl<|Bl Ee M 0 rfl rfl rfl rfl<|Cg Ee.k rfl<|Df rfl rfl<|Aa<|Ad<|Av rfl ?_ ?_
    ·intro h33b
     have h33:=dT h33b
     refine Au<|Ad<|Ab<|A3<|Ab<|Ab<|Ac<|Bc Bd.k rfl rfl<|Bl Ee M 0 rfl rfl rfl rfl<|Ae rfl<|?_
     obtain ⟨Xe34,hXe34⟩:=Be (xs:=x.as) (i:=i) (by omega)
     obtain ⟨be34,oe34,_,Ie34,_,Ae34,⟨rfl,hn1e34,hv1e34⟩⟩:=SA.at hXe34
     refine Fp Ee.k Fq Ie34 rfl rfl<|Bc Fq.k rfl rfl<|D4 Bq M Ae34 0 rfl rfl rfl rfl<|Br Acu rfl rfl (Gk (s:=Xe34.n) M (by omega))<|?_;clear M;rintro _ w M ⟨b35,rfl,hb35⟩
     refine C9 rfl<|Ae rfl<|?_
     rcases bE (!(b35)) with h36b | h37b
     ·skip
      have h36:=Ag h36b
      have h36c:(b35)=false:=(Ag h36b)
      refine g_f rfl (Ak h36c)<|g_f rfl (Ak h36c)<|g_f rfl (Ak h36c)<|g_f rfl (Ak h36c)<|g_f rfl (Ak h36c)<|g_f rfl (Ak h36c)<|g_f rfl (Ak h36c)<|g_f rfl (Ak h36c)<|Bi rfl (Ak h36c) rfl<|Aa<|Ad<|Bk rfl rfl<|Ab<|Ac<|Af rfl<|Aa<|Ad<|Aj<|Aw<|Bo<|Aw<|Aw<|Bo<|Aw<|?_
      refine Al rfl rfl<|?_
      exact ⟨(M.weaken (.cons _ (sR _))),false,rfl,(by rw [E8 (by assumption)];have q0:=Hp hXe34;have q99:=@Hv;clear M;grind)⟩
     ·skip
      have h37:=Ah h37b
      have h37c:(b35)=true:=(Ah h37b)
      refine g_t rfl (Ai h37c)<|Bc Bd.k rfl rfl<|g_t rfl (Ai h37c)<|Bl Ee M 0 rfl rfl rfl rfl<|g_t rfl (Ai h37c)<|Ae rfl<|g_t rfl (Ai h37c)<|?_
      obtain ⟨be38,oe38,_,Ie38,_,Ae38,⟨rfl,hn1e38,hv1e38⟩⟩:=SA.at hXe34
      refine Fp Ee.k Fq Ie38 rfl rfl<|g_t rfl (Ai h37c)<|Bc Fq.k rfl rfl<|g_t rfl (Ai h37c)<|D4 Bq M Ae38 1 rfl rfl rfl rfl<|g_t rfl (Ai h37c)<|Br Alx rfl rfl (U6 (s:=Xe34.v) M (by omega))<|?_;clear M;rintro _ w M ⟨b39,rfl,hb39⟩
      refine g_t rfl (Ai h37c)<|C9 rfl<|Bh rfl (Ai h37c) rfl<|Aa<|Ad<|Av rfl ?_ ?_
      ·intro h40b
       have h40:=Ag h40b
       have h40c:(b39)=false:=(Ag h40b)
       refine Ab<|Ac<|Af rfl<|Aa<|Ad<|Aj<|Aw<|Bo<|Aw<|Aw<|Bo<|Aw<|Al rfl rfl<|?_
       exact ⟨(M.weaken (.cons _ (sR _))),false,rfl,(by rw [E8 (by assumption)];have q0:=Hp hXe34;have q99:=@Hv;clear M;grind)⟩
      ·intro h41b
       have h41:=Ah h41b
       have h41c:(b39)=true:=(Ah h41b)
       refine Au<|Ad<|Ab<|Ac<|Af rfl<|Aa<|Ad<|A3<|?_
       have hNv:Dd Xe34.n∧Str Xe34.v:=by clear M;grind
       intro a F
       refine B8 (fun m a' w'=>∃ (k:Nat),m=i - k∧Fits 149 a' [(1,.pointer (some ⟨b1,0,none⟩)),(3,.int .i64 ((i:Nat):Int)),(4,.int .i64 ((k:Nat):Int))]∧Mem w0 G (.blk b1 [.int .u8 x.kind,.string (str x.tag),.string (str x.key),.slice ta x.as.length tc,.string (str x.text),.slice ka x.kids.length kc] 193::L) w'∧(k≤i)∧(∀ (m:Nat) (y:AttrD),m < k→x.as[m]?=some y→Op.bytesLess y.n Xe34.n=true)) _ ⟨0,rfl,F.to ⟨rfl,rfl,rfl,trivial⟩,M,Nat.zero_le _,fun m y h=>by omega⟩ ?_
       clear F M
       rintro m a w ⟨k,rfl,F,M,hk2,hB⟩
       revert a
       refine Ab<|Ab<|Ac<|Ae rfl<|Ae rfl<|Df rfl rfl<|Aa<|Ad<|Av rfl ?_ ?_
       ·intro h42b
        have h42:=dT h42b
        refine Au<|Ad<|Ab<|A3<|Ab<|fun a F=>Fw [(true,0),(true,1),(true,2),(true,3),(true,4),(true,5),(true,6),(true,7),(true,8),(true,9),(true,10),(true,11),(true,12)] (Keep G [.blk b1 [.int .u8 x.kind,.string (str x.tag),.string (str x.key),.slice ta x.as.length tc,.string (str x.text),.slice ka x.kids.length kc] 193]) rfl (by kernel_rfl) (fun c a d v w h=>by cases d <;> exact h) ((M.drew _).keep (Gle.refl _) (by simp)) ?_
        replace M:=M.drew (w.drawn+1)
        revert a
        refine l_r (fun a F w M=>Co Bd.k rfl F rfl) rfl<|l_r (fun a F w M=>Aq (agf Ee rfl) (F.ev rfl) (M.cellL (k:=0) rfl rfl)) rfl<|l_r (fun a F w M=>Cj F rfl) rfl<|?_
        obtain ⟨Xe43,hXe43⟩:=Be (xs:=x.as) (i:=k) (by omega)
        obtain ⟨be43,oe43,_,Ie43,_,Ae43,⟨rfl,hn1e43,hv1e43⟩⟩:=SA.at hXe43
        refine l_r (fun a F w M=>Ca Ee.k Fq (F.ev rfl) (F.ev rfl) (by omega) Ie43) rfl<|l_r (fun a F w M=>Co Fq.k rfl F rfl) rfl<|l_r (fun a F w M=>Aq (agf Bq rfl) (F.ev rfl) (M.cellA Ae43 0 rfl rfl)) rfl<|l_r (fun a F w M=>Co Bd.k rfl F rfl) rfl<|l_r (fun a F w M=>Aq (agf Ee rfl) (F.ev rfl) (M.cellL (k:=0) rfl rfl)) rfl<|l_r (fun a F w M=>Cj F rfl) rfl<|?_
        obtain ⟨be44,oe44,_,Ie44,_,Ae44,⟨rfl,hn1e44,hv1e44⟩⟩:=SA.at hXe34
        refine l_r (fun a F w M=>Ca Ee.k Fq (F.ev rfl) (F.ev rfl) (by omega) Ie44) rfl<|l_r (fun a F w M=>Co Fq.k rfl F rfl) rfl<|l_r (fun a F w M=>Aq (agf Bq rfl) (F.ev rfl) (M.cellA Ae44 0 rfl rfl)) rfl<|l_r (fun a F w M=>Abh (F.ev rfl) (F.ev rfl)) rfl<|Gx<|?_
        generalize ({ w with drawn:=w.drawn+1 }:World)=w at M ⊢
        refine Ad<|Av rfl ?_ ?_
        ·intro h45b
         have h45:=Ag h45b
         have h45c:(Op.bytesLess Xe43.n Xe34.n)=false:=(Ag h45b)
         refine Ab<|Ac<|Af rfl<|Aa<|Ad<|Aj<|Bo<|Aw<|Aw<|Bo<|Bo<|Aw<|Aw<|Bo<|Aw<|Al rfl rfl<|?_
         exact ⟨(M.weaken (.cons _ (sR _))),false,rfl,(by rw [E8 (by assumption)];have q0:=Hp hXe34;have q1:=fun h=>Na hXe34 hXe43 h;have q2:=Hp hXe43;have q3:=fun h=>Na hXe43 hXe34 h;have q99:=@Hv;clear M;grind)⟩
        ·intro h46b
         have h46:=Ah h46b
         have h46c:(Op.bytesLess Xe43.n Xe34.n)=true:=(Ah h46b)
         refine Au<|C0<|Ad<|Ac<|Ae rfl<|B9 rfl rfl<|Af rfl<|Aa<|Ad<|fun a F=>?_
         exact ⟨_,by omega,k+1,rfl,F.to ⟨rfl,rfl,rfl,trivial⟩,M,by omega,fun m y hm hy=>by rcases Nat.eq_or_lt_of_le (show m≤k by omega) with e | e;(subst e;rw [hXe43] at hy;simp only [Option.some.injEq] at hy;subst hy;clear F M;grind);exact hB m y e hy⟩
       ·intro h47b
        have h47:=dF h47b
        refine B1<|Bx<|Bx<|Dj<|C0<|Ad<|Ac<|Ae rfl<|B9 rfl rfl<|Af rfl<|Aa<|Ad<|fun a F=>?_
        exact ⟨_,by omega,i+1,rfl,F.to ⟨rfl,rfl,trivial⟩,M,by omega,hA.step hXe34 hNv.1 hNv.2 (fun y h_ hy=>hB (i - 1) y (by omega) hy)⟩
    ·intro h48b
     have h48:=dF h48b
     refine B1<|Bx<|Bx<|Dj<|Ad<|Ab<|Ab<|?_
     have hAO:H2 x.as:=hA.all (by omega)
     refine Ac<|Af rfl<|Aa<|Ad<|A3<|fun a F=>B8 (fun m a' w'=>∃ (j:Nat),m=x.kids.length - j∧Fits 149 a' [(1,.pointer (some ⟨b1,0,none⟩)),(5,.int .i64 ((j:Nat):Int))]∧Mem w0 G (.blk b1 [.int .u8 x.kind,.string (str x.tag),.string (str x.key),.slice ta x.as.length tc,.string (str x.text),.slice ka x.kids.length kc] 193::L) w'∧(j≤x.kids.length)∧(Ft x.kids j)) _ ⟨0,rfl,F.to ⟨rfl,rfl,trivial⟩,M,Nat.zero_le _,Ft.zero _⟩ ?_
     clear F M
     rintro m a w ⟨j,rfl,F,M,hj,hK⟩
     revert a
     refine Ab<|Ab<|Ac<|Ae rfl<|Bc Bd.k rfl rfl<|Bl Ct M 0 rfl rfl rfl rfl<|Cg Ct.k rfl<|Df rfl rfl<|Aa<|Ad<|Av rfl ?_ ?_
     ·intro h49b
      have h49:=dT h49b
      refine Au<|Ad<|Ab<|A3<|Ab<|?_
      obtain ⟨Xj,hXj⟩:=Be (xs:=x.kids) (i:=j) (by omega)
      refine Ac<|Af rfl<|Aa<|Ad<|A3<|fun a F=>B8 (fun m a' w'=>∃ (k:Nat),m=j - k∧Fits 149 a' [(1,.pointer (some ⟨b1,0,none⟩)),(5,.int .i64 ((j:Nat):Int)),(6,.int .i64 ((k:Nat):Int))]∧Mem w0 G (.blk b1 [.int .u8 x.kind,.string (str x.tag),.string (str x.key),.slice ta x.as.length tc,.string (str x.text),.slice ka x.kids.length kc] 193::L) w'∧(k≤j)∧(∀ (m:Nat) (d:NT),m < k→x.kids[m]?=some d→Xj.key=[]∨d.key≠Xj.key)) _ ⟨0,rfl,F.to ⟨rfl,rfl,rfl,trivial⟩,M,Nat.zero_le _,fun m y h=>by omega⟩ ?_
      clear F M
      rintro m a w ⟨k,rfl,F,M,hk2,hC⟩
      revert a
      refine Ab<|Ab<|Ac<|Ae rfl<|Ae rfl<|Df rfl rfl<|Aa<|Ad<|Av rfl ?_ ?_
      ·intro h50b
       have h50:=dT h50b
       refine Au<|Ad<|Ab<|A3<|Ab<|fun a F=>Fw [(true,0),(true,1),(true,2),(true,3),(true,4),(true,5),(true,6),(true,7),(true,8),(true,9),(true,10),(true,11),(true,12),(true,13),(true,14),(true,15),(true,16),(true,17),(true,18),(true,19),(true,20),(true,21)] (Keep G [.blk b1 [.int .u8 x.kind,.string (str x.tag),.string (str x.key),.slice ta x.as.length tc,.string (str x.text),.slice ka x.kids.length kc] 193]) rfl (by kernel_rfl) (fun c a d v w h=>by cases d <;> exact h) ((M.drew _).keep (Gle.refl _) (by simp)) ?_
       replace M:=M.drew (w.drawn+1)
       revert a
       refine l_r (fun a F w M=>Co Bd.k rfl F rfl) rfl<|l_r (fun a F w M=>Aq (agf Ct rfl) (F.ev rfl) (M.cellL (k:=0) rfl rfl)) rfl<|l_r (fun a F w M=>Cj F rfl) rfl<|?_
       obtain ⟨be51,oe51,_,Ie51,_,Ae51,hTe51⟩:=SK.at hXj
       obtain ⟨tae51,tce51,kae51,kce51,rfl,hke51,hle51,SAe51,SKe51⟩:=F1 hTe51
       refine l_r (fun a F w M=>Ca Ct.k Bd (F.ev rfl) (F.ev rfl) (by omega) Ie51) rfl<|l_r (fun a F w M=>Co Bd.k rfl F rfl) rfl<|l_r (fun a F w M=>Aq (agf Bq rfl) (F.ev rfl) (M.cellA Ae51 2 rfl rfl)) rfl<|l_r (fun a F w M=>Jd (F.ev rfl) (F.ev rfl)) rfl<|l_r (fun a F w M=>Cj F rfl) rfl<|?_
       rcases bE (!(decide (Xj.key=([]:List UInt8)))) with h52b | h57b
       ·skip
        have h52:=dF (Ag h52b)
        have h52c:(decide (Xj.key=([]:List UInt8)))=false:=(Ag h52b)
        refine l_g rfl (Ak h52c) (fun a F w M=>Co Bd.k rfl F rfl)<|l_g rfl (Ak h52c) (fun a F w M=>Aq (agf Ct rfl) (F.ev rfl) (M.cellL (k:=0) rfl rfl))<|l_g rfl (Ak h52c) (fun a F w M=>Cj F rfl)<|?_
        obtain ⟨be53,oe53,_,Ie53,_,Ae53,hTe53⟩:=SK.at hXj
        obtain ⟨tae53,tce53,kae53,kce53,rfl,hke53,hle53,SAe53,SKe53⟩:=F1 hTe53
        refine l_g rfl (Ak h52c) (fun a F w M=>Ca Ct.k Bd (F.ev rfl) (F.ev rfl) (by omega) Ie53)<|l_g rfl (Ak h52c) (fun a F w M=>Co Bd.k rfl F rfl)<|l_g rfl (Ak h52c) (fun a F w M=>Aq (agf Bq rfl) (F.ev rfl) (M.cellA Ae53 2 rfl rfl))<|l_g rfl (Ak h52c) (fun a F w M=>Co Bd.k rfl F rfl)<|l_g rfl (Ak h52c) (fun a F w M=>Aq (agf Ct rfl) (F.ev rfl) (M.cellL (k:=0) rfl rfl))<|l_g rfl (Ak h52c) (fun a F w M=>Cj F rfl)<|?_
        obtain ⟨Xe54,hXe54⟩:=Be (xs:=x.kids) (i:=k) (by omega)
        obtain ⟨be54,oe54,_,Ie54,_,Ae54,hTe54⟩:=SK.at hXe54
        obtain ⟨tae54,tce54,kae54,kce54,rfl,hke54,hle54,SAe54,SKe54⟩:=F1 hTe54
        refine l_g rfl (Ak h52c) (fun a F w M=>Ca Ct.k Bd (F.ev rfl) (F.ev rfl) (by omega) Ie54)<|l_g rfl (Ak h52c) (fun a F w M=>Co Bd.k rfl F rfl)<|l_g rfl (Ak h52c) (fun a F w M=>Aq (agf Bq rfl) (F.ev rfl) (M.cellA Ae54 2 rfl rfl))<|l_g rfl (Ak h52c) (fun a F w M=>Kd (F.ev rfl) (F.ev rfl))<|l_r (fun a F w M=>H4 F rfl (Ak h52c) rfl) rfl<|Gx<|?_
        generalize ({ w with drawn:=w.drawn+1 }:World)=w at M ⊢
        refine Ad<|Av rfl ?_ ?_
        ·intro h55b
         have h55:=dT h55b
         refine Ab<|Ac<|Af rfl<|Aa<|Ad<|Aj<|Bo<|Aw<|Aw<|Bo<|Bo<|Aw<|Aw<|Bo<|Aw<|Al rfl rfl<|?_
         exact ⟨(M.weaken (.cons _ (sR _))),false,rfl,(by rw [E8 (by assumption)];have q0:=P2 hXj;have q1:=fun h=>Xe h hXe54 hXj;have q2:=P2 hXe54;have q3:=fun h=>Xe h hXj hXe54;have q99:=@Hv;clear M;grind)⟩
        ·intro h56b
         have h56:=dF h56b
         refine Au<|C0<|Ad<|Ac<|Ae rfl<|B9 rfl rfl<|Af rfl<|Aa<|Ad<|fun a F=>?_
         exact ⟨_,by omega,k+1,rfl,F.to ⟨rfl,rfl,rfl,trivial⟩,M,by omega,fun m d hm hy=>by rcases Nat.eq_or_lt_of_le (show m≤k by omega) with e | e;(subst e;rw [hXe54] at hy;simp only [Option.some.injEq] at hy;subst hy;clear F M;grind);exact hC m d e hy⟩
       ·skip
        have h57:=dT (Ah h57b)
        have h57c:(decide (Xj.key=([]:List UInt8)))=true:=(Ah h57b)
        refine l_s rfl (Ai h57c)<|l_s rfl (Ai h57c)<|l_s rfl (Ai h57c)<|l_s rfl (Ai h57c)<|l_s rfl (Ai h57c)<|l_s rfl (Ai h57c)<|l_s rfl (Ai h57c)<|l_s rfl (Ai h57c)<|l_s rfl (Ai h57c)<|l_s rfl (Ai h57c)<|l_s rfl (Ai h57c)<|l_s rfl (Ai h57c)<|l_s rfl (Ai h57c)<|l_r (fun a F w M=>Gy F rfl (Ai h57c) rfl) rfl<|Gx<|?_
        generalize ({ w with drawn:=w.drawn+1 }:World)=w at M ⊢
        refine Ad<|D2 rfl rfl<|Au<|C0<|Ad<|Ac<|Ae rfl<|B9 rfl rfl<|Af rfl<|Aa<|Ad<|fun a F=>?_
        exact ⟨_,by omega,k+1,rfl,F.to ⟨rfl,rfl,rfl,trivial⟩,M,by omega,fun m d hm hy=>by rcases Nat.eq_or_lt_of_le (show m≤k by omega) with e | e;(clear F M;grind);exact hC m d e hy⟩
      ·intro h58b
       have h58:=dF h58b
       refine B1<|Bx<|Bx<|Dj<|C0<|Ad<|Ac<|Ae rfl<|B9 rfl rfl<|Af rfl<|Aa<|Ad<|fun a F=>?_
       exact ⟨_,by omega,j+1,rfl,F.to ⟨rfl,rfl,trivial⟩,M,by omega,hK.step hXj (by by_cases e:Xj.key=[];exact Or.inl e;exact Or.inr fun m a_ hm ha=>(hC m a_ (by omega) ha).resolve_left e)⟩
     ·intro h59b
      have h59:=dF h59b
      refine B1<|Bx<|Bx<|Dj<|Ad<|Ab<|Ac<|Af rfl<|Aa<|Ad<|Aj<|Al rfl rfl<|?_
      exact ⟨(M.weaken (.cons _ (sR _))),true,rfl,(by rw [E8 (by assumption)];exact ⟨fun _=>⟨hE,hAO,hK.all (by omega)⟩,fun _=>rfl⟩)⟩
open Go Go.Y Go.Proofs
variable {w0 w:World} {G:A4} {L:List Res}
set_option linter.unusedSimpArgs false
set_option linter.unusedVariables false
def MeasP (x:NT):Prop:=∀ (w0 w:World) (G:A4) (L:List Res) (cb db wb nb no c d lev:Nat) (ta ka:Option Addr) (tc kc:Nat),Mem w0 G (.blk cb [.int .i64 ((c:Nat):Int)] 3::.blk db [.int .i64 ((d:Nat):Int)] 3::.blk wb [.func (.func 232) #[] #[.pointer (some ⟨cb,0,none⟩),.pointer (some ⟨db,0,none⟩),.pointer (some ⟨wb,0,none⟩)]] 303::L) w→A2 .u8 x.kind→(x.tag.length≤9223372036854775807∧x.key.length≤9223372036854775807∧x.text.length≤9223372036854775807) →
  Ay Fk 2 G (.slice ta x.as.length tc) x.as→Ay rdN 6 G (.slice ka x.kids.length kc) x.kids→At G nb no [.int .u8 x.kind,.string (str x.tag),.string (str x.key),.slice ta x.as.length tc,.string (str x.text),.slice ka x.kids.length kc]→c≤64→d≤7→1≤lev→lev≤7 →
  Calls Tryz.prog 232 #[.pointer (some ⟨nb,no,none⟩),.int .i64 (lev:Int),.pointer (some ⟨cb,0,none⟩),.pointer (some ⟨db,0,none⟩),.pointer (some ⟨wb,0,none⟩)] w
   (J7 w0 G fun L' v=>∃ (bb:Bool) (c' d':Nat),v=.bool bb∧L' = (.blk cb [.int .i64 ((c':Nat):Int)] 3::.blk db [.int .i64 ((d':Nat):Int)] 3::.blk wb [.func (.func 232) #[] #[.pointer (some ⟨cb,0,none⟩),.pointer (some ⟨db,0,none⟩),.pointer (some ⟨wb,0,none⟩)]] 303::L)∧(bb=true↔Tr.Ok H3 (7 - lev) x∧c+x.size≤64)∧(bb=true→c' = c+x.size∧d' = max d (lev+x.depth - 1)))
theorem Agr {x:NT} (ih:∀ y∈x.kids,MeasP y) {w0 w:World} {G:A4} {L:List Res} {cb db wb nb no c d lev:Nat} {ta ka:Option Addr} {tc kc:Nat} (M:Mem w0 G (.blk cb [.int .i64 ((c:Nat):Int)] 3::.blk db [.int .i64 ((d:Nat):Int)] 3::.blk wb [.func (.func 232) #[] #[.pointer (some ⟨cb,0,none⟩),.pointer (some ⟨db,0,none⟩),.pointer (some ⟨wb,0,none⟩)]] 303::L) w) (hk:A2 .u8 x.kind) (hl:(x.tag.length≤9223372036854775807∧x.key.length≤9223372036854775807∧x.text.length≤9223372036854775807))
  (SA:Ay Fk 2 G (.slice ta x.as.length tc) x.as) (SK:Ay rdN 6 G (.slice ka x.kids.length kc) x.kids) (A:At G nb no [.int .u8 x.kind,.string (str x.tag),.string (str x.key),.slice ta x.as.length tc,.string (str x.text),.slice ka x.kids.length kc]) (hc:c≤64) (hd:d≤7) (hl1:1≤lev) (hl2:lev≤7) :
  Calls Tryz.prog 232 #[.pointer (some ⟨nb,no,none⟩),.int .i64 (lev:Int),.pointer (some ⟨cb,0,none⟩),.pointer (some ⟨db,0,none⟩),.pointer (some ⟨wb,0,none⟩)] w
   (J7 w0 G fun L' v=>∃ (bb:Bool) (c' d':Nat),v=.bool bb∧L' = (.blk cb [.int .i64 ((c':Nat):Int)] 3::.blk db [.int .i64 ((d':Nat):Int)] 3::.blk wb [.func (.func 232) #[] #[.pointer (some ⟨cb,0,none⟩),.pointer (some ⟨db,0,none⟩),.pointer (some ⟨wb,0,none⟩)]] 303::L)∧(bb=true↔Tr.Ok H3 (7 - lev) x∧c+x.size≤64)∧(bb=true→c' = c+x.size∧d' = max d (lev+x.depth - 1))):=by
 refine Az (vs:=[_,_,_,_,_]) Tryz.func232 rfl (n:=45) rfl rfl<|Ab<|Ac<|Af rfl<|Aa<|Ad<|Ab<|Ac<|Bl B7 M 0 rfl rfl rfl rfl<|B9 rfl rfl<|Fo B7 M 0 rfl rfl rfl rfl rfl rfl<|?_;clear M;intro w M
 refine Aa<|Ad<|Ab<|Ac<|Bl B7 M 1 rfl rfl rfl rfl<|Ae rfl<|Ap (fun a F=>Afj (b:=d) (c:=lev) (F.ev rfl) (F.ev rfl)) rfl<|Fo B7 M 1 rfl rfl rfl rfl rfl rfl<|?_;clear M;intro w M
 refine Aa<|Ad<|Ab<|Ab<|Ac<|Ae rfl<|Dn rfl rfl<|Ae rfl<|?_
 rcases bE (decide (6 < (lev:Int))) with h1b | h2b
 ·skip
  have h1:=dT h1b
  refine g_f rfl h1b<|g_f rfl h1b<|Bi rfl h1b rfl<|Ae rfl<|g_f rfl rfl<|g_f rfl rfl<|g_f rfl rfl<|Bi rfl rfl rfl<|Aa<|Ad<|Bk rfl rfl<|Ab<|Ac<|Af rfl<|Aa<|Ad<|Aj<|Aw<|Al rfl rfl<|?_
  replace M:=M.perm (Ao _ 2 _ rfl)
  replace M:=M.perm (Ao _ 2 _ rfl)
  replace M:=M.perm (Ao _ 2 _ rfl)
  change Mem w0 G (.blk cb [.int .i64 (((c:Nat):Int)+1)] 3::.blk db [.int .i64 ((max d lev:Nat):Int)] 3::_::L) _ at M
  exact ⟨_,M,false,_,_,rfl,rfl,⟨fun h_=>(by cases h_),fun h_=>absurd h_ (Ki (by clear M;grind))⟩,fun h_=>(by cases h_)⟩
 ·skip
  have h2:=dF h2b
  refine g_t rfl h2b<|Bl B7 M 0 rfl rfl rfl rfl<|g_t rfl h2b<|Dn rfl rfl<|Bh rfl h2b rfl<|Ae rfl<|?_
  rcases bE (decide (64 < ((c:Nat):Int)+1)) with h3b | h4b
  ·skip
   have h3:=dT h3b
   refine g_f rfl h3b<|g_f rfl h3b<|g_f rfl h3b<|Bi rfl h3b rfl<|Aa<|Ad<|Bk rfl rfl<|Ab<|Ac<|Af rfl<|Aa<|Ad<|Aj<|Aw<|Al rfl rfl<|?_
   replace M:=M.perm (Ao _ 2 _ rfl)
   replace M:=M.perm (Ao _ 2 _ rfl)
   replace M:=M.perm (Ao _ 2 _ rfl)
   change Mem w0 G (.blk cb [.int .i64 (((c:Nat):Int)+1)] 3::.blk db [.int .i64 ((max d lev:Nat):Int)] 3::_::L) _ at M
   exact ⟨_,M,false,_,_,rfl,rfl,⟨fun h_=>(by cases h_),fun h_=>absurd h_ (Ki (by clear M;grind))⟩,fun h_=>(by cases h_)⟩
  ·skip
   have h4:=dF h4b
   refine g_t rfl h4b<|Ae rfl<|g_t rfl h4b<|Br ent233 rfl rfl (Add (x:=x) M hk hl SA SK A)<|?_;clear M;rintro _ w M ⟨b5,rfl,hb5⟩
   refine g_t rfl h4b<|C9 rfl<|Bh rfl h4b rfl<|Aa<|Ad<|Av rfl ?_ ?_
   ·intro h6b
    have h6:=Ag h6b
    have h6c:(b5)=false:=(Ag h6b)
    refine Ab<|Ac<|Af rfl<|Aa<|Ad<|Aj<|Aw<|Al rfl rfl<|?_
    replace M:=M.perm (Ao _ 2 _ rfl)
    replace M:=M.perm (Ao _ 2 _ rfl)
    replace M:=M.perm (Ao _ 2 _ rfl)
    change Mem w0 G (.blk cb [.int .i64 (((c:Nat):Int)+1)] 3::.blk db [.int .i64 ((max d lev:Nat):Int)] 3::_::L) _ at M
    exact ⟨_,M,false,_,_,rfl,rfl,⟨fun h_=>(by cases h_),fun h_=>absurd h_ (Ki (by clear M;grind))⟩,fun h_=>(by cases h_)⟩
   ·intro h7b
    have h7:=Ah h7b
    have h7c:(b5)=true:=(Ah h7b)
    refine Au<|Ad<|Ab<|Ab<|?_
    have hAl:H3 x:=by clear M;grind
    have hl6:lev≤6:=by omega
    have hkl:=We hAl
    refine Ac<|Ae rfl<|Ep rfl<|Bc Bd.k rfl rfl<|D4 Ct M A 5 rfl rfl rfl rfl<|Cg Ct.k rfl<|Ae rfl<|Aa<|Ad<|A3<|fun a F=>B8 (fun m a' w'=>∃ (i:Nat),∃ (ci:Nat),∃ (di:Nat),m=x.kids.length - i∧Fits 45 a' [(0,.pointer (some ⟨nb,no,none⟩)),(1,.int .i64 ((lev:Int))),(2,.pointer (some ⟨cb,0,none⟩)),(3,.pointer (some ⟨db,0,none⟩)),(4,.pointer (some ⟨wb,0,none⟩)),(28,.slice ka x.kids.length kc),(29,.int .i64 ((x.kids.length:Nat):Int)),(30,.int .i64 ((i:Nat):Int))]∧Mem w0 G (.blk cb [.int .i64 ((ci:Nat):Int)] 3::.blk db [.int .i64 ((di:Nat):Int)] 3::.blk wb [.func (.func 232) #[] #[.pointer (some ⟨cb,0,none⟩),.pointer (some ⟨db,0,none⟩),.pointer (some ⟨wb,0,none⟩)]] 303::L) w'∧(i≤x.kids.length)∧(ci=c+1+Tr.sizes (x.kids.take i)∧ci≤64)∧(di=max d (lev+Tr.depths (x.kids.take i)))∧(di≤7)∧(∀ (m:Nat) (y:NT),m < i→x.kids[m]?=some y→Tr.Ok H3 (7 - (lev+1)) y)) _ ⟨0,c+1,max d lev,rfl,F.to ⟨rfl,rfl,rfl,rfl,rfl,rfl,rfl,rfl,trivial⟩,M,Nat.zero_le _,⟨by simp [Tr.sizes],by omega⟩,by simp only [List.take_zero,Tr.depths];omega,by omega,fun m y h=>by omega⟩ ?_
    clear F M
    rintro m a w ⟨i,ci,di,rfl,F,M,hi,hci,hdi,hd7,hO⟩
    revert a
    refine Ab<|Ac<|Df rfl rfl<|Aa<|Ad<|Ab<|Av rfl ?_ ?_
    ·intro h8b
     have h8:=dT h8b
     refine Au<|Ad<|Ab<|A3<|Ab<|Ac<|Ae rfl<|Af rfl<|Aa<|Ad<|Ab<|fun a F=>Fm [(.pure,0),(.free,1),(.free,2),(.free,3),(.pure,4),(.free,5),(.free,6),(.free,7),(.free,8),(.keep,9),(.free,10)] [] (Keep G [.blk wb [.func (.func 232) #[] #[.pointer (some ⟨cb,0,none⟩),.pointer (some ⟨db,0,none⟩),.pointer (some ⟨wb,0,none⟩)]] 303]) rfl (by kernel_rfl) (fun c a d v w h=>by cases d <;> exact h) ((M.drew _).keep (Gle.refl _) (by simp)) ?_
     replace M:=M.drew (w.drawn+1)
     revert a
     refine k_p (fun a F w M=>Aq (agf Wl rfl) (F.ev rfl) (M.cellL (k:=0) rfl rfl)) rfl<|k_f (fun a F w _=>Cj F rfl) rfl<|k_f (fun a F w _=>D3 (F.ev rfl)) rfl<|k_f (fun a F w _=>Co Bd.k rfl F rfl) rfl<|k_p (fun a F w M=>Aq (agf Ct rfl) (F.ev rfl) (M.cellA A 5 rfl rfl)) rfl<|k_f (fun a F w _=>Cj F rfl) rfl<|?_
     obtain ⟨Xe9,hXe9⟩:=Be (xs:=x.kids) (i:=i) (by omega)
     obtain ⟨be9,oe9,_,Ie9,_,Ae9,hTe9⟩:=SK.at hXe9
     obtain ⟨tae9,tce9,kae9,kce9,rfl,hke9,hle9,SAe9,SKe9⟩:=F1 hTe9
     refine k_f (fun a F w _=>Ca Ct.k Bd (F.ev rfl) (F.ev rfl) (by omega) Ie9) rfl<|k_f (fun a F w _=>Cj F rfl) rfl<|k_f (fun a F w _=>Fj (F.ev rfl) (F.ev rfl) (Cr (by omega) (by omega))) rfl<|k_k rfl<|?_
     replace M:=M.perm (Ao _ 2 _ rfl)
     replace M:=M.perm (Ao _ 2 _ rfl)
     replace M:=M.perm (Ao _ 2 _ rfl)
     change Mem w0 G (_::_::_::L) _ at M
     refine s_vL Alp (caps:=[.pointer (some ⟨cb,0,none⟩),.pointer (some ⟨db,0,none⟩),.pointer (some ⟨wb,0,none⟩)]) rfl rfl rfl (ih Xe9 (List.mem_of_getElem? hXe9) _ _ _ _ _ _ _ _ _ ci di (lev+1) _ _ _ _ M hke9 hle9 SAe9 SKe9 Ae9 (by omega) (by omega) (by omega) (by omega))<|?_;clear M;rintro _ _ w M ⟨b10,cb10,db10,rfl,rfl,hb10,eb10⟩
     refine Aa<|eK (C':=Keep G [.blk wb [.func (.func 232) #[] #[.pointer (some ⟨cb,0,none⟩),.pointer (some ⟨db,0,none⟩),.pointer (some ⟨wb,0,none⟩)]] 303]) (M.keep (Gle.refl _) (by simp)) (fun w h=>h.mono (Gle.refl _) (by simp))<|k_f (fun a F w _=>Gn (F.ev rfl)) rfl<|D1<|Ad<|Av rfl ?_ ?_
     ·intro h11b
      have h11:=Ag h11b
      have h11c:(b10)=false:=(Ag h11b)
      refine Ab<|Ac<|Af rfl<|Aa<|Ad<|Aj<|Bo<|Aw<|Aw<|Bo<|Aw<|Al rfl rfl<|?_
      replace M:=M.perm (Ao _ 2 _ rfl)
      replace M:=M.perm (Ao _ 2 _ rfl)
      replace M:=M.perm (Ao _ 2 _ rfl)
      change Mem w0 G (_::_::_::L) _ at M
      exact ⟨_,M,false,_,_,rfl,rfl,⟨fun h_=>(by cases h_),fun h_=>absurd h_ (Qr hXe9 hl6 (by rw [← hci.1];exact fun h_=>by have h9:=hb10.2 h_;simp_all))⟩,fun h_=>(by cases h_)⟩
     ·intro h12b
      have h12:=Ah h12b
      have h12c:(b10)=true:=(Ah h12b)
      refine Au<|C0<|Ad<|Ac<|B9 rfl rfl<|Ae rfl<|Aa<|Ad<|?_
      have hq:=hb10.1 (by assumption)
      obtain ⟨hc2,hd2⟩:=eb10 (by assumption)
      have hs2:=Tr.sizes_snoc hXe9
      have hp2:=Tr.depths_snoc hXe9
      have hps:=hq.1.depth
      intro a F
      exact ⟨_,by omega,i+1,cb10,db10,rfl,F.to ⟨rfl,rfl,rfl,rfl,rfl,rfl,rfl,rfl,trivial⟩,M,by omega,by omega,by omega,by omega,W9 hO hXe9 hq.1⟩
    ·intro h13b
     have h13:=dF h13b
     refine B1<|Bx<|Bx<|Dj<|Ad<|Ab<|Ac<|Af rfl<|Aa<|Ad<|Aj<|Al rfl rfl<|?_
     replace M:=M.perm (Ao _ 2 _ rfl)
     replace M:=M.perm (Ao _ 2 _ rfl)
     replace M:=M.perm (Ao _ 2 _ rfl)
     change Mem w0 G (_::_::_::L) _ at M
     have hf:=Kv (x:=x) (i:=i) (by omega)
     have hg:=Z2 (x:=x) (i:=i) (by omega)
     exact ⟨_,M,true,_,_,rfl,rfl,⟨fun _=>⟨Zh hl6 hAl (by omega) hO,by omega⟩,fun _=>rfl⟩,fun _=>⟨by omega,by omega⟩⟩
theorem Akd (x:NT):MeasP x:=by
 induction x using Tr.ind with
 | _ x ih=>intro w0 w G L cb db wb nb no c d lev ta ka tc kc M hk hl SA SK A hc hd hl1 hl2;exact Agr ih M hk hl SA SK A hc hd hl1 hl2
theorem Zg (M:Mem w0 G L w) {x:NT} {ta:Option Addr} {tc:Nat} {ka:Option Addr} {kc:Nat} (hk:A2 .u8 x.kind) (hl:(x.tag.length≤9223372036854775807∧x.key.length≤9223372036854775807∧x.text.length≤9223372036854775807)) (SA:Ay Fk 2 G (.slice ta x.as.length tc) x.as) (SK:Ay rdN 6 G (.slice ka x.kids.length kc) x.kids):Calls Tryz.prog 220 #[.agg #[.int .u8 x.kind,.string (str x.tag),.string (str x.key),.slice ta x.as.length tc,.string (str x.text),.slice ka x.kids.length kc]] w (Ret w0 G L fun _ v=>v=.tuple #[.int .i64 ((cntF x:Nat):Int),.int .i64 ((Ahl x:Nat):Int)]):=by
 refine Az (vs:=[_]) Tryz.func220 rfl (n:=11) rfl rfl<|Ab<|Ac<|C4 M rfl rfl rfl<|?_;clear M;intro b1 w M
 refine Cz M B7 rfl rfl<|?_;clear M;intro b2 w M
 refine Cz M B7 rfl rfl<|?_;clear M;intro b4 w M
 refine Aa<|Ad<|Ab<|Ac<|Cz M Wl rfl rfl<|?_;clear M;intro b6 w M
 refine Aa<|Ad<|Ab<|Ac<|Ap (fun a F=>Dk (vs:=#[.pointer (some ⟨b2,0,none⟩),.pointer (some ⟨b4,0,none⟩),.pointer (some ⟨b6,0,none⟩)]) (by simp only [List.map_toArray,List.map_cons,List.map_nil,F.ev (x:=.tmp 2) rfl,F.ev (x:=.tmp 3) rfl,F.ev (x:=.tmp 4) rfl])) rfl<|Fo Wl M 0 rfl rfl rfl rfl rfl rfl<|?_;clear M;intro w M
 refine Aa<|Ad<|Ab<|Ab<|?_
 obtain ⟨Gq8,hGq8,hbq8,M⟩:=M.freeze (k:=3) rfl
 have Aq8:At Gq8 b1 0 [.int .u8 x.kind,.string (str x.tag),.string (str x.key),.slice ta x.as.length tc,.string (str x.text),.slice ka x.kids.length kc]:=At.of_cells hbq8
 clear hbq8
 replace SA:=SA.mono Jy hGq8
 replace SK:=SK.mono Ajy hGq8
 change Mem w0 Gq8 (.blk b6 [.func (.func 232) #[] #[.pointer (some ⟨b2,0,none⟩),.pointer (some ⟨b4,0,none⟩),.pointer (some ⟨b6,0,none⟩)]] 303::.blk b4 [.int .i64 0] 3::.blk b2 [.int .i64 0] 3::L) _ at M
 refine Ac<|Bl Wl M 0 rfl rfl rfl rfl<|?_
 replace M:=M.perm (Ao _ 1 _ rfl)
 replace M:=M.perm (Ao _ 2 _ rfl)
 change Mem w0 Gq8 (_::_::.blk b6 [.func (.func 232) #[] #[.pointer (some ⟨b2,0,none⟩),.pointer (some ⟨b4,0,none⟩),.pointer (some ⟨b6,0,none⟩)]] 303::L) _ at M
 refine s_vL Alp (caps:=[.pointer (some ⟨b2,0,none⟩),.pointer (some ⟨b4,0,none⟩),.pointer (some ⟨b6,0,none⟩)]) rfl rfl rfl (Akd x _ _ _ _ _ _ _ _ _ 0 0 1 _ _ _ _ M hk hl SA SK Aq8 (by omega) (by omega) (by omega) (by omega))<|?_;clear M;rintro _ _ w M ⟨b9,cb9,db9,rfl,rfl,hb9,eb9⟩
 refine C9 rfl<|Aa<|Ad<|Av rfl ?_ ?_
 ·intro h10b
  have h10:=Ag h10b
  have h10c:(b9)=false:=(Ag h10b)
  refine Ab<|Ac<|Fo B7 M 0 rfl rfl rfl rfl rfl rfl<|?_;clear M;intro w M
  refine Fo B7 M 1 rfl rfl rfl rfl rfl rfl<|?_;clear M;intro w M
  refine Aa<|Ad<|Aj<|Aw<|fun a F=>Ale F M (k1:=0) (k2:=1) rfl rfl rfl (agf B7 rfl) (agf B7 rfl) rfl rfl ?_
  have hV:¬ Hx x:=fun h_=>by have h9:=hb9.2 ⟨h_.1,by have:=h_.2;omega⟩;simp_all
  exact ⟨_,hGq8,(M.weaken (.cons _ (.cons _ (.cons _ (sR _))))),by rw [Aex hV,depF_no hV];rfl⟩
 ·intro h11b
  have h11:=Ah h11b
  have h11c:(b9)=true:=(Ah h11b)
  refine Au<|Ad<|Ab<|fun a F=>Fm [(.pure,0),(.pure,1),(.keep,2),(.keep,3)] [] (Keep Gq8 [.blk b2 [.int .i64 ((cb9:Nat):Int)] 3,.blk b4 [.int .i64 ((db9:Nat):Int)] 3,.blk b6 [.func (.func 232) #[] #[.pointer (some ⟨b2,0,none⟩),.pointer (some ⟨b4,0,none⟩),.pointer (some ⟨b6,0,none⟩)]] 303]) rfl (by kernel_rfl) (fun c a d v w h=>by cases d <;> exact h) ((M.drew _).keep (Gle.refl _) (by simp)) ?_
  replace M:=M.drew (w.drawn+1)
  revert a
  refine k_p (fun a F w M=>Aq (agf B7 rfl) (F.ev rfl) (M.cellL (k:=0) rfl rfl)) rfl<|k_p (fun a F w M=>Aq (agf B7 rfl) (F.ev rfl) (M.cellL (k:=1) rfl rfl)) rfl<|k_k rfl<|Fo B7 M 0 rfl rfl rfl rfl rfl rfl<|?_;clear M;intro w M
  refine Aa<|eK (C':=Keep Gq8 [.blk b2 [.int .i64 ((cb9:Nat):Int)] 3,.blk b4 [.int .i64 ((db9:Nat):Int)] 3,.blk b6 [.func (.func 232) #[] #[.pointer (some ⟨b2,0,none⟩),.pointer (some ⟨b4,0,none⟩),.pointer (some ⟨b6,0,none⟩)]] 303]) (M.keep (Gle.refl _) (by simp)) (fun w h=>h.mono (Gle.refl _) (by simp))<|k_k rfl<|Fo B7 M 1 rfl rfl rfl rfl rfl rfl<|?_;clear M;intro w M
  refine Aa<|eK (C':=Keep Gq8 [.blk b2 [.int .i64 ((cb9:Nat):Int)] 3,.blk b4 [.int .i64 ((db9:Nat):Int)] 3,.blk b6 [.func (.func 232) #[] #[.pointer (some ⟨b2,0,none⟩),.pointer (some ⟨b4,0,none⟩),.pointer (some ⟨b6,0,none⟩)]] 303]) (M.keep (Gle.refl _) (by simp)) (fun w h=>h.mono (Gle.refl _) (by simp))<|D1<|Ad<|Aj<|fun a F=>Ale F M (k1:=0) (k2:=1) rfl rfl rfl (agf B7 rfl) (agf B7 rfl) rfl rfl ?_
  have hq:=hb9.1 (by assumption)
  have hV:Hx x:=⟨hq.1,by omega⟩
  obtain ⟨hc2,hd2⟩:=eb9 (by assumption)
  have hp1:=Tr.depth_eq x
  exact ⟨_,hGq8,(M.weaken (.cons _ (.cons _ (.cons _ (sR _))))),by rw [Z8 hV,Amn hV,show x.size=cb9 by omega,show x.depth=db9 by omega]⟩
theorem Xb (M:Mem w0 G L w) {x:NT} {ta:Option Addr} {tc:Nat} {ka:Option Addr} {kc:Nat} (hk:A2 .u8 x.kind) (hl:(x.tag.length≤9223372036854775807∧x.key.length≤9223372036854775807∧x.text.length≤9223372036854775807)) (SA:Ay Fk 2 G (.slice ta x.as.length tc) x.as) (SK:Ay rdN 6 G (.slice ka x.kids.length kc) x.kids):Calls Tryz.prog 220 #[.agg #[.int .u8 x.kind,.string (str x.tag),.string (str x.key),.slice ta x.as.length tc,.string (str x.text),.slice ka x.kids.length kc]] w (Cl w0 G L fun v=>v=.tuple #[.int .i64 ((cntF x:Nat):Int),.int .i64 ((Ahl x:Nat):Int)]):=Ret.plain M (Zg M hk hl SA SK)
theorem Qq (M:Mem w0 G L w) {x:NT} {ta:Option Addr} {tc:Nat} {ka:Option Addr} {kc:Nat} (hk:A2 .u8 x.kind) (hl:(x.tag.length≤9223372036854775807∧x.key.length≤9223372036854775807∧x.text.length≤9223372036854775807)) (SA:Ay Fk 2 G (.slice ta x.as.length tc) x.as) (SK:Ay rdN 6 G (.slice ka x.kids.length kc) x.kids):Calls Tryz.prog 193 #[.agg #[.int .u8 x.kind,.string (str x.tag),.string (str x.key),.slice ta x.as.length tc,.string (str x.text),.slice ka x.kids.length kc]] w (Cl w0 G L fun v=>v=.int .i64 ((cntF x:Nat):Int)):=by
 refine Az (vs:=[_]) Tryz.func193 rfl (n:=11) rfl rfl<|Ab<|Ac<|C4 M rfl rfl rfl<|?_;clear M;intro b1 w M
 refine Af rfl<|Aa<|Ad<|Ab<|Ac<|Ap (fun a F=>Am Bd rfl (F.ev rfl) (cs:=[.int .u8 x.kind,.string (str x.tag),.string (str x.key),.slice ta x.as.length tc,.string (str x.text),.slice ka x.kids.length kc]) rfl (M.cellsL (k:=0) rfl rfl)) rfl<|Br ent220 rfl rfl (Xb (x:=x) M hk hl SA SK)<|?_;clear M;rintro _ w M rfl
 refine Ae rfl<|Ch rfl rfl<|Ch rfl rfl<|Af rfl<|Af rfl<|Aa<|Ad<|Ab<|Ac<|Ae rfl<|Af rfl<|Aa<|Ad<|Aj<|Al rfl rfl<|?_
 exact ⟨M.weaken (.cons _ (sR _)),rfl⟩
theorem Hj (M:Mem w0 G L w) {x:NT} {ta:Option Addr} {tc:Nat} {ka:Option Addr} {kc:Nat} (hk:A2 .u8 x.kind) (hl:(x.tag.length≤9223372036854775807∧x.key.length≤9223372036854775807∧x.text.length≤9223372036854775807)) (SA:Ay Fk 2 G (.slice ta x.as.length tc) x.as) (SK:Ay rdN 6 G (.slice ka x.kids.length kc) x.kids):Calls Tryz.prog 229 #[.agg #[.int .u8 x.kind,.string (str x.tag),.string (str x.key),.slice ta x.as.length tc,.string (str x.text),.slice ka x.kids.length kc]] w (Cl w0 G L fun v=>v=.int .i64 (Up x)):=by
 refine Az (vs:=[_]) Tryz.func229 rfl (n:=6) rfl rfl<|Ab<|Ac<|C4 M rfl rfl rfl<|?_;clear M;intro b1 w M
 refine Af rfl<|Aa<|Ad<|Ab<|Ab<|Ac<|Ap (fun a F=>Am Bd rfl (F.ev rfl) (cs:=[.int .u8 x.kind,.string (str x.tag),.string (str x.key),.slice ta x.as.length tc,.string (str x.text),.slice ka x.kids.length kc]) rfl (M.cellsL (k:=0) rfl rfl)) rfl<|Br Alu rfl rfl (Qq (x:=x) M hk hl SA SK)<|?_;clear M;rintro _ w M rfl
 refine Dc rfl rfl<|Aa<|Ad<|Av rfl ?_ ?_
 ·intro h2b
  have h2:=dT h2b
  refine Ab<|Ac<|Af rfl<|Aa<|Ad<|Aj<|Aw<|Al rfl rfl<|?_
  exact ⟨M.weaken (.cons _ (sR _)),by rw [Aez fun h_=>by have:=O9.2 h_;omega]⟩
 ·intro h3b
  have h3:=dF h3b
  refine Au<|Ad<|Ab<|Ac<|Af rfl<|Aa<|Ad<|Aj<|Al rfl rfl<|?_
  exact ⟨M.weaken (.cons _ (sR _)),by rw [Aaa (O9.1 (by omega))]⟩
def RcntP (x:NT):Prop:=∀ (w0 w:World) (G:A4) (L:List Res) (ta ka:Option Addr) (tc kc lev:Nat),Mem w0 G L w→A2 .u8 x.kind→(x.tag.length≤9223372036854775807∧x.key.length≤9223372036854775807∧x.text.length≤9223372036854775807)→Ay Fk 2 G (.slice ta x.as.length tc) x.as→Ay rdN 6 G (.slice ka x.kids.length kc) x.kids→lev≤8 →
  Calls Tryz.prog 188 #[.agg #[.int .u8 x.kind,.string (str x.tag),.string (str x.key),.slice ta x.as.length tc,.string (str x.text),.slice ka x.kids.length kc],.int .i64 (lev:Int)] w (Cl w0 G L fun v=>∃ r:Nat,v=.int .i64 (r:Int)∧Cnt H3 x lev r)
theorem Afz {x:NT} (ih:∀ y∈x.kids,RcntP y) {w0 w:World} {G:A4} {L:List Res} (M:Mem w0 G L w) {ta:Option Addr} {tc:Nat} {ka:Option Addr} {kc:Nat} (hk:A2 .u8 x.kind) (hl:(x.tag.length≤9223372036854775807∧x.key.length≤9223372036854775807∧x.text.length≤9223372036854775807)) (SA:Ay Fk 2 G (.slice ta x.as.length tc) x.as) (SK:Ay rdN 6 G (.slice ka x.kids.length kc) x.kids) {lev:Nat} (hlev:lev≤8):Calls Tryz.prog 188 #[.agg #[.int .u8 x.kind,.string (str x.tag),.string (str x.key),.slice ta x.as.length tc,.string (str x.text),.slice ka x.kids.length kc],.int .i64 (lev:Int)] w (Cl w0 G L fun v=>∃ r:Nat,v=.int .i64 (r:Int)∧Cnt H3 x lev r):=by
 refine Az (vs:=[_,_]) Tryz.func188 rfl (n:=36) rfl rfl<|Ab<|Ac<|C4 M rfl rfl rfl<|?_;clear M;intro b1 w M
 refine Af rfl<|Aa<|Ad<|Ab<|Ab<|Ac<|Ae rfl<|Df rfl rfl<|Ae rfl<|?_
 rcases bE (decide ((lev:Int) < 1)) with h2b | h3b
 ·skip
  have h2:=dT h2b
  refine g_f rfl h2b<|g_f rfl h2b<|g_f rfl h2b<|Bi rfl h2b rfl<|Aa<|Ad<|Bk rfl rfl<|Ab<|Ac<|Af rfl<|Aa<|Ad<|Aj<|Aw<|Al rfl rfl<|?_
  exact ⟨M.weaken (.cons _ (sR _)),1000,rfl,Cnt.bad (by clear M;grind)⟩
 ·skip
  have h3:=dF h3b
  refine g_t rfl h3b<|Ap (fun a F=>Am Bd rfl (F.ev rfl) (cs:=[.int .u8 x.kind,.string (str x.tag),.string (str x.key),.slice ta x.as.length tc,.string (str x.text),.slice ka x.kids.length kc]) rfl (M.cellsL (k:=0) rfl rfl)) rfl<|g_t rfl h3b<|Br ent211 rfl rfl (Afl (x:=x) M hk hl SA SK)<|?_;clear M;rintro _ w M ⟨b4,rfl,hb4⟩
  refine g_t rfl h3b<|C9 rfl<|Bh rfl h3b rfl<|Aa<|Ad<|Av rfl ?_ ?_
  ·intro h5b
   have h5:=Ag h5b
   have h5c:(b4)=false:=(Ag h5b)
   refine Ab<|Ac<|Af rfl<|Aa<|Ad<|Aj<|Aw<|Al rfl rfl<|?_
   exact ⟨M.weaken (.cons _ (sR _)),1000,rfl,Cnt.bad (by clear M;grind)⟩
  ·intro h6b
   have h6:=Ah h6b
   have h6c:(b4)=true:=(Ah h6b)
   refine Au<|Ad<|Ab<|?_
   have hAl:H3 x:=by clear M;grind
   have hl1:1≤lev:=by omega
   have hkl:=We hAl
   refine Ac<|Af rfl<|Aa<|Ad<|Ab<|Ab<|Ac<|Af rfl<|Aa<|Ad<|A3<|fun a F=>B8 (fun m a' w'=>∃ (i:Nat),∃ (c:Nat),m=x.kids.length - i∧Fits 36 a' [(1,.int .i64 ((lev:Int))),(2,.pointer (some ⟨b1,0,none⟩)),(5,.int .i64 ((c:Nat):Int)),(6,.int .i64 ((i:Nat):Int))]∧Mem w0 G (.blk b1 [.int .u8 x.kind,.string (str x.tag),.string (str x.key),.slice ta x.as.length tc,.string (str x.text),.slice ka x.kids.length kc] 193::L) w'∧(i≤x.kids.length)∧(CntL H3 x lev i c)) _ ⟨0,1,rfl,F.to ⟨rfl,rfl,rfl,rfl,trivial⟩,M,Nat.zero_le _,CntL.zero _ _⟩ ?_
   clear F M
   rintro m a w ⟨i,c,rfl,F,M,hi,hL⟩
   revert a
   refine Ab<|Ab<|?_
   have hchi:=hL.hi
   refine Ac<|Ae rfl<|Bc Bd.k rfl rfl<|Bl Ct M 0 rfl rfl rfl rfl<|Cg Ct.k rfl<|Df rfl rfl<|Ae rfl<|?_
   rcases bE (decide (((i:Nat):Int) < ((x.kids.length:Nat):Int))) with h7b | h13b
   ·skip
    have h7:=dT h7b
    refine g_t rfl h7b<|Ae rfl<|g_t rfl h7b<|Lv rfl rfl<|Bi rfl h7b rfl<|Aa<|Ad<|Av rfl ?_ ?_
    ·intro h8b
     have h8:=dT h8b
     refine Au<|Ad<|Ab<|A3<|Ac<|Ae rfl<|Bc Bd.k rfl rfl<|Bl Ct M 0 rfl rfl rfl rfl<|Ae rfl<|?_
     obtain ⟨Xe9,hXe9⟩:=Be (xs:=x.kids) (i:=i) (by omega)
     obtain ⟨be9,oe9,_,Ie9,_,Ae9,hTe9⟩:=SK.at hXe9
     obtain ⟨tae9,tce9,kae9,kce9,rfl,hke9,hle9,SAe9,SKe9⟩:=F1 hTe9
     refine Fp Ct.k Bd Ie9 rfl rfl<|Ap (fun a F=>Am Bd rfl (F.ev rfl) (cs:=[.int .u8 Xe9.kind,.string (str Xe9.tag),.string (str Xe9.key),.slice tae9 Xe9.as.length tce9,.string (str Xe9.text),.slice kae9 Xe9.kids.length kce9]) rfl (M.cellsA Ae9 0 (by omega) rfl)) rfl<|Ae rfl<|Lu rfl rfl<|?_
     have hs10:((lev:Int) - 1:Int)=((lev - 1:Nat):Int):=by omega
     intro a F
     rw [hs10] at F
     revert a
     refine Br Alw rfl rfl (ih Xe9 (List.mem_of_getElem? hXe9) _ _ _ _ _ _ _ _ (lev - 1) M hke9 hle9 SAe9 SKe9 (by omega))<|?_;clear M;rintro _ w M ⟨r11,rfl,hr11⟩
     have hir11:=hr11.hi
     have lor11:=hr11.lo
     refine B9 rfl rfl<|Af rfl<|Aa<|C0<|Ad<|Ac<|Ae rfl<|B9 rfl rfl<|Af rfl<|Aa<|Ad<|fun a F=>?_
     exact ⟨_,by omega,i+1,c+r11,rfl,F.to ⟨rfl,rfl,rfl,rfl,trivial⟩,M,by omega,hL.step (by omega) (by omega) hXe9 hr11⟩
    ·intro h12b
     have h12:=dF h12b
     refine B1<|Bx<|Bx<|Dj<|Ad<|Ab<|Ac<|Ae rfl<|Af rfl<|Aa<|Ad<|Aj<|Al rfl rfl<|?_
     exact ⟨M.weaken (.cons _ (sR _)),c,rfl,hL.done (by omega) hAl (by omega)⟩
   ·skip
    have h13:=dF h13b
    refine g_f rfl h13b<|g_f rfl h13b<|Bh rfl h13b rfl<|Aa<|Ad<|D2 rfl rfl<|B1<|Bx<|Bx<|Dj<|Ad<|Ab<|Ac<|Ae rfl<|Af rfl<|Aa<|Ad<|Aj<|Al rfl rfl<|?_
    exact ⟨M.weaken (.cons _ (sR _)),c,rfl,hL.done (by omega) hAl (by omega)⟩
theorem Ajh (x:NT):RcntP x:=by
 induction x using Tr.ind with
 | _ x ih=>intro w0 w G L ta ka tc kc lev M hk hl SA SK hlev;exact Afz ih M hk hl SA SK hlev
theorem Yt (M:Mem w0 G L w) {x:NT} {ta:Option Addr} {tc:Nat} {ka:Option Addr} {kc:Nat} (hk:A2 .u8 x.kind) (hl:(x.tag.length≤9223372036854775807∧x.key.length≤9223372036854775807∧x.text.length≤9223372036854775807)) (SA:Ay Fk 2 G (.slice ta x.as.length tc) x.as) (SK:Ay rdN 6 G (.slice ka x.kids.length kc) x.kids):Calls Tryz.prog 153 #[.agg #[.int .u8 x.kind,.string (str x.tag),.string (str x.key),.slice ta x.as.length tc,.string (str x.text),.slice ka x.kids.length kc]] w (Cl w0 G L fun v=>v=.int .i64 ((cntF x:Nat):Int)):=by
 refine Az (vs:=[_]) Tryz.func153 rfl (n:=9) rfl rfl<|Ab<|Ac<|C4 M rfl rfl rfl<|?_;clear M;intro b1 w M
 refine Af rfl<|Aa<|Ad<|Ab<|Ac<|Ap (fun a F=>Am Bd rfl (F.ev rfl) (cs:=[.int .u8 x.kind,.string (str x.tag),.string (str x.key),.slice ta x.as.length tc,.string (str x.text),.slice ka x.kids.length kc]) rfl (M.cellsL (k:=0) rfl rfl)) rfl<|Br Alw rfl rfl (Ajh x _ _ _ _ _ _ _ _ 6 M hk hl SA SK (by omega))<|?_;clear M;rintro _ w M ⟨r2,rfl,hr2⟩
 have hir2:=hr2.hi
 have lor2:=hr2.lo
 refine Af rfl<|Aa<|Ad<|Ab<|Ab<|Ac<|Ae rfl<|Dn rfl rfl<|Aa<|Ad<|Av rfl ?_ ?_
 ·intro h3b
  have h3:=dT h3b
  refine Ab<|Ac<|Af rfl<|Aa<|Ad<|Aj<|Aw<|Al rfl rfl<|?_
  exact ⟨M.weaken (.cons _ (sR _)),by rw [hr2.cntF.1 (by omega)];rfl⟩
 ·intro h4b
  have h4:=dF h4b
  refine Au<|Ad<|Ab<|Ac<|Ae rfl<|Af rfl<|Aa<|Ad<|Aj<|Al rfl rfl<|?_
  exact ⟨M.weaken (.cons _ (sR _)),by rw [hr2.cntF.2 (by omega)]⟩
theorem L3 (M:Mem w0 G L w) {x:NT} {ta:Option Addr} {tc:Nat} {ka:Option Addr} {kc:Nat} (hk:A2 .u8 x.kind) (hl:(x.tag.length≤9223372036854775807∧x.key.length≤9223372036854775807∧x.text.length≤9223372036854775807)) (SA:Ay Fk 2 G (.slice ta x.as.length tc) x.as) (SK:Ay rdN 6 G (.slice ka x.kids.length kc) x.kids):Calls Tryz.prog 152 #[.agg #[.int .u8 x.kind,.string (str x.tag),.string (str x.key),.slice ta x.as.length tc,.string (str x.text),.slice ka x.kids.length kc]] w (Cl w0 G L fun v=>v=.int .i64 (Up x)):=by
 refine Az (vs:=[_]) Tryz.func152 rfl (n:=6) rfl rfl<|Ab<|Ac<|C4 M rfl rfl rfl<|?_;clear M;intro b1 w M
 refine Af rfl<|Aa<|Ad<|Ab<|Ab<|Ac<|Ap (fun a F=>Am Bd rfl (F.ev rfl) (cs:=[.int .u8 x.kind,.string (str x.tag),.string (str x.key),.slice ta x.as.length tc,.string (str x.text),.slice ka x.kids.length kc]) rfl (M.cellsL (k:=0) rfl rfl)) rfl<|Br ent153 rfl rfl (Yt (x:=x) M hk hl SA SK)<|?_;clear M;rintro _ w M rfl
 refine Dc rfl rfl<|Aa<|Ad<|Av rfl ?_ ?_
 ·intro h2b
  have h2:=dT h2b
  refine Ab<|Ac<|Af rfl<|Aa<|Ad<|Aj<|Aw<|Al rfl rfl<|?_
  exact ⟨M.weaken (.cons _ (sR _)),by rw [Aez fun h_=>by have:=O9.2 h_;omega]⟩
 ·intro h3b
  have h3:=dF h3b
  refine Au<|Ad<|Ab<|Ac<|Af rfl<|Aa<|Ad<|Aj<|Al rfl rfl<|?_
  exact ⟨M.weaken (.cons _ (sR _)),by rw [Aaa (O9.1 (by omega))]⟩
end Go.Proofs.YtmmhmcplegpenaaGreatDoor.T
