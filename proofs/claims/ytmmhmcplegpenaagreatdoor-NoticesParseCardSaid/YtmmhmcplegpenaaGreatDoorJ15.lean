/- The walks, part LAD. · The walks, part LAE. -/
import Derived.Test.YtmmhmcplegpenaaGreatDoorJ14
namespace Go.Proofs.YtmmhmcplegpenaaGreatDoor
open Go Go.Y Go.Proofs
set_option linter.unusedSimpArgs false
set_option linter.unusedVariables false
theorem Kk {xs:List NotD} {e:NotD × Option Value}:(Oe xs++[e])[xs.length]?=some e:=by
 rw [List.getElem?_append_right (by rw [Mm];exact Nat.le_refl _),Mm,Nat.sub_self];rfl
theorem Yd {xs:List NotD} {e e':NotD × Option Value}:(Oe xs++[e]).set xs.length e' = Oe xs++[e']:=by
 rw [List.set_append_right _ _ (by rw [Mm];exact Nat.le_refl _),Mm,Nat.sub_self];rfl
theorem Ajt {G:A4} {x:NotD} {sz:Int} (h:Head x sz):Els Fb 5 G [.int .u8 ((x.kind:Nat):Int),.int .i64 x.at_,.int .i64 x.count,.int .i64 x.to,.slice none 0 0] [x]:=by
 have h1:=Alb h
 have h2:=h.it
 have h3:x.items.length=0:=by rw [h2];rfl
 refine ⟨[_,_,_,_,_],[],rfl,rfl,⟨none,0,?_,h1.1,h1.2.1,h1.2.2.1,h1.2.2.2,by omega,?_⟩,rfl⟩
 ·rw [h3]
 ·rw [h2];exact Ay.nil
theorem Wv {w0 w:World} {G:A4} {L:List Res} (M:Mem w0 G L w) {s:List UInt8} (hs:s.length≤9223372036854775807):Calls Tryz.prog 35 #[.string (str s)] w (Ret w0 G L fun G' v=>∃ (a:Option Addr) (cc:Nat) (ys:List NotD) (ln:Nat) (e:Int),v=.tuple #[.slice a ys.length cc,.int .i64 ((ln:Nat):Int),.int .i64 e]∧Ay Fb 5 G' (.slice a ys.length cc) ys∧PF s (ys,ln,e)):=by
 refine Az (vs:=[_]) Tryz.func35 rfl (n:=85) rfl rfl<|Ab<|Ac<|Af rfl<|Af rfl<|Af rfl<|Aa<|Ad<|Ab<|Ab<|Ac<|Ae rfl<|Ap (fun a F=>Cq Bq.k (F.ev rfl)) rfl<|Dn rfl rfl<|Aa<|Ad<|Av rfl ?_ ?_
 ·intro h1b
  have h1:=dT h1b
  refine Ab<|Ac<|Af rfl<|Af rfl<|Af rfl<|Aa<|Ad<|Aj<|Aw<|Hf rfl rfl rfl rfl<|?_
  exact ⟨_,(Gle.refl _),M,none,0,[],0,_,rfl,Ay.nil,Or.inl ⟨by omega,rfl⟩⟩
 ·intro h2b
  have h2:=dF h2b
  refine Au<|Ad<|Ab<|Ac<|Af rfl<|Aa<|Ad<|Ab<|Ac<|Af rfl<|Af rfl<|Aa<|Ad<|Ab<|A3<|?_
  have M:=M.nilrow 65 5
  change Mem w0 G (.row (.slice none 0 0) 0 ([]) 65 5::L) _ at M
  have M:=M.nilrow 26 4
  change Mem w0 G (.row (.slice none 0 0) 0 ([]) 26 4::.row (.slice none 0 0) 0 ([]) 65 5::L) _ at M
  intro a F
  refine B8 (fun m a' w'=>∃ (c:List UInt8),∃ (left:Nat),∃ (line:Nat),∃ (ai:Option Addr),∃ (ni:Nat),∃ (ci:Nat),∃ (csi:List Value),∃ (ao:Option Addr),∃ (no:Nat),∃ (co:Nat),∃ (cso:List Value),m=c.length∧∃ G3,Gle G G3∧Fits 85 a' [(0,.string (str c)),(5,.slice ao no co),(6,.int .i64 ((left:Nat):Int)),(7,.int .i64 ((line:Nat):Int))]∧Mem w0 G3 (.row (.slice ai ni ci) (ni) (csi) 26 4::.row (.slice ao no co) (no) (cso) 65 5::L) w'∧(RpS s c G3 (.slice ai ni ci) ni csi no cso left line)) _ ⟨s,0,0,(none),(0),(0),[],(none),(0),(0),[],rfl,G,Gle.refl _,F.to ⟨rfl,rfl,rfl,rfl,trivial⟩,M,Aiu⟩ ?_
  clear F M
  rintro m a w ⟨c,left,line,ai,ni,ci,csi,ao,no,co,cso,rfl,G3,hG3,F,M,hS⟩
  revert a
  refine Ab<|Ab<|?_
  rcases hS with ⟨hl0,xs,hA⟩ | ⟨xs,x,sz,ys,hB⟩
  ·skip
   subst hl0
   obtain rfl:=hA.len
   have Eo:=hA.els
   have hsuf:=hA.suf
   have hfw:=hA.few
   have M:=M.weaken (.cons _ (.cons_cons _ (sR _)))
   have M:=M.nilrow 26 4
   change Mem w0 G3 (.row (.slice none 0 0) 0 ([]) 26 4::.row (.slice ao xs.length co) (xs.length) (cso) 65 5::L) _ at M
   refine Ac<|Ae rfl<|Gw rfl rfl<|Ae rfl<|?_
   rcases bE (!(decide (c=([]:List UInt8)))) with h4b | h17b
   ·skip
    have h4:=dF (Ag h4b)
    have h4c:(decide (c=([]:List UInt8)))=false:=(Ag h4b)
    refine g_f rfl (Ak h4c)<|g_f rfl (Ak h4c)<|Bi rfl (Ak h4c) rfl<|Aa<|Ad<|Bk rfl rfl<|Au<|Ad<|A3<|Ab<|Ac<|Ae rfl<|B9 rfl rfl<|Af rfl<|Aa<|Ad<|Ab<|Ac<|Ae rfl<|Br Nl rfl rfl (Ga (s:=c) (c:=(10:UInt8)) M (by omega))<|?_;clear M;rintro _ w M rfl
    have hclc5:=El (10:UInt8) c
    refine Ae rfl<|Ch rfl rfl<|Ch rfl rfl<|Ch rfl rfl<|Af rfl<|Af rfl<|Af rfl<|Aa<|Ad<|Ab<|Ab<|Ac<|Ae rfl<|Dc rfl rfl<|Aa<|Ad<|Av rfl ?_ ?_
    ·intro h6b
     have h6:=dT h6b
     refine Ab<|Ac<|Ae rfl<|Af rfl<|Af rfl<|Af rfl<|Aa<|Ad<|Aj<|Aw<|Bo<|Aw<|Bo<|Aw<|Hf rfl rfl rfl rfl<|?_
     exact ⟨_,hG3,M.weaken (.cons _ (.cons _ (sR _))),none,0,[],(line+1),_,rfl,Ay.nil,Or.inr ⟨by omega,hA.bad (by assumption) (Agh (Hw (by assumption)))⟩⟩
    ·intro h7b
     have h7:=dF h7b
     refine Au<|Ad<|Ab<|?_
     have hq:=Oc (by assumption)
     refine Ac<|Ae rfl<|Af rfl<|Aa<|Ad<|Ab<|Ab<|Ac<|Ae rfl<|Dn rfl rfl<|Aa<|Ad<|D2 rfl (decide_eq_false (by decide))<|Au<|Ad<|Ab<|Ac<|Ae rfl<|Br ent91 rfl rfl (Yl (s:=((Lib.cut c [(10:UInt8)]).1)) M (by omega))<|?_;clear M;rintro _ w M ⟨x8,sx8,bx8,rfl,hrx8⟩
     refine Ae rfl<|Ch rfl rfl<|Ch rfl rfl<|Ch rfl rfl<|Cz M Bf rfl rfl<|?_;clear M;intro b9 w M
     intro a F
     refine Ar F M Bf (k:=0) rfl rfl rfl (us:=[.int .u8 ((x8.kind:Nat):Int),.int .i64 x8.at_,.int .i64 x8.count,.int .i64 x8.to,.slice none 0 0]) rfl rfl (by simp [Value.oneCell']) (by simp) ?_;clear F M a;intro w a M F
     change Mem w0 G3 (.blk b9 [.int .u8 ((x8.kind:Nat):Int),.int .i64 x8.at_,.int .i64 x8.count,.int .i64 x8.to,.slice none 0 0] 65::_::_::L) _ at M
     revert a
     refine Af rfl<|Af rfl<|Aa<|Ad<|Ab<|Ab<|Ac<|Ae rfl<|Dc rfl rfl<|Aa<|Ad<|Av rfl ?_ ?_
     ·intro h11b
      have h11:=dT h11b
      refine Ab<|Ac<|Ae rfl<|Af rfl<|Af rfl<|Af rfl<|Aa<|Ad<|Aj<|Aw<|Bo<|Aw<|Bo<|Aw<|Hf rfl rfl rfl rfl<|?_
      exact ⟨_,hG3,M.weaken (.cons _ (.cons _ (.cons _ (sR _)))),none,0,[],(line+1),_,rfl,Ay.nil,Or.inr ⟨by omega,hA.bad (by assumption) (Ajx (by rcases hrx8 with ⟨hbt,_⟩ | ⟨_,h_⟩;exact absurd (Hw (by assumption)) (by rw [hbt];decide);exact h_))⟩⟩
     ·intro h12b
      have h12:=dF h12b
      refine Au<|Ad<|Ab<|Ab<|?_
      rcases hrx8 with ⟨_,hh,he⟩ | ⟨hbf,_⟩
      intro a F
      case inr=>exact absurd (Oc (by assumption)) (by rw [hbf];decide)
      have hch:=head10 hq he
      have hll:=Gu hq
      revert a
      refine Ac<|Ae rfl<|Cg E5.k rfl<|Dc rfl rfl<|Aa<|Ad<|Av rfl ?_ ?_
      ·intro h13b
       have h13:=dT h13b
       refine Ab<|Ac<|Ae rfl<|Af rfl<|Af rfl<|Af rfl<|Aa<|Ad<|Aj<|Aw<|Bo<|Aw<|Bo<|Aw<|Hf rfl rfl rfl rfl<|?_
       exact ⟨_,hG3,M.weaken (.cons _ (.cons _ (.cons _ (sR _)))),none,0,[],(line+1),_,rfl,Ay.nil,Or.inr ⟨by omega,hA.full ⟨_,_,_,hh,hch⟩ (by omega)⟩⟩
      ·intro h14b
       have h14:=dF h14b
       refine Au<|Ad<|Ab<|?_
       obtain ⟨p,hp⟩:=Int.eq_ofNat_of_zero_le hh.rs.1
       subst hp
       have hp4:=hh.rs.2
       refine Ac<|Ae rfl<|Ap (fun a F=>Am Bf rfl (F.ev rfl) (cs:=[.int .u8 ((x8.kind:Nat):Int),.int .i64 x8.at_,.int .i64 x8.count,.int .i64 x8.to,.slice none 0 0]) rfl (M.cellsL (k:=0) rfl rfl)) rfl<|fun a F=>?_
       refine Ci F M E5.k Bf rfl rfl (cs:=[.int .u8 ((x8.kind:Nat):Int),.int .i64 x8.at_,.int .i64 x8.count,.int .i64 x8.to,.slice none 0 0]) rfl rfl (by simp [Value.oneCell']) (by decide) rfl ?_;clear F M a;intro v15 w a M F
       obtain ⟨av15,cv15,rfl,hlev15,hcmv15,hlv15⟩:=M.row_shape (k:=0) rfl
       refine Dh F M (k:=3) (k2:=0) rfl rfl E5.k Bf rfl rfl (by decide) rfl rfl (by show _ * 56≤_;(try simp only [List.length_drop,List.length_take,List.length_append,List.length_cons,List.length_nil]);omega) (by (try simp only [List.length_drop,List.length_take,List.length_append,List.length_cons,List.length_nil]);omega) rfl ?_;clear F M a;intro v16 w a M F
       obtain ⟨av16,cv16,rfl,hlev16,hcmv16,hlv16⟩:=M.row_shape (k:=3) rfl
       revert a
       refine Af rfl<|Aa<|Ad<|?_
       rcases Nat.lt_or_ge 0 p with hp0 | hp0
       ·skip
        refine Ac<|Ae rfl<|Af rfl<|Aa<|C0<|Ad<|fun a F=>?_
        exact ⟨_,(by have h9_:=Gu (c:=c) hq;omega),(Lib.cut c [(10:UInt8)]).2.1,p,(line+1),(none),(0),(0),[],(av16),(xs.length+1),(cv16),cso++([.int .u8 ((x8.kind:Nat):Int),.int .i64 x8.at_,.int .i64 x8.count,.int .i64 x8.to,.slice none 0 0]),rfl,G3,hG3,F.to ⟨rfl,rfl,rfl,rfl,trivial⟩,(M.weaken (.cons _ (.cons _ (.cons_cons _ (.cons_cons _ (sR _)))))),Or.inr ⟨xs,x8,((p:Nat):Int),[],hA.first hh (by omega) hch rfl rfl (by omega) (by omega)⟩⟩
       ·skip
        obtain rfl:p=0:=by omega
        refine Ac<|Ae rfl<|Af rfl<|Aa<|C0<|Ad<|fun a F=>?_
        exact ⟨_,(by have h9_:=Gu (c:=c) hq;omega),(Lib.cut c [(10:UInt8)]).2.1,0,(line+1),(none),(0),(0),[],(av16),(xs.length+1),(cv16),cso++([.int .u8 ((x8.kind:Nat):Int),.int .i64 x8.at_,.int .i64 x8.count,.int .i64 x8.to,.slice none 0 0]),rfl,G3,hG3,F.to ⟨rfl,rfl,rfl,rfl,trivial⟩,(M.weaken (.cons _ (.cons _ (.cons_cons _ (.cons_cons _ (sR _)))))),Or.inl ⟨rfl,_,hA.one hh (by omega) hch (Ajt hh) (by omega)⟩⟩
   ·skip
    have h17:=dT (Ah h17b)
    have h17c:(decide (c=([]:List UInt8)))=true:=(Ah h17b)
    refine g_t rfl (Ai h17c)<|Ae rfl<|g_t rfl (Ai h17c)<|Dn rfl rfl<|Bh rfl (Ai h17c) rfl<|Aa<|Ad<|D2 rfl (decide_eq_false (by decide))<|B1<|Bx<|Bx<|Dj<|Ad<|Ab<|Ac<|Ae rfl<|Af rfl<|Af rfl<|Af rfl<|Aa<|Ad<|Aj<|Hf rfl rfl rfl rfl<|?_
    obtain ⟨hnz18,Gz18,az18,cz18,hGz18,hez18,Sz18,M⟩:=M.freeze_row Bm (k:=1) rfl Eo (by decide)
    clear hez18 az18 cz18
    exact ⟨Gz18,hG3.trans hGz18,M.weaken (.cons _ (sR _)),ao,co,xs,0,0,rfl,Sz18,Or.inr ⟨by omega,hA.fin (by assumption)⟩⟩
  ·skip
   obtain rfl:=hB.nit
   obtain rfl:=hB.len
   have Eo:=hB.els
   have Ei:=hB.its
   have hsuf:=hB.suf
   have hpos:=hB.pos
   have hlf:=hB.lf
   have hrs:=hB.hd.rs
   have hfw:=hB.few
   refine Ac<|Ae rfl<|Gw rfl rfl<|Ae rfl<|?_
   rcases bE (!(decide (c=([]:List UInt8)))) with h19b | h39b
   ·skip
    have h19:=dF (Ag h19b)
    have h19c:(decide (c=([]:List UInt8)))=false:=(Ag h19b)
    refine g_f rfl (Ak h19c)<|g_f rfl (Ak h19c)<|Bi rfl (Ak h19c) rfl<|Aa<|Ad<|Bk rfl rfl<|Au<|Ad<|A3<|Ab<|Ac<|Ae rfl<|B9 rfl rfl<|Af rfl<|Aa<|Ad<|Ab<|Ac<|Ae rfl<|Br Nl rfl rfl (Ga (s:=c) (c:=(10:UInt8)) M (by omega))<|?_;clear M;rintro _ w M rfl
    have hclc20:=El (10:UInt8) c
    refine Ae rfl<|Ch rfl rfl<|Ch rfl rfl<|Ch rfl rfl<|Af rfl<|Af rfl<|Af rfl<|Aa<|Ad<|Ab<|Ab<|Ac<|Ae rfl<|Dc rfl rfl<|Aa<|Ad<|Av rfl ?_ ?_
    ·intro h21b
     have h21:=dT h21b
     refine Ab<|Ac<|Ae rfl<|Af rfl<|Af rfl<|Af rfl<|Aa<|Ad<|Aj<|Aw<|Bo<|Aw<|Bo<|Aw<|Hf rfl rfl rfl rfl<|?_
     exact ⟨_,hG3,M.weaken (.cons _ (.cons _ (sR _))),none,0,[],(line+1),_,rfl,Ay.nil,Or.inr ⟨by omega,hB.bad (Vk (Hw (by assumption)))⟩⟩
    ·intro h22b
     have h22:=dF h22b
     refine Au<|Ad<|Ab<|?_
     have hq:=Oc (by assumption)
     refine Ac<|Ae rfl<|Af rfl<|Aa<|Ad<|Ab<|Ab<|Ac<|Ae rfl<|Dn rfl rfl<|Aa<|Ad<|Av rfl ?_ ?_
     ·intro h23b
      have h23:=dT h23b
      refine Ab<|Ac<|Ae rfl<|Ap (fun a F=>Bv (F.ev rfl) (F.ev rfl) (by (simp only [List.length_append,List.length_cons,List.length_nil];omega))) rfl<|Hq ent90 rfl rfl (U8 (s:=((Lib.cut c [(10:UInt8)]).1)++([10]:List UInt8)) M (by (simp only [List.length_append,List.length_cons,List.length_nil];omega)))<|?_;clear M;rintro _ Gk24 w hGk24 M ⟨xk24,mak24,mck24,bk24,rfl,hIk24,SMk24,hyk24,hnk24⟩
      replace hB:=hB.mono hGk24
      replace Eo:=Eo.mono Iv hGk24
      replace Ei:=Ei.mono A0 hGk24
      refine Ae rfl<|Ch rfl rfl<|Ch rfl rfl<|Cz M A1 rfl rfl<|?_;clear M;intro b25 w M
      intro a F
      refine Ar F M A1 (k:=0) rfl rfl rfl (us:=[.int .u64 ((xk24.key:Nat):Int),.int .u8 ((xk24.typ:Nat):Int),.string (str xk24.text),.slice mak24 xk24.marks.length mck24]) rfl rfl (by simp [Value.oneCell']) (by simp) ?_;clear F M a;intro w a M F
      change Mem w0 Gk24 (.blk b25 [.int .u64 ((xk24.key:Nat):Int),.int .u8 ((xk24.typ:Nat):Int),.string (str xk24.text),.slice mak24 xk24.marks.length mck24] 26::_::_::L) _ at M
      revert a
      refine Af rfl<|Aa<|Ad<|Ab<|Ab<|Ac<|Ae rfl<|Dc rfl rfl<|Aa<|Ad<|Av rfl ?_ ?_
      ·intro h27b
       have h27:=dT h27b
       refine Ab<|Ac<|Ae rfl<|Af rfl<|Af rfl<|Af rfl<|Aa<|Ad<|Aj<|Aw<|Aw<|Bo<|Aw<|Bo<|Aw<|Hf rfl rfl rfl rfl<|?_
       exact ⟨_,(hG3.trans hGk24),M.weaken (.cons _ (.cons _ (.cons _ (sR _)))),none,0,[],(line+1),_,rfl,Ay.nil,Or.inr ⟨by omega,hB.bad (Y5 (hnk24 (Hw (by assumption))))⟩⟩
      ·intro h28b
       have h28:=dF h28b
       refine Au<|Ad<|Ab<|Ac<|Ae rfl<|Cg E5.k rfl<|Lu rfl rfl<|?_
       have hs29:(((xs.length+1:Nat):Int) - 1:Int)=(((xs.length+1) - 1:Nat):Int):=by omega
       intro a F
       rw [hs29] at F
       revert a
       refine Af rfl<|Aa<|Ad<|Ab<|fun a F=>Of [(.free,0),(.free,1),(.free,2),(.free,3),(.free,4),(.free,5),(.pure,6),(.pure,7),(.keep,8),(.chg,9),(.free,10),(.free,11),(.chg,12)] [9,12] (Keep Gk24 [.blk b25 [.int .u64 ((xk24.key:Nat):Int),.int .u8 ((xk24.typ:Nat):Int),.string (str xk24.text),.slice mak24 xk24.marks.length mck24] 26,.row (.slice ai ys.length ci) (ys.length) (csi) 26 4,.row (.slice ao (xs.length+1) (co)) (xs.length+1) (cso) 65 5]) rfl (by kernel_rfl) (fun c a d v w h=>by cases d <;> exact h) ((M.drew _).keep (Gle.refl _) (by simp)) ?_
       replace M:=M.drew (w.drawn+1)
       revert a
       refine k_f (fun a F w _=>Cj F rfl) rfl<|k_f (fun a F w _=>Cj F rfl) rfl<|k_f (fun a F w _=>Cj F rfl) rfl<|k_f (fun a F w _=>Cj F rfl) rfl<|?_
       obtain ⟨be30,_,Ie30,hme30,_,Ae30,rfl⟩:=M.atRowK (k:=2) rfl (by decide) Eo (Lr:=[.blk b25 [.int .u64 ((xk24.key:Nat):Int),.int .u8 ((xk24.typ:Nat):Int),.string (str xk24.text),.slice mak24 xk24.marks.length mck24] 26,.row (.slice ai ys.length ci) (ys.length) (csi) 26 4,.row (.slice ao (xs.length+1) (co)) (xs.length+1) (cso) 65 5]) (k':=2) rfl (Kk (xs:=xs))
       refine k_f (fun a F w _=>Ca E5.k Bf (F.ev rfl) (F.ev rfl) (by omega) Ie30) rfl<|k_f (fun a F w _=>Co Bf.k rfl F rfl) rfl<|k_p (fun a F w M=>Aq (agf B5 rfl) (F.ev rfl) (Amz (Ae30 w M) 4 rfl rfl)) rfl<|k_p (fun a F w M=>Am A1 rfl (F.ev rfl) (cs:=[.int .u64 ((xk24.key:Nat):Int),.int .u8 ((xk24.typ:Nat):Int),.string (str xk24.text),.slice mak24 xk24.marks.length mck24]) rfl (M.cellsL (k:=0) rfl rfl)) rfl<|k_k rfl<|fun a F=>?_
       refine Ci F M B5.k A1 rfl rfl (cs:=[.int .u64 ((xk24.key:Nat):Int),.int .u8 ((xk24.typ:Nat):Int),.string (str xk24.text),.slice mak24 xk24.marks.length mck24]) rfl rfl (by simp [Value.oneCell']) (by decide) rfl ?_;clear F M a;intro v31 w a M F
       obtain ⟨av31,cv31,rfl,hlev31,hcmv31,hlv31⟩:=M.row_shape (k:=0) rfl
       revert a
       refine Aa<|eK (C':=Keep Gk24 [.blk b25 [.int .u64 ((xk24.key:Nat):Int),.int .u8 ((xk24.typ:Nat):Int),.string (str xk24.text),.slice mak24 xk24.marks.length mck24] 26,.row (.slice ai ys.length ci) (ys.length) (csi) 26 4,.row (.slice ao (xs.length+1) (co)) (xs.length+1) (cso) 65 5]) (M.keep (Gle.refl _) (by simp)) (fun w h=>h.mono (Gle.refl _) (by simp))<|?_
       have Eb:Els Cn 4 Gk24 [.int .u64 ((xk24.key:Nat):Int),.int .u8 ((xk24.typ:Nat):Int),.string (str xk24.text),.slice mak24 xk24.marks.length mck24] [xk24]:=⟨[.int .u64 ((xk24.key:Nat):Int),.int .u8 ((xk24.typ:Nat):Int),.string (str xk24.text),.slice mak24 xk24.marks.length mck24],[],rfl,rfl,⟨mak24,mck24,rfl,hIk24.1,hIk24.2.1,hIk24.2.2,(by have h_:=SMk24.bound;omega),SMk24⟩,rfl⟩
       refine k_c rfl<|fun a F=>?_
       refine Dh F M (k:=2) (k2:=0) rfl rfl B5.k A1 rfl rfl (by decide) rfl rfl (by show _ * 56≤_;(try simp only [List.length_drop,List.length_take,List.length_append,List.length_cons,List.length_nil]);omega) (by (try simp only [List.length_drop,List.length_take,List.length_append,List.length_cons,List.length_nil]);omega) rfl ?_;clear F M a;intro v32 w a M F
       have Ev32:=Els.append Ei Eb
       obtain ⟨av32,cv32,rfl,hlev32,hcmv32,hlv32⟩:=M.row_shape (k:=2) rfl
       revert a
       refine Aa<|?_
       change Mem w0 Gk24 (.row (.slice av31 1 (cv31)) 1 ([.int .u64 ((xk24.key:Nat):Int),.int .u8 ((xk24.typ:Nat):Int),.string (str xk24.text),.slice mak24 xk24.marks.length mck24]) 26 4::.blk b25 [.int .u64 ((xk24.key:Nat):Int),.int .u8 ((xk24.typ:Nat):Int),.string (str xk24.text),.slice mak24 xk24.marks.length mck24] 26::.row (.slice av32 (ys.length+1) (cv32)) (ys.length+1) (csi++([.int .u64 ((xk24.key:Nat):Int),.int .u8 ((xk24.typ:Nat):Int),.string (str xk24.text),.slice mak24 xk24.marks.length mck24])) 26 4::.row (.slice ao (xs.length+1) (co)) (xs.length+1) (cso) 65 5::L) _ at M
       intro a F
       refine ⟨Keep Gk24 [.row (.slice av31 1 (cv31)) 1 ([.int .u64 ((xk24.key:Nat):Int),.int .u8 ((xk24.typ:Nat):Int),.string (str xk24.text),.slice mak24 xk24.marks.length mck24]) 26 4,.blk b25 [.int .u64 ((xk24.key:Nat):Int),.int .u8 ((xk24.typ:Nat):Int),.string (str xk24.text),.slice mak24 xk24.marks.length mck24] 26,.row (.slice av32 (ys.length+1) (cv32)) (ys.length+1) (csi++([.int .u64 ((xk24.key:Nat):Int),.int .u8 ((xk24.typ:Nat):Int),.string (str xk24.text),.slice mak24 xk24.marks.length mck24])) 26 4,.row (.slice ao (xs.length+1) (co)) (xs.length+1) (cso) 65 5],M.keep (Gle.refl _) (by simp),?_⟩
       obtain ⟨be33,_,Ie33,hme33,_,Ae33,rfl⟩:=M.atRowK (k:=3) rfl (by decide) Eo (Lr:=[.row (.slice av31 1 (cv31)) 1 ([.int .u64 ((xk24.key:Nat):Int),.int .u8 ((xk24.typ:Nat):Int),.string (str xk24.text),.slice mak24 xk24.marks.length mck24]) 26 4,.blk b25 [.int .u64 ((xk24.key:Nat):Int),.int .u8 ((xk24.typ:Nat):Int),.string (str xk24.text),.slice mak24 xk24.marks.length mck24] 26,.row (.slice av32 (ys.length+1) (cv32)) (ys.length+1) (csi++([.int .u64 ((xk24.key:Nat):Int),.int .u8 ((xk24.typ:Nat):Int),.string (str xk24.text),.slice mak24 xk24.marks.length mck24])) 26 4,.row (.slice ao (xs.length+1) (co)) (xs.length+1) (cso) 65 5]) (k':=3) rfl (Kk (xs:=xs))
       revert a
       refine k_f (fun a F w _=>Ca E5.k Bf (F.ev rfl) (F.ev rfl) (by omega) Ie33) rfl<|k_f (fun a F w _=>Co Bf.k rfl F rfl) rfl<|k_c rfl<|fun a F=>?_
       refine Ju F M B5 rfl (k:=3) rfl Eo Ie33 (Kk (xs:=xs)) (f:=4) (by decide) rfl rfl rfl rfl (X':=(x,some (Value.slice av32 (ys.length+1) (cv32)))) (Y3) ?_;clear F M a;intro csu34 w a M Eu34 F
       revert a
       refine Aa<|?_
       change Mem w0 Gk24 (.row (.slice av31 1 (cv31)) 1 ([.int .u64 ((xk24.key:Nat):Int),.int .u8 ((xk24.typ:Nat):Int),.string (str xk24.text),.slice mak24 xk24.marks.length mck24]) 26 4::.blk b25 [.int .u64 ((xk24.key:Nat):Int),.int .u8 ((xk24.typ:Nat):Int),.string (str xk24.text),.slice mak24 xk24.marks.length mck24] 26::.row (.slice av32 (ys.length+1) (cv32)) (ys.length+1) (csi++([.int .u64 ((xk24.key:Nat):Int),.int .u8 ((xk24.typ:Nat):Int),.string (str xk24.text),.slice mak24 xk24.marks.length mck24])) 26 4::.row (.slice ao (xs.length+1) (co)) (xs.length+1) (csu34) 65 5::L) _ at M
       intro a F
       refine ⟨Keep Gk24 [.row (.slice av31 1 (cv31)) 1 ([.int .u64 ((xk24.key:Nat):Int),.int .u8 ((xk24.typ:Nat):Int),.string (str xk24.text),.slice mak24 xk24.marks.length mck24]) 26 4,.blk b25 [.int .u64 ((xk24.key:Nat):Int),.int .u8 ((xk24.typ:Nat):Int),.string (str xk24.text),.slice mak24 xk24.marks.length mck24] 26,.row (.slice av32 (ys.length+1) (cv32)) (ys.length+1) (csi++([.int .u64 ((xk24.key:Nat):Int),.int .u8 ((xk24.typ:Nat):Int),.string (str xk24.text),.slice mak24 xk24.marks.length mck24])) 26 4,.row (.slice ao (xs.length+1) (co)) (xs.length+1) (csu34) 65 5],M.keep (Gle.refl _) (by simp),?_⟩
       revert a
       refine D1<|Ad<|Ab<|fun a F=>?_
       rw [Yd] at Eu34
       obtain ⟨hyk,hcy⟩:=Akt hq (hyk24 (Oc (by assumption)))
       have hll:=Gu hq
       rcases Nat.lt_or_ge 1 left with hl1 | hl1
       ·skip
        revert a
        refine Ac<|Ae rfl<|Lu rfl rfl<|?_
        have hs35:(((left:Nat):Int) - 1:Int)=((left - 1:Nat):Int):=by omega
        intro a F
        rw [hs35] at F
        revert a
        refine Af rfl<|Aa<|Ad<|B1<|Bx<|Dj<|Ad<|fun a F=>?_
        exact ⟨_,(by have h9_:=Gu (c:=c) hq;omega),(Lib.cut c [(10:UInt8)]).2.1,(left - 1),(line+1),(av32),(ys.length+1),(cv32),csi++([.int .u64 ((xk24.key:Nat):Int),.int .u8 ((xk24.typ:Nat):Int),.string (str xk24.text),.slice mak24 xk24.marks.length mck24]),(ao),(xs.length+1),(co),csu34,rfl,Gk24,(hG3.trans hGk24),F.to ⟨rfl,rfl,rfl,rfl,trivial⟩,(M.weaken (.cons _ (.cons _ (.cons_cons _ (.cons_cons _ (sR _)))))),Or.inr ⟨xs,x,sz,ys++[xk24],hB.more hcy hyk Ev32 rfl Eu34 (by omega) (by omega)⟩⟩
       ·skip
        obtain ⟨hnz36,Gz36,az36,cz36,hGz36,hez36,Sz36,M⟩:=M.freeze_row A0 (k:=2) rfl Ev32 (by decide)
        clear hez36 az36 cz36
        replace hB:=hB.mono hGz36
        replace Ei:=Ei.mono A0 hGz36
        replace SMk24:=SMk24.mono Bn hGz36
        replace Eb:=Eb.mono A0 hGz36
        replace Eu34:=Eu34.mono Iv hGz36
        rw [hnz36] at Sz36 Eu34
        have M:=M.nilrow 26 4
        change Mem w0 Gz36 (.row (.slice none 0 0) 0 ([]) 26 4::.row (.slice av31 1 (cv31)) 1 ([.int .u64 ((xk24.key:Nat):Int),.int .u8 ((xk24.typ:Nat):Int),.string (str xk24.text),.slice mak24 xk24.marks.length mck24]) 26 4::.blk b25 [.int .u64 ((xk24.key:Nat):Int),.int .u8 ((xk24.typ:Nat):Int),.string (str xk24.text),.slice mak24 xk24.marks.length mck24] 26::.row (.slice ao (xs.length+1) (co)) (xs.length+1) (csu34) 65 5::L) _ at M
        revert a
        refine Ac<|Ae rfl<|Lu rfl rfl<|?_
        have hs37:(((left:Nat):Int) - 1:Int)=((left - 1:Nat):Int):=by omega
        intro a F
        rw [hs37] at F
        revert a
        refine Af rfl<|Aa<|Ad<|B1<|Bx<|Dj<|Ad<|fun a F=>?_
        exact ⟨_,(by have h9_:=Gu (c:=c) hq;omega),(Lib.cut c [(10:UInt8)]).2.1,(left - 1),(line+1),(none),(0),(0),[],(ao),(xs.length+1),(co),csu34,rfl,Gz36,((hG3.trans hGk24).trans hGz36),F.to ⟨rfl,rfl,rfl,rfl,trivial⟩,(M.weaken (.cons_cons _ (.cons _ (.cons _ (.cons_cons _ (sR _)))))),Or.inl ⟨by omega,_,hB.last hcy hyk Sz36 Eu34 (by omega) (by omega)⟩⟩
     ·intro h38b
      have h38:=dF h38b
      intro a F
      omega
   ·skip
    have h39:=dT (Ah h39b)
    have h39c:(decide (c=([]:List UInt8)))=true:=(Ah h39b)
    refine g_t rfl (Ai h39c)<|Ae rfl<|g_t rfl (Ai h39c)<|Dn rfl rfl<|Bh rfl (Ai h39c) rfl<|Aa<|Ad<|Av rfl ?_ ?_
    ·intro h40b
     have h40:=dT h40b
     refine Au<|Ad<|A3<|Ab<|Ac<|Ae rfl<|B9 rfl rfl<|Af rfl<|Aa<|Ad<|Ab<|Ac<|Ae rfl<|Br Nl rfl rfl (Ga (s:=c) (c:=(10:UInt8)) M (by omega))<|?_;clear M;rintro _ w M rfl
     have hclc41:=El (10:UInt8) c
     refine Ae rfl<|Ch rfl rfl<|Ch rfl rfl<|Ch rfl rfl<|Af rfl<|Af rfl<|Af rfl<|Aa<|Ad<|Ab<|Ab<|Ac<|Ae rfl<|Dc rfl rfl<|Aa<|Ad<|Av rfl ?_ ?_
     ·intro h42b
      have h42:=dT h42b
      refine Ab<|Ac<|Ae rfl<|Af rfl<|Af rfl<|Af rfl<|Aa<|Ad<|Aj<|Aw<|Bo<|Aw<|Bo<|Aw<|Hf rfl rfl rfl rfl<|?_
      exact ⟨_,hG3,M.weaken (.cons _ (.cons _ (sR _))),none,0,[],(line+1),_,rfl,Ay.nil,Or.inr ⟨by omega,hB.bad (Vk (Hw (by assumption)))⟩⟩
     ·intro h43b
      have h43:=dF h43b
      refine Au<|Ad<|Ab<|?_
      have hq:=Oc (by assumption)
      refine Ac<|Ae rfl<|Af rfl<|Aa<|Ad<|Ab<|Ab<|Ac<|Ae rfl<|Dn rfl rfl<|Aa<|Ad<|Bk rfl (decide_eq_true h40)<|Ab<|Ac<|Ae rfl<|Ap (fun a F=>Bv (F.ev rfl) (F.ev rfl) (by (simp only [List.length_append,List.length_cons,List.length_nil];omega))) rfl<|Hq ent90 rfl rfl (U8 (s:=((Lib.cut c [(10:UInt8)]).1)++([10]:List UInt8)) M (by (simp only [List.length_append,List.length_cons,List.length_nil];omega)))<|?_;clear M;rintro _ Gk44 w hGk44 M ⟨xk44,mak44,mck44,bk44,rfl,hIk44,SMk44,hyk44,hnk44⟩
      replace hB:=hB.mono hGk44
      replace Eo:=Eo.mono Iv hGk44
      replace Ei:=Ei.mono A0 hGk44
      refine Ae rfl<|Ch rfl rfl<|Ch rfl rfl<|Cz M A1 rfl rfl<|?_;clear M;intro b45 w M
      intro a F
      refine Ar F M A1 (k:=0) rfl rfl rfl (us:=[.int .u64 ((xk44.key:Nat):Int),.int .u8 ((xk44.typ:Nat):Int),.string (str xk44.text),.slice mak44 xk44.marks.length mck44]) rfl rfl (by simp [Value.oneCell']) (by simp) ?_;clear F M a;intro w a M F
      change Mem w0 Gk44 (.blk b45 [.int .u64 ((xk44.key:Nat):Int),.int .u8 ((xk44.typ:Nat):Int),.string (str xk44.text),.slice mak44 xk44.marks.length mck44] 26::_::_::L) _ at M
      revert a
      refine Af rfl<|Aa<|Ad<|Ab<|Ab<|Ac<|Ae rfl<|Dc rfl rfl<|Aa<|Ad<|Av rfl ?_ ?_
      ·intro h47b
       have h47:=dT h47b
       refine Ab<|Ac<|Ae rfl<|Af rfl<|Af rfl<|Af rfl<|Aa<|Ad<|Aj<|Aw<|Aw<|Bo<|Aw<|Bo<|Aw<|Hf rfl rfl rfl rfl<|?_
       exact ⟨_,(hG3.trans hGk44),M.weaken (.cons _ (.cons _ (.cons _ (sR _)))),none,0,[],(line+1),_,rfl,Ay.nil,Or.inr ⟨by omega,hB.bad (Y5 (hnk44 (Hw (by assumption))))⟩⟩
      ·intro h48b
       have h48:=dF h48b
       refine Au<|Ad<|Ab<|Ac<|Ae rfl<|Cg E5.k rfl<|Lu rfl rfl<|?_
       have hs49:(((xs.length+1:Nat):Int) - 1:Int)=(((xs.length+1) - 1:Nat):Int):=by omega
       intro a F
       rw [hs49] at F
       revert a
       refine Af rfl<|Aa<|Ad<|Ab<|fun a F=>Of [(.free,0),(.free,1),(.free,2),(.free,3),(.free,4),(.free,5),(.pure,6),(.pure,7),(.keep,8),(.chg,9),(.free,10),(.free,11),(.chg,12)] [9,12] (Keep Gk44 [.blk b45 [.int .u64 ((xk44.key:Nat):Int),.int .u8 ((xk44.typ:Nat):Int),.string (str xk44.text),.slice mak44 xk44.marks.length mck44] 26,.row (.slice ai ys.length ci) (ys.length) (csi) 26 4,.row (.slice ao (xs.length+1) (co)) (xs.length+1) (cso) 65 5]) rfl (by kernel_rfl) (fun c a d v w h=>by cases d <;> exact h) ((M.drew _).keep (Gle.refl _) (by simp)) ?_
       replace M:=M.drew (w.drawn+1)
       revert a
       refine k_f (fun a F w _=>Cj F rfl) rfl<|k_f (fun a F w _=>Cj F rfl) rfl<|k_f (fun a F w _=>Cj F rfl) rfl<|k_f (fun a F w _=>Cj F rfl) rfl<|?_
       obtain ⟨be50,_,Ie50,hme50,_,Ae50,rfl⟩:=M.atRowK (k:=2) rfl (by decide) Eo (Lr:=[.blk b45 [.int .u64 ((xk44.key:Nat):Int),.int .u8 ((xk44.typ:Nat):Int),.string (str xk44.text),.slice mak44 xk44.marks.length mck44] 26,.row (.slice ai ys.length ci) (ys.length) (csi) 26 4,.row (.slice ao (xs.length+1) (co)) (xs.length+1) (cso) 65 5]) (k':=2) rfl (Kk (xs:=xs))
       refine k_f (fun a F w _=>Ca E5.k Bf (F.ev rfl) (F.ev rfl) (by omega) Ie50) rfl<|k_f (fun a F w _=>Co Bf.k rfl F rfl) rfl<|k_p (fun a F w M=>Aq (agf B5 rfl) (F.ev rfl) (Amz (Ae50 w M) 4 rfl rfl)) rfl<|k_p (fun a F w M=>Am A1 rfl (F.ev rfl) (cs:=[.int .u64 ((xk44.key:Nat):Int),.int .u8 ((xk44.typ:Nat):Int),.string (str xk44.text),.slice mak44 xk44.marks.length mck44]) rfl (M.cellsL (k:=0) rfl rfl)) rfl<|k_k rfl<|fun a F=>?_
       refine Ci F M B5.k A1 rfl rfl (cs:=[.int .u64 ((xk44.key:Nat):Int),.int .u8 ((xk44.typ:Nat):Int),.string (str xk44.text),.slice mak44 xk44.marks.length mck44]) rfl rfl (by simp [Value.oneCell']) (by decide) rfl ?_;clear F M a;intro v51 w a M F
       obtain ⟨av51,cv51,rfl,hlev51,hcmv51,hlv51⟩:=M.row_shape (k:=0) rfl
       revert a
       refine Aa<|eK (C':=Keep Gk44 [.blk b45 [.int .u64 ((xk44.key:Nat):Int),.int .u8 ((xk44.typ:Nat):Int),.string (str xk44.text),.slice mak44 xk44.marks.length mck44] 26,.row (.slice ai ys.length ci) (ys.length) (csi) 26 4,.row (.slice ao (xs.length+1) (co)) (xs.length+1) (cso) 65 5]) (M.keep (Gle.refl _) (by simp)) (fun w h=>h.mono (Gle.refl _) (by simp))<|?_
       have Eb:Els Cn 4 Gk44 [.int .u64 ((xk44.key:Nat):Int),.int .u8 ((xk44.typ:Nat):Int),.string (str xk44.text),.slice mak44 xk44.marks.length mck44] [xk44]:=⟨[.int .u64 ((xk44.key:Nat):Int),.int .u8 ((xk44.typ:Nat):Int),.string (str xk44.text),.slice mak44 xk44.marks.length mck44],[],rfl,rfl,⟨mak44,mck44,rfl,hIk44.1,hIk44.2.1,hIk44.2.2,(by have h_:=SMk44.bound;omega),SMk44⟩,rfl⟩
       refine k_c rfl<|fun a F=>?_
       refine Dh F M (k:=2) (k2:=0) rfl rfl B5.k A1 rfl rfl (by decide) rfl rfl (by show _ * 56≤_;(try simp only [List.length_drop,List.length_take,List.length_append,List.length_cons,List.length_nil]);omega) (by (try simp only [List.length_drop,List.length_take,List.length_append,List.length_cons,List.length_nil]);omega) rfl ?_;clear F M a;intro v52 w a M F
       have Ev52:=Els.append Ei Eb
       obtain ⟨av52,cv52,rfl,hlev52,hcmv52,hlv52⟩:=M.row_shape (k:=2) rfl
       revert a
       refine Aa<|?_
       change Mem w0 Gk44 (.row (.slice av51 1 (cv51)) 1 ([.int .u64 ((xk44.key:Nat):Int),.int .u8 ((xk44.typ:Nat):Int),.string (str xk44.text),.slice mak44 xk44.marks.length mck44]) 26 4::.blk b45 [.int .u64 ((xk44.key:Nat):Int),.int .u8 ((xk44.typ:Nat):Int),.string (str xk44.text),.slice mak44 xk44.marks.length mck44] 26::.row (.slice av52 (ys.length+1) (cv52)) (ys.length+1) (csi++([.int .u64 ((xk44.key:Nat):Int),.int .u8 ((xk44.typ:Nat):Int),.string (str xk44.text),.slice mak44 xk44.marks.length mck44])) 26 4::.row (.slice ao (xs.length+1) (co)) (xs.length+1) (cso) 65 5::L) _ at M
       intro a F
       refine ⟨Keep Gk44 [.row (.slice av51 1 (cv51)) 1 ([.int .u64 ((xk44.key:Nat):Int),.int .u8 ((xk44.typ:Nat):Int),.string (str xk44.text),.slice mak44 xk44.marks.length mck44]) 26 4,.blk b45 [.int .u64 ((xk44.key:Nat):Int),.int .u8 ((xk44.typ:Nat):Int),.string (str xk44.text),.slice mak44 xk44.marks.length mck44] 26,.row (.slice av52 (ys.length+1) (cv52)) (ys.length+1) (csi++([.int .u64 ((xk44.key:Nat):Int),.int .u8 ((xk44.typ:Nat):Int),.string (str xk44.text),.slice mak44 xk44.marks.length mck44])) 26 4,.row (.slice ao (xs.length+1) (co)) (xs.length+1) (cso) 65 5],M.keep (Gle.refl _) (by simp),?_⟩
       obtain ⟨be53,_,Ie53,hme53,_,Ae53,rfl⟩:=M.atRowK (k:=3) rfl (by decide) Eo (Lr:=[.row (.slice av51 1 (cv51)) 1 ([.int .u64 ((xk44.key:Nat):Int),.int .u8 ((xk44.typ:Nat):Int),.string (str xk44.text),.slice mak44 xk44.marks.length mck44]) 26 4,.blk b45 [.int .u64 ((xk44.key:Nat):Int),.int .u8 ((xk44.typ:Nat):Int),.string (str xk44.text),.slice mak44 xk44.marks.length mck44] 26,.row (.slice av52 (ys.length+1) (cv52)) (ys.length+1) (csi++([.int .u64 ((xk44.key:Nat):Int),.int .u8 ((xk44.typ:Nat):Int),.string (str xk44.text),.slice mak44 xk44.marks.length mck44])) 26 4,.row (.slice ao (xs.length+1) (co)) (xs.length+1) (cso) 65 5]) (k':=3) rfl (Kk (xs:=xs))
       revert a
       refine k_f (fun a F w _=>Ca E5.k Bf (F.ev rfl) (F.ev rfl) (by omega) Ie53) rfl<|k_f (fun a F w _=>Co Bf.k rfl F rfl) rfl<|k_c rfl<|fun a F=>?_
       refine Ju F M B5 rfl (k:=3) rfl Eo Ie53 (Kk (xs:=xs)) (f:=4) (by decide) rfl rfl rfl rfl (X':=(x,some (Value.slice av52 (ys.length+1) (cv52)))) (Y3) ?_;clear F M a;intro csu54 w a M Eu54 F
       revert a
       refine Aa<|?_
       change Mem w0 Gk44 (.row (.slice av51 1 (cv51)) 1 ([.int .u64 ((xk44.key:Nat):Int),.int .u8 ((xk44.typ:Nat):Int),.string (str xk44.text),.slice mak44 xk44.marks.length mck44]) 26 4::.blk b45 [.int .u64 ((xk44.key:Nat):Int),.int .u8 ((xk44.typ:Nat):Int),.string (str xk44.text),.slice mak44 xk44.marks.length mck44] 26::.row (.slice av52 (ys.length+1) (cv52)) (ys.length+1) (csi++([.int .u64 ((xk44.key:Nat):Int),.int .u8 ((xk44.typ:Nat):Int),.string (str xk44.text),.slice mak44 xk44.marks.length mck44])) 26 4::.row (.slice ao (xs.length+1) (co)) (xs.length+1) (csu54) 65 5::L) _ at M
       intro a F
       refine ⟨Keep Gk44 [.row (.slice av51 1 (cv51)) 1 ([.int .u64 ((xk44.key:Nat):Int),.int .u8 ((xk44.typ:Nat):Int),.string (str xk44.text),.slice mak44 xk44.marks.length mck44]) 26 4,.blk b45 [.int .u64 ((xk44.key:Nat):Int),.int .u8 ((xk44.typ:Nat):Int),.string (str xk44.text),.slice mak44 xk44.marks.length mck44] 26,.row (.slice av52 (ys.length+1) (cv52)) (ys.length+1) (csi++([.int .u64 ((xk44.key:Nat):Int),.int .u8 ((xk44.typ:Nat):Int),.string (str xk44.text),.slice mak44 xk44.marks.length mck44])) 26 4,.row (.slice ao (xs.length+1) (co)) (xs.length+1) (csu54) 65 5],M.keep (Gle.refl _) (by simp),?_⟩
       revert a
       refine D1<|Ad<|Ab<|fun a F=>?_
       rw [Yd] at Eu54
       obtain ⟨hyk,hcy⟩:=Akt hq (hyk44 (Oc (by assumption)))
       have hll:=Gu hq
       rcases Nat.lt_or_ge 1 left with hl1 | hl1
       ·skip
        revert a
        refine Ac<|Ae rfl<|Lu rfl rfl<|?_
        have hs55:(((left:Nat):Int) - 1:Int)=((left - 1:Nat):Int):=by omega
        intro a F
        rw [hs55] at F
        revert a
        refine Af rfl<|Aa<|Ad<|B1<|Bx<|Dj<|Ad<|fun a F=>?_
        exact ⟨_,(by have h9_:=Gu (c:=c) hq;omega),(Lib.cut c [(10:UInt8)]).2.1,(left - 1),(line+1),(av52),(ys.length+1),(cv52),csi++([.int .u64 ((xk44.key:Nat):Int),.int .u8 ((xk44.typ:Nat):Int),.string (str xk44.text),.slice mak44 xk44.marks.length mck44]),(ao),(xs.length+1),(co),csu54,rfl,Gk44,(hG3.trans hGk44),F.to ⟨rfl,rfl,rfl,rfl,trivial⟩,(M.weaken (.cons _ (.cons _ (.cons_cons _ (.cons_cons _ (sR _)))))),Or.inr ⟨xs,x,sz,ys++[xk44],hB.more hcy hyk Ev52 rfl Eu54 (by omega) (by omega)⟩⟩
       ·skip
        obtain ⟨hnz56,Gz56,az56,cz56,hGz56,hez56,Sz56,M⟩:=M.freeze_row A0 (k:=2) rfl Ev52 (by decide)
        clear hez56 az56 cz56
        replace hB:=hB.mono hGz56
        replace Ei:=Ei.mono A0 hGz56
        replace SMk44:=SMk44.mono Bn hGz56
        replace Eb:=Eb.mono A0 hGz56
        replace Eu54:=Eu54.mono Iv hGz56
        rw [hnz56] at Sz56 Eu54
        have M:=M.nilrow 26 4
        change Mem w0 Gz56 (.row (.slice none 0 0) 0 ([]) 26 4::.row (.slice av51 1 (cv51)) 1 ([.int .u64 ((xk44.key:Nat):Int),.int .u8 ((xk44.typ:Nat):Int),.string (str xk44.text),.slice mak44 xk44.marks.length mck44]) 26 4::.blk b45 [.int .u64 ((xk44.key:Nat):Int),.int .u8 ((xk44.typ:Nat):Int),.string (str xk44.text),.slice mak44 xk44.marks.length mck44] 26::.row (.slice ao (xs.length+1) (co)) (xs.length+1) (csu54) 65 5::L) _ at M
        revert a
        refine Ac<|Ae rfl<|Lu rfl rfl<|?_
        have hs57:(((left:Nat):Int) - 1:Int)=((left - 1:Nat):Int):=by omega
        intro a F
        rw [hs57] at F
        revert a
        refine Af rfl<|Aa<|Ad<|B1<|Bx<|Dj<|Ad<|fun a F=>?_
        exact ⟨_,(by have h9_:=Gu (c:=c) hq;omega),(Lib.cut c [(10:UInt8)]).2.1,(left - 1),(line+1),(none),(0),(0),[],(ao),(xs.length+1),(co),csu54,rfl,Gz56,((hG3.trans hGk44).trans hGz56),F.to ⟨rfl,rfl,rfl,rfl,trivial⟩,(M.weaken (.cons_cons _ (.cons _ (.cons _ (.cons_cons _ (sR _)))))),Or.inl ⟨by omega,_,hB.last hcy hyk Sz56 Eu54 (by omega) (by omega)⟩⟩
    ·intro h58b
     have h58:=dF h58b
     intro a F
     omega
open Go Go.Y Go.Proofs
set_option linter.unusedSimpArgs false
set_option linter.unusedVariables false
theorem Yw {w0 w:World} {G:A4} {L:List Res} (M:Mem w0 G L w) (HG:Globs 0 1 2 3 G) {s:List UInt8} (hs:s.length≤9223372036854775807):Calls Tryz.prog 8 #[.string (str s)] w (Ret w0 G L fun G' v=>v=.bool true):=by
 refine Az (vs:=[_]) Tryz.func8 rfl (n:=64) rfl rfl<|Ab<|Ac<|Af rfl<|Aa<|Ad<|Ab<|Ab<|Ac<|Ae rfl<|Ap (fun a F=>Cq Bq.k (F.ev rfl)) rfl<|Dn rfl rfl<|Aa<|Ad<|Av rfl ?_ ?_
 ·intro h1b
  have h1:=dT h1b
  refine Ab<|Ac<|Hq Als rfl rfl (K3 M HG)<|?_;clear M;rintro _ Gq2 w hGq2 M rfl
  replace HG:=HG.mono hGq2
  refine Af rfl<|Aa<|Ad<|Aj<|Aw<|Al rfl rfl<|?_
  exact ⟨_,hGq2,M,rfl⟩
 ·intro h3b
  have h3:=dF h3b
  refine Au<|Ad<|Ab<|Ac<|Ae rfl<|Hq ent35 rfl rfl (Wv (s:=(s)) M (by omega))<|?_;clear M;rintro _ Gq4 w hGq4 M ⟨aq4,cq4,yq4,lq4,eq4,rfl,Sq4,hpq4⟩
  replace HG:=HG.mono hGq4
  refine Ae rfl<|Ch rfl rfl<|Ch rfl rfl<|Ch rfl rfl<|Af rfl<|Af rfl<|Af rfl<|Aa<|Ad<|Ab<|Ac<|Ae rfl<|Hq ent33 rfl rfl (Qp (s:=(s)) M HG (by omega))<|?_;clear M;rintro _ Gq5 w hGq5 M ⟨aq5,yq5,lq5,eq5,rfl,Sq5,hpq5⟩
  replace HG:=HG.mono hGq5
  replace Sq4:=Sq4.mono Bm hGq5
  have hbk:=hpq5.uniq hpq4
  simp only [Prod.mk.injEq] at hbk
  obtain ⟨hbk1,hbk2,hbk3⟩:=hbk
  have hbk1:=hbk1.symm;have hbk2:=hbk2.symm;have hbk3:=hbk3.symm;subst hbk1;subst hbk2;subst hbk3
  refine Ae rfl<|Ch rfl rfl<|Ch rfl rfl<|Ch rfl rfl<|Af rfl<|Af rfl<|Af rfl<|Aa<|Ad<|Ab<|Ab<|Ac<|Ae rfl<|Ae rfl<|D9 rfl rfl<|Ae rfl<|g_t rfl (Ai (decide_eq_true rfl))<|Ae rfl<|g_t rfl (Ai (decide_eq_true rfl))<|Ae rfl<|g_t rfl (Ai (decide_eq_true rfl))<|D9 rfl rfl<|Bh rfl (Ai (decide_eq_true rfl)) rfl<|Ae rfl<|?_
  refine g_t rfl (Ai (decide_eq_true rfl))<|Ae rfl<|g_t rfl (Ai (decide_eq_true rfl))<|Ae rfl<|g_t rfl (Ai (decide_eq_true rfl))<|Br ent34 rfl rfl (R8 (xs:=yq4) (ys:=yq4) M Sq5 Sq4)<|?_;clear M;rintro _ w M rfl
  refine g_t rfl (Ai (decide_eq_true rfl))<|Dc rfl rfl<|Bh rfl (Ai (decide_eq_true rfl)) rfl<|Aa<|Ad<|D2 rfl (decide_eq_false (by rw [if_pos rfl];decide))<|Au<|Ad<|Ab<|Ab<|Ac<|Ae rfl<|D9 rfl rfl<|Aa<|Ad<|Av rfl ?_ ?_
  ·intro h6b
   have h6:=dF (Ag h6b)
   have h6c:(decide (eq4=0))=false:=(Ag h6b)
   refine Ab<|?_
   have hyl:yq4.length=0:=by rw [pf_bad hpq4 (by assumption)];rfl
   refine Ac<|Ae rfl<|Cg E5.k rfl<|Dc rfl rfl<|Ae rfl<|?_
   have hg7:(decide (((yq4.length:Nat):Int)=0))=true:=(decide_eq_true (by (first | omega | rfl | exact if_pos rfl | exact hpt.2 | decide)))
   refine g_t rfl hg7<|Hq Als rfl rfl (K3 M HG)<|?_;clear M;rintro _ Gq8 w hGq8 M rfl
   replace HG:=HG.mono hGq8
   replace Sq4:=Sq4.mono Bm hGq8
   replace Sq5:=Sq5.mono Bm hGq8
   refine Bi rfl hg7 rfl<|Af rfl<|Aa<|Ad<|Aj<|Aw<|Al rfl rfl<|?_
   exact ⟨_,((hGq4.trans hGq5).trans hGq8),M,rfl⟩
  ·intro h9b
   have h9:=dT (Ah h9b)
   have h9c:(decide (eq4=0))=true:=(Ah h9b)
   refine Au<|Ad<|Ab<|?_
   have hpt:=pf_text hpq4 (by omega)
   have hpt1:=hpt.1
   refine Ac<|Ae rfl<|Hq ent32 rfl rfl (Jk (ns:=yq4) M HG Sq5)<|?_;clear M;rintro _ Gq10 w hGq10 M rfl
   replace HG:=HG.mono hGq10
   replace Sq4:=Sq4.mono Bm hGq10
   replace Sq5:=Sq5.mono Bm hGq10
   refine Ae rfl<|Ch rfl rfl<|Ch rfl rfl<|Af rfl<|Af rfl<|Aa<|Ad<|Ab<|Ac<|Ae rfl<|Dc rfl rfl<|Ae rfl<|?_
   have hg11:(decide (F4 yq4=0))=true:=(decide_eq_true (by (first | omega | rfl | exact if_pos rfl | exact hpt.2 | decide)))
   refine g_t rfl hg11<|Ae rfl<|g_t rfl hg11<|Ae rfl<|g_t rfl hg11<|F0 rfl rfl<|Bi rfl hg11 rfl<|Ae rfl<|?_
   have hg12:(decide ((Ic yq4)=s))=true:=(decide_eq_true (by (first | omega | rfl | exact if_pos rfl | exact hpt.2 | decide)))
   refine g_t rfl hg12<|Hq Als rfl rfl (K3 M HG)<|?_;clear M;rintro _ Gq13 w hGq13 M rfl
   replace HG:=HG.mono hGq13
   replace Sq4:=Sq4.mono Bm hGq13
   replace Sq5:=Sq5.mono Bm hGq13
   refine Bi rfl hg12 rfl<|Af rfl<|Aa<|Ad<|Aj<|Al rfl rfl<|?_
   exact ⟨_,(((hGq4.trans hGq5).trans hGq10).trans hGq13),M,rfl⟩
end Go.Proofs.YtmmhmcplegpenaaGreatDoor
