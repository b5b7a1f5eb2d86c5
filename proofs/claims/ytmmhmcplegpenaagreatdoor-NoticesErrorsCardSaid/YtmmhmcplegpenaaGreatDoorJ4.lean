/- The walks, part TE. · The walks, part TH. · The walks, part TI. · The walks, part TJ. · The walks, part TK. -/
import Derived.Test.YtmmhmcplegpenaaGreatDoorJ3
set_option linter.unusedSimpArgs false
set_option linter.unusedVariables false
namespace Go.Proofs.YtmmhmcplegpenaaGreatDoor.T
open Go Go.Y Go.Proofs
variable {w0 w:World} {G:A4} {L:List Res}
structure FEff (w0:World) (ff:FuncId) (caps:List Value) {σ:Type} (Rs:σ→List Res) (stp:σ→PT→σ):Prop where
 ent:Ent Tryz.prog ff
 run:∀ {w:World} {G:A4} {L:List Res} {nb no:Nat} {s:σ} {x:PT} {ta ka:Option Addr} {tc kc:Nat},Mem w0 G (Rs s++L) w→Bb .u8 x.kind→(x.tag.length≤9223372036854775807∧x.key.length≤9223372036854775807∧x.text.length≤9223372036854775807)→Au rdSlot 3 G (.slice ta x.as.length tc) x.as→Au rdP 6 G (.slice ka x.kids.length kc) x.kids→At G nb no [.int .u8 x.kind,.string (str x.tag),.string (str x.key),.slice ta x.as.length tc,.string (str x.text),.slice ka x.kids.length kc]→B2 x →
  Calls Tryz.prog ff (.pointer (some ⟨nb,no,none⟩)::caps).toArray w (Ky w0 G fun L' v=>v=.tuple #[]∧L' = Rs (stp s x)++L)
def WalkP (w0:World) (ff:FuncId) (caps:List Value) {σ:Type} (Rs:σ→List Res) (stp:σ→PT→σ) (x:PT):Prop:=∀ (w:World) (G:A4) (L:List Res) (cb fb eb nb no c lev:Nat) (s:σ) (ta ka:Option Addr) (tc kc:Nat),Mem w0 G (.blk cb [.int .i64 ((c:Nat):Int)] 3::.blk fb [.func (.func ff) #[] caps.toArray] 286::.blk eb [.func (.func 227) #[] #[.pointer (some ⟨cb,0,none⟩),.pointer (some ⟨fb,0,none⟩),.pointer (some ⟨eb,0,none⟩)]] 297::(Rs s++L)) w →
  Bb .u8 x.kind→(x.tag.length≤9223372036854775807∧x.key.length≤9223372036854775807∧x.text.length≤9223372036854775807)→Au rdSlot 3 G (.slice ta x.as.length tc) x.as→Au rdP 6 G (.slice ka x.kids.length kc) x.kids→At G nb no [.int .u8 x.kind,.string (str x.tag),.string (str x.key),.slice ta x.as.length tc,.string (str x.text),.slice ka x.kids.length kc]→c≤64→1≤lev→lev≤7→Calls Tryz.prog 227 #[.pointer (some ⟨nb,no,none⟩),.int .i64 (lev:Int),.pointer (some ⟨cb,0,none⟩),.pointer (some ⟨fb,0,none⟩),.pointer (some ⟨eb,0,none⟩)] w (Ky w0 G fun L' v=>∃ (bb:Bool) (c':Nat) (s':σ),v=.bool bb∧L' = (.blk cb [.int .i64 ((c':Nat):Int)] 3::.blk fb [.func (.func ff) #[] caps.toArray] 286::.blk eb [.func (.func 227) #[] #[.pointer (some ⟨cb,0,none⟩),.pointer (some ⟨fb,0,none⟩),.pointer (some ⟨eb,0,none⟩)]] 297::(Rs s'++L))∧(bb=true↔Tr.Ok B2 (7 - lev) x∧c+x.size≤64)∧(bb=true→c' = c+x.size∧s' = Si stp s x))
theorem tw_step {w0:World} {ff:FuncId} {caps:List Value} {σ:Type} {Rs:σ→List Res} {stp:σ→PT→σ} (hF:FEff w0 ff caps Rs stp) {x:PT} (ih:∀ y∈x.kids,WalkP w0 ff caps Rs stp y) {w:World} {G:A4} {L:List Res} {cb fb eb nb no c lev:Nat} {s:σ} {ta ka:Option Addr} {tc kc:Nat} (M:Mem w0 G (.blk cb [.int .i64 ((c:Nat):Int)] 3::.blk fb [.func (.func ff) #[] caps.toArray] 286::.blk eb [.func (.func 227) #[] #[.pointer (some ⟨cb,0,none⟩),.pointer (some ⟨fb,0,none⟩),.pointer (some ⟨eb,0,none⟩)]] 297::(Rs s++L)) w) (hk:Bb .u8 x.kind) (hl:(x.tag.length≤9223372036854775807∧x.key.length≤9223372036854775807∧x.text.length≤9223372036854775807))
  (SA:Au rdSlot 3 G (.slice ta x.as.length tc) x.as) (SK:Au rdP 6 G (.slice ka x.kids.length kc) x.kids) (A:At G nb no [.int .u8 x.kind,.string (str x.tag),.string (str x.key),.slice ta x.as.length tc,.string (str x.text),.slice ka x.kids.length kc]) (hc:c≤64) (hl1:1≤lev) (hl2:lev≤7) :
  Calls Tryz.prog 227 #[.pointer (some ⟨nb,no,none⟩),.int .i64 (lev:Int),.pointer (some ⟨cb,0,none⟩),.pointer (some ⟨fb,0,none⟩),.pointer (some ⟨eb,0,none⟩)] w (Ky w0 G fun L' v=>∃ (bb:Bool) (c':Nat) (s':σ),v=.bool bb∧L' = (.blk cb [.int .i64 ((c':Nat):Int)] 3::.blk fb [.func (.func ff) #[] caps.toArray] 286::.blk eb [.func (.func 227) #[] #[.pointer (some ⟨cb,0,none⟩),.pointer (some ⟨fb,0,none⟩),.pointer (some ⟨eb,0,none⟩)]] 297::(Rs s'++L))∧(bb=true↔Tr.Ok B2 (7 - lev) x∧c+x.size≤64)∧(bb=true→c' = c+x.size∧s' = Si stp s x)):=by
 refine Ay (vs:=[_,_,_,_,_]) Tryz.func227 rfl (n:=45) rfl rfl<|Ac<|Ab rfl<|Ac<|Bg Cg M 0 rfl rfl rfl rfl<|Bx rfl rfl<|Gd Cg M 0 rfl rfl rfl rfl rfl rfl<|?_;clear M;intro w M
 refine Ag<|Ac<|Aa rfl<|Da rfl rfl<|Aa rfl<|?_
 rcases bE (decide (6 < (lev:Int))) with h1b | h2b
 ·skip
  have h1:=dT h1b;refine g_f rfl h1b<|g_f rfl h1b<|Bh rfl h1b rfl<|Aa rfl<|g_f rfl rfl<|g_f rfl rfl<|g_f rfl rfl<|Bh rfl rfl rfl<|Bl rfl rfl<|Ac<|Ab rfl<|Ae<|Ad rfl rfl<|?_
  replace M:=M.perm (Ao _ 2 _ rfl);replace M:=M.perm (Ao _ 2 _ rfl);replace M:=M.perm (Ao _ 2 _ rfl);change Mem w0 G (.blk cb [.int .i64 (((c:Nat):Int)+1)] 3::_::_::(Rs s++L)) _ at M
  exact ⟨_,M,false,_,_,rfl,rfl,⟨fun h_=>(by cases h_),fun h_=>absurd h_ (K8 (by clear M;grind))⟩,fun h_=>(by cases h_)⟩
 have h2:=dF h2b;refine g_t rfl h2b<|Bg Cg M 0 rfl rfl rfl rfl<|g_t rfl h2b<|Da rfl rfl<|Be rfl h2b rfl<|Aa rfl<|?_
 rcases bE (decide (64 < ((c:Nat):Int)+1)) with h3b | h4b
 ·skip
  have h3:=dT h3b;refine g_f rfl h3b<|g_f rfl h3b<|g_f rfl h3b<|Bh rfl h3b rfl<|Bl rfl rfl<|Ac<|Ab rfl<|Ae<|Ad rfl rfl<|?_
  replace M:=M.perm (Ao _ 2 _ rfl);replace M:=M.perm (Ao _ 2 _ rfl);replace M:=M.perm (Ao _ 2 _ rfl);change Mem w0 G (.blk cb [.int .i64 (((c:Nat):Int)+1)] 3::_::_::(Rs s++L)) _ at M
  exact ⟨_,M,false,_,_,rfl,rfl,⟨fun h_=>(by cases h_),fun h_=>absurd h_ (K8 (by clear M;grind))⟩,fun h_=>(by cases h_)⟩
 have h4:=dF h4b;refine g_t rfl h4b<|Aa rfl<|g_t rfl h4b<|Bs ent228 rfl rfl (Y6 (x:=x) M hk hl SA SK A)<|?_;clear M;rintro _ w M ⟨b5,rfl,hb5⟩
 refine g_t rfl h4b<|Dh rfl<|Be rfl h4b rfl<|Ap rfl ?_ ?_
 ·intro h6b;have h6:=Ah h6b;have h6c:(b5)=false:=(Ah h6b);refine Ac<|Ab rfl<|Ae<|Ad rfl rfl<|?_
  replace M:=M.perm (Ao _ 2 _ rfl);replace M:=M.perm (Ao _ 2 _ rfl);replace M:=M.perm (Ao _ 2 _ rfl);change Mem w0 G (.blk cb [.int .i64 (((c:Nat):Int)+1)] 3::_::_::(Rs s++L)) _ at M
  exact ⟨_,M,false,_,_,rfl,rfl,⟨fun h_=>(by cases h_),fun h_=>absurd h_ (K8 (by clear M;grind))⟩,fun h_=>(by cases h_)⟩
 intro h7b;have h7:=Ai h7b;have h7c:(b5)=true:=(Ai h7b);refine Aq<|Ag<|?_
 have hAl:B2 x:=by clear M;grind
 have hl6:lev≤6:=by omega
 have hkl:=Ox hAl;refine Az<|Bg tok286 M 1 rfl rfl rfl rfl<|Aa rfl<|?_
 replace M:=M.perm (Ao _ 2 _ rfl);replace M:=M.perm (Ao _ 2 _ rfl);replace M:=M.perm (Ao _ 2 _ rfl);change Mem w0 G (.blk cb [.int .i64 (((c:Nat):Int)+1)] 3::_::_::(Rs s++L)) _ at M;replace M:=M.perm (Vz _ _);intro a F;refine Qd F hF.ent (caps:=caps) rfl rfl rfl (hF.run (s:=s) (x:=x) M hk hl SA SK A hAl) ?_;clear F M a;rintro _ _ w a M ⟨rfl,rfl⟩ F;replace M:=M.perm (Vz _ _).symm;revert a;refine Ag<|Ac<|Aa rfl<|Fi rfl<|A0 Bn.k rfl rfl<|Dq C7 M A 5 rfl rfl rfl rfl<|B8 C7.k rfl<|Aa rfl<|Ax<|fun a F=>Bz (fun m a' w'=>∃ (i:Nat),∃ (ci:Nat),∃ (si:σ),m=x.kids.length - i∧Fits 45 a' [(0,.pointer (some ⟨nb,no,none⟩)),(1,.int .i64 ((lev:Int))),(2,.pointer (some ⟨cb,0,none⟩)),(3,.pointer (some ⟨fb,0,none⟩)),(4,.pointer (some ⟨eb,0,none⟩)),(28,.slice ka x.kids.length kc),(29,.int .i64 ((x.kids.length:Nat):Int)),(30,.int .i64 ((i:Nat):Int))]∧Mem w0 G (.blk cb [.int .i64 ((ci:Nat):Int)] 3::.blk fb [.func (.func ff) #[] caps.toArray] 286::.blk eb [.func (.func 227) #[] #[.pointer (some ⟨cb,0,none⟩),.pointer (some ⟨fb,0,none⟩),.pointer (some ⟨eb,0,none⟩)]] 297::(Rs si++L)) w'∧(i≤x.kids.length)∧(ci=c+1+Tr.sizes (x.kids.take i)∧ci≤64)∧(si=Im stp (stp s x) (x.kids.take i))∧(∀ (m:Nat) (y:PT),m < i→x.kids[m]?=some y→Tr.Ok B2 (7 - (lev+1)) y)) _ ⟨0,c+1,(stp s x),rfl,F.to ⟨rfl,rfl,rfl,rfl,rfl,rfl,rfl,rfl,trivial⟩,M,Nat.zero_le _,⟨by simp [Tr.sizes],by omega⟩,by simp [Im],fun m y h=>by omega⟩ ?_
 clear F M;rintro m a w ⟨i,ci,si,rfl,F,M,hi,hci,hsi,hO⟩;revert a;refine Ac<|C2 rfl rfl<|Ag<|Ap rfl ?_ ?_
 ·intro h8b;have h8:=dT h8b;refine Aq<|Ag<|Ax<|Ac<|Aa rfl<|Ab rfl<|Ag<|fun a F=>Fg [(.pure,0),(.free,1),(.free,2),(.free,3),(.pure,4),(.free,5),(.free,6),(.free,7),(.free,8),(.keep,9),(.free,10)] [] (Keep G [.blk eb [.func (.func 227) #[] #[.pointer (some ⟨cb,0,none⟩),.pointer (some ⟨fb,0,none⟩),.pointer (some ⟨eb,0,none⟩)]] 297]) rfl (by kernel_rfl) (fun c a d v w h=>by cases d <;> exact h) (Bo (M.drew _)) ?_
  replace M:=M.drew (w.drawn+1);revert a;refine k_p (fun a F w M=>Al (agf Xg rfl) (F.ev rfl) (M.cellL (k:=0) rfl rfl)) rfl<|k_f (fun a F w _=>B1 F rfl) rfl<|k_f (fun a F w _=>Ea (F.ev rfl)) rfl<|k_f (fun a F w _=>Ce Bn.k rfl F rfl) rfl<|k_p (fun a F w M=>Al (agf C7 rfl) (F.ev rfl) (M.cellA A 5 rfl rfl)) rfl<|k_f (fun a F w _=>B1 F rfl) rfl<|?_
  obtain ⟨Xe9,hXe9⟩:=A2 (xs:=x.kids) (i:=i) (by omega);obtain ⟨be9,oe9,_,Ie9,_,Ae9,hTe9⟩:=SK.at hXe9;obtain ⟨tae9,tce9,kae9,kce9,rfl,hke9,hle9,SAe9,SKe9⟩:=Di hTe9;refine k_f (fun a F w _=>Bt C7.k Bn (F.ev rfl) (F.ev rfl) (by omega) Ie9) rfl<|k_f (fun a F w _=>B1 F rfl) rfl<|k_f (fun a F w _=>Gf (F.ev rfl) (F.ev rfl) (C0 (by omega) (by omega))) rfl<|k_k rfl<|?_
  replace M:=M.perm (Ao _ 2 _ rfl);replace M:=M.perm (Ao _ 2 _ rfl);replace M:=M.perm (Ao _ 2 _ rfl);change Mem w0 G (_::_::_::(Rs si++L)) _ at M;refine s_vL Aoa (caps:=[.pointer (some ⟨cb,0,none⟩),.pointer (some ⟨fb,0,none⟩),.pointer (some ⟨eb,0,none⟩)]) rfl rfl rfl (ih Xe9 (List.mem_of_getElem? hXe9) _ _ L _ _ _ _ _ ci (lev+1) si _ _ _ _ M hke9 hle9 SAe9 SKe9 Ae9 (by omega) (by omega) (by omega))<|?_;clear M;rintro _ _ w M ⟨b10,cb10,sb10,rfl,rfl,hb10,eb10⟩
  refine eQ (Bo M)<|k_f (fun a F w _=>Gl (F.ev rfl)) rfl<|De<|Ap rfl ?_ ?_
  ·intro h11b;have h11:=Ah h11b;have h11c:(b10)=false:=(Ah h11b);refine Ac<|Ab rfl<|Ae<|Ad rfl rfl<|?_
   replace M:=M.perm (Ao _ 2 _ rfl);replace M:=M.perm (Ao _ 2 _ rfl);replace M:=M.perm (Ao _ 2 _ rfl);change Mem w0 G (_::_::_::(Rs sb10++L)) _ at M
   exact ⟨_,M,false,_,_,rfl,rfl,⟨fun h_=>(by cases h_),fun h_=>absurd h_ (Rh hXe9 hl6 (by rw [← hci.1];exact fun h_=>by have h9:=hb10.2 h_;simp_all))⟩,fun h_=>(by cases h_)⟩
  intro h12b;have h12:=Ai h12b;have h12c:(b10)=true:=(Ai h12b);refine Aq<|Az<|Bx rfl rfl<|Aa rfl<|Bc<|Cm<|?_
  have hq:=hb10.1 (by assumption);obtain ⟨hc2,hd2⟩:=eb10 (by assumption);have hs2:=Tr.sizes_snoc hXe9;intro a F
  exact ⟨_,by omega,i+1,cb10,sb10,rfl,F.to ⟨rfl,rfl,rfl,rfl,rfl,rfl,rfl,rfl,trivial⟩,M,by omega,by omega,by rw [Y1 stp hXe9,← hsi];exact hd2,X6 hO hXe9 hq.1⟩
 intro h13b;have h13:=dF h13b;refine B5<|Bw<|Bw<|Dj<|Ac<|Ab rfl<|Ae<|Ad rfl rfl<|?_
 replace M:=M.perm (Ao _ 2 _ rfl);replace M:=M.perm (Ao _ 2 _ rfl);replace M:=M.perm (Ao _ 2 _ rfl);change Mem w0 G (_::_::_::(Rs si++L)) _ at M;have hf:=Lf (x:=x) (i:=i) (by omega);rw [List.take_of_length_le (by omega)] at hsi
 exact ⟨_,M,true,_,_,rfl,rfl,⟨fun _=>⟨Aad hl6 hAl (by omega) hO,by omega⟩,fun _=>rfl⟩,fun _=>⟨by omega,by rw [Akc];exact hsi⟩⟩
theorem tw_all {w0:World} {ff:FuncId} {caps:List Value} {σ:Type} {Rs:σ→List Res} {stp:σ→PT→σ} (hF:FEff w0 ff caps Rs stp) (x:PT):WalkP w0 ff caps Rs stp x:=by
 induction x using Tr.ind with
 | _ x ih=>intro w G L cb fb eb nb no c lev s ta ka tc kc M hk hl SA SK A hc hl1 hl2;exact tw_step hF ih M hk hl SA SK A hc hl1 hl2
theorem Abt {w0:World} {ff:FuncId} {caps:List Value} {σ:Type} {Rs:σ→List Res} {stp:σ→PT→σ} (hF:FEff w0 ff caps Rs stp) {x:PT} {w:World} {G:A4} {L:List Res} {nb no:Nat} {s:σ} {ta ka:Option Addr} {tc kc:Nat} (M:Mem w0 G (Rs s++L) w) (hk:Bb .u8 x.kind) (hl:(x.tag.length≤9223372036854775807∧x.key.length≤9223372036854775807∧x.text.length≤9223372036854775807))
  (SA:Au rdSlot 3 G (.slice ta x.as.length tc) x.as) (SK:Au rdP 6 G (.slice ka x.kids.length kc) x.kids) (A:At G nb no [.int .u8 x.kind,.string (str x.tag),.string (str x.key),.slice ta x.as.length tc,.string (str x.text),.slice ka x.kids.length kc]) :
  Calls Tryz.prog 212 #[.pointer (some ⟨nb,no,none⟩),.func (.func ff) #[] caps.toArray] w (Ky w0 G fun L' v=>∃ (k:Nat) (s':σ),v=.int .i64 (k:Int)∧L' = (Rs s'++L)∧k=cntP x∧(ValidP x→s' = Si stp s x)):=by
 refine Ay (vs:=[_,_]) Tryz.func212 rfl (n:=18) rfl rfl<|Ac<|Cz M rfl rfl rfl<|?_;clear M;intro b1 w M
 refine Ab rfl<|Ag<|Ac<|Aa rfl<|Fi rfl<|A0 Bn.k rfl rfl<|Dq Fa M A 0 rfl rfl rfl rfl<|Fh rfl rfl<|Ap rfl ?_ ?_
 ·intro h2b;have h2:=dF (Ah h2b);have h2c:(decide (x.kind=1))=false:=(Ah h2b);refine Ac<|Ab rfl<|Ae<|Ad rfl rfl<|?_
  have hV:¬ ValidP x:=fun h_=>by have:=h_.1;omega
  exact ⟨_,M.weaken dS1,0,s,rfl,rfl,(Yr hV).symm,fun h_=>absurd h_ hV⟩
 intro h3b;have h3:=dT (Ai h3b);have h3c:(decide (x.kind=1))=true:=(Ai h3b);refine Aq<|Ac<|C9 M Cg rfl rfl<|?_;clear M;intro b4 w M
 refine Gd Cg M 0 rfl rfl rfl rfl rfl rfl<|?_;clear M;intro w M
 refine Ac<|C9 M Xg rfl rfl<|?_;clear M;intro b6 w M
 refine Ac<|Ar (fun a F=>Ds (vs:=#[.pointer (some ⟨b4,0,none⟩),.pointer (some ⟨b1,0,none⟩),.pointer (some ⟨b6,0,none⟩)]) (by simp only [List.map_toArray,List.map_cons,List.map_nil,F.ev (x:=.tmp 5) rfl,F.ev (x:=.tmp 3) rfl,F.ev (x:=.tmp 6) rfl])) rfl<|Gd Xg M 0 rfl rfl rfl rfl rfl rfl<|?_;clear M;intro w M
 refine Ag<|Ac<|Bg Xg M 0 rfl rfl rfl rfl<|Aa rfl<|?_
 replace M:=M.perm (Ao _ 2 _ rfl);replace M:=M.perm (Ao _ 2 _ rfl);change Mem w0 G (.blk b4 [.int .i64 0] 3::_::.blk b6 [.func (.func 227) #[] #[.pointer (some ⟨b4,0,none⟩),.pointer (some ⟨b1,0,none⟩),.pointer (some ⟨b6,0,none⟩)]] 297::(Rs s++L)) _ at M;refine s_vL Aoa (caps:=[.pointer (some ⟨b4,0,none⟩),.pointer (some ⟨b1,0,none⟩),.pointer (some ⟨b6,0,none⟩)]) rfl rfl rfl (tw_all hF x _ _ L _ _ _ _ _ 0 1 s _ _ _ _ M hk hl SA SK A (by omega) (by omega) (by omega))<|?_;clear M;rintro _ _ w M ⟨b8,cb8,sb8,rfl,rfl,hb8,eb8⟩
 refine Dh rfl<|Ap rfl ?_ ?_
 ·intro h9b;have h9:=Ah h9b;have h9c:(b8)=false:=(Ah h9b);refine Ac<|Ab rfl<|Ae<|Ad rfl rfl<|?_
  have hV:¬ ValidP x:=fun h_=>by have h9:=hb8.2 ⟨h_.2.1,by have:=h_.2.2;omega⟩;simp_all
  exact ⟨_,M.weaken dS3,0,_,rfl,rfl,(Yr hV).symm,fun h_=>absurd h_ hV⟩
 intro h10b;have h10:=Ai h10b;have h10c:(b8)=true:=(Ai h10b);refine Aq<|Ac<|Bg Cg M 0 rfl rfl rfl rfl<|Ab rfl<|Ae<|Ad rfl rfl<|?_
 have hq:=hb8.1 (by assumption);have hV:ValidP x:=⟨by omega,hq.1,by omega⟩;obtain ⟨hc2,hd2⟩:=eb8 (by assumption)
 exact ⟨_,M.weaken dS3,_,_,rfl,rfl,by rw [Abf hV];omega,fun _=>hd2⟩
theorem Acg (M:Mem w0 G L w) {v:Value}:Calls Tryz.prog 213 #[v] w (Ky w0 G fun L' v=>v=.tuple #[]∧L' = L):=by
 refine Ay (vs:=[_]) Tryz.func213 rfl (n:=2) rfl rfl<|Aq<|fun a F=>Amo F rfl ?_
 exact ⟨_,M,rfl,rfl⟩
theorem Adw {w0:World}:FEff w0 213 [] (fun _:Unit=>[]) (fun _ _=>()):=⟨ent213,fun M _ _ _ _ _ _=>Acg M⟩
theorem Acf (M:Mem w0 G L w) {x:PT} {ta:Option Addr} {tc:Nat} {ka:Option Addr} {kc:Nat} (hk:Bb .u8 x.kind) (hl:(x.tag.length≤9223372036854775807∧x.key.length≤9223372036854775807∧x.text.length≤9223372036854775807)) (SA:Au rdSlot 3 G (.slice ta x.as.length tc) x.as) (SK:Au rdP 6 G (.slice ka x.kids.length kc) x.kids):Calls Tryz.prog 189 #[.agg #[.int .u8 x.kind,.string (str x.tag),.string (str x.key),.slice ta x.as.length tc,.string (str x.text),.slice ka x.kids.length kc]] w (Ret w0 G L fun _ v=>v=.int .i64 ((cntP x:Nat):Int)):=by
 refine Ay (vs:=[_]) Tryz.func189 rfl (n:=4) rfl rfl<|Ac<|Cz M rfl rfl rfl<|?_;clear M;intro b1 w M
 refine Ab rfl<|Ag<|?_
 obtain ⟨Gq2,hGq2,hbq2,M⟩:=M.freeze (k:=0) rfl;have Aq2:At Gq2 b1 0 [.int .u8 x.kind,.string (str x.tag),.string (str x.key),.slice ta x.as.length tc,.string (str x.text),.slice ka x.kids.length kc]:=At.of_cells hbq2;clear hbq2;replace SA:=SA.mono mono_rdSlot hGq2;replace SK:=SK.mono mono_rdP hGq2;change Mem w0 Gq2 (L) _ at M;refine Az<|?_
 change Mem w0 Gq2 (L) _ at M;refine P6 ent212 rfl rfl (Abt Adw (x:=x) (s:=()) (L:=L) M hk hl SA SK Aq2)<|?_;clear M;rintro _ _ w M ⟨k3,sk3,rfl,hLk3,hk3,ek3⟩
 intro a F;rw [hLk3] at M;clear hLk3;replace M:Mem w0 Gq2 (L) _:=M;revert a;refine Ab rfl<|Ae<|Ad rfl rfl<|?_
 exact ⟨_,hGq2,M.weaken (sR _),by rw [hk3]⟩
theorem Y5 (M:Mem w0 G L w) {x:PT} {ta:Option Addr} {tc:Nat} {ka:Option Addr} {kc:Nat} (hk:Bb .u8 x.kind) (hl:(x.tag.length≤9223372036854775807∧x.key.length≤9223372036854775807∧x.text.length≤9223372036854775807)) (SA:Au rdSlot 3 G (.slice ta x.as.length tc) x.as) (SK:Au rdP 6 G (.slice ka x.kids.length kc) x.kids):Calls Tryz.prog 189 #[.agg #[.int .u8 x.kind,.string (str x.tag),.string (str x.key),.slice ta x.as.length tc,.string (str x.text),.slice ka x.kids.length kc]] w (Cs w0 G L fun v=>v=.int .i64 ((cntP x:Nat):Int)):=Ret.plain M (Acf M hk hl SA SK)
theorem tcheck_spec (M:Mem w0 G L w) {x:PT} {ta:Option Addr} {tc:Nat} {ka:Option Addr} {kc:Nat} (hk:Bb .u8 x.kind) (hl:(x.tag.length≤9223372036854775807∧x.key.length≤9223372036854775807∧x.text.length≤9223372036854775807)) (SA:Au rdSlot 3 G (.slice ta x.as.length tc) x.as) (SK:Au rdP 6 G (.slice ka x.kids.length kc) x.kids):Calls Tryz.prog 155 #[.agg #[.int .u8 x.kind,.string (str x.tag),.string (str x.key),.slice ta x.as.length tc,.string (str x.text),.slice ka x.kids.length kc]] w (Cs w0 G L fun v=>v=.int .i64 (chkP x)):=by
 refine Ay (vs:=[_]) Tryz.func155 rfl (n:=6) rfl rfl<|Ac<|Cz M rfl rfl rfl<|?_;clear M;intro b1 w M
 refine Ab rfl<|Ag<|Ac<|Ar (fun a F=>Af Bn rfl (F.ev rfl) (cs:=[.int .u8 x.kind,.string (str x.tag),.string (str x.key),.slice ta x.as.length tc,.string (str x.text),.slice ka x.kids.length kc]) rfl (M.cellsL (k:=0) rfl rfl)) rfl<|Bs ent189 rfl rfl (Y5 (x:=x) M hk hl SA SK)<|?_;clear M;rintro _ w M rfl
 refine C3 rfl rfl<|Ap rfl ?_ ?_
 ·intro h2b;have h2:=dT h2b;refine Ac<|Ab rfl<|Ae<|Ad rfl rfl<|?_
  exact ⟨M.weaken dS1,by rw [Se fun h_=>by have:=Pv.2 h_;omega]⟩
 intro h3b;have h3:=dF h3b;refine Aq<|Ac<|Ab rfl<|Ae<|Ad rfl rfl<|?_
 exact ⟨M.weaken dS1,by rw [Abh (Pv.1 (by omega))]⟩
def Aps (x:PT):Prop:=∀ (w0 w:World) (G:A4) (L:List Res) (ta ka:Option Addr) (tc kc lev:Nat),Mem w0 G L w→Bb .u8 x.kind→(x.tag.length≤9223372036854775807∧x.key.length≤9223372036854775807∧x.text.length≤9223372036854775807)→Au rdSlot 3 G (.slice ta x.as.length tc) x.as→Au rdP 6 G (.slice ka x.kids.length kc) x.kids→lev≤8 →
  Calls Tryz.prog 194 #[.agg #[.int .u8 x.kind,.string (str x.tag),.string (str x.key),.slice ta x.as.length tc,.string (str x.text),.slice ka x.kids.length kc],.int .i64 (lev:Int)] w (Cs w0 G L fun v=>∃ r:Nat,v=.int .i64 (r:Int)∧Cnt B2 x lev r)
theorem Acv {x:PT} (ih:∀ y∈x.kids,Aps y) {w0 w:World} {G:A4} {L:List Res} (M:Mem w0 G L w) {ta:Option Addr} {tc:Nat} {ka:Option Addr} {kc:Nat} (hk:Bb .u8 x.kind) (hl:(x.tag.length≤9223372036854775807∧x.key.length≤9223372036854775807∧x.text.length≤9223372036854775807)) (SA:Au rdSlot 3 G (.slice ta x.as.length tc) x.as) (SK:Au rdP 6 G (.slice ka x.kids.length kc) x.kids) {lev:Nat} (hlev:lev≤8):Calls Tryz.prog 194 #[.agg #[.int .u8 x.kind,.string (str x.tag),.string (str x.key),.slice ta x.as.length tc,.string (str x.text),.slice ka x.kids.length kc],.int .i64 (lev:Int)] w (Cs w0 G L fun v=>∃ r:Nat,v=.int .i64 (r:Int)∧Cnt B2 x lev r):=by
 refine Ay (vs:=[_,_]) Tryz.func194 rfl (n:=36) rfl rfl<|Ac<|Cz M rfl rfl rfl<|?_;clear M;intro b1 w M
 refine Ab rfl<|Ag<|Ac<|Aa rfl<|C2 rfl rfl<|Aa rfl<|?_
 rcases bE (decide ((lev:Int) < 1)) with h2b | h3b
 ·skip
  have h2:=dT h2b;refine g_f rfl h2b<|g_f rfl h2b<|g_f rfl h2b<|Bh rfl h2b rfl<|Bl rfl rfl<|Ac<|Ab rfl<|Ae<|Ad rfl rfl<|?_
  exact ⟨M.weaken dS1,1000,rfl,Cnt.bad (by clear M;grind)⟩
 have h3:=dF h3b;refine g_t rfl h3b<|Ar (fun a F=>Af Bn rfl (F.ev rfl) (cs:=[.int .u8 x.kind,.string (str x.tag),.string (str x.key),.slice ta x.as.length tc,.string (str x.text),.slice ka x.kids.length kc]) rfl (M.cellsL (k:=0) rfl rfl)) rfl<|g_t rfl h3b<|Bs ent221 rfl rfl (Acu (x:=x) M hk hl SA SK)<|?_;clear M;rintro _ w M ⟨b4,rfl,hb4⟩
 refine g_t rfl h3b<|Dh rfl<|Be rfl h3b rfl<|Ap rfl ?_ ?_
 ·intro h5b;have h5:=Ah h5b;have h5c:(b4)=false:=(Ah h5b);refine Ac<|Ab rfl<|Ae<|Ad rfl rfl<|?_
  exact ⟨M.weaken dS1,1000,rfl,Cnt.bad (by clear M;grind)⟩
 intro h6b;have h6:=Ai h6b;have h6c:(b4)=true:=(Ai h6b);refine Aq<|Ag<|?_
 have hAl:B2 x:=by clear M;grind
 have hl1:1≤lev:=by omega
 have hkl:=Ox hAl;refine Az<|Ab rfl<|Ag<|Ac<|Ab rfl<|Ax<|fun a F=>Bz (fun m a' w'=>∃ (i:Nat),∃ (c:Nat),m=x.kids.length - i∧Fits 36 a' [(1,.int .i64 ((lev:Int))),(2,.pointer (some ⟨b1,0,none⟩)),(5,.int .i64 ((c:Nat):Int)),(6,.int .i64 ((i:Nat):Int))]∧Mem w0 G (.blk b1 [.int .u8 x.kind,.string (str x.tag),.string (str x.key),.slice ta x.as.length tc,.string (str x.text),.slice ka x.kids.length kc] 79::L) w'∧(i≤x.kids.length)∧(CntL B2 x lev i c)) _ ⟨0,1,rfl,F.to ⟨rfl,rfl,rfl,rfl,trivial⟩,M,Nat.zero_le _,CntL.zero _ _⟩ ?_
 clear F M;rintro m a w ⟨i,c,rfl,F,M,hi,hL⟩;revert a;refine Ag<|Ag<|?_
 have hchi:=hL.hi;refine Az<|Aa rfl<|A0 Bn.k rfl rfl<|Bg C7 M 0 rfl rfl rfl rfl<|B8 C7.k rfl<|C2 rfl rfl<|Aa rfl<|?_
 rcases bE (decide (((i:Nat):Int) < ((x.kids.length:Nat):Int))) with h7b | h13b
 ·skip
  have h7:=dT h7b;refine g_t rfl h7b<|Aa rfl<|g_t rfl h7b<|Jk rfl rfl<|Bh rfl h7b rfl<|Ap rfl ?_ ?_
  ·intro h8b;have h8:=dT h8b;refine Aq<|Ag<|Ax<|Az<|Aa rfl<|A0 Bn.k rfl rfl<|Bg C7 M 0 rfl rfl rfl rfl<|Aa rfl<|?_
   obtain ⟨Xe9,hXe9⟩:=A2 (xs:=x.kids) (i:=i) (by omega);obtain ⟨be9,oe9,_,Ie9,_,Ae9,hTe9⟩:=SK.at hXe9;obtain ⟨tae9,tce9,kae9,kce9,rfl,hke9,hle9,SAe9,SKe9⟩:=Di hTe9;refine D0 C7.k Bn Ie9 rfl rfl<|Ar (fun a F=>Af Bn rfl (F.ev rfl) (cs:=[.int .u8 Xe9.kind,.string (str Xe9.tag),.string (str Xe9.key),.slice tae9 Xe9.as.length tce9,.string (str Xe9.text),.slice kae9 Xe9.kids.length kce9]) rfl (M.cellsA Ae9 0 (by omega) rfl)) rfl<|Aa rfl<|Q4 rfl rfl<|?_
   have hs10:((lev:Int) - 1:Int)=((lev - 1:Nat):Int):=by omega
   intro a F;rw [hs10] at F;revert a;refine Bs Aoc rfl rfl (ih Xe9 (List.mem_of_getElem? hXe9) _ _ _ _ _ _ _ _ (lev - 1) M hke9 hle9 SAe9 SKe9 (by omega))<|?_;clear M;rintro _ w M ⟨r11,rfl,hr11⟩
   have hir11:=hr11.hi;have lor11:=hr11.lo;refine Bx rfl rfl<|Ab rfl<|Az<|Aa rfl<|Bx rfl rfl<|Ab rfl<|Bc<|Cm<|fun a F=>?_
   exact ⟨_,by omega,i+1,c+r11,rfl,F.to ⟨rfl,rfl,rfl,rfl,trivial⟩,M,by omega,hL.step (by omega) (by omega) hXe9 hr11⟩
  intro h12b;have h12:=dF h12b;refine B5<|Bw<|Bw<|Dj<|Ac<|Aa rfl<|Ab rfl<|Ae<|Ad rfl rfl<|?_
  exact ⟨M.weaken dS1,c,rfl,hL.done (by omega) hAl (by omega)⟩
 have h13:=dF h13b;refine g_f rfl h13b<|g_f rfl h13b<|Be rfl h13b rfl<|D4 rfl rfl<|B5<|Bw<|Bw<|Dj<|Ac<|Aa rfl<|Ab rfl<|Ae<|Ad rfl rfl<|?_
 exact ⟨M.weaken dS1,c,rfl,hL.done (by omega) hAl (by omega)⟩
theorem Ahl (x:PT):Aps x:=by
 induction x using Tr.ind with
 | _ x ih=>intro w0 w G L ta ka tc kc lev M hk hl SA SK hlev;exact Acv ih M hk hl SA SK hlev
theorem Xs (M:Mem w0 G L w) {x:PT} {ta:Option Addr} {tc:Nat} {ka:Option Addr} {kc:Nat} (hk:Bb .u8 x.kind) (hl:(x.tag.length≤9223372036854775807∧x.key.length≤9223372036854775807∧x.text.length≤9223372036854775807)) (SA:Au rdSlot 3 G (.slice ta x.as.length tc) x.as) (SK:Au rdP 6 G (.slice ka x.kids.length kc) x.kids):Calls Tryz.prog 165 #[.agg #[.int .u8 x.kind,.string (str x.tag),.string (str x.key),.slice ta x.as.length tc,.string (str x.text),.slice ka x.kids.length kc]] w (Cs w0 G L fun v=>v=.int .i64 ((cntP x:Nat):Int)):=by
 refine Ay (vs:=[_]) Tryz.func165 rfl (n:=14) rfl rfl<|Ac<|Cz M rfl rfl rfl<|?_;clear M;intro b1 w M
 refine Ab rfl<|Ac<|Ar (fun a F=>Af Bn rfl (F.ev rfl) (cs:=[.int .u8 x.kind,.string (str x.tag),.string (str x.key),.slice ta x.as.length tc,.string (str x.text),.slice ka x.kids.length kc]) rfl (M.cellsL (k:=0) rfl rfl)) rfl<|Bs Aoc rfl rfl (Ahl x _ _ _ _ _ _ _ _ 6 M hk hl SA SK (by omega))<|?_;clear M;rintro _ w M ⟨r2,rfl,hr2⟩
 have hir2:=hr2.hi;have lor2:=hr2.lo;refine Ab rfl<|Ag<|Ac<|A0 Bn.k rfl rfl<|Bg Fa M 0 rfl rfl rfl rfl<|Fh rfl rfl<|Aa rfl<|?_
 rcases bE (!(decide (x.kind=1))) with h3b | h4b
 ·skip
  have h3:=dF (Ah h3b);have h3c:(decide (x.kind=1))=false:=(Ah h3b);refine g_f rfl (Ak h3c)<|g_f rfl (Ak h3c)<|Bh rfl (Ak h3c) rfl<|Bl rfl rfl<|Ac<|Ab rfl<|Ae<|Ad rfl rfl<|?_
  exact ⟨M.weaken dS1,by rw [hr2.cntP.1 (by omega)];rfl⟩
 have h4:=dT (Ai h4b);have h4c:(decide (x.kind=1))=true:=(Ai h4b);refine g_t rfl (Aj h4c)<|Aa rfl<|g_t rfl (Aj h4c)<|Da rfl rfl<|Be rfl (Aj h4c) rfl<|Ap rfl ?_ ?_
 ·intro h5b;have h5:=dT h5b;refine Ac<|Ab rfl<|Ae<|Ad rfl rfl<|?_
  exact ⟨M.weaken dS1,by rw [hr2.cntP.1 (by omega)];rfl⟩
 intro h6b;have h6:=dF h6b;refine Aq<|Ac<|Aa rfl<|Ab rfl<|Ae<|Ad rfl rfl<|?_
 exact ⟨M.weaken dS1,by rw [hr2.cntP.2 (by omega) (by omega)]⟩
theorem rpcheck_spec (M:Mem w0 G L w) {x:PT} {ta:Option Addr} {tc:Nat} {ka:Option Addr} {kc:Nat} (hk:Bb .u8 x.kind) (hl:(x.tag.length≤9223372036854775807∧x.key.length≤9223372036854775807∧x.text.length≤9223372036854775807)) (SA:Au rdSlot 3 G (.slice ta x.as.length tc) x.as) (SK:Au rdP 6 G (.slice ka x.kids.length kc) x.kids):Calls Tryz.prog 130 #[.agg #[.int .u8 x.kind,.string (str x.tag),.string (str x.key),.slice ta x.as.length tc,.string (str x.text),.slice ka x.kids.length kc]] w (Cs w0 G L fun v=>v=.int .i64 (chkP x)):=by
 refine Ay (vs:=[_]) Tryz.func130 rfl (n:=6) rfl rfl<|Ac<|Cz M rfl rfl rfl<|?_;clear M;intro b1 w M
 refine Ab rfl<|Ag<|Ac<|Ar (fun a F=>Af Bn rfl (F.ev rfl) (cs:=[.int .u8 x.kind,.string (str x.tag),.string (str x.key),.slice ta x.as.length tc,.string (str x.text),.slice ka x.kids.length kc]) rfl (M.cellsL (k:=0) rfl rfl)) rfl<|Bs ent165 rfl rfl (Xs (x:=x) M hk hl SA SK)<|?_;clear M;rintro _ w M rfl
 refine C3 rfl rfl<|Ap rfl ?_ ?_
 ·intro h2b;have h2:=dT h2b;refine Ac<|Ab rfl<|Ae<|Ad rfl rfl<|?_
  exact ⟨M.weaken dS1,by rw [Se fun h_=>by have:=Pv.2 h_;omega]⟩
 intro h3b;have h3:=dF h3b;refine Aq<|Ac<|Ab rfl<|Ae<|Ad rfl rfl<|?_
 exact ⟨M.weaken dS1,by rw [Abh (Pv.1 (by omega))]⟩
theorem Apg (M:Mem w0 G L w) {s:List UInt8} (hs:s.length≤9223372036854775807):Calls Tryz.prog 215 #[.string (str s)] w (Cs w0 G L fun v=>∃ b:Bool,v=.bool b∧(b=true↔¬ Dk s)):=by
 refine Ay (vs:=[_]) Tryz.func215 rfl (n:=6) rfl rfl<|Ac<|Ab rfl<|Ac<|Aa rfl<|Bs Qp rfl rfl (H3 (s:=s) M (by assumption))<|?_;clear M;rintro _ w M ⟨b1,rfl,hb1⟩
 refine Dh rfl<|Ab rfl<|Ae<|Ad rfl rfl<|?_
 exact ⟨M,(!(b1)),rfl,(by clear M;grind)⟩
theorem Ql (M:Mem w0 G L w) {ad:Option Addr} {cd:Nat} {xs:List (List UInt8)} (S:Au D3 1 G (.slice ad xs.length cd) xs):Calls Tryz.prog 104 #[.slice ad xs.length cd,.func (.func 215) #[] #[]] w (Cs w0 G L fun v=>∃ z:Int,v=.int .i64 z∧(0≤z↔¬ ∀ s∈xs,Dk s)):=by
 have bS:=S.bound;refine Ay (vs:=[_,_]) Tryz.func104 rfl (n:=19) rfl rfl<|Ac<|Ab rfl<|Ag<|Ac<|Aa rfl<|B8 Cw.k rfl<|Aa rfl<|Ax<|fun a F=>Bz (fun m a' w'=>∃ (i:Nat),m=xs.length - i∧Fits 19 a' [(0,.slice ad xs.length cd),(1,.func (.func 215) #[] #[]),(7,.int .i64 ((xs.length:Nat):Int)),(8,.int .i64 ((i:Nat):Int))]∧Mem w0 G (L) w'∧(i≤xs.length)∧(∀ (m:Nat) (s:List UInt8),m < i→xs[m]?=some s→Dk s)) _ ⟨0,rfl,F.to ⟨rfl,rfl,rfl,rfl,trivial⟩,M,Nat.zero_le _,fun m d h=>by omega⟩ ?_
 clear F M;rintro m a w ⟨i,rfl,F,M,hi,hA⟩;revert a;refine Ac<|C2 rfl rfl<|Ag<|Ap rfl ?_ ?_
 ·intro h1b;have h1:=dT h1b;refine Aq<|Ag<|Ax<|Ac<|Aa rfl<|Ab rfl<|Ac<|Aa rfl<|Aa rfl<|Aa rfl<|?_
  obtain ⟨Xe2,hXe2⟩:=A2 (xs:=xs) (i:=i) (by omega);obtain ⟨be2,oe2,_,Ie2,_,Ae2,⟨rfl,hsle2⟩⟩:=S.at hXe2;refine D0 Cw.k Bq Ie2 rfl rfl<|Dq Bq M Ae2 0 rfl rfl (by omega) rfl<|Acm ent215 (caps:=[]) rfl rfl rfl (Apg (s:=Xe2) M (by omega))<|?_;clear M;rintro _ w M ⟨b3,rfl,hb3⟩
  refine Ap rfl ?_ ?_
  ·intro h4b;have h4:(b3)=true:=h4b;refine Ac<|Aa rfl<|Ab rfl<|Ae<|Ad rfl rfl<|?_
   exact ⟨M,_,rfl,⟨fun _ h_=>(hb3.1 (by assumption)) (h_ _ (List.mem_of_getElem? hXe2)),fun _=>by omega⟩⟩
  intro h5b;have h5:(b3)=false:=h5b;refine Aq<|Az<|Bx rfl rfl<|Aa rfl<|Bc<|Cm<|fun a F=>?_
  exact ⟨_,by omega,i+1,rfl,F.to ⟨rfl,rfl,rfl,rfl,trivial⟩,M,by omega,Nb hA hXe2 (by clear F M;grind)⟩
 intro h6b;have h6:=dF h6b;refine B5<|Bw<|Bw<|Dj<|Ac<|Ab rfl<|Ae<|Ad rfl rfl<|?_
 exact ⟨M,_,rfl,⟨fun h=>by omega,fun h=>absurd (G7 hA (by omega)) h⟩⟩
theorem Ot (M:Mem w0 G L w) {ad:Option Addr} {cd:Nat} {xs:List (List UInt8)} (S:Au D3 1 G (.slice ad xs.length cd) xs):Calls Tryz.prog 51 #[.slice ad xs.length cd,.func (.func 215) #[] #[]] w (Cs w0 G L fun v=>∃ b:Bool,v=.bool b∧(b=true↔¬ ∀ s∈xs,Dk s)):=by
 refine Ay (vs:=[_,_]) Tryz.func51 rfl (n:=9) rfl rfl<|Ac<|Ab rfl<|Ac<|Aa rfl<|Aa rfl<|Bs Aot rfl rfl (Ql (xs:=xs) M S)<|?_;clear M;rintro _ w M ⟨z1,rfl,hz1⟩
 refine Kv rfl rfl<|Ab rfl<|Ae<|Ad rfl rfl<|?_
 exact ⟨M,_,rfl,decide_eq_true_iff.trans hz1⟩
theorem Us (M:Mem w0 G L w) {x:ItemD} {ma:Option Addr} {mc:Nat} (ht:x.text.length≤9223372036854775807) (SM:Au D3 1 G (.slice ma x.marks.length mc) x.marks):Calls Tryz.prog 191 #[.agg #[.int .u64 x.key,.int .u8 x.typ,.string (str x.text),.slice ma x.marks.length mc]] w (Cs w0 G L fun v=>v=.int .i64 (Hm x)):=by
 refine Ay (vs:=[_]) Tryz.func191 rfl (n:=23) rfl rfl<|Ac<|Cz M rfl rfl rfl<|?_;clear M;intro b1 w M
 refine Ab rfl<|Ag<|Ac<|A0 Bf.k rfl rfl<|Bg El M 0 rfl rfl rfl rfl<|C3 rfl rfl<|Aa rfl<|?_
 rcases bE (decide (x.key=0)) with h2b | h3b
 ·skip
  have h2:=dT h2b;refine g_f rfl h2b<|g_f rfl h2b<|g_f rfl h2b<|g_f rfl h2b<|Bh rfl h2b rfl<|Aa rfl<|g_f rfl rfl<|g_f rfl rfl<|g_f rfl rfl<|g_f rfl rfl<|Bh rfl rfl rfl<|Aa rfl<|g_f rfl rfl<|g_f rfl rfl<|g_f rfl rfl<|Bh rfl rfl rfl<|Bl rfl rfl<|Ac<|Ab rfl<|Bc<|Cm<|?_
  refine Ae<|Ad rfl rfl<|?_
  exact ⟨M.weaken dS1,by rw [E8 (by clear M;unfold ItemOk;grind)]⟩
 have h3:=dF h3b;refine g_t rfl h3b<|A0 Bf.k rfl rfl<|g_t rfl h3b<|Bg Bq M 0 rfl rfl rfl rfl<|g_t rfl h3b<|Bs Aed rfl rfl (Md (s:=x.text) M (by omega))<|?_;clear M;rintro _ w M ⟨b4,rfl,hb4⟩
 refine g_t rfl h3b<|Dh rfl<|Be rfl h3b rfl<|Aa rfl<|?_
 rcases bE (!(b4)) with h5b | h6b
 ·skip
  have h5:=Ah h5b;have h5c:(b4)=false:=(Ah h5b);refine g_f rfl (Ak h5c)<|g_f rfl (Ak h5c)<|g_f rfl (Ak h5c)<|g_f rfl (Ak h5c)<|Bh rfl (Ak h5c) rfl<|Aa rfl<|g_f rfl rfl<|g_f rfl rfl<|g_f rfl rfl<|Bh rfl rfl rfl<|Bl rfl rfl<|Ac<|Ab rfl<|Ae<|Ad rfl rfl<|?_
  exact ⟨M.weaken dS1,by rw [E8 (by clear M;unfold ItemOk;grind)]⟩
 have h6:=Ai h6b;have h6c:(b4)=true:=(Ai h6b);refine g_t rfl (Aj h6c)<|A0 Bf.k rfl rfl<|g_t rfl (Aj h6c)<|Bg Cw M 0 rfl rfl rfl rfl<|g_t rfl (Aj h6c)<|B8 Cw.k rfl<|g_t rfl (Aj h6c)<|Da rfl rfl<|Be rfl (Aj h6c) rfl<|Aa rfl<|?_
 rcases bE (decide (8 < ((x.marks.length:Nat):Int))) with h7b | h8b
 ·skip
  have h7:=dT h7b;refine g_f rfl h7b<|g_f rfl h7b<|g_f rfl h7b<|Bh rfl h7b rfl<|Bl rfl rfl<|Ac<|Ab rfl<|Ae<|Ad rfl rfl<|?_
  exact ⟨M.weaken dS1,by rw [E8 (by clear M;unfold ItemOk;grind)]⟩
 have h8:=dF h8b;refine g_t rfl h8b<|A0 Bf.k rfl rfl<|g_t rfl h8b<|Bg Cw M 0 rfl rfl rfl rfl<|g_t rfl h8b<|Bs ent51 rfl rfl (Ot (xs:=x.marks) M SM)<|?_;clear M;rintro _ w M ⟨b9,rfl,hb9⟩
 refine Be rfl h8b rfl<|Ap rfl ?_ ?_
 ·intro h10b;have h10:(b9)=true:=h10b;refine Ac<|Ab rfl<|Ae<|Ad rfl rfl<|?_
  exact ⟨M.weaken dS1,by rw [E8 (by clear M;unfold ItemOk;grind)]⟩
 intro h11b;have h11:(b9)=false:=h11b;refine Aq<|Ac<|Ab rfl<|Ae<|Ad rfl rfl<|?_
 exact ⟨M.weaken dS1,by rw [Dt (by first | (clear M;unfold ItemOk;grind) | exact ⟨by omega,by clear M;grind,by omega,G7 hA (by omega)⟩)]⟩
theorem L4 (M:Mem w0 G L w) {x:ItemD} {ma:Option Addr} {mc:Nat} (ht:x.text.length≤9223372036854775807) (SM:Au D3 1 G (.slice ma x.marks.length mc) x.marks):Calls Tryz.prog 150 #[.agg #[.int .u64 x.key,.int .u8 x.typ,.string (str x.text),.slice ma x.marks.length mc]] w (Cs w0 G L fun v=>v=.int .i64 (Hm x)):=by
 refine Ay (vs:=[_]) Tryz.func150 rfl (n:=33) rfl rfl<|Ac<|Cz M rfl rfl rfl<|?_;clear M;intro b1 w M
 refine Ab rfl<|Ag<|Ac<|A0 Bf.k rfl rfl<|Bg El M 0 rfl rfl rfl rfl<|C3 rfl rfl<|Aa rfl<|?_
 rcases bE (decide (x.key=0)) with h2b | h3b
 ·skip
  have h2:=dT h2b;refine g_f rfl h2b<|g_f rfl h2b<|g_f rfl h2b<|g_f rfl h2b<|Bh rfl h2b rfl<|Aa rfl<|g_f rfl rfl<|g_f rfl rfl<|g_f rfl rfl<|g_f rfl rfl<|Bh rfl rfl rfl<|Bl rfl rfl<|Ac<|Ab rfl<|Ae<|Ad rfl rfl<|?_
  exact ⟨M.weaken dS1,by rw [E8 (by clear M;unfold ItemOk;grind)]⟩
 have h3:=dF h3b;refine g_t rfl h3b<|A0 Bf.k rfl rfl<|g_t rfl h3b<|Bg Bq M 0 rfl rfl rfl rfl<|g_t rfl h3b<|Bs Ui rfl rfl (K4 (s:=x.text) M (by omega))<|?_;clear M;rintro _ w M ⟨b4,rfl,hb4⟩
 refine g_t rfl h3b<|Dh rfl<|Be rfl h3b rfl<|Aa rfl<|?_
 rcases bE (!(b4)) with h5b | h6b
 ·skip
  have h5:=Ah h5b;have h5c:(b4)=false:=(Ah h5b);refine g_f rfl (Ak h5c)<|g_f rfl (Ak h5c)<|g_f rfl (Ak h5c)<|g_f rfl (Ak h5c)<|Bh rfl (Ak h5c) rfl<|Bl rfl rfl<|Ac<|Ab rfl<|Ae<|Ad rfl rfl<|?_
  exact ⟨M.weaken dS1,by rw [E8 (by clear M;unfold ItemOk;grind)]⟩
 have h6:=Ai h6b;have h6c:(b4)=true:=(Ai h6b);refine g_t rfl (Aj h6c)<|A0 Bf.k rfl rfl<|g_t rfl (Aj h6c)<|Bg Cw M 0 rfl rfl rfl rfl<|g_t rfl (Aj h6c)<|B8 Cw.k rfl<|g_t rfl (Aj h6c)<|Da rfl rfl<|Be rfl (Aj h6c) rfl<|Ap rfl ?_ ?_
 ·intro h7b;have h7:=dT h7b;refine Ac<|Ab rfl<|Ae<|Ad rfl rfl<|?_
  exact ⟨M.weaken dS1,by rw [E8 (by clear M;unfold ItemOk;grind)]⟩
 intro h8b;have h8:=dF h8b;refine Aq<|Ag<|Ac<|Ab rfl<|Ax<|fun a F=>Bz (fun m a' w'=>∃ (i:Nat),m=x.marks.length - i∧Fits 33 a' [(1,.pointer (some ⟨b1,0,none⟩)),(3,.int .i64 ((i:Nat):Int))]∧Mem w0 G (.blk b1 [.int .u64 x.key,.int .u8 x.typ,.string (str x.text),.slice ma x.marks.length mc] 26::L) w'∧(i≤x.marks.length)∧(∀ (m:Nat) (s:List UInt8),m < i→x.marks[m]?=some s→Dk s)) _ ⟨0,rfl,F.to ⟨rfl,rfl,trivial⟩,M,Nat.zero_le _,fun m d h=>by omega⟩ ?_
 clear F M;rintro m a w ⟨i,rfl,F,M,hi,hA⟩;revert a;refine Ag<|Ac<|Aa rfl<|A0 Bf.k rfl rfl<|Bg Cw M 0 rfl rfl rfl rfl<|B8 Cw.k rfl<|C2 rfl rfl<|Ap rfl ?_ ?_
 ·intro h9b;have h9:=dT h9b;refine Aq<|Ag<|Ax<|Ac<|A0 Bf.k rfl rfl<|Bg Cw M 0 rfl rfl rfl rfl<|Aa rfl<|?_
  obtain ⟨Xe10,hXe10⟩:=A2 (xs:=x.marks) (i:=i) (by omega);obtain ⟨be10,oe10,_,Ie10,_,Ae10,⟨rfl,hsle10⟩⟩:=SM.at hXe10;refine D0 Cw.k Bq Ie10 rfl rfl<|Dq Bq M Ae10 0 rfl rfl (by omega) rfl<|Bs Mu rfl rfl (Fb (s:=Xe10) M (by omega))<|?_;clear M;rintro _ w M ⟨b11,rfl,hb11⟩
  refine Dh rfl<|Ap rfl ?_ ?_
  ·intro h12b;have h12:=Ah h12b;have h12c:(b11)=false:=(Ah h12b);refine Ac<|Ab rfl<|Ae<|Ad rfl rfl<|?_
   exact ⟨M.weaken dS1,by rw [E8 (Aaf hXe10 (by clear M;grind))]⟩
  intro h13b;have h13:=Ai h13b;have h13c:(b11)=true:=(Ai h13b);refine Aq<|Az<|Aa rfl<|Bx rfl rfl<|Ab rfl<|Bc<|Cm<|fun a F=>?_
  exact ⟨_,by omega,i+1,rfl,F.to ⟨rfl,rfl,trivial⟩,M,by omega,Nb hA hXe10 (by clear F M;grind)⟩
 intro h14b;have h14:=dF h14b;refine B5<|Bw<|Bw<|Dj<|Ac<|Ab rfl<|Ae<|Ad rfl rfl<|?_
 exact ⟨M.weaken dS1,by rw [Dt (by first | (clear M;unfold ItemOk;grind) | exact ⟨by omega,by clear M;grind,by omega,G7 hA (by omega)⟩)]⟩
theorem Qr (M:Mem w0 G L w) {u:Nat} (hu:u < 18446744073709551616):Calls Tryz.prog 219 #[.int .u64 (u:Int)] w (Cs w0 G L fun v=>v=.string (str (Lib.decDigits u))):=by
 refine Ay (vs:=[_]) Tryz.func219 rfl (n:=19) rfl rfl<|Ac<|Ab rfl<|Ac<|C9 M Abw rfl rfl<|?_;clear M;intro b1 w M
 refine Ag<|?_
 replace M:Mem w0 G (.blk b1 (bc (List.replicate 20 0)) 302::L) w:=M;refine Az<|Ab rfl<|Ax<|fun a F=>Bz (fun m a' w'=>∃ (i:Nat),∃ (n:Nat),∃ (ls:List UInt8),m=i+1∧Fits 19 a' [(3,.pointer (some ⟨b1,0,none⟩)),(0,.int .u64 ((n:Nat):Int)),(4,.int .i64 ((i:Nat):Int))]∧Mem w0 G (.blk b1 (bc (ls)) 302::L) w'∧(i≤20)∧(ls.length=20)∧(n < 18446744073709551616)∧(Lib.decDigits u=Lib.decDigits n++ls.drop i)) _ ⟨20,u,List.replicate 20 0,rfl,F.to ⟨rfl,rfl,rfl,trivial⟩,M,Nat.le_refl _,by simp,hu,by simp⟩ ?_
 clear F M;rintro m a w ⟨i,n,ls,rfl,F,M,hi,hl20,hn64,hD⟩;revert a;refine Ax<|Ag<|?_
 have h1i:=Apb hD hu hl20 hi;refine Az<|Aa rfl<|Q4 rfl rfl<|?_
 have hs3:(((i:Nat):Int) - 1:Int)=((i - 1:Nat):Int):=by omega
 intro a F;rw [hs3] at F;revert a;refine Ab rfl<|Ac<|Aa rfl<|Aa rfl<|Ar (fun a F=>Zf (F.ev rfl) (F.ev rfl) (by omega) (by omega)) rfl<|?_
 obtain ⟨B4,hB4⟩:=A2 (xs:=([48,49,50,51,52,53,54,55,56,57]:List UInt8)) (i:=n % 10) (by (show n % 10 < 10;omega));have lB4:=V6 B4;refine Ar (fun a F=>D1 (i:=n % 10) Bq.k (F.ev rfl) (F.ev rfl) hB4) rfl<|Ar (fun a F=>S0 (j:=i - 1) Abw.k Fa rfl (F.ev rfl) (F.ev rfl) (by omega) (by omega)) rfl<|fun a F=>?_
 refine Qa F M Fa rfl (k:=0) rfl rfl rfl rfl (List.getElem?_eq_getElem (by rw [Uu];omega)) ?_;clear F M a;intro w a M F;rw [Nat.zero_add,bc_set] at M;change Mem w0 G (.blk b1 (bc ((ls).set (i - 1) B4)) 302::L) _ at M;have hBt:=hB4;revert a;refine Ac<|Aa rfl<|Ar (fun a F=>Zg (F.ev rfl) (F.ev rfl) (by omega) (by omega) (Om (by omega) (by omega))) rfl<|Ab rfl<|Ac<|Aa rfl<|C3 rfl rfl<|Ap rfl ?_ ?_
 ·intro h5b;have h5:=dT h5b;refine Ac<|Aa rfl<|Ar (fun a F=>U2 (l:=i - 1) Abw.k Fa rfl (F.ev rfl) (F.ev rfl) (by omega) (by omega)) rfl<|Ar (fun a F=>U0 M (k:=0) rfl K1.k Fa.k Bq.k (F.ev rfl) (by rw [List.length_set];omega)) rfl<|Ab rfl<|Ae<|Ad rfl rfl<|?_
  have h_:=Wx hD h1i hi hl20 hBt;rw [if_pos (by omega),List.nil_append] at h_
  exact ⟨M.weaken dS1,by rw [h_]⟩
 intro h6b;have h6:=dF h6b;refine Aq<|Aoy<|Cm<|fun a F=>?_
 exact ⟨_,by omega,i - 1,n / 10,(ls).set (i - 1) B4,rfl,F.to ⟨rfl,rfl,rfl,trivial⟩,M,by omega,by rw [List.length_set];exact hl20,by omega,by have h_:=Wx hD h1i hi hl20 hBt;rw [if_neg (by omega)] at h_;exact h_⟩
def RdecP (u:Nat):Prop:=∀ (w0 w:World) (G:A4) (L:List Res),Mem w0 G L w→u < 18446744073709551616→Calls Tryz.prog 186 #[.int .u64 (u:Int)] w (Cs w0 G L fun v=>v=.string (str (Lib.decDigits u)))
theorem Ada {u:Nat} (ih:∀ v,v < u→RdecP v) {w0 w:World} {G:A4} {L:List Res} (M:Mem w0 G L w) (hu:u < 18446744073709551616):Calls Tryz.prog 186 #[.int .u64 (u:Int)] w (Cs w0 G L fun v=>v=.string (str (Lib.decDigits u))):=by
 refine Ay (vs:=[_]) Tryz.func186 rfl (n:=16) rfl rfl<|Ac<|Ab rfl<|Ag<|Ac<|Aa rfl<|C2 rfl rfl<|Ap rfl ?_ ?_
 ·intro h1b;have h1:=dT h1b;refine Ac<|Aa rfl<|Aa rfl<|Ar (fun a F=>Gf (F.ev rfl) (F.ev rfl) (Om (by omega) (by omega))) rfl<|Ar (fun a F=>Xp (a:=u) (b:=u+1) Bq.k (F.ev rfl) ⟨(F.ev rfl),by omega⟩ ⟨(F.ev rfl),by omega⟩ (by (first | omega | (show u+1≤10;omega))) (by (first | omega | (show u+1≤10;omega)))) rfl<|?_
  have hsl2:(([48,49,50,51,52,53,54,55,56,57]:List UInt8).take (u+1)).drop (u)=[UInt8.ofNat (48+u)]:=Wv u (by omega);intro a F;rw [hsl2] at F;revert a;refine Ab rfl<|Ae<|Ad rfl rfl<|?_
  exact ⟨M,by rw [Qs (by omega)]⟩
 intro h3b;have h3:=dF h3b;refine Aq<|Ac<|Aa rfl<|Ar (fun a F=>Zg (F.ev rfl) (F.ev rfl) (by omega) (by omega) (Om (by omega) (by omega))) rfl<|Bs Uh rfl rfl (ih (u / 10) (by omega) _ _ _ _ M (by omega))<|?_;clear M;rintro _ w M rfl
 have hdld4:=Ed (u / 10) (by omega);refine Aa rfl<|Ar (fun a F=>Zf (F.ev rfl) (F.ev rfl) (by omega) (by omega)) rfl<|Bs Uh rfl rfl (ih (u % 10) (by omega) _ _ _ _ M (by omega))<|?_;clear M;rintro _ w M rfl
 have hdld5:=Ed (u % 10) (by omega);refine Ar (fun a F=>Dx (F.ev rfl) (F.ev rfl) (by (try simp only [List.length_append,List.length_cons,List.length_nil]);omega)) rfl<|Ab rfl<|Ae<|Ad rfl rfl<|?_
 exact ⟨M,by rw [dec_two (by omega)]⟩
theorem Ahv (u:Nat):RdecP u:=by
 induction u using Nat.strongRecOn with
 | _ u ih=>intro w0 w G L M hu;exact Ada ih M hu
theorem Ob (M:Mem w0 G L w) {u:Nat} (hu:u < 18446744073709551616):Calls Tryz.prog 186 #[.int .u64 (u:Int)] w (Cs w0 G L fun v=>v=.string (str (Lib.decDigits u))):=Ahv u _ _ _ _ M hu
def U9:Nat→Rd NT
 | 0=>fun _ _ _=>False
 | d+1=>fun G cs x=>∃ a1 a2,cs=[.int .u8 x.kind,.string (str x.tag),.string (str x.key),.slice a1 x.as.length x.as.length,.string (str x.text),.slice a2 x.kids.length x.kids.length] ∧
   Bb .u8 x.kind∧(x.tag.length≤9223372036854775807∧x.key.length≤9223372036854775807∧x.text.length≤9223372036854775807) ∧
   Au Fc 2 G (.slice a1 x.as.length x.as.length) x.as∧Au (U9 d) 6 G (.slice a2 x.kids.length x.kids.length) x.kids
def Kb:Rd NT:=fun G cs x=>∃ d,U9 d G cs x
theorem Aey:∀ {d:Nat} {G:A4} {cs:List Value} {x:NT},U9 d G cs x→U9 (d+1) G cs x
 | 0,_,_,_,h=>h.elim
 | d+1,G,cs,x,⟨a1,a2,h1,h2,h3,h4,h5⟩=>⟨a1,a2,h1,h2,h3,h4,h5.imp fun _ _ h=>Aey h⟩
theorem Aez {d e:Nat} {G:A4} {cs:List Value} {x:NT} (h:U9 d G cs x) (hd:d≤e):U9 e G cs x:=by
 induction hd with
 | refl=>exact h
 | step _ ih=>exact Aey ih
theorem Wa:∀ d:Nat,Jo (U9 d)
 | 0=>fun _ _ _ _ _ h=>h
 | d+1=>fun G G' cs x hg ⟨a1,a2,h1,h2,h3,h4,h5⟩=>⟨a1,a2,h1,h2,h3,h4.mono Eg hg,h5.mono (Wa d) hg⟩
theorem Hl:Jo (Kb):=fun G G' cs x hg ⟨d,h⟩=>⟨d,Wa d G G' cs x hg h⟩
theorem Ahx {G : A4} {cs : List Value} {x : NT} (h : Kb G cs x) : ∃ a1 a2, cs = [.int .u8 x.kind, .string (str x.tag), .string (str x.key), .slice a1 x.as.length x.as.length, .string (str x.text), .slice a2 x.kids.length x.kids.length] ∧
      Bb .u8 x.kind∧(x.tag.length≤9223372036854775807∧x.key.length≤9223372036854775807∧x.text.length≤9223372036854775807) ∧
      Au Fc 2 G (.slice a1 x.as.length x.as.length) x.as∧Au (Kb) 6 G (.slice a2 x.kids.length x.kids.length) x.kids:=by
  obtain ⟨d,h⟩:=h
  cases d with
  | zero=>exact h.elim
  | succ d =>
    obtain ⟨a1,a2,h1,h2,h3,h4,h5⟩:=h
    exact ⟨a1,a2,h1,h2,h3,h4,h5.imp fun _ _ h=>⟨d,h⟩⟩
theorem Adb {G:A4} {v:Value} {xs:List NT} (S:Au (Kb) 6 G v xs):∃ d,Au (U9 d) 6 G v xs:=by
 obtain ⟨a,c,h1,h2,h3,h4⟩:=S
 rcases h4 with h4 | ⟨b,o,h5,h6⟩
 ·exact ⟨0,a,c,h1,h2,h3,Or.inl h4⟩
 ·have key:∀ n,∃ d,∀ i x,i < n→xs[i]?=some x→∃ cs:List Value,cs.length=6∧(∀ u∈cs,u.oneCell' = true)∧At G b (o+i * 6) cs∧U9 d G cs x:=by
   intro n
   induction n with
   | zero=>exact ⟨0,fun i x h=>by omega⟩
   | succ n ih =>
    obtain ⟨d,hd⟩:=ih
    cases hx:xs[n]? with
    | none =>
     refine ⟨d,fun i x hi hi2=>?_⟩
     rcases Nat.lt_or_ge i n with h | h
     ·exact hd i x h hi2
     ·have:i=n:=by omega
      subst this;rw [hx] at hi2;cases hi2
    | some y =>
     obtain ⟨cs,q1,q2,q3,e,q4⟩:=h6 n y hx;refine ⟨max d e,fun i x hi hi2=>?_⟩
     rcases Nat.lt_or_ge i n with h | h
     ·obtain ⟨cs',r1,r2,r3,r4⟩:=hd i x h hi2
      exact ⟨cs',r1,r2,r3,Aez r4 (by omega)⟩
     ·have:i=n:=by omega
      subst this;rw [hx] at hi2;simp only [Option.some.injEq] at hi2;subst hi2
      exact ⟨cs,q1,q2,q3,Aez q4 (by omega)⟩
  obtain ⟨d,hd⟩:=key xs.length;refine ⟨d,a,c,h1,h2,h3,Or.inr ⟨b,o,h5,fun i x hx=>hd i x ?_ hx⟩⟩
  rcases Nat.lt_or_ge i xs.length with h | h
  ·exact h
  ·rw [List.getElem?_eq_none h] at hx;cases hx
theorem Ir {G:A4} {a1 a2:Option Addr} {x:NT} (h2:Bb .u8 x.kind) (h3:x.tag.length≤9223372036854775807∧x.key.length≤9223372036854775807∧x.text.length≤9223372036854775807)
  (h4:Au Fc 2 G (.slice a1 x.as.length x.as.length) x.as) (h5:Au (Kb) 6 G (.slice a2 x.kids.length x.kids.length) x.kids) :
  Kb G [.int .u8 x.kind,.string (str x.tag),.string (str x.key),.slice a1 x.as.length x.as.length,.string (str x.text),.slice a2 x.kids.length x.kids.length] x:=by
 obtain ⟨d,h5⟩:=Adb h5
 exact ⟨d+1,a1,a2,rfl,h2,h3,h4,h5⟩
theorem Vx:∀ {d:Nat} {G:A4} {cs:List Value} {x:NT},U9 d G cs x→Va Fc 2 d G cs x
 | 0,_,_,_,h=>h.elim
 | d+1,_,_,_,⟨a1,a2,h1,h2,h3,h4,h5⟩=>⟨a1,_,a2,_,h1,h2,h3,h4,h5.imp fun _ _ h=>Vx h⟩
theorem weakN {G:A4} {v:Value} {xs:List NT} (h:Au Kb 6 G v xs):Au rdN 6 G v xs:=h.imp fun _ _ ⟨d,h⟩=>⟨d,Vx h⟩
theorem Aae (M:Mem w0 G L w) {x:ItemD} {ma:Option Addr} {mc:Nat} (ht:x.text.length≤9223372036854775807) (SM:Au D3 1 G (.slice ma x.marks.length mc) x.marks) (hik:Bb .u64 x.key) {ad:Option Addr} {cd:Nat} {xs:List SlotD} (S:Au rdSlot 3 G (.slice ad xs.length cd) xs) (hxs:xs.length≤8) (hsrc:∀ s∈xs,s.src≤3):Calls Tryz.prog 230 #[.agg #[.int .u64 x.key,.int .u8 x.typ,.string (str x.text),.slice ma x.marks.length mc],.slice ad xs.length cd] w (Ret w0 G L fun G' v=>∃ a',v=.slice a' ((xs).map (Ch x)).length ((xs).map (Ch x)).length∧Au Fc 2 G' (.slice a' ((xs).map (Ch x)).length ((xs).map (Ch x)).length) ((xs).map (Ch x))):=by
 refine Ay (vs:=[_,_]) Tryz.func230 rfl (n:=45) rfl rfl<|Ac<|Cz M rfl rfl rfl<|?_;clear M;intro b1 w M
 refine Ab rfl<|Ac<|Aa rfl<|B8 Du.k rfl<|fun a F=>?_
 refine Pb (rd:=Fc) (Z:=⟨[],[]⟩) F M Ee.k Fk rfl (by decide) rfl rfl (l:=xs.length) (by omega) rfl (by omega) (by show 32 * _≤_;omega) (by omega) (by simp [ti282,Value.cells,Value.oneCell']) (⟨rfl,Nat.zero_le _,Nat.zero_le _⟩) rfl ?_;clear F M a;intro bv2 csv2 w a M Ev2 F;revert a;refine Ab rfl<|Ag<|Ag<|?_
 have bM:=SM.bound;have hik':0≤x.key∧x.key≤18446744073709551615:=hik;refine Az<|Aa rfl<|B8 Du.k rfl<|Aa rfl<|Ax<|fun a F=>Bz (fun m a' w'=>∃ (i:Nat),∃ (cso:List Value),∃ (ys:List AttrD),m=xs.length - i∧Fits 45 a' [(1,.slice ad xs.length cd),(2,.pointer (some ⟨b1,0,none⟩)),(5,.slice (some ⟨bv2,0,none⟩) (xs.length) (xs.length)),(11,.slice ad xs.length cd),(12,.int .i64 ((xs.length:Nat):Int)),(13,.int .i64 ((i:Nat):Int))]∧Mem w0 G (.row (.slice (some ⟨bv2,0,none⟩) (xs.length) (xs.length)) (xs.length) (cso) 282 2::.blk b1 [.int .u64 x.key,.int .u8 x.typ,.string (str x.text),.slice ma x.marks.length mc] 262::L) w'∧(i≤xs.length)∧(ys=(xs.take i).map (Ch x)++List.replicate (xs.length - i) ⟨[],[]⟩)∧(Els Fc 2 G cso ys)) _ ⟨0,csv2,_,rfl,F.to ⟨rfl,rfl,rfl,rfl,rfl,rfl,trivial⟩,M,Nat.zero_le _,by simp,Ev2⟩ ?_
 clear F M;rintro m a w ⟨i,cso,ys,rfl,F,M,hi,hys,Eo⟩;revert a;refine Ac<|C2 rfl rfl<|Ag<|Ap rfl ?_ ?_
 ·intro h3b;have h3:=dT h3b;refine Aq<|Ag<|Ax<|Ac<|Aa rfl<|?_
  obtain ⟨Xe4,hXe4⟩:=A2 (xs:=xs) (i:=i) (by omega);obtain ⟨be4,oe4,_,Ie4,_,Ae4,⟨rfl,hn1e4,hk1e4,hv1e4⟩⟩:=S.at hXe4;refine D0 Du.k C8 Ie4 rfl rfl<|Ar (fun a F=>Af C8 rfl (F.ev rfl) (cs:=[.string (str Xe4.n),.int .u8 Xe4.src,.string (str Xe4.v)]) rfl (M.cellsA Ae4 0 (by omega) rfl)) rfl<|C9 M C8 rfl rfl<|?_;clear M;intro b5 w M
  refine Ab rfl<|fun a F=>?_
  refine Cj F M C8 0 ?_;clear F M a;intro w a M F;change Mem w0 G (.blk b5 [.string (str Xe4.n),.int .u8 Xe4.src,.string (str Xe4.v)] 189::_::_::L) _ at M;revert a;refine Bc<|Cm<|?_
  have hyl:ys.length=xs.length:=by rw [hys];simp;omega
  intro a F;refine Fg [(.free,0),(.free,1),(.free,2),(.pure,3),(.free,4),(.pure,5),(.free,6),(.free,7),(.pure,8),(.free,9),(.free,10),(.pure,11),(.free,13),(.free,14),(.pure,15),(.pure,16),(.free,17),(.free,20),(.pure,21),(.keep,12),(.keep,18),(.free,19),(.free,22),(.free,23),(.free,24),(.keep,25)] [] (Keep G [.blk b5 [.string (str Xe4.n),.int .u8 Xe4.src,.string (str Xe4.v)] 189,.blk b1 [.int .u64 x.key,.int .u8 x.typ,.string (str x.text),.slice ma x.marks.length mc] 262]) rfl (by kernel_rfl) (fun c a d v w h=>by cases d <;> exact h) (Bo (M.drew _)) ?_;replace M:=M.drew (w.drawn+1);revert a;refine k_f (fun a F w _=>B1 F rfl) rfl<|k_f (fun a F w _=>B1 F rfl) rfl<|k_f (fun a F w _=>Ce C8.k rfl F rfl) rfl<|k_p (fun a F w M=>Al (agf Bq rfl) (F.ev rfl) (M.cellL (k:=0) rfl rfl)) rfl<|k_f (fun a F w _=>Ce C8.k rfl F rfl) rfl<|k_p (fun a F w M=>Al (agf Bq rfl) (F.ev rfl) (M.cellL (k:=0) rfl rfl)) rfl<|k_f (fun a F w _=>Ce Jc.k rfl F rfl) rfl<|k_f (fun a F w _=>Ce Bf.k rfl F rfl) rfl<|k_p (fun a F w M=>Al (agf Bq rfl) (F.ev rfl) (M.cellL (k:=1) rfl rfl)) rfl<|k_f (fun a F w _=>Ce Jc.k rfl F rfl) rfl<|k_f (fun a F w _=>Ce Bf.k rfl F rfl) rfl<|k_p (fun a F w M=>Al (agf El rfl) (F.ev rfl) (M.cellL (k:=1) rfl rfl)) rfl<|k_f (fun a F w _=>Ce Jc.k rfl F rfl) rfl<|k_f (fun a F w _=>Ce Bf.k rfl F rfl) rfl<|k_p (fun a F w M=>Al (agf Cw rfl) (F.ev rfl) (M.cellL (k:=1) rfl rfl)) rfl<|k_p (fun a F w M=>D8 Cw.k (F.ev rfl)) rfl<|k_f (fun a F w _=>Ew El.k ⟨_,by rw [D7 Cg.k]⟩ (F.ev rfl) (Om (by omega) (by omega))) rfl<|k_f (fun a F w _=>Ce C8.k rfl F rfl) rfl<|k_p (fun a F w M=>Al (agf Fa rfl) (F.ev rfl) (M.cellL (k:=0) rfl rfl)) rfl<|k_k rfl<|?_
  have hu7:(x.key:Int)=(((x.key).toNat:Nat):Int):=by omega
  intro a F;rw [hu7] at F;revert a;refine Bs Aec rfl rfl (Qr (u:=(x.key).toNat) M (by omega))<|?_;clear M;rintro _ w M rfl
  refine eQ (Bo M)<|k_k rfl<|Bs Aec rfl rfl (Qr (u:=x.marks.length) M (by omega))<|?_;clear M;rintro _ w M rfl
  refine eQ (Bo M)<|k_f (fun a F w _=>Gu F (ps:=[(0,.string (str Xe4.v)),(1,.string (str x.text)),(2,.string (str (Lib.decDigits ((x.key).toNat)))),(3,.string (str (Lib.decDigits x.marks.length)))]) (cs:=[.string (str Xe4.v),.string (str x.text),.string (str (Lib.decDigits ((x.key).toNat))),.string (str (Lib.decDigits x.marks.length))]) Abv.k Abv Bq rfl rfl) rfl<|?_
  have hsr:=hsrc Xe4 (List.mem_of_getElem? hXe4);have hu4:=Ks hk1e4;refine k_f (fun a F w _=>S1 (j:=Xe4.src.toNat) (v:=.string (str (Ie x Xe4))) Abv.k Bq rfl rfl (F.ev rfl) (F.ev rfl) (by omega) (by omega) (pick4 hu4.1 hsr)) rfl<|k_f (fun a F w _=>A3 (cs:=[.string (str Xe4.n),.string (str (Ie x Xe4))]) (ps:=[(0,.string (str Xe4.n)),(1,.string (str (Ie x Xe4)))]) Fk.k rfl Fk (F.evp rfl) rfl) rfl<|?_
  obtain ⟨Xe8,hXe8⟩:=A2 (xs:=ys) (i:=i) (by omega);obtain ⟨be8,_,Ie8,hme8,_,Ae8,⟨rfl,hn1e8,hv1e8⟩⟩:=M.atRow (k:=1) rfl (by decide) Eo hXe8;refine k_f (fun a F w _=>Bt Ee.k Fk (F.ev rfl) (F.ev rfl) (by omega) Ie8) rfl<|k_k rfl<|fun a F=>?_
  refine Li F M Fk (k:=1) rfl rfl Eo Ie8 (Bj hXe8) rfl rfl (us:=[.string (str Xe4.n),.string (str (Ie x Xe4))]) rfl rfl (by simp [Value.oneCell']) (X':=Ch x Xe4) (⟨rfl,hn1e4,W6 ht hik (by have:=SM.bound;omega) Xe4 hv1e4⟩) ?_;clear F M a;intro csu9 w a M Eu9 F;revert a;refine eQ (Bo M)<|De<|Az<|Bx rfl rfl<|Aa rfl<|Bc<|Cm<|fun a F=>?_
  exact ⟨_,by omega,i+1,csu9,_,rfl,F.to ⟨rfl,rfl,rfl,rfl,rfl,rfl,trivial⟩,(M.weaken (cN (cC (.cons_cons _ (sR _))))),by omega,by rw [hys];exact Aeo hXe4,Eu9⟩
 intro h10b;have h10:=dF h10b;refine B5<|Bw<|Bw<|Dj<|Ac<|Aa rfl<|Ab rfl<|Ae<|Ad rfl rfl<|?_
 rw [List.take_of_length_le (by omega),show xs.length - i=0 by omega,List.replicate_zero,List.append_nil] at hys;rw [hys] at Eo;obtain ⟨hnz11,Gz11,az11,cz11,hGz11,hez11,Sz11,M⟩:=M.freeze_row Eg (k:=0) rfl Eo (by decide);clear hez11 az11 cz11;have hlm:((xs).map (Ch x)).length=xs.length:=by simp
 exact ⟨Gz11,hGz11,M.weaken dS1,_,by rw [hlm],by have h_:=Sz11;rw [hnz11] at h_;exact h_⟩
theorem Kn (M:Mem w0 G L w) {s:List UInt8}:Calls Tryz.prog 218 #[.string (str s)] w (Cs w0 G L fun v=>v=.agg #[.int .u8 2,.string (str []),.string (str []),.slice none 0 0,.string (str s),.slice none 0 0]):=by
 refine Ay (vs:=[_]) Tryz.func218 rfl (n:=5) rfl rfl<|Ac<|C9 M Av rfl rfl<|?_;clear M;intro b1 w M
 refine Ac<|Aa rfl<|Ar (fun a F=>A3 (cs:=[.int .u8 2,.string (str []),.string (str []),.slice none 0 0,.string (str s),.slice none 0 0]) (ps:=[(0,.int .u8 2),(4,.string (str s))]) Av.k rfl Av (F.evp rfl) rfl) rfl<|fun a F=>?_
 refine Cj F M Av 0 ?_;clear F M a;intro w a M F;change Mem w0 G (.blk b1 [.int .u8 2,.string (str []),.string (str []),.slice none 0 0,.string (str s),.slice none 0 0] 193::L) _ at M;revert a;refine Ae<|fun a F=>L5 F M (k:=0) rfl rfl Av rfl rfl rfl ?_
 exact ⟨M.weaken dS1,rfl⟩
theorem Aek (M:Mem w0 G L w) {kad:Option Addr} {kcd:Nat} {ks:List NT} (S:Au Kb 6 G (.slice kad ks.length kcd) ks):Calls Tryz.prog 231 #[.slice kad ks.length kcd] w (Cs w0 G L fun v=>v=.slice kad ks.length ks.length):=by
 have bS:=S.bound;refine Ay (vs:=[_]) Tryz.func231 rfl (n:=9) rfl rfl<|Ac<|Ab rfl<|Ac<|Aa rfl<|Aa rfl<|B8 Cf.k rfl<|Aa rfl<|B8 Cf.k rfl<|?_
 have sb1:=S.bound;refine Ar (fun a F=>Sy (h:=ks.length) (q:=ks.length) Cf.k Av (F.ev rfl) (F.ev rfl) (by omega) (F.ev rfl) (by omega) (by omega) (by omega)) rfl<|?_
 have S2:=S.clip;refine Ab rfl<|Ae<|Ad rfl rfl<|?_
 exact ⟨M,rfl⟩
theorem Tw (M : Mem w0 G L w) {x : ItemD} {ma : Option Addr} {mc : Nat} (ht : x.text.length ≤ 9223372036854775807) (SM : Au D3 1 G (.slice ma x.marks.length mc) x.marks) (hik : Bb .u64 x.key) {p : PT} {tap : Option Addr} {tcp : Nat} {kap : Option Addr} {kcp : Nat} (hkp : Bb .u8 p.kind) (hlp : (p.tag.length ≤ 9223372036854775807 ∧ p.key.length ≤ 9223372036854775807 ∧ p.text.length ≤ 9223372036854775807)) (SAp : Au rdSlot 3 G (.slice tap p.as.length tcp) p.as) (SKp : Au rdP 6 G (.slice kap p.kids.length kcp) p.kids) (hso : Hy p.as) {kk : List UInt8} {kad : Option Addr} {kcd : Nat} {ks : List NT} (S : Au Kb 6 G (.slice kad ks.length kcd) ks) : Calls Tryz.prog 217 #[.agg #[.int .u64 x.key, .int .u8 x.typ, .string (str x.text), .slice ma x.marks.length mc], .agg #[.int .u8 p.kind, .string (str p.tag), .string (str p.key), .slice tap p.as.length tcp, .string (str p.text), .slice kap p.kids.length kcp], .string (str kk), .slice kad ks.length kcd] w (Ret w0 G L fun G' v => ∃ a', v = .agg #[.int .u8 1, .string (str p.tag), .string (str kk), .slice a' (p.as.map (Ch x)).length (p.as.map (Ch x)).length, .string (str []), .slice kad ks.length ks.length] ∧
      Au Fc 2 G' (.slice a' (p.as.map (Ch x)).length (p.as.map (Ch x)).length) (p.as.map (Ch x))∧Au Kb 6 G' (.slice kad ks.length ks.length) ks):=by
  refine Ay (vs:=[_,_,_,_]) Tryz.func217 rfl (n:=19) rfl rfl<|Ac<|Cz M rfl rfl rfl<|?_;clear M;intro b1 w M
  refine Cz M rfl rfl rfl<|?_;clear M;intro b2 w M
  refine C9 M Av rfl rfl<|?_;clear M;intro b3 w M
  refine Ag<|fun a F=>Fg [(.free,0),(.pure,1),(.free,2),(.pure,3),(.free,4),(.pure,5),(.free,7),(.keep,6),(.keep,8),(.free,9),(.keep,10)] [] (Keep G [.blk b2 [.int .u8 p.kind,.string (str p.tag),.string (str p.key),.slice tap p.as.length tcp,.string (str p.text),.slice kap p.kids.length kcp] 79,.blk b1 [.int .u64 x.key,.int .u8 x.typ,.string (str x.text),.slice ma x.marks.length mc] 262]) rfl (by kernel_rfl) (fun c a d v w h=>by cases d <;> exact h) (Bo (M.drew _)) ?_
  replace M:=M.drew (w.drawn+1);revert a;refine k_f (fun a F w _=>Ce Bn.k rfl F rfl) rfl<|k_p (fun a F w M=>Al (agf Bq rfl) (F.ev rfl) (M.cellL (k:=0) rfl rfl)) rfl<|k_f (fun a F w _=>B1 F rfl) rfl<|k_p (fun a F w M=>Af Jc rfl (F.ev rfl) (cs:=[.int .u64 x.key,.int .u8 x.typ,.string (str x.text),.slice ma x.marks.length mc]) rfl (M.cellsL (k:=1) rfl rfl)) rfl<|k_f (fun a F w _=>Ce Bn.k rfl F rfl) rfl<|k_p (fun a F w M=>Al (agf Du rfl) (F.ev rfl) (M.cellL (k:=0) rfl rfl)) rfl<|k_f (fun a F w _=>B1 F rfl) rfl<|k_k rfl<|Ge ent230 rfl rfl (Aae (x:=x) (xs:=p.as) M ht SM hik SAp hso.1 (fun s_ hs_=>Ahh hso hs_))<|?_;clear M;rintro _ Gt5 w hGt5 M ⟨at5,rfl,St5⟩
  replace SAp:=SAp.mono mono_rdSlot hGt5;replace SKp:=SKp.mono mono_rdP hGt5;replace SM:=SM.mono Bi hGt5;replace S:=S.mono Hl hGt5;refine eK (C':=Keep Gt5 [.blk b2 [.int .u8 p.kind,.string (str p.tag),.string (str p.key),.slice tap p.as.length tcp,.string (str p.text),.slice kap p.kids.length kcp] 79,.blk b1 [.int .u64 x.key,.int .u8 x.typ,.string (str x.text),.slice ma x.marks.length mc] 262]) (Bo M) (fun w h=>h.mono hGt5 (by simp))<|k_k rfl<|Bs ent231 rfl rfl (Aek (ks:=ks) M S)<|?_;clear M;rintro _ w M rfl
  have S6:=S.clip;refine eK (C':=Keep Gt5 [.blk b2 [.int .u8 p.kind,.string (str p.tag),.string (str p.key),.slice tap p.as.length tcp,.string (str p.text),.slice kap p.kids.length kcp] 79,.blk b1 [.int .u64 x.key,.int .u8 x.typ,.string (str x.text),.slice ma x.marks.length mc] 262]) (Bo M) (fun w h=>h.mono (Gle.refl _) (by simp))<|k_f (fun a F w _=>A3 (cs:=[.int .u8 1,.string (str p.tag),.string (str kk),.slice at5 ((p.as.map (Ch x)).length) ((p.as.map (Ch x)).length),.string (str []),.slice kad ks.length ks.length]) (ps:=[(0,.int .u8 1),(1,.string (str p.tag)),(2,.string (str kk)),(3,.slice at5 ((p.as.map (Ch x)).length) ((p.as.map (Ch x)).length)),(5,.slice kad ks.length ks.length)]) Av.k rfl Av (F.evp rfl) rfl) rfl<|k_k rfl<|fun a F=>?_
  refine Cj F M Av 0 ?_;clear F M a;intro w a M F;change Mem w0 Gt5 (.blk b3 [.int .u8 1,.string (str p.tag),.string (str kk),.slice at5 ((p.as.map (Ch x)).length) ((p.as.map (Ch x)).length),.string (str []),.slice kad ks.length ks.length] 193::_::_::L) _ at M;revert a;refine eQ (Bo M)<|De<|Ae<|fun a F=>L5 F M (k:=0) rfl rfl Av rfl rfl rfl ?_
  exact ⟨_,hGt5,M.weaken dS3,_,rfl,St5,S6⟩
def Apv (x:ItemD) (ps:List PT):Prop:=∀ (w0 w:World) (G:A4) (L:List Res) (ma pa:Option Addr) (mc pc:Nat),Mem w0 G L w→Au D3 1 G (.slice ma x.marks.length mc) x.marks→Au rdP 6 G (.slice pa ps.length pc) ps→ps.length≤16→(∀ p∈ps,∃ n,Tr.Ok B2 n p) →
  Calls Tryz.prog 192 #[.agg #[.int .u64 x.key,.int .u8 x.typ,.string (str x.text),.slice ma x.marks.length mc],.slice pa ps.length pc] w (Ret w0 G L fun G' v=>∃ a' c',v=.slice a' (madesF x ps).length c'∧Au Kb 6 G' (.slice a' (madesF x ps).length c') (madesF x ps))
theorem Tv {x:ItemD} (hik:Bb .u64 x.key) (hio:ItemOk x) (ht:x.text.length≤9223372036854775807) {ps:List PT} (ih:∀ p∈ps,Apv x p.kids) {w0 w:World} {G:A4} {L:List Res} (M:Mem w0 G L w) {ma pa:Option Addr} {mc pc:Nat} (SM:Au D3 1 G (.slice ma x.marks.length mc) x.marks) (S:Au rdP 6 G (.slice pa ps.length pc) ps) (hps:ps.length≤16) (hok:∀ p∈ps,∃ n,Tr.Ok B2 n p) :
  Calls Tryz.prog 192 #[.agg #[.int .u64 x.key,.int .u8 x.typ,.string (str x.text),.slice ma x.marks.length mc],.slice pa ps.length pc] w (Ret w0 G L fun G' v=>∃ a' c',v=.slice a' (madesF x ps).length c'∧Au Kb 6 G' (.slice a' (madesF x ps).length c') (madesF x ps)):=by
 refine Ay (vs:=[_,_]) Tryz.func192 rfl (n:=82) rfl rfl<|Ac<|Cz M rfl rfl rfl<|?_;clear M;intro b1 w M
 refine Ab rfl<|Ac<|Ab rfl<|Ag<|Ag<|?_
 have bM:=SM.bound;have hio3:=hio.2.2.1;have hik':0≤x.key∧x.key≤18446744073709551615:=hik;refine Az<|Aa rfl<|B8 C7.k rfl<|Aa rfl<|Ax<|?_
 have M:=M.nilrow 193 6;intro a F;refine Bz (fun m a' w'=>∃ (i:Nat),∃ (ay:Option Addr),∃ (ny:Nat),∃ (cy:Nat),∃ (csy:List Value),m=ps.length - i∧∃ G2,Gle G G2∧Fits 82 a' [(2,.pointer (some ⟨b1,0,none⟩)),(10,.slice pa ps.length pc),(11,.int .i64 ((ps.length:Nat):Int)),(5,.slice ay ny cy),(12,.int .i64 ((i:Nat):Int))]∧Mem w0 G2 (.row (.slice ay ny cy) (ny) (csy) 193 6::.blk b1 [.int .u64 x.key,.int .u8 x.typ,.string (str x.text),.slice ma x.marks.length mc] 262::L) w'∧(i≤ps.length)∧(ny=(madesF x (ps.take i)).length)∧(Els Kb 6 G2 csy (madesF x (ps.take i)))) _ ⟨0,(none),(0),(0),([]),rfl,G,Gle.refl _,F.to ⟨rfl,rfl,rfl,rfl,rfl,trivial⟩,M,Nat.zero_le _,rfl,Els.nil⟩ ?_;clear F M;rintro m a w ⟨i,ay,ny,cy,csy,rfl,G2,hG2,F,M,hi,hny,Ey⟩;replace SM:=SM.mono Bi hG2;replace S:=S.mono mono_rdP hG2;revert a;refine Ac<|C2 rfl rfl<|Ag<|Ap rfl ?_ ?_
 ·intro h3b;have h3:=dT h3b;refine Aq<|Ag<|Ax<|Ag<|?_
  have hml:=Nc hio.2.2.1 (ps.take i);intro a F;rw [List.length_take] at hml;revert a;refine Az<|?_
  obtain ⟨Xe4,hXe4⟩:=A2 (xs:=ps) (i:=i) (by omega);obtain ⟨be4,oe4,_,Ie4,_,Ae4,hTe4⟩:=S.at hXe4;obtain ⟨tae4,tce4,kae4,kce4,rfl,hke4,hle4,SAe4,SKe4⟩:=Di hTe4;refine D0 C7.k Bn Ie4 rfl rfl<|Ar (fun a F=>Af Bn rfl (F.ev rfl) (cs:=[.int .u8 Xe4.kind,.string (str Xe4.tag),.string (str Xe4.key),.slice tae4 Xe4.as.length tce4,.string (str Xe4.text),.slice kae4 Xe4.kids.length kce4]) rfl (M.cellsA Ae4 0 (by omega) rfl)) rfl<|C9 M Bn rfl rfl<|?_;clear M;intro b5 w M
  intro a F;refine Cj F M Bn 0 ?_;clear F M a;intro w a M F;change Mem w0 G2 (.blk b5 [.int .u8 Xe4.kind,.string (str Xe4.tag),.string (str Xe4.key),.slice tae4 Xe4.as.length tce4,.string (str Xe4.text),.slice kae4 Xe4.kids.length kce4] 79::_::_::L) _ at M;revert a;refine Ag<|?_
  obtain ⟨nk,hOk⟩:=hok Xe4 (List.mem_of_getElem? hXe4);refine Az<|A0 Bn.k rfl rfl<|Bg Fa M 0 rfl rfl rfl rfl<|Ax<|Ac<|C3 rfl rfl<|Ab rfl<|Ap rfl ?_ ?_
  ·intro h7b;have h7:=dT h7b;intro a F;refine Fg [(.free,0),(.pure,1),(.pure,2),(.free,3),(.pure,4),(.pure,5),(.free,6),(.pure,7),(.keep,8),(.keep,9),(.keep,10),(.keep,11),(.free,12)] [] (Keep G2 [.blk b5 [.int .u8 Xe4.kind,.string (str Xe4.tag),.string (str Xe4.key),.slice tae4 Xe4.as.length tce4,.string (str Xe4.text),.slice kae4 Xe4.kids.length kce4] 79,.blk b1 [.int .u64 x.key,.int .u8 x.typ,.string (str x.text),.slice ma x.marks.length mc] 262]) rfl (by kernel_rfl) (fun c a d v w h=>by cases d <;> exact h) (Bo (M.drew _)) ?_;replace M:=M.drew (w.drawn+1);revert a;refine k_f (fun a F w _=>B1 F rfl) rfl<|k_p (fun a F w M=>Af Jc rfl (F.ev rfl) (cs:=[.int .u64 x.key,.int .u8 x.typ,.string (str x.text),.slice ma x.marks.length mc]) rfl (M.cellsL (k:=1) rfl rfl)) rfl<|k_p (fun a F w M=>Af Bn rfl (F.ev rfl) (cs:=[.int .u8 Xe4.kind,.string (str Xe4.tag),.string (str Xe4.key),.slice tae4 Xe4.as.length tce4,.string (str Xe4.text),.slice kae4 Xe4.kids.length kce4]) rfl (M.cellsL (k:=0) rfl rfl)) rfl<|k_f (fun a F w _=>Ce Bn.k rfl F rfl) rfl<|k_p (fun a F w M=>Al (agf Bq rfl) (F.ev rfl) (M.cellL (k:=0) rfl rfl)) rfl<|k_p (fun a F w M=>Af Jc rfl (F.ev rfl) (cs:=[.int .u64 x.key,.int .u8 x.typ,.string (str x.text),.slice ma x.marks.length mc]) rfl (M.cellsL (k:=1) rfl rfl)) rfl<|k_f (fun a F w _=>Ce Bn.k rfl F rfl) rfl<|k_p (fun a F w M=>Al (agf C7 rfl) (F.ev rfl) (M.cellL (k:=0) rfl rfl)) rfl<|k_k rfl<|Ge Aoe rfl rfl (ih Xe4 (List.mem_of_getElem? hXe4) _ _ _ _ _ _ _ _ M SM SKe4 (Afg hOk) (To hOk))<|?_;clear M;rintro _ Gk8 w hGk8 M ⟨ak8,ck8,rfl,Sk8⟩
   replace SM:=SM.mono Bi hGk8;replace S:=S.mono mono_rdP hGk8;replace Ey:=Ey.mono Hl hGk8;replace Ae4:=Ae4.mono hGk8;replace SAe4:=SAe4.mono mono_rdSlot hGk8;replace SKe4:=SKe4.mono mono_rdP hGk8;refine eK (C':=Keep Gk8 [.blk b5 [.int .u8 Xe4.kind,.string (str Xe4.tag),.string (str Xe4.key),.slice tae4 Xe4.as.length tce4,.string (str Xe4.text),.slice kae4 Xe4.kids.length kce4] 79,.blk b1 [.int .u64 x.key,.int .u8 x.typ,.string (str x.text),.slice ma x.marks.length mc] 262]) (Bo M) (fun w h=>h.mono hGk8 (by simp))<|k_k rfl<|Ge Aob rfl rfl (Tw (x:=x) (p:=Xe4) (kk:=Xe4.key) (ks:=madesF x Xe4.kids) M ht SM hik hke4 hle4 SAe4 SKe4 (Ju hOk (by omega)) Sk8)<|?_;clear M;rintro _ Gm9 w hGm9 M ⟨am9,rfl,SAm9,SKm9⟩
   replace SM:=SM.mono Bi hGm9;replace S:=S.mono mono_rdP hGm9;replace Ey:=Ey.mono Hl hGm9;replace Ae4:=Ae4.mono hGm9;replace SAe4:=SAe4.mono mono_rdSlot hGm9;replace SKe4:=SKe4.mono mono_rdP hGm9;replace Sk8:=Sk8.mono Hl hGm9;refine eK (C':=Keep Gm9 [.blk b5 [.int .u8 Xe4.kind,.string (str Xe4.tag),.string (str Xe4.key),.slice tae4 Xe4.as.length tce4,.string (str Xe4.text),.slice kae4 Xe4.kids.length kce4] 79,.blk b1 [.int .u64 x.key,.int .u8 x.typ,.string (str x.text),.slice ma x.marks.length mc] 262]) (Bo M) (fun w h=>h.mono hGm9 (by simp))<|k_k rfl<|fun a F=>?_
   refine Bk F M Cf.k Av rfl rfl (cs:=[.int .u8 1,.string (str Xe4.tag),.string (str Xe4.key),.slice am9 ((Xe4.as.map (Ch x)).length) ((Xe4.as.map (Ch x)).length),.string (str []),.slice ak8 ((madesF x Xe4.kids).length) ((madesF x Xe4.kids).length)]) rfl rfl (by simp [Value.oneCell']) (by decide) rfl ?_;clear F M a;intro v10 w a M F;obtain ⟨av10,cv10,rfl,hlev10,hcmv10,hlv10⟩:=M.row_shape (k:=0) rfl;revert a;refine eK (C':=Keep Gm9 [.blk b5 [.int .u8 Xe4.kind,.string (str Xe4.tag),.string (str Xe4.key),.slice tae4 Xe4.as.length tce4,.string (str Xe4.text),.slice kae4 Xe4.kids.length kce4] 79,.blk b1 [.int .u64 x.key,.int .u8 x.typ,.string (str x.text),.slice ma x.marks.length mc] 262]) (Bo M) (fun w h=>h.mono (Gle.refl _) (by simp))<|?_
   have E11:Els Kb 6 Gm9 [.int .u8 1,.string (str Xe4.tag),.string (str Xe4.key),.slice am9 ((Xe4.as.map (Ch x)).length) ((Xe4.as.map (Ch x)).length),.string (str []),.slice ak8 ((madesF x Xe4.kids).length) ((madesF x Xe4.kids).length)] [(.mk 1 Xe4.tag Xe4.key (Xe4.as.map (Ch x)) [] (madesF x Xe4.kids):NT)]:=Els.one (Ir (x:=(.mk 1 Xe4.tag Xe4.key (Xe4.as.map (Ch x)) [] (madesF x Xe4.kids):NT)) Ahb ⟨hle4.1,(by first | assumption | exact hle4.2.1),Nat.zero_le _⟩ SAm9 SKm9) rfl;refine k_k rfl<|fun a F=>?_
   refine Ci F M (k:=2) (k2:=0) rfl rfl Cf.k Av rfl rfl (by decide) rfl rfl (by show _ * 104≤_;(try simp only [List.length_drop,List.length_take,List.length_append,List.length_cons,List.length_nil]);omega) (by (try simp only [List.length_drop,List.length_take,List.length_append,List.length_cons,List.length_nil]);omega) rfl ?_;clear F M a;intro v12 w a M F;have Ev12:=Els.append Ey E11;obtain ⟨av12,cv12,rfl,hlev12,hcmv12,hlv12⟩:=M.row_shape (k:=2) rfl;revert a;refine eQ (Bo M)<|k_f (fun a F w _=>G8 F rfl) rfl<|De<|Az<|Bx rfl rfl<|Aa rfl<|Bc<|Cm<|fun a F=>?_
   exact ⟨_,by omega,i+1,(av12),(ny+1),(cv12),(csy++([.int .u8 1,.string (str Xe4.tag),.string (str Xe4.key),.slice am9 ((Xe4.as.map (Ch x)).length) ((Xe4.as.map (Ch x)).length),.string (str []),.slice ak8 ((madesF x Xe4.kids).length) ((madesF x Xe4.kids).length)])),rfl,Gm9,((hG2.trans hGk8).trans hGm9),F.to ⟨rfl,rfl,rfl,rfl,rfl,trivial⟩,(M.weaken (cN (.cons _ (cC (.cons_cons _ (sR _)))))),by omega,by rw [D5 hXe4,Ri (by assumption),List.length_append,← hny];rfl,by rw [D5 hXe4,Ri (by assumption)];exact Ev12⟩
  intro h13b;have h13:=dF h13b;refine Ac<|C3 rfl rfl<|Ab rfl<|Ap rfl ?_ ?_
  ·intro h14b;have h14:=dT h14b;refine Az<|Aa rfl<|A0 Bn.k rfl rfl<|Bg Bq M 0 rfl rfl rfl rfl<|Bs Yl rfl rfl (Kn (s:=Xe4.text) M)<|?_;clear M;rintro _ w M rfl
   intro a F;refine Bk F M Cf.k Av rfl rfl (cs:=[.int .u8 2,.string (str []),.string (str []),.slice none 0 0,.string (str Xe4.text),.slice none 0 0]) rfl rfl (by simp [Value.oneCell']) (by decide) rfl ?_;clear F M a;intro v15 w a M F;obtain ⟨av15,cv15,rfl,hlev15,hcmv15,hlv15⟩:=M.row_shape (k:=0) rfl;have E16:Els Kb 6 G2 [.int .u8 2,.string (str []),.string (str []),.slice none 0 0,.string (str Xe4.text),.slice none 0 0] [(Ct Xe4.text)]:=Els.one (Ir (x:=(Ct Xe4.text)) Xd ⟨Nat.zero_le _,Nat.zero_le _,(by first | assumption | exact hle4.2.2 | (have h_:=Ed x.key.toNat (by omega);show (Lib.decDigits x.key.toNat).length≤_;omega))⟩ Au.nil Au.nil) rfl;refine Ci F M (k:=2) (k2:=0) rfl rfl Cf.k Av rfl rfl (by decide) rfl rfl (by show _ * 104≤_;(try simp only [List.length_drop,List.length_take,List.length_append,List.length_cons,List.length_nil]);omega) (by (try simp only [List.length_drop,List.length_take,List.length_append,List.length_cons,List.length_nil]);omega) rfl ?_;clear F M a;intro v17 w a M F;have Ev17:=Els.append Ey E16;obtain ⟨av17,cv17,rfl,hlev17,hcmv17,hlv17⟩:=M.row_shape (k:=2) rfl;revert a;refine Ab rfl<|Az<|Bx rfl rfl<|Aa rfl<|Bc<|Cm<|fun a F=>?_
   exact ⟨_,by omega,i+1,(av17),(ny+1),(cv17),(csy++([.int .u8 2,.string (str []),.string (str []),.slice none 0 0,.string (str Xe4.text),.slice none 0 0])),rfl,G2,hG2,F.to ⟨rfl,rfl,rfl,rfl,rfl,trivial⟩,(M.weaken (cN (.cons _ (cC (.cons_cons _ (sR _)))))),by omega,by rw [D5 hXe4,Afr (by assumption),List.length_append,← hny];rfl,by rw [D5 hXe4,Afr (by assumption)];exact Ev17⟩
  intro h18b;have h18:=dF h18b;refine Ac<|C3 rfl rfl<|Ab rfl<|Ap rfl ?_ ?_
  ·intro h19b;have h19:=dT h19b;refine Az<|Aa rfl<|A0 Jc.k rfl rfl<|A0 Bf.k rfl rfl<|Bg Bq M 2 rfl rfl rfl rfl<|Bs Yl rfl rfl (Kn (s:=x.text) M)<|?_;clear M;rintro _ w M rfl
   intro a F;refine Bk F M Cf.k Av rfl rfl (cs:=[.int .u8 2,.string (str []),.string (str []),.slice none 0 0,.string (str x.text),.slice none 0 0]) rfl rfl (by simp [Value.oneCell']) (by decide) rfl ?_;clear F M a;intro v20 w a M F;obtain ⟨av20,cv20,rfl,hlev20,hcmv20,hlv20⟩:=M.row_shape (k:=0) rfl;have E21:Els Kb 6 G2 [.int .u8 2,.string (str []),.string (str []),.slice none 0 0,.string (str x.text),.slice none 0 0] [(Ct x.text)]:=Els.one (Ir (x:=(Ct x.text)) Xd ⟨Nat.zero_le _,Nat.zero_le _,(by first | assumption | exact hle4.2.2 | (have h_:=Ed x.key.toNat (by omega);show (Lib.decDigits x.key.toNat).length≤_;omega))⟩ Au.nil Au.nil) rfl;refine Ci F M (k:=2) (k2:=0) rfl rfl Cf.k Av rfl rfl (by decide) rfl rfl (by show _ * 104≤_;(try simp only [List.length_drop,List.length_take,List.length_append,List.length_cons,List.length_nil]);omega) (by (try simp only [List.length_drop,List.length_take,List.length_append,List.length_cons,List.length_nil]);omega) rfl ?_;clear F M a;intro v22 w a M F;have Ev22:=Els.append Ey E21;obtain ⟨av22,cv22,rfl,hlev22,hcmv22,hlv22⟩:=M.row_shape (k:=2) rfl;revert a;refine Ab rfl<|Az<|Bx rfl rfl<|Aa rfl<|Bc<|Cm<|fun a F=>?_
   exact ⟨_,by omega,i+1,(av22),(ny+1),(cv22),(csy++([.int .u8 2,.string (str []),.string (str []),.slice none 0 0,.string (str x.text),.slice none 0 0])),rfl,G2,hG2,F.to ⟨rfl,rfl,rfl,rfl,rfl,trivial⟩,(M.weaken (cN (.cons _ (cC (.cons_cons _ (sR _)))))),by omega,by rw [D5 hXe4,Afq (by assumption),List.length_append,← hny];rfl,by rw [D5 hXe4,Afq (by assumption)];exact Ev22⟩
  intro h23b;have h23:=dF h23b;refine Ac<|C3 rfl rfl<|Ab rfl<|Ap rfl ?_ ?_
  ·intro h24b;have h24:=dT h24b;refine Az<|Aa rfl<|A0 Jc.k rfl rfl<|A0 Bf.k rfl rfl<|Bg El M 2 rfl rfl rfl rfl<|?_
   have hu25:(x.key:Int)=(((x.key).toNat:Nat):Int):=by omega
   intro a F;rw [hu25] at F;revert a;refine Bs Aec rfl rfl (Qr (u:=(x.key).toNat) M (by omega))<|?_;clear M;rintro _ w M rfl
   refine Bs Yl rfl rfl (Kn (s:=Lib.decDigits ((x.key).toNat)) M)<|?_;clear M;rintro _ w M rfl
   intro a F;refine Bk F M Cf.k Av rfl rfl (cs:=[.int .u8 2,.string (str []),.string (str []),.slice none 0 0,.string (str (Lib.decDigits ((x.key).toNat))),.slice none 0 0]) rfl rfl (by simp [Value.oneCell']) (by decide) rfl ?_;clear F M a;intro v26 w a M F;obtain ⟨av26,cv26,rfl,hlev26,hcmv26,hlv26⟩:=M.row_shape (k:=0) rfl;have E27:Els Kb 6 G2 [.int .u8 2,.string (str []),.string (str []),.slice none 0 0,.string (str (Lib.decDigits ((x.key).toNat))),.slice none 0 0] [(Ct (Lib.decDigits ((x.key).toNat)))]:=Els.one (Ir (x:=(Ct (Lib.decDigits ((x.key).toNat)))) Xd ⟨Nat.zero_le _,Nat.zero_le _,(by first | assumption | exact hle4.2.2 | (have h_:=Ed x.key.toNat (by omega);show (Lib.decDigits x.key.toNat).length≤_;omega))⟩ Au.nil Au.nil) rfl;refine Ci F M (k:=2) (k2:=0) rfl rfl Cf.k Av rfl rfl (by decide) rfl rfl (by show _ * 104≤_;(try simp only [List.length_drop,List.length_take,List.length_append,List.length_cons,List.length_nil]);omega) (by (try simp only [List.length_drop,List.length_take,List.length_append,List.length_cons,List.length_nil]);omega) rfl ?_;clear F M a;intro v28 w a M F;have Ev28:=Els.append Ey E27;obtain ⟨av28,cv28,rfl,hlev28,hcmv28,hlv28⟩:=M.row_shape (k:=2) rfl;revert a;refine Ab rfl<|Az<|Bx rfl rfl<|Aa rfl<|Bc<|Cm<|fun a F=>?_
   exact ⟨_,by omega,i+1,(av28),(ny+1),(cv28),(csy++([.int .u8 2,.string (str []),.string (str []),.slice none 0 0,.string (str (Lib.decDigits ((x.key).toNat))),.slice none 0 0])),rfl,G2,hG2,F.to ⟨rfl,rfl,rfl,rfl,rfl,trivial⟩,(M.weaken (cN (.cons _ (cC (.cons_cons _ (sR _)))))),by omega,by rw [D5 hXe4,Afp (by assumption),List.length_append,← hny];rfl,by rw [D5 hXe4,Afp (by assumption)];exact Ev28⟩
  intro h29b;have h29:=dF h29b;refine Ac<|C3 rfl rfl<|Ab rfl<|Ap rfl ?_ ?_
  ·intro h30b;have h30:=dT h30b;refine Ac<|A0 Jc.k rfl rfl<|A0 Bf.k rfl rfl<|Bg Cw M 2 rfl rfl rfl rfl<|B8 Cw.k rfl<|Aa rfl<|Ax<|fun a F=>Bz (fun m a' w'=>∃ (j:Nat),∃ (az:Option Addr),∃ (nz:Nat),∃ (cz:Nat),∃ (csz:List Value),m=x.marks.length - j∧∃ G31,Gle G2 G31∧Fits 82 a' [(2,.pointer (some ⟨b1,0,none⟩)),(7,.pointer (some ⟨b5,0,none⟩)),(10,.slice pa ps.length pc),(11,.int .i64 ((ps.length:Nat):Int)),(12,.int .i64 ((i:Nat):Int)),(63,.slice ma x.marks.length mc),(64,.int .i64 ((x.marks.length:Nat):Int)),(5,.slice az nz cz),(65,.int .i64 ((j:Nat):Int))]∧Mem w0 G31 (.blk b5 [.int .u8 Xe4.kind,.string (str Xe4.tag),.string (str Xe4.key),.slice tae4 Xe4.as.length tce4,.string (str Xe4.text),.slice kae4 Xe4.kids.length kce4] 79::.row (.slice az nz cz) (nz) (csz) 193 6::.blk b1 [.int .u64 x.key,.int .u8 x.typ,.string (str x.text),.slice ma x.marks.length mc] 262::L) w'∧(j≤x.marks.length)∧(nz=(madesF x (ps.take i)++(x.marks.take j).map (Wu x Xe4.tag Xe4.as)).length)∧(Els Kb 6 G31 csz (madesF x (ps.take i)++(x.marks.take j).map (Wu x Xe4.tag Xe4.as)))) _ ⟨0,(ay),(ny),(cy),(csy),rfl,G2,Gle.refl _,F.to ⟨rfl,rfl,rfl,rfl,rfl,rfl,rfl,rfl,rfl,trivial⟩,M,Nat.zero_le _,by simp [← hny],by simpa using Ey⟩ ?_
   clear F M;rintro m a w ⟨j,az,nz,cz,csz,rfl,G31,hG31,F,M,hj,hnz,Ez⟩;replace SM:=SM.mono Bi hG31;replace S:=S.mono mono_rdP hG31;replace Ae4:=Ae4.mono hG31;replace SAe4:=SAe4.mono mono_rdSlot hG31;replace SKe4:=SKe4.mono mono_rdP hG31;revert a;refine Ac<|C2 rfl rfl<|Ag<|Ap rfl ?_ ?_
   ·intro h32b;have h32:=dT h32b;refine Aq<|Ag<|Ax<|Ag<|?_
    have hnz2:nz≤200:=by rw [hnz,List.length_append,List.length_map,List.length_take];omega
    refine Az<|?_
    obtain ⟨Xe33,hXe33⟩:=A2 (xs:=x.marks) (i:=j) (by omega);obtain ⟨be33,oe33,_,Ie33,_,Ae33,⟨rfl,hsle33⟩⟩:=SM.at hXe33;refine D0 Cw.k Bq Ie33 rfl rfl<|Dq Bq M Ae33 0 rfl rfl (by omega) rfl<|Ab rfl<|Bc<|Cm<|fun a F=>Fg [(.free,0),(.pure,1),(.pure,2),(.free,3),(.free,4),(.keep,5),(.keep,6),(.keep,7),(.keep,8),(.keep,9),(.free,10)] [] (Keep G31 [.blk b5 [.int .u8 Xe4.kind,.string (str Xe4.tag),.string (str Xe4.key),.slice tae4 Xe4.as.length tce4,.string (str Xe4.text),.slice kae4 Xe4.kids.length kce4] 79,.blk b1 [.int .u64 x.key,.int .u8 x.typ,.string (str x.text),.slice ma x.marks.length mc] 262]) rfl (by kernel_rfl) (fun c a d v w h=>by cases d <;> exact h) (Bo (M.drew _)) ?_
    replace M:=M.drew (w.drawn+1);revert a;refine k_f (fun a F w _=>B1 F rfl) rfl<|k_p (fun a F w M=>Af Jc rfl (F.ev rfl) (cs:=[.int .u64 x.key,.int .u8 x.typ,.string (str x.text),.slice ma x.marks.length mc]) rfl (M.cellsL (k:=1) rfl rfl)) rfl<|k_p (fun a F w M=>Af Bn rfl (F.ev rfl) (cs:=[.int .u8 Xe4.kind,.string (str Xe4.tag),.string (str Xe4.key),.slice tae4 Xe4.as.length tce4,.string (str Xe4.text),.slice kae4 Xe4.kids.length kce4]) rfl (M.cellsL (k:=0) rfl rfl)) rfl<|k_f (fun a F w _=>B1 F rfl) rfl<|k_f (fun a F w _=>B1 F rfl) rfl<|k_k rfl<|Bs Yl rfl rfl (Kn (s:=Xe33) M)<|?_;clear M;rintro _ w M rfl
    refine eQ (Bo M)<|k_k rfl<|fun a F=>?_
    refine Bk F M Cf.k Av rfl rfl (cs:=[.int .u8 2,.string (str []),.string (str []),.slice none 0 0,.string (str Xe33),.slice none 0 0]) rfl rfl (by simp [Value.oneCell']) (by decide) rfl ?_;clear F M a;intro v34 w a M F;obtain ⟨av34,cv34,rfl,hlev34,hcmv34,hlv34⟩:=M.row_shape (k:=0) rfl;revert a;refine eQ (Bo M)<|?_
    have E35:Els Kb 6 G31 [.int .u8 2,.string (str []),.string (str []),.slice none 0 0,.string (str Xe33),.slice none 0 0] [(Ct Xe33)]:=Els.one (Ir (x:=(Ct Xe33)) Xd ⟨Nat.zero_le _,Nat.zero_le _,(by first | assumption | exact hle4.2.2 | (have h_:=Ed x.key.toNat (by omega);show (Lib.decDigits x.key.toNat).length≤_;omega))⟩ Au.nil Au.nil) rfl;obtain ⟨hnz36,Gz36,az36,cz36,hGz36,hez36,Sz36,M⟩:=M.freeze_row Hl (k:=0) rfl E35 (by decide);clear hez36 az36 cz36;replace SM:=SM.mono Bi hGz36;replace S:=S.mono mono_rdP hGz36;replace Ae4:=Ae4.mono hGz36;replace SAe4:=SAe4.mono mono_rdSlot hGz36;replace SKe4:=SKe4.mono mono_rdP hGz36;replace Ez:=Ez.mono Hl hGz36;replace Ae33:=Ae33.mono hGz36;clear hnz36;replace Sz36:Au Kb 6 Gz36 (.slice av34 ([(Ct Xe33)]).length (cv34)) ([(Ct Xe33)]):=Sz36;refine k_k rfl<|Ge Aob rfl rfl (Tw (x:=x) (p:=Xe4) (kk:=Xe33) (ks:=[(Ct Xe33)]) M ht SM hik hke4 hle4 SAe4 SKe4 (Ju hOk (by omega)) Sz36)<|?_;clear M;rintro _ Gm37 w hGm37 M ⟨am37,rfl,SAm37,SKm37⟩
    replace SM:=SM.mono Bi hGm37;replace S:=S.mono mono_rdP hGm37;replace Ae4:=Ae4.mono hGm37;replace SAe4:=SAe4.mono mono_rdSlot hGm37;replace SKe4:=SKe4.mono mono_rdP hGm37;replace Ez:=Ez.mono Hl hGm37;replace Ae33:=Ae33.mono hGm37;replace Sz36:=Sz36.mono Hl hGm37;refine eK (C':=Keep Gm37 [.blk b5 [.int .u8 Xe4.kind,.string (str Xe4.tag),.string (str Xe4.key),.slice tae4 Xe4.as.length tce4,.string (str Xe4.text),.slice kae4 Xe4.kids.length kce4] 79,.blk b1 [.int .u64 x.key,.int .u8 x.typ,.string (str x.text),.slice ma x.marks.length mc] 262]) (Bo M) (fun w h=>h.mono (hGz36.trans hGm37) (by simp))<|k_k rfl<|fun a F=>?_
    refine Bk F M Cf.k Av rfl rfl (cs:=[.int .u8 1,.string (str Xe4.tag),.string (str Xe33),.slice am37 ((Xe4.as.map (Ch x)).length) ((Xe4.as.map (Ch x)).length),.string (str []),.slice av34 (([(Ct Xe33)]).length) (([(Ct Xe33)]).length)]) rfl rfl (by simp [Value.oneCell']) (by decide) rfl ?_;clear F M a;intro v38 w a M F;obtain ⟨av38,cv38,rfl,hlev38,hcmv38,hlv38⟩:=M.row_shape (k:=0) rfl;revert a;refine eK (C':=Keep Gm37 [.blk b5 [.int .u8 Xe4.kind,.string (str Xe4.tag),.string (str Xe4.key),.slice tae4 Xe4.as.length tce4,.string (str Xe4.text),.slice kae4 Xe4.kids.length kce4] 79,.blk b1 [.int .u64 x.key,.int .u8 x.typ,.string (str x.text),.slice ma x.marks.length mc] 262]) (Bo M) (fun w h=>h.mono (Gle.refl _) (by simp))<|?_
    have E39:Els Kb 6 Gm37 [.int .u8 1,.string (str Xe4.tag),.string (str Xe33),.slice am37 ((Xe4.as.map (Ch x)).length) ((Xe4.as.map (Ch x)).length),.string (str []),.slice av34 (([(Ct Xe33)]).length) (([(Ct Xe33)]).length)] [(.mk 1 Xe4.tag Xe33 (Xe4.as.map (Ch x)) [] ([(Ct Xe33)]):NT)]:=Els.one (Ir (x:=(.mk 1 Xe4.tag Xe33 (Xe4.as.map (Ch x)) [] ([(Ct Xe33)]):NT)) Ahb ⟨hle4.1,(by first | assumption | exact hle4.2.1),Nat.zero_le _⟩ SAm37 SKm37) rfl;refine k_k rfl<|fun a F=>?_
    refine Ci F M (k:=2) (k2:=0) rfl rfl Cf.k Av rfl rfl (by decide) rfl rfl (by show _ * 104≤_;(try simp only [List.length_drop,List.length_take,List.length_append,List.length_cons,List.length_nil]);omega) (by (try simp only [List.length_drop,List.length_take,List.length_append,List.length_cons,List.length_nil]);omega) rfl ?_;clear F M a;intro v40 w a M F;have Ev40:=Els.append Ez E39;obtain ⟨av40,cv40,rfl,hlev40,hcmv40,hlv40⟩:=M.row_shape (k:=2) rfl;revert a;refine eQ (Bo M)<|k_f (fun a F w _=>G8 F rfl) rfl<|De<|Az<|Bx rfl rfl<|Aa rfl<|Bc<|Cm<|fun a F=>?_
    exact ⟨_,by omega,j+1,(av40),(nz+1),(cv40),(csz++([.int .u8 1,.string (str Xe4.tag),.string (str Xe33),.slice am37 ((Xe4.as.map (Ch x)).length) ((Xe4.as.map (Ch x)).length),.string (str []),.slice av34 (([(Ct Xe33)]).length) (([(Ct Xe33)]).length)])),rfl,Gm37,((hG31.trans hGz36).trans hGm37),F.to ⟨rfl,rfl,rfl,rfl,rfl,rfl,rfl,rfl,rfl,trivial⟩,(M.weaken (cN (cC (.cons_cons _ (cC (sR _)))))),by omega,by rw [Jy hXe33,← List.append_assoc,List.length_append,← hnz];rfl,by rw [Jy hXe33,← List.append_assoc];exact Ev40⟩
   intro h41b;have h41:=dF h41b;refine B5<|Bw<|Bw<|Dj<|Az<|Bx rfl rfl<|Aa rfl<|Bc<|Cm<|fun a F=>?_
   exact ⟨_,by omega,i+1,(az),(nz),(cz),(csz),rfl,G31,(hG2.trans hG31),F.to ⟨rfl,rfl,rfl,rfl,rfl,trivial⟩,(M.weaken (cN (cC (.cons_cons _ (sR _))))),by omega,by rw [D5 hXe4,Afo (by assumption)];rw [List.take_of_length_le (l:=x.marks) (by omega)] at hnz;exact hnz,by rw [D5 hXe4,Afo (by assumption)];rw [List.take_of_length_le (l:=x.marks) (by omega)] at Ez;exact Ez⟩
  intro h42b;have h42:=dF h42b;refine Aq<|Az<|Bx rfl rfl<|Aa rfl<|Bc<|Cm<|fun a F=>?_
  exact ⟨_,by omega,i+1,(ay),(ny),(cy),(csy),rfl,G2,hG2,F.to ⟨rfl,rfl,rfl,rfl,rfl,trivial⟩,(M.weaken (cN (cC (.cons_cons _ (sR _))))),by omega,by rw [D5 hXe4,made0 (by assumption) (by assumption) (by assumption) (by assumption) (by assumption),List.append_nil];exact hny,by rw [D5 hXe4,made0 (by assumption) (by assumption) (by assumption) (by assumption) (by assumption),List.append_nil];exact Ey⟩
 intro h43b;have h43:=dF h43b;refine B5<|Bw<|Bw<|Dj<|Ac<|Aa rfl<|Ab rfl<|Ae<|Ad rfl rfl<|?_
 rw [List.take_of_length_le (by omega)] at hny Ey;obtain ⟨hnz44,Gz44,az44,cz44,hGz44,hez44,Sz44,M⟩:=M.freeze_row Hl (k:=0) rfl Ey (by decide);clear hez44 az44 cz44
 exact ⟨Gz44,(hG2.trans hGz44),M.weaken dS1,_,_,by rw [hny],by have h_:=Sz44;rw [hny] at h_;exact h_⟩
theorem Aio {x:ItemD} (hik:Bb .u64 x.key) (hio:ItemOk x) (ht:x.text.length≤9223372036854775807) (ps:List PT):Apv x ps:=by
 suffices h:∀ n (ps:List PT),Tr.sizes ps≤n→Apv x ps from h _ ps (Nat.le_refl _)
 intro n
 induction n with
 | zero=>intro ps hn w0 w G L ma pa mc pc M SM S hps hok;exact Tv hik hio ht (fun p hp=>by have:=Nv hp;omega) M SM S hps hok
 | succ n ih=>intro ps hn w0 w G L ma pa mc pc M SM S hps hok;exact Tv hik hio ht (fun p hp=>ih _ (by have:=Nv hp;omega)) M SM S hps hok
end Go.Proofs.YtmmhmcplegpenaaGreatDoor.T
