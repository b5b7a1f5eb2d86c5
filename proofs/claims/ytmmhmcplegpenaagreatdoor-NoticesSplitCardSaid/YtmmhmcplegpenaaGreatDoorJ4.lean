/- The walks, part TJ. · The walks, part TK. · The walks, part TL. -/
import Derived.Test.YtmmhmcplegpenaaGreatDoorJ3
set_option linter.unusedSimpArgs false
set_option linter.unusedVariables false
set_option maxRecDepth 10000
namespace Go.Proofs.YtmmhmcplegpenaaGreatDoor.T
open Go Go.Y Go.Proofs
variable {w0 w:World} {G:Aq} {L:List Res}
set_option maxHeartbeats 1600000
def Vd:Nat→Rd NT
 | 0=>fun _ _ _=>False
 | d+1=>fun G cs x=>∃ a1 a2,cs=[.int .u8 x.kind,.string (str x.tag),.string (str x.key),.slice a1 x.as.length x.as.length,.string (str x.text),.slice a2 x.kids.length x.kids.length] ∧
   Au .u8 x.kind∧(x.tag.length≤9223372036854775807∧x.key.length≤9223372036854775807∧x.text.length≤9223372036854775807) ∧
   Ag Dy 2 G (.slice a1 x.as.length x.as.length) x.as∧Ag (Vd d) 6 G (.slice a2 x.kids.length x.kids.length) x.kids
def Jj:Rd NT:=fun G cs x=>∃ d,Vd d G cs x
theorem Agx:∀ {d:Nat} {G:Aq} {cs:List Value} {x:NT},Vd d G cs x→Vd (d+1) G cs x
 | 0,_,_,_,h=>h.elim
 | d+1,G,cs,x,⟨a1,a2,h1,h2,h3,h4,h5⟩=>⟨a1,a2,h1,h2,h3,h4,h5.imp fun _ _ h=>Agx h⟩
theorem Agy {d e:Nat} {G:Aq} {cs:List Value} {x:NT} (h:Vd d G cs x) (hd:d≤e):Vd e G cs x:=by
 induction hd with
 | refl=>exact h
 | step _ ih=>exact Agx ih
theorem Wm:∀ d:Nat,Ho (Vd d)
 | 0=>fun _ _ _ _ _ h=>h
 | d+1=>fun G G' cs x hg ⟨a1,a2,h1,h2,h3,h4,h5⟩=>⟨a1,a2,h1,h2,h3,h4.mono Df hg,h5.mono (Wm d) hg⟩
theorem Gn:Ho (Jj):=fun G G' cs x hg ⟨d,h⟩=>⟨d,Wm d G G' cs x hg h⟩
theorem Ake {G : Aq} {cs : List Value} {x : NT} (h : Jj G cs x) : ∃ a1 a2, cs = [.int .u8 x.kind, .string (str x.tag), .string (str x.key), .slice a1 x.as.length x.as.length, .string (str x.text), .slice a2 x.kids.length x.kids.length] ∧
      Au .u8 x.kind∧(x.tag.length≤9223372036854775807∧x.key.length≤9223372036854775807∧x.text.length≤9223372036854775807) ∧
      Ag Dy 2 G (.slice a1 x.as.length x.as.length) x.as∧Ag (Jj) 6 G (.slice a2 x.kids.length x.kids.length) x.kids:=by
  obtain ⟨d,h⟩:=h
  cases d with
  | zero=>exact h.elim
  | succ d =>
    obtain ⟨a1,a2,h1,h2,h3,h4,h5⟩:=h
    exact ⟨a1,a2,h1,h2,h3,h4,h5.imp fun _ _ h=>⟨d,h⟩⟩
theorem Aeu {G:Aq} {v:Value} {xs:List NT} (S:Ag (Jj) 6 G v xs):∃ d,Ag (Vd d) 6 G v xs:=by
 obtain ⟨a,c,h1,h2,h3,h4⟩:=S
 rcases h4 with h4 | ⟨b,o,h5,h6⟩
 ·exact ⟨0,a,c,h1,h2,h3,Or.inl h4⟩
 ·have key:∀ n,∃ d,∀ i x,i < n→xs[i]?=some x→∃ cs:List Value,cs.length=6∧(∀ u∈cs,u.oneCell' = true)∧At G b (o+i * 6) cs∧Vd d G cs x:=by
   intro n
   induction n with
   | zero=>exact ⟨0,fun i x h=>by omega⟩
   | succ n ih =>
    obtain ⟨d,hd⟩:=ih
    cases hx:xs[n]? with
    | none =>
     refine ⟨d,fun i x hi hi2=>?_⟩
     rcases Nat.lt_or_ge i n with h | h
     ·exact hd i x h hi2
     ·have:i=n:=by omega
      subst this;rw [hx] at hi2;cases hi2
    | some y =>
     obtain ⟨cs,q1,q2,q3,e,q4⟩:=h6 n y hx;refine ⟨max d e,fun i x hi hi2=>?_⟩
     rcases Nat.lt_or_ge i n with h | h
     ·obtain ⟨cs',r1,r2,r3,r4⟩:=hd i x h hi2
      exact ⟨cs',r1,r2,r3,Agy r4 (by omega)⟩
     ·have:i=n:=by omega
      subst this;rw [hx] at hi2;simp only [Option.some.injEq] at hi2;subst hi2
      exact ⟨cs,q1,q2,q3,Agy q4 (by omega)⟩
  obtain ⟨d,hd⟩:=key xs.length;refine ⟨d,a,c,h1,h2,h3,Or.inr ⟨b,o,h5,fun i x hx=>hd i x ?_ hx⟩⟩
  rcases Nat.lt_or_ge i xs.length with h | h
  ·exact h
  ·rw [List.getElem?_eq_none h] at hx;cases hx
theorem Hx {G:Aq} {a1 a2:Option Addr} {x:NT} (h2:Au .u8 x.kind) (h3:x.tag.length≤9223372036854775807∧x.key.length≤9223372036854775807∧x.text.length≤9223372036854775807)
  (h4:Ag Dy 2 G (.slice a1 x.as.length x.as.length) x.as) (h5:Ag (Jj) 6 G (.slice a2 x.kids.length x.kids.length) x.kids) :
  Jj G [.int .u8 x.kind,.string (str x.tag),.string (str x.key),.slice a1 x.as.length x.as.length,.string (str x.text),.slice a2 x.kids.length x.kids.length] x:=by
 obtain ⟨d,h5⟩:=Aeu h5
 exact ⟨d+1,a1,a2,rfl,h2,h3,h4,h5⟩
theorem V7:∀ {d:Nat} {G:Aq} {cs:List Value} {x:NT},Vd d G cs x→Ve Dy 2 d G cs x
 | 0,_,_,_,h=>h.elim
 | d+1,_,_,_,⟨a1,a2,h1,h2,h3,h4,h5⟩=>⟨a1,_,a2,_,h1,h2,h3,h4,h5.imp fun _ _ h=>V7 h⟩
theorem weakN {G:Aq} {v:Value} {xs:List NT} (h:Ag Jj 6 G v xs):Ag rdN 6 G v xs:=h.imp fun _ _ ⟨d,h⟩=>⟨d,V7 h⟩
theorem Abs (M:Mem w0 G L w) {x:ItemD} {ma:Option Addr} {mc:Nat} (ht:x.text.length≤9223372036854775807) (SM:Ag Cf 1 G (.slice ma x.marks.length mc) x.marks) (hik:Au .u64 x.key) {ad:Option Addr} {cd:Nat} {xs:List SlotD} (S:Ag rdSlot 3 G (.slice ad xs.length cd) xs) (hxs:xs.length≤8) (hsrc:∀ s∈xs,s.src≤3):Calls Tryz.prog 230 #[.agg #[.int .u64 x.key,.int .u8 x.typ,.string (str x.text),.slice ma x.marks.length mc],.slice ad xs.length cd] w (Ret w0 G L fun G' v=>∃ a',v=.slice a' ((xs).map (Bq x)).length ((xs).map (Bq x)).length∧Ag Dy 2 G' (.slice a' ((xs).map (Bq x)).length ((xs).map (Bq x)).length) ((xs).map (Bq x))):=by
 refine Al (vs:=[_,_]) Tryz.func230 rfl (n:=45) rfl rfl<|?_
 refine Bt<|?_
 refine B2 M rfl rfl rfl<|?_;clear M;intro b1 w M
 refine wk ?_;intro a F;refine Ox (rd:=Dy) (Z:=⟨[],[]⟩) F M X0.k I6 rfl (by decide) rfl rfl (l:=xs.length) (by omega) rfl (by omega) (by show 32 * _≤_;omega) (by omega) (by simp [Amw,Value.cells,Value.oneCell']) (⟨rfl,Nat.zero_le _,Nat.zero_le _⟩) rfl ?_;clear F M a;intro bv2 csv2 w a M Ev2 F;revert a;refine wk ?_;have bM:=SM.bound;have hik':0≤x.key∧x.key≤18446744073709551615:=hik;refine wk ?_;refine fun a F=>Ba (fun m a' w'=>∃ (i:Nat),∃ (cso:List Value),∃ (ys:List AttrD),m=xs.length - i∧Fits 45 a' [(1,.slice ad xs.length cd),(2,.pointer (some ⟨b1,0,none⟩)),(5,.slice (some ⟨bv2,0,none⟩) (xs.length) (xs.length)),(11,.slice ad xs.length cd),(12,.int .i64 ((xs.length:Nat):Int)),(13,.int .i64 ((i:Nat):Int))]∧Mem w0 G (.row (.slice (some ⟨bv2,0,none⟩) (xs.length) (xs.length)) (xs.length) (cso) 282 2::.blk b1 [.int .u64 x.key,.int .u8 x.typ,.string (str x.text),.slice ma x.marks.length mc] 262::L) w'∧(i≤xs.length)∧(ys=(xs.take i).map (Bq x)++List.replicate (xs.length - i) ⟨[],[]⟩)∧(Els Dy 2 G cso ys)) _ ⟨0,csv2,_,rfl,F.to ⟨rfl,rfl,rfl,rfl,rfl,rfl,trivial⟩,M,Nat.zero_le _,by simp,Ev2⟩ ?_;clear F M;rintro m a w ⟨i,cso,ys,rfl,F,M,hi,hys,Eo⟩;revert a;refine wk ?_;refine qD rfl ?_ ?_
 ·intro h3;refine wk ?_;obtain ⟨Xe4,hXe4⟩:=Ap (xs:=xs) (i:=i) (by omega);obtain ⟨be4,oe4,_,Ie4,_,Ae4,⟨rfl,hn1e4,hk1e4,hv1e4⟩⟩:=S.at hXe4;refine wk ?_;refine B1 M Fa rfl rfl<|?_;clear M;intro b5 w M
  refine Ew rfl<|?_
  intro a F;refine Be F M Fa 0 ?_;clear F M a;intro w a M F;revert a;refine Ao<|F1<|?_
  have hyl:ys.length=xs.length:=by rw [hys];simp;omega
  intro a F;refine D5 [(.free,0),(.free,1),(.free,2),(.pure,3),(.free,4),(.pure,5),(.free,6),(.free,7),(.pure,8),(.free,9),(.free,10),(.pure,11),(.free,13),(.free,14),(.pure,15),(.pure,16),(.free,17),(.free,20),(.pure,21),(.keep,12),(.keep,18),(.free,19),(.free,22),(.free,23),(.free,24),(.keep,25)] [] (Keep G [.blk b5 [.string (str Xe4.n),.int .u8 Xe4.src,.string (str Xe4.v)] 189,.blk b1 [.int .u64 x.key,.int .u8 x.typ,.string (str x.text),.slice ma x.marks.length mc] 262]) rfl (by kernel_rfl) (fun c a d v w h=>by cases d <;> exact h) (Ax (M.drew _)) ?_;replace M:=M.drew (w.drawn+1);revert a;refine wk ?_;refine k_f (fun a F w _=>Bh H4.k ⟨_,by rw [Bo Cq.k]⟩ (F.ev rfl) (Jc (by omega) (by omega))) rfl<|?_
  refine wk ?_;refine k_k rfl<|?_
  have hu7:(x.key:Int)=(((x.key).toNat:Nat):Int):=by omega
  intro a F;rw [hu7] at F;revert a;refine A4 Afv rfl rfl (Qp (u:=(x.key).toNat) M (by omega))<|?_;clear M;rintro _ w M rfl
  refine Ao<|?_
  refine eQ (Ax M)<|k_k rfl<|A4 Afv rfl rfl (Qp (u:=x.marks.length) M (by omega))<|?_;clear M;rintro _ w M rfl
  refine Ao<|?_
  refine eQ (Ax M)<|k_f (fun a F w _=>Em F (ps:=[(0,.string (str Xe4.v)),(1,.string (str x.text)),(2,.string (str (Lib.decDigits ((x.key).toNat)))),(3,.string (str (Lib.decDigits x.marks.length)))]) (cs:=[.string (str Xe4.v),.string (str x.text),.string (str (Lib.decDigits ((x.key).toNat))),.string (str (Lib.decDigits x.marks.length))]) Xx.k Xx Ej rfl rfl) rfl<|?_
  have hsr:=hsrc Xe4 (List.mem_of_getElem? hXe4);have hu4:=J9 hk1e4;refine k_f (fun a F w _=>S3 (j:=Xe4.src.toNat) (v:=.string (str (Hl x Xe4))) Xx.k Ej rfl rfl (F.ev rfl) (F.ev rfl) (by omega) (by omega) (pick4 hu4.1 hsr)) rfl<|k_f (fun a F w _=>Ah (cs:=[.string (str Xe4.n),.string (str (Hl x Xe4))]) (ps:=[(0,.string (str Xe4.n)),(1,.string (str (Hl x Xe4)))]) I6.k rfl I6 (F.evp rfl) rfl) rfl<|?_
  obtain ⟨Xe8,hXe8⟩:=Ap (xs:=ys) (i:=i) (by omega);obtain ⟨be8,_,Ie8,hme8,_,Ae8,⟨rfl,hn1e8,hv1e8⟩⟩:=M.atRow (k:=1) rfl (by decide) Eo hXe8;refine wk ?_;refine k_k rfl<|fun a F=>?_
  refine Kx F M I6 (k:=1) rfl rfl Eo Ie8 (A0 hXe8) rfl rfl (us:=[.string (str Xe4.n),.string (str (Hl x Xe4))]) rfl rfl (by simp [Value.oneCell']) (X':=Bq x Xe4) (⟨rfl,hn1e4,Xl ht hik (by have:=SM.bound;omega) Xe4 hv1e4⟩) ?_;clear F M a;intro csu9 w a M Eu9 F;revert a;refine Ao<|?_
  refine eQ (Ax M)<|?_
  refine wk ?_;intro a F
  exact ⟨_,by omega,i+1,csu9,_,rfl,F.to ⟨rfl,rfl,rfl,rfl,rfl,rfl,trivial⟩,(M.weaken (cN (cC (.cons_cons _ (sR _))))),by omega,by rw [hys];exact Agi hXe4,Eu9⟩
 intro h10;refine wk ?_;refine Ad rfl rfl<|?_
 rw [List.take_of_length_le (by omega),show xs.length - i=0 by omega,List.replicate_zero,List.append_nil] at hys;rw [hys] at Eo;obtain ⟨hnz11,Gz11,az11,cz11,hGz11,hez11,Sz11,M⟩:=M.freeze_row Df (k:=0) rfl Eo (by decide);clear hez11 az11 cz11;have hlm:((xs).map (Bq x)).length=xs.length:=by simp
 exact ⟨Gz11,hGz11,M.weaken dS1,_,by rw [hlm],by have h_:=Sz11;rw [hnz11] at h_;exact h_⟩
theorem Jy (M:Mem w0 G L w) {s:List UInt8}:Calls Tryz.prog 218 #[.string (str s)] w (Bu w0 G L fun v=>v=.agg #[.int .u8 2,.string (str []),.string (str []),.slice none 0 0,.string (str s),.slice none 0 0]):=by
 refine Al (vs:=[_]) Tryz.func218 rfl (n:=5) rfl rfl<|?_
 refine Bt<|?_
 refine B1 M Aw rfl rfl<|?_;clear M;intro b1 w M
 refine wk ?_;refine Am (fun a F=>Ah (cs:=[.int .u8 2,.string (str []),.string (str []),.slice none 0 0,.string (str s),.slice none 0 0]) (ps:=[(0,.int .u8 2),(4,.string (str s))]) Aw.k rfl Aw (F.evp rfl) rfl) rfl<|fun a F=>?_
 refine Be F M Aw 0 ?_;clear F M a;intro w a M F;replace M:=z_M M;revert a;refine wk ?_;refine fun a F=>F6 F M (k:=0) rfl rfl Aw rfl rfl rfl ?_
 exact ⟨M.weaken dS1,rfl⟩
theorem Agc (M:Mem w0 G L w) {kad:Option Addr} {kcd:Nat} {ks:List NT} (S:Ag Jj 6 G (.slice kad ks.length kcd) ks):Calls Tryz.prog 231 #[.slice kad ks.length kcd] w (Bu w0 G L fun v=>v=.slice kad ks.length ks.length):=by
 have bS:=S.bound;refine Al (vs:=[_]) Tryz.func231 rfl (n:=9) rfl rfl<|?_
 refine wk ?_;have sb1:=S.bound;refine Am (fun a F=>Sz (h:=ks.length) (q:=ks.length) Dl.k Aw (F.ev rfl) (F.ev rfl) (by omega) (F.ev rfl) (by omega) (by omega) (by omega)) rfl<|?_
 have S2:=S.clip;refine wk ?_;refine Ad rfl rfl<|?_
 exact ⟨M,rfl⟩
theorem T1 (M : Mem w0 G L w) {x : ItemD} {ma : Option Addr} {mc : Nat} (ht : x.text.length ≤ 9223372036854775807) (SM : Ag Cf 1 G (.slice ma x.marks.length mc) x.marks) (hik : Au .u64 x.key) {p : PT} {tap : Option Addr} {tcp : Nat} {kap : Option Addr} {kcp : Nat} (hkp : Au .u8 p.kind) (hlp : (p.tag.length ≤ 9223372036854775807 ∧ p.key.length ≤ 9223372036854775807 ∧ p.text.length ≤ 9223372036854775807)) (SAp : Ag rdSlot 3 G (.slice tap p.as.length tcp) p.as) (SKp : Ag rdP 6 G (.slice kap p.kids.length kcp) p.kids) (hso : Gx p.as) {kk : List UInt8} {kad : Option Addr} {kcd : Nat} {ks : List NT} (S : Ag Jj 6 G (.slice kad ks.length kcd) ks) : Calls Tryz.prog 217 #[.agg #[.int .u64 x.key, .int .u8 x.typ, .string (str x.text), .slice ma x.marks.length mc], .agg #[.int .u8 p.kind, .string (str p.tag), .string (str p.key), .slice tap p.as.length tcp, .string (str p.text), .slice kap p.kids.length kcp], .string (str kk), .slice kad ks.length kcd] w (Ret w0 G L fun G' v => ∃ a', v = .agg #[.int .u8 1, .string (str p.tag), .string (str kk), .slice a' (p.as.map (Bq x)).length (p.as.map (Bq x)).length, .string (str []), .slice kad ks.length ks.length] ∧
      Ag Dy 2 G' (.slice a' (p.as.map (Bq x)).length (p.as.map (Bq x)).length) (p.as.map (Bq x))∧Ag Jj 6 G' (.slice kad ks.length ks.length) ks):=by
  refine Al (vs:=[_,_,_,_]) Tryz.func217 rfl (n:=19) rfl rfl<|?_
  refine Bt<|?_
  refine B2 M rfl rfl rfl<|?_;clear M;intro b1 w M
  refine B2 M rfl rfl rfl<|?_;clear M;intro b2 w M
  refine B1 M Aw rfl rfl<|?_;clear M;intro b3 w M
  refine wk ?_;refine fun a F=>D5 [(.free,0),(.pure,1),(.free,2),(.pure,3),(.free,4),(.pure,5),(.free,7),(.keep,6),(.keep,8),(.free,9),(.keep,10)] [] (Keep G [.blk b2 [.int .u8 p.kind,.string (str p.tag),.string (str p.key),.slice tap p.as.length tcp,.string (str p.text),.slice kap p.kids.length kcp] 79,.blk b1 [.int .u64 x.key,.int .u8 x.typ,.string (str x.text),.slice ma x.marks.length mc] 262]) rfl (by kernel_rfl) (fun c a d v w h=>by cases d <;> exact h) (Ax (M.drew _)) ?_;replace M:=M.drew (w.drawn+1);revert a;refine wk ?_;refine k_k rfl<|D4 ent230 rfl rfl (Abs (x:=x) (xs:=p.as) M ht SM hik SAp hso.1 (fun s_ hs_=>Ajj hso hs_))<|?_;clear M;rintro _ Gt5 w hGt5 M ⟨at5,rfl,St5⟩
  replace SAp:=SAp.mono mono_rdSlot hGt5;replace SKp:=SKp.mono mono_rdP hGt5;replace SM:=SM.mono Ay hGt5;replace S:=S.mono Gn hGt5;refine Ao<|?_
  refine eK (C':=Keep Gt5 [.blk b2 [.int .u8 p.kind,.string (str p.tag),.string (str p.key),.slice tap p.as.length tcp,.string (str p.text),.slice kap p.kids.length kcp] 79,.blk b1 [.int .u64 x.key,.int .u8 x.typ,.string (str x.text),.slice ma x.marks.length mc] 262]) (Ax M) (fun w h=>h.mono hGt5 (by simp))<|k_k rfl<|A4 ent231 rfl rfl (Agc (ks:=ks) M S)<|?_;clear M;rintro _ w M rfl
  have S6:=S.clip;refine Ao<|?_
  refine eK (C':=Keep Gt5 [.blk b2 [.int .u8 p.kind,.string (str p.tag),.string (str p.key),.slice tap p.as.length tcp,.string (str p.text),.slice kap p.kids.length kcp] 79,.blk b1 [.int .u64 x.key,.int .u8 x.typ,.string (str x.text),.slice ma x.marks.length mc] 262]) (Ax M) (fun w h=>h.mono (Gle.refl _) (by simp))<|k_f (fun a F w _=>Ah (cs:=[.int .u8 1,.string (str p.tag),.string (str kk),.slice at5 ((p.as.map (Bq x)).length) ((p.as.map (Bq x)).length),.string (str []),.slice kad ks.length ks.length]) (ps:=[(0,.int .u8 1),(1,.string (str p.tag)),(2,.string (str kk)),(3,.slice at5 ((p.as.map (Bq x)).length) ((p.as.map (Bq x)).length)),(5,.slice kad ks.length ks.length)]) Aw.k rfl Aw (F.evp rfl) rfl) rfl<|k_k rfl<|fun a F=>?_
  refine Be F M Aw 0 ?_;clear F M a;intro w a M F;replace M:=z_M M;revert a;refine Ao<|?_
  refine eQ (Ax M)<|?_
  refine wk ?_;refine fun a F=>F6 F M (k:=0) rfl rfl Aw rfl rfl rfl ?_
  exact ⟨_,hGt5,M.weaken dS3,_,rfl,St5,S6⟩
set_option maxHeartbeats 1600000
def Ave (x:ItemD) (ps:List PT):Prop:=∀ (w0 w:World) (G:Aq) (L:List Res) (ma pa:Option Addr) (mc pc:Nat),Mem w0 G L w→Ag Cf 1 G (.slice ma x.marks.length mc) x.marks→Ag rdP 6 G (.slice pa ps.length pc) ps→ps.length≤16→(∀ p∈ps,∃ n,Tr.Ok Bc n p) →
  Calls Tryz.prog 192 #[.agg #[.int .u64 x.key,.int .u8 x.typ,.string (str x.text),.slice ma x.marks.length mc],.slice pa ps.length pc] w (Ret w0 G L fun G' v=>∃ a' c',v=.slice a' (madesF x ps).length c'∧Ag Jj 6 G' (.slice a' (madesF x ps).length c') (madesF x ps))
theorem T0 {x:ItemD} (hik:Au .u64 x.key) (hio:ItemOk x) (ht:x.text.length≤9223372036854775807) {ps:List PT} (ih:∀ p∈ps,Ave x p.kids) {w0 w:World} {G:Aq} {L:List Res} (M:Mem w0 G L w) {ma pa:Option Addr} {mc pc:Nat} (SM:Ag Cf 1 G (.slice ma x.marks.length mc) x.marks) (S:Ag rdP 6 G (.slice pa ps.length pc) ps) (hps:ps.length≤16) (hok:∀ p∈ps,∃ n,Tr.Ok Bc n p) :
  Calls Tryz.prog 192 #[.agg #[.int .u64 x.key,.int .u8 x.typ,.string (str x.text),.slice ma x.marks.length mc],.slice pa ps.length pc] w (Ret w0 G L fun G' v=>∃ a' c',v=.slice a' (madesF x ps).length c'∧Ag Jj 6 G' (.slice a' (madesF x ps).length c') (madesF x ps)):=by
 refine Al (vs:=[_,_]) Tryz.func192 rfl (n:=82) rfl rfl<|?_
 refine Bt<|?_
 refine B2 M rfl rfl rfl<|?_;clear M;intro b1 w M
 refine wk ?_;have bM:=SM.bound;have hio3:=hio.2.2.1;have hik':0≤x.key∧x.key≤18446744073709551615:=hik;refine wk ?_;have M:=M.nilrow 193 6;intro a F;refine Ba (fun m a' w'=>∃ (i:Nat),∃ (ay:Option Addr),∃ (ny:Nat),∃ (cy:Nat),∃ (csy:List Value),m=ps.length - i∧∃ G2,Gle G G2∧Fits 82 a' [(2,.pointer (some ⟨b1,0,none⟩)),(10,.slice pa ps.length pc),(11,.int .i64 ((ps.length:Nat):Int)),(5,.slice ay ny cy),(12,.int .i64 ((i:Nat):Int))]∧Mem w0 G2 (.row (.slice ay ny cy) (ny) (csy) 193 6::.blk b1 [.int .u64 x.key,.int .u8 x.typ,.string (str x.text),.slice ma x.marks.length mc] 262::L) w'∧(i≤ps.length)∧(ny=(madesF x (ps.take i)).length)∧(Els Jj 6 G2 csy (madesF x (ps.take i)))) _ ⟨0,(none),(0),(0),([]),rfl,G,Gle.refl _,F.to ⟨rfl,rfl,rfl,rfl,rfl,trivial⟩,M,Nat.zero_le _,rfl,Els.nil⟩ ?_;clear F M;rintro m a w ⟨i,ay,ny,cy,csy,rfl,G2,hG2,F,M,hi,hny,Ey⟩;replace SM:=SM.mono Ay hG2;replace S:=S.mono mono_rdP hG2;revert a;refine wk ?_;refine qD rfl ?_ ?_
 ·intro h3;refine wk ?_;have hml:=Mr hio.2.2.1 (ps.take i);intro a F;rw [List.length_take] at hml;revert a;refine wk ?_;obtain ⟨Xe4,hXe4⟩:=Ap (xs:=ps) (i:=i) (by omega);obtain ⟨be4,oe4,_,Ie4,_,Ae4,hTe4⟩:=S.at hXe4;obtain ⟨tae4,tce4,kae4,kce4,rfl,hke4,hle4,SAe4,SKe4⟩:=Dn hTe4;refine wk ?_;refine B1 M Du rfl rfl<|?_;clear M;intro b5 w M
  intro a F;refine Be F M Du 0 ?_;clear F M a;intro w a M F;revert a;refine Cj<|?_
  obtain ⟨nk,hOk⟩:=hok Xe4 (List.mem_of_getElem? hXe4);refine J3<|M7 Du.k rfl rfl<|Nr Cl M 0 rfl rfl rfl rfl<|J4<|Bt<|s_eq rfl rfl<|Ew rfl<|Ao<|F1<|?_
  refine qD rfl ?_ ?_
  ·intro h7;intro a F;refine D5 [(.free,0),(.pure,1),(.pure,2),(.free,3),(.pure,4),(.pure,5),(.free,6),(.pure,7),(.keep,8),(.keep,9),(.keep,10),(.keep,11),(.free,12)] [] (Keep G2 [.blk b5 [.int .u8 Xe4.kind,.string (str Xe4.tag),.string (str Xe4.key),.slice tae4 Xe4.as.length tce4,.string (str Xe4.text),.slice kae4 Xe4.kids.length kce4] 79,.blk b1 [.int .u64 x.key,.int .u8 x.typ,.string (str x.text),.slice ma x.marks.length mc] 262]) rfl (by kernel_rfl) (fun c a d v w h=>by cases d <;> exact h) (Ax (M.drew _)) ?_;replace M:=M.drew (w.drawn+1);revert a;refine wk ?_;refine k_k rfl<|D4 Ark rfl rfl (ih Xe4 (List.mem_of_getElem? hXe4) _ _ _ _ _ _ _ _ M SM SKe4 (Ahf hOk) (Tu hOk))<|?_;clear M;rintro _ Gk8 w hGk8 M ⟨ak8,ck8,rfl,Sk8⟩
   replace SM:=SM.mono Ay hGk8;replace S:=S.mono mono_rdP hGk8;replace Ey:=Ey.mono Gn hGk8;replace Ae4:=Ae4.mono hGk8;replace SAe4:=SAe4.mono mono_rdSlot hGk8;replace SKe4:=SKe4.mono mono_rdP hGk8;refine Ao<|?_
   refine eK (C':=Keep Gk8 [.blk b5 [.int .u8 Xe4.kind,.string (str Xe4.tag),.string (str Xe4.key),.slice tae4 Xe4.as.length tce4,.string (str Xe4.text),.slice kae4 Xe4.kids.length kce4] 79,.blk b1 [.int .u64 x.key,.int .u8 x.typ,.string (str x.text),.slice ma x.marks.length mc] 262]) (Ax M) (fun w h=>h.mono hGk8 (by simp))<|k_k rfl<|D4 Arh rfl rfl (T1 (x:=x) (p:=Xe4) (kk:=Xe4.key) (ks:=madesF x Xe4.kids) M ht SM hik hke4 hle4 SAe4 SKe4 (Iz hOk (by omega)) Sk8)<|?_;clear M;rintro _ Gm9 w hGm9 M ⟨am9,rfl,SAm9,SKm9⟩
   replace SM:=SM.mono Ay hGm9;replace S:=S.mono mono_rdP hGm9;replace Ey:=Ey.mono Gn hGm9;replace Ae4:=Ae4.mono hGm9;replace SAe4:=SAe4.mono mono_rdSlot hGm9;replace SKe4:=SKe4.mono mono_rdP hGm9;replace Sk8:=Sk8.mono Gn hGm9;refine Ao<|?_
   refine eK (C':=Keep Gm9 [.blk b5 [.int .u8 Xe4.kind,.string (str Xe4.tag),.string (str Xe4.key),.slice tae4 Xe4.as.length tce4,.string (str Xe4.text),.slice kae4 Xe4.kids.length kce4] 79,.blk b1 [.int .u64 x.key,.int .u8 x.typ,.string (str x.text),.slice ma x.marks.length mc] 262]) (Ax M) (fun w h=>h.mono hGm9 (by simp))<|k_k rfl<|fun a F=>?_
   refine Ar F M Dl.k Aw rfl rfl (cs:=[.int .u8 1,.string (str Xe4.tag),.string (str Xe4.key),.slice am9 ((Xe4.as.map (Bq x)).length) ((Xe4.as.map (Bq x)).length),.string (str []),.slice ak8 ((madesF x Xe4.kids).length) ((madesF x Xe4.kids).length)]) rfl rfl (by simp [Value.oneCell']) (by decide) rfl ?_;clear F M a;intro v10 w a M F;obtain ⟨av10,cv10,rfl,hlev10,hcmv10,hlv10⟩:=M.row_shape (k:=0) rfl;revert a;refine Ao<|?_
   refine eK (C':=Keep Gm9 [.blk b5 [.int .u8 Xe4.kind,.string (str Xe4.tag),.string (str Xe4.key),.slice tae4 Xe4.as.length tce4,.string (str Xe4.text),.slice kae4 Xe4.kids.length kce4] 79,.blk b1 [.int .u64 x.key,.int .u8 x.typ,.string (str x.text),.slice ma x.marks.length mc] 262]) (Ax M) (fun w h=>h.mono (Gle.refl _) (by simp))<|?_
   have E11:Els Jj 6 Gm9 [.int .u8 1,.string (str Xe4.tag),.string (str Xe4.key),.slice am9 ((Xe4.as.map (Bq x)).length) ((Xe4.as.map (Bq x)).length),.string (str []),.slice ak8 ((madesF x Xe4.kids).length) ((madesF x Xe4.kids).length)] [(.mk 1 Xe4.tag Xe4.key (Xe4.as.map (Bq x)) [] (madesF x Xe4.kids):NT)]:=Els.one (Hx (x:=(.mk 1 Xe4.tag Xe4.key (Xe4.as.map (Bq x)) [] (madesF x Xe4.kids):NT)) Aje ⟨hle4.1,(by first | assumption | exact hle4.2.1),Nat.zero_le _⟩ SAm9 SKm9) rfl;refine k_k rfl<|fun a F=>?_
   refine A3 F M (k:=2) (k2:=0) rfl rfl Dl.k Aw rfl rfl (by decide) rfl rfl (by show _ * 104≤_;(try simp only [List.length_drop,List.length_take,List.length_append,List.length_cons,List.length_nil]);omega) (by (try simp only [List.length_drop,List.length_take,List.length_append,List.length_cons,List.length_nil]);omega) rfl ?_;clear F M a;intro v12 w a M F;have Ev12:=Els.append Ey E11;obtain ⟨av12,cv12,rfl,hlev12,hcmv12,hlv12⟩:=M.row_shape (k:=2) rfl;revert a;refine Ao<|?_
   refine eQ (Ax M)<|?_
   refine wk ?_;intro a F
   exact ⟨_,by omega,i+1,(av12),(ny+1),(cv12),(csy++([.int .u8 1,.string (str Xe4.tag),.string (str Xe4.key),.slice am9 ((Xe4.as.map (Bq x)).length) ((Xe4.as.map (Bq x)).length),.string (str []),.slice ak8 ((madesF x Xe4.kids).length) ((madesF x Xe4.kids).length)])),rfl,Gm9,((hG2.trans hGk8).trans hGm9),F.to ⟨rfl,rfl,rfl,rfl,rfl,trivial⟩,(M.weaken (cN (.cons _ (cC (.cons_cons _ (sR _)))))),by omega,by rw [C7 hXe4,Rg (by assumption),List.length_append,← hny];rfl,by rw [C7 hXe4,Rg (by assumption)];exact Ev12⟩
  intro h13;refine wk ?_;refine qD rfl ?_ ?_
  ·intro h14;refine wk ?_;refine A4 Zi rfl rfl (Jy (s:=Xe4.text) M)<|?_;clear M;rintro _ w M rfl
   intro a F;refine Ar F M Dl.k Aw rfl rfl (cs:=[.int .u8 2,.string (str []),.string (str []),.slice none 0 0,.string (str Xe4.text),.slice none 0 0]) rfl rfl (by simp [Value.oneCell']) (by decide) rfl ?_;clear F M a;intro v15 w a M F;obtain ⟨av15,cv15,rfl,hlev15,hcmv15,hlv15⟩:=M.row_shape (k:=0) rfl;have E16:Els Jj 6 G2 [.int .u8 2,.string (str []),.string (str []),.slice none 0 0,.string (str Xe4.text),.slice none 0 0] [(Bv Xe4.text)]:=Els.one (Hx (x:=(Bv Xe4.text)) Xu ⟨Nat.zero_le _,Nat.zero_le _,(by first | assumption | exact hle4.2.2 | (have h_:=Dd x.key.toNat (by omega);show (Lib.decDigits x.key.toNat).length≤_;omega))⟩ Ag.nil Ag.nil) rfl;refine A3 F M (k:=2) (k2:=0) rfl rfl Dl.k Aw rfl rfl (by decide) rfl rfl (by show _ * 104≤_;(try simp only [List.length_drop,List.length_take,List.length_append,List.length_cons,List.length_nil]);omega) (by (try simp only [List.length_drop,List.length_take,List.length_append,List.length_cons,List.length_nil]);omega) rfl ?_;clear F M a;intro v17 w a M F;have Ev17:=Els.append Ey E16;obtain ⟨av17,cv17,rfl,hlev17,hcmv17,hlv17⟩:=M.row_shape (k:=2) rfl;revert a;refine wk ?_;intro a F
   exact ⟨_,by omega,i+1,(av17),(ny+1),(cv17),(csy++([.int .u8 2,.string (str []),.string (str []),.slice none 0 0,.string (str Xe4.text),.slice none 0 0])),rfl,G2,hG2,F.to ⟨rfl,rfl,rfl,rfl,rfl,trivial⟩,(M.weaken (cN (.cons _ (cC (.cons_cons _ (sR _)))))),by omega,by rw [C7 hXe4,Ahs (by assumption),List.length_append,← hny];rfl,by rw [C7 hXe4,Ahs (by assumption)];exact Ev17⟩
  intro h18;refine wk ?_;refine qD rfl ?_ ?_
  ·intro h19;refine wk ?_;refine A4 Zi rfl rfl (Jy (s:=x.text) M)<|?_;clear M;rintro _ w M rfl
   intro a F;refine Ar F M Dl.k Aw rfl rfl (cs:=[.int .u8 2,.string (str []),.string (str []),.slice none 0 0,.string (str x.text),.slice none 0 0]) rfl rfl (by simp [Value.oneCell']) (by decide) rfl ?_;clear F M a;intro v20 w a M F;obtain ⟨av20,cv20,rfl,hlev20,hcmv20,hlv20⟩:=M.row_shape (k:=0) rfl;have E21:Els Jj 6 G2 [.int .u8 2,.string (str []),.string (str []),.slice none 0 0,.string (str x.text),.slice none 0 0] [(Bv x.text)]:=Els.one (Hx (x:=(Bv x.text)) Xu ⟨Nat.zero_le _,Nat.zero_le _,(by first | assumption | exact hle4.2.2 | (have h_:=Dd x.key.toNat (by omega);show (Lib.decDigits x.key.toNat).length≤_;omega))⟩ Ag.nil Ag.nil) rfl;refine A3 F M (k:=2) (k2:=0) rfl rfl Dl.k Aw rfl rfl (by decide) rfl rfl (by show _ * 104≤_;(try simp only [List.length_drop,List.length_take,List.length_append,List.length_cons,List.length_nil]);omega) (by (try simp only [List.length_drop,List.length_take,List.length_append,List.length_cons,List.length_nil]);omega) rfl ?_;clear F M a;intro v22 w a M F;have Ev22:=Els.append Ey E21;obtain ⟨av22,cv22,rfl,hlev22,hcmv22,hlv22⟩:=M.row_shape (k:=2) rfl;revert a;refine wk ?_;intro a F
   exact ⟨_,by omega,i+1,(av22),(ny+1),(cv22),(csy++([.int .u8 2,.string (str []),.string (str []),.slice none 0 0,.string (str x.text),.slice none 0 0])),rfl,G2,hG2,F.to ⟨rfl,rfl,rfl,rfl,rfl,trivial⟩,(M.weaken (cN (.cons _ (cC (.cons_cons _ (sR _)))))),by omega,by rw [C7 hXe4,Ahr (by assumption),List.length_append,← hny];rfl,by rw [C7 hXe4,Ahr (by assumption)];exact Ev22⟩
  intro h23;refine wk ?_;refine qD rfl ?_ ?_
  ·intro h24;refine wk ?_;have hu25:(x.key:Int)=(((x.key).toNat:Nat):Int):=by omega
   intro a F;rw [hu25] at F;revert a;refine A4 Afv rfl rfl (Qp (u:=(x.key).toNat) M (by omega))<|?_;clear M;rintro _ w M rfl
   refine A4 Zi rfl rfl (Jy (s:=Lib.decDigits ((x.key).toNat)) M)<|?_;clear M;rintro _ w M rfl
   intro a F;refine Ar F M Dl.k Aw rfl rfl (cs:=[.int .u8 2,.string (str []),.string (str []),.slice none 0 0,.string (str (Lib.decDigits ((x.key).toNat))),.slice none 0 0]) rfl rfl (by simp [Value.oneCell']) (by decide) rfl ?_;clear F M a;intro v26 w a M F;obtain ⟨av26,cv26,rfl,hlev26,hcmv26,hlv26⟩:=M.row_shape (k:=0) rfl;have E27:Els Jj 6 G2 [.int .u8 2,.string (str []),.string (str []),.slice none 0 0,.string (str (Lib.decDigits ((x.key).toNat))),.slice none 0 0] [(Bv (Lib.decDigits ((x.key).toNat)))]:=Els.one (Hx (x:=(Bv (Lib.decDigits ((x.key).toNat)))) Xu ⟨Nat.zero_le _,Nat.zero_le _,(by first | assumption | exact hle4.2.2 | (have h_:=Dd x.key.toNat (by omega);show (Lib.decDigits x.key.toNat).length≤_;omega))⟩ Ag.nil Ag.nil) rfl;refine A3 F M (k:=2) (k2:=0) rfl rfl Dl.k Aw rfl rfl (by decide) rfl rfl (by show _ * 104≤_;(try simp only [List.length_drop,List.length_take,List.length_append,List.length_cons,List.length_nil]);omega) (by (try simp only [List.length_drop,List.length_take,List.length_append,List.length_cons,List.length_nil]);omega) rfl ?_;clear F M a;intro v28 w a M F;have Ev28:=Els.append Ey E27;obtain ⟨av28,cv28,rfl,hlev28,hcmv28,hlv28⟩:=M.row_shape (k:=2) rfl;revert a;refine wk ?_;intro a F
   exact ⟨_,by omega,i+1,(av28),(ny+1),(cv28),(csy++([.int .u8 2,.string (str []),.string (str []),.slice none 0 0,.string (str (Lib.decDigits ((x.key).toNat))),.slice none 0 0])),rfl,G2,hG2,F.to ⟨rfl,rfl,rfl,rfl,rfl,trivial⟩,(M.weaken (cN (.cons _ (cC (.cons_cons _ (sR _)))))),by omega,by rw [C7 hXe4,Ahq (by assumption),List.length_append,← hny];rfl,by rw [C7 hXe4,Ahq (by assumption)];exact Ev28⟩
  intro h29;refine wk ?_;refine qD rfl ?_ ?_
  ·intro h30;refine wk ?_;refine fun a F=>Ba (fun m a' w'=>∃ (j:Nat),∃ (az:Option Addr),∃ (nz:Nat),∃ (cz:Nat),∃ (csz:List Value),m=x.marks.length - j∧∃ G31,Gle G2 G31∧Fits 82 a' [(2,.pointer (some ⟨b1,0,none⟩)),(7,.pointer (some ⟨b5,0,none⟩)),(10,.slice pa ps.length pc),(11,.int .i64 ((ps.length:Nat):Int)),(12,.int .i64 ((i:Nat):Int)),(63,.slice ma x.marks.length mc),(64,.int .i64 ((x.marks.length:Nat):Int)),(5,.slice az nz cz),(65,.int .i64 ((j:Nat):Int))]∧Mem w0 G31 (.blk b5 [.int .u8 Xe4.kind,.string (str Xe4.tag),.string (str Xe4.key),.slice tae4 Xe4.as.length tce4,.string (str Xe4.text),.slice kae4 Xe4.kids.length kce4] 79::.row (.slice az nz cz) (nz) (csz) 193 6::.blk b1 [.int .u64 x.key,.int .u8 x.typ,.string (str x.text),.slice ma x.marks.length mc] 262::L) w'∧(j≤x.marks.length)∧(nz=(madesF x (ps.take i)++(x.marks.take j).map (Xa x Xe4.tag Xe4.as)).length)∧(Els Jj 6 G31 csz (madesF x (ps.take i)++(x.marks.take j).map (Xa x Xe4.tag Xe4.as)))) _ ⟨0,(ay),(ny),(cy),(csy),rfl,G2,Gle.refl _,F.to ⟨rfl,rfl,rfl,rfl,rfl,rfl,rfl,rfl,rfl,trivial⟩,M,Nat.zero_le _,by simp [← hny],by simpa using Ey⟩ ?_;clear F M;rintro m a w ⟨j,az,nz,cz,csz,rfl,G31,hG31,F,M,hj,hnz,Ez⟩;replace SM:=SM.mono Ay hG31;replace S:=S.mono mono_rdP hG31;replace Ae4:=Ae4.mono hG31;replace SAe4:=SAe4.mono mono_rdSlot hG31;replace SKe4:=SKe4.mono mono_rdP hG31;revert a;refine wk ?_;refine qD rfl ?_ ?_
   ·intro h32;refine wk ?_;have hnz2:nz≤200:=by rw [hnz,List.length_append,List.length_map,List.length_take];omega
    refine wk ?_;obtain ⟨Xe33,hXe33⟩:=Ap (xs:=x.marks) (i:=j) (by omega);obtain ⟨be33,oe33,_,Ie33,_,Ae33,⟨rfl,hsle33⟩⟩:=SM.at hXe33;refine wk ?_;refine fun a F=>D5 [(.free,0),(.pure,1),(.pure,2),(.free,3),(.free,4),(.keep,5),(.keep,6),(.keep,7),(.keep,8),(.keep,9),(.free,10)] [] (Keep G31 [.blk b5 [.int .u8 Xe4.kind,.string (str Xe4.tag),.string (str Xe4.key),.slice tae4 Xe4.as.length tce4,.string (str Xe4.text),.slice kae4 Xe4.kids.length kce4] 79,.blk b1 [.int .u64 x.key,.int .u8 x.typ,.string (str x.text),.slice ma x.marks.length mc] 262]) rfl (by kernel_rfl) (fun c a d v w h=>by cases d <;> exact h) (Ax (M.drew _)) ?_;replace M:=M.drew (w.drawn+1);revert a;refine wk ?_;refine k_k rfl<|A4 Zi rfl rfl (Jy (s:=Xe33) M)<|?_;clear M;rintro _ w M rfl
    refine Ao<|?_
    refine eQ (Ax M)<|k_k rfl<|fun a F=>?_
    refine Ar F M Dl.k Aw rfl rfl (cs:=[.int .u8 2,.string (str []),.string (str []),.slice none 0 0,.string (str Xe33),.slice none 0 0]) rfl rfl (by simp [Value.oneCell']) (by decide) rfl ?_;clear F M a;intro v34 w a M F;obtain ⟨av34,cv34,rfl,hlev34,hcmv34,hlv34⟩:=M.row_shape (k:=0) rfl;revert a;refine Ao<|?_
    refine eQ (Ax M)<|?_
    have E35:Els Jj 6 G31 [.int .u8 2,.string (str []),.string (str []),.slice none 0 0,.string (str Xe33),.slice none 0 0] [(Bv Xe33)]:=Els.one (Hx (x:=(Bv Xe33)) Xu ⟨Nat.zero_le _,Nat.zero_le _,(by first | assumption | exact hle4.2.2 | (have h_:=Dd x.key.toNat (by omega);show (Lib.decDigits x.key.toNat).length≤_;omega))⟩ Ag.nil Ag.nil) rfl;obtain ⟨hnz36,Gz36,az36,cz36,hGz36,hez36,Sz36,M⟩:=M.freeze_row Gn (k:=0) rfl E35 (by decide);clear hez36 az36 cz36;replace SM:=SM.mono Ay hGz36;replace S:=S.mono mono_rdP hGz36;replace Ae4:=Ae4.mono hGz36;replace SAe4:=SAe4.mono mono_rdSlot hGz36;replace SKe4:=SKe4.mono mono_rdP hGz36;replace Ez:=Ez.mono Gn hGz36;replace Ae33:=Ae33.mono hGz36;clear hnz36;replace Sz36:Ag Jj 6 Gz36 (.slice av34 ([(Bv Xe33)]).length (cv34)) ([(Bv Xe33)]):=Sz36;refine k_k rfl<|D4 Arh rfl rfl (T1 (x:=x) (p:=Xe4) (kk:=Xe33) (ks:=[(Bv Xe33)]) M ht SM hik hke4 hle4 SAe4 SKe4 (Iz hOk (by omega)) Sz36)<|?_;clear M;rintro _ Gm37 w hGm37 M ⟨am37,rfl,SAm37,SKm37⟩
    replace SM:=SM.mono Ay hGm37;replace S:=S.mono mono_rdP hGm37;replace Ae4:=Ae4.mono hGm37;replace SAe4:=SAe4.mono mono_rdSlot hGm37;replace SKe4:=SKe4.mono mono_rdP hGm37;replace Ez:=Ez.mono Gn hGm37;replace Ae33:=Ae33.mono hGm37;replace Sz36:=Sz36.mono Gn hGm37;refine Ao<|?_
    refine eK (C':=Keep Gm37 [.blk b5 [.int .u8 Xe4.kind,.string (str Xe4.tag),.string (str Xe4.key),.slice tae4 Xe4.as.length tce4,.string (str Xe4.text),.slice kae4 Xe4.kids.length kce4] 79,.blk b1 [.int .u64 x.key,.int .u8 x.typ,.string (str x.text),.slice ma x.marks.length mc] 262]) (Ax M) (fun w h=>h.mono (hGz36.trans hGm37) (by simp))<|k_k rfl<|fun a F=>?_
    refine Ar F M Dl.k Aw rfl rfl (cs:=[.int .u8 1,.string (str Xe4.tag),.string (str Xe33),.slice am37 ((Xe4.as.map (Bq x)).length) ((Xe4.as.map (Bq x)).length),.string (str []),.slice av34 (([(Bv Xe33)]).length) (([(Bv Xe33)]).length)]) rfl rfl (by simp [Value.oneCell']) (by decide) rfl ?_;clear F M a;intro v38 w a M F;obtain ⟨av38,cv38,rfl,hlev38,hcmv38,hlv38⟩:=M.row_shape (k:=0) rfl;revert a;refine Ao<|?_
    refine eK (C':=Keep Gm37 [.blk b5 [.int .u8 Xe4.kind,.string (str Xe4.tag),.string (str Xe4.key),.slice tae4 Xe4.as.length tce4,.string (str Xe4.text),.slice kae4 Xe4.kids.length kce4] 79,.blk b1 [.int .u64 x.key,.int .u8 x.typ,.string (str x.text),.slice ma x.marks.length mc] 262]) (Ax M) (fun w h=>h.mono (Gle.refl _) (by simp))<|?_
    have E39:Els Jj 6 Gm37 [.int .u8 1,.string (str Xe4.tag),.string (str Xe33),.slice am37 ((Xe4.as.map (Bq x)).length) ((Xe4.as.map (Bq x)).length),.string (str []),.slice av34 (([(Bv Xe33)]).length) (([(Bv Xe33)]).length)] [(.mk 1 Xe4.tag Xe33 (Xe4.as.map (Bq x)) [] ([(Bv Xe33)]):NT)]:=Els.one (Hx (x:=(.mk 1 Xe4.tag Xe33 (Xe4.as.map (Bq x)) [] ([(Bv Xe33)]):NT)) Aje ⟨hle4.1,(by first | assumption | exact hle4.2.1),Nat.zero_le _⟩ SAm37 SKm37) rfl;refine k_k rfl<|fun a F=>?_
    refine A3 F M (k:=2) (k2:=0) rfl rfl Dl.k Aw rfl rfl (by decide) rfl rfl (by show _ * 104≤_;(try simp only [List.length_drop,List.length_take,List.length_append,List.length_cons,List.length_nil]);omega) (by (try simp only [List.length_drop,List.length_take,List.length_append,List.length_cons,List.length_nil]);omega) rfl ?_;clear F M a;intro v40 w a M F;have Ev40:=Els.append Ez E39;obtain ⟨av40,cv40,rfl,hlev40,hcmv40,hlv40⟩:=M.row_shape (k:=2) rfl;revert a;refine Ao<|?_
    refine eQ (Ax M)<|?_
    refine wk ?_;intro a F
    exact ⟨_,by omega,j+1,(av40),(nz+1),(cv40),(csz++([.int .u8 1,.string (str Xe4.tag),.string (str Xe33),.slice am37 ((Xe4.as.map (Bq x)).length) ((Xe4.as.map (Bq x)).length),.string (str []),.slice av34 (([(Bv Xe33)]).length) (([(Bv Xe33)]).length)])),rfl,Gm37,((hG31.trans hGz36).trans hGm37),F.to ⟨rfl,rfl,rfl,rfl,rfl,rfl,rfl,rfl,rfl,trivial⟩,(M.weaken (cN (cC (.cons_cons _ (cC (sR _)))))),by omega,by rw [I2 hXe33,← List.append_assoc,List.length_append,← hnz];rfl,by rw [I2 hXe33,← List.append_assoc];exact Ev40⟩
   intro h41;refine wk ?_;intro a F
   exact ⟨_,by omega,i+1,(az),(nz),(cz),(csz),rfl,G31,(hG2.trans hG31),F.to ⟨rfl,rfl,rfl,rfl,rfl,trivial⟩,(M.weaken (cN (cC (.cons_cons _ (sR _))))),by omega,by rw [C7 hXe4,Ahp (by assumption)];rw [List.take_of_length_le (l:=x.marks) (by omega)] at hnz;exact hnz,by rw [C7 hXe4,Ahp (by assumption)];rw [List.take_of_length_le (l:=x.marks) (by omega)] at Ez;exact Ez⟩
  intro h42;refine wk ?_;intro a F
  exact ⟨_,by omega,i+1,(ay),(ny),(cy),(csy),rfl,G2,hG2,F.to ⟨rfl,rfl,rfl,rfl,rfl,trivial⟩,(M.weaken (cN (cC (.cons_cons _ (sR _))))),by omega,by rw [C7 hXe4,made0 (by assumption) (by assumption) (by assumption) (by assumption) (by assumption),List.append_nil];exact hny,by rw [C7 hXe4,made0 (by assumption) (by assumption) (by assumption) (by assumption) (by assumption),List.append_nil];exact Ey⟩
 intro h43;refine wk ?_;refine Ad rfl rfl<|?_
 rw [List.take_of_length_le (by omega)] at hny Ey;obtain ⟨hnz44,Gz44,az44,cz44,hGz44,hez44,Sz44,M⟩:=M.freeze_row Gn (k:=0) rfl Ey (by decide);clear hez44 az44 cz44
 exact ⟨Gz44,(hG2.trans hGz44),M.weaken dS1,_,_,by rw [hny],by have h_:=Sz44;rw [hny] at h_;exact h_⟩
theorem Akw {x:ItemD} (hik:Au .u64 x.key) (hio:ItemOk x) (ht:x.text.length≤9223372036854775807) (ps:List PT):Ave x ps:=by
 suffices h:∀ n (ps:List PT),Tr.sizes ps≤n→Ave x ps from h _ ps (Nat.le_refl _)
 intro n
 induction n with
 | zero=>intro ps hn w0 w G L ma pa mc pc M SM S hps hok;exact T0 hik hio ht (fun p hp=>by have:=Ni hp;omega) M SM S hps hok
 | succ n ih=>intro ps hn w0 w G L ma pa mc pc M SM S hps hok;exact T0 hik hio ht (fun p hp=>ih _ (by have:=Ni hp;omega)) M SM S hps hok
set_option maxHeartbeats 1600000
theorem trender_spec {w0 w:World} {G:Aq} {L:List Res} (M:Mem w0 G L w) {p:PT} {tap:Option Addr} {tcp:Nat} {kap:Option Addr} {kcp:Nat} (hkp:Au .u8 p.kind) (hlp:(p.tag.length≤9223372036854775807∧p.key.length≤9223372036854775807∧p.text.length≤9223372036854775807)) (SAp:Ag rdSlot 3 G (.slice tap p.as.length tcp) p.as) (SKp:Ag rdP 6 G (.slice kap p.kids.length kcp) p.kids) {x:ItemD} {ma:Option Addr} {mc:Nat} (ht:x.text.length≤9223372036854775807) (SM:Ag Cf 1 G (.slice ma x.marks.length mc) x.marks) (hik:Au .u64 x.key) {most:Int}:Calls Tryz.prog 157 #[.agg #[.int .u8 p.kind,.string (str p.tag),.string (str p.key),.slice tap p.as.length tcp,.string (str p.text),.slice kap p.kids.length kcp],.agg #[.int .u64 x.key,.int .u8 x.typ,.string (str x.text),.slice ma x.marks.length mc],.int .i64 most] w (Ret w0 G L fun G' v=>∃ a1 a2,v=.tuple #[.agg #[.int .u8 (Dj p x most).kind,.string (str (Dj p x most).tag),.string (str (Dj p x most).key),.slice a1 (Dj p x most).as.length (Dj p x most).as.length,.string (str (Dj p x most).text),.slice a2 (Dj p x most).kids.length (Dj p x most).kids.length],.int .i64 (rendE p x most)]∧Ag Dy 2 G' (.slice a1 (Dj p x most).as.length (Dj p x most).as.length) (Dj p x most).as∧Ag Jj 6 G' (.slice a2 (Dj p x most).kids.length (Dj p x most).kids.length) (Dj p x most).kids):=by
 refine Al (vs:=[_,_,_]) Tryz.func157 rfl (n:=49) rfl rfl<|?_
 refine Bt<|?_
 refine B2 M rfl rfl rfl<|?_;clear M;intro b1 w M
 refine B2 M rfl rfl rfl<|?_;clear M;intro b2 w M
 refine B1 M Aw rfl rfl<|?_;clear M;intro b3 w M
 refine wk ?_
 rcases bE (decide (most < 1)) with h5b | h6b
 ·skip
  have h5:=dT h5b;refine wk ?_;refine Am (fun a F=>Ah (cs:=[.int .u8 0,.string (str []),.string (str []),.slice none 0 0,.string (str []),.slice none 0 0]) (ps:=[]) Aw.k rfl Aw (F.evp rfl) rfl) rfl<|fun a F=>?_
  refine Be F M Aw 0 ?_;clear F M a;intro w a M F;replace M:=z_M M;revert a;refine wk ?_;refine fun a F=>Bs F M (k:=0) rfl rfl Aw rfl rfl rfl rfl ?_;have hE:rendE p x most=1:=Oy (by omega);have hN:Dj p x most=Jm:=Fw (by rw [hE];(first | decide | omega))
  exact ⟨_,(Gle.refl _),(M.weaken (cN (.cons _ (cN (sR _))))),none,none,by rw [hE,hN];rfl,by rw [hN];exact Ag.nil,by rw [hN];exact Ag.nil⟩
 have h6:=dF h6b;refine wk ?_;refine qD rfl ?_ ?_
 ·intro h7;refine Bt<|?_
  refine Am (fun a F=>Ah (cs:=[.int .u8 0,.string (str []),.string (str []),.slice none 0 0,.string (str []),.slice none 0 0]) (ps:=[]) Aw.k rfl Aw (F.evp rfl) rfl) rfl<|fun a F=>?_
  refine Be F M Aw 0 ?_;clear F M a;intro w a M F;replace M:=z_M M;revert a;refine wk ?_;refine fun a F=>Bs F M (k:=0) rfl rfl Aw rfl rfl rfl rfl ?_;have hE:rendE p x most=1:=Oy (by omega);have hN:Dj p x most=Jm:=Fw (by rw [hE];(first | decide | omega))
  exact ⟨_,(Gle.refl _),(M.weaken (cN (.cons _ (cN (sR _))))),none,none,by rw [hE,hN];rfl,by rw [hN];exact Ag.nil,by rw [hN];exact Ag.nil⟩
 intro h8;refine wk ?_;refine A4 Arp rfl rfl (tcheck_spec (x:=p) M hkp hlp SAp SKp)<|?_;clear M;rintro _ w M rfl
 refine wk ?_;refine Ae rfl ?_ ?_
 ·intro h9b;have h9:=dF (Ab h9b);have hV:¬ ValidP p:=fun h_=>by have:=chkP_zero.2 h_;omega
  refine Bt<|?_
  refine Am (fun a F=>Ah (cs:=[.int .u8 0,.string (str []),.string (str []),.slice none 0 0,.string (str []),.slice none 0 0]) (ps:=[]) Aw.k rfl Aw (F.evp rfl) rfl) rfl<|?_
  refine C0 rfl<|?_
  intro a F;refine Be F M Aw 0 ?_;clear F M a;intro w a M F;replace M:=z_M M;revert a;refine wk ?_;refine fun a F=>Bs F M (k:=0) rfl rfl Aw rfl rfl rfl rfl ?_;have hE:rendE p x most=Vl p:=by rw [Se hV];exact V4 (by omega) hV
  have hN:Dj p x most=Jm:=Fw (by rw [hE];(first | decide | omega))
  exact ⟨_,(Gle.refl _),(M.weaken (cN (.cons _ (cN (sR _))))),none,none,by rw [hE,hN];rfl,by rw [hN];exact Ag.nil,by rw [hN];exact Ag.nil⟩
 intro h10b;have h10:=dT (Ac h10b);have hV:ValidP p:=chkP_zero.1 (by omega);refine wk ?_;refine A4 ent191 rfl rfl (Uw (x:=x) M ht SM)<|?_;clear M;rintro _ w M rfl
 refine wk ?_;refine Ae rfl ?_ ?_
 ·intro h11b;have h11:=dF (Ab h11b);have hio:¬ ItemOk x:=fun h_=>by have:=Cz.2 h_;omega
  refine Bt<|?_
  refine Am (fun a F=>Ah (cs:=[.int .u8 0,.string (str []),.string (str []),.slice none 0 0,.string (str []),.slice none 0 0]) (ps:=[]) Aw.k rfl Aw (F.evp rfl) rfl) rfl<|?_
  refine C0 rfl<|?_
  intro a F;refine Be F M Aw 0 ?_;clear F M a;intro w a M F;replace M:=z_M M;revert a;refine wk ?_;refine fun a F=>Bs F M (k:=0) rfl rfl Aw rfl rfl rfl rfl ?_;have hE:rendE p x most=Gq x:=by rw [Dt hio];exact V5 (by omega) hV hio
  have hN:Dj p x most=Jm:=Fw (by rw [hE];(first | decide | omega))
  exact ⟨_,(Gle.refl _),(M.weaken (cN (.cons _ (cN (sR _))))),none,none,by rw [hE,hN];rfl,by rw [hN];exact Ag.nil,by rw [hN];exact Ag.nil⟩
 intro h12b;have h12:=dT (Ac h12b);have hio:ItemOk x:=Cz.1 (by omega);refine wk ?_;refine Am (fun a F=>Ah (cs:=[.int .u64 x.key,.int .u8 x.typ,.string (str x.text),.slice ma x.marks.length mc]) (ps:=[(0,.agg #[.int .u64 x.key,.int .u8 x.typ,.string (str x.text),.slice ma x.marks.length mc])]) Adq.k rfl Adq (F.evp rfl) rfl) rfl<|?_
 refine wk ?_;intro a F;refine Ar F M Qz.k Du rfl rfl (cs:=[.int .u8 p.kind,.string (str p.tag),.string (str p.key),.slice tap p.as.length tcp,.string (str p.text),.slice kap p.kids.length kcp]) rfl rfl (by simp [Value.oneCell']) (by decide) rfl ?_;clear F M a;intro v13 w a M F;obtain ⟨av13,cv13,rfl,hlev13,hcmv13,hlv13⟩:=M.row_shape (k:=0) rfl;have E14:Els rdP 6 G [.int .u8 p.kind,.string (str p.tag),.string (str p.key),.slice tap p.as.length tcp,.string (str p.text),.slice kap p.kids.length kcp] [p]:=Els.one (Ff (x:=p) hkp hlp SAp SKp) rfl;obtain ⟨hnz15,Gz15,az15,cz15,hGz15,hez15,Sz15,M⟩:=M.freeze_row mono_rdP (k:=0) rfl E14 (by decide);clear hez15 az15 cz15;replace SAp:=SAp.mono mono_rdSlot hGz15;replace SKp:=SKp.mono mono_rdP hGz15;replace SM:=SM.mono Ay hGz15;clear hnz15;replace Sz15:Ag rdP 6 Gz15 (.slice av13 ([p]).length (cv13)) ([p]):=Sz15;revert a;refine D4 Ark rfl rfl (Akw hik hio ht [p] _ _ _ _ _ _ _ _ M SM Sz15 (by simp) (fun q hq=>by rw [List.mem_singleton] at hq;subst hq;exact Qw hV))<|?_;clear M;rintro _ Gk16 w hGk16 M ⟨ak16,ck16,rfl,Sk16⟩
 replace SAp:=SAp.mono mono_rdSlot hGk16;replace SKp:=SKp.mono mono_rdP hGk16;replace SM:=SM.mono Ay hGk16;replace Sz15:=Sz15.mono mono_rdP hGk16;have hN1:(madesF x [p])[0]?=some (node1 x p):=by rw [Akz hV.1];rfl
 obtain ⟨be17,oe17,_,Ie17,_,Ae17,hTe17⟩:=Sk16.at hN1;obtain ⟨tae17,kae17,rfl,hke17,hle17,SAe17,SKe17⟩:=Ake hTe17;refine wk ?_;refine B1 M Aw rfl rfl<|?_;clear M;intro b18 w M
 intro a F;refine Be F M Aw 0 ?_;clear F M a;intro w a M F;replace M:=z_M M;revert a;refine wk ?_;refine A4 Arj rfl rfl (Re (x:=(node1 x p)) M hke17 hle17 SAe17 (weakN SKe17))<|?_;clear M;rintro _ w M rfl
 refine wk ?_
 rcases bE (decide (((cntF (node1 x p):Nat):Int)=0)) with h20b | h21b
 ·skip
  have h20:=dT h20b;refine wk ?_;refine Am (fun a F=>Ah (cs:=[.int .u8 0,.string (str []),.string (str []),.slice none 0 0,.string (str []),.slice none 0 0]) (ps:=[]) Aw.k rfl Aw (F.evp rfl) rfl) rfl<|fun a F=>?_
  refine Be F M Aw 1 ?_;clear F M a;intro w a M F;replace M:=z_M M;revert a;refine wk ?_;refine fun a F=>Bs F M (k:=1) rfl rfl Aw rfl rfl rfl rfl ?_;have hE:rendE p x most=14:=rend_many (by omega) hV hio (by omega);have hN:Dj p x most=Jm:=Fw (by rw [hE];(first | decide | omega))
  exact ⟨_,(hGz15.trans hGk16),(M.weaken (cN (.cons _ (cN (.cons _ (sR _)))))),none,none,by rw [hE,hN];rfl,by rw [hN];exact Ag.nil,by rw [hN];exact Ag.nil⟩
 have h21:=dF h21b;refine wk ?_;refine qD rfl ?_ ?_
 ·intro h22;refine Bt<|?_
  refine Am (fun a F=>Ah (cs:=[.int .u8 0,.string (str []),.string (str []),.slice none 0 0,.string (str []),.slice none 0 0]) (ps:=[]) Aw.k rfl Aw (F.evp rfl) rfl) rfl<|fun a F=>?_
  refine Be F M Aw 1 ?_;clear F M a;intro w a M F;replace M:=z_M M;revert a;refine wk ?_;refine fun a F=>Bs F M (k:=1) rfl rfl Aw rfl rfl rfl rfl ?_;have hE:rendE p x most=14:=rend_many (by omega) hV hio (by omega);have hN:Dj p x most=Jm:=Fw (by rw [hE];(first | decide | omega))
  exact ⟨_,(hGz15.trans hGk16),(M.weaken (cN (.cons _ (cN (.cons _ (sR _)))))),none,none,by rw [hE,hN];rfl,by rw [hN];exact Ag.nil,by rw [hN];exact Ag.nil⟩
 intro h23;refine wk ?_;intro a F;refine Be F M Aw 1 ?_;clear F M a;intro w a M F;revert a;refine Ew rfl<|E9<|?_
 refine fun a F=>Bs F M (k:=1) rfl rfl Aw rfl rfl rfl rfl ?_;have hE:rendE p x most=0:=rend_ok (by omega) hV hio (by omega);have hN:=Aao hE
 exact ⟨_,(hGz15.trans hGk16),(M.weaken (cN (.cons _ (cN (.cons _ (sR _)))))),_,_,by rw [hE,hN],by rw [hN];exact SAe17,by rw [hN];exact SKe17⟩
end Go.Proofs.YtmmhmcplegpenaaGreatDoor.T
