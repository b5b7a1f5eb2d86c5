/- The walks, part LH. · The walks, part LI. · The walks, part LJ. · Notices: what they are, what they do; lists stay valid. -/
import Derived.Test.YtmmhmcplegpenaaGreatDoorJ9
set_option linter.unusedSimpArgs false
set_option linter.unusedVariables false
set_option maxRecDepth 10000
namespace Go.Proofs.YtmmhmcplegpenaaGreatDoor
open Go Go.Y Go.Proofs
set_option maxHeartbeats 1600000
def KeyC (w0:World) (G0:Aq) (kf:FuncId) (kc:List Value) (xs:List ItemD) (fK:Nat→Int) (Rk:Nat→List Res→Prop):Prop :=
 ∀ (G:Aq) (L R:List Res) (w:World) (i:Nat) (x:ItemD) (ma:Option Addr) (mc:Nat),Gle G0 G→xs[i]?=some x→Rk i R→Mem w0 G (R++L) w→(x.key < 18446744073709551616∧x.typ < 256∧x.text.length≤9223372036854775807)→Ag Cf 1 G (.slice ma x.marks.length mc) x.marks →
  Calls Tryz.prog kf ([.int .i64 ((i:Nat):Int),.agg #[.int .u64 ((x.key:Nat):Int),.int .u8 ((x.typ:Nat):Int),.string (str x.text),.slice ma x.marks.length mc]]++kc:List Value).toArray w (Ke w0 G fun L' v=>∃ R',v=.int .i64 (fK i)∧L' = R'++L∧(fK i=0→Rk (i+1) R'))
def MakeC (w0:World) (G0:Aq) (mk:FuncId) (mc:List Value) (fr out:List EntD):Prop :=
 ∀ (G:Aq) (L:List Res) (w:World) (a2:Option Addr) (c2:Nat),Gle G0 G→Mem w0 G L w→Ag Bg 6 G (.slice a2 fr.length c2) fr →
  Calls Tryz.prog mk ([.slice a2 fr.length c2]++mc:List Value).toArray w (Ret w0 G L fun G' v=>∃ (a:Option Addr) (cc:Nat),v=.slice a (out).length cc∧Ag Bg 6 G' (.slice a (out).length cc) (out))
def Jl (L:List Res) (r:List EntD × Int) (G':Aq) (L':List Res) (v:Value):Prop :=
 ∃ (a:Option Addr) (cs:List Value) (Ls:List Res),v=.tuple #[.agg #[.slice a r.1.length r.1.length],.int .i64 r.2]∧L' = (Cw a r.1.length cs::(Ls++L))∧Els (M8 Ls) 6 G' cs r.1
theorem Fk {w0 w:World} {G G':Aq} {L:List Res} {r:List EntD × Int} {e:Int} (hr:r=([],e)) (hG:Gle G G') (M:Mem w0 G' L w):∃ G2 L2,Gle G G2∧Mem w0 G2 L2 w∧Jl L r G2 L2 (.tuple #[.agg #[.slice none 0 0],.int .i64 e]):=by
 subst hr
 exact ⟨G',_,hG,M.nilrow 69 6,none,[],[],rfl,rfl,Els.nil⟩
theorem P7 {P:Program} {ops:Array Oper} {Q:Exit→Act→World→Prop} {n:Nat} {a:Act} {w w0:World} {e:Env} {G:Aq} {L:List Res} {d:Nat} {t:TypeId} {p:String} {af:Array Edge} {r:List Oper} {f:FuncId} {cal:Operand} {args:List Operand} {ats:Array TypeId} {vs caps:List Value} {Φ:Aq→Value→Prop}
  (F:Fits n a e) (hE:Ent P f) (hc:ev e cal=some (.func (.func f) #[] caps.toArray)) (hv:evs e args=some vs) (hd:Nat.ble (d+1) n=true) (hs:Calls P f (vs++caps).toArray w (Ret w0 G L Φ))
  (k:∀ v G' w' a',Gle G G'→Mem w0 G' L w'→Φ G' v→Fits n a' ((d,v)::e)→rl P ops Q r a' w') :
  rl P ops Q (⟨some d,.call ⟨.value cal,args.toArray,ats⟩,t,p,af,none⟩::r) a w:=by
 refine H7 F hE hc hv hd hs fun x w' hx=>?_
 cases x with
 | returned v=>obtain ⟨G',h1,h2,h3⟩:=hx;exact ⟨v,rfl,fun a' F'=>k v G' w' a' h1 h2 h3 F'⟩
 | panicked c=>exact hx.elim
 | outgrown=>exact hx.elim
theorem Pg {w0 w:World} {G:Aq} {L:List Res} {ins:Bool} {cnt:Int} {kv mv:Value} {fK:Nat→Int} {Rk:Nat→List Res→Prop} {out:List EntD} {R:List Res} (M:Mem w0 G (R++L) w) {c:RulesD} {kca:Option Addr} {kcc:Nat} (SC:Ag Cb 9 G (.slice kca c.kinds.length kcc) c.kinds) {a1:Option Addr} {c1:Nat} {l:List EntD} (S:Ag Bg 6 G (.slice a1 l.length c1) l) {ta:Option Addr} {tc:Nat} {xs:List ItemD} (T:Ag Bn 4 G (.slice ta xs.length tc) xs) (hck:Bb c l=0) (hR:Rk 0 R) (hN:xs.length≤1000000)
  (hKy:ins=true→xs=[]∨∃ kf kc,kv=.func (.func kf) #[] (List.toArray kc)∧Ent Tryz.prog kf∧KeyC w0 G kf kc xs fK Rk) (hMk:ins=true→Bm (Kb c xs fK) xs.length=0→∃ mk mc,mv=.func (.func mk) #[] (List.toArray mc)∧Ent Tryz.prog mk∧MakeC w0 G mk mc (xs.map (Bp c)) out)
  (hol:ins=true→out.length≤1000000) (hmk:ins=true→Bm (Kb c xs fK) xs.length=0→∀ x∈out,x.item.marks.length≤1000000) :
  Calls Tryz.prog 116 #[.agg #[.slice kca c.kinds.length kcc,.int .i64 c.cap],.agg #[.slice a1 l.length c1],.agg #[.bool ins,.int .i64 cnt,.slice ta xs.length tc,kv,mv]] w (Ht w0 G (Jl L (doR (Bb c l) ins cnt (Kb c xs fK) xs.length out))):=by
 have bT:=T.bound;refine Al (vs:=[_,_,_]) Tryz.func116 rfl (n:=79) rfl rfl<|?_
 refine Bt<|?_
 refine B2 M rfl rfl rfl<|?_;clear M;intro b1 w M
 refine B2 M rfl rfl rfl<|?_;clear M;intro b2 w M
 refine B2 M rfl rfl rfl<|?_;clear M;intro b3 w M
 refine B1 M Az rfl rfl<|?_;clear M;intro b4 w M
 refine wk ?_;refine A4 Ara rfl rfl (Ma (c:=c) (l:=l) M SC S)<|?_;clear M;rintro _ w M rfl
 refine wk ?_;refine Ae rfl ?_ ?_
 ·intro h6b;have h6:=Ab h6b;have h6c:(ins)=false:=(Ab h6b);refine Bt<|?_
  refine Am (fun a F=>Ah (cs:=[.slice none 0 0]) (ps:=[]) Az.k rfl Az (F.evp rfl) rfl) rfl<|fun a F=>?_
  refine Be F M Az 0 ?_;clear F M a;intro w a M F;replace M:=z_M M;revert a;refine wk ?_;refine fun a F=>Bs F M (k:=0) rfl rfl Az rfl rfl rfl rfl ?_
  exact Fk (Aui hck (by cases ins <;> simp_all)) (Gle.refl _) (M.weaken (cN (.cons _ (cN (.cons _ (List.sublist_append_right _ _))))))
 intro h7b;have h7:=Ac h7b;have h7c:(ins)=true:=(Ac h7b);refine wk ?_;refine qD rfl ?_ ?_
 ·intro h8;refine Bt<|?_
  refine Am (fun a F=>Ah (cs:=[.slice none 0 0]) (ps:=[]) Az.k rfl Az (F.evp rfl) rfl) rfl<|fun a F=>?_
  refine Be F M Az 0 ?_;clear F M a;intro w a M F;replace M:=z_M M;revert a;refine wk ?_;refine fun a F=>Bs F M (k:=0) rfl rfl Az rfl rfl rfl rfl ?_
  exact Fk (do_3 hck (by cases ins <;> simp_all) (by omega)) (Gle.refl _) (M.weaken (cN (.cons _ (cN (.cons _ (List.sublist_append_right _ _))))))
 intro h9;refine wk ?_;have hins:ins=true:=by cases ins <;> simp_all
 refine wk ?_;refine fun a F=>Ba (fun m a' w'=>∃ (i:Nat),∃ (Rn:List Res),m=xs.length - i∧Fits 79 a' [(3,.pointer (some ⟨b1,0,none⟩)),(4,.pointer (some ⟨b2,0,none⟩)),(5,.pointer (some ⟨b3,0,none⟩)),(6,.pointer (some ⟨b4,0,none⟩)),(32,.slice ta xs.length tc),(33,.int .i64 ((xs.length:Nat):Int)),(34,.int .i64 ((i:Nat):Int))]∧Mem w0 G (.blk b4 [.slice none 0 0] 54::.blk b3 [.bool ins,.int .i64 cnt,.slice ta xs.length tc,kv,mv] 207::.blk b2 [.slice a1 l.length c1] 54::.blk b1 [.slice kca c.kinds.length kcc,.int .i64 c.cap] 51::(Rn++L)) w'∧(i≤xs.length)∧(Rk i Rn)∧(Bm (Kb c xs fK) i=0)) _ ⟨0,R,rfl,F.to ⟨rfl,rfl,rfl,rfl,rfl,rfl,rfl,trivial⟩,M,Nat.zero_le _,hR,rfl⟩ ?_;clear F M;rintro m a w ⟨i,Rn,rfl,F,M,hi,hRn,hS⟩;revert a;refine wk ?_;refine qD rfl ?_ ?_
 ·intro h10;refine wk ?_;obtain ⟨Xi,hXi⟩:=Ap (xs:=xs) (i:=i) (by omega)
  rcases hKy hins with hx0 | ⟨kf,kc,hkv,hEk,hKc⟩
  ·intro a F
   exact absurd hXi (by rw [hx0];simp)
  refine wk ?_;obtain ⟨be11,oe11,_,Ie11,_,Ae11,hTe11⟩:=T.at hXi;obtain ⟨mae11,mce11,rfl,hke11,hte11,hxe11,hne11,SMe11⟩:=hTe11;have hIe11:(Xi.key < 18446744073709551616∧Xi.typ < 256∧Xi.text.length≤9223372036854775807):=⟨hke11,hte11,hxe11⟩;refine wk ?_;refine B1 M Bi rfl rfl<|?_;clear M;intro b12 w M
  refine Ew rfl<|?_
  intro a F;refine Be F M Bi 0 ?_;clear F M a;intro w a M F;replace M:=z_M M;revert a;refine wk ?_;refine A4 Aco rfl rfl (Ji (x:=Xi) (t:=((c.kinds.length:Nat):Int)) M hIe11 SMe11)<|?_;clear M;rintro _ w M rfl
  refine wk ?_;refine qD rfl ?_ ?_
  ·intro h14;have hok:ItemOk (c.kinds.length:Int) Xi:=Cz.1 (by assumption);refine wk ?_;intro a F;rw [hkv] at F;refine P8 F hEk (caps:=kc) rfl rfl rfl (hKc _ _ Rn _ i Xi _ _ (Gle.refl _) hXi hRn (M.perm (Bj [.blk b12 [.int .u64 ((Xi.key:Nat):Int),.int .u8 ((Xi.typ:Nat):Int),.string (str Xi.text),.slice mae11 Xi.marks.length mce11] 26,.blk b4 [.slice none 0 0] 54,.blk b3 [.bool ins,.int .i64 cnt,.slice ta xs.length tc,kv,mv] 207,.blk b2 [.slice a1 l.length c1] 54,.blk b1 [.slice kca c.kinds.length kcc,.int .i64 c.cap] 51] Rn L)) hIe11 SMe11) ?_;clear F M a;rintro _ _ w a M ⟨R2,rfl,rfl,hR2⟩ F;have M:=M.perm (Bj R2 [.blk b12 [.int .u64 ((Xi.key:Nat):Int),.int .u8 ((Xi.typ:Nat):Int),.string (str Xi.text),.slice mae11 Xi.marks.length mce11] 26,.blk b4 [.slice none 0 0] 54,.blk b3 [.bool ins,.int .i64 cnt,.slice ta xs.length tc,kv,mv] 207,.blk b2 [.slice a1 l.length c1] 54,.blk b1 [.slice kca c.kinds.length kcc,.int .i64 c.cap] 51] L);replace M:=z_M M;revert a;refine wk ?_;refine qD rfl ?_ ?_
   ·intro h15;obtain ⟨k,hK⟩:=Iq hok;refine wk ?_;refine A4 Ary rfl rfl (Q9 (c:=c) (x:=Xi) M SC hIe11 SMe11 hK)<|?_;clear M;rintro _ w M ⟨n1n16,s1n16,s2n16,s3n16,a1n16,a2n16,l1n16,c1n16,l2n16,c2n16,rfl⟩
    refine wk ?_;refine Ae rfl ?_ ?_
    ·intro h17b;have h17:=dF (Ab h17b);have h17c:(decide (Gu c Xi=0))=false:=(Ab h17b);refine Bt<|?_
     refine Am (fun a F=>Ah (cs:=[.slice none 0 0]) (ps:=[]) Az.k rfl Az (F.evp rfl) rfl) rfl<|?_
     refine C0 rfl<|?_
     intro a F;refine Be F M Az 1 ?_;clear F M a;intro w a M F;replace M:=z_M M;revert a;refine wk ?_;refine fun a F=>Bs F M (k:=1) rfl rfl Az rfl rfl rfl rfl ?_
     exact Fk (do_e hck hins (by omega) hS (A0 hXi) ((Ue hXi).trans (Ahz hok (by omega))) (by omega)) (Gle.refl _) (M.weaken (cN (.cons _ (cN (.cons _ (cN (List.sublist_append_right _ _)))))))
    intro h18b;have h18:=dT (Ac h18b);have h18c:(decide (Gu c Xi=0))=true:=(Ac h18b);refine wk ?_;intro a F
    exact ⟨_,by omega,i+1,R2,rfl,F.to ⟨rfl,rfl,rfl,rfl,rfl,rfl,rfl,trivial⟩,(M.weaken (cN (cC (.cons_cons _ (cC (.cons_cons _ (sR _))))))),by omega,hR2 (by omega),in_step hS hXi ((Ahz hok (by omega)).trans (by omega))⟩
   intro h19;refine wk ?_;refine Am (fun a F=>Ah (cs:=[.slice none 0 0]) (ps:=[]) Az.k rfl Az (F.evp rfl) rfl) rfl<|?_
   refine C0 rfl<|?_
   intro a F;refine Be F M Az 1 ?_;clear F M a;intro w a M F;replace M:=z_M M;revert a;refine wk ?_;refine fun a F=>Bs F M (k:=1) rfl rfl Az rfl rfl rfl rfl ?_
   exact Fk (do_e hck hins (by omega) hS (A0 hXi) ((Ue hXi).trans (Aql hok (by omega))) (by omega)) (Gle.refl _) (M.weaken (cN (.cons _ (cN (.cons _ (cN (List.sublist_append_right _ _)))))))
  intro h20;refine wk ?_;refine Am (fun a F=>Ah (cs:=[.slice none 0 0]) (ps:=[]) Az.k rfl Az (F.evp rfl) rfl) rfl<|?_
  refine C0 rfl<|?_
  intro a F;refine Be F M Az 1 ?_;clear F M a;intro w a M F;replace M:=z_M M;revert a;refine wk ?_;refine fun a F=>Bs F M (k:=1) rfl rfl Az rfl rfl rfl rfl ?_
  exact Fk (do_e hck hins (by omega) hS (A0 hXi) ((Ue hXi).trans ((Aia (fun h_=>by have:=Cv h_;omega)).trans (Dt (fun h_=>by have:=Cv h_;omega)).symm)) (by omega)) (Gle.refl _) (M.weaken (cN (.cons _ (cN (.cons _ (cN (List.sublist_append_right _ _)))))))
 intro h21;refine wk ?_;have hxe:Bm (Kb c xs fK) xs.length=0:=by rw [show xs.length=i by omega];exact hS
 have hxo:=Ahy hxe (Nat.le_refl _);obtain ⟨mk,mc,hmv,hEm,hMc⟩:=hMk hins hxe;intro a F;refine Ic (.run 0 (.run 1 (.run 2 (.run 3 (.run 4 (.act 5 (.act 6 (.act 7 (.act 8 (.act 9 .fin .no) .no) (.act 8 (.act 7 (.act 9 .fin .no) .no) .no)) (.act 8 (.act 6 (.act 7 (.act 9 .fin .no) .no) .no) .no)) (.act 8 (.act 5 (.act 6 (.act 7 (.act 9 .fin .no) .no) .no) .no) .no))))))) (Keep G [.blk b4 [.slice none 0 0] 54,.blk b3 [.bool ins,.int .i64 cnt,.slice ta xs.length tc,kv,mv] 207,.blk b2 [.slice a1 l.length c1] 54,.blk b1 [.slice kca c.kinds.length kcc,.int .i64 c.cap] 51]) rfl (by kernel_rfl) (fun c a d v w h=>by cases d <;> exact h) (Ax (M.drew _)) ?_;replace M:=M.drew (w.drawn+1);revert a;refine wk ?_;refine fun a F=>A2 ?_ rfl ?_
 ·skip
  revert a;refine D4 Aro rfl rfl (Uh (c:=c) (xs:=xs) M SC T (by omega) hxo)<|?_;clear M;rintro _ Gq22 w hGq22 M ⟨aq22,cq22,rfl,Sq22⟩
  replace SC:=SC.mono Ak hGq22;replace S:=S.mono Aa hGq22;replace T:=T.mono Ai hGq22;refine Ao<|?_
  refine eK (C':=Keep Gq22 [.blk b4 [.slice none 0 0] 54,.blk b3 [.bool ins,.int .i64 cnt,.slice ta xs.length tc,kv,mv] 207,.blk b2 [.slice a1 l.length c1] 54,.blk b1 [.slice kca c.kinds.length kcc,.int .i64 c.cap] 51]) (Ax M) (fun w h=>h.mono hGq22 (by simp))<|fun a F=>A2 ?_ rfl ?_
  ·skip
   rw [hmv] at F;refine P7 F hEm (caps:=mc) rfl rfl rfl (hMc _ _ _ _ _ hGq22 M Sq22) ?_;clear F M a;rintro _ Gq23 w a hGq23 M ⟨aq23,cq23,rfl,Sq23⟩ F;replace SC:=SC.mono Ak hGq23;replace S:=S.mono Aa hGq23;replace T:=T.mono Ai hGq23;replace Sq22:=Sq22.mono Aa hGq23;revert a;refine Ao<|?_
   refine eK (C':=Keep Gq23 [.blk b4 [.slice none 0 0] 54,.blk b3 [.bool ins,.int .i64 cnt,.slice ta xs.length tc,kv,mv] 207,.blk b2 [.slice a1 l.length c1] 54,.blk b1 [.slice kca c.kinds.length kcc,.int .i64 c.cap] 51]) (Ax M) (fun w h=>h.mono hGq23 (by simp))<|fun a F=>A2 ?_ rfl ?_
   ·skip
    refine Ch F Zk rfl rfl (O0 M Sq23 (hol hins) (hmk hins hxe)) ?_;clear F M a;rintro _ Gq24 _ w a hGq24 M ⟨ao,cso,Lo,rfl,rfl,Eo⟩ F;replace SC:=SC.mono Ak hGq24;replace S:=S.mono Aa hGq24;replace T:=T.mono Ai hGq24;replace Sq22:=Sq22.mono Aa hGq24;replace Sq23:=Sq23.mono Aa hGq24;have M:=M.perm (Bj (Cw ao out.length cso::Lo) [.blk b4 [.slice none 0 0] 54,.blk b3 [.bool ins,.int .i64 cnt,.slice ta xs.length tc,kv,mv] 207,.blk b2 [.slice a1 l.length c1] 54,.blk b1 [.slice kca c.kinds.length kcc,.int .i64 c.cap] 51] (Rn++L));replace M:=z_M M;revert a;refine Ao<|?_
    refine eK (C':=Keep Gq24 [.blk b4 [.slice none 0 0] 54,.blk b3 [.bool ins,.int .i64 cnt,.slice ta xs.length tc,kv,mv] 207,.blk b2 [.slice a1 l.length c1] 54,.blk b1 [.slice kca c.kinds.length kcc,.int .i64 c.cap] 51]) (Ax M) (fun w h=>h.mono hGq24 (by simp))<|fun a F=>A2 ?_ rfl Bl
    revert a;refine B1 M Az rfl rfl<|?_;clear M;intro b25 w M
    refine Ao<|?_
    refine eK (C':=Keep Gq24 [.blk b4 [.slice none 0 0] 54,.blk b3 [.bool ins,.int .i64 cnt,.slice ta xs.length tc,kv,mv] 207,.blk b2 [.slice a1 l.length c1] 54,.blk b1 [.slice kca c.kinds.length kcc,.int .i64 c.cap] 51]) (Ax M) (fun w h=>h.mono (Gle.refl _) (by simp))<|fun a F=>A2 ?_ rfl Bl
    refine Be F M Az 0 ?_;clear F M a;intro w a M F;replace M:=z_M M;revert a;refine Ao<|?_
    refine eQ (Ax M)<|?_
    refine wk ?_;have M:=M.perm (Bj [.blk b25 [.slice ao out.length out.length] 54,.blk b4 [.slice none 0 0] 54,.blk b3 [.bool ins,.int .i64 cnt,.slice ta xs.length tc,kv,mv] 207,.blk b2 [.slice a1 l.length c1] 54,.blk b1 [.slice kca c.kinds.length kcc,.int .i64 c.cap] 51] (Cw ao out.length cso::Lo) (Rn++L));refine A4 Uo rfl rfl (O1 M Eo)<|?_;clear M;rintro _ w M rfl
    have M:=M.perm (Bj (Cw ao out.length cso::Lo) [.blk b25 [.slice ao out.length out.length] 54,.blk b4 [.slice none 0 0] 54,.blk b3 [.bool ins,.int .i64 cnt,.slice ta xs.length tc,kv,mv] 207,.blk b2 [.slice a1 l.length c1] 54,.blk b1 [.slice kca c.kinds.length kcc,.int .i64 c.cap] 51] (Rn++L));replace M:=z_M M;refine wk ?_;refine Ae rfl ?_ ?_
    ·intro h27b;have h27:=dF (Ab h27b);have h27c:(decide (Db out=0))=false:=(Ab h27b);refine Bt<|?_
     refine Am (fun a F=>Ah (cs:=[.slice none 0 0]) (ps:=[]) Az.k rfl Az (F.evp rfl) rfl) rfl<|?_
     refine C0 rfl<|?_
     intro a F;refine Be F M Az 1 ?_;clear F M a;intro w a M F;change Mem w0 Gq24 (.blk b25 [.slice ao out.length out.length] 54::.blk b4 [.slice none 0 0] 54::_::_::_::((Cw ao out.length cso::Lo)++(Rn++L))) _ at M;revert a;refine Ew rfl<|E9<|Gr<|?_
     refine fun a F=>Bs F M (k:=1) rfl rfl Az rfl rfl rfl rfl ?_
     exact Fk (Alp hck hins (by omega) hxe (by omega)) ((hGq22.trans hGq23).trans hGq24) (M.weaken (cN (.cons _ (cN (.cons _ (cN ((List.sublist_append_right _ _).trans (List.sublist_append_right _ _))))))))
    intro h28b;have h28:=dT (Ac h28b);have h28c:(decide (Db out=0))=true:=(Ac h28b);refine wk ?_;intro a F;refine Be F M Az 1 ?_;clear F M a;intro w a M F;change Mem w0 Gq24 (.blk b25 [.slice ao out.length out.length] 54::.blk b4 [.slice ao out.length out.length] 54::_::_::_::((Cw ao out.length cso::Lo)++(Rn++L))) _ at M;revert a;refine Ew rfl<|E9<|?_
    refine fun a F=>Bs F M (k:=1) rfl rfl Az rfl rfl rfl rfl ?_
    exact ⟨_,_,((hGq22.trans hGq23).trans hGq24),M.weaken (cN (.cons _ (cN (.cons _ (cN (cC ((sR Lo).append (List.sublist_append_right Rn L)))))))),ao,cso,Lo,by rw [Na hck hins (by omega) hxe (by omega)],by rw [Na hck hins (by omega) hxe (by omega)],by rw [Na hck hins (by omega) hxe (by omega)];exact Eo⟩
   refine A2 ?_ rfl ?_
   ·skip
    revert a;refine B1 M Az rfl rfl<|?_;clear M;intro b29 w M
    refine Ao<|?_
    refine eK (C':=Keep Gq23 [.blk b4 [.slice none 0 0] 54,.blk b3 [.bool ins,.int .i64 cnt,.slice ta xs.length tc,kv,mv] 207,.blk b2 [.slice a1 l.length c1] 54,.blk b1 [.slice kca c.kinds.length kcc,.int .i64 c.cap] 51]) (Ax M) (fun w h=>h.mono (Gle.refl _) (by simp))<|fun a F=>A2 ?_ rfl Bl
    refine Ch F Zk rfl rfl (O0 M Sq23 (hol hins) (hmk hins hxe)) ?_;clear F M a;rintro _ Gq31 _ w a hGq31 M ⟨ao,cso,Lo,rfl,rfl,Eo⟩ F;replace SC:=SC.mono Ak hGq31;replace S:=S.mono Aa hGq31;replace T:=T.mono Ai hGq31;replace Sq22:=Sq22.mono Aa hGq31;replace Sq23:=Sq23.mono Aa hGq31;have M:=M.perm (Bj (Cw ao out.length cso::Lo) [.blk b29 [.slice none 0 0] 54,.blk b4 [.slice none 0 0] 54,.blk b3 [.bool ins,.int .i64 cnt,.slice ta xs.length tc,kv,mv] 207,.blk b2 [.slice a1 l.length c1] 54,.blk b1 [.slice kca c.kinds.length kcc,.int .i64 c.cap] 51] (Rn++L));replace M:=z_M M;revert a;refine Ao<|?_
    refine eK (C':=Keep Gq31 [.blk b4 [.slice none 0 0] 54,.blk b3 [.bool ins,.int .i64 cnt,.slice ta xs.length tc,kv,mv] 207,.blk b2 [.slice a1 l.length c1] 54,.blk b1 [.slice kca c.kinds.length kcc,.int .i64 c.cap] 51]) (Ax M) (fun w h=>h.mono hGq31 (by simp))<|fun a F=>A2 ?_ rfl Bl
    refine Be F M Az 0 ?_;clear F M a;intro w a M F;replace M:=z_M M;revert a;refine Ao<|?_
    refine eK (C':=Keep Gq31 [.blk b4 [.slice none 0 0] 54,.blk b3 [.bool ins,.int .i64 cnt,.slice ta xs.length tc,kv,mv] 207,.blk b2 [.slice a1 l.length c1] 54,.blk b1 [.slice kca c.kinds.length kcc,.int .i64 c.cap] 51]) (Ax M) (fun w h=>h.mono (Gle.refl _) (by simp))<|?_
    refine wk ?_;have M:=M.perm (Bj [.blk b29 [.slice ao out.length out.length] 54,.blk b4 [.slice none 0 0] 54,.blk b3 [.bool ins,.int .i64 cnt,.slice ta xs.length tc,kv,mv] 207,.blk b2 [.slice a1 l.length c1] 54,.blk b1 [.slice kca c.kinds.length kcc,.int .i64 c.cap] 51] (Cw ao out.length cso::Lo) (Rn++L));refine A4 Uo rfl rfl (O1 M Eo)<|?_;clear M;rintro _ w M rfl
    have M:=M.perm (Bj (Cw ao out.length cso::Lo) [.blk b29 [.slice ao out.length out.length] 54,.blk b4 [.slice none 0 0] 54,.blk b3 [.bool ins,.int .i64 cnt,.slice ta xs.length tc,kv,mv] 207,.blk b2 [.slice a1 l.length c1] 54,.blk b1 [.slice kca c.kinds.length kcc,.int .i64 c.cap] 51] (Rn++L));replace M:=z_M M;refine wk ?_;refine Ae rfl ?_ ?_
    ·intro h32b;have h32:=dF (Ab h32b);have h32c:(decide (Db out=0))=false:=(Ab h32b);refine Bt<|?_
     refine Am (fun a F=>Ah (cs:=[.slice none 0 0]) (ps:=[]) Az.k rfl Az (F.evp rfl) rfl) rfl<|?_
     refine C0 rfl<|?_
     intro a F;refine Be F M Az 1 ?_;clear F M a;intro w a M F;change Mem w0 Gq31 (.blk b29 [.slice ao out.length out.length] 54::.blk b4 [.slice none 0 0] 54::_::_::_::((Cw ao out.length cso::Lo)++(Rn++L))) _ at M;revert a;refine Ew rfl<|E9<|Gr<|?_
     refine fun a F=>Bs F M (k:=1) rfl rfl Az rfl rfl rfl rfl ?_
     exact Fk (Alp hck hins (by omega) hxe (by omega)) ((hGq22.trans hGq23).trans hGq31) (M.weaken (cN (.cons _ (cN (.cons _ (cN ((List.sublist_append_right _ _).trans (List.sublist_append_right _ _))))))))
    intro h33b;have h33:=dT (Ac h33b);have h33c:(decide (Db out=0))=true:=(Ac h33b);refine wk ?_;intro a F;refine Be F M Az 1 ?_;clear F M a;intro w a M F;change Mem w0 Gq31 (.blk b29 [.slice ao out.length out.length] 54::.blk b4 [.slice ao out.length out.length] 54::_::_::_::((Cw ao out.length cso::Lo)++(Rn++L))) _ at M;revert a;refine Ew rfl<|E9<|?_
    refine fun a F=>Bs F M (k:=1) rfl rfl Az rfl rfl rfl rfl ?_
    exact ⟨_,_,((hGq22.trans hGq23).trans hGq31),M.weaken (cN (.cons _ (cN (.cons _ (cN (cC ((sR Lo).append (List.sublist_append_right Rn L)))))))),ao,cso,Lo,by rw [Na hck hins (by omega) hxe (by omega)],by rw [Na hck hins (by omega) hxe (by omega)],by rw [Na hck hins (by omega) hxe (by omega)];exact Eo⟩
   exact Bl
  refine A2 ?_ rfl ?_
  ·skip
   revert a;refine B1 M Az rfl rfl<|?_;clear M;intro b34 w M
   refine Ao<|?_
   refine eK (C':=Keep Gq22 [.blk b4 [.slice none 0 0] 54,.blk b3 [.bool ins,.int .i64 cnt,.slice ta xs.length tc,kv,mv] 207,.blk b2 [.slice a1 l.length c1] 54,.blk b1 [.slice kca c.kinds.length kcc,.int .i64 c.cap] 51]) (Ax M) (fun w h=>h.mono (Gle.refl _) (by simp))<|fun a F=>A2 ?_ rfl Bl
   rw [hmv] at F;refine P7 F hEm (caps:=mc) rfl rfl rfl (hMc _ _ _ _ _ hGq22 M Sq22) ?_;clear F M a;rintro _ Gq36 w a hGq36 M ⟨aq36,cq36,rfl,Sq36⟩ F;replace SC:=SC.mono Ak hGq36;replace S:=S.mono Aa hGq36;replace T:=T.mono Ai hGq36;replace Sq22:=Sq22.mono Aa hGq36;revert a;refine Ao<|?_
   refine eK (C':=Keep Gq36 [.blk b4 [.slice none 0 0] 54,.blk b3 [.bool ins,.int .i64 cnt,.slice ta xs.length tc,kv,mv] 207,.blk b2 [.slice a1 l.length c1] 54,.blk b1 [.slice kca c.kinds.length kcc,.int .i64 c.cap] 51]) (Ax M) (fun w h=>h.mono hGq36 (by simp))<|fun a F=>A2 ?_ rfl Bl
   refine Ch F Zk rfl rfl (O0 M Sq36 (hol hins) (hmk hins hxe)) ?_;clear F M a;rintro _ Gq37 _ w a hGq37 M ⟨ao,cso,Lo,rfl,rfl,Eo⟩ F;replace SC:=SC.mono Ak hGq37;replace S:=S.mono Aa hGq37;replace T:=T.mono Ai hGq37;replace Sq22:=Sq22.mono Aa hGq37;replace Sq36:=Sq36.mono Aa hGq37;have M:=M.perm (Bj (Cw ao out.length cso::Lo) [.blk b34 [.slice none 0 0] 54,.blk b4 [.slice none 0 0] 54,.blk b3 [.bool ins,.int .i64 cnt,.slice ta xs.length tc,kv,mv] 207,.blk b2 [.slice a1 l.length c1] 54,.blk b1 [.slice kca c.kinds.length kcc,.int .i64 c.cap] 51] (Rn++L));replace M:=z_M M;revert a;refine Ao<|?_
   refine eK (C':=Keep Gq37 [.blk b4 [.slice none 0 0] 54,.blk b3 [.bool ins,.int .i64 cnt,.slice ta xs.length tc,kv,mv] 207,.blk b2 [.slice a1 l.length c1] 54,.blk b1 [.slice kca c.kinds.length kcc,.int .i64 c.cap] 51]) (Ax M) (fun w h=>h.mono hGq37 (by simp))<|fun a F=>A2 ?_ rfl Bl
   refine Be F M Az 0 ?_;clear F M a;intro w a M F;replace M:=z_M M;revert a;refine Ao<|?_
   refine eK (C':=Keep Gq37 [.blk b4 [.slice none 0 0] 54,.blk b3 [.bool ins,.int .i64 cnt,.slice ta xs.length tc,kv,mv] 207,.blk b2 [.slice a1 l.length c1] 54,.blk b1 [.slice kca c.kinds.length kcc,.int .i64 c.cap] 51]) (Ax M) (fun w h=>h.mono (Gle.refl _) (by simp))<|?_
   refine wk ?_;have M:=M.perm (Bj [.blk b34 [.slice ao out.length out.length] 54,.blk b4 [.slice none 0 0] 54,.blk b3 [.bool ins,.int .i64 cnt,.slice ta xs.length tc,kv,mv] 207,.blk b2 [.slice a1 l.length c1] 54,.blk b1 [.slice kca c.kinds.length kcc,.int .i64 c.cap] 51] (Cw ao out.length cso::Lo) (Rn++L));refine A4 Uo rfl rfl (O1 M Eo)<|?_;clear M;rintro _ w M rfl
   have M:=M.perm (Bj (Cw ao out.length cso::Lo) [.blk b34 [.slice ao out.length out.length] 54,.blk b4 [.slice none 0 0] 54,.blk b3 [.bool ins,.int .i64 cnt,.slice ta xs.length tc,kv,mv] 207,.blk b2 [.slice a1 l.length c1] 54,.blk b1 [.slice kca c.kinds.length kcc,.int .i64 c.cap] 51] (Rn++L));replace M:=z_M M;refine wk ?_;refine Ae rfl ?_ ?_
   ·intro h38b;have h38:=dF (Ab h38b);have h38c:(decide (Db out=0))=false:=(Ab h38b);refine Bt<|?_
    refine Am (fun a F=>Ah (cs:=[.slice none 0 0]) (ps:=[]) Az.k rfl Az (F.evp rfl) rfl) rfl<|?_
    refine C0 rfl<|?_
    intro a F;refine Be F M Az 1 ?_;clear F M a;intro w a M F;change Mem w0 Gq37 (.blk b34 [.slice ao out.length out.length] 54::.blk b4 [.slice none 0 0] 54::_::_::_::((Cw ao out.length cso::Lo)++(Rn++L))) _ at M;revert a;refine Ew rfl<|E9<|Gr<|?_
    refine fun a F=>Bs F M (k:=1) rfl rfl Az rfl rfl rfl rfl ?_
    exact Fk (Alp hck hins (by omega) hxe (by omega)) ((hGq22.trans hGq36).trans hGq37) (M.weaken (cN (.cons _ (cN (.cons _ (cN ((List.sublist_append_right _ _).trans (List.sublist_append_right _ _))))))))
   intro h39b;have h39:=dT (Ac h39b);have h39c:(decide (Db out=0))=true:=(Ac h39b);refine wk ?_;intro a F;refine Be F M Az 1 ?_;clear F M a;intro w a M F;change Mem w0 Gq37 (.blk b34 [.slice ao out.length out.length] 54::.blk b4 [.slice ao out.length out.length] 54::_::_::_::((Cw ao out.length cso::Lo)++(Rn++L))) _ at M;revert a;refine Ew rfl<|E9<|?_
   refine fun a F=>Bs F M (k:=1) rfl rfl Az rfl rfl rfl rfl ?_
   exact ⟨_,_,((hGq22.trans hGq36).trans hGq37),M.weaken (cN (.cons _ (cN (.cons _ (cN (cC ((sR Lo).append (List.sublist_append_right Rn L)))))))),ao,cso,Lo,by rw [Na hck hins (by omega) hxe (by omega)],by rw [Na hck hins (by omega) hxe (by omega)],by rw [Na hck hins (by omega) hxe (by omega)];exact Eo⟩
  exact Bl
 refine A2 ?_ rfl ?_
 ·skip
  revert a;refine B1 M Az rfl rfl<|?_;clear M;intro b40 w M
  refine Ao<|?_
  refine eK (C':=Keep G [.blk b4 [.slice none 0 0] 54,.blk b3 [.bool ins,.int .i64 cnt,.slice ta xs.length tc,kv,mv] 207,.blk b2 [.slice a1 l.length c1] 54,.blk b1 [.slice kca c.kinds.length kcc,.int .i64 c.cap] 51]) (Ax M) (fun w h=>h.mono (Gle.refl _) (by simp))<|fun a F=>A2 ?_ rfl Bl
  revert a;refine D4 Aro rfl rfl (Uh (c:=c) (xs:=xs) M SC T (by omega) hxo)<|?_;clear M;rintro _ Gq42 w hGq42 M ⟨aq42,cq42,rfl,Sq42⟩
  replace SC:=SC.mono Ak hGq42;replace S:=S.mono Aa hGq42;replace T:=T.mono Ai hGq42;refine Ao<|?_
  refine eK (C':=Keep Gq42 [.blk b4 [.slice none 0 0] 54,.blk b3 [.bool ins,.int .i64 cnt,.slice ta xs.length tc,kv,mv] 207,.blk b2 [.slice a1 l.length c1] 54,.blk b1 [.slice kca c.kinds.length kcc,.int .i64 c.cap] 51]) (Ax M) (fun w h=>h.mono hGq42 (by simp))<|fun a F=>A2 ?_ rfl Bl
  rw [hmv] at F;refine P7 F hEm (caps:=mc) rfl rfl rfl (hMc _ _ _ _ _ hGq42 M Sq42) ?_;clear F M a;rintro _ Gq43 w a hGq43 M ⟨aq43,cq43,rfl,Sq43⟩ F;replace SC:=SC.mono Ak hGq43;replace S:=S.mono Aa hGq43;replace T:=T.mono Ai hGq43;replace Sq42:=Sq42.mono Aa hGq43;revert a;refine Ao<|?_
  refine eK (C':=Keep Gq43 [.blk b4 [.slice none 0 0] 54,.blk b3 [.bool ins,.int .i64 cnt,.slice ta xs.length tc,kv,mv] 207,.blk b2 [.slice a1 l.length c1] 54,.blk b1 [.slice kca c.kinds.length kcc,.int .i64 c.cap] 51]) (Ax M) (fun w h=>h.mono hGq43 (by simp))<|fun a F=>A2 ?_ rfl Bl
  refine Ch F Zk rfl rfl (O0 M Sq43 (hol hins) (hmk hins hxe)) ?_;clear F M a;rintro _ Gq44 _ w a hGq44 M ⟨ao,cso,Lo,rfl,rfl,Eo⟩ F;replace SC:=SC.mono Ak hGq44;replace S:=S.mono Aa hGq44;replace T:=T.mono Ai hGq44;replace Sq42:=Sq42.mono Aa hGq44;replace Sq43:=Sq43.mono Aa hGq44;have M:=M.perm (Bj (Cw ao out.length cso::Lo) [.blk b40 [.slice none 0 0] 54,.blk b4 [.slice none 0 0] 54,.blk b3 [.bool ins,.int .i64 cnt,.slice ta xs.length tc,kv,mv] 207,.blk b2 [.slice a1 l.length c1] 54,.blk b1 [.slice kca c.kinds.length kcc,.int .i64 c.cap] 51] (Rn++L));replace M:=z_M M;revert a;refine Ao<|?_
  refine eK (C':=Keep Gq44 [.blk b4 [.slice none 0 0] 54,.blk b3 [.bool ins,.int .i64 cnt,.slice ta xs.length tc,kv,mv] 207,.blk b2 [.slice a1 l.length c1] 54,.blk b1 [.slice kca c.kinds.length kcc,.int .i64 c.cap] 51]) (Ax M) (fun w h=>h.mono hGq44 (by simp))<|fun a F=>A2 ?_ rfl Bl
  refine Be F M Az 0 ?_;clear F M a;intro w a M F;replace M:=z_M M;revert a;refine Ao<|?_
  refine eK (C':=Keep Gq44 [.blk b4 [.slice none 0 0] 54,.blk b3 [.bool ins,.int .i64 cnt,.slice ta xs.length tc,kv,mv] 207,.blk b2 [.slice a1 l.length c1] 54,.blk b1 [.slice kca c.kinds.length kcc,.int .i64 c.cap] 51]) (Ax M) (fun w h=>h.mono (Gle.refl _) (by simp))<|?_
  refine wk ?_;have M:=M.perm (Bj [.blk b40 [.slice ao out.length out.length] 54,.blk b4 [.slice none 0 0] 54,.blk b3 [.bool ins,.int .i64 cnt,.slice ta xs.length tc,kv,mv] 207,.blk b2 [.slice a1 l.length c1] 54,.blk b1 [.slice kca c.kinds.length kcc,.int .i64 c.cap] 51] (Cw ao out.length cso::Lo) (Rn++L));refine A4 Uo rfl rfl (O1 M Eo)<|?_;clear M;rintro _ w M rfl
  have M:=M.perm (Bj (Cw ao out.length cso::Lo) [.blk b40 [.slice ao out.length out.length] 54,.blk b4 [.slice none 0 0] 54,.blk b3 [.bool ins,.int .i64 cnt,.slice ta xs.length tc,kv,mv] 207,.blk b2 [.slice a1 l.length c1] 54,.blk b1 [.slice kca c.kinds.length kcc,.int .i64 c.cap] 51] (Rn++L));replace M:=z_M M;refine wk ?_;refine Ae rfl ?_ ?_
  ·intro h45b;have h45:=dF (Ab h45b);have h45c:(decide (Db out=0))=false:=(Ab h45b);refine Bt<|?_
   refine Am (fun a F=>Ah (cs:=[.slice none 0 0]) (ps:=[]) Az.k rfl Az (F.evp rfl) rfl) rfl<|?_
   refine C0 rfl<|?_
   intro a F;refine Be F M Az 1 ?_;clear F M a;intro w a M F;change Mem w0 Gq44 (.blk b40 [.slice ao out.length out.length] 54::.blk b4 [.slice none 0 0] 54::_::_::_::((Cw ao out.length cso::Lo)++(Rn++L))) _ at M;revert a;refine Ew rfl<|E9<|Gr<|?_
   refine fun a F=>Bs F M (k:=1) rfl rfl Az rfl rfl rfl rfl ?_
   exact Fk (Alp hck hins (by omega) hxe (by omega)) ((hGq42.trans hGq43).trans hGq44) (M.weaken (cN (.cons _ (cN (.cons _ (cN ((List.sublist_append_right _ _).trans (List.sublist_append_right _ _))))))))
  intro h46b;have h46:=dT (Ac h46b);have h46c:(decide (Db out=0))=true:=(Ac h46b);refine wk ?_;intro a F;refine Be F M Az 1 ?_;clear F M a;intro w a M F;change Mem w0 Gq44 (.blk b40 [.slice ao out.length out.length] 54::.blk b4 [.slice ao out.length out.length] 54::_::_::_::((Cw ao out.length cso::Lo)++(Rn++L))) _ at M;revert a;refine Ew rfl<|E9<|?_
  refine fun a F=>Bs F M (k:=1) rfl rfl Az rfl rfl rfl rfl ?_
  exact ⟨_,_,((hGq42.trans hGq43).trans hGq44),M.weaken (cN (.cons _ (cN (.cons _ (cN (cC ((sR Lo).append (List.sublist_append_right Rn L)))))))),ao,cso,Lo,by rw [Na hck hins (by omega) hxe (by omega)],by rw [Na hck hins (by omega) hxe (by omega)],by rw [Na hck hins (by omega) hxe (by omega)];exact Eo⟩
 exact Bl
set_option maxHeartbeats 1600000
open Classical in
noncomputable def Sr (l:List EntD) (xs:List ItemD) (i:Nat):Int:=match xs[i]? with
 | some x=>if Cx l x.key∨Je (xs.take i) x.key then 8 else 0
 | none=>0
theorem X6 {l:List EntD} {xs:List ItemD} {i:Nat} {x:ItemD} (h:xs[i]?=some x) [Decidable (Cx l x.key∨Je (xs.take i) x.key)]:Sr l xs i=if Cx l x.key∨Je (xs.take i) x.key then 8 else 0:=by
 unfold Sr;rw [h]
 by_cases hp:Cx l x.key∨Je (xs.take i) x.key
 ·simp only [hp,if_true]
 simp only [hp,if_false]
theorem in_inc {c:RulesD} {l:List EntD} {xs:List ItemD} (hc:Cy c) (i:Nat):Kb c xs (Sr l xs) i=Nl c l xs i:=by
 classical
 cases hx:xs[i]? with
 | none=>unfold Kb Nl;rw [hx]
 | some x =>
  rw [Ue hx,N6 hx,X6 hx]
  by_cases h1:ItemOk (c.kinds.length:Int) x
  ·by_cases h2:Cx l x.key∨Je (xs.take i) x.key
   ·rw [if_pos h2,R7 h1 h2,Aql h1 (by decide)]
   ·rw [if_neg h2,Ahz h1 rfl]
    rcases Aer hc h1 with h3 | h3
    ·rw [J0 h1 h2 h3,h3]
    ·rw [Jb h1 h2 (by omega),h3]
  ·rw [Aia h1,Pa h1]
theorem R0 (l:List EntD):Db l=0∨Db l=13:=by unfold Db;split <;> simp
theorem Aqi {c:RulesD} {l:List EntD} {z:Int} {xs:List ItemD} (h:Bb c l=0) :
  doR (Bb c l) (decide (Av z 0 l.length)) (((l.length+xs.length:Nat)):Int) (Kb c xs (Sr l xs)) xs.length (Ci l z.toNat 0 (xs.map (Bp c)))=F8 c l z xs:=by
 have hf:Bm (Kb c xs (Sr l xs)) xs.length=Lg c l xs:=K5 fun i _=>in_inc (Dq h).1 i
 by_cases h1:Av z 0 l.length
 ·have d1:decide (Av z 0 l.length)=true:=decide_eq_true h1
  by_cases h2:1024 < l.length+xs.length
  ·rw [Ahx h1 h2,do_3 h d1 (by omega)]
  by_cases h3:Lg c l xs=0
  ·rcases R0 (Ci l z.toNat 0 (xs.map (Bp c))) with h4 | h4
   ·rw [Wy h1 h2 h3 h4,Na h d1 (by omega) (by rw [hf,h3]) h4]
   rw [Ze h1 h2 h3 (by omega),Alp h d1 (by omega) (by rw [hf,h3]) (by omega),h4]
  rw [Ahw h1 h2 h3];unfold doR;rw [if_neg (not_not_intro h),if_neg (by rw [d1];decide),if_neg (by omega),if_pos (by rw [hf];exact h3),hf]
 rw [Wx h1,Aui h (decide_eq_false h1)]
theorem Sn (l:List EntD) (p n:Nat) (fr:List EntD):Gd (Ci l p n fr)=Gd (l.take p)+Gd fr+Gd (l.drop (p+n)):=by unfold Ci;rw [Hh,Hh]
theorem Z7 (l:List EntD) (p n:Nat):Gd l=Gd (l.take p)+Gd ((l.drop p).take n)+Gd (l.drop (p+n)):=by
 have h1:=Hh (l.take p) (l.drop p);have h2:=Hh ((l.drop p).take n) ((l.drop p).drop n);rw [List.take_append_drop] at h1 h2;rw [List.drop_drop] at h2
 omega
theorem Aax {l:List EntD} {p n:Nat} (h:Db l=0):Db (Ci l p n [])=0:=by
 rw [P9] at h ⊢;have h1:=Sn l p n [];have h2:=Z7 l p n;have h3:=Mk ((l.drop p).take n);have h4:Gd []=0:=rfl
 omega
theorem Aay {l:List EntD} {p n q:Nat} (h:Db l=0):Db (O3 l p n q)=0:=by
 rw [P9] at h ⊢;unfold O3;have h1:=Sn l p n [];have h2:=Z7 l p n;have h3:=Sn (Ci l p n []) q 0 ((l.drop p).take n);have h4:=Hh ((Ci l p n []).take q) ((Ci l p n []).drop q);rw [List.take_append_drop] at h4;have h5:Gd []=0:=rfl;rw [Nat.add_zero] at h3
 omega
theorem rem_do {c:RulesD} {l:List EntD} {z n:Int} {fK:Nat→Int} (h:Bb c l=0):doR (Bb c l) (decide (Av z n l.length)) 0 (Kb c [] fK) 0 (Ci l z.toNat n.toNat [])=Le l z n:=by
 by_cases h1:Av z n l.length
 ·rw [V6 h1,Na h (decide_eq_true h1) (by decide) rfl (Aax (Dq h).2.2.2)]
 rw [Agv h1,Aui h (decide_eq_false h1)]
theorem mov_do {c:RulesD} {l:List EntD} {z n b:Int} {fK:Nat→Int} {ins:Bool} (h:Bb c l=0) (hi:ins=true↔Av z n l.length∧Av b 0 (l.length - n)):doR (Bb c l) ins 0 (Kb c [] fK) 0 (O3 l z.toNat n.toNat b.toNat)=Hs l z n b:=by
 by_cases h1:Av z n l.length∧Av b 0 (l.length - n)
 ·rw [Ahj h1,Na h (hi.2 h1) (by decide) rfl (Aay (Dq h).2.2.2)]
 rw [Ahi h1,Aui h (by cases ins with | true=>exact absurd (hi.1 rfl) h1 | false=>rfl)]
def Tp (l:List EntD) (p:Nat) (xs:List ItemD) (i:Nat):Int:=match xs[i]?,l[p+i]? with
 | some x,some y=>if y.item.key=x.key then 0 else 9
 | _,_=>0
theorem Wb {l:List EntD} {p:Nat} {xs:List ItemD} {i:Nat} {x:ItemD} {y:EntD} (hx:xs[i]?=some x) (hy:l[p+i]?=some y):Tp l p xs i=if y.item.key=x.key then 0 else 9:=by unfold Tp;rw [hx,hy]
theorem in_chg {c:RulesD} {l:List EntD} {p:Nat} {xs:List ItemD} (hc:Cy c) (hp:p+xs.length≤l.length) (i:Nat):Kb c xs (Tp l p xs) i=Ik c l p xs i:=by
 cases hx:xs[i]? with
 | none=>unfold Kb Ik;rw [hx]
 | some x =>
  have hi:=A0 hx;obtain ⟨y,hy⟩:=Ap (xs:=l) (i:=p+i) (by omega);rw [Ue hx,Uv hx,Wb hx hy]
  by_cases h1:ItemOk (c.kinds.length:Int) x
  ·by_cases h2:y.item.key=x.key
   ·rw [if_pos h2,Ahz h1 rfl];have h5:¬ Nz l (p+i) x.key:=fun h=>(H8 hy).1 h h2
    rcases Aer hc h1 with h3 | h3
    ·rw [Aur h1 h5 h3,h3]
    ·rw [Zq h1 h5 (by omega),h3]
   ·rw [if_neg h2,Aql h1 (by decide),Age h1 ((H8 hy).2 h2)]
  ·rw [Aia h1,Agf h1]
theorem chg_do {c:RulesD} {l:List EntD} {z:Int} {xs:List ItemD} (h:Bb c l=0) :
  doR (Bb c l) (decide (Av z xs.length l.length)) 0 (Kb c xs (Tp l z.toNat xs)) xs.length (Ci l z.toNat xs.length (xs.map (Bp c)))=Jh c l z xs:=by
 by_cases h1:Av z xs.length l.length
 ·have d1:decide (Av z xs.length l.length)=true:=decide_eq_true h1;have h1':=h1;unfold Av at h1';have hf:Bm (Kb c xs (Tp l z.toNat xs)) xs.length=Bm (Ik c l z.toNat xs) xs.length:=K5 fun i _=>in_chg (Dq h).1 (by omega) i
  by_cases h3:Bm (Ik c l z.toNat xs) xs.length=0
  ·rcases R0 (Ci l z.toNat xs.length (xs.map (Bp c))) with h4 | h4
   ·rw [Aiu h1 h3 h4,Na h d1 (by decide) (by rw [hf,h3]) h4]
   rw [Zp h1 h3 (by omega),Alp h d1 (by decide) (by rw [hf,h3]) (by omega),h4]
  unfold doR Jh;rw [if_neg (not_not_intro h),if_neg (by rw [d1];decide),if_neg (by decide),if_pos (by rw [hf];exact h3),hf,if_neg (not_not_intro h1),if_pos h3]
 rw [Ait h1,Aui h (decide_eq_false h1)]
theorem Abo {c:RulesD} {x:ItemD} (h:ItemOk (c.kinds.length:Int) x):x.marks.length≤1000000:=by have:=h.2.2.2.1;omega
theorem R4 {l:List EntD} {p n:Nat} {fr:List EntD} {x:EntD} (h:x∈Ci l p n fr):x∈l∨x∈fr:=by
 unfold Ci at h
 rcases List.mem_append.1 h with h | h
 ·rcases List.mem_append.1 h with h | h
  ·exact Or.inl (List.mem_of_mem_take h)
  exact Or.inr h
 exact Or.inl (List.mem_of_mem_drop h)
theorem App {c:RulesD} {l:List EntD} {p n:Nat} {xs:List ItemD} (h:Bb c l=0) (hx:∀ x∈xs,ItemOk (c.kinds.length:Int) x):∀ x∈Ci l p n (xs.map (Bp c)),x.item.marks.length≤1000000:=by
 intro x hm
 rcases R4 hm with hm | hm
 ·exact Abo (Ob h x hm)
 obtain ⟨y,hy,rfl⟩:=List.mem_map.1 hm
 exact Abo (hx y hy)
theorem Apo {c:RulesD} {l:List EntD} {p n:Nat} (h:Bb c l=0):∀ x∈Ci l p n [],x.item.marks.length≤1000000:=by
 intro x hm
 rcases R4 hm with hm | hm
 ·exact Abo (Ob h x hm)
 simp at hm
theorem mk_mov {c:RulesD} {l:List EntD} {p n q:Nat} (h:Bb c l=0):∀ x∈O3 l p n q,x.item.marks.length≤1000000:=by
 intro x hm;unfold O3 at hm
 rcases R4 hm with hm | hm
 ·exact Apo h x hm
 exact Abo (Ob h x (List.mem_of_mem_drop (List.mem_of_mem_take hm)))
def Ago (l:List EntD) (xs:List ItemD) (b mb:Nat) (i:Nat) (R:List Res):Prop:=∃ (es:Array MapEntry) (cl:Nat) (ks:List Nat),R=[.blk b [.map (some mb)] 185,.obj mb (.map es cl)]∧Il es ks∧∀ q,q∈ks↔Cx l q∨Je (xs.take i) q
theorem Aad {w0:World} {G0:Aq} {l:List EntD} {xs:List ItemD} {b mb:Nat}:KeyC w0 G0 168 [.pointer (some ⟨b,0,none⟩)] xs (Sr l xs) (Ago l xs b mb):=by
 classical
 intro G L R w i x ma mc hG hx hR M hI SM;obtain ⟨es,cl,ks,rfl,Es,hks⟩:=hR;refine (Xt M Es hI SM (i:=(i:Int))).mono ?_;rintro e w' h
 cases e with
 | returned v =>
  obtain ⟨L',M',es',cl',rfl,rfl,h3⟩:=h;refine ⟨_,M',[.blk b [.map (some mb)] 185,.obj mb (.map es' cl')],by rw [X6 hx];by_cases h4:x.key∈ks;(rw [if_pos h4,if_pos ((hks _).1 h4)]);(rw [if_neg h4,if_neg (fun h5=>h4 ((hks _).2 h5))]),rfl,fun h4=>?_⟩;have h5:¬ x.key∈ks:=fun h6=>by rw [X6 hx,if_pos ((hks _).1 h6)] at h4;cases h4
  refine ⟨es',cl',x.key::ks,rfl,h3 h5,fun q=>?_⟩;rw [List.mem_cons,hks q,List.take_add_one,hx]
  constructor
  ·rintro (rfl | h6 | ⟨y,h6,h7⟩)
   ·exact Or.inr ⟨x,by simp,rfl⟩
   ·exact Or.inl h6
   ·exact Or.inr ⟨y,by simp [h6],h7⟩
  ·rintro (h6 | ⟨y,h6,h7⟩)
   ·exact Or.inr (Or.inl h6)
   ·simp only [Option.toList_some,List.mem_append,List.mem_singleton] at h6
    rcases h6 with h6 | rfl
    ·exact Or.inr (Or.inr ⟨y,h6,h7⟩)
    ·exact Or.inl h7.symm
 | panicked c=>exact h.elim
 | outgrown=>exact h.elim
theorem Sq {l:List EntD} {xs:List ItemD} {b mb:Nat} {es:Array MapEntry} {cl:Nat} {ks:List Nat} (Es:Il es ks) (hks:∀ q,q∈ks↔Cx l q):Ago l xs b mb 0 [.blk b [.map (some mb)] 185,.obj mb (.map es cl)] :=
 ⟨es,cl,ks,rfl,Es,fun q=>by rw [hks q];exact ⟨Or.inl,fun h=>by rcases h with h | ⟨y,hy,_⟩;exact h;simp at hy⟩⟩
theorem Aqj {w0 w:World} {G:Aq} {L:List Res} {c:RulesD} {kca:Option Addr} {kcc:Nat} (SC:Ag Cb 9 G (.slice kca c.kinds.length kcc) c.kinds) {a1:Option Addr} {c1:Nat} {l:List EntD} (S:Ag Bg 6 G (.slice a1 l.length c1) l) (hck:Bb c l=0) {ta:Option Addr} {tc:Nat} {xs:List ItemD} (T:Ag Bn 4 G (.slice ta xs.length tc) xs) {z:Int} {b mb b5 b6:Nat} {es:Array MapEntry} {cl:Nat} {ks:List Nat} (M:Mem w0 G (.blk b [.map (some mb)] 185::.obj mb (.map es cl)::L) w) (Es:Il es ks) (hks:∀ q,q∈ks↔Cx l q)
  (A5:At G b5 0 [.slice a1 l.length c1]) (A6:At G b6 0 [.int .i64 z]) (hN:xs.length≤900000) :
  Calls Tryz.prog 116 #[.agg #[.slice kca c.kinds.length kcc,.int .i64 c.cap],.agg #[.slice a1 l.length c1],.agg #[.bool (decide (Av z 0 l.length)),.int .i64 ((l.length+xs.length:Nat):Int),.slice ta xs.length tc,.func (.func 168) #[] #[.pointer (some ⟨b,0,none⟩)],.func (.func 161) #[] #[.pointer (some ⟨b5,0,none⟩),.pointer (some ⟨b6,0,none⟩)]]] w (Ht w0 G (Jl L (F8 c l z xs))):=by
 have hl2:=(Dq hck).2.1;rw [← Aqi hck];refine Pg (R:=[.blk b [.map (some mb)] 185,.obj mb (.map es cl)]) (Rk:=Ago l xs b mb) M SC S T hck (Sq Es hks) (by omega) (fun _=>Or.inr ⟨168,[.pointer (some ⟨b,0,none⟩)],rfl,Arm,Aad⟩) (fun hi _=>⟨161,[.pointer (some ⟨b5,0,none⟩),.pointer (some ⟨b6,0,none⟩)],rfl,ent161,?_⟩) (fun hi=>?_) (fun hi hx=>App hck (Ahy hx (Nat.le_refl _)))
 ·have hin:=dT hi;unfold Av at hin;obtain ⟨p,rfl⟩:=Int.eq_ofNat_of_zero_le hin.1.1;intro G2 L2 w2 a2 c2 hG M2 R2
  exact Alh M2 (S.mono Aa hG) (A5.mono hG) (A6.mono hG) R2 (by omega) (by omega) (by rw [List.length_map];omega)
 have hin:=dT hi;unfold Av at hin;rw [I9 (by omega),List.length_map];omega
theorem Aoq {w0 w:World} {G:Aq} {L:List Res} {c:RulesD} {kca:Option Addr} {kcc:Nat} (SC:Ag Cb 9 G (.slice kca c.kinds.length kcc) c.kinds) {a1:Option Addr} {c1:Nat} {l:List EntD} (S:Ag Bg 6 G (.slice a1 l.length c1) l) (hck:Bb c l=0) {z n:Int} {b5 b6 b7:Nat} (M:Mem w0 G L w) (A5:At G b5 0 [.slice a1 l.length c1]) (A6:At G b6 0 [.int .i64 z]) (A7:At G b7 0 [.int .i64 n]) :
  Calls Tryz.prog 116 #[.agg #[.slice kca c.kinds.length kcc,.int .i64 c.cap],.agg #[.slice a1 l.length c1],.agg #[.bool (decide (Av z n l.length)),.int .i64 0,.slice none 0 0,.nilFunc,.func (.func 118) #[] #[.pointer (some ⟨b5,0,none⟩),.pointer (some ⟨b6,0,none⟩),.pointer (some ⟨b7,0,none⟩)]]] w (Ht w0 G (Jl L (Le l z n))):=by
 have hl2:=(Dq hck).2.1;rw [← rem_do (fK:=fun _=>0) hck];refine Pg (xs:=[]) (R:=[]) (Rk:=fun _ _=>True) M SC S Ag.nil hck trivial (by decide) (fun _=>Or.inl rfl) (fun hi _=>⟨118,[.pointer (some ⟨b5,0,none⟩),.pointer (some ⟨b6,0,none⟩),.pointer (some ⟨b7,0,none⟩)],rfl,ent118,?_⟩) (fun hi=>?_) (fun hi hx=>Apo hck)
 ·have hin:=dT hi;unfold Av at hin;obtain ⟨p,rfl⟩:=Int.eq_ofNat_of_zero_le hin.1.1;obtain ⟨m,rfl⟩:=Int.eq_ofNat_of_zero_le hin.2.1;intro G2 L2 w2 a2 c2 hG M2 R2
  exact Aka M2 (S.mono Aa hG) (A5.mono hG) (A6.mono hG) (A7.mono hG) R2 (by omega) (by omega)
 have hin:=dT hi;unfold Av at hin;rw [Km (by omega)];omega
theorem Abl {w0 w:World} {G:Aq} {L:List Res} {c:RulesD} {kca:Option Addr} {kcc:Nat} (SC:Ag Cb 9 G (.slice kca c.kinds.length kcc) c.kinds) {a1:Option Addr} {c1:Nat} {l:List EntD} (S:Ag Bg 6 G (.slice a1 l.length c1) l) (hck:Bb c l=0) {z n q:Int} {b5 b6 b7 b8:Nat} {ins:Bool} (hi:ins=true↔Av z n l.length∧Av q 0 (l.length - n)) (M:Mem w0 G L w) (A5:At G b5 0 [.slice a1 l.length c1]) (A6:At G b6 0 [.int .i64 z]) (A7:At G b7 0 [.int .i64 n]) (A8:At G b8 0 [.int .i64 q]) :
  Calls Tryz.prog 116 #[.agg #[.slice kca c.kinds.length kcc,.int .i64 c.cap],.agg #[.slice a1 l.length c1],.agg #[.bool ins,.int .i64 0,.slice none 0 0,.nilFunc,.func (.func 162) #[] #[.pointer (some ⟨b5,0,none⟩),.pointer (some ⟨b6,0,none⟩),.pointer (some ⟨b7,0,none⟩),.pointer (some ⟨b8,0,none⟩)]]] w (Ht w0 G (Jl L (Hs l z n q))):=by
 have hl2:=(Dq hck).2.1;rw [← mov_do (fK:=fun _=>0) hck hi];refine Pg (xs:=[]) (R:=[]) (Rk:=fun _ _=>True) M SC S Ag.nil hck trivial (by decide) (fun _=>Or.inl rfl) (fun h _=>⟨162,[.pointer (some ⟨b5,0,none⟩),.pointer (some ⟨b6,0,none⟩),.pointer (some ⟨b7,0,none⟩),.pointer (some ⟨b8,0,none⟩)],rfl,ent162,?_⟩) (fun h=>?_) (fun _ hx=>mk_mov hck)
 ·have hin:=hi.1 h;unfold Av at hin;obtain ⟨p,rfl⟩:=Int.eq_ofNat_of_zero_le hin.1.1.1;obtain ⟨m,rfl⟩:=Int.eq_ofNat_of_zero_le hin.1.2.1;obtain ⟨k,rfl⟩:=Int.eq_ofNat_of_zero_le hin.2.1.1;intro G2 L2 w2 a2 c2 hG M2 R2
  exact Aks M2 (S.mono Aa hG) (A5.mono hG) (A6.mono hG) (A7.mono hG) (A8.mono hG) R2 (by omega) (by omega) (by omega)
 have hin:=hi.1 h;unfold Av at hin;unfold O3;have h5:=Km (l:=l) (p:=z.toNat) (n:=n.toNat) (by omega);rw [I9 (by omega),h5,List.length_take,List.length_drop];omega
theorem Auq {w0 w:World} {G:Aq} {L:List Res} {c:RulesD} {kca:Option Addr} {kcc:Nat} (SC:Ag Cb 9 G (.slice kca c.kinds.length kcc) c.kinds) {a1:Option Addr} {c1:Nat} {l:List EntD} (S:Ag Bg 6 G (.slice a1 l.length c1) l) (hck:Bb c l=0) {ta:Option Addr} {tc:Nat} {xs:List ItemD} (T:Ag Bn 4 G (.slice ta xs.length tc) xs) {z:Int} {b5 b6 b9:Nat} (M:Mem w0 G L w) (A5:At G b5 0 [.slice a1 l.length c1]) (A6:At G b6 0 [.int .i64 z]) (A9:At G b9 0 [.slice ta xs.length tc]) (hN:xs.length≤900000) :
  Calls Tryz.prog 116 #[.agg #[.slice kca c.kinds.length kcc,.int .i64 c.cap],.agg #[.slice a1 l.length c1],.agg #[.bool (decide (Av z xs.length l.length)),.int .i64 0,.slice ta xs.length tc,.func (.func 163) #[] #[.pointer (some ⟨b5,0,none⟩),.pointer (some ⟨b6,0,none⟩)],.func (.func 164) #[] #[.pointer (some ⟨b5,0,none⟩),.pointer (some ⟨b6,0,none⟩),.pointer (some ⟨b9,0,none⟩)]]] w (Ht w0 G (Jl L (Jh c l z xs))):=by
 have hl2:=(Dq hck).2.1;rw [← chg_do hck];refine Pg (R:=[]) (Rk:=fun _ R=>R=[]) M SC S T hck rfl (by omega) (fun hi=>Or.inr ⟨163,[.pointer (some ⟨b5,0,none⟩),.pointer (some ⟨b6,0,none⟩)],rfl,ent163,?_⟩) (fun hi _=>⟨164,[.pointer (some ⟨b5,0,none⟩),.pointer (some ⟨b6,0,none⟩),.pointer (some ⟨b9,0,none⟩)],rfl,ent164,?_⟩) (fun hi=>?_) (fun hi hx=>App hck (Ahy hx (Nat.le_refl _)))
 ·have hin:=dT hi;unfold Av at hin;obtain ⟨p,rfl⟩:=Int.eq_ofNat_of_zero_le hin.1.1;intro G2 L2 R2 w2 i x ma mc hG hx hR M2 hI SM;subst hR;obtain ⟨y,hy⟩:=Ap (xs:=l) (i:=p+i) (by have:=A0 hx;omega);refine (Aly M2 (S.mono Aa hG) (A5.mono hG) (A6.mono hG) hI SM hy (by omega)).mono ?_;rintro e w' h
  cases e with
  | returned v=>exact ⟨_,h.1,[],by rw [h.2,Int.toNat_natCast,Wb hx hy],rfl,fun _=>rfl⟩
  | panicked c=>exact h.elim
  | outgrown=>exact h.elim
 ·have hin:=dT hi;unfold Av at hin;obtain ⟨p,rfl⟩:=Int.eq_ofNat_of_zero_le hin.1.1;intro G2 L2 w2 a2 c2 hG M2 R2
  exact Alx M2 (S.mono Aa hG) (A5.mono hG) (A6.mono hG) (T.mono Ai hG) (A9.mono hG) R2 (by omega) (by omega) (by rw [List.length_map];omega)
 ·have hin:=dT hi;unfold Av at hin;rw [I9 (by omega),List.length_map];omega
theorem res_eq {c:RulesD} {xs:List ItemD} (l:List EntD) (h:Bb c l=0):doR (Bb c l) true ((xs.length:Nat):Int) (Kb c xs (Sr [] xs)) xs.length (xs.map (Bp c))=F8 c [] 0 xs:=by
 have hc:=(Dq h).1;have h9:Bb c []=0:=by rw [I3 hc (by decide) (i:=0) rfl (Nat.le_refl _)];rfl
 rw [← Aqi h9,h,h9,decide_eq_true (show Av 0 0 ([]:List EntD).length by decide)];have h1:Ci [] (0:Int).toNat 0 (xs.map (Bp c))=xs.map (Bp c):=by simp [Ci]
 rw [h1,show ([]:List EntD).length+xs.length=xs.length from Nat.zero_add _]
theorem Aoo {w0 w:World} {G:Aq} {L:List Res} {c:RulesD} {kca:Option Addr} {kcc:Nat} (SC:Ag Cb 9 G (.slice kca c.kinds.length kcc) c.kinds) {a1:Option Addr} {c1:Nat} {l:List EntD} (S:Ag Bg 6 G (.slice a1 l.length c1) l) (hck:Bb c l=0) {ta:Option Addr} {tc:Nat} {xs:List ItemD} (T:Ag Bn 4 G (.slice ta xs.length tc) xs) {b mb:Nat} {es:Array MapEntry} {cl:Nat} {ks:List Nat} (M:Mem w0 G (.blk b [.map (some mb)] 185::.obj mb (.map es cl)::L) w) (Es:Il es ks) (hks:∀ q,q∈ks↔Cx [] q) (hN:xs.length≤900000) :
  Calls Tryz.prog 116 #[.agg #[.slice kca c.kinds.length kcc,.int .i64 c.cap],.agg #[.slice a1 l.length c1],.agg #[.bool true,.int .i64 ((xs.length:Nat):Int),.slice ta xs.length tc,.func (.func 168) #[] #[.pointer (some ⟨b,0,none⟩)],.func (.func 140) #[] #[]]] w (Ht w0 G (Jl L (F8 c [] 0 xs))):=by
 rw [← res_eq l hck];refine Pg (R:=[.blk b [.map (some mb)] 185,.obj mb (.map es cl)]) (Rk:=Ago [] xs b mb) M SC S T hck (Sq Es hks) (by omega) (fun _=>Or.inr ⟨168,[.pointer (some ⟨b,0,none⟩)],rfl,Arm,Aad⟩) (fun hi _=>⟨140,[],rfl,ent140,?_⟩) (fun hi=>?_) (fun hi hx=>?_)
 ·intro G2 L2 w2 a2 c2 hG M2 R2
  exact Ajx M2 R2
 ·rw [List.length_map];omega
 intro x hm;obtain ⟨y,hy,rfl⟩:=List.mem_map.1 hm
 exact Abo (Ahy hx (Nat.le_refl _) y hy)
variable {w0 w:World} {G:Aq} {L:List Res}
set_option maxHeartbeats 1600000
theorem Mz {c:RulesD} (h:Cy c):Bb c []=0:=by
 rw [I3 h (by decide) (i:=0) rfl (Nat.le_refl _)];rfl
theorem Y5 (M:Mem w0 G L w) {c:RulesD} {kca:Option Addr} {kcc:Nat} (SC:Ag Cb 9 G (.slice kca c.kinds.length kcc) c.kinds) {a1:Option Addr} {c1:Nat} {l:List EntD} (S:Ag Bg 6 G (.slice a1 l.length c1) l) (hck:Bb c l=0) {z:Int} {ta:Option Addr} {tc:Nat} {xs:List ItemD} (T:Ag Bn 4 G (.slice ta xs.length tc) xs) (hN:xs.length≤900000):Calls Tryz.prog 123 #[.agg #[.slice kca c.kinds.length kcc,.int .i64 c.cap],.agg #[.slice a1 l.length c1],.int .i64 z,.slice ta xs.length tc] w (Ht w0 G (Jl L (F8 c l z xs))):=by
 have bS:=S.bound;have bT:=T.bound;refine Al (vs:=[_,_,_,_]) Tryz.func123 rfl (n:=32) rfl rfl<|?_
 refine Bt<|?_
 refine B2 M rfl rfl rfl<|?_;clear M;intro b1 w M
 refine B2 M rfl rfl rfl<|?_;clear M;intro b2 w M
 refine B2 M rfl rfl rfl<|?_;clear M;intro b3 w M
 refine B1 M Az rfl rfl<|?_;clear M;intro b4 w M
 refine wk ?_;obtain ⟨Gq6,hGq6,hbq6,M⟩:=M.freeze (k:=2) rfl;have Aq6:At Gq6 b2 0 [.slice a1 l.length c1]:=At.of_cells hbq6;clear hbq6;replace SC:=SC.mono Ak hGq6;replace S:=S.mono Aa hGq6;replace T:=T.mono Ai hGq6;replace M:=z_M M;obtain ⟨Gq7,hGq7,hbq7,M⟩:=M.freeze (k:=1) rfl;have Aq7:At Gq7 b3 0 [.int .i64 z]:=At.of_cells hbq7;clear hbq7;replace SC:=SC.mono Ak hGq7;replace S:=S.mono Aa hGq7;replace T:=T.mono Ai hGq7;replace Aq6:=Aq6.mono hGq7;replace M:=z_M M;intro a F;refine E3 [(true,0),(true,1),(true,2),(true,3),(true,4),(true,5),(true,7),(true,8),(true,9),(true,10),(true,11),(true,12),(true,13),(true,14),(true,15),(true,17),(false,6),(false,16),(true,18),(false,19),(true,20),(true,21),(false,22),(true,23)] (Keep Gq7 [.blk b1 [.slice kca c.kinds.length kcc,.int .i64 c.cap] 51]) rfl (by kernel_rfl) (fun c a d v w h=>by cases d <;> exact h) (Ax (M.drew _)) ?_;replace M:=M.drew (w.drawn+1);revert a;refine wk ?_;refine l_r (fun a F w M=>Gi (F.ev rfl) (F.ev rfl) (Br (by (have h9_:=(Dq hck).2.1;omega)) (by (have h9_:=(Dq hck).2.1;omega)))) rfl<|?_
 refine wk ?_;refine l_r (fun a F w M=>Ct (vs:=#[.pointer (some ⟨b2,0,none⟩),.pointer (some ⟨b3,0,none⟩)]) (by simp only [List.map_toArray,List.map_cons,List.map_nil,F.ev (x:=.tmp 5) rfl,F.ev (x:=.tmp 6) rfl])) rfl<|l_a rfl<|A4 Un rfl rfl (H3 (z:=z) (n:=0) (m:=((l.length:Nat):Int)) M (by omega))<|?_;clear M;rintro _ w M rfl
 refine Ao<|?_
 refine eQ (Ax M)<|l_a rfl<|Py Art rfl rfl (Qy (c:=c) (l:=l) M S hck)<|?_;clear M;rintro _ _ w M ⟨buu8,mbu8,esu8,clu8,ksu8,rfl,rfl,Esu8,hksu8⟩
 refine Ao<|?_
 refine eQ (Ax M)<|l_r (fun a F w M=>Ah (cs:=[.bool (decide (Av z 0 ((l.length:Nat):Int))),.int .i64 (((l.length:Nat):Int)+((xs.length:Nat):Int)),.slice ta xs.length tc,.func (.func 168) #[] #[.pointer (some ⟨buu8,0,none⟩)],.func (.func 161) #[] #[.pointer (some ⟨b2,0,none⟩),.pointer (some ⟨b3,0,none⟩)]]) (ps:=[(0,.bool (decide (Av z 0 ((l.length:Nat):Int)))),(1,.int .i64 (((l.length:Nat):Int)+((xs.length:Nat):Int))),(2,.slice ta xs.length tc),(3,.func (.func 168) #[] #[.pointer (some ⟨buu8,0,none⟩)]),(4,.func (.func 161) #[] #[.pointer (some ⟨b2,0,none⟩),.pointer (some ⟨b3,0,none⟩)])]) Hw.k rfl Hw (F.evp rfl) rfl) rfl<|l_a rfl<|?_
 replace M:=M.perm (Af _ 1 _ rfl);replace M:=M.perm (Af _ 1 _ rfl);replace M:=z_M M;intro a F;refine Ch F Qo rfl rfl (Aqj SC S hck T M Esu8 hksu8 Aq6 Aq7 hN) ?_;clear F M a;rintro _ Gq9 _ w a hGq9 M ⟨aoq9,csq9,Loq9,rfl,rfl,Eoq9⟩ F;replace SC:=SC.mono Ak hGq9;replace S:=S.mono Aa hGq9;replace T:=T.mono Ai hGq9;replace Aq6:=Aq6.mono hGq9;replace Aq7:=Aq7.mono hGq9;have M:=M.perm (Bj (Cw aoq9 (F8 c l z xs).1.length csq9::Loq9) [.blk b4 [.slice none 0 0] 54,.blk b1 [.slice kca c.kinds.length kcc,.int .i64 c.cap] 51] L);replace M:=z_M M;revert a;refine Ao<|?_
 refine eK (C':=Keep Gq9 [.blk b1 [.slice kca c.kinds.length kcc,.int .i64 c.cap] 51]) (Ax M) (fun w h=>h.mono hGq9 (by simp))<|?_
 refine wk ?_;refine l_a rfl<|fun a F=>?_
 refine Be F M Az 0 ?_;clear F M a;intro w a M F;replace M:=z_M M;revert a;refine Ao<|?_
 refine eK (C':=Keep Gq9 [.blk b1 [.slice kca c.kinds.length kcc,.int .i64 c.cap] 51]) (Ax M) (fun w h=>h.mono (Gle.refl _) (by simp))<|?_
 refine wk ?_;refine fun a F=>Bs F M (k:=0) rfl rfl Az rfl rfl rfl rfl ?_
 exact ⟨_,_,((hGq6.trans hGq7).trans hGq9),M.weaken dS2,aoq9,csq9,Loq9,rfl,rfl,Eoq9⟩
theorem O5 (M:Mem w0 G L w) {c:RulesD} {kca:Option Addr} {kcc:Nat} (SC:Ag Cb 9 G (.slice kca c.kinds.length kcc) c.kinds) {a1:Option Addr} {c1:Nat} {l:List EntD} (S:Ag Bg 6 G (.slice a1 l.length c1) l) (hck:Bb c l=0) {z n:Int}:Calls Tryz.prog 69 #[.agg #[.slice kca c.kinds.length kcc,.int .i64 c.cap],.agg #[.slice a1 l.length c1],.int .i64 z,.int .i64 n] w (Ht w0 G (Jl L (Le l z n))):=by
 have bS:=S.bound;refine Al (vs:=[_,_,_,_]) Tryz.func69 rfl (n:=23) rfl rfl<|?_
 refine Bt<|?_
 refine B2 M rfl rfl rfl<|?_;clear M;intro b1 w M
 refine B2 M rfl rfl rfl<|?_;clear M;intro b2 w M
 refine B2 M rfl rfl rfl<|?_;clear M;intro b3 w M
 refine B2 M rfl rfl rfl<|?_;clear M;intro b4 w M
 refine B1 M Az rfl rfl<|?_;clear M;intro b5 w M
 refine wk ?_;obtain ⟨Gq7,hGq7,hbq7,M⟩:=M.freeze (k:=3) rfl;have Aq7:At Gq7 b2 0 [.slice a1 l.length c1]:=At.of_cells hbq7;clear hbq7;replace SC:=SC.mono Ak hGq7;replace S:=S.mono Aa hGq7;replace M:=z_M M;obtain ⟨Gq8,hGq8,hbq8,M⟩:=M.freeze (k:=2) rfl;have Aq8:At Gq8 b3 0 [.int .i64 z]:=At.of_cells hbq8;clear hbq8;replace SC:=SC.mono Ak hGq8;replace S:=S.mono Aa hGq8;replace Aq7:=Aq7.mono hGq8;replace M:=z_M M;obtain ⟨Gq9,hGq9,hbq9,M⟩:=M.freeze (k:=1) rfl;have Aq9:At Gq9 b4 0 [.int .i64 n]:=At.of_cells hbq9;clear hbq9;replace SC:=SC.mono Ak hGq9;replace S:=S.mono Aa hGq9;replace Aq7:=Aq7.mono hGq9;replace Aq8:=Aq8.mono hGq9;replace M:=z_M M;intro a F;refine E3 [(true,0),(true,1),(true,2),(true,3),(true,4),(true,5),(true,6),(true,8),(false,7),(true,9),(false,10),(true,11),(true,12),(false,13),(true,14)] (Keep Gq9 [.blk b1 [.slice kca c.kinds.length kcc,.int .i64 c.cap] 51]) rfl (by kernel_rfl) (fun c a d v w h=>by cases d <;> exact h) (Ax (M.drew _)) ?_;replace M:=M.drew (w.drawn+1);revert a;refine wk ?_;refine l_r (fun a F w M=>Ct (vs:=#[.pointer (some ⟨b2,0,none⟩),.pointer (some ⟨b3,0,none⟩),.pointer (some ⟨b4,0,none⟩)]) (by simp only [List.map_toArray,List.map_cons,List.map_nil,F.ev (x:=.tmp 5) rfl,F.ev (x:=.tmp 6) rfl,F.ev (x:=.tmp 7) rfl])) rfl<|l_a rfl<|A4 Un rfl rfl (H3 (z:=z) (n:=n) (m:=((l.length:Nat):Int)) M (by omega))<|?_;clear M;rintro _ w M rfl
 refine Ao<|?_
 refine eQ (Ax M)<|l_r (fun a F w M=>Ah (cs:=[.bool (decide (Av z n ((l.length:Nat):Int))),.int .i64 0,.slice none 0 0,.nilFunc,.func (.func 118) #[] #[.pointer (some ⟨b2,0,none⟩),.pointer (some ⟨b3,0,none⟩),.pointer (some ⟨b4,0,none⟩)]]) (ps:=[(0,.bool (decide (Av z n ((l.length:Nat):Int)))),(4,.func (.func 118) #[] #[.pointer (some ⟨b2,0,none⟩),.pointer (some ⟨b3,0,none⟩),.pointer (some ⟨b4,0,none⟩)])]) Hw.k rfl Hw (F.evp rfl) rfl) rfl<|l_a rfl<|fun a F=>?_
 refine Ch F Qo rfl rfl (Aoq SC S hck M Aq7 Aq8 Aq9) ?_;clear F M a;rintro _ Gq10 _ w a hGq10 M ⟨aoq10,csq10,Loq10,rfl,rfl,Eoq10⟩ F;replace SC:=SC.mono Ak hGq10;replace S:=S.mono Aa hGq10;replace Aq7:=Aq7.mono hGq10;replace Aq8:=Aq8.mono hGq10;replace Aq9:=Aq9.mono hGq10;have M:=M.perm (Bj (Cw aoq10 (Le l z n).1.length csq10::Loq10) [.blk b5 [.slice none 0 0] 54,.blk b1 [.slice kca c.kinds.length kcc,.int .i64 c.cap] 51] L);replace M:=z_M M;revert a;refine Ao<|?_
 refine eK (C':=Keep Gq10 [.blk b1 [.slice kca c.kinds.length kcc,.int .i64 c.cap] 51]) (Ax M) (fun w h=>h.mono hGq10 (by simp))<|?_
 refine wk ?_;refine l_a rfl<|fun a F=>?_
 refine Be F M Az 0 ?_;clear F M a;intro w a M F;replace M:=z_M M;revert a;refine Ao<|?_
 refine eK (C':=Keep Gq10 [.blk b1 [.slice kca c.kinds.length kcc,.int .i64 c.cap] 51]) (Ax M) (fun w h=>h.mono (Gle.refl _) (by simp))<|?_
 refine wk ?_;refine fun a F=>Bs F M (k:=0) rfl rfl Az rfl rfl rfl rfl ?_
 exact ⟨_,_,(((hGq7.trans hGq8).trans hGq9).trans hGq10),M.weaken dS2,aoq10,csq10,Loq10,rfl,rfl,Eoq10⟩
theorem Afi (M:Mem w0 G L w) {c:RulesD} {kca:Option Addr} {kcc:Nat} (SC:Ag Cb 9 G (.slice kca c.kinds.length kcc) c.kinds) {a1:Option Addr} {c1:Nat} {l:List EntD} (S:Ag Bg 6 G (.slice a1 l.length c1) l) (hck:Bb c l=0) {z n q:Int}:Calls Tryz.prog 126 #[.agg #[.slice kca c.kinds.length kcc,.int .i64 c.cap],.agg #[.slice a1 l.length c1],.int .i64 z,.int .i64 n,.int .i64 q] w (Ht w0 G (Jl L (Hs l z n q))):=by
 have bS:=S.bound;refine Al (vs:=[_,_,_,_,_]) Tryz.func126 rfl (n:=36) rfl rfl<|?_
 refine Bt<|?_
 refine B2 M rfl rfl rfl<|?_;clear M;intro b1 w M
 refine B2 M rfl rfl rfl<|?_;clear M;intro b2 w M
 refine B2 M rfl rfl rfl<|?_;clear M;intro b3 w M
 refine B2 M rfl rfl rfl<|?_;clear M;intro b4 w M
 refine B2 M rfl rfl rfl<|?_;clear M;intro b5 w M
 refine B1 M Az rfl rfl<|?_;clear M;intro b6 w M
 refine wk ?_;obtain ⟨Gq8,hGq8,hbq8,M⟩:=M.freeze (k:=4) rfl;have Aq8:At Gq8 b2 0 [.slice a1 l.length c1]:=At.of_cells hbq8;clear hbq8;replace SC:=SC.mono Ak hGq8;replace S:=S.mono Aa hGq8;replace M:=z_M M;obtain ⟨Gq9,hGq9,hbq9,M⟩:=M.freeze (k:=3) rfl;have Aq9:At Gq9 b3 0 [.int .i64 z]:=At.of_cells hbq9;clear hbq9;replace SC:=SC.mono Ak hGq9;replace S:=S.mono Aa hGq9;replace Aq8:=Aq8.mono hGq9;replace M:=z_M M;obtain ⟨Gq10,hGq10,hbq10,M⟩:=M.freeze (k:=2) rfl;have Aq10:At Gq10 b4 0 [.int .i64 n]:=At.of_cells hbq10;clear hbq10;replace SC:=SC.mono Ak hGq10;replace S:=S.mono Aa hGq10;replace Aq8:=Aq8.mono hGq10;replace Aq9:=Aq9.mono hGq10;replace M:=z_M M;obtain ⟨Gq11,hGq11,hbq11,M⟩:=M.freeze (k:=1) rfl;have Aq11:At Gq11 b5 0 [.int .i64 q]:=At.of_cells hbq11;clear hbq11;replace SC:=SC.mono Ak hGq11;replace S:=S.mono Aa hGq11;replace Aq8:=Aq8.mono hGq11;replace Aq9:=Aq9.mono hGq11;replace Aq10:=Aq10.mono hGq11;replace M:=z_M M;refine wk ?_;refine A4 Un rfl rfl (H3 (z:=z) (n:=n) (m:=((l.length:Nat):Int)) M (by omega))<|?_;clear M;rintro _ w M rfl
 refine wk ?_;refine fun a F=>D5 [(.pure,0),(.pure,1),(.free,2),(.free,3),(.pure,4),(.free,5),(.pure,6),(.pure,7),(.pure,8),(.free,9),(.free,12),(.keep,10),(.free,11),(.free,13),(.keep,14),(.free,15),(.free,16),(.chg,17),(.free,18)] [17] (Keep Gq11 [.blk b1 [.slice kca c.kinds.length kcc,.int .i64 c.cap] 51]) rfl (by kernel_rfl) (fun c a d v w h=>by cases d <;> exact h) (Ax (M.drew _)) ?_;replace M:=M.drew (w.drawn+1);revert a;refine wk ?_
 rcases bE (decide (Av z n ((l.length:Nat):Int))) with h12b | h14b
 ·skip
  have h12:=dT h12b;have hin1:=h12;unfold Av at hin1;refine wk ?_;refine k_f (fun a F w _=>Ct (vs:=#[.pointer (some ⟨b2,0,none⟩),.pointer (some ⟨b3,0,none⟩),.pointer (some ⟨b4,0,none⟩),.pointer (some ⟨b5,0,none⟩)]) (by simp only [List.map_toArray,List.map_cons,List.map_nil,F.ev (x:=.tmp 6) rfl,F.ev (x:=.tmp 7) rfl,F.ev (x:=.tmp 8) rfl,F.ev (x:=.tmp 9) rfl])) rfl<|fun a F=>Fj F rfl rfl h12b ?_
  revert a;refine g_t rfl h12b<|?_
  refine A4 Un rfl rfl (H3 (z:=q) (n:=0) (m:=((l.length:Nat):Int) - n) M (by omega))<|?_;clear M;rintro _ w M rfl
  refine Ao<|?_
  refine eQ (Ax M)<|?_
  refine wk ?_;refine k_f (fun a F w _=>Ah (cs:=[.bool (decide (Av q 0 (((l.length:Nat):Int) - n))),.int .i64 0,.slice none 0 0,.nilFunc,.func (.func 162) #[] #[.pointer (some ⟨b2,0,none⟩),.pointer (some ⟨b3,0,none⟩),.pointer (some ⟨b4,0,none⟩),.pointer (some ⟨b5,0,none⟩)]]) (ps:=[(0,.bool (decide (Av q 0 (((l.length:Nat):Int) - n)))),(4,.func (.func 162) #[] #[.pointer (some ⟨b2,0,none⟩),.pointer (some ⟨b3,0,none⟩),.pointer (some ⟨b4,0,none⟩),.pointer (some ⟨b5,0,none⟩)])]) Hw.k rfl Hw (F.evp rfl) rfl) rfl<|k_k rfl<|fun a F=>?_
  refine Ch F Qo rfl rfl (Abl SC S hck ⟨fun h_=>⟨h12,dT h_⟩,fun h_=>decide_eq_true h_.2⟩ M Aq8 Aq9 Aq10 Aq11) ?_;clear F M a;rintro _ Gq13 _ w a hGq13 M ⟨aoq13,csq13,Loq13,rfl,rfl,Eoq13⟩ F;replace SC:=SC.mono Ak hGq13;replace S:=S.mono Aa hGq13;replace Aq8:=Aq8.mono hGq13;replace Aq9:=Aq9.mono hGq13;replace Aq10:=Aq10.mono hGq13;replace Aq11:=Aq11.mono hGq13;have M:=M.perm (Bj (Cw aoq13 (Hs l z n q).1.length csq13::Loq13) [.blk b6 [.slice none 0 0] 54,.blk b1 [.slice kca c.kinds.length kcc,.int .i64 c.cap] 51] L);replace M:=z_M M;revert a;refine Ao<|?_
  refine eK (C':=Keep Gq13 [.blk b1 [.slice kca c.kinds.length kcc,.int .i64 c.cap] 51]) (Ax M) (fun w h=>h.mono hGq13 (by simp))<|?_
  refine wk ?_;refine k_c rfl<|fun a F=>?_
  refine Be F M Az 0 ?_;clear F M a;intro w a M F;change Mem w0 Gq13 (.blk b6 [.slice aoq13 ((Hs l z n q).1.length) ((Hs l z n q).1.length)] 54::_::((Cw aoq13 (Hs l z n q).1.length csq13::Loq13)++L)) _ at M;revert a;refine Ao<|?_
  refine fun a F=>⟨Keep Gq13 [.blk b6 [.slice aoq13 ((Hs l z n q).1.length) ((Hs l z n q).1.length)] 54,.blk b1 [.slice kca c.kinds.length kcc,.int .i64 c.cap] 51],M.keep (Gle.refl _) (by simp),?_⟩;revert a;refine wk ?_;refine fun a F=>Bs F M (k:=0) rfl rfl Az rfl rfl rfl rfl ?_
  exact ⟨_,_,((((hGq8.trans hGq9).trans hGq10).trans hGq11).trans hGq13),M.weaken dS2,aoq13,csq13,Loq13,rfl,rfl,Eoq13⟩
 have h14:=dF h14b;refine wk ?_;refine k_f (fun a F w _=>Ct (vs:=#[.pointer (some ⟨b2,0,none⟩),.pointer (some ⟨b3,0,none⟩),.pointer (some ⟨b4,0,none⟩),.pointer (some ⟨b5,0,none⟩)]) (by simp only [List.map_toArray,List.map_cons,List.map_nil,F.ev (x:=.tmp 6) rfl,F.ev (x:=.tmp 7) rfl,F.ev (x:=.tmp 8) rfl,F.ev (x:=.tmp 9) rfl])) rfl<|?_
 refine wk ?_;refine k_f (fun a F w _=>Ah (cs:=[.bool false,.int .i64 0,.slice none 0 0,.nilFunc,.func (.func 162) #[] #[.pointer (some ⟨b2,0,none⟩),.pointer (some ⟨b3,0,none⟩),.pointer (some ⟨b4,0,none⟩),.pointer (some ⟨b5,0,none⟩)]]) (ps:=[(0,.bool false),(4,.func (.func 162) #[] #[.pointer (some ⟨b2,0,none⟩),.pointer (some ⟨b3,0,none⟩),.pointer (some ⟨b4,0,none⟩),.pointer (some ⟨b5,0,none⟩)])]) Hw.k rfl Hw (F.evp rfl) rfl) rfl<|k_k rfl<|fun a F=>?_
 refine Ch F Qo rfl rfl (Abl SC S hck ⟨fun h_=>(by cases h_),fun h_=>absurd h_.1 h14⟩ M Aq8 Aq9 Aq10 Aq11) ?_;clear F M a;rintro _ Gq15 _ w a hGq15 M ⟨aoq15,csq15,Loq15,rfl,rfl,Eoq15⟩ F;replace SC:=SC.mono Ak hGq15;replace S:=S.mono Aa hGq15;replace Aq8:=Aq8.mono hGq15;replace Aq9:=Aq9.mono hGq15;replace Aq10:=Aq10.mono hGq15;replace Aq11:=Aq11.mono hGq15;have M:=M.perm (Bj (Cw aoq15 (Hs l z n q).1.length csq15::Loq15) [.blk b6 [.slice none 0 0] 54,.blk b1 [.slice kca c.kinds.length kcc,.int .i64 c.cap] 51] L);replace M:=z_M M;revert a;refine Ao<|?_
 refine eK (C':=Keep Gq15 [.blk b1 [.slice kca c.kinds.length kcc,.int .i64 c.cap] 51]) (Ax M) (fun w h=>h.mono hGq15 (by simp))<|?_
 refine wk ?_;refine k_c rfl<|fun a F=>?_
 refine Be F M Az 0 ?_;clear F M a;intro w a M F;change Mem w0 Gq15 (.blk b6 [.slice aoq15 ((Hs l z n q).1.length) ((Hs l z n q).1.length)] 54::_::((Cw aoq15 (Hs l z n q).1.length csq15::Loq15)++L)) _ at M;revert a;refine Ao<|?_
 refine fun a F=>⟨Keep Gq15 [.blk b6 [.slice aoq15 ((Hs l z n q).1.length) ((Hs l z n q).1.length)] 54,.blk b1 [.slice kca c.kinds.length kcc,.int .i64 c.cap] 51],M.keep (Gle.refl _) (by simp),?_⟩;revert a;refine wk ?_;refine fun a F=>Bs F M (k:=0) rfl rfl Az rfl rfl rfl rfl ?_
 exact ⟨_,_,((((hGq8.trans hGq9).trans hGq10).trans hGq11).trans hGq15),M.weaken dS2,aoq15,csq15,Loq15,rfl,rfl,Eoq15⟩
theorem Y6 (M:Mem w0 G L w) {c:RulesD} {kca:Option Addr} {kcc:Nat} (SC:Ag Cb 9 G (.slice kca c.kinds.length kcc) c.kinds) {a1:Option Addr} {c1:Nat} {l:List EntD} (S:Ag Bg 6 G (.slice a1 l.length c1) l) (hck:Bb c l=0) {z:Int} {ta:Option Addr} {tc:Nat} {xs:List ItemD} (T:Ag Bn 4 G (.slice ta xs.length tc) xs) (hN:xs.length≤900000):Calls Tryz.prog 128 #[.agg #[.slice kca c.kinds.length kcc,.int .i64 c.cap],.agg #[.slice a1 l.length c1],.int .i64 z,.slice ta xs.length tc] w (Ht w0 G (Jl L (Jh c l z xs))):=by
 have bS:=S.bound;have bT:=T.bound;refine Al (vs:=[_,_,_,_]) Tryz.func128 rfl (n:=28) rfl rfl<|?_
 refine Bt<|?_
 refine B2 M rfl rfl rfl<|?_;clear M;intro b1 w M
 refine B2 M rfl rfl rfl<|?_;clear M;intro b2 w M
 refine B2 M rfl rfl rfl<|?_;clear M;intro b3 w M
 refine B2 M rfl rfl rfl<|?_;clear M;intro b4 w M
 refine B1 M Az rfl rfl<|?_;clear M;intro b5 w M
 refine wk ?_;obtain ⟨Gq7,hGq7,hbq7,M⟩:=M.freeze (k:=3) rfl;have Aq7:At Gq7 b2 0 [.slice a1 l.length c1]:=At.of_cells hbq7;clear hbq7;replace SC:=SC.mono Ak hGq7;replace S:=S.mono Aa hGq7;replace T:=T.mono Ai hGq7;replace M:=z_M M;obtain ⟨Gq8,hGq8,hbq8,M⟩:=M.freeze (k:=2) rfl;have Aq8:At Gq8 b3 0 [.int .i64 z]:=At.of_cells hbq8;clear hbq8;replace SC:=SC.mono Ak hGq8;replace S:=S.mono Aa hGq8;replace T:=T.mono Ai hGq8;replace Aq7:=Aq7.mono hGq8;replace M:=z_M M;obtain ⟨Gq9,hGq9,hbq9,M⟩:=M.freeze (k:=1) rfl;have Aq9:At Gq9 b4 0 [.slice ta xs.length tc]:=At.of_cells hbq9;clear hbq9;replace SC:=SC.mono Ak hGq9;replace S:=S.mono Aa hGq9;replace T:=T.mono Ai hGq9;replace Aq7:=Aq7.mono hGq9;replace Aq8:=Aq8.mono hGq9;replace M:=z_M M;refine wk ?_;refine Am (fun a F=>Ct (vs:=#[.pointer (some ⟨b2,0,none⟩),.pointer (some ⟨b3,0,none⟩)]) (by simp only [List.map_toArray,List.map_cons,List.map_nil,F.ev (x:=.tmp 5) rfl,F.ev (x:=.tmp 6) rfl])) rfl<|?_
 refine wk ?_;refine fun a F=>E3 [(true,0),(true,1),(true,2),(true,3),(true,4),(true,5),(true,6),(true,7),(true,9),(true,10),(true,11),(false,8),(true,12),(false,13),(true,14),(true,15),(false,16),(true,17)] (Keep Gq9 [.blk b1 [.slice kca c.kinds.length kcc,.int .i64 c.cap] 51]) rfl (by kernel_rfl) (fun c a d v w h=>by cases d <;> exact h) (Ax (M.drew _)) ?_;replace M:=M.drew (w.drawn+1);revert a;refine wk ?_;refine l_r (fun a F w M=>Ct (vs:=#[.pointer (some ⟨b2,0,none⟩),.pointer (some ⟨b3,0,none⟩),.pointer (some ⟨b4,0,none⟩)]) (by simp only [List.map_toArray,List.map_cons,List.map_nil,F.ev (x:=.tmp 5) rfl,F.ev (x:=.tmp 6) rfl,F.ev (x:=.tmp 7) rfl])) rfl<|l_a rfl<|A4 Un rfl rfl (H3 (z:=z) (n:=((xs.length:Nat):Int)) (m:=((l.length:Nat):Int)) M (by omega))<|?_;clear M;rintro _ w M rfl
 refine Ao<|?_
 refine eQ (Ax M)<|l_r (fun a F w M=>Ah (cs:=[.bool (decide (Av z ((xs.length:Nat):Int) ((l.length:Nat):Int))),.int .i64 0,.slice ta xs.length tc,.func (.func 163) #[] #[.pointer (some ⟨b2,0,none⟩),.pointer (some ⟨b3,0,none⟩)],.func (.func 164) #[] #[.pointer (some ⟨b2,0,none⟩),.pointer (some ⟨b3,0,none⟩),.pointer (some ⟨b4,0,none⟩)]]) (ps:=[(0,.bool (decide (Av z ((xs.length:Nat):Int) ((l.length:Nat):Int)))),(1,.int .i64 0),(2,.slice ta xs.length tc),(3,.func (.func 163) #[] #[.pointer (some ⟨b2,0,none⟩),.pointer (some ⟨b3,0,none⟩)]),(4,.func (.func 164) #[] #[.pointer (some ⟨b2,0,none⟩),.pointer (some ⟨b3,0,none⟩),.pointer (some ⟨b4,0,none⟩)])]) Hw.k rfl Hw (F.evp rfl) rfl) rfl<|l_a rfl<|fun a F=>?_
 refine Ch F Qo rfl rfl (Auq SC S hck T M Aq7 Aq8 Aq9 hN) ?_;clear F M a;rintro _ Gq10 _ w a hGq10 M ⟨aoq10,csq10,Loq10,rfl,rfl,Eoq10⟩ F;replace SC:=SC.mono Ak hGq10;replace S:=S.mono Aa hGq10;replace T:=T.mono Ai hGq10;replace Aq7:=Aq7.mono hGq10;replace Aq8:=Aq8.mono hGq10;replace Aq9:=Aq9.mono hGq10;have M:=M.perm (Bj (Cw aoq10 (Jh c l z xs).1.length csq10::Loq10) [.blk b5 [.slice none 0 0] 54,.blk b1 [.slice kca c.kinds.length kcc,.int .i64 c.cap] 51] L);replace M:=z_M M;revert a;refine Ao<|?_
 refine eK (C':=Keep Gq10 [.blk b1 [.slice kca c.kinds.length kcc,.int .i64 c.cap] 51]) (Ax M) (fun w h=>h.mono hGq10 (by simp))<|?_
 refine wk ?_;refine l_a rfl<|fun a F=>?_
 refine Be F M Az 0 ?_;clear F M a;intro w a M F;replace M:=z_M M;revert a;refine Ao<|?_
 refine eK (C':=Keep Gq10 [.blk b1 [.slice kca c.kinds.length kcc,.int .i64 c.cap] 51]) (Ax M) (fun w h=>h.mono (Gle.refl _) (by simp))<|?_
 refine wk ?_;refine fun a F=>Bs F M (k:=0) rfl rfl Az rfl rfl rfl rfl ?_
 exact ⟨_,_,(((hGq7.trans hGq8).trans hGq9).trans hGq10),M.weaken dS2,aoq10,csq10,Loq10,rfl,rfl,Eoq10⟩
theorem Rh (M:Mem w0 G L w) {c:RulesD} {kca:Option Addr} {kcc:Nat} (SC:Ag Cb 9 G (.slice kca c.kinds.length kcc) c.kinds) {a1:Option Addr} {c1:Nat} {l:List EntD} (S:Ag Bg 6 G (.slice a1 l.length c1) l) (hck:Bb c l=0) {ta:Option Addr} {tc:Nat} {xs:List ItemD} (T:Ag Bn 4 G (.slice ta xs.length tc) xs) (hN:xs.length≤900000):Calls Tryz.prog 92 #[.agg #[.slice kca c.kinds.length kcc,.int .i64 c.cap],.agg #[.slice a1 l.length c1],.slice ta xs.length tc] w (Ht w0 G (Jl L (F8 c [] 0 xs))):=by
 have bS:=S.bound;have bT:=T.bound;refine Al (vs:=[_,_,_]) Tryz.func92 rfl (n:=18) rfl rfl<|?_
 refine Bt<|?_
 refine B2 M rfl rfl rfl<|?_;clear M;intro b1 w M
 refine B2 M rfl rfl rfl<|?_;clear M;intro b2 w M
 refine B1 M Az rfl rfl<|?_;clear M;intro b3 w M
 refine wk ?_;refine fun a F=>E3 [(true,0),(true,1),(true,2),(true,3),(true,4),(false,5),(true,6),(false,7),(true,8),(true,9),(false,10),(true,11)] (Keep G [.blk b2 [.slice a1 l.length c1] 54,.blk b1 [.slice kca c.kinds.length kcc,.int .i64 c.cap] 51]) rfl (by kernel_rfl) (fun c a d v w h=>by cases d <;> exact h) (Ax (M.drew _)) ?_;replace M:=M.drew (w.drawn+1);revert a;refine wk ?_;refine l_a rfl<|Py Art rfl rfl (Qy (c:=c) (l:=([]:List EntD)) M Ag.nil (Mz (Dq hck).1))<|?_;clear M;rintro _ _ w M ⟨buu5,mbu5,esu5,clu5,ksu5,rfl,rfl,Esu5,hksu5⟩
 refine Ao<|?_
 refine eQ (Ax M)<|l_r (fun a F w M=>Ah (cs:=[.bool true,.int .i64 ((xs.length:Nat):Int),.slice ta xs.length tc,.func (.func 168) #[] #[.pointer (some ⟨buu5,0,none⟩)],.func (.func 140) #[] #[]]) (ps:=[(0,.bool true),(1,.int .i64 ((xs.length:Nat):Int)),(2,.slice ta xs.length tc),(3,.func (.func 168) #[] #[.pointer (some ⟨buu5,0,none⟩)]),(4,.func (.func 140) #[] #[])]) Hw.k rfl Hw (F.evp rfl) rfl) rfl<|l_a rfl<|?_
 replace M:=M.perm (Af _ 1 _ rfl);replace M:=M.perm (Af _ 1 _ rfl);replace M:=z_M M;intro a F;refine Ch F Qo rfl rfl (Aoo SC S hck T M Esu5 hksu5 hN) ?_;clear F M a;rintro _ Gq6 _ w a hGq6 M ⟨aoq6,csq6,Loq6,rfl,rfl,Eoq6⟩ F;replace SC:=SC.mono Ak hGq6;replace S:=S.mono Aa hGq6;replace T:=T.mono Ai hGq6;have M:=M.perm (Bj (Cw aoq6 (F8 c [] 0 xs).1.length csq6::Loq6) [.blk b3 [.slice none 0 0] 54,.blk b2 [.slice a1 l.length c1] 54,.blk b1 [.slice kca c.kinds.length kcc,.int .i64 c.cap] 51] L);replace M:=z_M M;revert a;refine Ao<|?_
 refine eK (C':=Keep Gq6 [.blk b2 [.slice a1 l.length c1] 54,.blk b1 [.slice kca c.kinds.length kcc,.int .i64 c.cap] 51]) (Ax M) (fun w h=>h.mono hGq6 (by simp))<|?_
 refine wk ?_;refine l_a rfl<|fun a F=>?_
 refine Be F M Az 0 ?_;clear F M a;intro w a M F;replace M:=z_M M;revert a;refine Ao<|?_
 refine eK (C':=Keep Gq6 [.blk b2 [.slice a1 l.length c1] 54,.blk b1 [.slice kca c.kinds.length kcc,.int .i64 c.cap] 51]) (Ax M) (fun w h=>h.mono (Gle.refl _) (by simp))<|?_
 refine wk ?_;refine fun a F=>Bs F M (k:=0) rfl rfl Az rfl rfl rfl rfl ?_
 exact ⟨_,_,hGq6,M.weaken dS3,aoq6,csq6,Loq6,rfl,rfl,Eoq6⟩
open Go Go.Y
def Pp (c:RulesD) (x:EntD):Prop:=(ItemOk (c.kinds.length:Int) x.item∧Gu c x.item=0)∧H0 c x
def Cn (l:List EntD):List Nat:=l.map fun x=>x.item.key
theorem Ty {l:List Nat}:l.Nodup↔∀ i x,l[i]?=some x→¬ x∈l.take i:=by
 constructor
 ·intro h i x hx hm;obtain ⟨j,hj⟩:=List.mem_iff_getElem?.1 hm;rw [List.getElem?_take] at hj
  split at hj
  ·rename_i hji
   have h1:=List.pairwise_iff_getElem.1 h j i (A0 hj) (A0 hx) hji;rw [List.getElem?_eq_getElem (A0 hj)] at hj;rw [List.getElem?_eq_getElem (A0 hx)] at hx;simp only [Option.some.injEq] at hj hx
   exact h1 (hj.trans hx.symm)
  cases hj
 intro h;refine List.pairwise_iff_getElem.2 fun i j hi hj hij he=>?_;refine h j l[j] (List.getElem?_eq_getElem hj) (List.mem_iff_getElem?.2 ⟨i,?_⟩);rw [List.getElem?_take,if_pos hij,List.getElem?_eq_getElem hi,he]
theorem Ug {l:List EntD} {k:Nat}:Cx l k↔k∈Cn l:=by
 unfold Cx Cn;rw [List.mem_map]
theorem Ws (l:List EntD) (i:Nat):Cn (l.take i)=(Cn l).take i:=by unfold Cn;rw [List.map_take]
theorem Fy {c:RulesD} {l:List EntD}:Bb c l=0↔Cy c∧l.length≤1024∧(∀ x∈l,Pp c x)∧(Cn l).Nodup∧Db l=0:=by
 constructor
 ·intro h;obtain ⟨h1,h2,h3,h4⟩:=Dq h;refine ⟨h1,h2,fun x hx=>?_,Ty.2 fun i k hk=>?_,h4⟩
  ·obtain ⟨i,hi⟩:=List.mem_iff_getElem?.1 hx;have:=Mx.1 (h3 i x hi);have h5:=Ep.1 this.1
   exact ⟨⟨h5.1,h5.2.2⟩,this.2⟩
  ·unfold Cn at hk;rw [List.getElem?_map] at hk
   cases hx:l[i]? with
   | none=>rw [hx] at hk;cases hk
   | some x =>
    rw [hx] at hk;simp only [Option.map_some,Option.some.injEq] at hk;have:=Xg h hx;rw [Ug,Ws,hk] at this
    exact this
 ·rintro ⟨h1,h2,h3,h4,h5⟩;have h6:Bm (Hi c l) l.length=0:=Dh.2 fun i hi=>by
   obtain ⟨x,hx⟩:=Ap hi;obtain ⟨⟨a,b⟩,d⟩:=h3 x (List.mem_of_getElem? hx);rw [Oo hx,Mx,Ep];refine ⟨⟨a,?_,b⟩,d⟩;rw [Ug,Ws]
   exact Ty.1 h4 i _ (by unfold Cn;rw [List.getElem?_map,hx];rfl)
  rw [I3 h1 (by omega) h6 (Nat.le_refl _),h5]
theorem Aci {c:RulesD} {x:ItemD} (hc:Cy c) (h:ItemOk (c.kinds.length:Int) x) (hr:Gu c x=0):Pp c (Bp c x):=by
 obtain ⟨k,hk⟩:=Iq h;have h1:=(hc.2 k (List.mem_of_getElem? hk)).1;have h2:(Bp c x).size=k.base:=H2 hk
 exact ⟨⟨h,hr⟩,by rw [h2];exact h1,Or.inr rfl⟩
theorem T5 (l:List EntD) (p n:Nat) (fr:List EntD):Cn (Ci l p n fr)=(Cn l).take p++Cn fr++(Cn l).drop (p+n):=by
 unfold Ci Cn;simp [List.map_take,List.map_drop]
theorem Tx {a b:List Nat} (h:a.Perm b) (hb:b.Nodup):a.Nodup:=h.symm.nodup hb
theorem Afh {c:RulesD} {l fr:List EntD} {p n:Nat} (h:∀ x∈l,Pp c x) (hf:∀ x∈fr,Pp c x):∀ x∈Ci l p n fr,Pp c x:=fun x hx=>by
 rcases R4 hx with hx | hx
 ·exact h x hx
 exact hf x hx
theorem T6 (c:RulesD) (xs:List ItemD):Cn (xs.map (Bp c))=xs.map ItemD.key:=by unfold Cn;rw [List.map_map];rfl
theorem W3 {xs:List ItemD} {k:Nat}:Je xs k↔k∈xs.map ItemD.key:=by unfold Je;rw [List.mem_map]
theorem Aqk {c:RulesD} {l:List EntD} {xs:List ItemD} (hc:Cy c) (h:Lg c l xs=0):(∀ x∈xs.map (Bp c),Pp c x)∧(xs.map ItemD.key).Nodup∧∀ k∈xs.map ItemD.key,¬ k∈Cn l:=by
 have h1:∀ i x,xs[i]?=some x→Dw c x (Cx l x.key∨Je (xs.take i) x.key)=0:=fun i x hx=>by
  have:=Dh.1 h i (A0 hx)
  rwa [N6 hx] at this
 refine ⟨fun y hy=>?_,Ty.2 fun i k hk=>?_,fun k hk=>?_⟩
 ·obtain ⟨x,hx,rfl⟩:=List.mem_map.1 hy;obtain ⟨i,hi⟩:=List.mem_iff_getElem?.1 hx;have:=Ep.1 (h1 i x hi)
  exact Aci hc this.1 this.2.2
 ·rw [List.getElem?_map] at hk
  cases hx:xs[i]? with
  | none=>rw [hx] at hk;cases hk
  | some x =>
   rw [hx] at hk;simp only [Option.map_some,Option.some.injEq] at hk;subst hk;intro hm;rw [← List.map_take,← W3] at hm
   exact (Ep.1 (h1 i x hx)).2.1 (Or.inr hm)
 ·obtain ⟨x,hx,rfl⟩:=List.mem_map.1 hk;obtain ⟨i,hi⟩:=List.mem_iff_getElem?.1 hx;intro hm
  exact (Ep.1 (h1 i x hi)).2.1 (Or.inl (Ug.2 hm))
theorem Ww {c:RulesD} {l:List EntD} {a:Int} {xs:List ItemD} (h:Bb c l=0) (hr:(F8 c l a xs).2=0):Bb c (F8 c l a xs).1=0:=by
 obtain ⟨h1,h2,h3,h4,h5⟩:=Fy.1 h
 by_cases b1:Av a 0 l.length
 ·by_cases b2:1024 < l.length+xs.length
  ·rw [Ahx b1 b2] at hr;cases hr
  ·by_cases b3:Lg c l xs=0
   ·rcases R0 (Ci l a.toNat 0 (xs.map (Bp c))) with b4 | b4
    ·rw [Wy b1 b2 b3 b4];obtain ⟨g1,g2,g3⟩:=Aqk h1 b3;unfold Av at b1;refine Fy.2 ⟨h1,by rw [I9 (by omega),List.length_map];omega,Afh h3 g1,?_,b4⟩;rw [T5,T6,Nat.add_zero];refine Tx (b:=xs.map ItemD.key++Cn l) ?_ (List.nodup_append.2 ⟨g2,h4,fun x hx y hy e=>g3 x hx (e ▸ hy)⟩);have e:=List.take_append_drop a.toNat (Cn l)
     calc (Cn l).take a.toNat++xs.map ItemD.key++(Cn l).drop a.toNat
      _=(Cn l).take a.toNat++(xs.map ItemD.key++(Cn l).drop a.toNat):=List.append_assoc _ _ _
      _ |>.Perm ((xs.map ItemD.key++(Cn l).drop a.toNat)++(Cn l).take a.toNat):=List.perm_append_comm
      _ |>.Perm (xs.map ItemD.key++((Cn l).drop a.toNat++(Cn l).take a.toNat)):=by rw [List.append_assoc]
      _ |>.Perm (xs.map ItemD.key++((Cn l).take a.toNat++(Cn l).drop a.toNat)):=List.Perm.append_left _ List.perm_append_comm
      _ |>.Perm (xs.map ItemD.key++Cn l):=by rw [e]
    ·rw [Ze b1 b2 b3 (by omega)] at hr;cases hr
   ·rw [Ahw b1 b2 b3] at hr;exact absurd hr b3
 ·rw [Wx b1] at hr;cases hr
theorem Ajy {c:RulesD} {l:List EntD} {a n:Int} (h:Bb c l=0) (hr:(Le l a n).2=0):Bb c (Le l a n).1=0:=by
 obtain ⟨h1,h2,h3,h4,h5⟩:=Fy.1 h
 by_cases b1:Av a n l.length
 ·rw [V6 b1];unfold Av at b1;refine Fy.2 ⟨h1,by rw [Km (by omega)];omega,Afh h3 (by simp),?_,Aax h5⟩;rw [T5];refine List.Nodup.sublist ?_ h4;have e:=List.take_append_drop a.toNat (Cn l);rw [show Cn []=[] from rfl,List.append_nil]
  conv=>rhs;rw [← e]
  refine (sR _).append ?_;rw [← List.drop_drop]
  exact List.drop_sublist _ _
 rw [Agv b1] at hr;cases hr
theorem Apq (l:List EntD) (p n q:Nat):(O3 l p n q).Perm l:=by
 unfold O3
 generalize hX:Ci l p n []=X
 have h1:(Ci X q 0 ((l.drop p).take n)).Perm ((l.drop p).take n++X):=by
  unfold Ci;rw [Nat.add_zero,List.append_assoc];refine List.perm_append_comm.trans ?_;rw [List.append_assoc];refine List.Perm.append_left _ (List.perm_append_comm.trans ?_);rw [List.take_append_drop]
 refine h1.trans ?_;subst hX;unfold Ci;rw [List.append_nil];refine List.perm_append_comm.trans ?_;rw [List.append_assoc]
 conv=>rhs;rw [← List.take_append_drop p l]
 refine List.Perm.append_left _ (List.perm_append_comm.trans ?_);rw [← List.drop_drop,List.take_append_drop]
theorem Akr {c:RulesD} {l:List EntD} {a n b:Int} (h:Bb c l=0) (hr:(Hs l a n b).2=0):Bb c (Hs l a n b).1=0:=by
 obtain ⟨h1,h2,h3,h4,h5⟩:=Fy.1 h
 by_cases b1:Av a n l.length∧Av b 0 (l.length - n)
 ·rw [Ahj b1];have hp:=Apq l a.toNat n.toNat b.toNat
  exact Fy.2 ⟨h1,by rw [hp.length_eq];exact h2,fun x hx=>h3 x (hp.subset hx),Tx (hp.map _) h4,Aay h5⟩
 rw [Ahi b1] at hr;cases hr
theorem Ald {c:RulesD} {l:List EntD} {p:Nat} {xs:List ItemD} (hp:p+xs.length≤l.length) (h:∀ i x,xs[i]?=some x→∃ y,l[p+i]?=some y∧y.item.key=x.key):Cn (Ci l p xs.length (xs.map (Bp c)))=Cn l:=by
 rw [T5,T6]
 apply List.ext_getElem?
 intro i;have e0:(Cn l).length=l.length:=by unfold Cn;simp
 have e1:((Cn l).take p).length=p:=by unfold Cn;simp;omega
 rcases Nat.lt_or_ge i p with h1 | h1
 ·rw [List.append_assoc,List.getElem?_append_left (by omega),List.getElem?_take,if_pos h1]
 rcases Nat.lt_or_ge i (p+xs.length) with h2 | h2
 ·rw [List.getElem?_append_left (by simp;omega),List.getElem?_append_right (by omega),e1];obtain ⟨x,hx⟩:=Ap (xs:=xs) (i:=i - p) (by omega);obtain ⟨y,hy,he⟩:=h (i - p) x hx;rw [show p+(i - p)=i by omega] at hy;unfold Cn;rw [List.getElem?_map,List.getElem?_map,hx,hy]
  simp [he]
 rw [List.getElem?_append_right (by simp;omega),List.getElem?_drop]
 congr 1
 simp;omega
theorem Alt {c:RulesD} {l:List EntD} {a:Int} {xs:List ItemD} (h:Bb c l=0) (hr:(Jh c l a xs).2=0):Bb c (Jh c l a xs).1=0:=by
 obtain ⟨h1,h2,h3,h4,h5⟩:=Fy.1 h
 by_cases b1:Av a xs.length l.length
 ·by_cases b2:Bm (Ik c l a.toNat xs) xs.length=0
  ·rcases R0 (Ci l a.toNat xs.length (xs.map (Bp c))) with b4 | b4
   ·rw [Aiu b1 b2 b4];unfold Av at b1;have hz:∀ i x,xs[i]?=some x→ItemOk (c.kinds.length:Int) x∧¬ Nz l (a.toNat+i) x.key∧Gu c x=0:=fun i x hx=>by
     have:=Dh.1 b2 i (A0 hx);rw [Uv hx] at this
     exact Alw.1 this
    refine Fy.2 ⟨h1,by rw [I9 (by omega),List.length_map];omega,Afh h3 (fun y hy=>?_),?_,b4⟩
    ·obtain ⟨x,hx,rfl⟩:=List.mem_map.1 hy;obtain ⟨i,hi⟩:=List.mem_iff_getElem?.1 hx
     exact Aci h1 (hz i x hi).1 (hz i x hi).2.2
    rw [Ald (by omega) (fun i x hx=>?_)]
    ·exact h4
    obtain ⟨y,hy⟩:=Ap (xs:=l) (i:=a.toNat+i) (by have:=A0 hx;omega)
    exact ⟨y,hy,Classical.byContradiction fun hn=>(hz i x hx).2.1 ((H8 hy).2 hn)⟩
   rw [Zp b1 b2 (by omega)] at hr;cases hr
  unfold Jh at hr;rw [if_neg (not_not_intro b1),if_pos b2] at hr;exact absurd hr b2
 rw [Ait b1] at hr;cases hr
structure NotD where
 kind:Nat
 at_:Int
 count:Int
 to:Int
 items:List ItemD
def E6:Rd NotD:=fun G cs x=>∃ (a:Option Addr) (c:Nat),cs=[.int .u8 ((x.kind:Nat):Int),.int .i64 x.at_,.int .i64 x.count,.int .i64 x.to,.slice a x.items.length c] ∧
 x.kind < 256∧Au .i64 x.at_∧Au .i64 x.count∧Au .i64 x.to∧x.items.length≤9223372036854775807∧Ag Bn 4 G (.slice a x.items.length c) x.items
theorem Aj:Ho E6:=by
 rintro G G' cs x h ⟨a,c,h1,h2,h3,h4,h5,h6,h7⟩
 exact ⟨a,c,h1,h2,h3,h4,h5,h6,h7.mono Ai h⟩
def uAt (k:Nat):Prop:=k=1∨k=2∨k=3∨k=4
def uCo (k:Nat):Prop:=k=2∨k=3
def uTo (k:Nat):Prop:=k=3
def uIt (k:Nat):Prop:=k=1∨k=4∨k=5
instance (k:Nat):Decidable (uAt k):=by unfold uAt;infer_instance
instance (k:Nat):Decidable (uCo k):=by unfold uCo;infer_instance
instance (k:Nat):Decidable (uTo k):=by unfold uTo;infer_instance
instance (k:Nat):Decidable (uIt k):=by unfold uIt;infer_instance
def Ed (n:NotD):Prop:=(uAt n.kind∨n.at_=0)∧(uCo n.kind∨n.count=0)∧(uTo n.kind∨n.to=0)∧(uIt n.kind∨n.items.length=0)
instance (n:NotD):Decidable (Ed n):=by unfold Ed;infer_instance
def Dr (n:NotD):Int:=if n.kind < 1∨5 < n.kind then 1 else if Ed n then 0 else 5
theorem Yz {n:NotD} (h:n.kind < 1∨5 < n.kind):Dr n=1:=by unfold Dr;rw [if_pos h]
theorem Apj {n:NotD} (h:¬ (n.kind < 1∨5 < n.kind)) (h2:¬ Ed n):Dr n=5:=by unfold Dr;rw [if_neg h,if_neg h2]
theorem Apk {n:NotD} (h:¬ (n.kind < 1∨5 < n.kind)) (h2:Ed n):Dr n=0:=by unfold Dr;rw [if_neg h,if_pos h2]
theorem I0 {n:NotD}:Dr n=0↔(1≤n.kind∧n.kind≤5)∧Ed n:=by
 unfold Dr
 split
 ·rename_i h;exact ⟨fun h2=>(by cases h2),fun h2=>by omega⟩
 rename_i h
 split
 ·rename_i h2;exact ⟨fun _=>⟨by omega,h2⟩,fun _=>rfl⟩
 rename_i h2;exact ⟨fun h3=>(by cases h3),fun h3=>absurd h3.2 h2⟩
theorem note_nn (n:NotD):0≤Dr n:=by unfold Dr;split;decide;split <;> decide
noncomputable def F9 (c:RulesD) (l:List EntD) (n:NotD):List EntD × Int :=
 if Dr n≠0 then ([],Dr n) else if n.kind=1 then F8 c l n.at_ n.items else if n.kind=2 then Le l n.at_ n.count else if n.kind=3 then Hs l n.at_ n.count n.to
 else if n.kind=4 then Jh c l n.at_ n.items else F8 c [] 0 n.items
section
variable {c:RulesD} {l:List EntD} {n:NotD}
theorem Aiy (h:Dr n≠0):F9 c l n=([],Dr n):=by unfold F9;rw [if_pos h]
theorem Adg (h:Dr n=0) (hk:n.kind=1):F9 c l n=F8 c l n.at_ n.items:=by unfold F9;rw [if_neg (not_not_intro h),if_pos hk]
theorem Xm (h:Dr n=0) (hk:n.kind=2):F9 c l n=Le l n.at_ n.count:=by unfold F9;rw [if_neg (not_not_intro h),if_neg (by omega),if_pos hk]
theorem Adf (h:Dr n=0) (hk:n.kind=3):F9 c l n=Hs l n.at_ n.count n.to:=by unfold F9;rw [if_neg (not_not_intro h),if_neg (by omega),if_neg (by omega),if_pos hk]
theorem Aja (h:Dr n=0) (hk:n.kind=4):F9 c l n=Jh c l n.at_ n.items:=by unfold F9;rw [if_neg (not_not_intro h),if_neg (by omega),if_neg (by omega),if_neg (by omega),if_pos hk]
theorem Aiz (h:Dr n=0) (hk:n.kind=5):F9 c l n=F8 c [] 0 n.items:=by unfold F9;rw [if_neg (not_not_intro h),if_neg (by omega),if_neg (by omega),if_neg (by omega),if_neg (by omega)]
theorem Qt (h:Bb c l=0) (hr:(F9 c l n).2=0):Bb c (F9 c l n).1=0:=by
 by_cases h0:Dr n=0
 ·have hk:=(I0.1 h0).1
  rcases (show n.kind=1∨n.kind=2∨n.kind=3∨n.kind=4∨n.kind=5 by omega) with e | e | e | e | e
  ·rw [Adg h0 e] at hr ⊢;exact Ww h hr
  ·rw [Xm h0 e] at hr ⊢;exact Ajy h hr
  ·rw [Adf h0 e] at hr ⊢;exact Akr h hr
  ·rw [Aja h0 e] at hr ⊢;exact Alt h hr
  have hc:=(Dq h).1;rw [Aiz h0 e] at hr ⊢
  exact Ww (by rw [I3 hc (by decide) (i:=0) rfl (Nat.le_refl _)];rfl) hr
 rw [Aiy h0] at hr;exact absurd hr h0
end
noncomputable def Ca (c:RulesD) (l:List EntD) (ns:List NotD):Nat→List EntD × Int
 | 0=>(l,0)
 | i+1=>if (Ca c l ns i).2=0 then (match ns[i]? with
  | some n=>F9 c (Ca c l ns i).1 n
  | none=>Ca c l ns i) else Ca c l ns i
theorem H6 {c:RulesD} {l:List EntD} {ns:List NotD} {i:Nat} {n:NotD} (h:(Ca c l ns i).2=0) (hn:ns[i]?=some n):Ca c l ns (i+1)=F9 c (Ca c l ns i).1 n:=by
 simp only [Ca,h,if_true,hn]
theorem Lv {c:RulesD} {l:List EntD} {ns:List NotD} {i:Nat} (h:(Ca c l ns i).2≠0):∀ j,i≤j→Ca c l ns j=Ca c l ns i:=by
  intro j hj
  induction j with
  | zero => have : i = 0 := by omega
            subst this;rfl
  | succ j ih =>
    rcases Nat.eq_or_lt_of_le hj with e | e
    · rw [e]
    · have:=ih (by omega)
      simp only [Ca,this,h,if_false]
theorem Pz {c:RulesD} {l:List EntD} {ns:List NotD} (h:Bb c l=0):∀ {i:Nat},(Ca c l ns i).2=0→Bb c (Ca c l ns i).1=0
 | 0,_=>h
 | i+1,hr=>by
  by_cases h0:(Ca c l ns i).2=0
  ·have ih:=Pz h h0
   cases hn:ns[i]? with
   | none=>simp only [Ca,h0,if_true,hn];exact ih
   | some n=>rw [H6 h0 hn] at hr ⊢;exact Qt ih hr
  ·rw [Lv h0 _ (Nat.le_succ i)] at hr;exact absurd hr h0
noncomputable def Ig (c:RulesD) (l:List EntD) (ns:List NotD):Nat→Nat
 | 0=>0
 | i+1=>if (Ca c l ns (i+1)).2=0 then i+1 else Ig c l ns i
theorem Agr {c:RulesD} {l:List EntD} {ns:List NotD}:∀ {i:Nat},(Ca c l ns i).2=0→Ig c l ns i=i
 | 0,_=>rfl
 | i+1,h=>by simp only [Ig,h,if_true]
theorem Aok {c:RulesD} {l:List EntD} {ns:List NotD} {i:Nat} (h0:(Ca c l ns i).2=0) (h:(Ca c l ns (i+1)).2≠0):∀ j,i < j→Ig c l ns j=i:=by
 intro j hj
 induction j with
 | zero=>omega
 | succ j ih =>
  have hs:=Lv h (j+1) (by omega)
  rcases Nat.eq_or_lt_of_le (show i≤j by omega) with e | e
  ·subst e;simp only [Ig,h,if_false];exact Agr h0
  ·simp only [Ig,hs,h,if_false];exact ih e
noncomputable def A1 (c:RulesD) (l:List EntD) (ns:List NotD):List EntD × Nat × Int :=
 if 32 < ns.length then ([],0,3) else if (Ca c l ns ns.length).2=0 then ((Ca c l ns ns.length).1,ns.length,0) else ([],Ig c l ns ns.length,(Ca c l ns ns.length).2)
section
variable {c:RulesD} {l:List EntD} {ns:List NotD}
theorem all_3 (h:32 < ns.length):A1 c l ns=([],0,3):=by unfold A1;rw [if_pos h]
theorem Ava {i:Nat} (h:¬ 32 < ns.length) (h2:(Ca c l ns i).2=0) (hi:i=ns.length):A1 c l ns=((Ca c l ns i).1,ns.length,0):=by subst hi;unfold A1;rw [if_neg h,if_pos h2]
theorem all_e {i:Nat} {n:NotD} {e:Int} (h:¬ 32 < ns.length) (h2:(Ca c l ns i).2=0) (hn:ns[i]?=some n) (he:(F9 c (Ca c l ns i).1 n).2=e) (h0:e≠0):A1 c l ns=([],i,e):=by
 have h3:=H6 h2 hn;have h4:(Ca c l ns (i+1)).2≠0:=by rw [h3,he];exact h0
 have h5:=Lv h4 ns.length (by have:=A0 hn;omega);unfold A1;rw [if_neg h,if_neg (by rw [h5];exact h4),h5,h3,he,Aok h2 h4 ns.length (A0 hn)]
end
end Go.Proofs.YtmmhmcplegpenaaGreatDoor
