/- The walks, part LH. · The walks, part LI. · The walks, part LJ. · Notices: what they are, what they do; lists stay valid. -/
import Derived.Test.YtmmhmcplegpenaaGreatDoorJ9
set_option linter.unusedSimpArgs false
set_option linter.unusedVariables false
set_option maxRecDepth 10000
namespace Go.Proofs.YtmmhmcplegpenaaGreatDoor
open Go Go.Y Go.Proofs
set_option maxHeartbeats 1600000
def KeyC (w0:World) (G0:Ap) (kf:FuncId) (kc:List Value) (xs:List ItemD) (fK:Nat→Int) (Rk:Nat→List Res→Prop):Prop :=
 ∀ (G:Ap) (L R:List Res) (w:World) (i:Nat) (x:ItemD) (ma:Option Addr) (mc:Nat),Gle G0 G→xs[i]?=some x→Rk i R→Mem w0 G (R++L) w→(x.key < 18446744073709551616∧x.typ < 256∧x.text.length≤9223372036854775807)→Ag Cb 1 G (.slice ma x.marks.length mc) x.marks →
  Calls Tryz.prog kf ([.int .i64 ((i:Nat):Int),.agg #[.int .u64 ((x.key:Nat):Int),.int .u8 ((x.typ:Nat):Int),.string (str x.text),.slice ma x.marks.length mc]]++kc:List Value).toArray w (J8 w0 G fun L' v=>∃ R',v=.int .i64 (fK i)∧L' = R'++L∧(fK i=0→Rk (i+1) R'))
def MakeC (w0:World) (G0:Ap) (mk:FuncId) (mc:List Value) (fr out:List EntD):Prop :=
 ∀ (G:Ap) (L:List Res) (w:World) (a2:Option Addr) (c2:Nat),Gle G0 G→Mem w0 G L w→Ag Bc 6 G (.slice a2 fr.length c2) fr →
  Calls Tryz.prog mk ([.slice a2 fr.length c2]++mc:List Value).toArray w (Ret w0 G L fun G' v=>∃ (a:Option Addr) (cc:Nat),v=.slice a (out).length cc∧Ag Bc 6 G' (.slice a (out).length cc) (out))
def Jj (L:List Res) (r:List EntD × Int) (G':Ap) (L':List Res) (v:Value):Prop :=
 ∃ (a:Option Addr) (cs:List Value) (Ls:List Res),v=.tuple #[.agg #[.slice a r.1.length r.1.length],.int .i64 r.2]∧L' = (Co a r.1.length cs::(Ls++L))∧Els (Ld Ls) 6 G' cs r.1
theorem Fl {w0 w:World} {G G':Ap} {L:List Res} {r:List EntD × Int} {e:Int} (hr:r=([],e)) (hG:Gle G G') (M:Mem w0 G' L w):∃ G2 L2,Gle G G2∧Mem w0 G2 L2 w∧Jj L r G2 L2 (.tuple #[.agg #[.slice none 0 0],.int .i64 e]):=by
 subst hr
 exact ⟨G',_,hG,M.nilrow 69 6,none,[],[],rfl,rfl,Els.nil⟩
theorem Qc {P:Program} {ops:Array Oper} {Q:Exit→Act→World→Prop} {n:Nat} {a:Act} {w w0:World} {e:Env} {G:Ap} {L:List Res} {d:Nat} {t:TypeId} {p:String} {af:Array Edge} {r:List Oper} {f:FuncId} {cal:Operand} {args:List Operand} {ats:Array TypeId} {vs caps:List Value} {Φ:Ap→Value→Prop}
  (F:Fits n a e) (hE:Ent P f) (hc:ev e cal=some (.func (.func f) #[] caps.toArray)) (hv:evs e args=some vs) (hd:Nat.ble (d+1) n=true) (hs:Calls P f (vs++caps).toArray w (Ret w0 G L Φ))
  (k:∀ v G' w' a',Gle G G'→Mem w0 G' L w'→Φ G' v→Fits n a' ((d,v)::e)→rl P ops Q r a' w') :
  rl P ops Q (⟨some d,.call ⟨.value cal,args.toArray,ats⟩,t,p,af,none⟩::r) a w:=by
 refine H1 F hE hc hv hd hs fun x w' hx=>?_
 cases x with
 | returned v=>obtain ⟨G',h1,h2,h3⟩:=hx;exact ⟨v,rfl,fun a' F'=>k v G' w' a' h1 h2 h3 F'⟩
 | panicked c=>exact hx.elim
 | outgrown=>exact hx.elim
theorem Pn {w0 w:World} {G:Ap} {L:List Res} {ins:Bool} {cnt:Int} {kv mv:Value} {fK:Nat→Int} {Rk:Nat→List Res→Prop} {out:List EntD} {R:List Res} (M:Mem w0 G (R++L) w) {c:RulesD} {kca:Option Addr} {kcc:Nat} (SC:Ag B8 9 G (.slice kca c.kinds.length kcc) c.kinds) {a1:Option Addr} {c1:Nat} {l:List EntD} (S:Ag Bc 6 G (.slice a1 l.length c1) l) {ta:Option Addr} {tc:Nat} {xs:List ItemD} (T:Ag Bt 4 G (.slice ta xs.length tc) xs) (hck:A4 c l=0) (hR:Rk 0 R) (hN:xs.length≤1000000)
  (hKy:ins=true→xs=[]∨∃ kf kc,kv=.func (.func kf) #[] (List.toArray kc)∧Ent Tryz.prog kf∧KeyC w0 G kf kc xs fK Rk) (hMk:ins=true→Bg (J5 c xs fK) xs.length=0→∃ mk mc,mv=.func (.func mk) #[] (List.toArray mc)∧Ent Tryz.prog mk∧MakeC w0 G mk mc (xs.map (Bh c)) out)
  (hol:ins=true→out.length≤1000000) (hmk:ins=true→Bg (J5 c xs fK) xs.length=0→∀ x∈out,x.item.marks.length≤1000000) :
  Calls Tryz.prog 116 #[.agg #[.slice kca c.kinds.length kcc,.int .i64 c.cap],.agg #[.slice a1 l.length c1],.agg #[.bool ins,.int .i64 cnt,.slice ta xs.length tc,kv,mv]] w (Hn w0 G (Jj L (doR (A4 c l) ins cnt (J5 c xs fK) xs.length out))):=by
 have bT:=T.bound;refine Aj (vs:=[_,_,_]) Tryz.func116 rfl (n:=79) rfl rfl<|?_
 refine Bo<|?_
 refine Bw M rfl rfl rfl<|?_;clear M;intro b1 w M
 refine Bw M rfl rfl rfl<|?_;clear M;intro b2 w M
 refine Bw M rfl rfl rfl<|?_;clear M;intro b3 w M
 refine Bv M A0 rfl rfl<|?_;clear M;intro b4 w M
 refine wk ?_;refine A2 Ard rfl rfl (Me (c:=c) (l:=l) M SC S)<|?_;clear M;rintro _ w M rfl
 refine wk ?_;refine Ae rfl ?_ ?_
 ·intro h6b;have h6:=Ab h6b;have h6c:(ins)=false:=(Ab h6b);refine Bo<|?_
  refine Aq (fun a F=>Ai (cs:=[.slice none 0 0]) (ps:=[]) A0.k rfl A0 (F.evp rfl) rfl) rfl<|fun a F=>?_
  refine Be F M A0 0 ?_;clear F M a;intro w a M F;replace M:=z_M M;revert a;refine wk ?_;refine fun a F=>Bm F M (k:=0) rfl rfl A0 rfl rfl rfl rfl ?_
  exact Fl (Aun hck (by cases ins <;> simp_all)) (Gle.refl _) (M.weaken (cN (.cons _ (cN (.cons _ (List.sublist_append_right _ _))))))
 intro h7b;have h7:=Ac h7b;have h7c:(ins)=true:=(Ac h7b);refine wk ?_;refine qD rfl ?_ ?_
 ·intro h8;refine Bo<|?_
  refine Aq (fun a F=>Ai (cs:=[.slice none 0 0]) (ps:=[]) A0.k rfl A0 (F.evp rfl) rfl) rfl<|fun a F=>?_
  refine Be F M A0 0 ?_;clear F M a;intro w a M F;replace M:=z_M M;revert a;refine wk ?_;refine fun a F=>Bm F M (k:=0) rfl rfl A0 rfl rfl rfl rfl ?_
  exact Fl (do_3 hck (by cases ins <;> simp_all) (by omega)) (Gle.refl _) (M.weaken (cN (.cons _ (cN (.cons _ (List.sublist_append_right _ _))))))
 intro h9;refine wk ?_;have hins:ins=true:=by cases ins <;> simp_all
 refine wk ?_;refine fun a F=>A3 (fun m a' w'=>∃ (i:Nat),∃ (Rn:List Res),m=xs.length - i∧Fits 79 a' [(3,.pointer (some ⟨b1,0,none⟩)),(4,.pointer (some ⟨b2,0,none⟩)),(5,.pointer (some ⟨b3,0,none⟩)),(6,.pointer (some ⟨b4,0,none⟩)),(32,.slice ta xs.length tc),(33,.int .i64 ((xs.length:Nat):Int)),(34,.int .i64 ((i:Nat):Int))]∧Mem w0 G (.blk b4 [.slice none 0 0] 54::.blk b3 [.bool ins,.int .i64 cnt,.slice ta xs.length tc,kv,mv] 207::.blk b2 [.slice a1 l.length c1] 54::.blk b1 [.slice kca c.kinds.length kcc,.int .i64 c.cap] 51::(Rn++L)) w'∧(i≤xs.length)∧(Rk i Rn)∧(Bg (J5 c xs fK) i=0)) _ ⟨0,R,rfl,F.to ⟨rfl,rfl,rfl,rfl,rfl,rfl,rfl,trivial⟩,M,Nat.zero_le _,hR,rfl⟩ ?_;clear F M;rintro m a w ⟨i,Rn,rfl,F,M,hi,hRn,hS⟩;revert a;refine wk ?_;refine qD rfl ?_ ?_
 ·intro h10;refine wk ?_;obtain ⟨Xi,hXi⟩:=Ak (xs:=xs) (i:=i) (by omega)
  rcases hKy hins with hx0 | ⟨kf,kc,hkv,hEk,hKc⟩
  ·intro a F
   exact absurd hXi (by rw [hx0];simp)
  refine wk ?_;obtain ⟨be11,oe11,_,Ie11,_,Ae11,hTe11⟩:=T.at hXi;obtain ⟨mae11,mce11,rfl,hke11,hte11,hxe11,hne11,SMe11⟩:=hTe11;have hIe11:(Xi.key < 18446744073709551616∧Xi.typ < 256∧Xi.text.length≤9223372036854775807):=⟨hke11,hte11,hxe11⟩;refine wk ?_;refine Bv M Bi rfl rfl<|?_;clear M;intro b12 w M
  refine Eh rfl<|?_
  intro a F;refine Be F M Bi 0 ?_;clear F M a;intro w a M F;replace M:=z_M M;revert a;refine wk ?_;refine A2 Ace rfl rfl (Jg (x:=Xi) (t:=((c.kinds.length:Nat):Int)) M hIe11 SMe11)<|?_;clear M;rintro _ w M rfl
  refine wk ?_;refine qD rfl ?_ ?_
  ·intro h14;have hok:ItemOk (c.kinds.length:Int) Xi:=Cv.1 (by assumption);refine wk ?_;intro a F;rw [hkv] at F;refine Qd F hEk (caps:=kc) rfl rfl rfl (hKc _ _ Rn _ i Xi _ _ (Gle.refl _) hXi hRn (M.perm (Bj [.blk b12 [.int .u64 ((Xi.key:Nat):Int),.int .u8 ((Xi.typ:Nat):Int),.string (str Xi.text),.slice mae11 Xi.marks.length mce11] 26,.blk b4 [.slice none 0 0] 54,.blk b3 [.bool ins,.int .i64 cnt,.slice ta xs.length tc,kv,mv] 207,.blk b2 [.slice a1 l.length c1] 54,.blk b1 [.slice kca c.kinds.length kcc,.int .i64 c.cap] 51] Rn L)) hIe11 SMe11) ?_;clear F M a;rintro _ _ w a M ⟨R2,rfl,rfl,hR2⟩ F;have M:=M.perm (Bj R2 [.blk b12 [.int .u64 ((Xi.key:Nat):Int),.int .u8 ((Xi.typ:Nat):Int),.string (str Xi.text),.slice mae11 Xi.marks.length mce11] 26,.blk b4 [.slice none 0 0] 54,.blk b3 [.bool ins,.int .i64 cnt,.slice ta xs.length tc,kv,mv] 207,.blk b2 [.slice a1 l.length c1] 54,.blk b1 [.slice kca c.kinds.length kcc,.int .i64 c.cap] 51] L);replace M:=z_M M;revert a;refine wk ?_;refine qD rfl ?_ ?_
   ·intro h15;obtain ⟨k,hK⟩:=Ip hok;refine wk ?_;refine A2 Aue rfl rfl (Rf (c:=c) (x:=Xi) M SC hIe11 SMe11 hK)<|?_;clear M;rintro _ w M ⟨n1n16,s1n16,s2n16,s3n16,a1n16,a2n16,l1n16,c1n16,l2n16,c2n16,rfl⟩
    refine wk ?_;refine Ae rfl ?_ ?_
    ·intro h17b;have h17:=dF (Ab h17b);have h17c:(decide (Gq c Xi=0))=false:=(Ab h17b);refine Bo<|?_
     refine Aq (fun a F=>Ai (cs:=[.slice none 0 0]) (ps:=[]) A0.k rfl A0 (F.evp rfl) rfl) rfl<|?_
     refine Cl rfl<|?_
     intro a F;refine Be F M A0 1 ?_;clear F M a;intro w a M F;replace M:=z_M M;revert a;refine wk ?_;refine fun a F=>Bm F M (k:=1) rfl rfl A0 rfl rfl rfl rfl ?_
     exact Fl (do_e hck hins (by omega) hS (Az hXi) ((Uf hXi).trans (Ahw hok (by omega))) (by omega)) (Gle.refl _) (M.weaken (cN (.cons _ (cN (.cons _ (cN (List.sublist_append_right _ _)))))))
    intro h18b;have h18:=dT (Ac h18b);have h18c:(decide (Gq c Xi=0))=true:=(Ac h18b);refine wk ?_;intro a F
    exact ⟨_,by omega,i+1,R2,rfl,F.to ⟨rfl,rfl,rfl,rfl,rfl,rfl,rfl,trivial⟩,(M.weaken (cN (cC (.cons_cons _ (cC (.cons_cons _ (sR _))))))),by omega,hR2 (by omega),in_step hS hXi ((Ahw hok (by omega)).trans (by omega))⟩
   intro h19;refine wk ?_;refine Aq (fun a F=>Ai (cs:=[.slice none 0 0]) (ps:=[]) A0.k rfl A0 (F.evp rfl) rfl) rfl<|?_
   refine Cl rfl<|?_
   intro a F;refine Be F M A0 1 ?_;clear F M a;intro w a M F;replace M:=z_M M;revert a;refine wk ?_;refine fun a F=>Bm F M (k:=1) rfl rfl A0 rfl rfl rfl rfl ?_
   exact Fl (do_e hck hins (by omega) hS (Az hXi) ((Uf hXi).trans (Aqo hok (by omega))) (by omega)) (Gle.refl _) (M.weaken (cN (.cons _ (cN (.cons _ (cN (List.sublist_append_right _ _)))))))
  intro h20;refine wk ?_;refine Aq (fun a F=>Ai (cs:=[.slice none 0 0]) (ps:=[]) A0.k rfl A0 (F.evp rfl) rfl) rfl<|?_
  refine Cl rfl<|?_
  intro a F;refine Be F M A0 1 ?_;clear F M a;intro w a M F;replace M:=z_M M;revert a;refine wk ?_;refine fun a F=>Bm F M (k:=1) rfl rfl A0 rfl rfl rfl rfl ?_
  exact Fl (do_e hck hins (by omega) hS (Az hXi) ((Uf hXi).trans ((Ahx (fun h_=>by have:=Cs h_;omega)).trans (Dq (fun h_=>by have:=Cs h_;omega)).symm)) (by omega)) (Gle.refl _) (M.weaken (cN (.cons _ (cN (.cons _ (cN (List.sublist_append_right _ _)))))))
 intro h21;refine wk ?_;have hxe:Bg (J5 c xs fK) xs.length=0:=by rw [show xs.length=i by omega];exact hS
 have hxo:=Ahv hxe (Nat.le_refl _);obtain ⟨mk,mc,hmv,hEm,hMc⟩:=hMk hins hxe;intro a F;refine J2 (.run 0 (.run 1 (.run 2 (.run 3 (.run 4 (.act 5 (.act 6 (.act 7 (.act 8 (.act 9 .fin .no) .no) (.act 8 (.act 7 (.act 9 .fin .no) .no) .no)) (.act 8 (.act 6 (.act 7 (.act 9 .fin .no) .no) .no) .no)) (.act 8 (.act 5 (.act 6 (.act 7 (.act 9 .fin .no) .no) .no) .no) .no))))))) (Keep G [.blk b4 [.slice none 0 0] 54,.blk b3 [.bool ins,.int .i64 cnt,.slice ta xs.length tc,kv,mv] 207,.blk b2 [.slice a1 l.length c1] 54,.blk b1 [.slice kca c.kinds.length kcc,.int .i64 c.cap] 51]) rfl (by kernel_rfl) (fun c a d v w h=>by cases d <;> exact h) (Aw (M.drew _)) ?_;replace M:=M.drew (w.drawn+1);revert a;refine wk ?_;refine fun a F=>A1 ?_ rfl ?_
 ·skip
  revert a;refine E7 Aru rfl rfl (Ui (c:=c) (xs:=xs) M SC T (by omega) hxo)<|?_;clear M;rintro _ Gq22 w hGq22 M ⟨aq22,cq22,rfl,Sq22⟩
  replace SC:=SC.mono Am hGq22;replace S:=S.mono Ad hGq22;replace T:=T.mono Ah hGq22;refine Ao<|?_
  refine eK (C':=Keep Gq22 [.blk b4 [.slice none 0 0] 54,.blk b3 [.bool ins,.int .i64 cnt,.slice ta xs.length tc,kv,mv] 207,.blk b2 [.slice a1 l.length c1] 54,.blk b1 [.slice kca c.kinds.length kcc,.int .i64 c.cap] 51]) (Aw M) (fun w h=>h.mono hGq22 (by simp))<|fun a F=>A1 ?_ rfl ?_
  ·skip
   rw [hmv] at F;refine Qc F hEm (caps:=mc) rfl rfl rfl (hMc _ _ _ _ _ hGq22 M Sq22) ?_;clear F M a;rintro _ Gq23 w a hGq23 M ⟨aq23,cq23,rfl,Sq23⟩ F;replace SC:=SC.mono Am hGq23;replace S:=S.mono Ad hGq23;replace T:=T.mono Ah hGq23;replace Sq22:=Sq22.mono Ad hGq23;revert a;refine Ao<|?_
   refine eK (C':=Keep Gq23 [.blk b4 [.slice none 0 0] 54,.blk b3 [.bool ins,.int .i64 cnt,.slice ta xs.length tc,kv,mv] 207,.blk b2 [.slice a1 l.length c1] 54,.blk b1 [.slice kca c.kinds.length kcc,.int .i64 c.cap] 51]) (Aw M) (fun w h=>h.mono hGq23 (by simp))<|fun a F=>A1 ?_ rfl ?_
   ·skip
    refine Cq F Zf rfl rfl (O6 M Sq23 (hol hins) (hmk hins hxe)) ?_;clear F M a;rintro _ Gq24 _ w a hGq24 M ⟨ao,cso,Lo,rfl,rfl,Eo⟩ F;replace SC:=SC.mono Am hGq24;replace S:=S.mono Ad hGq24;replace T:=T.mono Ah hGq24;replace Sq22:=Sq22.mono Ad hGq24;replace Sq23:=Sq23.mono Ad hGq24;have M:=M.perm (Bj (Co ao out.length cso::Lo) [.blk b4 [.slice none 0 0] 54,.blk b3 [.bool ins,.int .i64 cnt,.slice ta xs.length tc,kv,mv] 207,.blk b2 [.slice a1 l.length c1] 54,.blk b1 [.slice kca c.kinds.length kcc,.int .i64 c.cap] 51] (Rn++L));replace M:=z_M M;revert a;refine Ao<|?_
    refine eK (C':=Keep Gq24 [.blk b4 [.slice none 0 0] 54,.blk b3 [.bool ins,.int .i64 cnt,.slice ta xs.length tc,kv,mv] 207,.blk b2 [.slice a1 l.length c1] 54,.blk b1 [.slice kca c.kinds.length kcc,.int .i64 c.cap] 51]) (Aw M) (fun w h=>h.mono hGq24 (by simp))<|fun a F=>A1 ?_ rfl Bk
    revert a;refine Bv M A0 rfl rfl<|?_;clear M;intro b25 w M
    refine Ao<|?_
    refine eK (C':=Keep Gq24 [.blk b4 [.slice none 0 0] 54,.blk b3 [.bool ins,.int .i64 cnt,.slice ta xs.length tc,kv,mv] 207,.blk b2 [.slice a1 l.length c1] 54,.blk b1 [.slice kca c.kinds.length kcc,.int .i64 c.cap] 51]) (Aw M) (fun w h=>h.mono (Gle.refl _) (by simp))<|fun a F=>A1 ?_ rfl Bk
    refine Be F M A0 0 ?_;clear F M a;intro w a M F;replace M:=z_M M;revert a;refine Ao<|?_
    refine eQ (Aw M)<|?_
    refine wk ?_;have M:=M.perm (Bj [.blk b25 [.slice ao out.length out.length] 54,.blk b4 [.slice none 0 0] 54,.blk b3 [.bool ins,.int .i64 cnt,.slice ta xs.length tc,kv,mv] 207,.blk b2 [.slice a1 l.length c1] 54,.blk b1 [.slice kca c.kinds.length kcc,.int .i64 c.cap] 51] (Co ao out.length cso::Lo) (Rn++L));refine A2 Up rfl rfl (O7 M Eo)<|?_;clear M;rintro _ w M rfl
    have M:=M.perm (Bj (Co ao out.length cso::Lo) [.blk b25 [.slice ao out.length out.length] 54,.blk b4 [.slice none 0 0] 54,.blk b3 [.bool ins,.int .i64 cnt,.slice ta xs.length tc,kv,mv] 207,.blk b2 [.slice a1 l.length c1] 54,.blk b1 [.slice kca c.kinds.length kcc,.int .i64 c.cap] 51] (Rn++L));replace M:=z_M M;refine wk ?_;refine Ae rfl ?_ ?_
    ·intro h27b;have h27:=dF (Ab h27b);have h27c:(decide (C3 out=0))=false:=(Ab h27b);refine Bo<|?_
     refine Aq (fun a F=>Ai (cs:=[.slice none 0 0]) (ps:=[]) A0.k rfl A0 (F.evp rfl) rfl) rfl<|?_
     refine Cl rfl<|?_
     intro a F;refine Be F M A0 1 ?_;clear F M a;intro w a M F;change Mem w0 Gq24 (.blk b25 [.slice ao out.length out.length] 54::.blk b4 [.slice none 0 0] 54::_::_::_::((Co ao out.length cso::Lo)++(Rn++L))) _ at M;revert a;refine Eh rfl<|E4<|Fp<|?_
     refine fun a F=>Bm F M (k:=1) rfl rfl A0 rfl rfl rfl rfl ?_
     exact Fl (Alh hck hins (by omega) hxe (by omega)) ((hGq22.trans hGq23).trans hGq24) (M.weaken (cN (.cons _ (cN (.cons _ (cN ((List.sublist_append_right _ _).trans (List.sublist_append_right _ _))))))))
    intro h28b;have h28:=dT (Ac h28b);have h28c:(decide (C3 out=0))=true:=(Ac h28b);refine wk ?_;intro a F;refine Be F M A0 1 ?_;clear F M a;intro w a M F;change Mem w0 Gq24 (.blk b25 [.slice ao out.length out.length] 54::.blk b4 [.slice ao out.length out.length] 54::_::_::_::((Co ao out.length cso::Lo)++(Rn++L))) _ at M;revert a;refine Eh rfl<|E4<|?_
    refine fun a F=>Bm F M (k:=1) rfl rfl A0 rfl rfl rfl rfl ?_
    exact ⟨_,_,((hGq22.trans hGq23).trans hGq24),M.weaken (cN (.cons _ (cN (.cons _ (cN (cC ((sR Lo).append (List.sublist_append_right Rn L)))))))),ao,cso,Lo,by rw [Nd hck hins (by omega) hxe (by omega)],by rw [Nd hck hins (by omega) hxe (by omega)],by rw [Nd hck hins (by omega) hxe (by omega)];exact Eo⟩
   refine A1 ?_ rfl ?_
   ·skip
    revert a;refine Bv M A0 rfl rfl<|?_;clear M;intro b29 w M
    refine Ao<|?_
    refine eK (C':=Keep Gq23 [.blk b4 [.slice none 0 0] 54,.blk b3 [.bool ins,.int .i64 cnt,.slice ta xs.length tc,kv,mv] 207,.blk b2 [.slice a1 l.length c1] 54,.blk b1 [.slice kca c.kinds.length kcc,.int .i64 c.cap] 51]) (Aw M) (fun w h=>h.mono (Gle.refl _) (by simp))<|fun a F=>A1 ?_ rfl Bk
    refine Cq F Zf rfl rfl (O6 M Sq23 (hol hins) (hmk hins hxe)) ?_;clear F M a;rintro _ Gq31 _ w a hGq31 M ⟨ao,cso,Lo,rfl,rfl,Eo⟩ F;replace SC:=SC.mono Am hGq31;replace S:=S.mono Ad hGq31;replace T:=T.mono Ah hGq31;replace Sq22:=Sq22.mono Ad hGq31;replace Sq23:=Sq23.mono Ad hGq31;have M:=M.perm (Bj (Co ao out.length cso::Lo) [.blk b29 [.slice none 0 0] 54,.blk b4 [.slice none 0 0] 54,.blk b3 [.bool ins,.int .i64 cnt,.slice ta xs.length tc,kv,mv] 207,.blk b2 [.slice a1 l.length c1] 54,.blk b1 [.slice kca c.kinds.length kcc,.int .i64 c.cap] 51] (Rn++L));replace M:=z_M M;revert a;refine Ao<|?_
    refine eK (C':=Keep Gq31 [.blk b4 [.slice none 0 0] 54,.blk b3 [.bool ins,.int .i64 cnt,.slice ta xs.length tc,kv,mv] 207,.blk b2 [.slice a1 l.length c1] 54,.blk b1 [.slice kca c.kinds.length kcc,.int .i64 c.cap] 51]) (Aw M) (fun w h=>h.mono hGq31 (by simp))<|fun a F=>A1 ?_ rfl Bk
    refine Be F M A0 0 ?_;clear F M a;intro w a M F;replace M:=z_M M;revert a;refine Ao<|?_
    refine eK (C':=Keep Gq31 [.blk b4 [.slice none 0 0] 54,.blk b3 [.bool ins,.int .i64 cnt,.slice ta xs.length tc,kv,mv] 207,.blk b2 [.slice a1 l.length c1] 54,.blk b1 [.slice kca c.kinds.length kcc,.int .i64 c.cap] 51]) (Aw M) (fun w h=>h.mono (Gle.refl _) (by simp))<|?_
    refine wk ?_;have M:=M.perm (Bj [.blk b29 [.slice ao out.length out.length] 54,.blk b4 [.slice none 0 0] 54,.blk b3 [.bool ins,.int .i64 cnt,.slice ta xs.length tc,kv,mv] 207,.blk b2 [.slice a1 l.length c1] 54,.blk b1 [.slice kca c.kinds.length kcc,.int .i64 c.cap] 51] (Co ao out.length cso::Lo) (Rn++L));refine A2 Up rfl rfl (O7 M Eo)<|?_;clear M;rintro _ w M rfl
    have M:=M.perm (Bj (Co ao out.length cso::Lo) [.blk b29 [.slice ao out.length out.length] 54,.blk b4 [.slice none 0 0] 54,.blk b3 [.bool ins,.int .i64 cnt,.slice ta xs.length tc,kv,mv] 207,.blk b2 [.slice a1 l.length c1] 54,.blk b1 [.slice kca c.kinds.length kcc,.int .i64 c.cap] 51] (Rn++L));replace M:=z_M M;refine wk ?_;refine Ae rfl ?_ ?_
    ·intro h32b;have h32:=dF (Ab h32b);have h32c:(decide (C3 out=0))=false:=(Ab h32b);refine Bo<|?_
     refine Aq (fun a F=>Ai (cs:=[.slice none 0 0]) (ps:=[]) A0.k rfl A0 (F.evp rfl) rfl) rfl<|?_
     refine Cl rfl<|?_
     intro a F;refine Be F M A0 1 ?_;clear F M a;intro w a M F;change Mem w0 Gq31 (.blk b29 [.slice ao out.length out.length] 54::.blk b4 [.slice none 0 0] 54::_::_::_::((Co ao out.length cso::Lo)++(Rn++L))) _ at M;revert a;refine Eh rfl<|E4<|Fp<|?_
     refine fun a F=>Bm F M (k:=1) rfl rfl A0 rfl rfl rfl rfl ?_
     exact Fl (Alh hck hins (by omega) hxe (by omega)) ((hGq22.trans hGq23).trans hGq31) (M.weaken (cN (.cons _ (cN (.cons _ (cN ((List.sublist_append_right _ _).trans (List.sublist_append_right _ _))))))))
    intro h33b;have h33:=dT (Ac h33b);have h33c:(decide (C3 out=0))=true:=(Ac h33b);refine wk ?_;intro a F;refine Be F M A0 1 ?_;clear F M a;intro w a M F;change Mem w0 Gq31 (.blk b29 [.slice ao out.length out.length] 54::.blk b4 [.slice ao out.length out.length] 54::_::_::_::((Co ao out.length cso::Lo)++(Rn++L))) _ at M;revert a;refine Eh rfl<|E4<|?_
    refine fun a F=>Bm F M (k:=1) rfl rfl A0 rfl rfl rfl rfl ?_
    exact ⟨_,_,((hGq22.trans hGq23).trans hGq31),M.weaken (cN (.cons _ (cN (.cons _ (cN (cC ((sR Lo).append (List.sublist_append_right Rn L)))))))),ao,cso,Lo,by rw [Nd hck hins (by omega) hxe (by omega)],by rw [Nd hck hins (by omega) hxe (by omega)],by rw [Nd hck hins (by omega) hxe (by omega)];exact Eo⟩
   exact Bk
  refine A1 ?_ rfl ?_
  ·skip
   revert a;refine Bv M A0 rfl rfl<|?_;clear M;intro b34 w M
   refine Ao<|?_
   refine eK (C':=Keep Gq22 [.blk b4 [.slice none 0 0] 54,.blk b3 [.bool ins,.int .i64 cnt,.slice ta xs.length tc,kv,mv] 207,.blk b2 [.slice a1 l.length c1] 54,.blk b1 [.slice kca c.kinds.length kcc,.int .i64 c.cap] 51]) (Aw M) (fun w h=>h.mono (Gle.refl _) (by simp))<|fun a F=>A1 ?_ rfl Bk
   rw [hmv] at F;refine Qc F hEm (caps:=mc) rfl rfl rfl (hMc _ _ _ _ _ hGq22 M Sq22) ?_;clear F M a;rintro _ Gq36 w a hGq36 M ⟨aq36,cq36,rfl,Sq36⟩ F;replace SC:=SC.mono Am hGq36;replace S:=S.mono Ad hGq36;replace T:=T.mono Ah hGq36;replace Sq22:=Sq22.mono Ad hGq36;revert a;refine Ao<|?_
   refine eK (C':=Keep Gq36 [.blk b4 [.slice none 0 0] 54,.blk b3 [.bool ins,.int .i64 cnt,.slice ta xs.length tc,kv,mv] 207,.blk b2 [.slice a1 l.length c1] 54,.blk b1 [.slice kca c.kinds.length kcc,.int .i64 c.cap] 51]) (Aw M) (fun w h=>h.mono hGq36 (by simp))<|fun a F=>A1 ?_ rfl Bk
   refine Cq F Zf rfl rfl (O6 M Sq36 (hol hins) (hmk hins hxe)) ?_;clear F M a;rintro _ Gq37 _ w a hGq37 M ⟨ao,cso,Lo,rfl,rfl,Eo⟩ F;replace SC:=SC.mono Am hGq37;replace S:=S.mono Ad hGq37;replace T:=T.mono Ah hGq37;replace Sq22:=Sq22.mono Ad hGq37;replace Sq36:=Sq36.mono Ad hGq37;have M:=M.perm (Bj (Co ao out.length cso::Lo) [.blk b34 [.slice none 0 0] 54,.blk b4 [.slice none 0 0] 54,.blk b3 [.bool ins,.int .i64 cnt,.slice ta xs.length tc,kv,mv] 207,.blk b2 [.slice a1 l.length c1] 54,.blk b1 [.slice kca c.kinds.length kcc,.int .i64 c.cap] 51] (Rn++L));replace M:=z_M M;revert a;refine Ao<|?_
   refine eK (C':=Keep Gq37 [.blk b4 [.slice none 0 0] 54,.blk b3 [.bool ins,.int .i64 cnt,.slice ta xs.length tc,kv,mv] 207,.blk b2 [.slice a1 l.length c1] 54,.blk b1 [.slice kca c.kinds.length kcc,.int .i64 c.cap] 51]) (Aw M) (fun w h=>h.mono hGq37 (by simp))<|fun a F=>A1 ?_ rfl Bk
   refine Be F M A0 0 ?_;clear F M a;intro w a M F;replace M:=z_M M;revert a;refine Ao<|?_
   refine eK (C':=Keep Gq37 [.blk b4 [.slice none 0 0] 54,.blk b3 [.bool ins,.int .i64 cnt,.slice ta xs.length tc,kv,mv] 207,.blk b2 [.slice a1 l.length c1] 54,.blk b1 [.slice kca c.kinds.length kcc,.int .i64 c.cap] 51]) (Aw M) (fun w h=>h.mono (Gle.refl _) (by simp))<|?_
   refine wk ?_;have M:=M.perm (Bj [.blk b34 [.slice ao out.length out.length] 54,.blk b4 [.slice none 0 0] 54,.blk b3 [.bool ins,.int .i64 cnt,.slice ta xs.length tc,kv,mv] 207,.blk b2 [.slice a1 l.length c1] 54,.blk b1 [.slice kca c.kinds.length kcc,.int .i64 c.cap] 51] (Co ao out.length cso::Lo) (Rn++L));refine A2 Up rfl rfl (O7 M Eo)<|?_;clear M;rintro _ w M rfl
   have M:=M.perm (Bj (Co ao out.length cso::Lo) [.blk b34 [.slice ao out.length out.length] 54,.blk b4 [.slice none 0 0] 54,.blk b3 [.bool ins,.int .i64 cnt,.slice ta xs.length tc,kv,mv] 207,.blk b2 [.slice a1 l.length c1] 54,.blk b1 [.slice kca c.kinds.length kcc,.int .i64 c.cap] 51] (Rn++L));replace M:=z_M M;refine wk ?_;refine Ae rfl ?_ ?_
   ·intro h38b;have h38:=dF (Ab h38b);have h38c:(decide (C3 out=0))=false:=(Ab h38b);refine Bo<|?_
    refine Aq (fun a F=>Ai (cs:=[.slice none 0 0]) (ps:=[]) A0.k rfl A0 (F.evp rfl) rfl) rfl<|?_
    refine Cl rfl<|?_
    intro a F;refine Be F M A0 1 ?_;clear F M a;intro w a M F;change Mem w0 Gq37 (.blk b34 [.slice ao out.length out.length] 54::.blk b4 [.slice none 0 0] 54::_::_::_::((Co ao out.length cso::Lo)++(Rn++L))) _ at M;revert a;refine Eh rfl<|E4<|Fp<|?_
    refine fun a F=>Bm F M (k:=1) rfl rfl A0 rfl rfl rfl rfl ?_
    exact Fl (Alh hck hins (by omega) hxe (by omega)) ((hGq22.trans hGq36).trans hGq37) (M.weaken (cN (.cons _ (cN (.cons _ (cN ((List.sublist_append_right _ _).trans (List.sublist_append_right _ _))))))))
   intro h39b;have h39:=dT (Ac h39b);have h39c:(decide (C3 out=0))=true:=(Ac h39b);refine wk ?_;intro a F;refine Be F M A0 1 ?_;clear F M a;intro w a M F;change Mem w0 Gq37 (.blk b34 [.slice ao out.length out.length] 54::.blk b4 [.slice ao out.length out.length] 54::_::_::_::((Co ao out.length cso::Lo)++(Rn++L))) _ at M;revert a;refine Eh rfl<|E4<|?_
   refine fun a F=>Bm F M (k:=1) rfl rfl A0 rfl rfl rfl rfl ?_
   exact ⟨_,_,((hGq22.trans hGq36).trans hGq37),M.weaken (cN (.cons _ (cN (.cons _ (cN (cC ((sR Lo).append (List.sublist_append_right Rn L)))))))),ao,cso,Lo,by rw [Nd hck hins (by omega) hxe (by omega)],by rw [Nd hck hins (by omega) hxe (by omega)],by rw [Nd hck hins (by omega) hxe (by omega)];exact Eo⟩
  exact Bk
 refine A1 ?_ rfl ?_
 ·skip
  revert a;refine Bv M A0 rfl rfl<|?_;clear M;intro b40 w M
  refine Ao<|?_
  refine eK (C':=Keep G [.blk b4 [.slice none 0 0] 54,.blk b3 [.bool ins,.int .i64 cnt,.slice ta xs.length tc,kv,mv] 207,.blk b2 [.slice a1 l.length c1] 54,.blk b1 [.slice kca c.kinds.length kcc,.int .i64 c.cap] 51]) (Aw M) (fun w h=>h.mono (Gle.refl _) (by simp))<|fun a F=>A1 ?_ rfl Bk
  revert a;refine E7 Aru rfl rfl (Ui (c:=c) (xs:=xs) M SC T (by omega) hxo)<|?_;clear M;rintro _ Gq42 w hGq42 M ⟨aq42,cq42,rfl,Sq42⟩
  replace SC:=SC.mono Am hGq42;replace S:=S.mono Ad hGq42;replace T:=T.mono Ah hGq42;refine Ao<|?_
  refine eK (C':=Keep Gq42 [.blk b4 [.slice none 0 0] 54,.blk b3 [.bool ins,.int .i64 cnt,.slice ta xs.length tc,kv,mv] 207,.blk b2 [.slice a1 l.length c1] 54,.blk b1 [.slice kca c.kinds.length kcc,.int .i64 c.cap] 51]) (Aw M) (fun w h=>h.mono hGq42 (by simp))<|fun a F=>A1 ?_ rfl Bk
  rw [hmv] at F;refine Qc F hEm (caps:=mc) rfl rfl rfl (hMc _ _ _ _ _ hGq42 M Sq42) ?_;clear F M a;rintro _ Gq43 w a hGq43 M ⟨aq43,cq43,rfl,Sq43⟩ F;replace SC:=SC.mono Am hGq43;replace S:=S.mono Ad hGq43;replace T:=T.mono Ah hGq43;replace Sq42:=Sq42.mono Ad hGq43;revert a;refine Ao<|?_
  refine eK (C':=Keep Gq43 [.blk b4 [.slice none 0 0] 54,.blk b3 [.bool ins,.int .i64 cnt,.slice ta xs.length tc,kv,mv] 207,.blk b2 [.slice a1 l.length c1] 54,.blk b1 [.slice kca c.kinds.length kcc,.int .i64 c.cap] 51]) (Aw M) (fun w h=>h.mono hGq43 (by simp))<|fun a F=>A1 ?_ rfl Bk
  refine Cq F Zf rfl rfl (O6 M Sq43 (hol hins) (hmk hins hxe)) ?_;clear F M a;rintro _ Gq44 _ w a hGq44 M ⟨ao,cso,Lo,rfl,rfl,Eo⟩ F;replace SC:=SC.mono Am hGq44;replace S:=S.mono Ad hGq44;replace T:=T.mono Ah hGq44;replace Sq42:=Sq42.mono Ad hGq44;replace Sq43:=Sq43.mono Ad hGq44;have M:=M.perm (Bj (Co ao out.length cso::Lo) [.blk b40 [.slice none 0 0] 54,.blk b4 [.slice none 0 0] 54,.blk b3 [.bool ins,.int .i64 cnt,.slice ta xs.length tc,kv,mv] 207,.blk b2 [.slice a1 l.length c1] 54,.blk b1 [.slice kca c.kinds.length kcc,.int .i64 c.cap] 51] (Rn++L));replace M:=z_M M;revert a;refine Ao<|?_
  refine eK (C':=Keep Gq44 [.blk b4 [.slice none 0 0] 54,.blk b3 [.bool ins,.int .i64 cnt,.slice ta xs.length tc,kv,mv] 207,.blk b2 [.slice a1 l.length c1] 54,.blk b1 [.slice kca c.kinds.length kcc,.int .i64 c.cap] 51]) (Aw M) (fun w h=>h.mono hGq44 (by simp))<|fun a F=>A1 ?_ rfl Bk
  refine Be F M A0 0 ?_;clear F M a;intro w a M F;replace M:=z_M M;revert a;refine Ao<|?_
  refine eK (C':=Keep Gq44 [.blk b4 [.slice none 0 0] 54,.blk b3 [.bool ins,.int .i64 cnt,.slice ta xs.length tc,kv,mv] 207,.blk b2 [.slice a1 l.length c1] 54,.blk b1 [.slice kca c.kinds.length kcc,.int .i64 c.cap] 51]) (Aw M) (fun w h=>h.mono (Gle.refl _) (by simp))<|?_
  refine wk ?_;have M:=M.perm (Bj [.blk b40 [.slice ao out.length out.length] 54,.blk b4 [.slice none 0 0] 54,.blk b3 [.bool ins,.int .i64 cnt,.slice ta xs.length tc,kv,mv] 207,.blk b2 [.slice a1 l.length c1] 54,.blk b1 [.slice kca c.kinds.length kcc,.int .i64 c.cap] 51] (Co ao out.length cso::Lo) (Rn++L));refine A2 Up rfl rfl (O7 M Eo)<|?_;clear M;rintro _ w M rfl
  have M:=M.perm (Bj (Co ao out.length cso::Lo) [.blk b40 [.slice ao out.length out.length] 54,.blk b4 [.slice none 0 0] 54,.blk b3 [.bool ins,.int .i64 cnt,.slice ta xs.length tc,kv,mv] 207,.blk b2 [.slice a1 l.length c1] 54,.blk b1 [.slice kca c.kinds.length kcc,.int .i64 c.cap] 51] (Rn++L));replace M:=z_M M;refine wk ?_;refine Ae rfl ?_ ?_
  ·intro h45b;have h45:=dF (Ab h45b);have h45c:(decide (C3 out=0))=false:=(Ab h45b);refine Bo<|?_
   refine Aq (fun a F=>Ai (cs:=[.slice none 0 0]) (ps:=[]) A0.k rfl A0 (F.evp rfl) rfl) rfl<|?_
   refine Cl rfl<|?_
   intro a F;refine Be F M A0 1 ?_;clear F M a;intro w a M F;change Mem w0 Gq44 (.blk b40 [.slice ao out.length out.length] 54::.blk b4 [.slice none 0 0] 54::_::_::_::((Co ao out.length cso::Lo)++(Rn++L))) _ at M;revert a;refine Eh rfl<|E4<|Fp<|?_
   refine fun a F=>Bm F M (k:=1) rfl rfl A0 rfl rfl rfl rfl ?_
   exact Fl (Alh hck hins (by omega) hxe (by omega)) ((hGq42.trans hGq43).trans hGq44) (M.weaken (cN (.cons _ (cN (.cons _ (cN ((List.sublist_append_right _ _).trans (List.sublist_append_right _ _))))))))
  intro h46b;have h46:=dT (Ac h46b);have h46c:(decide (C3 out=0))=true:=(Ac h46b);refine wk ?_;intro a F;refine Be F M A0 1 ?_;clear F M a;intro w a M F;change Mem w0 Gq44 (.blk b40 [.slice ao out.length out.length] 54::.blk b4 [.slice ao out.length out.length] 54::_::_::_::((Co ao out.length cso::Lo)++(Rn++L))) _ at M;revert a;refine Eh rfl<|E4<|?_
  refine fun a F=>Bm F M (k:=1) rfl rfl A0 rfl rfl rfl rfl ?_
  exact ⟨_,_,((hGq42.trans hGq43).trans hGq44),M.weaken (cN (.cons _ (cN (.cons _ (cN (cC ((sR Lo).append (List.sublist_append_right Rn L)))))))),ao,cso,Lo,by rw [Nd hck hins (by omega) hxe (by omega)],by rw [Nd hck hins (by omega) hxe (by omega)],by rw [Nd hck hins (by omega) hxe (by omega)];exact Eo⟩
 exact Bk
set_option maxHeartbeats 1600000
open Classical in
noncomputable def Sy (l:List EntD) (xs:List ItemD) (i:Nat):Int:=match xs[i]? with
 | some x=>if Ct l x.key∨Jd (xs.take i) x.key then 8 else 0
 | none=>0
theorem X1 {l:List EntD} {xs:List ItemD} {i:Nat} {x:ItemD} (h:xs[i]?=some x) [Decidable (Ct l x.key∨Jd (xs.take i) x.key)]:Sy l xs i=if Ct l x.key∨Jd (xs.take i) x.key then 8 else 0:=by
 unfold Sy;rw [h]
 by_cases hp:Ct l x.key∨Jd (xs.take i) x.key
 ·simp only [hp,if_true]
 simp only [hp,if_false]
theorem in_inc {c:RulesD} {l:List EntD} {xs:List ItemD} (hc:Cu c) (i:Nat):J5 c xs (Sy l xs) i=Nq c l xs i:=by
 classical
 cases hx:xs[i]? with
 | none=>unfold J5 Nq;rw [hx]
 | some x =>
  rw [Uf hx,N8 hx,X1 hx]
  by_cases h1:ItemOk (c.kinds.length:Int) x
  ·by_cases h2:Ct l x.key∨Jd (xs.take i) x.key
   ·rw [if_pos h2,Sb h1 h2,Aqo h1 (by decide)]
   ·rw [if_neg h2,Ahw h1 rfl]
    rcases Aeo hc h1 with h3 | h3
    ·rw [Jv h1 h2 h3,h3]
    ·rw [Jb h1 h2 (by omega),h3]
  ·rw [Ahx h1,Ph h1]
theorem R5 (l:List EntD):C3 l=0∨C3 l=13:=by unfold C3;split <;> simp
theorem Aqk {c:RulesD} {l:List EntD} {z:Int} {xs:List ItemD} (h:A4 c l=0) :
  doR (A4 c l) (decide (Au z 0 l.length)) (((l.length+xs.length:Nat)):Int) (J5 c xs (Sy l xs)) xs.length (Cd l z.toNat 0 (xs.map (Bh c)))=F3 c l z xs:=by
 have hf:Bg (J5 c xs (Sy l xs)) xs.length=Lf c l xs:=K2 fun i _=>in_inc (Dm h).1 i
 by_cases h1:Au z 0 l.length
 ·have d1:decide (Au z 0 l.length)=true:=decide_eq_true h1
  by_cases h2:1024 < l.length+xs.length
  ·rw [Ahu h1 h2,do_3 h d1 (by omega)]
  by_cases h3:Lf c l xs=0
  ·rcases R5 (Cd l z.toNat 0 (xs.map (Bh c))) with h4 | h4
   ·rw [Wx h1 h2 h3 h4,Nd h d1 (by omega) (by rw [hf,h3]) h4]
   rw [Y9 h1 h2 h3 (by omega),Alh h d1 (by omega) (by rw [hf,h3]) (by omega),h4]
  rw [Aht h1 h2 h3];unfold doR;rw [if_neg (not_not_intro h),if_neg (by rw [d1];decide),if_neg (by omega),if_pos (by rw [hf];exact h3),hf]
 rw [Ww h1,Aun h (decide_eq_false h1)]
theorem Sr (l:List EntD) (p n:Nat) (fr:List EntD):Gd (Cd l p n fr)=Gd (l.take p)+Gd fr+Gd (l.drop (p+n)):=by unfold Cd;rw [Hc,Hc]
theorem Z1 (l:List EntD) (p n:Nat):Gd l=Gd (l.take p)+Gd ((l.drop p).take n)+Gd (l.drop (p+n)):=by
 have h1:=Hc (l.take p) (l.drop p);have h2:=Hc ((l.drop p).take n) ((l.drop p).drop n);rw [List.take_append_drop] at h1 h2;rw [List.drop_drop] at h2
 omega
theorem Aam {l:List EntD} {p n:Nat} (h:C3 l=0):C3 (Cd l p n [])=0:=by
 rw [Qe] at h ⊢;have h1:=Sr l p n [];have h2:=Z1 l p n;have h3:=Mn ((l.drop p).take n);have h4:Gd []=0:=rfl
 omega
theorem Aan {l:List EntD} {p n q:Nat} (h:C3 l=0):C3 (O9 l p n q)=0:=by
 rw [Qe] at h ⊢;unfold O9;have h1:=Sr l p n [];have h2:=Z1 l p n;have h3:=Sr (Cd l p n []) q 0 ((l.drop p).take n);have h4:=Hc ((Cd l p n []).take q) ((Cd l p n []).drop q);rw [List.take_append_drop] at h4;have h5:Gd []=0:=rfl;rw [Nat.add_zero] at h3
 omega
theorem rem_do {c:RulesD} {l:List EntD} {z n:Int} {fK:Nat→Int} (h:A4 c l=0):doR (A4 c l) (decide (Au z n l.length)) 0 (J5 c [] fK) 0 (Cd l z.toNat n.toNat [])=Ku l z n:=by
 by_cases h1:Au z n l.length
 ·rw [V3 h1,Nd h (decide_eq_true h1) (by decide) rfl (Aam (Dm h).2.2.2)]
 rw [Agr h1,Aun h (decide_eq_false h1)]
theorem mov_do {c:RulesD} {l:List EntD} {z n b:Int} {fK:Nat→Int} {ins:Bool} (h:A4 c l=0) (hi:ins=true↔Au z n l.length∧Au b 0 (l.length - n)):doR (A4 c l) ins 0 (J5 c [] fK) 0 (O9 l z.toNat n.toNat b.toNat)=Hf l z n b:=by
 by_cases h1:Au z n l.length∧Au b 0 (l.length - n)
 ·rw [Ahg h1,Nd h (hi.2 h1) (by decide) rfl (Aan (Dm h).2.2.2)]
 rw [Ahf h1,Aun h (by cases ins with | true=>exact absurd (hi.1 rfl) h1 | false=>rfl)]
def Ts (l:List EntD) (p:Nat) (xs:List ItemD) (i:Nat):Int:=match xs[i]?,l[p+i]? with
 | some x,some y=>if y.item.key=x.key then 0 else 9
 | _,_=>0
theorem V8 {l:List EntD} {p:Nat} {xs:List ItemD} {i:Nat} {x:ItemD} {y:EntD} (hx:xs[i]?=some x) (hy:l[p+i]?=some y):Ts l p xs i=if y.item.key=x.key then 0 else 9:=by unfold Ts;rw [hx,hy]
theorem in_chg {c:RulesD} {l:List EntD} {p:Nat} {xs:List ItemD} (hc:Cu c) (hp:p+xs.length≤l.length) (i:Nat):J5 c xs (Ts l p xs) i=H6 c l p xs i:=by
 cases hx:xs[i]? with
 | none=>unfold J5 H6;rw [hx]
 | some x =>
  have hi:=Az hx;obtain ⟨y,hy⟩:=Ak (xs:=l) (i:=p+i) (by omega);rw [Uf hx,Ux hx,V8 hx hy]
  by_cases h1:ItemOk (c.kinds.length:Int) x
  ·by_cases h2:y.item.key=x.key
   ·rw [if_pos h2,Ahw h1 rfl];have h5:¬ N2 l (p+i) x.key:=fun h=>(H2 hy).1 h h2
    rcases Aeo hc h1 with h3 | h3
    ·rw [Auw h1 h5 h3,h3]
    ·rw [Zk h1 h5 (by omega),h3]
   ·rw [if_neg h2,Aqo h1 (by decide),Agf h1 ((H2 hy).2 h2)]
  ·rw [Ahx h1,Agg h1]
theorem chg_do {c:RulesD} {l:List EntD} {z:Int} {xs:List ItemD} (h:A4 c l=0) :
  doR (A4 c l) (decide (Au z xs.length l.length)) 0 (J5 c xs (Ts l z.toNat xs)) xs.length (Cd l z.toNat xs.length (xs.map (Bh c)))=Ic c l z xs:=by
 by_cases h1:Au z xs.length l.length
 ·have d1:decide (Au z xs.length l.length)=true:=decide_eq_true h1;have h1':=h1;unfold Au at h1';have hf:Bg (J5 c xs (Ts l z.toNat xs)) xs.length=Bg (H6 c l z.toNat xs) xs.length:=K2 fun i _=>in_chg (Dm h).1 (by omega) i
  by_cases h3:Bg (H6 c l z.toNat xs) xs.length=0
  ·rcases R5 (Cd l z.toNat xs.length (xs.map (Bh c))) with h4 | h4
   ·rw [Aip h1 h3 h4,Nd h d1 (by decide) (by rw [hf,h3]) h4]
   rw [Zj h1 h3 (by omega),Alh h d1 (by decide) (by rw [hf,h3]) (by omega),h4]
  unfold doR Ic;rw [if_neg (not_not_intro h),if_neg (by rw [d1];decide),if_neg (by decide),if_pos (by rw [hf];exact h3),hf,if_neg (not_not_intro h1),if_pos h3]
 rw [Aio h1,Aun h (decide_eq_false h1)]
theorem Abc {c:RulesD} {x:ItemD} (h:ItemOk (c.kinds.length:Int) x):x.marks.length≤1000000:=by have:=h.2.2.2.1;omega
theorem R8 {l:List EntD} {p n:Nat} {fr:List EntD} {x:EntD} (h:x∈Cd l p n fr):x∈l∨x∈fr:=by
 unfold Cd at h
 rcases List.mem_append.1 h with h | h
 ·rcases List.mem_append.1 h with h | h
  ·exact Or.inl (List.mem_of_mem_take h)
  exact Or.inr h
 exact Or.inl (List.mem_of_mem_drop h)
theorem Apm {c:RulesD} {l:List EntD} {p n:Nat} {xs:List ItemD} (h:A4 c l=0) (hx:∀ x∈xs,ItemOk (c.kinds.length:Int) x):∀ x∈Cd l p n (xs.map (Bh c)),x.item.marks.length≤1000000:=by
 intro x hm
 rcases R8 hm with hm | hm
 ·exact Abc (K6 h x hm)
 obtain ⟨y,hy,rfl⟩:=List.mem_map.1 hm
 exact Abc (hx y hy)
theorem Apl {c:RulesD} {l:List EntD} {p n:Nat} (h:A4 c l=0):∀ x∈Cd l p n [],x.item.marks.length≤1000000:=by
 intro x hm
 rcases R8 hm with hm | hm
 ·exact Abc (K6 h x hm)
 simp at hm
theorem mk_mov {c:RulesD} {l:List EntD} {p n q:Nat} (h:A4 c l=0):∀ x∈O9 l p n q,x.item.marks.length≤1000000:=by
 intro x hm;unfold O9 at hm
 rcases R8 hm with hm | hm
 ·exact Apl h x hm
 exact Abc (K6 h x (List.mem_of_mem_drop (List.mem_of_mem_take hm)))
def Agn (l:List EntD) (xs:List ItemD) (b mb:Nat) (i:Nat) (R:List Res):Prop:=∃ (es:Array MapEntry) (cl:Nat) (ks:List Nat),R=[.blk b [.map (some mb)] 185,.obj mb (.map es cl)]∧Ik es ks∧∀ q,q∈ks↔Ct l q∨Jd (xs.take i) q
theorem Z6 {w0:World} {G0:Ap} {l:List EntD} {xs:List ItemD} {b mb:Nat}:KeyC w0 G0 168 [.pointer (some ⟨b,0,none⟩)] xs (Sy l xs) (Agn l xs b mb):=by
 classical
 intro G L R w i x ma mc hG hx hR M hI SM;obtain ⟨es,cl,ks,rfl,Es,hks⟩:=hR;refine (Xq M Es hI SM (i:=(i:Int))).mono ?_;rintro e w' h
 cases e with
 | returned v =>
  obtain ⟨L',M',es',cl',rfl,rfl,h3⟩:=h;refine ⟨_,M',[.blk b [.map (some mb)] 185,.obj mb (.map es' cl')],by rw [X1 hx];by_cases h4:x.key∈ks;(rw [if_pos h4,if_pos ((hks _).1 h4)]);(rw [if_neg h4,if_neg (fun h5=>h4 ((hks _).2 h5))]),rfl,fun h4=>?_⟩;have h5:¬ x.key∈ks:=fun h6=>by rw [X1 hx,if_pos ((hks _).1 h6)] at h4;cases h4
  refine ⟨es',cl',x.key::ks,rfl,h3 h5,fun q=>?_⟩;rw [List.mem_cons,hks q,List.take_add_one,hx]
  constructor
  ·rintro (rfl | h6 | ⟨y,h6,h7⟩)
   ·exact Or.inr ⟨x,by simp,rfl⟩
   ·exact Or.inl h6
   ·exact Or.inr ⟨y,by simp [h6],h7⟩
  ·rintro (h6 | ⟨y,h6,h7⟩)
   ·exact Or.inr (Or.inl h6)
   ·simp only [Option.toList_some,List.mem_append,List.mem_singleton] at h6
    rcases h6 with h6 | rfl
    ·exact Or.inr (Or.inr ⟨y,h6,h7⟩)
    ·exact Or.inl h7.symm
 | panicked c=>exact h.elim
 | outgrown=>exact h.elim
theorem Sw {l:List EntD} {xs:List ItemD} {b mb:Nat} {es:Array MapEntry} {cl:Nat} {ks:List Nat} (Es:Ik es ks) (hks:∀ q,q∈ks↔Ct l q):Agn l xs b mb 0 [.blk b [.map (some mb)] 185,.obj mb (.map es cl)] :=
 ⟨es,cl,ks,rfl,Es,fun q=>by rw [hks q];exact ⟨Or.inl,fun h=>by rcases h with h | ⟨y,hy,_⟩;exact h;simp at hy⟩⟩
theorem Aql {w0 w:World} {G:Ap} {L:List Res} {c:RulesD} {kca:Option Addr} {kcc:Nat} (SC:Ag B8 9 G (.slice kca c.kinds.length kcc) c.kinds) {a1:Option Addr} {c1:Nat} {l:List EntD} (S:Ag Bc 6 G (.slice a1 l.length c1) l) (hck:A4 c l=0) {ta:Option Addr} {tc:Nat} {xs:List ItemD} (T:Ag Bt 4 G (.slice ta xs.length tc) xs) {z:Int} {b mb b5 b6:Nat} {es:Array MapEntry} {cl:Nat} {ks:List Nat} (M:Mem w0 G (.blk b [.map (some mb)] 185::.obj mb (.map es cl)::L) w) (Es:Ik es ks) (hks:∀ q,q∈ks↔Ct l q)
  (A5:At G b5 0 [.slice a1 l.length c1]) (A6:At G b6 0 [.int .i64 z]) (hN:xs.length≤900000) :
  Calls Tryz.prog 116 #[.agg #[.slice kca c.kinds.length kcc,.int .i64 c.cap],.agg #[.slice a1 l.length c1],.agg #[.bool (decide (Au z 0 l.length)),.int .i64 ((l.length+xs.length:Nat):Int),.slice ta xs.length tc,.func (.func 168) #[] #[.pointer (some ⟨b,0,none⟩)],.func (.func 161) #[] #[.pointer (some ⟨b5,0,none⟩),.pointer (some ⟨b6,0,none⟩)]]] w (Hn w0 G (Jj L (F3 c l z xs))):=by
 have hl2:=(Dm hck).2.1;rw [← Aqk hck];refine Pn (R:=[.blk b [.map (some mb)] 185,.obj mb (.map es cl)]) (Rk:=Agn l xs b mb) M SC S T hck (Sw Es hks) (by omega) (fun _=>Or.inr ⟨168,[.pointer (some ⟨b,0,none⟩)],rfl,Ars,Z6⟩) (fun hi _=>⟨161,[.pointer (some ⟨b5,0,none⟩),.pointer (some ⟨b6,0,none⟩)],rfl,ent161,?_⟩) (fun hi=>?_) (fun hi hx=>Apm hck (Ahv hx (Nat.le_refl _)))
 ·have hin:=dT hi;unfold Au at hin;obtain ⟨p,rfl⟩:=Int.eq_ofNat_of_zero_le hin.1.1;intro G2 L2 w2 a2 c2 hG M2 R2
  exact Ala M2 (S.mono Ad hG) (A5.mono hG) (A6.mono hG) R2 (by omega) (by omega) (by rw [List.length_map];omega)
 have hin:=dT hi;unfold Au at hin;rw [I8 (by omega),List.length_map];omega
theorem Aon {w0 w:World} {G:Ap} {L:List Res} {c:RulesD} {kca:Option Addr} {kcc:Nat} (SC:Ag B8 9 G (.slice kca c.kinds.length kcc) c.kinds) {a1:Option Addr} {c1:Nat} {l:List EntD} (S:Ag Bc 6 G (.slice a1 l.length c1) l) (hck:A4 c l=0) {z n:Int} {b5 b6 b7:Nat} (M:Mem w0 G L w) (A5:At G b5 0 [.slice a1 l.length c1]) (A6:At G b6 0 [.int .i64 z]) (A7:At G b7 0 [.int .i64 n]) :
  Calls Tryz.prog 116 #[.agg #[.slice kca c.kinds.length kcc,.int .i64 c.cap],.agg #[.slice a1 l.length c1],.agg #[.bool (decide (Au z n l.length)),.int .i64 0,.slice none 0 0,.nilFunc,.func (.func 118) #[] #[.pointer (some ⟨b5,0,none⟩),.pointer (some ⟨b6,0,none⟩),.pointer (some ⟨b7,0,none⟩)]]] w (Hn w0 G (Jj L (Ku l z n))):=by
 have hl2:=(Dm hck).2.1;rw [← rem_do (fK:=fun _=>0) hck];refine Pn (xs:=[]) (R:=[]) (Rk:=fun _ _=>True) M SC S Ag.nil hck trivial (by decide) (fun _=>Or.inl rfl) (fun hi _=>⟨118,[.pointer (some ⟨b5,0,none⟩),.pointer (some ⟨b6,0,none⟩),.pointer (some ⟨b7,0,none⟩)],rfl,ent118,?_⟩) (fun hi=>?_) (fun hi hx=>Apl hck)
 ·have hin:=dT hi;unfold Au at hin;obtain ⟨p,rfl⟩:=Int.eq_ofNat_of_zero_le hin.1.1;obtain ⟨m,rfl⟩:=Int.eq_ofNat_of_zero_le hin.2.1;intro G2 L2 w2 a2 c2 hG M2 R2
  exact Ajv M2 (S.mono Ad hG) (A5.mono hG) (A6.mono hG) (A7.mono hG) R2 (by omega) (by omega)
 have hin:=dT hi;unfold Au at hin;rw [Kf (by omega)];omega
theorem Aaz {w0 w:World} {G:Ap} {L:List Res} {c:RulesD} {kca:Option Addr} {kcc:Nat} (SC:Ag B8 9 G (.slice kca c.kinds.length kcc) c.kinds) {a1:Option Addr} {c1:Nat} {l:List EntD} (S:Ag Bc 6 G (.slice a1 l.length c1) l) (hck:A4 c l=0) {z n q:Int} {b5 b6 b7 b8:Nat} {ins:Bool} (hi:ins=true↔Au z n l.length∧Au q 0 (l.length - n)) (M:Mem w0 G L w) (A5:At G b5 0 [.slice a1 l.length c1]) (A6:At G b6 0 [.int .i64 z]) (A7:At G b7 0 [.int .i64 n]) (A8:At G b8 0 [.int .i64 q]) :
  Calls Tryz.prog 116 #[.agg #[.slice kca c.kinds.length kcc,.int .i64 c.cap],.agg #[.slice a1 l.length c1],.agg #[.bool ins,.int .i64 0,.slice none 0 0,.nilFunc,.func (.func 162) #[] #[.pointer (some ⟨b5,0,none⟩),.pointer (some ⟨b6,0,none⟩),.pointer (some ⟨b7,0,none⟩),.pointer (some ⟨b8,0,none⟩)]]] w (Hn w0 G (Jj L (Hf l z n q))):=by
 have hl2:=(Dm hck).2.1;rw [← mov_do (fK:=fun _=>0) hck hi];refine Pn (xs:=[]) (R:=[]) (Rk:=fun _ _=>True) M SC S Ag.nil hck trivial (by decide) (fun _=>Or.inl rfl) (fun h _=>⟨162,[.pointer (some ⟨b5,0,none⟩),.pointer (some ⟨b6,0,none⟩),.pointer (some ⟨b7,0,none⟩),.pointer (some ⟨b8,0,none⟩)],rfl,ent162,?_⟩) (fun h=>?_) (fun _ hx=>mk_mov hck)
 ·have hin:=hi.1 h;unfold Au at hin;obtain ⟨p,rfl⟩:=Int.eq_ofNat_of_zero_le hin.1.1.1;obtain ⟨m,rfl⟩:=Int.eq_ofNat_of_zero_le hin.1.2.1;obtain ⟨k,rfl⟩:=Int.eq_ofNat_of_zero_le hin.2.1.1;intro G2 L2 w2 a2 c2 hG M2 R2
  exact Akn M2 (S.mono Ad hG) (A5.mono hG) (A6.mono hG) (A7.mono hG) (A8.mono hG) R2 (by omega) (by omega) (by omega)
 have hin:=hi.1 h;unfold Au at hin;unfold O9;have h5:=Kf (l:=l) (p:=z.toNat) (n:=n.toNat) (by omega);rw [I8 (by omega),h5,List.length_take,List.length_drop];omega
theorem Auv {w0 w:World} {G:Ap} {L:List Res} {c:RulesD} {kca:Option Addr} {kcc:Nat} (SC:Ag B8 9 G (.slice kca c.kinds.length kcc) c.kinds) {a1:Option Addr} {c1:Nat} {l:List EntD} (S:Ag Bc 6 G (.slice a1 l.length c1) l) (hck:A4 c l=0) {ta:Option Addr} {tc:Nat} {xs:List ItemD} (T:Ag Bt 4 G (.slice ta xs.length tc) xs) {z:Int} {b5 b6 b9:Nat} (M:Mem w0 G L w) (A5:At G b5 0 [.slice a1 l.length c1]) (A6:At G b6 0 [.int .i64 z]) (A9:At G b9 0 [.slice ta xs.length tc]) (hN:xs.length≤900000) :
  Calls Tryz.prog 116 #[.agg #[.slice kca c.kinds.length kcc,.int .i64 c.cap],.agg #[.slice a1 l.length c1],.agg #[.bool (decide (Au z xs.length l.length)),.int .i64 0,.slice ta xs.length tc,.func (.func 163) #[] #[.pointer (some ⟨b5,0,none⟩),.pointer (some ⟨b6,0,none⟩)],.func (.func 164) #[] #[.pointer (some ⟨b5,0,none⟩),.pointer (some ⟨b6,0,none⟩),.pointer (some ⟨b9,0,none⟩)]]] w (Hn w0 G (Jj L (Ic c l z xs))):=by
 have hl2:=(Dm hck).2.1;rw [← chg_do hck];refine Pn (R:=[]) (Rk:=fun _ R=>R=[]) M SC S T hck rfl (by omega) (fun hi=>Or.inr ⟨163,[.pointer (some ⟨b5,0,none⟩),.pointer (some ⟨b6,0,none⟩)],rfl,ent163,?_⟩) (fun hi _=>⟨164,[.pointer (some ⟨b5,0,none⟩),.pointer (some ⟨b6,0,none⟩),.pointer (some ⟨b9,0,none⟩)],rfl,ent164,?_⟩) (fun hi=>?_) (fun hi hx=>Apm hck (Ahv hx (Nat.le_refl _)))
 ·have hin:=dT hi;unfold Au at hin;obtain ⟨p,rfl⟩:=Int.eq_ofNat_of_zero_le hin.1.1;intro G2 L2 R2 w2 i x ma mc hG hx hR M2 hI SM;subst hR;obtain ⟨y,hy⟩:=Ak (xs:=l) (i:=p+i) (by have:=Az hx;omega);refine (Alr M2 (S.mono Ad hG) (A5.mono hG) (A6.mono hG) hI SM hy (by omega)).mono ?_;rintro e w' h
  cases e with
  | returned v=>exact ⟨_,h.1,[],by rw [h.2,Int.toNat_natCast,V8 hx hy],rfl,fun _=>rfl⟩
  | panicked c=>exact h.elim
  | outgrown=>exact h.elim
 ·have hin:=dT hi;unfold Au at hin;obtain ⟨p,rfl⟩:=Int.eq_ofNat_of_zero_le hin.1.1;intro G2 L2 w2 a2 c2 hG M2 R2
  exact Alq M2 (S.mono Ad hG) (A5.mono hG) (A6.mono hG) (T.mono Ah hG) (A9.mono hG) R2 (by omega) (by omega) (by rw [List.length_map];omega)
 ·have hin:=dT hi;unfold Au at hin;rw [I8 (by omega),List.length_map];omega
theorem res_eq {c:RulesD} {xs:List ItemD} (l:List EntD) (h:A4 c l=0):doR (A4 c l) true ((xs.length:Nat):Int) (J5 c xs (Sy [] xs)) xs.length (xs.map (Bh c))=F3 c [] 0 xs:=by
 have hc:=(Dm h).1;have h9:A4 c []=0:=by rw [I3 hc (by decide) (i:=0) rfl (Nat.le_refl _)];rfl
 rw [← Aqk h9,h,h9,decide_eq_true (show Au 0 0 ([]:List EntD).length by decide)];have h1:Cd [] (0:Int).toNat 0 (xs.map (Bh c))=xs.map (Bh c):=by simp [Cd]
 rw [h1,show ([]:List EntD).length+xs.length=xs.length from Nat.zero_add _]
theorem Aol {w0 w:World} {G:Ap} {L:List Res} {c:RulesD} {kca:Option Addr} {kcc:Nat} (SC:Ag B8 9 G (.slice kca c.kinds.length kcc) c.kinds) {a1:Option Addr} {c1:Nat} {l:List EntD} (S:Ag Bc 6 G (.slice a1 l.length c1) l) (hck:A4 c l=0) {ta:Option Addr} {tc:Nat} {xs:List ItemD} (T:Ag Bt 4 G (.slice ta xs.length tc) xs) {b mb:Nat} {es:Array MapEntry} {cl:Nat} {ks:List Nat} (M:Mem w0 G (.blk b [.map (some mb)] 185::.obj mb (.map es cl)::L) w) (Es:Ik es ks) (hks:∀ q,q∈ks↔Ct [] q) (hN:xs.length≤900000) :
  Calls Tryz.prog 116 #[.agg #[.slice kca c.kinds.length kcc,.int .i64 c.cap],.agg #[.slice a1 l.length c1],.agg #[.bool true,.int .i64 ((xs.length:Nat):Int),.slice ta xs.length tc,.func (.func 168) #[] #[.pointer (some ⟨b,0,none⟩)],.func (.func 140) #[] #[]]] w (Hn w0 G (Jj L (F3 c [] 0 xs))):=by
 rw [← res_eq l hck];refine Pn (R:=[.blk b [.map (some mb)] 185,.obj mb (.map es cl)]) (Rk:=Agn [] xs b mb) M SC S T hck (Sw Es hks) (by omega) (fun _=>Or.inr ⟨168,[.pointer (some ⟨b,0,none⟩)],rfl,Ars,Z6⟩) (fun hi _=>⟨140,[],rfl,ent140,?_⟩) (fun hi=>?_) (fun hi hx=>?_)
 ·intro G2 L2 w2 a2 c2 hG M2 R2
  exact Ajs M2 R2
 ·rw [List.length_map];omega
 intro x hm;obtain ⟨y,hy,rfl⟩:=List.mem_map.1 hm
 exact Abc (Ahv hx (Nat.le_refl _) y hy)
variable {w0 w:World} {G:Ap} {L:List Res}
set_option maxHeartbeats 1600000
theorem M8 {c:RulesD} (h:Cu c):A4 c []=0:=by
 rw [I3 h (by decide) (i:=0) rfl (Nat.le_refl _)];rfl
theorem Y0 (M:Mem w0 G L w) {c:RulesD} {kca:Option Addr} {kcc:Nat} (SC:Ag B8 9 G (.slice kca c.kinds.length kcc) c.kinds) {a1:Option Addr} {c1:Nat} {l:List EntD} (S:Ag Bc 6 G (.slice a1 l.length c1) l) (hck:A4 c l=0) {z:Int} {ta:Option Addr} {tc:Nat} {xs:List ItemD} (T:Ag Bt 4 G (.slice ta xs.length tc) xs) (hN:xs.length≤900000):Calls Tryz.prog 123 #[.agg #[.slice kca c.kinds.length kcc,.int .i64 c.cap],.agg #[.slice a1 l.length c1],.int .i64 z,.slice ta xs.length tc] w (Hn w0 G (Jj L (F3 c l z xs))):=by
 have bS:=S.bound;have bT:=T.bound;refine Aj (vs:=[_,_,_,_]) Tryz.func123 rfl (n:=32) rfl rfl<|?_
 refine Bo<|?_
 refine Bw M rfl rfl rfl<|?_;clear M;intro b1 w M
 refine Bw M rfl rfl rfl<|?_;clear M;intro b2 w M
 refine Bw M rfl rfl rfl<|?_;clear M;intro b3 w M
 refine Bv M A0 rfl rfl<|?_;clear M;intro b4 w M
 refine wk ?_;obtain ⟨Gq6,hGq6,hbq6,M⟩:=M.freeze (k:=2) rfl;have Aq6:At Gq6 b2 0 [.slice a1 l.length c1]:=At.of_cells hbq6;clear hbq6;replace SC:=SC.mono Am hGq6;replace S:=S.mono Ad hGq6;replace T:=T.mono Ah hGq6;replace M:=z_M M;obtain ⟨Gq7,hGq7,hbq7,M⟩:=M.freeze (k:=1) rfl;have Aq7:At Gq7 b3 0 [.int .i64 z]:=At.of_cells hbq7;clear hbq7;replace SC:=SC.mono Am hGq7;replace S:=S.mono Ad hGq7;replace T:=T.mono Ah hGq7;replace Aq6:=Aq6.mono hGq7;replace M:=z_M M;intro a F;refine Dx [(true,0),(true,1),(true,2),(true,3),(true,4),(true,5),(true,7),(true,8),(true,9),(true,10),(true,11),(true,12),(true,13),(true,14),(true,15),(true,17),(false,6),(false,16),(true,18),(false,19),(true,20),(true,21),(false,22),(true,23)] (Keep Gq7 [.blk b1 [.slice kca c.kinds.length kcc,.int .i64 c.cap] 51]) rfl (by kernel_rfl) (fun c a d v w h=>by cases d <;> exact h) (Aw (M.drew _)) ?_;replace M:=M.drew (w.drawn+1);revert a;refine wk ?_;refine l_r (fun a F w M=>Gp (F.ev rfl) (F.ev rfl) (B5 (by (have h9_:=(Dm hck).2.1;omega)) (by (have h9_:=(Dm hck).2.1;omega)))) rfl<|?_
 refine wk ?_;refine l_r (fun a F w M=>Cp (vs:=#[.pointer (some ⟨b2,0,none⟩),.pointer (some ⟨b3,0,none⟩)]) (by simp only [List.map_toArray,List.map_cons,List.map_nil,F.ev (x:=.tmp 5) rfl,F.ev (x:=.tmp 6) rfl])) rfl<|l_a rfl<|A2 Uo rfl rfl (Hz (z:=z) (n:=0) (m:=((l.length:Nat):Int)) M (by omega))<|?_;clear M;rintro _ w M rfl
 refine Ao<|?_
 refine eQ (Aw M)<|l_a rfl<|P4 Arz rfl rfl (Q5 (c:=c) (l:=l) M S hck)<|?_;clear M;rintro _ _ w M ⟨buu8,mbu8,esu8,clu8,ksu8,rfl,rfl,Esu8,hksu8⟩
 refine Ao<|?_
 refine eQ (Aw M)<|l_r (fun a F w M=>Ai (cs:=[.bool (decide (Au z 0 ((l.length:Nat):Int))),.int .i64 (((l.length:Nat):Int)+((xs.length:Nat):Int)),.slice ta xs.length tc,.func (.func 168) #[] #[.pointer (some ⟨buu8,0,none⟩)],.func (.func 161) #[] #[.pointer (some ⟨b2,0,none⟩),.pointer (some ⟨b3,0,none⟩)]]) (ps:=[(0,.bool (decide (Au z 0 ((l.length:Nat):Int)))),(1,.int .i64 (((l.length:Nat):Int)+((xs.length:Nat):Int))),(2,.slice ta xs.length tc),(3,.func (.func 168) #[] #[.pointer (some ⟨buu8,0,none⟩)]),(4,.func (.func 161) #[] #[.pointer (some ⟨b2,0,none⟩),.pointer (some ⟨b3,0,none⟩)])]) Hq.k rfl Hq (F.evp rfl) rfl) rfl<|l_a rfl<|?_
 replace M:=M.perm (Af _ 1 _ rfl);replace M:=M.perm (Af _ 1 _ rfl);replace M:=z_M M;intro a F;refine Cq F Qu rfl rfl (Aql SC S hck T M Esu8 hksu8 Aq6 Aq7 hN) ?_;clear F M a;rintro _ Gq9 _ w a hGq9 M ⟨aoq9,csq9,Loq9,rfl,rfl,Eoq9⟩ F;replace SC:=SC.mono Am hGq9;replace S:=S.mono Ad hGq9;replace T:=T.mono Ah hGq9;replace Aq6:=Aq6.mono hGq9;replace Aq7:=Aq7.mono hGq9;have M:=M.perm (Bj (Co aoq9 (F3 c l z xs).1.length csq9::Loq9) [.blk b4 [.slice none 0 0] 54,.blk b1 [.slice kca c.kinds.length kcc,.int .i64 c.cap] 51] L);replace M:=z_M M;revert a;refine Ao<|?_
 refine eK (C':=Keep Gq9 [.blk b1 [.slice kca c.kinds.length kcc,.int .i64 c.cap] 51]) (Aw M) (fun w h=>h.mono hGq9 (by simp))<|?_
 refine wk ?_;refine l_a rfl<|fun a F=>?_
 refine Be F M A0 0 ?_;clear F M a;intro w a M F;replace M:=z_M M;revert a;refine Ao<|?_
 refine eK (C':=Keep Gq9 [.blk b1 [.slice kca c.kinds.length kcc,.int .i64 c.cap] 51]) (Aw M) (fun w h=>h.mono (Gle.refl _) (by simp))<|?_
 refine wk ?_;refine fun a F=>Bm F M (k:=0) rfl rfl A0 rfl rfl rfl rfl ?_
 exact ⟨_,_,((hGq6.trans hGq7).trans hGq9),M.weaken dS2,aoq9,csq9,Loq9,rfl,rfl,Eoq9⟩
theorem Pb (M:Mem w0 G L w) {c:RulesD} {kca:Option Addr} {kcc:Nat} (SC:Ag B8 9 G (.slice kca c.kinds.length kcc) c.kinds) {a1:Option Addr} {c1:Nat} {l:List EntD} (S:Ag Bc 6 G (.slice a1 l.length c1) l) (hck:A4 c l=0) {z n:Int}:Calls Tryz.prog 69 #[.agg #[.slice kca c.kinds.length kcc,.int .i64 c.cap],.agg #[.slice a1 l.length c1],.int .i64 z,.int .i64 n] w (Hn w0 G (Jj L (Ku l z n))):=by
 have bS:=S.bound;refine Aj (vs:=[_,_,_,_]) Tryz.func69 rfl (n:=23) rfl rfl<|?_
 refine Bo<|?_
 refine Bw M rfl rfl rfl<|?_;clear M;intro b1 w M
 refine Bw M rfl rfl rfl<|?_;clear M;intro b2 w M
 refine Bw M rfl rfl rfl<|?_;clear M;intro b3 w M
 refine Bw M rfl rfl rfl<|?_;clear M;intro b4 w M
 refine Bv M A0 rfl rfl<|?_;clear M;intro b5 w M
 refine wk ?_;obtain ⟨Gq7,hGq7,hbq7,M⟩:=M.freeze (k:=3) rfl;have Aq7:At Gq7 b2 0 [.slice a1 l.length c1]:=At.of_cells hbq7;clear hbq7;replace SC:=SC.mono Am hGq7;replace S:=S.mono Ad hGq7;replace M:=z_M M;obtain ⟨Gq8,hGq8,hbq8,M⟩:=M.freeze (k:=2) rfl;have Aq8:At Gq8 b3 0 [.int .i64 z]:=At.of_cells hbq8;clear hbq8;replace SC:=SC.mono Am hGq8;replace S:=S.mono Ad hGq8;replace Aq7:=Aq7.mono hGq8;replace M:=z_M M;obtain ⟨Gq9,hGq9,hbq9,M⟩:=M.freeze (k:=1) rfl;have Aq9:At Gq9 b4 0 [.int .i64 n]:=At.of_cells hbq9;clear hbq9;replace SC:=SC.mono Am hGq9;replace S:=S.mono Ad hGq9;replace Aq7:=Aq7.mono hGq9;replace Aq8:=Aq8.mono hGq9;replace M:=z_M M;intro a F;refine Dx [(true,0),(true,1),(true,2),(true,3),(true,4),(true,5),(true,6),(true,8),(false,7),(true,9),(false,10),(true,11),(true,12),(false,13),(true,14)] (Keep Gq9 [.blk b1 [.slice kca c.kinds.length kcc,.int .i64 c.cap] 51]) rfl (by kernel_rfl) (fun c a d v w h=>by cases d <;> exact h) (Aw (M.drew _)) ?_;replace M:=M.drew (w.drawn+1);revert a;refine wk ?_;refine l_r (fun a F w M=>Cp (vs:=#[.pointer (some ⟨b2,0,none⟩),.pointer (some ⟨b3,0,none⟩),.pointer (some ⟨b4,0,none⟩)]) (by simp only [List.map_toArray,List.map_cons,List.map_nil,F.ev (x:=.tmp 5) rfl,F.ev (x:=.tmp 6) rfl,F.ev (x:=.tmp 7) rfl])) rfl<|l_a rfl<|A2 Uo rfl rfl (Hz (z:=z) (n:=n) (m:=((l.length:Nat):Int)) M (by omega))<|?_;clear M;rintro _ w M rfl
 refine Ao<|?_
 refine eQ (Aw M)<|l_r (fun a F w M=>Ai (cs:=[.bool (decide (Au z n ((l.length:Nat):Int))),.int .i64 0,.slice none 0 0,.nilFunc,.func (.func 118) #[] #[.pointer (some ⟨b2,0,none⟩),.pointer (some ⟨b3,0,none⟩),.pointer (some ⟨b4,0,none⟩)]]) (ps:=[(0,.bool (decide (Au z n ((l.length:Nat):Int)))),(4,.func (.func 118) #[] #[.pointer (some ⟨b2,0,none⟩),.pointer (some ⟨b3,0,none⟩),.pointer (some ⟨b4,0,none⟩)])]) Hq.k rfl Hq (F.evp rfl) rfl) rfl<|l_a rfl<|fun a F=>?_
 refine Cq F Qu rfl rfl (Aon SC S hck M Aq7 Aq8 Aq9) ?_;clear F M a;rintro _ Gq10 _ w a hGq10 M ⟨aoq10,csq10,Loq10,rfl,rfl,Eoq10⟩ F;replace SC:=SC.mono Am hGq10;replace S:=S.mono Ad hGq10;replace Aq7:=Aq7.mono hGq10;replace Aq8:=Aq8.mono hGq10;replace Aq9:=Aq9.mono hGq10;have M:=M.perm (Bj (Co aoq10 (Ku l z n).1.length csq10::Loq10) [.blk b5 [.slice none 0 0] 54,.blk b1 [.slice kca c.kinds.length kcc,.int .i64 c.cap] 51] L);replace M:=z_M M;revert a;refine Ao<|?_
 refine eK (C':=Keep Gq10 [.blk b1 [.slice kca c.kinds.length kcc,.int .i64 c.cap] 51]) (Aw M) (fun w h=>h.mono hGq10 (by simp))<|?_
 refine wk ?_;refine l_a rfl<|fun a F=>?_
 refine Be F M A0 0 ?_;clear F M a;intro w a M F;replace M:=z_M M;revert a;refine Ao<|?_
 refine eK (C':=Keep Gq10 [.blk b1 [.slice kca c.kinds.length kcc,.int .i64 c.cap] 51]) (Aw M) (fun w h=>h.mono (Gle.refl _) (by simp))<|?_
 refine wk ?_;refine fun a F=>Bm F M (k:=0) rfl rfl A0 rfl rfl rfl rfl ?_
 exact ⟨_,_,(((hGq7.trans hGq8).trans hGq9).trans hGq10),M.weaken dS2,aoq10,csq10,Loq10,rfl,rfl,Eoq10⟩
theorem Afh (M:Mem w0 G L w) {c:RulesD} {kca:Option Addr} {kcc:Nat} (SC:Ag B8 9 G (.slice kca c.kinds.length kcc) c.kinds) {a1:Option Addr} {c1:Nat} {l:List EntD} (S:Ag Bc 6 G (.slice a1 l.length c1) l) (hck:A4 c l=0) {z n q:Int}:Calls Tryz.prog 126 #[.agg #[.slice kca c.kinds.length kcc,.int .i64 c.cap],.agg #[.slice a1 l.length c1],.int .i64 z,.int .i64 n,.int .i64 q] w (Hn w0 G (Jj L (Hf l z n q))):=by
 have bS:=S.bound;refine Aj (vs:=[_,_,_,_,_]) Tryz.func126 rfl (n:=36) rfl rfl<|?_
 refine Bo<|?_
 refine Bw M rfl rfl rfl<|?_;clear M;intro b1 w M
 refine Bw M rfl rfl rfl<|?_;clear M;intro b2 w M
 refine Bw M rfl rfl rfl<|?_;clear M;intro b3 w M
 refine Bw M rfl rfl rfl<|?_;clear M;intro b4 w M
 refine Bw M rfl rfl rfl<|?_;clear M;intro b5 w M
 refine Bv M A0 rfl rfl<|?_;clear M;intro b6 w M
 refine wk ?_;obtain ⟨Gq8,hGq8,hbq8,M⟩:=M.freeze (k:=4) rfl;have Aq8:At Gq8 b2 0 [.slice a1 l.length c1]:=At.of_cells hbq8;clear hbq8;replace SC:=SC.mono Am hGq8;replace S:=S.mono Ad hGq8;replace M:=z_M M;obtain ⟨Gq9,hGq9,hbq9,M⟩:=M.freeze (k:=3) rfl;have Aq9:At Gq9 b3 0 [.int .i64 z]:=At.of_cells hbq9;clear hbq9;replace SC:=SC.mono Am hGq9;replace S:=S.mono Ad hGq9;replace Aq8:=Aq8.mono hGq9;replace M:=z_M M;obtain ⟨Gq10,hGq10,hbq10,M⟩:=M.freeze (k:=2) rfl;have Aq10:At Gq10 b4 0 [.int .i64 n]:=At.of_cells hbq10;clear hbq10;replace SC:=SC.mono Am hGq10;replace S:=S.mono Ad hGq10;replace Aq8:=Aq8.mono hGq10;replace Aq9:=Aq9.mono hGq10;replace M:=z_M M;obtain ⟨Gq11,hGq11,hbq11,M⟩:=M.freeze (k:=1) rfl;have Aq11:At Gq11 b5 0 [.int .i64 q]:=At.of_cells hbq11;clear hbq11;replace SC:=SC.mono Am hGq11;replace S:=S.mono Ad hGq11;replace Aq8:=Aq8.mono hGq11;replace Aq9:=Aq9.mono hGq11;replace Aq10:=Aq10.mono hGq11;replace M:=z_M M;refine wk ?_;refine A2 Uo rfl rfl (Hz (z:=z) (n:=n) (m:=((l.length:Nat):Int)) M (by omega))<|?_;clear M;rintro _ w M rfl
 refine wk ?_;refine fun a F=>D4 [(.pure,0),(.pure,1),(.free,2),(.free,3),(.pure,4),(.free,5),(.pure,6),(.pure,7),(.pure,8),(.free,9),(.free,12),(.keep,10),(.free,11),(.free,13),(.keep,14),(.free,15),(.free,16),(.chg,17),(.free,18)] [17] (Keep Gq11 [.blk b1 [.slice kca c.kinds.length kcc,.int .i64 c.cap] 51]) rfl (by kernel_rfl) (fun c a d v w h=>by cases d <;> exact h) (Aw (M.drew _)) ?_;replace M:=M.drew (w.drawn+1);revert a;refine wk ?_
 rcases bE (decide (Au z n ((l.length:Nat):Int))) with h12b | h14b
 ·skip
  have h12:=dT h12b;have hin1:=h12;unfold Au at hin1;refine wk ?_;refine k_f (fun a F w _=>Cp (vs:=#[.pointer (some ⟨b2,0,none⟩),.pointer (some ⟨b3,0,none⟩),.pointer (some ⟨b4,0,none⟩),.pointer (some ⟨b5,0,none⟩)]) (by simp only [List.map_toArray,List.map_cons,List.map_nil,F.ev (x:=.tmp 6) rfl,F.ev (x:=.tmp 7) rfl,F.ev (x:=.tmp 8) rfl,F.ev (x:=.tmp 9) rfl])) rfl<|fun a F=>Fk F rfl rfl h12b ?_
  revert a;refine g_t rfl h12b<|?_
  refine A2 Uo rfl rfl (Hz (z:=q) (n:=0) (m:=((l.length:Nat):Int) - n) M (by omega))<|?_;clear M;rintro _ w M rfl
  refine Ao<|?_
  refine eQ (Aw M)<|?_
  refine wk ?_;refine k_f (fun a F w _=>Ai (cs:=[.bool (decide (Au q 0 (((l.length:Nat):Int) - n))),.int .i64 0,.slice none 0 0,.nilFunc,.func (.func 162) #[] #[.pointer (some ⟨b2,0,none⟩),.pointer (some ⟨b3,0,none⟩),.pointer (some ⟨b4,0,none⟩),.pointer (some ⟨b5,0,none⟩)]]) (ps:=[(0,.bool (decide (Au q 0 (((l.length:Nat):Int) - n)))),(4,.func (.func 162) #[] #[.pointer (some ⟨b2,0,none⟩),.pointer (some ⟨b3,0,none⟩),.pointer (some ⟨b4,0,none⟩),.pointer (some ⟨b5,0,none⟩)])]) Hq.k rfl Hq (F.evp rfl) rfl) rfl<|k_k rfl<|fun a F=>?_
  refine Cq F Qu rfl rfl (Aaz SC S hck ⟨fun h_=>⟨h12,dT h_⟩,fun h_=>decide_eq_true h_.2⟩ M Aq8 Aq9 Aq10 Aq11) ?_;clear F M a;rintro _ Gq13 _ w a hGq13 M ⟨aoq13,csq13,Loq13,rfl,rfl,Eoq13⟩ F;replace SC:=SC.mono Am hGq13;replace S:=S.mono Ad hGq13;replace Aq8:=Aq8.mono hGq13;replace Aq9:=Aq9.mono hGq13;replace Aq10:=Aq10.mono hGq13;replace Aq11:=Aq11.mono hGq13;have M:=M.perm (Bj (Co aoq13 (Hf l z n q).1.length csq13::Loq13) [.blk b6 [.slice none 0 0] 54,.blk b1 [.slice kca c.kinds.length kcc,.int .i64 c.cap] 51] L);replace M:=z_M M;revert a;refine Ao<|?_
  refine eK (C':=Keep Gq13 [.blk b1 [.slice kca c.kinds.length kcc,.int .i64 c.cap] 51]) (Aw M) (fun w h=>h.mono hGq13 (by simp))<|?_
  refine wk ?_;refine k_c rfl<|fun a F=>?_
  refine Be F M A0 0 ?_;clear F M a;intro w a M F;change Mem w0 Gq13 (.blk b6 [.slice aoq13 ((Hf l z n q).1.length) ((Hf l z n q).1.length)] 54::_::((Co aoq13 (Hf l z n q).1.length csq13::Loq13)++L)) _ at M;revert a;refine Ao<|?_
  refine fun a F=>⟨Keep Gq13 [.blk b6 [.slice aoq13 ((Hf l z n q).1.length) ((Hf l z n q).1.length)] 54,.blk b1 [.slice kca c.kinds.length kcc,.int .i64 c.cap] 51],M.keep (Gle.refl _) (by simp),?_⟩;revert a;refine wk ?_;refine fun a F=>Bm F M (k:=0) rfl rfl A0 rfl rfl rfl rfl ?_
  exact ⟨_,_,((((hGq8.trans hGq9).trans hGq10).trans hGq11).trans hGq13),M.weaken dS2,aoq13,csq13,Loq13,rfl,rfl,Eoq13⟩
 have h14:=dF h14b;refine wk ?_;refine k_f (fun a F w _=>Cp (vs:=#[.pointer (some ⟨b2,0,none⟩),.pointer (some ⟨b3,0,none⟩),.pointer (some ⟨b4,0,none⟩),.pointer (some ⟨b5,0,none⟩)]) (by simp only [List.map_toArray,List.map_cons,List.map_nil,F.ev (x:=.tmp 6) rfl,F.ev (x:=.tmp 7) rfl,F.ev (x:=.tmp 8) rfl,F.ev (x:=.tmp 9) rfl])) rfl<|?_
 refine wk ?_;refine k_f (fun a F w _=>Ai (cs:=[.bool false,.int .i64 0,.slice none 0 0,.nilFunc,.func (.func 162) #[] #[.pointer (some ⟨b2,0,none⟩),.pointer (some ⟨b3,0,none⟩),.pointer (some ⟨b4,0,none⟩),.pointer (some ⟨b5,0,none⟩)]]) (ps:=[(0,.bool false),(4,.func (.func 162) #[] #[.pointer (some ⟨b2,0,none⟩),.pointer (some ⟨b3,0,none⟩),.pointer (some ⟨b4,0,none⟩),.pointer (some ⟨b5,0,none⟩)])]) Hq.k rfl Hq (F.evp rfl) rfl) rfl<|k_k rfl<|fun a F=>?_
 refine Cq F Qu rfl rfl (Aaz SC S hck ⟨fun h_=>(by cases h_),fun h_=>absurd h_.1 h14⟩ M Aq8 Aq9 Aq10 Aq11) ?_;clear F M a;rintro _ Gq15 _ w a hGq15 M ⟨aoq15,csq15,Loq15,rfl,rfl,Eoq15⟩ F;replace SC:=SC.mono Am hGq15;replace S:=S.mono Ad hGq15;replace Aq8:=Aq8.mono hGq15;replace Aq9:=Aq9.mono hGq15;replace Aq10:=Aq10.mono hGq15;replace Aq11:=Aq11.mono hGq15;have M:=M.perm (Bj (Co aoq15 (Hf l z n q).1.length csq15::Loq15) [.blk b6 [.slice none 0 0] 54,.blk b1 [.slice kca c.kinds.length kcc,.int .i64 c.cap] 51] L);replace M:=z_M M;revert a;refine Ao<|?_
 refine eK (C':=Keep Gq15 [.blk b1 [.slice kca c.kinds.length kcc,.int .i64 c.cap] 51]) (Aw M) (fun w h=>h.mono hGq15 (by simp))<|?_
 refine wk ?_;refine k_c rfl<|fun a F=>?_
 refine Be F M A0 0 ?_;clear F M a;intro w a M F;change Mem w0 Gq15 (.blk b6 [.slice aoq15 ((Hf l z n q).1.length) ((Hf l z n q).1.length)] 54::_::((Co aoq15 (Hf l z n q).1.length csq15::Loq15)++L)) _ at M;revert a;refine Ao<|?_
 refine fun a F=>⟨Keep Gq15 [.blk b6 [.slice aoq15 ((Hf l z n q).1.length) ((Hf l z n q).1.length)] 54,.blk b1 [.slice kca c.kinds.length kcc,.int .i64 c.cap] 51],M.keep (Gle.refl _) (by simp),?_⟩;revert a;refine wk ?_;refine fun a F=>Bm F M (k:=0) rfl rfl A0 rfl rfl rfl rfl ?_
 exact ⟨_,_,((((hGq8.trans hGq9).trans hGq10).trans hGq11).trans hGq15),M.weaken dS2,aoq15,csq15,Loq15,rfl,rfl,Eoq15⟩
theorem Y1 (M:Mem w0 G L w) {c:RulesD} {kca:Option Addr} {kcc:Nat} (SC:Ag B8 9 G (.slice kca c.kinds.length kcc) c.kinds) {a1:Option Addr} {c1:Nat} {l:List EntD} (S:Ag Bc 6 G (.slice a1 l.length c1) l) (hck:A4 c l=0) {z:Int} {ta:Option Addr} {tc:Nat} {xs:List ItemD} (T:Ag Bt 4 G (.slice ta xs.length tc) xs) (hN:xs.length≤900000):Calls Tryz.prog 128 #[.agg #[.slice kca c.kinds.length kcc,.int .i64 c.cap],.agg #[.slice a1 l.length c1],.int .i64 z,.slice ta xs.length tc] w (Hn w0 G (Jj L (Ic c l z xs))):=by
 have bS:=S.bound;have bT:=T.bound;refine Aj (vs:=[_,_,_,_]) Tryz.func128 rfl (n:=28) rfl rfl<|?_
 refine Bo<|?_
 refine Bw M rfl rfl rfl<|?_;clear M;intro b1 w M
 refine Bw M rfl rfl rfl<|?_;clear M;intro b2 w M
 refine Bw M rfl rfl rfl<|?_;clear M;intro b3 w M
 refine Bw M rfl rfl rfl<|?_;clear M;intro b4 w M
 refine Bv M A0 rfl rfl<|?_;clear M;intro b5 w M
 refine wk ?_;obtain ⟨Gq7,hGq7,hbq7,M⟩:=M.freeze (k:=3) rfl;have Aq7:At Gq7 b2 0 [.slice a1 l.length c1]:=At.of_cells hbq7;clear hbq7;replace SC:=SC.mono Am hGq7;replace S:=S.mono Ad hGq7;replace T:=T.mono Ah hGq7;replace M:=z_M M;obtain ⟨Gq8,hGq8,hbq8,M⟩:=M.freeze (k:=2) rfl;have Aq8:At Gq8 b3 0 [.int .i64 z]:=At.of_cells hbq8;clear hbq8;replace SC:=SC.mono Am hGq8;replace S:=S.mono Ad hGq8;replace T:=T.mono Ah hGq8;replace Aq7:=Aq7.mono hGq8;replace M:=z_M M;obtain ⟨Gq9,hGq9,hbq9,M⟩:=M.freeze (k:=1) rfl;have Aq9:At Gq9 b4 0 [.slice ta xs.length tc]:=At.of_cells hbq9;clear hbq9;replace SC:=SC.mono Am hGq9;replace S:=S.mono Ad hGq9;replace T:=T.mono Ah hGq9;replace Aq7:=Aq7.mono hGq9;replace Aq8:=Aq8.mono hGq9;replace M:=z_M M;refine wk ?_;refine Aq (fun a F=>Cp (vs:=#[.pointer (some ⟨b2,0,none⟩),.pointer (some ⟨b3,0,none⟩)]) (by simp only [List.map_toArray,List.map_cons,List.map_nil,F.ev (x:=.tmp 5) rfl,F.ev (x:=.tmp 6) rfl])) rfl<|?_
 refine wk ?_;refine fun a F=>Dx [(true,0),(true,1),(true,2),(true,3),(true,4),(true,5),(true,6),(true,7),(true,9),(true,10),(true,11),(false,8),(true,12),(false,13),(true,14),(true,15),(false,16),(true,17)] (Keep Gq9 [.blk b1 [.slice kca c.kinds.length kcc,.int .i64 c.cap] 51]) rfl (by kernel_rfl) (fun c a d v w h=>by cases d <;> exact h) (Aw (M.drew _)) ?_;replace M:=M.drew (w.drawn+1);revert a;refine wk ?_;refine l_r (fun a F w M=>Cp (vs:=#[.pointer (some ⟨b2,0,none⟩),.pointer (some ⟨b3,0,none⟩),.pointer (some ⟨b4,0,none⟩)]) (by simp only [List.map_toArray,List.map_cons,List.map_nil,F.ev (x:=.tmp 5) rfl,F.ev (x:=.tmp 6) rfl,F.ev (x:=.tmp 7) rfl])) rfl<|l_a rfl<|A2 Uo rfl rfl (Hz (z:=z) (n:=((xs.length:Nat):Int)) (m:=((l.length:Nat):Int)) M (by omega))<|?_;clear M;rintro _ w M rfl
 refine Ao<|?_
 refine eQ (Aw M)<|l_r (fun a F w M=>Ai (cs:=[.bool (decide (Au z ((xs.length:Nat):Int) ((l.length:Nat):Int))),.int .i64 0,.slice ta xs.length tc,.func (.func 163) #[] #[.pointer (some ⟨b2,0,none⟩),.pointer (some ⟨b3,0,none⟩)],.func (.func 164) #[] #[.pointer (some ⟨b2,0,none⟩),.pointer (some ⟨b3,0,none⟩),.pointer (some ⟨b4,0,none⟩)]]) (ps:=[(0,.bool (decide (Au z ((xs.length:Nat):Int) ((l.length:Nat):Int)))),(1,.int .i64 0),(2,.slice ta xs.length tc),(3,.func (.func 163) #[] #[.pointer (some ⟨b2,0,none⟩),.pointer (some ⟨b3,0,none⟩)]),(4,.func (.func 164) #[] #[.pointer (some ⟨b2,0,none⟩),.pointer (some ⟨b3,0,none⟩),.pointer (some ⟨b4,0,none⟩)])]) Hq.k rfl Hq (F.evp rfl) rfl) rfl<|l_a rfl<|fun a F=>?_
 refine Cq F Qu rfl rfl (Auv SC S hck T M Aq7 Aq8 Aq9 hN) ?_;clear F M a;rintro _ Gq10 _ w a hGq10 M ⟨aoq10,csq10,Loq10,rfl,rfl,Eoq10⟩ F;replace SC:=SC.mono Am hGq10;replace S:=S.mono Ad hGq10;replace T:=T.mono Ah hGq10;replace Aq7:=Aq7.mono hGq10;replace Aq8:=Aq8.mono hGq10;replace Aq9:=Aq9.mono hGq10;have M:=M.perm (Bj (Co aoq10 (Ic c l z xs).1.length csq10::Loq10) [.blk b5 [.slice none 0 0] 54,.blk b1 [.slice kca c.kinds.length kcc,.int .i64 c.cap] 51] L);replace M:=z_M M;revert a;refine Ao<|?_
 refine eK (C':=Keep Gq10 [.blk b1 [.slice kca c.kinds.length kcc,.int .i64 c.cap] 51]) (Aw M) (fun w h=>h.mono hGq10 (by simp))<|?_
 refine wk ?_;refine l_a rfl<|fun a F=>?_
 refine Be F M A0 0 ?_;clear F M a;intro w a M F;replace M:=z_M M;revert a;refine Ao<|?_
 refine eK (C':=Keep Gq10 [.blk b1 [.slice kca c.kinds.length kcc,.int .i64 c.cap] 51]) (Aw M) (fun w h=>h.mono (Gle.refl _) (by simp))<|?_
 refine wk ?_;refine fun a F=>Bm F M (k:=0) rfl rfl A0 rfl rfl rfl rfl ?_
 exact ⟨_,_,(((hGq7.trans hGq8).trans hGq9).trans hGq10),M.weaken dS2,aoq10,csq10,Loq10,rfl,rfl,Eoq10⟩
theorem Ro (M:Mem w0 G L w) {c:RulesD} {kca:Option Addr} {kcc:Nat} (SC:Ag B8 9 G (.slice kca c.kinds.length kcc) c.kinds) {a1:Option Addr} {c1:Nat} {l:List EntD} (S:Ag Bc 6 G (.slice a1 l.length c1) l) (hck:A4 c l=0) {ta:Option Addr} {tc:Nat} {xs:List ItemD} (T:Ag Bt 4 G (.slice ta xs.length tc) xs) (hN:xs.length≤900000):Calls Tryz.prog 92 #[.agg #[.slice kca c.kinds.length kcc,.int .i64 c.cap],.agg #[.slice a1 l.length c1],.slice ta xs.length tc] w (Hn w0 G (Jj L (F3 c [] 0 xs))):=by
 have bS:=S.bound;have bT:=T.bound;refine Aj (vs:=[_,_,_]) Tryz.func92 rfl (n:=18) rfl rfl<|?_
 refine Bo<|?_
 refine Bw M rfl rfl rfl<|?_;clear M;intro b1 w M
 refine Bw M rfl rfl rfl<|?_;clear M;intro b2 w M
 refine Bv M A0 rfl rfl<|?_;clear M;intro b3 w M
 refine wk ?_;refine fun a F=>Dx [(true,0),(true,1),(true,2),(true,3),(true,4),(false,5),(true,6),(false,7),(true,8),(true,9),(false,10),(true,11)] (Keep G [.blk b2 [.slice a1 l.length c1] 54,.blk b1 [.slice kca c.kinds.length kcc,.int .i64 c.cap] 51]) rfl (by kernel_rfl) (fun c a d v w h=>by cases d <;> exact h) (Aw (M.drew _)) ?_;replace M:=M.drew (w.drawn+1);revert a;refine wk ?_;refine l_a rfl<|P4 Arz rfl rfl (Q5 (c:=c) (l:=([]:List EntD)) M Ag.nil (M8 (Dm hck).1))<|?_;clear M;rintro _ _ w M ⟨buu5,mbu5,esu5,clu5,ksu5,rfl,rfl,Esu5,hksu5⟩
 refine Ao<|?_
 refine eQ (Aw M)<|l_r (fun a F w M=>Ai (cs:=[.bool true,.int .i64 ((xs.length:Nat):Int),.slice ta xs.length tc,.func (.func 168) #[] #[.pointer (some ⟨buu5,0,none⟩)],.func (.func 140) #[] #[]]) (ps:=[(0,.bool true),(1,.int .i64 ((xs.length:Nat):Int)),(2,.slice ta xs.length tc),(3,.func (.func 168) #[] #[.pointer (some ⟨buu5,0,none⟩)]),(4,.func (.func 140) #[] #[])]) Hq.k rfl Hq (F.evp rfl) rfl) rfl<|l_a rfl<|?_
 replace M:=M.perm (Af _ 1 _ rfl);replace M:=M.perm (Af _ 1 _ rfl);replace M:=z_M M;intro a F;refine Cq F Qu rfl rfl (Aol SC S hck T M Esu5 hksu5 hN) ?_;clear F M a;rintro _ Gq6 _ w a hGq6 M ⟨aoq6,csq6,Loq6,rfl,rfl,Eoq6⟩ F;replace SC:=SC.mono Am hGq6;replace S:=S.mono Ad hGq6;replace T:=T.mono Ah hGq6;have M:=M.perm (Bj (Co aoq6 (F3 c [] 0 xs).1.length csq6::Loq6) [.blk b3 [.slice none 0 0] 54,.blk b2 [.slice a1 l.length c1] 54,.blk b1 [.slice kca c.kinds.length kcc,.int .i64 c.cap] 51] L);replace M:=z_M M;revert a;refine Ao<|?_
 refine eK (C':=Keep Gq6 [.blk b2 [.slice a1 l.length c1] 54,.blk b1 [.slice kca c.kinds.length kcc,.int .i64 c.cap] 51]) (Aw M) (fun w h=>h.mono hGq6 (by simp))<|?_
 refine wk ?_;refine l_a rfl<|fun a F=>?_
 refine Be F M A0 0 ?_;clear F M a;intro w a M F;replace M:=z_M M;revert a;refine Ao<|?_
 refine eK (C':=Keep Gq6 [.blk b2 [.slice a1 l.length c1] 54,.blk b1 [.slice kca c.kinds.length kcc,.int .i64 c.cap] 51]) (Aw M) (fun w h=>h.mono (Gle.refl _) (by simp))<|?_
 refine wk ?_;refine fun a F=>Bm F M (k:=0) rfl rfl A0 rfl rfl rfl rfl ?_
 exact ⟨_,_,hGq6,M.weaken dS3,aoq6,csq6,Loq6,rfl,rfl,Eoq6⟩
open Go Go.Y
def Pv (c:RulesD) (x:EntD):Prop:=(ItemOk (c.kinds.length:Int) x.item∧Gq c x.item=0)∧Hv c x
def Ch (l:List EntD):List Nat:=l.map fun x=>x.item.key
theorem Ty {l:List Nat}:l.Nodup↔∀ i x,l[i]?=some x→¬ x∈l.take i:=by
 constructor
 ·intro h i x hx hm;obtain ⟨j,hj⟩:=List.mem_iff_getElem?.1 hm;rw [List.getElem?_take] at hj
  split at hj
  ·rename_i hji
   have h1:=List.pairwise_iff_getElem.1 h j i (Az hj) (Az hx) hji;rw [List.getElem?_eq_getElem (Az hj)] at hj;rw [List.getElem?_eq_getElem (Az hx)] at hx;simp only [Option.some.injEq] at hj hx
   exact h1 (hj.trans hx.symm)
  cases hj
 intro h;refine List.pairwise_iff_getElem.2 fun i j hi hj hij he=>?_;refine h j l[j] (List.getElem?_eq_getElem hj) (List.mem_iff_getElem?.2 ⟨i,?_⟩);rw [List.getElem?_take,if_pos hij,List.getElem?_eq_getElem hi,he]
theorem Uh {l:List EntD} {k:Nat}:Ct l k↔k∈Ch l:=by
 unfold Ct Ch;rw [List.mem_map]
theorem Wr (l:List EntD) (i:Nat):Ch (l.take i)=(Ch l).take i:=by unfold Ch;rw [List.map_take]
theorem F6 {c:RulesD} {l:List EntD}:A4 c l=0↔Cu c∧l.length≤1024∧(∀ x∈l,Pv c x)∧(Ch l).Nodup∧C3 l=0:=by
 constructor
 ·intro h;obtain ⟨h1,h2,h3,h4⟩:=Dm h;refine ⟨h1,h2,fun x hx=>?_,Ty.2 fun i k hk=>?_,h4⟩
  ·obtain ⟨i,hi⟩:=List.mem_iff_getElem?.1 hx;have:=M6.1 (h3 i x hi);have h5:=Ed.1 this.1
   exact ⟨⟨h5.1,h5.2.2⟩,this.2⟩
  ·unfold Ch at hk;rw [List.getElem?_map] at hk
   cases hx:l[i]? with
   | none=>rw [hx] at hk;cases hk
   | some x =>
    rw [hx] at hk;simp only [Option.map_some,Option.some.injEq] at hk;have:=Xe h hx;rw [Uh,Wr,hk] at this
    exact this
 ·rintro ⟨h1,h2,h3,h4,h5⟩;have h6:Bg (Hd c l) l.length=0:=Dc.2 fun i hi=>by
   obtain ⟨x,hx⟩:=Ak hi;obtain ⟨⟨a,b⟩,d⟩:=h3 x (List.mem_of_getElem? hx);rw [Ow hx,M6,Ed];refine ⟨⟨a,?_,b⟩,d⟩;rw [Uh,Wr]
   exact Ty.1 h4 i _ (by unfold Ch;rw [List.getElem?_map,hx];rfl)
  rw [I3 h1 (by omega) h6 (Nat.le_refl _),h5]
theorem Abx {c:RulesD} {x:ItemD} (hc:Cu c) (h:ItemOk (c.kinds.length:Int) x) (hr:Gq c x=0):Pv c (Bh c x):=by
 obtain ⟨k,hk⟩:=Ip h;have h1:=(hc.2 k (List.mem_of_getElem? hk)).1;have h2:(Bh c x).size=k.base:=Hy hk
 exact ⟨⟨h,hr⟩,by rw [h2];exact h1,Or.inr rfl⟩
theorem T6 (l:List EntD) (p n:Nat) (fr:List EntD):Ch (Cd l p n fr)=(Ch l).take p++Ch fr++(Ch l).drop (p+n):=by
 unfold Cd Ch;simp [List.map_take,List.map_drop]
theorem Tx {a b:List Nat} (h:a.Perm b) (hb:b.Nodup):a.Nodup:=h.symm.nodup hb
theorem Afg {c:RulesD} {l fr:List EntD} {p n:Nat} (h:∀ x∈l,Pv c x) (hf:∀ x∈fr,Pv c x):∀ x∈Cd l p n fr,Pv c x:=fun x hx=>by
 rcases R8 hx with hx | hx
 ·exact h x hx
 exact hf x hx
theorem T7 (c:RulesD) (xs:List ItemD):Ch (xs.map (Bh c))=xs.map ItemD.key:=by unfold Ch;rw [List.map_map];rfl
theorem Wz {xs:List ItemD} {k:Nat}:Jd xs k↔k∈xs.map ItemD.key:=by unfold Jd;rw [List.mem_map]
theorem Aqn {c:RulesD} {l:List EntD} {xs:List ItemD} (hc:Cu c) (h:Lf c l xs=0):(∀ x∈xs.map (Bh c),Pv c x)∧(xs.map ItemD.key).Nodup∧∀ k∈xs.map ItemD.key,¬ k∈Ch l:=by
 have h1:∀ i x,xs[i]?=some x→Ds c x (Ct l x.key∨Jd (xs.take i) x.key)=0:=fun i x hx=>by
  have:=Dc.1 h i (Az hx)
  rwa [N8 hx] at this
 refine ⟨fun y hy=>?_,Ty.2 fun i k hk=>?_,fun k hk=>?_⟩
 ·obtain ⟨x,hx,rfl⟩:=List.mem_map.1 hy;obtain ⟨i,hi⟩:=List.mem_iff_getElem?.1 hx;have:=Ed.1 (h1 i x hi)
  exact Abx hc this.1 this.2.2
 ·rw [List.getElem?_map] at hk
  cases hx:xs[i]? with
  | none=>rw [hx] at hk;cases hk
  | some x =>
   rw [hx] at hk;simp only [Option.map_some,Option.some.injEq] at hk;subst hk;intro hm;rw [← List.map_take,← Wz] at hm
   exact (Ed.1 (h1 i x hx)).2.1 (Or.inr hm)
 ·obtain ⟨x,hx,rfl⟩:=List.mem_map.1 hk;obtain ⟨i,hi⟩:=List.mem_iff_getElem?.1 hx;intro hm
  exact (Ed.1 (h1 i x hi)).2.1 (Or.inl (Uh.2 hm))
theorem Wv {c:RulesD} {l:List EntD} {a:Int} {xs:List ItemD} (h:A4 c l=0) (hr:(F3 c l a xs).2=0):A4 c (F3 c l a xs).1=0:=by
 obtain ⟨h1,h2,h3,h4,h5⟩:=F6.1 h
 by_cases b1:Au a 0 l.length
 ·by_cases b2:1024 < l.length+xs.length
  ·rw [Ahu b1 b2] at hr;cases hr
  ·by_cases b3:Lf c l xs=0
   ·rcases R5 (Cd l a.toNat 0 (xs.map (Bh c))) with b4 | b4
    ·rw [Wx b1 b2 b3 b4];obtain ⟨g1,g2,g3⟩:=Aqn h1 b3;unfold Au at b1;refine F6.2 ⟨h1,by rw [I8 (by omega),List.length_map];omega,Afg h3 g1,?_,b4⟩;rw [T6,T7,Nat.add_zero];refine Tx (b:=xs.map ItemD.key++Ch l) ?_ (List.nodup_append.2 ⟨g2,h4,fun x hx y hy e=>g3 x hx (e ▸ hy)⟩);have e:=List.take_append_drop a.toNat (Ch l)
     calc (Ch l).take a.toNat++xs.map ItemD.key++(Ch l).drop a.toNat
      _=(Ch l).take a.toNat++(xs.map ItemD.key++(Ch l).drop a.toNat):=List.append_assoc _ _ _
      _ |>.Perm ((xs.map ItemD.key++(Ch l).drop a.toNat)++(Ch l).take a.toNat):=List.perm_append_comm
      _ |>.Perm (xs.map ItemD.key++((Ch l).drop a.toNat++(Ch l).take a.toNat)):=by rw [List.append_assoc]
      _ |>.Perm (xs.map ItemD.key++((Ch l).take a.toNat++(Ch l).drop a.toNat)):=List.Perm.append_left _ List.perm_append_comm
      _ |>.Perm (xs.map ItemD.key++Ch l):=by rw [e]
    ·rw [Y9 b1 b2 b3 (by omega)] at hr;cases hr
   ·rw [Aht b1 b2 b3] at hr;exact absurd hr b3
 ·rw [Ww b1] at hr;cases hr
theorem Ajt {c:RulesD} {l:List EntD} {a n:Int} (h:A4 c l=0) (hr:(Ku l a n).2=0):A4 c (Ku l a n).1=0:=by
 obtain ⟨h1,h2,h3,h4,h5⟩:=F6.1 h
 by_cases b1:Au a n l.length
 ·rw [V3 b1];unfold Au at b1;refine F6.2 ⟨h1,by rw [Kf (by omega)];omega,Afg h3 (by simp),?_,Aam h5⟩;rw [T6];refine List.Nodup.sublist ?_ h4;have e:=List.take_append_drop a.toNat (Ch l);rw [show Ch []=[] from rfl,List.append_nil]
  conv=>rhs;rw [← e]
  refine (sR _).append ?_;rw [← List.drop_drop]
  exact List.drop_sublist _ _
 rw [Agr b1] at hr;cases hr
theorem Apn (l:List EntD) (p n q:Nat):(O9 l p n q).Perm l:=by
 unfold O9
 generalize hX:Cd l p n []=X
 have h1:(Cd X q 0 ((l.drop p).take n)).Perm ((l.drop p).take n++X):=by
  unfold Cd;rw [Nat.add_zero,List.append_assoc];refine List.perm_append_comm.trans ?_;rw [List.append_assoc];refine List.Perm.append_left _ (List.perm_append_comm.trans ?_);rw [List.take_append_drop]
 refine h1.trans ?_;subst hX;unfold Cd;rw [List.append_nil];refine List.perm_append_comm.trans ?_;rw [List.append_assoc]
 conv=>rhs;rw [← List.take_append_drop p l]
 refine List.Perm.append_left _ (List.perm_append_comm.trans ?_);rw [← List.drop_drop,List.take_append_drop]
theorem Akm {c:RulesD} {l:List EntD} {a n b:Int} (h:A4 c l=0) (hr:(Hf l a n b).2=0):A4 c (Hf l a n b).1=0:=by
 obtain ⟨h1,h2,h3,h4,h5⟩:=F6.1 h
 by_cases b1:Au a n l.length∧Au b 0 (l.length - n)
 ·rw [Ahg b1];have hp:=Apn l a.toNat n.toNat b.toNat
  exact F6.2 ⟨h1,by rw [hp.length_eq];exact h2,fun x hx=>h3 x (hp.subset hx),Tx (hp.map _) h4,Aan h5⟩
 rw [Ahf b1] at hr;cases hr
theorem Akw {c:RulesD} {l:List EntD} {p:Nat} {xs:List ItemD} (hp:p+xs.length≤l.length) (h:∀ i x,xs[i]?=some x→∃ y,l[p+i]?=some y∧y.item.key=x.key):Ch (Cd l p xs.length (xs.map (Bh c)))=Ch l:=by
 rw [T6,T7]
 apply List.ext_getElem?
 intro i;have e0:(Ch l).length=l.length:=by unfold Ch;simp
 have e1:((Ch l).take p).length=p:=by unfold Ch;simp;omega
 rcases Nat.lt_or_ge i p with h1 | h1
 ·rw [List.append_assoc,List.getElem?_append_left (by omega),List.getElem?_take,if_pos h1]
 rcases Nat.lt_or_ge i (p+xs.length) with h2 | h2
 ·rw [List.getElem?_append_left (by simp;omega),List.getElem?_append_right (by omega),e1];obtain ⟨x,hx⟩:=Ak (xs:=xs) (i:=i - p) (by omega);obtain ⟨y,hy,he⟩:=h (i - p) x hx;rw [show p+(i - p)=i by omega] at hy;unfold Ch;rw [List.getElem?_map,List.getElem?_map,hx,hy]
  simp [he]
 rw [List.getElem?_append_right (by simp;omega),List.getElem?_drop]
 congr 1
 simp;omega
theorem Alm {c:RulesD} {l:List EntD} {a:Int} {xs:List ItemD} (h:A4 c l=0) (hr:(Ic c l a xs).2=0):A4 c (Ic c l a xs).1=0:=by
 obtain ⟨h1,h2,h3,h4,h5⟩:=F6.1 h
 by_cases b1:Au a xs.length l.length
 ·by_cases b2:Bg (H6 c l a.toNat xs) xs.length=0
  ·rcases R5 (Cd l a.toNat xs.length (xs.map (Bh c))) with b4 | b4
   ·rw [Aip b1 b2 b4];unfold Au at b1;have hz:∀ i x,xs[i]?=some x→ItemOk (c.kinds.length:Int) x∧¬ N2 l (a.toNat+i) x.key∧Gq c x=0:=fun i x hx=>by
     have:=Dc.1 b2 i (Az hx);rw [Ux hx] at this
     exact Alp.1 this
    refine F6.2 ⟨h1,by rw [I8 (by omega),List.length_map];omega,Afg h3 (fun y hy=>?_),?_,b4⟩
    ·obtain ⟨x,hx,rfl⟩:=List.mem_map.1 hy;obtain ⟨i,hi⟩:=List.mem_iff_getElem?.1 hx
     exact Abx h1 (hz i x hi).1 (hz i x hi).2.2
    rw [Akw (by omega) (fun i x hx=>?_)]
    ·exact h4
    obtain ⟨y,hy⟩:=Ak (xs:=l) (i:=a.toNat+i) (by have:=Az hx;omega)
    exact ⟨y,hy,Classical.byContradiction fun hn=>(hz i x hx).2.1 ((H2 hy).2 hn)⟩
   rw [Zj b1 b2 (by omega)] at hr;cases hr
  unfold Ic at hr;rw [if_neg (not_not_intro b1),if_pos b2] at hr;exact absurd hr b2
 rw [Aio b1] at hr;cases hr
structure NotD where
 kind:Nat
 at_:Int
 count:Int
 to:Int
 items:List ItemD
def D9:Rd NotD:=fun G cs x=>∃ (a:Option Addr) (c:Nat),cs=[.int .u8 ((x.kind:Nat):Int),.int .i64 x.at_,.int .i64 x.count,.int .i64 x.to,.slice a x.items.length c] ∧
 x.kind < 256∧Al .i64 x.at_∧Al .i64 x.count∧Al .i64 x.to∧x.items.length≤9223372036854775807∧Ag Bt 4 G (.slice a x.items.length c) x.items
theorem Ay:Hj D9:=by
 rintro G G' cs x h ⟨a,c,h1,h2,h3,h4,h5,h6,h7⟩
 exact ⟨a,c,h1,h2,h3,h4,h5,h6,h7.mono Ah h⟩
def uAt (k:Nat):Prop:=k=1∨k=2∨k=3∨k=4
def uCo (k:Nat):Prop:=k=2∨k=3
def uTo (k:Nat):Prop:=k=3
def uIt (k:Nat):Prop:=k=1∨k=4∨k=5
instance (k:Nat):Decidable (uAt k):=by unfold uAt;infer_instance
instance (k:Nat):Decidable (uCo k):=by unfold uCo;infer_instance
instance (k:Nat):Decidable (uTo k):=by unfold uTo;infer_instance
instance (k:Nat):Decidable (uIt k):=by unfold uIt;infer_instance
def D8 (n:NotD):Prop:=(uAt n.kind∨n.at_=0)∧(uCo n.kind∨n.count=0)∧(uTo n.kind∨n.to=0)∧(uIt n.kind∨n.items.length=0)
instance (n:NotD):Decidable (D8 n):=by unfold D8;infer_instance
def Dn (n:NotD):Int:=if n.kind < 1∨5 < n.kind then 1 else if D8 n then 0 else 5
theorem Yu {n:NotD} (h:n.kind < 1∨5 < n.kind):Dn n=1:=by unfold Dn;rw [if_pos h]
theorem Apg {n:NotD} (h:¬ (n.kind < 1∨5 < n.kind)) (h2:¬ D8 n):Dn n=5:=by unfold Dn;rw [if_neg h,if_neg h2]
theorem Aph {n:NotD} (h:¬ (n.kind < 1∨5 < n.kind)) (h2:D8 n):Dn n=0:=by unfold Dn;rw [if_neg h,if_pos h2]
theorem I0 {n:NotD}:Dn n=0↔(1≤n.kind∧n.kind≤5)∧D8 n:=by
 unfold Dn
 split
 ·rename_i h;exact ⟨fun h2=>(by cases h2),fun h2=>by omega⟩
 rename_i h
 split
 ·rename_i h2;exact ⟨fun _=>⟨by omega,h2⟩,fun _=>rfl⟩
 rename_i h2;exact ⟨fun h3=>(by cases h3),fun h3=>absurd h3.2 h2⟩
theorem Ahd (n:NotD):0≤Dn n:=by unfold Dn;split;decide;split <;> decide
noncomputable def Fg (c:RulesD) (l:List EntD) (n:NotD):List EntD × Int :=
 if Dn n≠0 then ([],Dn n) else if n.kind=1 then F3 c l n.at_ n.items else if n.kind=2 then Ku l n.at_ n.count else if n.kind=3 then Hf l n.at_ n.count n.to
 else if n.kind=4 then Ic c l n.at_ n.items else F3 c [] 0 n.items
section
variable {c:RulesD} {l:List EntD} {n:NotD}
theorem Ait (h:Dn n≠0):Fg c l n=([],Dn n):=by unfold Fg;rw [if_pos h]
theorem Acx (h:Dn n=0) (hk:n.kind=1):Fg c l n=F3 c l n.at_ n.items:=by unfold Fg;rw [if_neg (not_not_intro h),if_pos hk]
theorem Xh (h:Dn n=0) (hk:n.kind=2):Fg c l n=Ku l n.at_ n.count:=by unfold Fg;rw [if_neg (not_not_intro h),if_neg (by omega),if_pos hk]
theorem Acw (h:Dn n=0) (hk:n.kind=3):Fg c l n=Hf l n.at_ n.count n.to:=by unfold Fg;rw [if_neg (not_not_intro h),if_neg (by omega),if_neg (by omega),if_pos hk]
theorem Aiv (h:Dn n=0) (hk:n.kind=4):Fg c l n=Ic c l n.at_ n.items:=by unfold Fg;rw [if_neg (not_not_intro h),if_neg (by omega),if_neg (by omega),if_neg (by omega),if_pos hk]
theorem Aiu (h:Dn n=0) (hk:n.kind=5):Fg c l n=F3 c [] 0 n.items:=by unfold Fg;rw [if_neg (not_not_intro h),if_neg (by omega),if_neg (by omega),if_neg (by omega),if_neg (by omega)]
theorem Aly (h:A4 c l=0) (hr:(Fg c l n).2=0):A4 c (Fg c l n).1=0:=by
 by_cases h0:Dn n=0
 ·have hk:=(I0.1 h0).1
  rcases (show n.kind=1∨n.kind=2∨n.kind=3∨n.kind=4∨n.kind=5 by omega) with e | e | e | e | e
  ·rw [Acx h0 e] at hr ⊢;exact Wv h hr
  ·rw [Xh h0 e] at hr ⊢;exact Ajt h hr
  ·rw [Acw h0 e] at hr ⊢;exact Akm h hr
  ·rw [Aiv h0 e] at hr ⊢;exact Alm h hr
  have hc:=(Dm h).1;rw [Aiu h0 e] at hr ⊢
  exact Wv (by rw [I3 hc (by decide) (i:=0) rfl (Nat.le_refl _)];rfl) hr
 rw [Ait h0] at hr;exact absurd hr h0
end
noncomputable def Cx (c:RulesD) (l:List EntD) (ns:List NotD):Nat→List EntD × Int
 | 0=>(l,0)
 | i+1=>if (Cx c l ns i).2=0 then (match ns[i]? with
  | some n=>Fg c (Cx c l ns i).1 n
  | none=>Cx c l ns i) else Cx c l ns i
theorem Gm {c:RulesD} {l:List EntD} {ns:List NotD} {i:Nat} {n:NotD} (h:(Cx c l ns i).2=0) (hn:ns[i]?=some n):Cx c l ns (i+1)=Fg c (Cx c l ns i).1 n:=by
 simp only [Cx,h,if_true,hn]
theorem S0 {c:RulesD} {l:List EntD} {ns:List NotD} {i:Nat} (h:(Cx c l ns i).2≠0):∀ j,i≤j→Cx c l ns j=Cx c l ns i:=by
  intro j hj
  induction j with
  | zero => have : i = 0 := by omega
            subst this;rfl
  | succ j ih =>
    rcases Nat.eq_or_lt_of_le hj with e | e
    · rw [e]
    · have:=ih (by omega)
      simp only [Cx,this,h,if_false]
theorem Mp {c:RulesD} {l:List EntD} {ns:List NotD} (h:A4 c l=0):∀ {i:Nat},(Cx c l ns i).2=0→A4 c (Cx c l ns i).1=0
 | 0,_=>h
 | i+1,hr=>by
  by_cases h0:(Cx c l ns i).2=0
  ·have ih:=Mp h h0
   cases hn:ns[i]? with
   | none=>simp only [Cx,h0,if_true,hn];exact ih
   | some n=>rw [Gm h0 hn] at hr ⊢;exact Aly ih hr
  ·rw [S0 h0 _ (Nat.le_succ i)] at hr;exact absurd hr h0
noncomputable def Aef (c:RulesD) (l:List EntD) (ns:List NotD):Nat→Nat
 | 0=>0
 | i+1=>if (Cx c l ns (i+1)).2=0 then i+1 else Aef c l ns i
theorem runN_ok {c:RulesD} {l:List EntD} {ns:List NotD}:∀ {i:Nat},(Cx c l ns i).2=0→Aef c l ns i=i
 | 0,_=>rfl
 | i+1,h=>by simp only [Aef,h,if_true]
theorem Aoh {c:RulesD} {l:List EntD} {ns:List NotD} {i:Nat} (h0:(Cx c l ns i).2=0) (h:(Cx c l ns (i+1)).2≠0):∀ j,i < j→Aef c l ns j=i:=by
 intro j hj
 induction j with
 | zero=>omega
 | succ j ih =>
  have hs:=S0 h (j+1) (by omega)
  rcases Nat.eq_or_lt_of_le (show i≤j by omega) with e | e
  ·subst e;simp only [Aef,h,if_false];exact runN_ok h0
  ·simp only [Aef,hs,h,if_false];exact ih e
noncomputable def Ci (c:RulesD) (l:List EntD) (ns:List NotD):List EntD × Nat × Int :=
 if 32 < ns.length then ([],0,3) else if (Cx c l ns ns.length).2=0 then ((Cx c l ns ns.length).1,ns.length,0) else ([],Aef c l ns ns.length,(Cx c l ns ns.length).2)
section
variable {c:RulesD} {l:List EntD} {ns:List NotD}
theorem Avd (h:32 < ns.length):Ci c l ns=([],0,3):=by unfold Ci;rw [if_pos h]
theorem Aix {i:Nat} (h:¬ 32 < ns.length) (h2:(Cx c l ns i).2=0) (hi:i=ns.length):Ci c l ns=((Cx c l ns i).1,ns.length,0):=by subst hi;unfold Ci;rw [if_neg h,if_pos h2]
theorem all_e {i:Nat} {n:NotD} {e:Int} (h:¬ 32 < ns.length) (h2:(Cx c l ns i).2=0) (hn:ns[i]?=some n) (he:(Fg c (Cx c l ns i).1 n).2=e) (h0:e≠0):Ci c l ns=([],i,e):=by
 have h3:=Gm h2 hn;have h4:(Cx c l ns (i+1)).2≠0:=by rw [h3,he];exact h0
 have h5:=S0 h4 ns.length (by have:=Az hn;omega);unfold Ci;rw [if_neg h,if_neg (by rw [h5];exact h4),h5,h3,he,Aoh h2 h4 ns.length (Az hn)]
end
end Go.Proofs.YtmmhmcplegpenaaGreatDoor
