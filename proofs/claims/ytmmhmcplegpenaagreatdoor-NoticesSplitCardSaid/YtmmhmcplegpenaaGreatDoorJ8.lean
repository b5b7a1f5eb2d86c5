/- The walks, part LA. · The walks, part LB. · Lists: what the operations hand back. · The walks, part LC. -/
import Derived.Test.YtmmhmcplegpenaaGreatDoorJ5
import Derived.Test.YtmmhmcplegpenaaGreatDoorJ7
set_option linter.unusedSimpArgs false
set_option linter.unusedVariables false
set_option maxRecDepth 10000
namespace Go.Proofs.YtmmhmcplegpenaaGreatDoor
open Go Go.Y Go.Proofs
variable {w0 w:World} {G:Aq} {L:List Res}
set_option maxHeartbeats 1600000
theorem Ro (M:Mem w0 G L w) {n:Int}:Calls Tryz.prog 114 #[.int .i64 n] w (Bu w0 G L fun v=>v=.bool (decide (1≤n∧n≤2305843009213693952))):=by
 refine Al (vs:=[_]) Tryz.func114 rfl (n:=9) rfl rfl<|?_
 refine wk ?_
 rcases bE (decide (1≤n)) with h1b | h2b
 ·skip
  have h1:=dT h1b;refine wk ?_;refine Ad rfl rfl<|?_
  exact ⟨M,by rw [show (decide (1≤n∧n≤2305843009213693952))=(decide (n≤2305843009213693952)) by rw [Bool.eq_iff_iff];simp only [decide_eq_true_eq];first | omega | (constructor <;> intro h_ <;> first | omega | cases h_ | rfl)]⟩
 have h2:=dF h2b;refine wk ?_;refine Ad rfl rfl<|?_
 exact ⟨M,by rw [show (decide (1≤n∧n≤2305843009213693952))=false by rw [Bool.eq_iff_iff];simp only [decide_eq_true_eq];first | omega | (constructor <;> intro h_ <;> first | omega | cases h_ | rfl)]⟩
theorem Z2 (M:Mem w0 G L w) {k:KindD} {ta ka:Option Addr} {tc kc:Nat} (hk:Au .u8 k.part.kind) (hl:(k.part.tag.length≤9223372036854775807∧k.part.key.length≤9223372036854775807∧k.part.text.length≤9223372036854775807)) (SA:Ag T.rdSlot 3 G (.slice ta k.part.as.length tc) k.part.as) (SK:Ag T.rdP 6 G (.slice ka k.part.kids.length kc) k.part.kids):Calls Tryz.prog 154 #[.agg #[.int .u8 k.part.kind,.string (str k.part.tag),.string (str k.part.key),.slice ta k.part.as.length tc,.string (str k.part.text),.slice ka k.part.kids.length kc,.int .i64 k.base,.bool k.sticky,.int .i64 k.pool]] w (Bu w0 G L fun v=>∃ b:Bool,v=.bool b∧(b=true↔¬ K9 k)):=by
 refine Al (vs:=[_]) Tryz.func154 rfl (n:=13) rfl rfl<|?_
 refine Bt<|?_
 refine B2 M rfl rfl rfl<|?_;clear M;intro b1 w M
 refine wk ?_;refine A4 Arx rfl rfl (Ro (n:=k.base) M)<|?_;clear M;rintro _ w M rfl
 refine wk ?_
 rcases bE (!(decide (1≤k.base∧k.base≤2305843009213693952))) with h2b | h3b
 ·skip
  have h2:=dF (Ab h2b);refine wk ?_;refine Ad rfl rfl<|?_
  exact ⟨M.weaken dS1,_,rfl,(by unfold K9;rw [← T.chkP_zero];simp only [Bool.not_eq_true',decide_eq_true_eq,decide_eq_false_iff_not];first | (constructor <;> intro h_ <;> omega) | (simp only [true_iff];omega))⟩
 have h3:=dT (Ac h3b);refine wk ?_;refine A4 Arp rfl rfl (T.tcheck_spec (x:=k.part) M hk hl SA SK)<|?_;clear M;rintro _ w M rfl
 refine wk ?_;refine Ad rfl rfl<|?_
 exact ⟨M.weaken dS1,_,rfl,(by unfold K9;rw [← T.chkP_zero];simp only [Bool.not_eq_true',decide_eq_true_eq,decide_eq_false_iff_not];first | (constructor <;> intro h_ <;> omega) | (simp only [true_iff];omega))⟩
theorem Ali (M:Mem w0 G L w) {ad:Option Addr} {cd:Nat} {xs:List KindD} (S:Ag Cb 9 G (.slice ad xs.length cd) xs):Calls Tryz.prog 190 #[.slice ad xs.length cd,.func (.func 154) #[] #[]] w (Bu w0 G L fun v=>∃ z:Int,v=.int .i64 z∧(0≤z↔¬ ∀ k∈xs,K9 k)):=by
 have bS:=S.bound;refine Al (vs:=[_,_]) Tryz.func190 rfl (n:=19) rfl rfl<|?_
 refine wk ?_;refine fun a F=>Ba (fun m a' w'=>∃ (i:Nat),m=xs.length - i∧Fits 19 a' [(0,.slice ad xs.length cd),(1,.func (.func 154) #[] #[]),(7,.int .i64 ((xs.length:Nat):Int)),(8,.int .i64 ((i:Nat):Int))]∧Mem w0 G (L) w'∧(i≤xs.length)∧(∀ (m:Nat) (k:KindD),m < i→xs[m]?=some k→K9 k)) _ ⟨0,rfl,F.to ⟨rfl,rfl,rfl,rfl,trivial⟩,M,Nat.zero_le _,fun m d h=>by omega⟩ ?_;clear F M;rintro m a w ⟨i,rfl,F,M,hi,hA⟩;revert a;refine wk ?_;refine qD rfl ?_ ?_
 ·intro h1;refine wk ?_;obtain ⟨Xe2,hXe2⟩:=Ap (xs:=xs) (i:=i) (by omega);obtain ⟨be2,oe2,_,Ie2,_,Ae2,hTe2⟩:=S.at hXe2;obtain ⟨c1e2,hcse2,hPe2,hBe2⟩:=hTe2;obtain ⟨tae2,tce2,kae2,kce2,rfl,hke2,hle2,SAe2,SKe2⟩:=Dn hPe2;subst hcse2;have hQe2:-9223372036854775808≤Xe2.base∧Xe2.base≤9223372036854775807:=hBe2;refine wk ?_;refine Aef ent154 (caps:=[]) rfl rfl rfl (Z2 (k:=Xe2) M hke2 hle2 SAe2 SKe2)<|?_;clear M;rintro _ w M ⟨b3,rfl,hb3⟩
  refine Ao<|F1<|?_
  refine Ae rfl ?_ ?_
  ·intro h4b;have h4:(b3)=true:=h4b;refine wk ?_;refine Ad rfl rfl<|?_
   exact ⟨M,_,rfl,⟨fun _ h_=>(hb3.1 (by assumption)) (h_ _ (List.mem_of_getElem? hXe2)),fun _=>by omega⟩⟩
  intro h5b;have h5:(b3)=false:=h5b;refine wk ?_;intro a F
  exact ⟨_,by omega,i+1,rfl,F.to ⟨rfl,rfl,rfl,rfl,trivial⟩,M,by omega,E1 hA hXe2 (Classical.byContradiction fun h_=>by have:=hb3.2 h_;simp_all)⟩
 intro h6;refine wk ?_;refine Ad rfl rfl<|?_
 exact ⟨M,_,rfl,⟨fun h=>by omega,fun h=>absurd (D8 hA (by omega)) h⟩⟩
theorem Agb (M:Mem w0 G L w) {ad:Option Addr} {cd:Nat} {xs:List KindD} (S:Ag Cb 9 G (.slice ad xs.length cd) xs):Calls Tryz.prog 156 #[.slice ad xs.length cd,.func (.func 154) #[] #[]] w (Bu w0 G L fun v=>∃ b:Bool,v=.bool b∧(b=true↔¬ ∀ k∈xs,K9 k)):=by
 refine Al (vs:=[_,_]) Tryz.func156 rfl (n:=9) rfl rfl<|?_
 refine wk ?_;refine A4 ent190 rfl rfl (Ali (xs:=xs) M S)<|?_;clear M;rintro _ w M ⟨z1,rfl,hz1⟩
 refine wk ?_;refine Ad rfl rfl<|?_
 exact ⟨M,_,rfl,decide_eq_true_iff.trans hz1⟩
theorem vc_yes {c:RulesD} {b:Bool} (h:(1≤c.kinds.length∧c.kinds.length≤8)∧1≤c.cap∧c.cap≤64) (hb:b=true↔¬ ∀ k∈c.kinds,K9 k) (h2:b=false):Cy c :=
 ⟨⟨h.1,h.2⟩,Classical.byContradiction fun h3=>by rw [hb.2 h3] at h2;cases h2⟩
theorem Z1 {c:RulesD} {b:Bool} (hb:b=true↔¬ ∀ k∈c.kinds,K9 k) (h2:b=true):¬ Cy c:=fun h=>hb.1 h2 h.2
theorem Adl (M:Mem w0 G L w) {c:RulesD} {kca:Option Addr} {kcc:Nat} (SC:Ag Cb 9 G (.slice kca c.kinds.length kcc) c.kinds):Calls Tryz.prog 112 #[.agg #[.slice kca c.kinds.length kcc,.int .i64 c.cap]] w (Bu w0 G L fun v=>v=.int .i64 (Kr c)):=by
 refine Al (vs:=[_]) Tryz.func112 rfl (n:=30) rfl rfl<|?_
 refine Bt<|?_
 refine B2 M rfl rfl rfl<|?_;clear M;intro b1 w M
 refine wk ?_
 rcases bE (decide (((c.kinds.length:Nat):Int) < 1)) with h2b | h3b
 ·skip
  have h2:=dT h2b;refine wk ?_;refine Ad rfl rfl<|?_
  exact ⟨(M.weaken (cN (sR _))),by rw [Iu (by first | exact Z1 h0 (by assumption) | exact fun h_=>absurd h_.1 (by omega))]⟩
 have h3:=dF h3b;refine wk ?_
 rcases bE (decide (8 < ((c.kinds.length:Nat):Int))) with h4b | h5b
 ·skip
  have h4:=dT h4b;refine wk ?_;refine Ad rfl rfl<|?_
  exact ⟨(M.weaken (cN (sR _))),by rw [Iu (by first | exact Z1 h0 (by assumption) | exact fun h_=>absurd h_.1 (by omega))]⟩
 have h5:=dF h5b;refine wk ?_
 rcases bE (decide (c.cap < 1)) with h6b | h7b
 ·skip
  have h6:=dT h6b;refine wk ?_;refine Ad rfl rfl<|?_
  exact ⟨(M.weaken (cN (sR _))),by rw [Iu (by first | exact Z1 h0 (by assumption) | exact fun h_=>absurd h_.1 (by omega))]⟩
 have h7:=dF h7b;refine wk ?_
 rcases bE (decide (64 < c.cap)) with h8b | h9b
 ·skip
  have h8:=dT h8b;refine wk ?_;refine Ad rfl rfl<|?_
  exact ⟨(M.weaken (cN (sR _))),by rw [Iu (by first | exact Z1 h0 (by assumption) | exact fun h_=>absurd h_.1 (by omega))]⟩
 have h9:=dF h9b;refine wk ?_;refine A4 ent156 rfl rfl (Agb (xs:=c.kinds) M SC)<|?_;clear M;rintro _ w M ⟨b10,rfl,hb10⟩
 refine wk ?_;refine Ae rfl ?_ ?_
 ·intro h11b;have h11:(b10)=true:=h11b;refine wk ?_;refine Ad rfl rfl<|?_
  exact ⟨(M.weaken (cN (sR _))),by rw [Iu (by first | exact Z1 hb10 (by assumption) | exact fun h_=>absurd h_.1 (by omega))]⟩
 intro h12b;have h12:(b10)=false:=h12b;refine wk ?_;refine Ad rfl rfl<|?_
 exact ⟨(M.weaken (cN (sR _))),by rw [Np (by first | exact vc_yes (by omega) hb10 (by assumption) | exact ⟨⟨⟨by omega,by omega⟩,by omega,by omega⟩,D8 hA (by omega)⟩)]⟩
set_option maxHeartbeats 1600000
theorem tren_s (M:Mem w0 G L w) {k:KindD} {ta ka:Option Addr} {tc kc:Nat} (hk:Au .u8 k.part.kind) (hl:(k.part.tag.length≤9223372036854775807∧k.part.key.length≤9223372036854775807∧k.part.text.length≤9223372036854775807)) (SA:Ag T.rdSlot 3 G (.slice ta k.part.as.length tc) k.part.as) (SK:Ag T.rdP 6 G (.slice ka k.part.kids.length kc) k.part.kids) {x:ItemD} {ma:Option Addr} {mc:Nat} (hI:(x.key < 18446744073709551616∧x.typ < 256∧x.text.length≤9223372036854775807)) (SM:Ag Cf 1 G (.slice ma x.marks.length mc) x.marks) {most:Int}:Calls Tryz.prog 157 #[.agg #[.int .u8 k.part.kind,.string (str k.part.tag),.string (str k.part.key),.slice ta k.part.as.length tc,.string (str k.part.text),.slice ka k.part.kids.length kc],.agg #[.int .u64 ((x.key:Nat):Int),.int .u8 ((x.typ:Nat):Int),.string (str x.text),.slice ma x.marks.length mc],.int .i64 most] w (Bu w0 G L fun v=>∃ (n1:Int) (s1 s2 s3:ByteArray) (a1 a2:Option Addr) (l1 c1 l2 c2:Nat),v=.tuple #[.agg #[.int .u8 n1,.string s1,.string s2,.slice a1 l1 c1,.string s3,.slice a2 l2 c2],.int .i64 (T.rendE k.part (tI x) most)]):=by
 refine Ret.plain M ((T.trender_spec (x:=tI x) (most:=most) M hk hl SA SK hI.2.2 SM (Amz hI.1)).mono ?_);intro e w' h
 cases e with
 | returned v=>obtain ⟨G',h1,h2,⟨_,_,rfl,_⟩⟩:=h;exact ⟨G',h1,h2,_,_,_,_,_,_,_,_,_,_,rfl⟩
 | panicked c=>exact h
 | outgrown=>exact h
theorem Aol (M:Mem w0 G L w) {k:KindD} {ta ka:Option Addr} {tc kc:Nat} (hk:Au .u8 k.part.kind) (hl:(k.part.tag.length≤9223372036854775807∧k.part.key.length≤9223372036854775807∧k.part.text.length≤9223372036854775807)) (SA:Ag T.rdSlot 3 G (.slice ta k.part.as.length tc) k.part.as) (SK:Ag T.rdP 6 G (.slice ka k.part.kids.length kc) k.part.kids) {x:ItemD} {ma:Option Addr} {mc:Nat} (hI:(x.key < 18446744073709551616∧x.typ < 256∧x.text.length≤9223372036854775807)) (SM:Ag Cf 1 G (.slice ma x.marks.length mc) x.marks) {most:Int}:Calls Tryz.prog 111 #[.agg #[.int .u8 k.part.kind,.string (str k.part.tag),.string (str k.part.key),.slice ta k.part.as.length tc,.string (str k.part.text),.slice ka k.part.kids.length kc],.agg #[.int .u64 ((x.key:Nat):Int),.int .u8 ((x.typ:Nat):Int),.string (str x.text),.slice ma x.marks.length mc],.int .i64 most] w (Bu w0 G L fun v=>∃ (n1:Int) (s1 s2 s3:ByteArray) (a1 a2:Option Addr) (l1 c1 l2 c2:Nat),v=.tuple #[.agg #[.int .u8 n1,.string s1,.string s2,.slice a1 l1 c1,.string s3,.slice a2 l2 c2],.int .i64 (T.rendE k.part (tI x) most)]):=by
 refine Ret.plain M ((T.rrender_spec (x:=tI x) (most:=most) M hk hl SA SK hI.2.2 SM (Amz hI.1)).mono ?_);intro e w' h
 cases e with
 | returned v=>obtain ⟨G',h1,h2,⟨_,_,_,_,rfl,_⟩⟩:=h;exact ⟨G',h1,h2,_,_,_,_,_,_,_,_,_,_,rfl⟩
 | panicked c=>exact h
 | outgrown=>exact h
theorem Q9 (M:Mem w0 G L w) {c:RulesD} {kca:Option Addr} {kcc:Nat} (SC:Ag Cb 9 G (.slice kca c.kinds.length kcc) c.kinds) {x:ItemD} {ma:Option Addr} {mc:Nat} (hI:(x.key < 18446744073709551616∧x.typ < 256∧x.text.length≤9223372036854775807)) (SM:Ag Cf 1 G (.slice ma x.marks.length mc) x.marks) {k:KindD} (hK:c.kinds[x.typ]?=some k):Calls Tryz.prog 113 #[.agg #[.slice kca c.kinds.length kcc,.int .i64 c.cap],.agg #[.int .u64 ((x.key:Nat):Int),.int .u8 ((x.typ:Nat):Int),.string (str x.text),.slice ma x.marks.length mc]] w (Bu w0 G L fun v=>∃ (n1:Int) (s1 s2 s3:ByteArray) (a1 a2:Option Addr) (l1 c1 l2 c2:Nat),v=.tuple #[.agg #[.int .u8 n1,.string s1,.string s2,.slice a1 l1 c1,.string s3,.slice a2 l2 c2],.int .i64 (Gu c x)]):=by
 refine Al (vs:=[_,_]) Tryz.func113 rfl (n:=19) rfl rfl<|?_
 refine Bt<|?_
 refine B2 M rfl rfl rfl<|?_;clear M;intro b1 w M
 refine B2 M rfl rfl rfl<|?_;clear M;intro b2 w M
 refine B1 M Aw rfl rfl<|?_;clear M;intro b3 w M
 refine wk ?_;refine fun a F=>D5 [(.free,0),(.pure,1),(.free,2),(.pure,3),(.free,4),(.free,5),(.pure,6),(.pure,7),(.free,8),(.pure,9),(.keep,10),(.free,11),(.free,12),(.chg,13),(.free,14)] [13] (Keep G [.blk b2 [.int .u64 ((x.key:Nat):Int),.int .u8 ((x.typ:Nat):Int),.string (str x.text),.slice ma x.marks.length mc] 26,.blk b1 [.slice kca c.kinds.length kcc,.int .i64 c.cap] 51]) rfl (by kernel_rfl) (fun c a d v w h=>by cases d <;> exact h) (Ax (M.drew _)) ?_;replace M:=M.drew (w.drawn+1);revert a;refine wk ?_;obtain ⟨be5,oe5,_,Ie5,_,Ae5,hTe5⟩:=SC.at hK;obtain ⟨c1e5,hcse5,hPe5,hBe5⟩:=hTe5;obtain ⟨tae5,tce5,kae5,kce5,rfl,hke5,hle5,SAe5,SKe5⟩:=Dn hPe5;subst hcse5;have hQe5:-9223372036854775808≤k.base∧k.base≤9223372036854775807:=hBe5;refine wk ?_;refine k_k rfl<|A4 ent157 rfl rfl (tren_s (k:=k) (x:=x) (most:=c.cap) M hke5 hle5 SAe5 SKe5 hI SM)<|?_;clear M;rintro _ w M ⟨n1n6,s1n6,s2n6,s3n6,a1n6,a2n6,l1n6,c1n6,l2n6,c2n6,rfl⟩
 refine Ao<|?_
 refine eQ (Ax M)<|?_
 refine wk ?_;refine k_c rfl<|fun a F=>?_
 refine Be F M Aw 0 ?_;clear F M a;intro w a M F;revert a;refine Ao<|?_
 refine fun a F=>⟨Keep G [.blk b3 [.int .u8 n1n6,.string s1n6,.string s2n6,.slice a1n6 l1n6 c1n6,.string s3n6,.slice a2n6 l2n6 c2n6] 193,.blk b2 [.int .u64 ((x.key:Nat):Int),.int .u8 ((x.typ:Nat):Int),.string (str x.text),.slice ma x.marks.length mc] 26,.blk b1 [.slice kca c.kinds.length kcc,.int .i64 c.cap] 51],M.keep (Gle.refl _) (by simp),?_⟩;revert a;refine wk ?_;refine fun a F=>Bs F M (k:=0) rfl rfl Aw rfl rfl rfl rfl ?_
 exact ⟨M.weaken dS3,_,_,_,_,_,_,_,_,_,_,by rw [Nw hK]⟩
theorem Aop {c:RulesD} {x:ItemD} (hc:Cy c) (hx:ItemOk (c.kinds.length:Int) x) (h:¬ 0 < Gu c x):Gu c x=0:=by
 rcases Aer hc hx with h1 | h1 <;> omega
theorem Ky (M:Mem w0 G L w) {c:RulesD} {kca:Option Addr} {kcc:Nat} (SC:Ag Cb 9 G (.slice kca c.kinds.length kcc) c.kinds) (hvc:Cy c) {x:ItemD} {ma:Option Addr} {mc:Nat} (hI:(x.key < 18446744073709551616∧x.typ < 256∧x.text.length≤9223372036854775807)) (SM:Ag Cf 1 G (.slice ma x.marks.length mc) x.marks) {sn:Int}:Calls Tryz.prog 66 #[.agg #[.slice kca c.kinds.length kcc,.int .i64 c.cap],.agg #[.int .u64 ((x.key:Nat):Int),.int .u8 ((x.typ:Nat):Int),.string (str x.text),.slice ma x.marks.length mc],.int .i64 sn] w (Bu w0 G L fun v=>v=.int .i64 (Dw c x (sn=1))):=by
 refine Al (vs:=[_,_,_]) Tryz.func66 rfl (n:=33) rfl rfl<|?_
 refine Bt<|?_
 refine B2 M rfl rfl rfl<|?_;clear M;intro b1 w M
 refine B2 M rfl rfl rfl<|?_;clear M;intro b2 w M
 refine wk ?_;refine A4 ent57 rfl rfl (L3 (x:=x) (t:=((c.kinds.length:Nat):Int)) M hI SM)<|?_;clear M;rintro _ w M rfl
 refine wk ?_;refine qD rfl ?_ ?_
 ·intro h3;refine wk ?_;refine Ad rfl rfl<|?_
  exact ⟨M.weaken dS2,by rw [Pa (itmF_gt (by assumption))]⟩
 intro h4;refine wk ?_;refine qD rfl ?_ ?_
 ·intro h5;refine wk ?_;refine Ad rfl rfl<|?_
  exact ⟨M.weaken dS2,by rw [R7 (Ahv (by assumption)) (by assumption)]⟩
 intro h6;refine wk ?_;have hok:=Ahv (t:=(c.kinds.length:Int)) (x:=x) (by omega);obtain ⟨k,hK⟩:=Iq hok;intro a F;refine Ic (.run 0 (.run 1 (.run 2 (.run 3 (.run 4 (.run 5 (.run 6 (.run 7 (.run 8 (.run 9 (.act 10 (.run 11 (.run 12 (.run 13 (.act 14 (.act 15 (.run 16 .fin) .no) .no)))) (.act 14 (.act 10 (.run 11 (.run 12 (.run 13 (.act 15 (.run 16 .fin) .no)))) .no) .no)))))))))))) (Keep G [.blk b2 [.int .u64 ((x.key:Nat):Int),.int .u8 ((x.typ:Nat):Int),.string (str x.text),.slice ma x.marks.length mc] 26,.blk b1 [.slice kca c.kinds.length kcc,.int .i64 c.cap] 51]) rfl (by kernel_rfl) (fun c a d v w h=>by cases d <;> exact h) (Ax (M.drew _)) ?_;replace M:=M.drew (w.drawn+1);revert a;refine wk ?_;obtain ⟨be7,oe7,_,Ie7,_,Ae7,hTe7⟩:=SC.at hK;obtain ⟨c1e7,hcse7,hPe7,hBe7⟩:=hTe7;obtain ⟨tae7,tce7,kae7,kce7,rfl,hke7,hle7,SAe7,SKe7⟩:=Dn hPe7;subst hcse7;have hQe7:-9223372036854775808≤k.base∧k.base≤9223372036854775807:=hBe7;refine wk ?_;refine fun a F=>A2 ?_ rfl ?_
 ·skip
  revert a;refine A4 Arz rfl rfl (Aol (k:=k) (x:=x) (most:=c.cap) M hke7 hle7 SAe7 SKe7 hI SM)<|?_;clear M;rintro _ w M ⟨n1n8,s1n8,s2n8,s3n8,a1n8,a2n8,l1n8,c1n8,l2n8,c2n8,rfl⟩
  refine Ao<|?_
  refine eQ (Ax M)<|?_
  refine wk ?_;refine fun a F=>A2 ?_ rfl Bl;revert a;refine B1 M Aw rfl rfl<|?_;clear M;intro b9 w M
  refine Ao<|?_
  refine eQ (Ax M)<|fun a F=>A2 ?_ rfl Bl
  refine Be F M Aw 0 ?_;clear F M a;intro w a M F;replace M:=z_M M;revert a;refine Ao<|?_
  refine eQ (Ax M)<|?_
  refine wk ?_;refine qD rfl ?_ ?_
  ·intro h11;refine wk ?_;refine Ad rfl rfl<|?_
   exact ⟨M.weaken dS3,by rw [Jb hok (by assumption) (by rw [Nw hK];omega)]⟩
  intro h12;refine wk ?_;refine Ad rfl rfl<|?_
  exact ⟨M.weaken dS3,by rw [J0 hok (by assumption) (Aop hvc hok (by rw [Nw hK];assumption))]⟩
 refine A2 ?_ rfl ?_
 ·skip
  revert a;refine B1 M Aw rfl rfl<|?_;clear M;intro b13 w M
  refine Ao<|?_
  refine eQ (Ax M)<|fun a F=>A2 ?_ rfl Bl
  revert a;refine A4 Arz rfl rfl (Aol (k:=k) (x:=x) (most:=c.cap) M hke7 hle7 SAe7 SKe7 hI SM)<|?_;clear M;rintro _ w M ⟨n1n15,s1n15,s2n15,s3n15,a1n15,a2n15,l1n15,c1n15,l2n15,c2n15,rfl⟩
  refine Ao<|?_
  refine eQ (Ax M)<|?_
  refine wk ?_;refine fun a F=>A2 ?_ rfl Bl;refine Be F M Aw 0 ?_;clear F M a;intro w a M F;replace M:=z_M M;revert a;refine Ao<|?_
  refine eQ (Ax M)<|?_
  refine wk ?_;refine qD rfl ?_ ?_
  ·intro h16;refine wk ?_;refine Ad rfl rfl<|?_
   exact ⟨M.weaken dS3,by rw [Jb hok (by assumption) (by rw [Nw hK];omega)]⟩
  intro h17;refine wk ?_;refine Ad rfl rfl<|?_
  exact ⟨M.weaken dS3,by rw [J0 hok (by assumption) (Aop hvc hok (by rw [Nw hK];assumption))]⟩
 exact Bl
theorem Mu (M:Mem w0 G L w) {b:Bool}:Calls Tryz.prog 78 #[.bool b] w (Bu w0 G L fun v=>v=.int .i64 (if b=true then (1:Int) else 0)):=by
 refine Al (vs:=[_]) Tryz.func78 rfl (n:=4) rfl rfl<|?_
 refine wk ?_;refine Ae rfl ?_ ?_
 ·intro h1b;have h1:(b)=true:=h1b;refine wk ?_;refine Ad rfl rfl<|?_
  exact ⟨M,by first | rw [if_pos (by assumption)] | rw [if_neg (by simp_all)]⟩
 intro h2b;have h2:(b)=false:=h2b;refine wk ?_;refine Ad rfl rfl<|?_
 exact ⟨M,by first | rw [if_pos (by assumption)] | rw [if_neg (by simp_all)]⟩
theorem Aan (M:Mem w0 G L w) {a1:Option Addr} {c1:Nat} {l:List EntD} (S:Ag Bg 6 G (.slice a1 l.length c1) l) {k:Nat}:Calls Tryz.prog 79 #[.slice a1 l.length c1,.int .u64 ((k:Nat):Int)] w (Bu w0 G L fun v=>∃ z:Int,v=.int .i64 z∧Po l k z):=by
 have bS:=S.bound;refine Al (vs:=[_,_]) Tryz.func79 rfl (n:=21) rfl rfl<|?_
 refine wk ?_;refine fun a F=>Ba (fun m a' w'=>∃ (i:Nat),m=l.length - i∧Fits 21 a' [(0,.slice a1 l.length c1),(1,.int .u64 ((k:Nat):Int)),(5,.int .i64 ((i:Nat):Int))]∧Mem w0 G (L) w'∧(i≤l.length)∧(∀ (m:Nat) (y:EntD),m < i→l[m]?=some y→y.item.key≠k)) _ ⟨0,rfl,F.to ⟨rfl,rfl,rfl,trivial⟩,M,Nat.zero_le _,fun m d h=>by omega⟩ ?_;clear F M;rintro m a w ⟨i,rfl,F,M,hi,hA⟩;revert a;refine wk ?_;refine qD rfl ?_ ?_
 ·intro h1;refine wk ?_;obtain ⟨Xe2,hXe2⟩:=Ap (xs:=l) (i:=i) (by omega);obtain ⟨be2,oe2,_,Ie2,_,Ae2,hTe2⟩:=S.at hXe2;obtain ⟨c1e2,hcse2,hPe2,hBe2⟩:=hTe2;obtain ⟨mae2,mce2,rfl,hke2,hte2,hxe2,hne2,SMe2⟩:=hPe2;subst hcse2;have hIe2:(Xe2.item.key < 18446744073709551616∧Xe2.item.typ < 256∧Xe2.item.text.length≤9223372036854775807):=⟨hke2,hte2,hxe2⟩;have hQe2:-9223372036854775808≤Xe2.size∧Xe2.size≤9223372036854775807:=hBe2;refine wk ?_;refine qD rfl ?_ ?_
  ·intro h3;refine wk ?_;refine Ad rfl rfl<|?_
   exact ⟨M,_,rfl,Po.some hA hXe2 (by omega)⟩
  intro h4;refine wk ?_;intro a F
  exact ⟨_,by omega,i+1,rfl,F.to ⟨rfl,rfl,rfl,trivial⟩,M,by omega,E1 (p:=fun y:EntD=>y.item.key≠k) hA hXe2 (by omega)⟩
 intro h5;refine wk ?_;refine Ad rfl rfl<|?_
 exact ⟨M,_,rfl,Po.none hA (by omega)⟩
theorem Ajp (M:Mem w0 G L w) {a1:Option Addr} {c1:Nat} {l:List EntD} (S:Ag Bg 6 G (.slice a1 l.length c1) l):Calls Tryz.prog 131 #[.slice a1 l.length c1] w (Bu w0 G L fun v=>v=.int .i64 (U3 l)):=by
 have bS:=S.bound;refine Al (vs:=[_]) Tryz.func131 rfl (n:=29) rfl rfl<|?_
 refine wk ?_;refine fun a F=>Ba (fun m a' w'=>∃ (i:Nat),∃ (z:Int),m=l.length - i∧Fits 29 a' [(0,.slice a1 l.length c1),(3,.int .u64 z),(4,.int .i64 ((i:Nat):Int))]∧Mem w0 G (L) w'∧(i≤l.length)∧(z=Gd (l.take i))∧(z≤4611686018427387904)) _ ⟨0,0,rfl,F.to ⟨rfl,rfl,rfl,trivial⟩,M,Nat.zero_le _,rfl,by omega⟩ ?_;clear F M;rintro m a w ⟨i,z,rfl,F,M,hi,hz,hz2⟩;revert a;refine wk ?_;refine qD rfl ?_ ?_
 ·intro h1;refine wk ?_;have hnn:=Mk (l.take i);refine wk ?_;obtain ⟨Xe2,hXe2⟩:=Ap (xs:=l) (i:=i) (by omega);obtain ⟨be2,oe2,_,Ie2,_,Ae2,hTe2⟩:=S.at hXe2;obtain ⟨c1e2,hcse2,hPe2,hBe2⟩:=hTe2;obtain ⟨mae2,mce2,rfl,hke2,hte2,hxe2,hne2,SMe2⟩:=hPe2;subst hcse2;have hIe2:(Xe2.item.key < 18446744073709551616∧Xe2.item.typ < 256∧Xe2.item.text.length≤9223372036854775807):=⟨hke2,hte2,hxe2⟩;have hQe2:-9223372036854775808≤Xe2.size∧Xe2.size≤9223372036854775807:=hBe2;refine wk ?_;refine qD rfl ?_ ?_
  ·intro h3;refine wk ?_;obtain ⟨be4,oe4,_,Ie4,_,Ae4,hTe4⟩:=S.at hXe2;obtain ⟨c1e4,hcse4,hPe4,hBe4⟩:=hTe4;obtain ⟨mae4,mce4,rfl,hke4,hte4,hxe4,hne4,SMe4⟩:=hPe4;subst hcse4;have hIe4:(Xe2.item.key < 18446744073709551616∧Xe2.item.typ < 256∧Xe2.item.text.length≤9223372036854775807):=⟨hke4,hte4,hxe4⟩;have hQe4:-9223372036854775808≤Xe2.size∧Xe2.size≤9223372036854775807:=hBe4;refine wk ?_;refine Am (fun a F=>Bh H4.k ⟨_,by rw [Bo Adr.k]⟩ (F.ev rfl) (Jc (by omega) (by omega))) rfl<|Am (fun a F=>Gi (F.ev rfl) (F.ev rfl) (Jc (by omega) (by omega))) rfl<|?_
   refine wk ?_;refine qD rfl ?_ ?_
   ·intro h5;refine wk ?_;refine Ad rfl rfl<|?_
    exact ⟨M,by rw [Xw (i:=i+1) (by rw [Iv hXe2];omega)]⟩
   intro h6;refine wk ?_;intro a F
   exact ⟨_,by omega,i+1,z+Xe2.size,rfl,F.to ⟨rfl,rfl,rfl,trivial⟩,M,by omega,by rw [Iv hXe2];omega,by omega⟩
  intro h7;refine wk ?_;refine qD rfl ?_ ?_
  ·intro h8;refine wk ?_;refine Ad rfl rfl<|?_
   exact ⟨M,by rw [Xw (i:=i+1) (by rw [Iv hXe2];omega)]⟩
  intro h9;refine wk ?_;intro a F
  exact ⟨_,by omega,i+1,z,rfl,F.to ⟨rfl,rfl,rfl,trivial⟩,M,by omega,by rw [Iv hXe2];omega,by omega⟩
 intro h10;refine wk ?_;have hnn:=Mk (l.take i);refine wk ?_;refine Am (fun a F=>Bh Adr.k ⟨_,by rw [Bo H4.k]⟩ (F.ev rfl) (Br (by omega) (by omega))) rfl<|?_
 refine wk ?_;refine Ad rfl rfl<|?_
 exact ⟨M,by rw [Agm hz (by omega) (by omega)]⟩
theorem Adn (M:Mem w0 G L w) {a1:Option Addr} {c1:Nat} {l:List EntD} (S:Ag Bg 6 G (.slice a1 l.length c1) l):Calls Tryz.prog 158 #[.agg #[.slice a1 l.length c1]] w (Bu w0 G L fun v=>v=.int .i64 (U3 l)):=by
 have bS:=S.bound;refine Al (vs:=[_]) Tryz.func158 rfl (n:=26) rfl rfl<|?_
 refine Bt<|?_
 refine B2 M rfl rfl rfl<|?_;clear M;intro b1 w M
 refine wk ?_;refine fun a F=>Ba (fun m a' w'=>∃ (i:Nat),∃ (z:Int),m=l.length - i∧Fits 26 a' [(1,.pointer (some ⟨b1,0,none⟩)),(8,.slice a1 l.length c1),(9,.int .i64 ((l.length:Nat):Int)),(3,.int .i64 z),(10,.int .i64 ((i:Nat):Int))]∧Mem w0 G (.blk b1 [.slice a1 l.length c1] 54::L) w'∧(i≤l.length)∧(z=Gd (l.take i))∧(z≤4611686018427387904)) _ ⟨0,0,rfl,F.to ⟨rfl,rfl,rfl,rfl,rfl,trivial⟩,M,Nat.zero_le _,rfl,by omega⟩ ?_;clear F M;rintro m a w ⟨i,z,rfl,F,M,hi,hz,hz2⟩;revert a;refine wk ?_;refine qD rfl ?_ ?_
 ·intro h2;refine wk ?_;have hnn:=Mk (l.take i);refine wk ?_;obtain ⟨Xe3,hXe3⟩:=Ap (xs:=l) (i:=i) (by omega);obtain ⟨be3,oe3,_,Ie3,_,Ae3,hTe3⟩:=S.at hXe3;obtain ⟨c1e3,hcse3,hPe3,hBe3⟩:=hTe3;obtain ⟨mae3,mce3,rfl,hke3,hte3,hxe3,hne3,SMe3⟩:=hPe3;subst hcse3;have hIe3:(Xe3.item.key < 18446744073709551616∧Xe3.item.typ < 256∧Xe3.item.text.length≤9223372036854775807):=⟨hke3,hte3,hxe3⟩;have hQe3:-9223372036854775808≤Xe3.size∧Xe3.size≤9223372036854775807:=hBe3;refine wk ?_;refine B1 M B9 rfl rfl<|?_;clear M;intro b4 w M
  intro a F;refine Be F M B9 0 ?_;clear F M a;intro w a M F;replace M:=z_M M;revert a;refine wk ?_;refine Am (fun a F=>Aag (F.ev rfl) (F.ev rfl)) rfl<|?_
  refine wk ?_;refine qD rfl ?_ ?_
  ·intro h6;refine wk ?_;refine Ad rfl rfl<|?_
   exact ⟨M.weaken dS2,by rw [Xw (i:=i+1) (by rw [Iv hXe3];omega)]⟩
  intro h7;refine wk ?_;intro a F
  exact ⟨_,by omega,i+1,z+(max (Xe3.size) 0),rfl,F.to ⟨rfl,rfl,rfl,rfl,rfl,trivial⟩,(M.weaken (cN (cC (sR _)))),by omega,by rw [Iv hXe3];omega,by omega⟩
 intro h8;refine wk ?_;refine Ad rfl rfl<|?_
 exact ⟨M.weaken dS1,by rw [Agm hz (by omega) (by omega)]⟩
theorem Tb (M:Mem w0 G L w) {a1:Option Addr} {c1:Nat} {l:List EntD} (S:Ag Bg 6 G (.slice a1 l.length c1) l):Calls Tryz.prog 80 #[.slice a1 l.length c1] w (Bu w0 G L fun v=>v=.int .i64 (Db l)):=by
 refine Al (vs:=[_]) Tryz.func80 rfl (n:=6) rfl rfl<|?_
 refine wk ?_;refine A4 ent131 rfl rfl (Ajp (l:=l) M S)<|?_;clear M;rintro _ w M rfl
 refine wk ?_;refine qD rfl ?_ ?_
 ·intro h1;refine wk ?_;refine Ad rfl rfl<|?_
  exact ⟨M,by rw [Ahe (by assumption)]⟩
 intro h2;refine wk ?_;refine Ad rfl rfl<|?_
 exact ⟨M,by rw [Aav (by assumption)]⟩
theorem Wa (M:Mem w0 G L w) {a1:Option Addr} {c1:Nat} {l:List EntD} (S:Ag Bg 6 G (.slice a1 l.length c1) l):Calls Tryz.prog 115 #[.agg #[.slice a1 l.length c1]] w (Bu w0 G L fun v=>v=.int .i64 (Db l)):=by
 refine Al (vs:=[_]) Tryz.func115 rfl (n:=6) rfl rfl<|?_
 refine Bt<|?_
 refine B2 M rfl rfl rfl<|?_;clear M;intro b1 w M
 refine wk ?_;refine A4 ent158 rfl rfl (Adn (l:=l) M S)<|?_;clear M;rintro _ w M rfl
 refine wk ?_;refine qD rfl ?_ ?_
 ·intro h2;refine wk ?_;refine Ad rfl rfl<|?_
  exact ⟨M.weaken dS1,by rw [Ahe (by assumption)]⟩
 intro h3;refine wk ?_;refine Ad rfl rfl<|?_
 exact ⟨M.weaken dS1,by rw [Aav (by assumption)]⟩
theorem Ma (M:Mem w0 G L w) {c:RulesD} {kca:Option Addr} {kcc:Nat} (SC:Ag Cb 9 G (.slice kca c.kinds.length kcc) c.kinds) {a1:Option Addr} {c1:Nat} {l:List EntD} (S:Ag Bg 6 G (.slice a1 l.length c1) l):Calls Tryz.prog 68 #[.agg #[.slice kca c.kinds.length kcc,.int .i64 c.cap],.agg #[.slice a1 l.length c1]] w (Bu w0 G L fun v=>v=.int .i64 (Bb c l)):=by
 have bS:=S.bound;refine Al (vs:=[_,_]) Tryz.func68 rfl (n:=81) rfl rfl<|?_
 refine Bt<|?_
 refine B2 M rfl rfl rfl<|?_;clear M;intro b1 w M
 refine B2 M rfl rfl rfl<|?_;clear M;intro b2 w M
 refine wk ?_;refine A4 ent112 rfl rfl (Adl (c:=c) M SC)<|?_;clear M;rintro _ w M rfl
 refine wk ?_;refine Ae rfl ?_ ?_
 ·intro h3b;have h3:=dF (Ab h3b);have h3c:(decide (Kr c=0))=false:=(Ab h3b);refine wk ?_;refine Ad rfl rfl<|?_
  exact ⟨M.weaken dS2,by rw [Aiv (fun h_=>by have h9_:=Np h_;omega),Iu (fun h_=>by have h9_:=Np h_;omega)]⟩
 intro h4b;have h4:=dT (Ac h4b);have h4c:(decide (Kr c=0))=true:=(Ac h4b);refine wk ?_;refine qD rfl ?_ ?_
 ·intro h5;refine wk ?_;refine Ad rfl rfl<|?_
  exact ⟨M.weaken dS2,by rw [Aiw (Qx.1 (by omega)) (by omega)]⟩
 intro h6;refine wk ?_;intro a F;refine Td (kt:=23) (et:=4) F M rfl ?_;clear F M a;intro bm7 w a M F;revert a;refine wk ?_;have hv:Cy c:=Qx.1 (Classical.byContradiction fun h_=>by first | omega | simp_all);intro a F;refine Ba (fun m a' w'=>∃ (i:Nat),∃ (es:Array MapEntry),∃ (cl:Nat),∃ (ks:List Nat),m=l.length - i∧Fits 81 a' [(2,.pointer (some ⟨b1,0,none⟩)),(3,.pointer (some ⟨b2,0,none⟩)),(6,.map (some bm7)),(23,.slice a1 l.length c1),(24,.int .i64 ((l.length:Nat):Int)),(25,.int .i64 ((i:Nat):Int))]∧Mem w0 G (.obj bm7 (.map es cl)::.blk b2 [.slice a1 l.length c1] 54::.blk b1 [.slice kca c.kinds.length kcc,.int .i64 c.cap] 51::L) w'∧(i≤l.length)∧(Il es ks)∧(Fb l i ks)∧(Bm (Hi c l) i=0)) _ ⟨0,#[],0,([]:List Nat),rfl,F.to ⟨rfl,rfl,rfl,rfl,rfl,rfl,trivial⟩,M,Nat.zero_le _,Il.nil,Fb.zero l,rfl⟩ ?_;clear F M;rintro m a w ⟨i,es,cl,ks,rfl,F,M,hi,Es,hks,hS⟩;revert a;refine wk ?_;refine qD rfl ?_ ?_
 ·intro h8;refine wk ?_;obtain ⟨Xe9,hXe9⟩:=Ap (xs:=l) (i:=i) (by omega);obtain ⟨be9,oe9,_,Ie9,_,Ae9,hTe9⟩:=S.at hXe9;obtain ⟨c1e9,hcse9,hPe9,hBe9⟩:=hTe9;obtain ⟨mae9,mce9,rfl,hke9,hte9,hxe9,hne9,SMe9⟩:=hPe9;subst hcse9;have hIe9:(Xe9.item.key < 18446744073709551616∧Xe9.item.typ < 256∧Xe9.item.text.length≤9223372036854775807):=⟨hke9,hte9,hxe9⟩;have hQe9:-9223372036854775808≤Xe9.size∧Xe9.size≤9223372036854775807:=hBe9;refine wk ?_;refine B1 M B9 rfl rfl<|?_;clear M;intro b10 w M
  intro a F;refine Be F M B9 0 ?_;clear F M a;intro w a M F;replace M:=z_M M;revert a;refine wk ?_;refine A4 Aco rfl rfl (Ji (x:=Xe9.item) (t:=((c.kinds.length:Nat):Int)) M hIe9 SMe9)<|?_;clear M;rintro _ w M rfl
  refine wk ?_;refine Ae rfl ?_ ?_
  ·intro h12b;have h12:=dF (Ab h12b);have h12c:(decide (Gq ((c.kinds.length:Nat):Int) Xe9.item=0))=false:=(Ab h12b);refine wk ?_;refine Ad rfl rfl<|?_
   exact ⟨M.weaken dS4,by rw [ck6 hv (by omega) hS hXe9 (fun h_=>by have h9_:=Cv h_;omega),Dt (fun h_=>by have h9_:=Cv h_;omega)]⟩
  intro h13b;have h13:=dT (Ac h13b);have h13c:(decide (Gq ((c.kinds.length:Nat):Int) Xe9.item=0))=true:=(Ac h13b);refine wk ?_;have hok:ItemOk (c.kinds.length:Int) Xe9.item:=Cz.1 (by omega);obtain ⟨k,hK⟩:=Iq hok;refine wk ?_;refine fun a F=>Te F M (k:=1) rfl Es Lm.k H4.k Amq rfl rfl rfl rfl ?_;clear F a;intro a F;revert a;refine Ao<|F1<|?_
  refine qD rfl ?_ ?_
  ·intro h14;refine wk ?_;refine Ad rfl rfl<|?_
   exact ⟨M.weaken dS4,by rw [ck8 hv (by omega) hS hXe9 hok ((hks _).1 (by assumption))]⟩
  intro h15;refine wk ?_;intro a F;refine P6 (z:=Xe9.item.key) F M (k:=1) rfl Es Lm.k H4.k rfl rfl rfl (by assumption) ?_;clear F M a;intro esm16 clm16 w a Em16 M F;revert a;refine wk ?_;refine A4 Ary rfl rfl (Q9 (c:=c) (x:=Xe9.item) M SC hIe9 SMe9 hK)<|?_;clear M;rintro _ w M ⟨n1n17,s1n17,s2n17,s3n17,a1n17,a2n17,l1n17,c1n17,l2n17,c2n17,rfl⟩
  refine wk ?_;refine B1 M Aw rfl rfl<|?_;clear M;intro b18 w M
  intro a F;refine Be F M Aw 0 ?_;clear F M a;intro w a M F;revert a;refine Ew rfl<|Bt<|C0 rfl<|s_ne rfl rfl<|Ao<|F1<|?_
  refine Ae rfl ?_ ?_
  ·intro h20b;have h20:=dF (Ab h20b);have h20c:(decide (Gu c Xe9.item=0))=false:=(Ab h20b);refine Bt<|Ew rfl<|E9<|Gr<|Kd<|Gr<|Gr<|Kd<|Gr<|?_
   refine Ad rfl rfl<|?_
   exact ⟨M.weaken dS5,by rw [ck14 hv (by omega) hS hXe9 hok (fun h_=>absurd ((hks _).2 h_) (by assumption)) (by omega)]⟩
  intro h21b;have h21:=dT (Ac h21b);have h21c:(decide (Gu c Xe9.item=0))=true:=(Ac h21b);refine F3<|Cj<|?_
  refine fun a F=>D5 [(.free,0),(.pure,1),(.keep,2),(.free,3),(.free,4),(.free,5),(.pure,6),(.free,7),(.free,8),(.free,9),(.pure,10),(.free,11),(.pure,12),(.free,13),(.free,14),(.pure,15),(.free,16),(.free,17),(.pure,18),(.free,19),(.free,20),(.free,21)] [] (Keep G [.blk b18 [.int .u8 n1n17,.string s1n17,.string s2n17,.slice a1n17 l1n17 c1n17,.string s3n17,.slice a2n17 l2n17 c2n17] 193,.blk b10 [.int .u64 ((Xe9.item.key:Nat):Int),.int .u8 ((Xe9.item.typ:Nat):Int),.string (str Xe9.item.text),.slice mae9 Xe9.item.marks.length mce9,.int .i64 Xe9.size,.bool Xe9.known] 69,.obj bm7 (.map esm16 clm16),.blk b2 [.slice a1 l.length c1] 54,.blk b1 [.slice kca c.kinds.length kcc,.int .i64 c.cap] 51]) rfl (by kernel_rfl) (fun c a d v w h=>by cases d <;> exact h) (Ax (M.drew _)) ?_;replace M:=M.drew (w.drawn+1);revert a;refine wk ?_;refine k_k rfl<|A4 Arx rfl rfl (Ro (n:=Xe9.size) M)<|?_;clear M;rintro _ w M rfl
  refine Ao<|?_
  refine eQ (Ax M)<|?_
  refine wk ?_
  rcases bE (!(decide (1≤Xe9.size∧Xe9.size≤2305843009213693952))) with h22b | h23b
  ·skip
   have h22:=dF (Ab h22b);have h22c:(decide (1≤Xe9.size∧Xe9.size≤2305843009213693952))=false:=(Ab h22b);refine wk ?_;refine Ad rfl rfl<|?_
   exact ⟨M.weaken dS5,by rw [ck12 hv (by omega) hS hXe9 hok (fun h_=>absurd ((hks _).2 h_) (by assumption)) (by omega) (by unfold H0;rw [H2 hK];clear M;grind)]⟩
  have h23:=dT (Ac h23b);have h23c:(decide (1≤Xe9.size∧Xe9.size≤2305843009213693952))=true:=(Ac h23b);refine wk ?_
  rcases bE (!(Xe9.known)) with h24b | h28b
  ·skip
   have h24:=Ab h24b;have h24c:(Xe9.known)=false:=(Ab h24b);refine wk ?_;obtain ⟨be25,oe25,_,Ie25,_,Ae25,hTe25⟩:=SC.at hK;obtain ⟨c1e25,hcse25,hPe25,hBe25⟩:=hTe25;obtain ⟨tae25,tce25,kae25,kce25,rfl,hke25,hle25,SAe25,SKe25⟩:=Dn hPe25;subst hcse25;have hQe25:-9223372036854775808≤k.base∧k.base≤9223372036854775807:=hBe25;refine wk ?_;refine Ae rfl ?_ ?_
   ·intro h26b;have h26:=dF (Ab h26b);have h26c:(decide (Xe9.size=k.base))=false:=(Ab h26b);refine wk ?_;refine Ad rfl rfl<|?_
    exact ⟨M.weaken dS5,by rw [ck12 hv (by omega) hS hXe9 hok (fun h_=>absurd ((hks _).2 h_) (by assumption)) (by omega) (by unfold H0;rw [H2 hK];clear M;grind)]⟩
   intro h27b;have h27:=dT (Ac h27b);have h27c:(decide (Xe9.size=k.base))=true:=(Ac h27b);refine wk ?_;intro a F
   exact ⟨_,by omega,i+1,esm16,clm16,(Xe9.item.key::ks),rfl,F.to ⟨rfl,rfl,rfl,rfl,rfl,rfl,trivial⟩,(M.weaken (cN (.cons _ (cC (.cons_cons _ (cC (sR _))))))),by omega,Em16,hks.step hXe9,ck0 hS hXe9 hok (fun h_=>absurd ((hks _).2 h_) (by assumption)) (by omega) (by unfold H0;rw [H2 hK];clear F M;grind)⟩
  have h28:=Ac h28b;have h28c:(Xe9.known)=true:=(Ac h28b);refine wk ?_;intro a F
  exact ⟨_,by omega,i+1,esm16,clm16,(Xe9.item.key::ks),rfl,F.to ⟨rfl,rfl,rfl,rfl,rfl,rfl,trivial⟩,(M.weaken (cN (.cons _ (cC (.cons_cons _ (cC (sR _))))))),by omega,Em16,hks.step hXe9,ck0 hS hXe9 hok (fun h_=>absurd ((hks _).2 h_) (by assumption)) (by omega) (by unfold H0;rw [H2 hK];clear F M;grind)⟩
 intro h29;refine wk ?_;refine A4 Uo rfl rfl (Wa (l:=l) M S)<|?_;clear M;rintro _ w M rfl
 refine wk ?_;refine Ad rfl rfl<|?_
 exact ⟨M.weaken dS3,by rw [I3 hv (by omega) hS (by omega)]⟩
open Go Go.Y
def Bp (c:RulesD) (x:ItemD):EntD:=⟨x,Dc c x,false⟩
def Av (a n m:Int):Prop:=(0≤a∧a≤m)∧(0≤n∧n≤m - a)
instance (a n m:Int):Decidable (Av a n m):=by unfold Av;infer_instance
def Je (xs:List ItemD) (k:Nat):Prop:=∃ y∈xs,y.key=k
theorem Kq.has {xs:List ItemD} {k:Nat} {z:Int} (h:Kq xs k z):0≤z↔Je xs k:=by
 rcases h with ⟨rfl,h⟩ | ⟨i,x,rfl,h1,h2,h3⟩
 ·exact ⟨fun h2=>by omega,fun ⟨y,hy,hk⟩=>absurd hk (h y hy)⟩
 exact ⟨fun _=>⟨x,List.mem_of_getElem? h1,h2⟩,fun _=>by omega⟩
noncomputable def Nl (c:RulesD) (l:List EntD) (xs:List ItemD) (i:Nat):Int:=match xs[i]? with
 | some x=>Dw c x (Cx l x.key∨Je (xs.take i) x.key)
 | none=>0
theorem N6 {c:RulesD} {l:List EntD} {xs:List ItemD} {i:Nat} {x:ItemD} (h:xs[i]?=some x):Nl c l xs i=Dw c x (Cx l x.key∨Je (xs.take i) x.key):=by unfold Nl;rw [h]
noncomputable def Lg (c:RulesD) (l:List EntD) (xs:List ItemD):Int:=Bm (Nl c l xs) xs.length
theorem inc_hit {c:RulesD} {l:List EntD} {xs:List ItemD} {i:Nat} {x:ItemD} {z:Int} (h:Bm (Nl c l xs) i=0) (hx:xs[i]?=some x) (hz:Dw c x (Cx l x.key∨Je (xs.take i) x.key)=z) (h0:z≠0):Lg c l xs=z:=by
 have h1:Nl c l xs i≠0:=by rw [N6 hx,hz];exact h0
 unfold Lg;rw [Jg h (A0 hx) h1,N6 hx,hz]
theorem inc_end {c:RulesD} {l:List EntD} {xs:List ItemD} {i:Nat} (h:Bm (Nl c l xs) i=0) (hi:xs.length≤i):Lg c l xs=0:=Dh.2 fun j hj=>Dh.1 h j (by omega)
theorem W5 {f:Nat→Int} (h:∀ i,0≤f i):∀ n,0≤Bm f n
 | 0=>Int.le_refl _
 | n+1=>by simp only [Bm];split;exact h n;exact W5 h n
theorem inc_nn {c:RulesD} {l:List EntD} {xs:List ItemD}:0≤Lg c l xs:=W5 (fun i=>by unfold Nl;split;exact Ud;decide) _
def Ci (l:List EntD) (p n:Nat) (fr:List EntD):List EntD:=l.take p++fr++l.drop (p+n)
open Classical in
noncomputable def F8 (c:RulesD) (l:List EntD) (a:Int) (xs:List ItemD):List EntD × Int :=
 if ¬ Av a 0 l.length then ([],4) else if 1024 < l.length+xs.length then ([],3) else if Lg c l xs≠0 then ([],Lg c l xs)
 else if Db (Ci l a.toNat 0 (xs.map (Bp c)))≠0 then ([],13) else (Ci l a.toNat 0 (xs.map (Bp c)),0)
section
variable {c:RulesD} {l:List EntD} {a:Int} {xs:List ItemD} {p:Nat}
theorem Wx (h:¬ Av a 0 l.length):F8 c l a xs=([],4):=by unfold F8;rw [if_pos h]
theorem Ahx (h:Av a 0 l.length) (h2:1024 < l.length+xs.length):F8 c l a xs=([],3):=by unfold F8;rw [if_neg (not_not_intro h),if_pos h2]
theorem Ahw (h:Av a 0 l.length) (h2:¬ 1024 < l.length+xs.length) (h3:Lg c l xs≠0):F8 c l a xs=([],Lg c l xs):=by unfold F8;rw [if_neg (not_not_intro h),if_neg h2,if_pos h3]
theorem Ze (h:Av a 0 l.length) (h2:¬ 1024 < l.length+xs.length) (h3:Lg c l xs=0) (h4:Db (Ci l a.toNat 0 (xs.map (Bp c)))≠0):F8 c l a xs=([],13):=by
 unfold F8;rw [if_neg (not_not_intro h),if_neg h2,if_neg (not_not_intro h3),if_pos h4]
theorem Wy (h:Av a 0 l.length) (h2:¬ 1024 < l.length+xs.length) (h3:Lg c l xs=0) (h4:Db (Ci l a.toNat 0 (xs.map (Bp c)))=0):F8 c l a xs=(Ci l a.toNat 0 (xs.map (Bp c)),0):=by
 unfold F8;rw [if_neg (not_not_intro h),if_neg h2,if_neg (not_not_intro h3),if_neg (not_not_intro h4)]
end
def Le (l:List EntD) (a n:Int):List EntD × Int:=if Av a n l.length then (Ci l a.toNat n.toNat [],0) else ([],4)
theorem Agv {l:List EntD} {a n:Int} (h:¬ Av a n l.length):Le l a n=([],4):=by unfold Le;rw [if_neg h]
theorem V6 {l:List EntD} {a n:Int} (h:Av a n l.length):Le l a n=(Ci l a.toNat n.toNat [],0):=by unfold Le;rw [if_pos h]
def O3 (l:List EntD) (p n q:Nat):List EntD:=Ci (Ci l p n []) q 0 ((l.drop p).take n)
def Hs (l:List EntD) (a n b:Int):List EntD × Int:=if Av a n l.length∧Av b 0 (l.length - n) then (O3 l a.toNat n.toNat b.toNat,0) else ([],4)
theorem Ahi {l:List EntD} {a n b:Int} (h:¬ (Av a n l.length∧Av b 0 (l.length - n))):Hs l a n b=([],4):=by unfold Hs;rw [if_neg h]
theorem Ahj {l:List EntD} {a n b:Int} (h:Av a n l.length∧Av b 0 (l.length - n)):Hs l a n b=(O3 l a.toNat n.toNat b.toNat,0):=by unfold Hs;rw [if_pos h]
open Classical in
noncomputable def Pk (c:RulesD) (x:ItemD) (other:Prop):Int:=if ¬ ItemOk (c.kinds.length:Int) x then 6 else if other then 9 else if Gu c x=0 then 0 else 14
section
variable {c:RulesD} {x:ItemD} {other:Prop}
theorem Agf (h:¬ ItemOk (c.kinds.length:Int) x):Pk c x other=6:=by unfold Pk;rw [if_pos h]
theorem Age (h:ItemOk (c.kinds.length:Int) x) (h2:other):Pk c x other=9:=by unfold Pk;rw [if_neg (not_not_intro h),if_pos h2]
theorem Zq (h:ItemOk (c.kinds.length:Int) x) (h2:¬ other) (h3:¬ Gu c x=0):Pk c x other=14:=by unfold Pk;rw [if_neg (not_not_intro h),if_neg h2,if_neg h3]
theorem Aur (h:ItemOk (c.kinds.length:Int) x) (h2:¬ other) (h3:Gu c x=0):Pk c x other=0:=by unfold Pk;rw [if_neg (not_not_intro h),if_neg h2,if_pos h3]
theorem Alw:Pk c x other=0↔ItemOk (c.kinds.length:Int) x∧¬ other∧Gu c x=0:=by
 unfold Pk
 split
 ·rename_i h;exact ⟨fun h2=>(by cases h2),fun h2=>absurd h2.1 h⟩
 rename_i h
 split
 ·rename_i h1;exact ⟨fun h2=>(by cases h2),fun h2=>absurd h1 h2.2.1⟩
 rename_i h1
 split
 ·rename_i h2;exact ⟨fun _=>⟨Classical.byContradiction h,h1,h2⟩,fun _=>rfl⟩
 rename_i h2;exact ⟨fun h3=>(by cases h3),fun h3=>absurd h3.2.2 h2⟩
end
def Nz (l:List EntD) (p:Nat) (k:Nat):Prop:=∀ y,l[p]?=some y→y.item.key≠k
noncomputable def Ik (c:RulesD) (l:List EntD) (p:Nat) (xs:List ItemD) (i:Nat):Int:=match xs[i]? with
 | some x=>Pk c x (Nz l (p+i) x.key)
 | none=>0
theorem Uv {c:RulesD} {l:List EntD} {p:Nat} {xs:List ItemD} {i:Nat} {x:ItemD} (h:xs[i]?=some x):Ik c l p xs i=Pk c x (Nz l (p+i) x.key):=by unfold Ik;rw [h]
open Classical in
noncomputable def Jh (c:RulesD) (l:List EntD) (a:Int) (xs:List ItemD):List EntD × Int :=
 if ¬ Av a xs.length l.length then ([],4) else if Bm (Ik c l a.toNat xs) xs.length≠0 then ([],Bm (Ik c l a.toNat xs) xs.length)
 else if Db (Ci l a.toNat xs.length (xs.map (Bp c)))≠0 then ([],13) else (Ci l a.toNat xs.length (xs.map (Bp c)),0)
section
variable {c:RulesD} {l:List EntD} {a:Int} {xs:List ItemD} {i:Nat} {x:ItemD}
theorem Ait (h:¬ Av a xs.length l.length):Jh c l a xs=([],4):=by unfold Jh;rw [if_pos h]
theorem Xf {z:Int} (h:Av a xs.length l.length) (h2:Bm (Ik c l a.toNat xs) i=0) (hx:xs[i]?=some x) (hz:Pk c x (Nz l (a.toNat+i) x.key)=z) (h0:z≠0):Jh c l a xs=([],z):=by
 have h1:Ik c l a.toNat xs i≠0:=by rw [Uv hx,hz];exact h0
 have h3:=Jg h2 (A0 hx) h1;rw [Uv hx,hz] at h3;unfold Jh;rw [if_neg (not_not_intro h),if_pos (by rw [h3];exact h0),h3]
theorem Zp (h:Av a xs.length l.length) (h2:Bm (Ik c l a.toNat xs) xs.length=0) (h4:Db (Ci l a.toNat xs.length (xs.map (Bp c)))≠0):Jh c l a xs=([],13):=by
 unfold Jh;rw [if_neg (not_not_intro h),if_neg (not_not_intro h2),if_pos h4]
theorem Aiu (h:Av a xs.length l.length) (h2:Bm (Ik c l a.toNat xs) xs.length=0) (h4:Db (Ci l a.toNat xs.length (xs.map (Bp c)))=0):Jh c l a xs=(Ci l a.toNat xs.length (xs.map (Bp c)),0):=by
 unfold Jh;rw [if_neg (not_not_intro h),if_neg (not_not_intro h2),if_neg (not_not_intro h4)]
theorem chg_ok {p:Nat} (h2:Bm (Ik c l p xs) i=0) (hx:xs[i]?=some x) (hz:Pk c x (Nz l (p+i) x.key)=0):Bm (Ik c l p xs) (i+1)=0:=by rw [Fq h2,Uv hx,hz]
end
def Jk (l:List EntD) (p:Nat) (fr:List EntD) (i:Nat):List EntD:=(l.take i).take p++(if p < i then fr else [])++(l.take i).drop p
theorem Wz (l:List EntD) (p:Nat) (fr:List EntD):Jk l p fr 0=[]:=by simp [Jk]
theorem Kh {l:List EntD} {i:Nat} {x:EntD} (h:l[i]?=some x):l.take (i+1)=l.take i++[x]:=by rw [List.take_add_one,h];rfl
theorem Gw {l:List EntD} {fr:List EntD} {i p:Nat} {x:EntD} (h:l[i]?=some x) (hp:i=p):Jk l p fr i++fr++[x]=Jk l p fr (i+1):=by
 subst hp;have hl:(l.take i).length=i:=by rw [List.length_take];have:=A0 h;omega
 unfold Jk;rw [Kh h,if_neg (Nat.lt_irrefl i),if_pos (Nat.lt_succ_self i),List.take_append_of_le_length (by omega),List.drop_append_of_le_length (by omega)]
 simp
theorem Fh {l:List EntD} {p:Nat} {fr:List EntD} {i:Nat} {x:EntD} (h:l[i]?=some x) (hp:i≠p):Jk l p fr i++[x]=Jk l p fr (i+1):=by
 have hl:(l.take i).length=i:=by rw [List.length_take];have:=A0 h;omega
 unfold Jk;rw [Kh h]
 rcases Nat.lt_or_ge p i with h1 | h1
 ·rw [if_pos h1,if_pos (by omega),List.take_append_of_le_length (by omega),List.drop_append_of_le_length (by omega)]
  simp
 have h2:i < p:=by omega
 have e1:(l.take i).take p=l.take i:=List.take_of_length_le (by omega);have e2:(l.take i++[x]).take p=l.take i++[x]:=List.take_of_length_le (by simp;omega);have e3:(l.take i).drop p=[]:=List.drop_eq_nil_of_le (by omega);have e4:(l.take i++[x]).drop p=[]:=List.drop_eq_nil_of_le (by simp;omega);rw [if_neg (by omega),if_neg (by omega),e1,e2,e3,e4]
 simp
theorem Acb {l:List EntD} {p:Nat} {fr:List EntD} {i:Nat} (hp:p≤l.length) (hi:l.length < i):Jk l p fr i=Ci l p 0 fr:=by
 unfold Jk Ci;rw [List.take_of_length_le (show l.length≤i by omega),if_pos (by omega),Nat.add_zero]
theorem Fg {l:List EntD} {p:Nat} {fr:List EntD} {i:Nat} (hi:i=l.length) (hp:i=p):Jk l p fr i++fr=Jk l p fr (i+1):=by
 subst hp;unfold Jk;rw [List.take_of_length_le (show l.length≤i by omega),List.take_of_length_le (show l.length≤i+1 by omega),if_neg (Nat.lt_irrefl i),if_pos (Nat.lt_succ_self i),List.drop_eq_nil_of_le (by omega)]
 simp
theorem Ds {l:List EntD} {p:Nat} {fr:List EntD} {i:Nat} (hi:i=l.length) (hp:i≠p) (hpl:p≤l.length):Jk l p fr i=Jk l p fr (i+1):=by
 unfold Jk;rw [List.take_of_length_le (show l.length≤i by omega),List.take_of_length_le (show l.length≤i+1 by omega),if_pos (by omega),if_pos (by omega)]
def Tj (l:List EntD) (p n i:Nat):List EntD:=(l.take i).take p++(l.take i).drop (p+n)
theorem Ajz (l:List EntD) (p n:Nat):Tj l p n 0=[]:=by simp [Tj]
theorem Agw {l:List EntD} {p n i:Nat} {x:EntD} (h:l[i]?=some x) (hi:i < p∨p+n≤i):Tj l p n i++[x]=Tj l p n (i+1):=by
 have hl:(l.take i).length=i:=by rw [List.length_take];have:=A0 h;omega
 unfold Tj;rw [Kh h]
 rcases hi with h1 | h1
 ·have e1:(l.take i).take p=l.take i:=List.take_of_length_le (by omega);have e2:(l.take i++[x]).take p=l.take i++[x]:=List.take_of_length_le (by simp;omega);have e3:(l.take i).drop (p+n)=[]:=List.drop_eq_nil_of_le (by omega);have e4:(l.take i++[x]).drop (p+n)=[]:=List.drop_eq_nil_of_le (by simp;omega);rw [e1,e2,e3,e4]
  simp
 rw [List.take_append_of_le_length (by omega),List.drop_append_of_le_length (by omega)]
 simp
theorem Aor {l:List EntD} {p n i:Nat} {x:EntD} (h:l[i]?=some x) (h1:p≤i) (h2:i < p+n):Tj l p n i=Tj l p n (i+1):=by
 have hl:(l.take i).length=i:=by rw [List.length_take];have:=A0 h;omega
 unfold Tj;rw [Kh h,List.take_append_of_le_length (by omega),List.drop_eq_nil_of_le (by omega),List.drop_eq_nil_of_le (by simp;omega)]
theorem Aos {l:List EntD} {p n i:Nat} (hi:l.length≤i):Tj l p n i=Ci l p n []:=by
 unfold Tj Ci;rw [List.take_of_length_le hi];simp
theorem Alv {l:List EntD} {p i:Nat} {fr:List EntD} {x:EntD} (hx:fr[i]?=some x) (hp:p+fr.length≤l.length):(Ci l p i (fr.take i)).set (p+i) x=Ci l p (i+1) (fr.take (i+1)):=by
 have hi:=A0 hx;unfold Ci;rw [Kh hx];have h1:(l.take p).length=p:=by rw [List.length_take];omega
 have h2:(fr.take i).length=i:=by rw [List.length_take];omega
 rw [List.set_append_right _ _ (by simp;omega)];have h3:p+i - (l.take p++fr.take i).length=0:=by rw [List.length_append,h1,h2];omega
 have h4:l.drop (p+i)=l[p+i]'(by omega)::l.drop (p+(i+1)):=by rw [List.drop_eq_getElem_cons (by omega)];rfl
 rw [h3,h4,List.set_cons_zero]
 simp
theorem Alu (l:List EntD) (p:Nat):Ci l p 0 []=l:=by unfold Ci;simp
theorem I9 {l:List EntD} {p n:Nat} {fr:List EntD} (h:p+n≤l.length):(Ci l p n fr).length=l.length - n+fr.length:=by
 unfold Ci;simp;omega
theorem Km {l:List EntD} {p n:Nat} (h:p+n≤l.length):(Ci l p n []).length=l.length - n:=by rw [I9 h];simp
set_option maxHeartbeats 1600000
theorem R8 {p q:Prop} [Decidable p] [Decidable q] (h:p↔q):(if p then (1:Int) else 0)=if q then 1 else 0:=by
 by_cases hp:p
 ·rw [if_pos hp,if_pos (h.1 hp)]
 rw [if_neg hp,if_neg (fun hq=>hp (h.2 hq))]
theorem Zd {b:Bool}:(if b=true then (1:Int) else 0)=1↔b=true:=by
 split
 ·rename_i h;exact ⟨fun _=>h,fun _=>rfl⟩
 rename_i h;exact ⟨fun h2=>(by cases h2),fun h2=>absurd h2 h⟩
theorem Fv {a n m:Int}:(if Av a n m then (1:Int) else 0)=0↔¬ Av a n m:=by
 split
 ·rename_i h;exact ⟨fun h2=>(by cases h2),fun h2=>absurd h h2⟩
 rename_i h;exact ⟨fun _=>h,fun _=>rfl⟩
theorem Yp {c:RulesD} {x:ItemD} {sn:Prop} (h:¬ 0 < Dw c x sn):Dw c x sn=0:=by have:=Ud (c:=c) (x:=x) (seen:=sn);omega
theorem inc_ok {c:RulesD} {l:List EntD} {xs:List ItemD} (h:Lg c l xs=0) {i:Nat} {x:ItemD} (hx:xs[i]?=some x):ItemOk (c.kinds.length:Int) x:=by
 have h1:=Dh.1 h i (A0 hx);rw [N6 hx] at h1
 exact (Ep.1 h1).1
theorem L0 {c:RulesD} {G:Aq} {a:Option Addr} {n:Nat} (S:Ag Cb 9 G (.slice a c.kinds.length n) c.kinds) {x:ItemD} {k:KindD} (h:c.kinds[x.typ]?=some k):Au .i64 (Dc c x):=by
 rw [H2 h];obtain ⟨b,o,cs,_,_,_,_,hr⟩:=S.index h;obtain ⟨_,_,_,h3⟩:=hr
 exact h3
theorem J1 (M:Mem w0 G L w) {z n m:Int} (hm:0≤m∧m≤9223372036854775807):Calls Tryz.prog 121 #[.int .i64 z,.int .i64 n,.int .i64 m] w (Bu w0 G L fun v=>v=.int .i64 (if Av z n m then (1:Int) else 0)):=by
 refine Al (vs:=[_,_,_]) Tryz.func121 rfl (n:=26) rfl rfl<|?_
 refine wk ?_
 rcases bE (decide (0≤z)) with h1b | h6b
 ·skip
  have h1:=dT h1b;refine wk ?_
  rcases bE (decide (z≤m)) with h2b | h5b
  ·skip
   have h2:=dT h2b;refine wk ?_
   rcases bE (decide (0≤n)) with h3b | h4b
   ·skip
    have h3:=dT h3b;refine wk ?_;refine A4 W6 rfl rfl (Mu (b:=(decide (n≤m - z))) M)<|?_;clear M;rintro _ w M rfl
    refine wk ?_;refine Ad rfl rfl<|?_
    exact ⟨M,by rw [R8 (show ((decide (n≤m - z))=true)↔Av z n m by unfold Av;first | (simp only [decide_eq_true_eq];omega) | (simp only [Bool.false_eq_true,false_iff];omega))]⟩
   have h4:=dF h4b;refine wk ?_;refine A4 W6 rfl rfl (Mu (b:=false) M)<|?_;clear M;rintro _ w M rfl
   refine wk ?_;refine Ad rfl rfl<|?_
   exact ⟨M,by rw [R8 (show (false=true)↔Av z n m by unfold Av;first | (simp only [decide_eq_true_eq];omega) | (simp only [Bool.false_eq_true,false_iff];omega))]⟩
  have h5:=dF h5b;refine wk ?_;refine A4 W6 rfl rfl (Mu (b:=false) M)<|?_;clear M;rintro _ w M rfl
  refine wk ?_;refine Ad rfl rfl<|?_
  exact ⟨M,by rw [R8 (show (false=true)↔Av z n m by unfold Av;first | (simp only [decide_eq_true_eq];omega) | (simp only [Bool.false_eq_true,false_iff];omega))]⟩
 have h6:=dF h6b;refine wk ?_;refine A4 W6 rfl rfl (Mu (b:=false) M)<|?_;clear M;rintro _ w M rfl
 refine wk ?_;refine Ad rfl rfl<|?_
 exact ⟨M,by rw [R8 (show (false=true)↔Av z n m by unfold Av;first | (simp only [decide_eq_true_eq];omega) | (simp only [Bool.false_eq_true,false_iff];omega))]⟩
theorem Jt (M:Mem w0 G L w) {c:RulesD} {kca:Option Addr} {kcc:Nat} (SC:Ag Cb 9 G (.slice kca c.kinds.length kcc) c.kinds) {x:ItemD} {ma:Option Addr} {mc:Nat} (hI:(x.key < 18446744073709551616∧x.typ < 256∧x.text.length≤9223372036854775807)) (SM:Ag Cf 1 G (.slice ma x.marks.length mc) x.marks) {k:KindD} (hK:c.kinds[x.typ]?=some k):Calls Tryz.prog 67 #[.agg #[.slice kca c.kinds.length kcc,.int .i64 c.cap],.agg #[.int .u64 ((x.key:Nat):Int),.int .u8 ((x.typ:Nat):Int),.string (str x.text),.slice ma x.marks.length mc]] w (Bu w0 G L fun v=>v=.agg #[.int .u64 ((x.key:Nat):Int),.int .u8 ((x.typ:Nat):Int),.string (str x.text),.slice ma x.marks.length mc,.int .i64 (Dc c x),.bool false]):=by
 refine Al (vs:=[_,_]) Tryz.func67 rfl (n:=14) rfl rfl<|?_
 refine Bt<|?_
 refine B2 M rfl rfl rfl<|?_;clear M;intro b1 w M
 refine B2 M rfl rfl rfl<|?_;clear M;intro b2 w M
 refine B1 M B9 rfl rfl<|?_;clear M;intro b3 w M
 refine wk ?_;refine fun a F=>D5 [(.pure,0),(.free,1),(.pure,2),(.free,3),(.pure,4),(.free,5),(.free,6),(.pure,7),(.free,8),(.chg,9)] [9] (Keep G [.blk b2 [.int .u64 ((x.key:Nat):Int),.int .u8 ((x.typ:Nat):Int),.string (str x.text),.slice ma x.marks.length mc] 26,.blk b1 [.slice kca c.kinds.length kcc,.int .i64 c.cap] 51]) rfl (by kernel_rfl) (fun c a d v w h=>by cases d <;> exact h) (Ax (M.drew _)) ?_;replace M:=M.drew (w.drawn+1);revert a;refine wk ?_;obtain ⟨be5,oe5,_,Ie5,_,Ae5,hTe5⟩:=SC.at hK;obtain ⟨c1e5,hcse5,hPe5,hBe5⟩:=hTe5;obtain ⟨tae5,tce5,kae5,kce5,rfl,hke5,hle5,SAe5,SKe5⟩:=Dn hPe5;subst hcse5;have hQe5:-9223372036854775808≤k.base∧k.base≤9223372036854775807:=hBe5;refine wk ?_;refine k_f (fun a F w _=>Ah (cs:=[.int .u64 ((x.key:Nat):Int),.int .u8 ((x.typ:Nat):Int),.string (str x.text),.slice ma x.marks.length mc,.int .i64 k.base,.bool false]) (ps:=[(0,.agg #[.int .u64 ((x.key:Nat):Int),.int .u8 ((x.typ:Nat):Int),.string (str x.text),.slice ma x.marks.length mc]),(1,.int .i64 k.base)]) B9.k rfl B9 (F.evp rfl) rfl) rfl<|k_c rfl<|fun a F=>?_
 refine Be F M B9 0 ?_;clear F M a;intro w a M F;revert a;refine Ao<|?_
 refine fun a F=>⟨Keep G [.blk b3 [.int .u64 ((x.key:Nat):Int),.int .u8 ((x.typ:Nat):Int),.string (str x.text),.slice ma x.marks.length mc,.int .i64 k.base,.bool false] 69,.blk b2 [.int .u64 ((x.key:Nat):Int),.int .u8 ((x.typ:Nat):Int),.string (str x.text),.slice ma x.marks.length mc] 26,.blk b1 [.slice kca c.kinds.length kcc,.int .i64 c.cap] 51],M.keep (Gle.refl _) (by simp),?_⟩;revert a;refine wk ?_;refine fun a F=>F6 F M (k:=0) rfl rfl B9 rfl rfl rfl ?_
 exact ⟨M.weaken dS3,by rw [H2 hK]⟩
theorem Ace (M:Mem w0 G L w) {c:RulesD} {kca:Option Addr} {kcc:Nat} (SC:Ag Cb 9 G (.slice kca c.kinds.length kcc) c.kinds) (hvc:Cy c) {a1:Option Addr} {c1:Nat} {l:List EntD} (S:Ag Bg 6 G (.slice a1 l.length c1) l) {ta:Option Addr} {tc:Nat} {xs:List ItemD} (T:Ag Bn 4 G (.slice ta xs.length tc) xs):Calls Tryz.prog 120 #[.agg #[.slice kca c.kinds.length kcc,.int .i64 c.cap],.slice a1 l.length c1,.slice ta xs.length tc] w (Bu w0 G L fun v=>v=.int .i64 (Lg c l xs)):=by
 have bS:=S.bound;have bT:=T.bound;refine Al (vs:=[_,_,_]) Tryz.func120 rfl (n:=51) rfl rfl<|?_
 refine Bt<|?_
 refine B2 M rfl rfl rfl<|?_;clear M;intro b1 w M
 refine wk ?_;refine fun a F=>Ba (fun m a' w'=>∃ (i:Nat),m=xs.length - i∧Fits 51 a' [(1,.slice a1 l.length c1),(2,.slice ta xs.length tc),(3,.pointer (some ⟨b1,0,none⟩)),(7,.int .i64 ((i:Nat):Int))]∧Mem w0 G (.blk b1 [.slice kca c.kinds.length kcc,.int .i64 c.cap] 51::L) w'∧(i≤xs.length)∧(Bm (Nl c l xs) i=0)) _ ⟨0,rfl,F.to ⟨rfl,rfl,rfl,rfl,trivial⟩,M,Nat.zero_le _,rfl⟩ ?_;clear F M;rintro m a w ⟨i,rfl,F,M,hi,hS⟩;revert a;refine wk ?_;refine qD rfl ?_ ?_
 ·intro h2;refine wk ?_;obtain ⟨Xi,hXi⟩:=Ap (xs:=xs) (i:=i) (by omega);intro a F;refine Jo (fun a' w'=>∃ (sn:Int),Fits 51 a' [(1,.slice a1 l.length c1),(2,.slice ta xs.length tc),(3,.pointer (some ⟨b1,0,none⟩)),(7,.int .i64 ((i:Nat):Int)),(8,.int .i64 sn)]∧Mem w0 G (.blk b1 [.slice kca c.kinds.length kcc,.int .i64 c.cap] 51::L) w'∧(sn=1↔Cx l Xi.key∨Je (xs.take i) Xi.key)) ?_ ?_
  ·skip
   refine D5 [(.free,0),(.free,1),(.free,2),(.free,3),(.free,4),(.pure,5),(.keep,6),(.free,7),(.free,8),(.free,9),(.free,10),(.free,11),(.free,12),(.free,13),(.free,14),(.free,15),(.pure,16),(.keep,17),(.free,18),(.free,19),(.keep,20),(.free,21)] [] (Keep G [.blk b1 [.slice kca c.kinds.length kcc,.int .i64 c.cap] 51]) rfl (by kernel_rfl) (fun c a d v w h=>by cases d <;> exact h) (Ax (M.drew _)) ?_;replace M:=M.drew (w.drawn+1);revert a;refine wk ?_;obtain ⟨be3,oe3,_,Ie3,_,Ae3,hTe3⟩:=T.at hXi;obtain ⟨mae3,mce3,rfl,hke3,hte3,hxe3,hne3,SMe3⟩:=hTe3;have hIe3:(Xi.key < 18446744073709551616∧Xi.typ < 256∧Xi.text.length≤9223372036854775807):=⟨hke3,hte3,hxe3⟩;refine wk ?_;refine k_k rfl<|A4 ent79 rfl rfl (Aan (l:=l) (k:=Xi.key) M S)<|?_;clear M;rintro _ w M ⟨z4,rfl,hz4⟩
   refine Ao<|?_
   refine eQ (Ax M)<|?_
   refine wk ?_
   rcases bE (decide (0≤z4)) with h5b | h6b
   ·skip
    have h5:=dT h5b;refine wk ?_;refine k_k rfl<|A4 W6 rfl rfl (Mu (b:=true) M)<|?_;clear M;rintro _ w M rfl
    refine Ao<|?_
    refine eQ (Ax M)<|?_
    refine wk ?_;intro a F
    exact ⟨(if true=true then (1:Int) else 0),F.to ⟨rfl,rfl,rfl,rfl,rfl,trivial⟩,M,by clear F M;rw [← hz4.has];first | (simp only [Zd,decide_eq_true_eq];omega) | (simp only [Zd,true_iff];omega) | simp_all⟩
   have h6:=dF h6b;refine wk ?_;obtain ⟨as7,cs7,Is7,hms7,hcs7,Ss7⟩:=T.partT (i) (by omega);refine Lf rfl h6b (fun a F w _=>Ge Co.k Bi Is7 (F.ev rfl) (h:=i) (kl:=.i64) (zl:=0) rfl ⟨(F.ev rfl),by omega⟩ (by omega) (by omega))<|?_
   refine wk ?_;obtain ⟨be8,oe8,_,Ie8,_,Ae8,hTe8⟩:=T.at hXi;obtain ⟨mae8,mce8,rfl,hke8,hte8,hxe8,hne8,SMe8⟩:=hTe8;have hIe8:(Xi.key < 18446744073709551616∧Xi.typ < 256∧Xi.text.length≤9223372036854775807):=⟨hke8,hte8,hxe8⟩;refine wk ?_;refine fun a F=>Fj F rfl rfl h6b ?_;revert a;refine g_t rfl h6b<|?_
   have hl9:i - 0=(xs.take (i)).length:=by rw [List.length_take];omega
   intro a F;rw [hl9] at F Ss7;revert a;refine A4 ent61 rfl rfl (Ti (xs:=xs.take (i)) (k:=Xi.key) M Ss7)<|?_;clear M;rintro _ w M ⟨z10,rfl,hz10⟩
   refine Ao<|?_
   refine eQ (Ax M)<|?_
   refine wk ?_;refine k_k rfl<|A4 W6 rfl rfl (Mu (b:=(decide (0≤z10))) M)<|?_;clear M;rintro _ w M rfl
   refine Ao<|?_
   refine eQ (Ax M)<|?_
   refine wk ?_;intro a F
   exact ⟨(if (decide (0≤z10))=true then (1:Int) else 0),F.to ⟨rfl,rfl,rfl,rfl,rfl,trivial⟩,M,by clear F M;rw [← hz4.has];rw [← hz10.has];first | (simp only [Zd,decide_eq_true_eq];omega) | (simp only [Zd,true_iff];omega) | simp_all⟩
  clear F M;rintro a w ⟨sn,F,M,hsn⟩;revert a;refine Cj<|?_
  refine fun a F=>E3 [(true,0),(true,1),(true,2),(true,3),(true,4),(true,5),(false,6),(true,7)] (Keep G [.blk b1 [.slice kca c.kinds.length kcc,.int .i64 c.cap] 51]) rfl (by kernel_rfl) (fun c a d v w h=>by cases d <;> exact h) (Ax (M.drew _)) ?_;replace M:=M.drew (w.drawn+1);revert a;refine wk ?_;obtain ⟨be11,oe11,_,Ie11,_,Ae11,hTe11⟩:=T.at hXi;obtain ⟨mae11,mce11,rfl,hke11,hte11,hxe11,hne11,SMe11⟩:=hTe11;have hIe11:(Xi.key < 18446744073709551616∧Xi.typ < 256∧Xi.text.length≤9223372036854775807):=⟨hke11,hte11,hxe11⟩;refine wk ?_;refine l_a rfl<|A4 Ain rfl rfl (Ky (c:=c) (x:=Xi) (sn:=sn) M SC hvc hIe11 SMe11)<|?_;clear M;rintro _ w M rfl
  refine Ao<|?_
  refine eQ (Ax M)<|?_
  refine wk ?_;refine qD rfl ?_ ?_
  ·intro h12;refine Cj<|?_
   refine fun a F=>E3 [(true,0),(true,1),(true,2),(true,3),(true,4),(true,5),(false,6),(true,7)] (Keep G [.blk b1 [.slice kca c.kinds.length kcc,.int .i64 c.cap] 51]) rfl (by kernel_rfl) (fun c a d v w h=>by cases d <;> exact h) (Ax (M.drew _)) ?_;replace M:=M.drew (w.drawn+1);revert a;refine lLb Gb 0 rfl rfl rfl rfl<|lMv rfl<|lMv rfl<|?_
   obtain ⟨be13,oe13,_,Ie13,_,Ae13,hTe13⟩:=T.at hXi;obtain ⟨mae13,mce13,rfl,hke13,hte13,hxe13,hne13,SMe13⟩:=hTe13;have hIe13:(Xi.key < 18446744073709551616∧Xi.typ < 256∧Xi.text.length≤9223372036854775807):=⟨hke13,hte13,hxe13⟩;refine l_r (fun a F w M=>Gf Co.k Bi (F.ev rfl) (F.ev rfl) (by omega) Ie13) rfl<|l_r (fun a F w M=>Da Bi rfl (F.ev rfl) (cs:=[.int .u64 ((Xi.key:Nat):Int),.int .u8 ((Xi.typ:Nat):Int),.string (str Xi.text),.slice mae13 Xi.marks.length mce13]) rfl (M.cellsA Ae13 0 (by omega) rfl)) rfl<|lMv rfl<|?_
   refine l_a rfl<|A4 Ain rfl rfl (Ky (c:=c) (x:=Xi) (sn:=sn) M SC hvc hIe13 SMe13)<|?_;clear M;rintro _ w M rfl
   refine Ao<|?_
   refine eQ (Ax M)<|?_
   refine wk ?_;refine Ad rfl rfl<|?_
   exact ⟨M.weaken dS1,by rw [inc_hit hS hXi (Ri hsn).symm (by omega)]⟩
  intro h14;refine wk ?_;intro a F
  exact ⟨_,by omega,i+1,rfl,F.to ⟨rfl,rfl,rfl,rfl,trivial⟩,M,by omega,by rw [Fq hS,N6 hXi,← Ri hsn];exact Yp (by assumption)⟩
 intro h15;refine wk ?_;refine Ad rfl rfl<|?_
 exact ⟨M.weaken dS1,by rw [inc_end hS (by omega)]⟩
theorem fr_snoc {c:RulesD} {xs:List ItemD} {k:Nat} {x:ItemD} (h:xs[k]?=some x):(xs.map (Bp c)).take k++[Bp c x]=(xs.map (Bp c)).take (k+1):=by
 rw [List.take_add_one,List.getElem?_map,h];rfl
theorem Aca (M:Mem w0 G L w) {c:RulesD} {kca:Option Addr} {kcc:Nat} (SC:Ag Cb 9 G (.slice kca c.kinds.length kcc) c.kinds) (hvc:Cy c) {a1:Option Addr} {c1:Nat} {l:List EntD} (S:Ag Bg 6 G (.slice a1 l.length c1) l) {z:Int} {ta:Option Addr} {tc:Nat} {xs:List ItemD} (T:Ag Bn 4 G (.slice ta xs.length tc) xs) (hl2:l.length≤1024) (hx2:xs.length≤4000000):Calls Tryz.prog 70 #[.agg #[.slice kca c.kinds.length kcc,.int .i64 c.cap],.slice a1 l.length c1,.int .i64 z,.slice ta xs.length tc] w (Ret w0 G L fun G' v=>∃ (a:Option Addr) (cc:Nat),v=.tuple #[.slice a (F8 c l z xs).1.length cc,.int .i64 (F8 c l z xs).2]∧Ag Bg 6 G' (.slice a (F8 c l z xs).1.length cc) (F8 c l z xs).1):=by
 have bS:=S.bound;have bT:=T.bound;refine Al (vs:=[_,_,_,_]) Tryz.func70 rfl (n:=75) rfl rfl<|?_
 refine Bt<|?_
 refine B2 M rfl rfl rfl<|?_;clear M;intro b1 w M
 refine wk ?_
 rcases bE (decide (z < 0)) with h2b | h3b
 ·skip
  have h2:=dT h2b;refine wk ?_;refine C8 rfl rfl rfl<|?_
  exact ⟨_,(Gle.refl _),M.weaken dS1,none,0,by rw [Wx (fun h_=>by unfold Av at h_;omega)];rfl,by rw [Wx (fun h_=>by unfold Av at h_;omega)];exact Ag.nil⟩
 have h3:=dF h3b;refine wk ?_;refine qD rfl ?_ ?_
 ·intro h4;refine wk ?_;refine C8 rfl rfl rfl<|?_
  exact ⟨_,(Gle.refl _),M.weaken dS1,none,0,by rw [Wx (fun h_=>by unfold Av at h_;omega)];rfl,by rw [Wx (fun h_=>by unfold Av at h_;omega)];exact Ag.nil⟩
 intro h5;refine wk ?_;refine qD rfl ?_ ?_
 ·intro h6;refine wk ?_;refine C8 rfl rfl rfl<|?_
  exact ⟨_,(Gle.refl _),M.weaken dS1,none,0,by rw [Ahx (by unfold Av;omega) (by omega)];rfl,by rw [Ahx (by unfold Av;omega) (by omega)];exact Ag.nil⟩
 intro h7;refine wk ?_;refine A4 Arw rfl rfl (Ace (c:=c) (l:=l) (xs:=xs) M SC hvc S T)<|?_;clear M;rintro _ w M rfl
 refine wk ?_;refine qD rfl ?_ ?_
 ·intro h8;refine wk ?_;refine A4 Arw rfl rfl (Ace (c:=c) (l:=l) (xs:=xs) M SC hvc S T)<|?_;clear M;rintro _ w M rfl
  refine wk ?_;refine C8 rfl rfl rfl<|?_
  exact ⟨_,(Gle.refl _),M.weaken dS1,none,0,by rw [Ahw (by unfold Av;omega) (by omega) (by omega)];rfl,by rw [Ahw (by unfold Av;omega) (by omega) (by omega)];exact Ag.nil⟩
 intro h9;refine wk ?_;obtain ⟨p,rfl⟩:=Int.eq_ofNat_of_zero_le (show 0≤z by omega);have hinc:Lg c l xs=0:=by have:=inc_nn (c:=c) (l:=l) (xs:=xs);omega
 have hin:Av ((p:Nat):Int) 0 ((l.length:Nat):Int):=by unfold Av;omega
 refine wk ?_;have M:=M.nilrow 69 6;replace M:=z_M M;intro a F;refine Ba (fun m a' w'=>∃ (i:Nat),∃ (ar:Option Addr),∃ (nr:Nat),∃ (cr:Nat),∃ (csr:List Value),m=l.length+1 - i∧Fits 75 a' [(1,.slice a1 l.length c1),(2,.int .i64 ((p:Nat):Int)),(3,.slice ta xs.length tc),(4,.pointer (some ⟨b1,0,none⟩)),(10,.slice ar nr cr),(11,.int .i64 ((i:Nat):Int))]∧Mem w0 G (.row (.slice ar nr cr) (nr) (csr) 69 6::.blk b1 [.slice kca c.kinds.length kcc,.int .i64 c.cap] 51::L) w'∧(i≤l.length+1)∧(Els Bg 6 G csr (Jk l p (xs.map (Bp c)) i))∧((i≤p∧nr≤i)∨(p < i∧nr≤i+xs.length))) _ ⟨0,none,0,0,[],rfl,F.to ⟨rfl,rfl,rfl,rfl,rfl,rfl,trivial⟩,M,by omega,by rw [Wz];exact Els.nil,by omega⟩ ?_;clear F M;rintro m a w ⟨i,ar,nr,cr,csr,rfl,F,M,hi,Er,hnr⟩;revert a;refine wk ?_;refine qD rfl ?_ ?_
 ·intro h10;refine wk ?_;refine qD rfl ?_ ?_
  ·intro h11;refine wk ?_;have Ek0:Els Bg 6 G csr (Jk l p (xs.map (Bp c)) i++(xs.map (Bp c)).take 0):=by rw [List.take_zero,List.append_nil];exact Er
   intro a F;refine Ba (fun m a' w'=>∃ (k:Nat),∃ (ak:Option Addr),∃ (nk:Nat),∃ (ck:Nat),∃ (csk:List Value),m=xs.length - k∧Fits 75 a' [(1,.slice a1 l.length c1),(2,.int .i64 ((p:Nat):Int)),(3,.slice ta xs.length tc),(4,.pointer (some ⟨b1,0,none⟩)),(11,.int .i64 ((i:Nat):Int)),(10,.slice ak nk ck),(12,.int .i64 ((k:Nat):Int))]∧Mem w0 G (.row (.slice ak nk ck) (nk) (csk) 69 6::.blk b1 [.slice kca c.kinds.length kcc,.int .i64 c.cap] 51::L) w'∧(k≤xs.length)∧(Els Bg 6 G csk (Jk l p (xs.map (Bp c)) i++(xs.map (Bp c)).take k))∧(nk≤nr+k)) _ ⟨0,ar,nr,cr,csr,rfl,F.to ⟨rfl,rfl,rfl,rfl,rfl,rfl,rfl,trivial⟩,M,by omega,Ek0,by omega⟩ ?_;clear F M;rintro m a w ⟨k,ak,nk,ck,csk,rfl,F,M,hk,Ek,hnk⟩;revert a;refine wk ?_;refine qD rfl ?_ ?_
   ·intro h12;refine wk ?_;obtain ⟨Xk,hXk⟩:=Ap (xs:=xs) (i:=k) (by omega);obtain ⟨kd,hK⟩:=Iq (inc_ok hinc hXk);intro a F;refine E3 [(true,0),(true,1),(true,2),(true,3),(true,4),(true,5),(false,6),(false,7),(false,8),(true,9)] (Keep G [.blk b1 [.slice kca c.kinds.length kcc,.int .i64 c.cap] 51]) rfl (by kernel_rfl) (fun c a d v w h=>by cases d <;> exact h) (Ax (M.drew _)) ?_;replace M:=M.drew (w.drawn+1);revert a;refine wk ?_;obtain ⟨be13,oe13,_,Ie13,_,Ae13,hTe13⟩:=T.at hXk;obtain ⟨mae13,mce13,rfl,hke13,hte13,hxe13,hne13,SMe13⟩:=hTe13;have hIe13:(Xk.key < 18446744073709551616∧Xk.typ < 256∧Xk.text.length≤9223372036854775807):=⟨hke13,hte13,hxe13⟩;refine wk ?_;refine l_a rfl<|A4 Aim rfl rfl (Jt (c:=c) (x:=Xk) M SC hIe13 SMe13 hK)<|?_;clear M;rintro _ w M rfl
    refine Ao<|?_
    refine eQ (Ax M)<|l_a rfl<|fun a F=>?_
    refine Ar F M C6.k B9 rfl rfl (cs:=[.int .u64 ((Xk.key:Nat):Int),.int .u8 ((Xk.typ:Nat):Int),.string (str Xk.text),.slice mae13 Xk.marks.length mce13,.int .i64 (Dc c Xk),.bool false]) rfl rfl (by simp [Value.oneCell']) (by decide) rfl ?_;clear F M a;intro v14 w a M F;obtain ⟨av14,cv14,rfl,hlev14,hcmv14,hlv14⟩:=M.row_shape (k:=0) rfl;revert a;refine Ao<|?_
    refine eQ (Ax M)<|?_
    have Eb15:Els Bg 6 G [.int .u64 ((Xk.key:Nat):Int),.int .u8 ((Xk.typ:Nat):Int),.string (str Xk.text),.slice mae13 Xk.marks.length mce13,.int .i64 (Dc c Xk),.bool false] [(Bp c Xk)]:=⟨[.int .u64 ((Xk.key:Nat):Int),.int .u8 ((Xk.typ:Nat):Int),.string (str Xk.text),.slice mae13 Xk.marks.length mce13,.int .i64 (Dc c Xk),.bool false],[],rfl,rfl,⟨[.int .u64 ((Xk.key:Nat):Int),.int .u8 ((Xk.typ:Nat):Int),.string (str Xk.text),.slice mae13 Xk.marks.length mce13],rfl,⟨mae13,mce13,rfl,hIe13.1,hIe13.2.1,hIe13.2.2,(by have h_:=SMe13.bound;show Xk.marks.length≤_;omega),SMe13⟩,L0 SC hK⟩,rfl⟩;refine l_a rfl<|fun a F=>?_
    refine A3 F M (k:=1) (k2:=0) rfl rfl C6.k B9 rfl rfl (by decide) rfl rfl (by show _ * 72≤_;(try simp only [List.length_drop,List.length_take,List.length_append,List.length_cons,List.length_nil]);omega) (by (try simp only [List.length_drop,List.length_take,List.length_append,List.length_cons,List.length_nil]);omega) rfl ?_;clear F M a;intro v16 w a M F;have Ev16:=Els.append Ek Eb15;obtain ⟨av16,cv16,rfl,hlev16,hcmv16,hlv16⟩:=M.row_shape (k:=1) rfl;revert a;refine Ao<|?_
    refine eQ (Ax M)<|?_
    refine wk ?_;intro a F
    exact ⟨_,by omega,k+1,(av16),(nk+1),(cv16),csk++([.int .u64 ((Xk.key:Nat):Int),.int .u8 ((Xk.typ:Nat):Int),.string (str Xk.text),.slice mae13 Xk.marks.length mce13,.int .i64 (Dc c Xk),.bool false]),rfl,F.to ⟨rfl,rfl,rfl,rfl,rfl,rfl,rfl,trivial⟩,(M.weaken (cN (cC (.cons_cons _ (sR _))))),by omega,by have h_:=Ev16;rwa [List.append_assoc,fr_snoc hXk] at h_,by omega⟩
   intro h17;refine wk ?_;have hkk:(xs.map (Bp c)).take k=xs.map (Bp c):=List.take_of_length_le (by rw [List.length_map];omega);intro a F;rw [hkk] at Ek;revert a;refine wk ?_;refine qD rfl ?_ ?_
   ·intro h18;refine wk ?_;obtain ⟨Xe19,hXe19⟩:=Ap (xs:=l) (i:=i) (by omega);obtain ⟨be19,oe19,_,Ie19,_,Ae19,hTe19⟩:=S.at hXe19;obtain ⟨c1e19,hcse19,hPe19,hBe19⟩:=hTe19;obtain ⟨mae19,mce19,rfl,hke19,hte19,hxe19,hne19,SMe19⟩:=hPe19;subst hcse19;have hIe19:(Xe19.item.key < 18446744073709551616∧Xe19.item.typ < 256∧Xe19.item.text.length≤9223372036854775807):=⟨hke19,hte19,hxe19⟩;have hQe19:-9223372036854775808≤Xe19.size∧Xe19.size≤9223372036854775807:=hBe19;refine wk ?_;intro a F;refine Ar F M C6.k B9 rfl rfl (cs:=[.int .u64 ((Xe19.item.key:Nat):Int),.int .u8 ((Xe19.item.typ:Nat):Int),.string (str Xe19.item.text),.slice mae19 Xe19.item.marks.length mce19,.int .i64 Xe19.size,.bool Xe19.known]) rfl rfl (by simp [Value.oneCell']) (by decide) rfl ?_;clear F M a;intro v20 w a M F;obtain ⟨av20,cv20,rfl,hlev20,hcmv20,hlv20⟩:=M.row_shape (k:=0) rfl;have Eb21:Els Bg 6 G [.int .u64 ((Xe19.item.key:Nat):Int),.int .u8 ((Xe19.item.typ:Nat):Int),.string (str Xe19.item.text),.slice mae19 Xe19.item.marks.length mce19,.int .i64 Xe19.size,.bool Xe19.known] [Xe19]:=⟨[.int .u64 ((Xe19.item.key:Nat):Int),.int .u8 ((Xe19.item.typ:Nat):Int),.string (str Xe19.item.text),.slice mae19 Xe19.item.marks.length mce19,.int .i64 Xe19.size,.bool Xe19.known],[],rfl,rfl,⟨[.int .u64 ((Xe19.item.key:Nat):Int),.int .u8 ((Xe19.item.typ:Nat):Int),.string (str Xe19.item.text),.slice mae19 Xe19.item.marks.length mce19],rfl,⟨mae19,mce19,rfl,hke19,hte19,hxe19,hne19,SMe19⟩,hBe19⟩,rfl⟩;refine A3 F M (k:=1) (k2:=0) rfl rfl C6.k B9 rfl rfl (by decide) rfl rfl (by show _ * 72≤_;(try simp only [List.length_drop,List.length_take,List.length_append,List.length_cons,List.length_nil]);omega) (by (try simp only [List.length_drop,List.length_take,List.length_append,List.length_cons,List.length_nil]);omega) rfl ?_;clear F M a;intro v22 w a M F
    have Ev22:=Els.append Ek Eb21;obtain ⟨av22,cv22,rfl,hlev22,hcmv22,hlv22⟩:=M.row_shape (k:=1) rfl;revert a;refine wk ?_;intro a F
    exact ⟨_,by omega,i+1,(av22),(nk+1),(cv22),csk++([.int .u64 ((Xe19.item.key:Nat):Int),.int .u8 ((Xe19.item.typ:Nat):Int),.string (str Xe19.item.text),.slice mae19 Xe19.item.marks.length mce19,.int .i64 Xe19.size,.bool Xe19.known]),rfl,F.to ⟨rfl,rfl,rfl,rfl,rfl,rfl,trivial⟩,(M.weaken (cN (cC (.cons_cons _ (sR _))))),by omega,by have h_:=Ev22;first | rwa [Gw hXe19 (by omega)] at h_ | rwa [List.append_nil,Fh hXe19 (by omega)] at h_ | rwa [Fh hXe19 (by omega)] at h_ | rwa [Fg (by omega) (by omega)] at h_ | rwa [Ds (by omega) (by omega) (by omega)] at h_,by omega⟩
   intro h23;refine wk ?_;intro a F
   exact ⟨_,by omega,i+1,(ak),(nk),(ck),csk,rfl,F.to ⟨rfl,rfl,rfl,rfl,rfl,rfl,trivial⟩,M,by omega,by have h_:=Ek;first | rwa [Gw hX0 (by omega)] at h_ | rwa [List.append_nil,Fh hX0 (by omega)] at h_ | rwa [Fh hX0 (by omega)] at h_ | rwa [Fg (by omega) (by omega)] at h_ | rwa [Ds (by omega) (by omega) (by omega)] at h_,by omega⟩
  intro h24;refine wk ?_;refine qD rfl ?_ ?_
  ·intro h25;refine wk ?_;obtain ⟨Xe26,hXe26⟩:=Ap (xs:=l) (i:=i) (by omega);obtain ⟨be26,oe26,_,Ie26,_,Ae26,hTe26⟩:=S.at hXe26;obtain ⟨c1e26,hcse26,hPe26,hBe26⟩:=hTe26;obtain ⟨mae26,mce26,rfl,hke26,hte26,hxe26,hne26,SMe26⟩:=hPe26;subst hcse26;have hIe26:(Xe26.item.key < 18446744073709551616∧Xe26.item.typ < 256∧Xe26.item.text.length≤9223372036854775807):=⟨hke26,hte26,hxe26⟩;have hQe26:-9223372036854775808≤Xe26.size∧Xe26.size≤9223372036854775807:=hBe26;refine wk ?_;intro a F;refine Ar F M C6.k B9 rfl rfl (cs:=[.int .u64 ((Xe26.item.key:Nat):Int),.int .u8 ((Xe26.item.typ:Nat):Int),.string (str Xe26.item.text),.slice mae26 Xe26.item.marks.length mce26,.int .i64 Xe26.size,.bool Xe26.known]) rfl rfl (by simp [Value.oneCell']) (by decide) rfl ?_;clear F M a;intro v27 w a M F;obtain ⟨av27,cv27,rfl,hlev27,hcmv27,hlv27⟩:=M.row_shape (k:=0) rfl;have Eb28:Els Bg 6 G [.int .u64 ((Xe26.item.key:Nat):Int),.int .u8 ((Xe26.item.typ:Nat):Int),.string (str Xe26.item.text),.slice mae26 Xe26.item.marks.length mce26,.int .i64 Xe26.size,.bool Xe26.known] [Xe26]:=⟨[.int .u64 ((Xe26.item.key:Nat):Int),.int .u8 ((Xe26.item.typ:Nat):Int),.string (str Xe26.item.text),.slice mae26 Xe26.item.marks.length mce26,.int .i64 Xe26.size,.bool Xe26.known],[],rfl,rfl,⟨[.int .u64 ((Xe26.item.key:Nat):Int),.int .u8 ((Xe26.item.typ:Nat):Int),.string (str Xe26.item.text),.slice mae26 Xe26.item.marks.length mce26],rfl,⟨mae26,mce26,rfl,hke26,hte26,hxe26,hne26,SMe26⟩,hBe26⟩,rfl⟩;refine A3 F M (k:=1) (k2:=0) rfl rfl C6.k B9 rfl rfl (by decide) rfl rfl (by show _ * 72≤_;(try simp only [List.length_drop,List.length_take,List.length_append,List.length_cons,List.length_nil]);omega) (by (try simp only [List.length_drop,List.length_take,List.length_append,List.length_cons,List.length_nil]);omega) rfl ?_;clear F M a;intro v29 w a M F
   have Ev29:=Els.append Er Eb28;obtain ⟨av29,cv29,rfl,hlev29,hcmv29,hlv29⟩:=M.row_shape (k:=1) rfl;revert a;refine wk ?_;intro a F
   exact ⟨_,by omega,i+1,(av29),(nr+1),(cv29),csr++([.int .u64 ((Xe26.item.key:Nat):Int),.int .u8 ((Xe26.item.typ:Nat):Int),.string (str Xe26.item.text),.slice mae26 Xe26.item.marks.length mce26,.int .i64 Xe26.size,.bool Xe26.known]),rfl,F.to ⟨rfl,rfl,rfl,rfl,rfl,rfl,trivial⟩,(M.weaken (cN (cC (.cons_cons _ (sR _))))),by omega,by have h_:=Ev29;first | rwa [Gw hXe26 (by omega)] at h_ | rwa [List.append_nil,Fh hXe26 (by omega)] at h_ | rwa [Fh hXe26 (by omega)] at h_ | rwa [Fg (by omega) (by omega)] at h_ | rwa [Ds (by omega) (by omega) (by omega)] at h_,by omega⟩
  intro h30;refine wk ?_;intro a F
  exact ⟨_,by omega,i+1,(ar),(nr),(cr),csr,rfl,F.to ⟨rfl,rfl,rfl,rfl,rfl,rfl,trivial⟩,M,by omega,by have h_:=Er;first | rwa [Gw hX0 (by omega)] at h_ | rwa [List.append_nil,Fh hX0 (by omega)] at h_ | rwa [Fh hX0 (by omega)] at h_ | rwa [Fg (by omega) (by omega)] at h_ | rwa [Ds (by omega) (by omega) (by omega)] at h_,by omega⟩
 intro h31;refine wk ?_;intro a F;rw [Acb (by omega) (by omega)] at Er;obtain ⟨hnz32,Gz32,az32,cz32,hGz32,hez32,Sz32,M⟩:=M.freeze_row Aa (k:=0) rfl Er (by decide);clear hez32 az32 cz32;replace SC:=SC.mono Ak hGz32;replace S:=S.mono Aa hGz32;replace T:=T.mono Ai hGz32;rw [hnz32] at F Sz32;revert a;refine wk ?_;refine A4 ent80 rfl rfl (Tb (l:=(Ci l p 0 (xs.map (Bp c)))) M Sz32)<|?_;clear M;rintro _ w M rfl
 refine wk ?_;refine qD rfl ?_ ?_
 ·intro h33;refine wk ?_;refine C8 rfl rfl rfl<|?_
  exact ⟨_,hGz32,M.weaken dS1,none,0,by rw [Ze hin (by omega) hinc (by rw [Int.toNat_natCast];omega)];rfl,by rw [Ze hin (by omega) hinc (by rw [Int.toNat_natCast];omega)];exact Ag.nil⟩
 intro h34;refine wk ?_;refine C8 rfl rfl rfl<|?_
 exact ⟨_,hGz32,M.weaken dS1,ar,cr,by rw [Wy hin (by omega) hinc (by rw [Int.toNat_natCast];unfold Db at *;split at * <;> omega),Int.toNat_natCast],by rw [Wy hin (by omega) hinc (by rw [Int.toNat_natCast];unfold Db at *;split at * <;> omega),Int.toNat_natCast];exact Sz32⟩
end Go.Proofs.YtmmhmcplegpenaaGreatDoor
