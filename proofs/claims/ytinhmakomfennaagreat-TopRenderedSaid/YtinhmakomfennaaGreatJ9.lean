/- Own lemmas. -/
import Derived.Test.YtinhmakomfennaaGreatJ7
import Derived.Test.YtinhmakomfennaaGreatJ8
set_option linter.unusedSimpArgs false
set_option linter.unusedVariables false
set_option linter.unusedSectionVars false
set_option maxRecDepth 10000
set_option maxHeartbeats 2000000
namespace Go.V
open AV renaming int→iQ,ptr→jQ,str→sQ,bool→bQ,raw→kQ,agg→gQ
open Blk renaming cells→cQ,row→oQ
open IntKind renaming u32→uQ,i64→wQ,u8→vQ
open Go Go.Proofs
theorem Ajg:bytes ctx 112=32:=kR
theorem by50:bytes ctx 50=8:=kR
theorem by3:bytes ctx 3=8:=kR
theorem by36:bytes ctx 36=104:=kR
theorem by189:bytes ctx 189=184:=kR
theorem by179:bytes ctx 179=40:=kR
attribute [local go_sem] Nj Nh Kd Hz Ng Hy Ni H0 Akm Sy Kc Ke Alp Alo Aln Alm Acp Acq Kg Akk Akl Ane Akn Ako Akf Akg Akh Akp Kf Nz Iq N1 Ky N0 Tz Ty T1 T0 N2 Nl H1 Nk Kk S9 Kj Ald Nn Ki S7 Ta Akq Np Akv Aku Akt Akr Ala Akz Aky Akx Akw Aks S8 r_b Aoq Alc Alb Apt Sj Kv H7 Oa Kw Ajx Lt F8 J2 N4 H8 N3 K1 Ud Kz Aoa N5 e_nil Ue Anq N6 Anu Ant Anr Anz Anx Anw Anv Uc e_b H.eta Je Ai Ac Acg Zt Abz Aby Ib Ha Q4 Tl Amo Amn Ams Amq Amr Ed O6 Apk Apw Tx Ts Tt Acr Z0 Acv Acu Ann Anm Ano T4 T3 Apq Apo App Apr Uq Apn Aof N7 K3 Aoc Aod Aoi S3 Alr Aoh Aog Aol Aop Aom Aoo Aon de Aok Aoj vj Alk All Nf Aki Tf Th Td Uo Un Anb Amz Ana T5 Ale Apm Ag Ami Amg Q2 Amd Qv Bc Qw Ck Ca Bh Cd Bb Az pt_u Alg Akj T6 Anl Anj Ank Gt Aed Ang Abn Aeu Apc Apb Aoy Apa Aot Aov Aox Aou Aow Aoz Aos S4 Lh Ug Aoe Abi Ti Apg Apd Amu Sc Amc Sb Alv Aly Alu Alx Amb Alw Alt Ama Alz Abj R0 gd Il envOf O3 Fw En rd1 I6 O1 O4 I4 Nr chr oUn I2 Da Sg Lj elem Tr.get_set bin Y1 Y0 Abg asB Aaf nat? O5 Eo Jc Jd Fb I9 nth Cm tb mgJ Rn E9 O8 K9 Ld I3 Bv O2 I5 Hr Jg wr Fx Fu opt Bs Ji Br Gj Hn G7 Fv Eh Jq Lg Hm zOk append Oq Lk Em rep eqL
attribute [local go_sem] a3 a4 a5 a9 a22 a24 a25 a27 a28 a29 a31 a33 a34 a36 a37 a40 a41 a43 a45 a46 a48 a50 a53 a55 a70 a77 a85 a100 a103 a106 a110 a112 a119 a121 a124 a130 a179 a180 a181 a189 a195 a200 a205 a212 a234 a243 a251 a256 a274 a279 s1 s2 s3 s4 s5 s9 s22 s24 s25 s27 s28 s29 s31 s33 s34 s36 s37 s40 s41 s43 s45 s46 s48 s50 s53 s55 s70 s77 s85 s100 s103 s105 s106 s110 Ake s119 s121 s124 s130 Auc s180 s181 Aub s195 s200 s205 s212 s232 s234 s243 Aua s256 s274 s279 u3 u9 u22 u25 u28 u29 u33 u34 u40 u41 u48 u53 u77 u103 u106 Aqx u131 u180 Aqw u216 Aqv u243 Aqu Aqt Aqs Ais Air Aiq Aip Aio Ain Aim Ail Aik Aij Aii Aih Aig Aif Aie Aid Aic Aib Aia Ahz Ahy Ahx Ahw Ahv Ahu Aht Ahs Ahr Ahq Ahp Yp Yn Ym Yl Yk Yj Yi Yh Yg Yf Ye Yd Yb Ya X9 X8 X7 X5 X4 X3 X0 Xz Xy Xx Xw Xv Xu Xt Xs Xr Xq Xn Xm Xl Xk Xj Xi Xh Xg z3 z4 z9 z28 z29 z31 z33 z34 z36 z37 z41 z43 z50 z53 z55 z70 z77 z85 z100 z103 z106 z108 z110 z112 z118 z119 z121 z126 z130 z179 z180 z181 z189 z191 z204 z205 z212 z216 z232 z234 z243 z251 Aqa z256 Apz Abs z279 Apy k31 Aha Agz Agy Agx Agw Agv k36 Agu Agt Ags Agr Agq Agp k43 Ago Agn Agm Agl k50 Agk Agj k55 Agi Agh Agg Agf Age Agd Agc Agb Aga k70 Afz k108 Wt Ws Wq Wp k112 Wo Wn k118 Wm k126 Wl Wk k130 Wj Wi Wh k179 Wg We Wd k189 Wc Wb V9 V8 V7 V6 V5 k212 V4 V3 V2 V1 k232 V0 Vz k251 Vy k279 Vx Vw Vv Vu e4 e33 e46 e50 l50 e53 e77 e112 l112 e144
attribute [local go_sem] Nat.add_eq_left Nat.left_eq_add Nat.le_refl Nat.lt_irrefl Nat.zero_le Nat.not_le not_false_eq_true not_true_eq_false Bool.false_eq_true Bool.not_true Bool.not_false List.length_cons List.length_nil List.nil_append List.cons_append Nat.zero_add Nat.add_zero Nat.add_assoc decide_true decide_false true_and and_true List.getElem?_cons_succ List.getElem?_cons_zero bne_self_eq_false beq_self_eq_true Bool.not_eq_true decide_not exists_eq_left exists_eq_left' Option.some.injEq List.all_cons List.all_nil Bool.and_true Bool.true_and Bool.false_and Bool.and_false Bool.and_self Bool.false_or Bool.or_false Bool.true_or Bool.or_true
section
variable {h:H} {G:Fz}
theorem Ajd {v:AV} {n:Nat} {cs:List AV} (a:Arr G 2 v n cs):Ans ctx 104 [v] h fun z h'=>Arr G 2 z n cs∧h' = h:=by
 refine aO Tryz.f104 ?_;simp only [Tryz.f104];obtain ⟨z,g1,D⟩:=a.clip (C:=ctx) (t:=33) (el:=112) u33 Ake tM;simp only [seval,go_sem,a.len,g1];exact D
theorem clip198 {v:AV} {n:Nat} {cs:List AV} (a:Arr G 1 v n cs):Ans ctx 198 [v] h fun z h'=>Arr G 1 z n cs∧h' = h:=by
 refine aO Tryz.f198 ?_;simp only [Tryz.f198];obtain ⟨z,g1,D⟩:=a.clip (C:=ctx) (t:=77) (el:=3) u77 s3 tM;simp only [seval,go_sem,a.len,g1];exact D
theorem clip119 {v:AV} {n:Nat} {cs:List AV} (a:Arr G 6 v n cs):Ans ctx 119 [v] h fun z h'=>Arr G 6 z n cs∧h' = h:=by
 refine aO Tryz.f119 ?_;simp only [Tryz.f119];obtain ⟨z,g1,D⟩:=a.clip (C:=ctx) (t:=34) (el:=36) u34 s36 tM;simp only [seval,go_sem,a.len,g1];exact D
theorem clip110 {v:AV} {n:Nat} {cs:List AV} (a:Arr G 12 v n cs):Ans ctx 110 [v] h fun z h'=>Arr G 12 z n cs∧h' = h:=by
 refine aO Tryz.f110 ?_;simp only [Tryz.f110];obtain ⟨z,g1,D⟩:=a.clip (C:=ctx) (t:=121) (el:=189) Aqx Aub tM;simp only [seval,go_sem,a.len,g1];exact D
theorem clip219 {v:AV} {n:Nat} {cs:List AV} (a:Arr G 3 v n cs):Ans ctx 219 [v] h fun z h'=>Arr G 3 z n cs∧h' = h:=by
 refine aO Tryz.f219 ?_;simp only [Tryz.f219];obtain ⟨z,g1,D⟩:=a.clip (C:=ctx) (t:=234) (el:=179) Aqv Auc tM;simp only [seval,go_sem,a.len,g1];exact D
theorem Abf {v:AV} {n:Nat} {cs:List AV} (s:St h G) (a:Arr G 2 v n cs) (O:n≤10000000) (U:Af cs=true):Ans ctx 105 [v] h fun Y h'=>Own h' h.nx 112 2 Y n cs∧Gro h G h':=by
 refine aO Tryz.f105 ?_;simp only [Tryz.f105];have p:∀ {b},Gro h G (h.new b):=(Stp.refl s).new;rcases a with ⟨rfl,rfl,rfl⟩ | ⟨b,o,⟨c,Z,rfl⟩ | ⟨d,rfl⟩,E⟩
 ·simp only [seval,go_sem];exact ⟨Or.inl ⟨rfl,rfl,rfl⟩,Stp.refl s⟩
 all_goals
  have J:=Dy (s.read E);cases n with
  | zero =>
   have z:cs=[]:=List.length_eq_zero_iff.1 tM;subst z;simp only [seval,go_sem];exact ⟨Or.inr (Or.inl ⟨h.nx,Nat.le_refl _,rfl,rfl,rfl,Au⟩),p⟩
  | succ n =>
   have I:=Be (C:=ctx) (e:=112) (n:=n+1) (by rw [Ajg];omega) O;have D:(h.new (cQ [] 112)).read b o ((n+1) * 2)=some cs:=p.st.read E;simp only [seval,go_sem,D,I,U];exact ⟨Or.inr (Or.inr ⟨h.nx+1,Nat.le_succ _,rfl,Au,J⟩),p.new⟩
theorem Yx {v:AV} {n:Nat} {cs:List AV} (s:St h G) (a:Arr G 2 v n cs) (O:n≤10000000) (U:Af cs=true):Ans ctx 78 [v] h fun Y h'=>Own h' h.nx 50 2 Y n cs∧Gro h G h':=by
 refine aO Tryz.f78 ?_;simp only [Tryz.f78];have p:∀ {b},Gro h G (h.new b):=(Stp.refl s).new;rcases a with ⟨rfl,rfl,rfl⟩ | ⟨b,o,⟨c,Z,rfl⟩ | ⟨d,rfl⟩,E⟩
 ·simp only [seval,go_sem];exact ⟨Or.inl ⟨rfl,rfl,rfl⟩,Stp.refl s⟩
 all_goals
  have J:=Dy (s.read E);cases n with
  | zero =>
   have z:cs=[]:=List.length_eq_zero_iff.1 tM;subst z;simp only [seval,go_sem];exact ⟨Or.inr (Or.inl ⟨h.nx,Nat.le_refl _,rfl,rfl,rfl,Au⟩),p⟩
  | succ n =>
   have I:=Be (C:=ctx) (e:=50) (n:=n+1) (by rw [by50];omega) O;have D:(h.new (cQ [] 50)).read b o ((n+1) * 2)=some cs:=p.st.read E;simp only [seval,go_sem,D,I,U];exact ⟨Or.inr (Or.inr ⟨h.nx+1,Nat.le_succ _,rfl,Au,J⟩),p.new⟩
theorem Abe {v:AV} {n:Nat} {cs:List AV} (s:St h G) (a:Arr G 1 v n cs) (O:n≤10000000) (U:Af cs=true):Ans ctx 161 [v] h fun Y h'=>Own h' h.nx 3 1 Y n cs∧Gro h G h':=by
 refine aO Tryz.f161 ?_;simp only [Tryz.f161];have p:∀ {b},Gro h G (h.new b):=(Stp.refl s).new;rcases a with ⟨rfl,rfl,rfl⟩ | ⟨b,o,⟨c,Z,rfl⟩ | ⟨d,rfl⟩,E⟩
 ·simp only [seval,go_sem];exact ⟨Or.inl ⟨rfl,rfl,rfl⟩,Stp.refl s⟩
 all_goals
  have J:=Dy (s.read E);cases n with
  | zero =>
   have z:cs=[]:=List.length_eq_zero_iff.1 tM;subst z;simp only [seval,go_sem];exact ⟨Or.inr (Or.inl ⟨h.nx,Nat.le_refl _,rfl,rfl,rfl,Au⟩),p⟩
  | succ n =>
   have I:=Be (C:=ctx) (e:=3) (n:=n+1) (by rw [by3];omega) O;have D:(h.new (cQ [] 3)).read b o ((n+1) * 1)=some cs:=p.st.read E;simp only [seval,go_sem,D,I,U];exact ⟨Or.inr (Or.inr ⟨h.nx+1,Nat.le_succ _,rfl,Au,J⟩),p.new⟩
end
section
variable {h:H}
def Tm (b:UInt8):Bool:=(decide (97≤b.toNat) && decide (b.toNat≤122)) || (decide (48≤b.toNat) && decide (b.toNat≤57))
theorem inName {b:UInt8}:Ans ctx 208 [iQ vQ b.toNat] h fun v h'=>v=bQ (Tm b)∧h' = h:=by
 refine aO Tryz.f208 ?_;simp only [Tryz.f208];unfold Tm;generalize b.toNat=n;have c1:decide ((97:Int)≤n)=decide (97≤n):=decide_eq_decide.2 tM;have c2:decide ((n:Int)≤122)=decide (n≤122):=decide_eq_decide.2 tM;have z:decide ((48:Int)≤n)=decide (48≤n):=decide_eq_decide.2 tM;have D:decide ((n:Int)≤57)=decide (n≤57):=decide_eq_decide.2 tM;generalize decide (97≤n)=p1 at *;generalize decide (n≤122)=p2 at *;generalize decide (48≤n)=p3 at *;generalize decide (n≤57)=p4 at *;cases p1 <;> cases p2 <;> cases p3 <;> cases p4 <;> simp only [seval,go_sem,c1,c2,z,D] <;> rfl
def Ff (s:List UInt8):Bool:=decide (1≤s.length) && (decide (s.length≤16) && s.all Tm)
theorem named {s:List UInt8}:Ans ctx 177 [sQ s] h fun v h'=>v=bQ (Ff s)∧h' = h:=by
 refine aO Tryz.f177 ?_;simp only [Tryz.f177];unfold Ff;have c1:decide ((s.length:Int) < 1) = !decide (1≤s.length):=by rw [← decide_not];exact decide_eq_decide.2 tM
 have c2:decide ((16:Int) < s.length) = !decide (s.length≤16):=by rw [← decide_not];exact decide_eq_decide.2 tM
 generalize decide (1≤s.length)=p1 at *;cases hp:decide (s.length≤16)
 ·rw [hp] at c2;cases p1 <;> simp only [seval,go_sem,c1,c2]
 have Z:s.length≤16:=of_decide_eq_true hp;rw [hp] at c2;cases p1
 ·simp only [seval,go_sem,c1,c2]
 simp only [seval,go_sem,c1,c2];refine Ao (fun i e h'=>h' = h∧i≤s.length∧s.all Tm=(s.drop i).all Tm∧e.get 0=some (sQ s)∧e.get 13=some (iQ wQ s.length)∧e.get 14=some (iQ wQ i)) (fun i=>s.length - i) 0 ?_ ?_
 ·simp [Tr.get_set]
 rintro i e h' ⟨rfl,Y,D,E,I,J⟩ U;simp only [seval,go_sem,E,I,J];refine Cr (fun z=>?_) (fun z=>?_)
 ·have z:i < s.length:=by simpa using z
  have w:=wI i;obtain ⟨_,_,O,rfl,rfl⟩:=inName (h:=h') (b:=s[i]);rw [List.drop_eq_getElem_cons z,List.all_cons] at D;simp only [seval,go_sem,E,I,J,Nr,chr,List.getElem?_eq_getElem z,O,w];cases hb:Tm s[i] with
  | false =>
   simp only [seval,go_sem,hb];rw [D,hb];rfl
  | true =>
   simp only [seval,go_sem,hb,J,w];refine U (i+1) _ _ tM ⟨rfl,z,?_,?_⟩
   ·rw [D,hb];rfl
   ·simp [Tr.get_set,E,I]
 ·have z:s.length≤i:=by simpa using z
  simp only [seval,go_sem];rw [D,List.drop_of_length_le z];rfl
theorem Aet {f:Nat} {vs:List AV} {v:AV} (a:Ans ctx f vs h fun x h'=>x=v∧h' = h):FW ctx f vs h=some (v,h):=by
 obtain ⟨_,_,e,rfl,rfl⟩:=a;exact e
theorem Km {s:List UInt8}:FW ctx 177 [sQ s] h=some (bQ (Ff s),h):=Aet named
def He (s:List UInt8):Bool:=Nat.ble s.length 64 && s.all Q0
theorem P8 {s:List UInt8}:FW ctx 176 [sQ s] h=some (bQ (He s),h):=Fa rfl
variable {G:Fz}
theorem e179 {q:Nat} {t:T} {x:List AV} {ky:List UInt8} (s:St h G) (r:RT G t x) (z:h.read q 2 1=some [sQ ky]):Ans ctx 179 [gQ x,jQ q 0] h fun v h'=>v=bQ (decide (t.key=ky))∧Gro h G h':=by
 obtain ⟨kd,D,k,E,al,ch⟩:=t;obtain ⟨a,c,cc,rfl,_⟩:=r;refine aO Tryz.f179 ?_;simp only [Tryz.f179];simp only [seval,go_sem,Cq s.1 z,z];exact ⟨rfl,(Stp.refl s).new⟩
theorem e209 {q n:Nat} {v:AV} {cs:List AV} {l:List T} {ky:List UInt8} (s:St h G) (a:Arr G 6 v l.length cs) (r:RTs G l cs) (hq:h.read q 2 1=some [sQ ky]) (hn:l.length < 9223372036854775807) :
  Ans ctx 209 [v,.fn (.func 179) [] [jQ q 0]] h fun x h'=>(∃ z:Int,x=iQ wQ z∧decide (0≤z)=l.any fun t=>decide (t.key=ky))∧Gro h G h':=by
 refine aO Tryz.f209 ?_;simp only [Tryz.f209];simp only [seval,go_sem,a.len];refine Ao (fun i e h'=>Gro h G h'∧i≤l.length∧(l.any fun t=>decide (t.key=ky))=((l.drop i).any fun t=>decide (t.key=ky))∧e.get 0=some v∧e.get 1=some (.fn (.func 179) [] [jQ q 0])∧e.get 7=some (iQ wQ l.length)∧e.get 8=some (iQ wQ i)) (fun i=>l.length - i) 0 ?_ ?_
 ·exact ⟨Stp.refl s,Nat.zero_le _,rfl,by simp [Tr.get_set]⟩
 rintro i e h' ⟨p,hi,O,E,I,J,U⟩ ih;simp only [seval,go_sem,E,I,J,U];refine Cr (fun D=>?_) (fun D=>?_)
 ·have D:i < l.length:=by simpa using D
  have w:=wI i;obtain ⟨b,o,x,h1,h2,h3⟩:=a.tree p.st r D;obtain ⟨_,aa,c1,rfl,Z⟩:=e179 p.st h3 (p.rs s.1 hq (fun hh=>hh));rw [List.drop_eq_getElem_cons D,List.any_cons] at O;simp only [seval,go_sem,E,I,J,U,h1,p.st.read h2,c1,w];refine Cr (fun Y=>?_) (fun Y=>?_)
  ·simp only [seval,go_sem];exact ⟨⟨_,rfl,by rw [O,Y];simp⟩,p.trans Z⟩
  ·simp only [seval,go_sem,E,I,J,U,w];refine ih (i+1) _ _ tM ⟨p.trans Z,D,?_,?_⟩
   ·rw [O,Y];rfl
   ·simp [Tr.get_set,E,I,J]
 ·have D:l.length≤i:=by simpa using D
  simp only [seval,go_sem];exact ⟨⟨_,rfl,by rw [O,List.drop_of_length_le D];rfl⟩,p⟩
theorem e178 {q:Nat} {v:AV} {cs:List AV} {l:List T} {ky:List UInt8} (s:St h G) (a:Arr G 6 v l.length cs) (r:RTs G l cs) (E:h.read q 2 1=some [sQ ky]) (D:l.length < 9223372036854775807) :
  Ans ctx 178 [v,.fn (.func 179) [] [jQ q 0]] h fun x h'=>x=bQ (l.any fun t=>decide (t.key=ky))∧Gro h G h':=by
 refine aO Tryz.f178 ?_;simp only [Tryz.f178];obtain ⟨_,J,c1,⟨z,rfl,I⟩,p⟩:=e209 (n:=0) s a r E D;simp only [seval,go_sem,c1,I];exact p
def Bm:Option (List UInt8)→List (List UInt8 × List UInt8)→Bool
 | _,[]=>true
 | p,(a,b)::r=>Ff a && (He b && ((match p with | none=>true | some q=>Op.bytesLess q a) && Bm (some a) r))
def Dp:List T→List T→Bool
 | _,[]=>true
 | seen,t::r=>(decide (t.key=[]) || !(seen.any fun u=>decide (u.key=t.key))) && Dp (seen++[t]) r
def Cz (kd:Nat) (tg ky tx:List UInt8) (al:List (List UInt8 × List UInt8)) (ch:List T):Bool:=decide (kd=1) && (Ff tg && ((decide (ky=[]) || Ff ky) && (decide (tx=[]) && (decide (al.length≤8) && (decide (ch.length≤16) && (Bm none al && Dp [] ch))))))
def Cc:T→Bool
 | .nd kd tg ky tx al ch=>if kd=2 then He tx && (decide (tg=[]) && (decide (ky=[]) && (decide (al.length=0) && decide (ch.length=0)))) else Cz kd tg ky tx al ch
theorem alone2 {b o:Nat} {z ky D:List UInt8} {al:List (List UInt8 × List UInt8)} {ch:List T} {a c:AV} {E cc:List AV} (s:St h G) (h0:h.read b o 1=some [iQ vQ 2]) (O:h.read b (o+1) 1=some [sQ z]) (U:h.read b (o+2) 1=some [sQ ky])
  (Y:h.read b (o+3) 1=some [a]) (Z:h.read b (o+4) 1=some [sQ D]) (h5:h.read b (o+5) 1=some [c]) (ha:Arr G 2 a al.length E) (hc:Arr G 6 c ch.length cc) :
  Ans ctx 121 [jQ b o] h fun x h'=>x=bQ (Cc (.nd 2 z ky D al ch))∧Gro h G h':=by
 refine aO Tryz.f121 ?_;simp only [Tryz.f121];have I:decide ((al.length:Int)=0)=decide (al.length=0):=decide_eq_decide.2 tM;have J:decide ((ch.length:Int)=0)=decide (ch.length=0):=decide_eq_decide.2 tM;unfold Cc;cases e1:He D <;> cases e2:decide (z=[]) <;> cases e3:decide (ky=[]) <;> cases e4:decide (al.length=0) <;> cases e5:decide (ch.length=0) <;>
  simp only [seval,go_sem,h0,O,U,Y,Z,h5,P8,ha.len,hc.len,I,J,e1,e2,e3,e4,e5]
 all_goals exact Stp.refl s
theorem bl_ne {a b:List UInt8}:(Op.bytesLess a b || a==b) = !Op.bytesLess b a:=by
 cases h:Op.bytesLess b a with
 | true =>
  cases h2:(Op.bytesLess a b || a==b) with
  | false=>rfl
  | true=>exact absurd h (bl_le.1 h2)
 | false=>exact bl_le.2 (by rw [h];exact Bool.false_ne_true)
theorem Amw:∀ (l:List T) {i:Nat} (z:i < l.length),Dp (l.take i) (l.drop i)=((decide (l[i].key=[]) || !((l.take i).any fun u=>decide (u.key=l[i].key))) && Dp (l.take (i+1)) (l.drop (i+1))):=fun l i z=>by
 rw [List.drop_eq_getElem_cons z,Dp,List.take_succ_eq_append_getElem z]
theorem RTs.take:∀ (l:List T) (cs:List AV) (i:Nat),i≤l.length→RTs G l cs→RTs G (l.take i) (cs.take (i * 6))
 | l,cs,0,_,_=>by rw [List.take_zero,Nat.zero_mul,List.take_zero];rfl
 | t::l,cs,i+1,hi,⟨x,r,h1,h2,h3⟩=>by
  have hl:=RT.len t x h2;rw [List.take_succ_cons,h1,List.take_append,List.take_of_length_le (l:=x) tM,show (i+1) * 6 - x.length=i * 6 by omega];exact ⟨x,_,rfl,h2,RTs.take l r i (by simpa using hi) h3⟩
theorem RT.key:∀ {t:T} {x:List AV},RT G t x→∃ a b c d e,x=[a,b,sQ t.key,c,d,e]
 | .nd kd tg ky tx al ch,x,⟨a,c,cc,h1,_⟩=>⟨_,_,_,_,_,h1⟩
theorem alone1 {b o kd:Nat} {tg ky tx:List UInt8} {al:List (List UInt8 × List UInt8)} {ch:List T} {a c:AV} {cc:List AV} (s:St h G) (hk:kd≠2) (h0:h.read b o 1=some [iQ vQ (kd:Int)]) (h1:h.read b (o+1) 1=some [sQ tg]) (h2:h.read b (o+2) 1=some [sQ ky])
  (h3:h.read b (o+3) 1=some [a]) (h4:h.read b (o+4) 1=some [sQ tx]) (h5:h.read b (o+5) 1=some [c]) (ha:Arr G 2 a al.length (Ax al)) (U:Arr G 6 c ch.length cc) (hr:RTs G ch cc) :
  Ans ctx 121 [jQ b o] h fun x h'=>x=bQ (Cc (.nd kd tg ky tx al ch))∧Gro h G h':=by
 refine aO Tryz.f121 ?_;simp only [Tryz.f121];have d0:¬ ((kd:Int)=2):=tM;have d1:decide ((kd:Int)=1)=decide (kd=1):=decide_eq_decide.2 tM;have d2:decide ((8:Int) < al.length) = !decide (al.length≤8):=by rw [← decide_not];exact decide_eq_decide.2 tM
 have d3:decide ((16:Int) < ch.length) = !decide (ch.length≤16):=by rw [← decide_not];exact decide_eq_decide.2 tM
 have ah:=ha.len;have aj:=U.len;rw [show Cc (.nd kd tg ky tx al ch)=Cz kd tg ky tx al ch from if_neg hk];unfold Cz;cases e1:decide (kd=1)
 ·simp only [seval,go_sem,h0,d0,d1,e1];exact Stp.refl s
 cases e2:Ff tg
 ·simp only [seval,go_sem,h0,h1,d0,d1,e1,e2,Km];exact Stp.refl s
 refine (fun key:al.length≤8→ch.length≤16→∀ e,e.get 0=some (AV.ptr b o)→e.get 101=some a→e.get 102=some (iQ wQ al.length)→e.get 103=some (iQ wQ 0)→Bq ctx 161 ?k ⟨e,h⟩ ?Q=>?main) ?key
 case main =>
  cases e5:decide (tx=[])
  ·cases e3:decide (ky=[]) <;> cases e4:Ff ky <;> (simp only [seval,go_sem,h0,h1,h2,h4,d0,d1,e1,e2,e3,e4,e5,Km];exact Stp.refl s)
  cases e6:decide (al.length≤8)
  ·cases e3:decide (ky=[]) <;> cases e4:Ff ky <;> (simp only [seval,go_sem,h0,h1,h2,h3,h4,ah,d0,d1,d2,e1,e2,e3,e4,e5,e6,Km];exact Stp.refl s)
  cases e7:decide (ch.length≤16)
  ·cases e3:decide (ky=[]) <;> cases e4:Ff ky <;> (simp only [seval,go_sem,h0,h1,h2,h3,h4,h5,ah,aj,d0,d1,d2,d3,e1,e2,e3,e4,e5,e6,e7,Km];exact Stp.refl s)
  cases e3:decide (ky=[]) <;> cases e4:Ff ky <;> (simp only [seval,go_sem,h0,h1,h2,h3,h4,h5,ah,aj,d0,d1,d2,d3,e1,e2,e3,e4,e5,e6,e7,Km];first | exact Stp.refl s | (refine key (of_decide_eq_true e6) (of_decide_eq_true e7) _ ?_ ?_ ?_ ?_ <;> simp [Tr.get_set]))
 case key =>
  clear e1 e2 d0 d1 d2 d3;intro ax av e O z D E;refine Ao (fun i e h'=>Gro h G h'∧i≤al.length∧Bm none al=Bm (match i with | 0=>none | i+1=>(al[i]?).map (·.1)) (al.drop i)∧e.get 0=some (jQ b o)∧e.get 101=some a∧e.get 102=some (iQ wQ al.length)∧e.get 103=some (iQ wQ i)) (fun i=>al.length - i) 0 ⟨Stp.refl s,Nat.zero_le _,rfl,O,z,D,E⟩ ?_;clear O z D E e;rintro i e h' ⟨p,hi,Y,O,z,D,E⟩ ih;simp only [seval,go_sem,O,z,D,E];refine Cr (fun U=>?_) (fun I=>?_)
  ·have U:i < al.length:=by simpa using U
   have w:=wI i;obtain ⟨ab,ao,g1,g2⟩:=ha.attr p.st U;have ag:al[i]?=some al[i]:=List.getElem?_eq_getElem U;rw [List.drop_eq_getElem_cons U] at Y;generalize al[i]=nv at Y g2 ag;obtain ⟨n,v⟩:=nv;simp only [seval,go_sem,O,z,D,E,g1,p.st.read g2,w,Km];cases f1:Ff n
   ·simp only [seval,go_sem,f1];exact ⟨by rw [Y];simp [Bm,f1],(p.new.at (Or.inl p.nx) (Nat.lt_succ_self _) (p.st.none (Nat.le_refl _))).up⟩
   cases f2:He v
   ·simp only [seval,go_sem,f1,f2,P8];exact ⟨by rw [Y];simp [Bm,f1,f2],(p.new.at (Or.inl p.nx) (Nat.lt_succ_self _) (p.st.none (Nat.le_refl _))).up⟩
   have gro:∀ {b2:Blk} {m:Nat},Gro h G (((h'.new b2).at h'.nx (Blk.cells [AV.str n,AV.str v] 112)).up m):=(p.new.at (Or.inl p.nx) (Nat.lt_succ_self _) (p.st.none (Nat.le_refl _))).up;cases i with
   | zero =>
    have w0:IntKind.i64.wrap 1=1:=by decide
    simp only [seval,go_sem,f1,f2,P8,Int.ofNat_zero,w0,z,D,E];refine ih 1 _ _ tM ⟨gro,U,?_,?_⟩
    ·rw [Y];simp [Bm,f1,f2,ag]
    ·simp [Tr.get_set,O,z,D]
   | succ i =>
    have w1:IntKind.i64.wrap (((i+1:Nat):Int) - 1)=(i:Int):=by rw [show ((i+1:Nat):Int) - 1=((i:Nat):Int) by omega];exact Bz tM
    have am:decide ((0:Int) < ((i+1:Nat):Int))=true:=decide_eq_true tM;obtain ⟨ac,an,q1,q2⟩:=ha.attr p.st (j:=i) tM;have ai:al[i]?=some al[i]:=List.getElem?_eq_getElem tM;generalize al[i]=nv at ai q2;obtain ⟨n2,v2⟩:=nv;have rq:∀ {b2:Blk} {k m},G.read ac k m=some [sQ n2,sQ v2]→(((h'.new b2).at h'.nx (Blk.cells [AV.str n,AV.str v] 112)).up 28).read ac k m=some [sQ n2,sQ v2]:=fun e=>(gro.st).read e;have az:h'.read b (o+3) 1=some [a]:=p.rs s.1 h3 (fun hh=>hh);have r3:(((h'.new (cQ [sQ [],sQ []] 112)).at h'.nx (Blk.cells [AV.str n,AV.str v] 112)).up 28).read b (o+3) 1=some [a]:=(gro (b2:=cQ [sQ [],sQ []] 112) (m:=28)).rs s.1 h3 (fun hh=>hh);have r4:(((h'.new (cQ [sQ [],sQ []] 112)).at h'.nx (Blk.cells [AV.str n,AV.str v] 112)).up 28).read ac (an+i * 2) 1=some [sQ n2]:=by
     have:=(gro (b2:=cQ [sQ [],sQ []] 112) (m:=28)).st.read q2;exact Fk (a:=0) this rfl
    cases f3:Op.bytesLess n2 n
    ·simp only [seval,go_sem,f1,f2,P8,am,w1,O,z,D,E,r3,r4,q1,bl_ne,f3];exact ⟨by rw [Y];simp [Bm,f3,ai],gro⟩
    ·simp only [seval,go_sem,f1,f2,P8,am,w1,O,z,D,E,r3,r4,q1,bl_ne,f3,w];refine ih (i+1+1) _ _ tM ⟨gro,U,?_,?_⟩
     ·rw [Y];simp [Bm,f1,f2,f3,ag,ai]
     ·simp [Tr.get_set,O,z,D];omega
  ·have au:al.length≤i:=by simpa using I
   rw [List.drop_of_length_le au] at Y;have Y:Bm none al=true:=Y;clear ih;have ak:=p.rs s.1 h5 (fun hh=>hh);simp only [seval,go_sem,O,ak,aj,Y];refine Ao (fun i e h'=>Gro h G h'∧i≤ch.length∧Dp [] ch=Dp (ch.take i) (ch.drop i)∧e.get 0=some (jQ b o)∧e.get 140=some c∧e.get 141=some (iQ wQ ch.length)∧e.get 142=some (iQ wQ i)) (fun i=>ch.length - i) 0 ⟨p,Nat.zero_le _,rfl,by simp [Tr.get_set,O]⟩ ?_;clear O z D E p ak;rintro i e h' ⟨p,hi,hy,O,z,D,E⟩ ih;simp only [seval,go_sem,O,z,D,E];refine Cr (fun I=>?_) (fun I=>?_)
   ·have I:i < ch.length:=by simpa using I
    have w:=wI i;obtain ⟨cb,co,x,g1,g2,g3⟩:=U.tree p.st hr I;rw [Amw ch I] at hy;obtain ⟨v',g4,g5⟩:=U.cut (C:=ctx) (t:=34) (el:=36) u34 s36 tM I;generalize hte:ch[i]=t at hy g3;obtain ⟨kd2,Z,J,aa,ae,af⟩:=t;obtain ⟨a2,c2,ay,rfl,ap,ar,_⟩:=g3;have o1:=ap.one;have o2:=ar.one;have gro:∀ {b2 b3:Blk},Gro h G (((h'.new b2).at h'.nx b3)):=(p.new.at (Or.inl p.nx) (Nat.lt_succ_self _) (p.st.none (Nat.le_refl _)));have aw:(ch.take i).length=i:=by rw [List.length_take];omega
    simp only [seval,go_sem,O,z,D,E,g1,p.st.read g2,w,o1,o2];cases f1:decide (J=[])
    ·have aq:((h'.new (Blk.cells [AV.int IntKind.u8 0,AV.str [],AV.str [],AV.raw (Value.slice none 0 0),AV.str [],AV.raw (Value.slice none 0 0)] 36)).at h'.nx (Blk.cells [AV.int IntKind.u8 kd2,AV.str Z,AV.str J,a2,AV.str aa,c2] 36)).read b (o+5) 1=some [c]:=gro.rs s.1 h5 (fun hh=>hh);simp only [seval,go_sem,f1,O,z,D,E,aq,g4];refine Ae (e178 (ky:=J) gro.st (l:=ch.take i) (aw.symm ▸ g5) (RTs.take ch cc i tM hr) (by simp only [seval,go_sem]) tM) fun v h2 ⟨q1,q2⟩=>?_;subst q1;cases f2:(ch.take i).any fun t=>decide (t.key=J)
     ·simp only [seval,go_sem,f1,O,z,D,E,w];refine ih (i+1) _ _ tM ⟨gro.trans q2,I,?_,?_⟩
      ·rw [hy,show (T.nd kd2 Z J aa ae af).key=J from rfl,f2];simp
      ·simp [Tr.get_set,O,z,D]
     ·simp only [seval,go_sem];exact ⟨by rw [hy,show (T.nd kd2 Z J aa ae af).key=J from rfl,f1,f2];simp,gro.trans q2⟩
    ·simp only [seval,go_sem,f1,O,z,D,E,w];refine ih (i+1) _ _ tM ⟨gro,I,?_,?_⟩
     ·rw [hy,show (T.nd kd2 Z J aa ae af).key=J from rfl,f1];simp
     ·simp [Tr.get_set,O,z,D]
   ·have I:ch.length≤i:=by simpa using I
    rw [List.drop_of_length_le I] at hy;simp only [seval,go_sem];exact ⟨by rw [hy];rfl,p⟩
def Rnd (h:H) (b o:Nat):List AV→Prop
 | []=>True
 | x::cs=>h.read b o 1=some [x]∧Rnd h b (o+1) cs
theorem Gl {b o n:Nat} {cs:List AV} (e:h.read b o n=some cs) {j:Nat} {x:AV} (z:cs[j]?=some x):h.read b (o+j) 1=some [x]:=Fk e z
theorem alone {b o:Nat} {t:T} {x:List AV} (s:St h G) (z:h.read b o 6=some x) (r:RT G t x):Ans ctx 121 [jQ b o] h fun v h'=>v=bQ (Cc t)∧Gro h G h':=by
 obtain ⟨kd,tg,ky,tx,al,ch⟩:=t;obtain ⟨a,c,cc,rfl,U,Y,Z⟩:=r;have h0:=Gl z (j:=0) rfl;have D:=Gl z (j:=1) rfl;have E:=Gl z (j:=2) rfl;have I:=Gl z (j:=3) rfl;have J:=Gl z (j:=4) rfl;have O:=Gl z (j:=5) rfl
 by_cases hk:kd=2
 ·subst hk;exact alone2 s h0 D E I J O U Y
 ·exact alone1 s hk h0 D E I J O U Y Z
end
mutual
def wkT:T→Nat→Nat × Nat→Bool × Nat × Nat
 | .nd kd tg ky tx al ch,lv,s=>if lv≤6∧s.1+1≤64∧Cc (.nd kd tg ky tx al ch)=true then wkL ch (lv+1) (s.1+1,max s.2 lv) else (false,s.1+1,max s.2 lv)
def wkL:List T→Nat→Nat × Nat→Bool × Nat × Nat
 | [],_,s=>(true,s)
 | t::l,lv,s=>if (wkT t lv s).1=true then wkL l lv (wkT t lv s).2 else (false,(wkT t lv s).2)
end
theorem wkT_e {t:T} {lv:Nat} {s:Nat × Nat}:wkT t lv s=if lv≤6∧s.1+1≤64∧Cc t=true then wkL t.ch (lv+1) (s.1+1,max s.2 lv) else (false,s.1+1,max s.2 lv):=by
 cases t;rw [wkT];rfl
section
variable {h:H} {G:Fz}
mutual
theorem Abw:∀ (t:T) {lv:Nat} {s:Nat × Nat},(wkT t lv s).1=true→(wkT t lv s).2.1≤64
 | .nd kd tg ky tx al ch,lv,s,h=>by
  rw [wkT] at h ⊢;split at h
  ·rename_i hc;rw [if_pos hc];exact wkL_le ch (by exact hc.2.1) h
  ·cases h
theorem wkL_le:∀ (l:List T) {lv:Nat} {s:Nat × Nat},s.1≤64→(wkL l lv s).1=true→(wkL l lv s).2.1≤64
 | [],lv,s,hs,h=>by rw [wkL];exact hs
 | t::l,lv,s,hs,h=>by
  rw [wkL] at h ⊢;split at h
  ·rename_i hc;rw [if_pos hc];exact wkL_le l (Abw t hc) h
  ·cases h
end
theorem Mx {t:T} (h:Cc t=true):t.ch.length≤16:=by
 obtain ⟨kd,z,ky,D,al,ch⟩:=t;show ch.length≤16
 by_cases hk:kd=2
 ·rw [show Cc (.nd kd z ky D al ch)=_ from if_pos hk] at h;simp only [Bool.and_eq_true,decide_eq_true_eq] at h;omega
 ·rw [show Cc (.nd kd z ky D al ch)=Cz kd z ky D al ch from if_neg hk] at h;unfold Cz at h;simp only [Bool.and_eq_true,decide_eq_true_eq] at h;exact h.2.2.2.2.2.1
structure Cnt (h:H) (G:Fz) (q2 q3 q4 c d:Nat):Prop where
 s:St h G
 g2:h.m.get q2=some (cQ [iQ wQ (c:Int)] 3)
 g3:h.m.get q3=some (cQ [iQ wQ (d:Int)] 3)
 g4:h.m.get q4=some (cQ [.fn (.func 120) [] [jQ q2 0,jQ q3 0,jQ q4 0]] 205)
 n2:G q2=none
 n3:G q3=none
 ne:q2≠q3∧q4≠q2∧q4≠q3
abbrev CW (q2 q3:Nat):Nat→Prop:=fun i=>i=q2∨i=q3
theorem Cnt.set {z D I c d c' d':Nat} (C:Cnt h G z D I c d) :
  Stp (CW z D) h G ((h.at z (cQ [iQ wQ (c':Int)] 3)).at D (cQ [iQ wQ (d':Int)] 3)) G∧Cnt ((h.at z (cQ [iQ wQ (c':Int)] 3)).at D (cQ [iQ wQ (d':Int)] 3)) G z D I c' d':=by
 have J:Stp (CW z D) h G (h.at z (cQ [iQ wQ (c':Int)] 3)) G:=(Stp.refl C.s).at' (Or.inl rfl) C.g2 C.n2;have E:Stp (CW z D) h G ((h.at z (cQ [iQ wQ (c':Int)] 3)).at D (cQ [iQ wQ (d':Int)] 3)) G:=J.at' (Or.inr rfl) ((An C.ne.1.symm).trans C.g3) C.n3;exact ⟨E,E.st,(An C.ne.1).trans Ap,Ap,(An C.ne.2.2).trans ((An C.ne.2.1).trans C.g4),C.n2,C.n3,C.ne⟩
theorem Cnt.mv {z D E c d:Nat} {h':H} (C:Cnt h G z D E c d) (p:Gro h G h'):Cnt h' G z D E c d :=
 ⟨p.st,p.gt C.s.1 C.g2 (fun h=>h),p.gt C.s.1 C.g3 (fun h=>h),p.gt C.s.1 C.g4 (fun h=>h),C.n2,C.n3,C.ne⟩
theorem Cnt.r2 {z D E c d:Nat} (C:Cnt h G z D E c d):h.read z 0 1=some [iQ wQ (c:Int)]:=(Ab C.g2).trans rfl
theorem Cnt.r3 {D z E c d:Nat} (C:Cnt h G D z E c d):h.read z 0 1=some [iQ wQ (d:Int)]:=(Ab C.g3).trans rfl
theorem Cnt.r4 {D E z c d:Nat} (C:Cnt h G D E z c d):h.read z 0 1=some [.fn (.func 120) [] [jQ D 0,jQ E 0,jQ z 0]]:=(Ab C.g4).trans rfl
mutual
theorem e120 {q2 q3 q4:Nat}:∀ (t:T) {x:List AV} {b o lv c d:Nat} {h:H},Cnt h G q2 q3 q4 c d→G.read b o 6=some x→RT G t x→lv≤7→c≤64→d < 100 →
  Ans ctx 120 [jQ b o,iQ wQ (lv:Int),jQ q2 0,jQ q3 0,jQ q4 0] h fun v h'=>v=bQ (wkT t lv (c,d)).1∧Stp (CW q2 q3) h G h' G∧Cnt h' G q2 q3 q4 (wkT t lv (c,d)).2.1 (wkT t lv (c,d)).2.2∧(wkT t lv (c,d)).2.2 < 100
 | .nd kd tg ky tx al ch,x,b,o,lv,c,d,h,C,hg,hr,hlv,hc,hd=>by
  refine aO Tryz.f120 ?_;simp only [Tryz.f120];have w1:=wI c;have hm:max (d:Int) (lv:Int)=((max d lv:Nat):Int):=tM;have hmd:max d lv < 100:=tM;obtain ⟨p2,C2⟩:=C.set (c':=c+1) (d':=max d lv);obtain ⟨W,hW⟩:∃ W,W=wkT (.nd kd tg ky tx al ch) lv (c,d):=⟨_,rfl⟩;have hW2:=hW.trans wkT_e;rw [← hW];clear hW;have no:¬ (lv≤6∧c+1≤64∧Cc (.nd kd tg ky tx al ch)=true)→W=(false,c+1,max d lv):=fun hn=>hW2.trans (if_neg hn);have c1:decide ((6:Int) < (lv:Int)) = !decide (lv≤6):=by rw [← decide_not];exact decide_eq_decide.2 tM
  have c2:decide ((64:Int) < ((c+1:Nat):Int)) = !decide (c≤63):=by rw [← decide_not];exact decide_eq_decide.2 tM
  have hal:=alone C2.s (C2.s.read hg) hr;generalize hx:Blk.cells [AV.int wQ ((c+1:Nat):Int)] 3=bx at *;generalize hy:Blk.cells [AV.int wQ ((max d lv:Nat):Int)] 3=by_ at *;have g3':=(An (b:=bx) C.ne.1.symm).trans C.g3;cases d1:decide (lv≤6)
  ·simp only [seval,go_sem,C.r2,C.r3,Nq C.g2,Us C.ne.1.symm,w1,hm,hx,Nq g3',hy,C2.r2,C2.r3,c1,c2,d1];rw [no (fun h=>of_decide_eq_false d1 h.1)];exact ⟨rfl,p2,C2,hmd⟩
  cases d2:decide (c≤63)
  ·simp only [seval,go_sem,C.r2,C.r3,Nq C.g2,Us C.ne.1.symm,w1,hm,hx,Nq g3',hy,C2.r2,C2.r3,c1,c2,d1,d2];rw [no (fun h=>of_decide_eq_false d2 (by have:=h.2.1;omega))];exact ⟨rfl,p2,C2,hmd⟩
  simp only [seval,go_sem,C.r2,C.r3,Nq C.g2,Us C.ne.1.symm,w1,hm,hx,Nq g3',hy,C2.r2,C2.r3,c1,c2,d1,d2];refine Ae hal fun v h3 ⟨hv,p3⟩=>?_;subst hv;have C3:=C2.mv p3;have p3:=p2.in p3 (fun _ _ h=>h.elim);cases d3:Cc (.nd kd tg ky tx al ch)
  ·simp only [seval,go_sem];rw [no (fun h=>by rw [d3] at h;cases h.2.2)];exact ⟨rfl,p3,C3,hmd⟩
  have yes:W=wkL ch (lv+1) (c+1,max d lv):=hW2.trans (if_pos ⟨of_decide_eq_true d1,by have:=of_decide_eq_true d2;omega,d3⟩);clear no hW2 c1 c2;obtain ⟨a,cv,cc,rfl,ha,hc2,hrs⟩:=hr;have h5:h3.read b (o+5) 1=some [cv]:=Gl (C3.s.read hg) (j:=5) rfl;simp only [seval,go_sem,h5,hc2.len];rw [yes];refine Ao (fun i e h'=>(∃ c' d',Cnt h' G q2 q3 q4 c' d'∧c'≤64∧d' < 100∧wkL ch (lv+1) (c+1,max d lv)=wkL (ch.drop i) (lv+1) (c',d'))∧Stp (CW q2 q3) h G h' G∧i≤ch.length∧e.get 0=some (jQ b o)∧e.get 1=some (iQ wQ lv)∧e.get 4=some (jQ q4 0)∧e.get 29=some (iQ wQ ch.length)∧e.get 30=some (iQ wQ i)) (fun i=>ch.length - i) 0 ⟨⟨_,_,C3,by have:=of_decide_eq_true d2;omega,hmd,rfl⟩,p3,Nat.zero_le _,by simp [Tr.get_set]⟩ ?_;have hlv6:=of_decide_eq_true d1;have h16:ch.length≤16:=Mx d3;clear C2 hal h5 p2 p3 C3 d1 d2;rintro i e h' ⟨⟨c',d',C',hc',hd',hw'⟩,p,hi,e0,e1,e4,e29,e30⟩ ih;simp only [seval,go_sem,e0,e1,e4,e29,e30];refine Cr (fun hc1=>?_) (fun hc1=>?_)
  ·have hc1:i < ch.length:=by simpa using hc1
   have h5:h'.read b (o+5) 1=some [cv]:=Gl (C'.s.read hg) (j:=5) rfl;obtain ⟨cb,co,x,g1,g2,g3⟩:=hc2.tree C'.s hrs hc1;have w2:=wI i;have w3:=wI lv;rw [List.drop_eq_getElem_cons hc1,wkL] at hw';obtain ⟨_,h4,q1,rfl,p4,C4,d4⟩:=e120s ch (j:=i) hc1 (C'.mv ((Stp.refl C'.s).up (n:=11))) g2 g3 (lv:=lv+1) tM hc' hd';have p4:=(p.up (n:=11)).in p4 (fun _ _ h=>h);have hle:=Abw ch[i] (lv:=lv+1) (s:=(c',d'));generalize hu:wkT ch[i] (lv+1) (c',d')=u at *;obtain ⟨ub,uc,ud⟩:=u;simp only [seval,go_sem,e0,e1,e4,e29,e30,h5,g1,w2,w3,C'.r4,q1];cases ub
   ·simp only [seval,go_sem];rw [hw'];exact ⟨rfl,p4,C4,d4⟩
   ·simp only [seval,go_sem,e0,e1,e4,e29,e30,w2];exact ih (i+1) _ _ tM ⟨⟨uc,ud,C4,hle rfl,d4,hw'.trans (if_pos rfl)⟩,p4,hc1,by simp [Tr.get_set,e0,e1,e4,e29]⟩
  ·have hc1:ch.length≤i:=by simpa using hc1
   rw [List.drop_of_length_le hc1,wkL] at hw';simp only [seval,go_sem];rw [hw'];exact ⟨rfl,p,C',hd'⟩
theorem e120s {q2 q3 q4:Nat}:∀ (l:List T) {j:Nat} (hj:j < l.length) {x:List AV} {b o lv c d:Nat} {h:H},Cnt h G q2 q3 q4 c d→G.read b o 6=some x→RT G l[j] x→lv≤7→c≤64→d < 100 →
  Ans ctx 120 [jQ b o,iQ wQ (lv:Int),jQ q2 0,jQ q3 0,jQ q4 0] h fun v h'=>v=bQ (wkT l[j] lv (c,d)).1∧Stp (CW q2 q3) h G h' G∧Cnt h' G q2 q3 q4 (wkT l[j] lv (c,d)).2.1 (wkT l[j] lv (c,d)).2.2∧(wkT l[j] lv (c,d)).2.2 < 100
 | t::l,0,_,x,b,o,lv,c,d,h,C,hg,hr,hlv,hc,hd=>e120 t C hg hr hlv hc hd
 | t::l,j+1,hj,x,b,o,lv,c,d,h,C,hg,hr,hlv,hc,hd=>e120s l (by simpa using hj) C hg hr hlv hc hd
end
def Iu (t:T):Nat:=if (wkT t 1 (0,0)).1=true then (wkT t 1 (0,0)).2.1 else 0
def depT (t:T):Nat:=if (wkT t 1 (0,0)).1=true then (wkT t 1 (0,0)).2.2 else 0
theorem RT.one:∀ {t:T} {x:List AV},RT G t x→Af x=true
 | .nd kd tg ky tx al ch,x,⟨a,c,cc,h1,h2,h3,_⟩=>by
  subst h1;simp only [Af,h2.one,h3.one];rfl
theorem e56 {t:T} {x:List AV} (s:St h G) (r:RT G t x):Ans ctx 56 [gQ x] h fun v h'=>v=.tup [iQ wQ (Iu t:Int),iQ wQ (depT t:Int)]∧Gro h G h':=by
 refine aO Tryz.f56 ?_;simp only [Tryz.f56];have h1:=r.one;have Y:=r.len;simp only [seval,go_sem];generalize hS:(H.at _ _ _)=S;have p:Stp (fun _=>False) h G S (G.add h.nx (cQ x 36)):=by
  subst hS;refine ((((Stp.refl s).new.new.new.new).at (Or.inl tM) (by simp only [Ac];omega) (s.none tM)).frz (Nat.le_refl _) ?_);exact gL
 have J:G.add h.nx (cQ x 36) h.nx=some (cQ x 36):=Fz.add_at;have C:Cnt S (G.add h.nx (cQ x 36)) (h.nx+1) (h.nx+2) (h.nx+3) 0 0:=by
  refine ⟨p.st,?_,?_,?_,?_,?_,tM⟩
  ·subst hS;simp (disch:=first | omega | (simp only [Ac,Ag,Ai] <;> omega) | fail) only [Bh,Ca,Cd,Bb,Az];rfl
  ·subst hS;simp (disch:=first | omega | (simp only [Ac,Ag,Ai] <;> omega) | fail) only [Bh,Ca,Cd,Bb,Az];rfl
  ·subst hS;exact gL
  ·rw [Fz.add_ne tM];exact s.none tM
  ·rw [Fz.add_ne tM];exact s.none tM
 have U:(G.add h.nx (cQ x 36)).read h.nx 0 6=some x:=by rw [Fz.rd_b J,← Y];exact Aj
 refine Ae (e120 t C U (r.mono (Fz.add_le (s.none (Nat.le_refl _)))) (lv:=1) tM tM tM) fun v O ⟨q1,Z,z,hd⟩=>?_;subst q1;have I:=p.in Z (W2:=CW (h.nx+1) (h.nx+2)) (fun i hi hw=>by rcases hw with rfl | rfl <;> omega);have hb:=Abw t (lv:=1) (s:=(0,0));unfold Iu depT;generalize wkT t 1 (0,0)=u at *;obtain ⟨ub,uc,ud⟩:=u;have E:(h.nx+2=h.nx+1)=False:=by simp
 have D:(h.nx+1=h.nx+2)=False:=by simp
 have gro:∀ {x y:AV},Gro h G ((O.at (h.nx+1) (cQ [x] 3)).at (h.nx+2) (cQ [y] 3)):=fun {x y}=>((I.at (Or.inl tM) (Ah z.s.1 z.g2) z.n2).at (Or.inl tM) (by simp only [Ag];exact Ah z.s.1 z.g3) z.n3).less s;cases ub
 ·simp only [seval,go_sem,z.g2,z.g3,E,D];exact gro
 ·simp only [seval,go_sem,z.g2,z.g3,z.r2,z.r3,E,D];exact ((((I.up (n:=4)).at (Or.inl tM) (Ah z.s.1 z.g2 |> fun h=>by simp only [Ai];omega) z.n2).at (Or.inl tM) (Ah z.s.1 z.g3 |> fun h=>by simp only [Ag,Ai];omega) z.n3).less s)
theorem count {t:T} {x:List AV} (s:St h G) (r:RT G t x):Ans ctx 20 [gQ x] h fun v h'=>v=iQ wQ (Iu t:Int)∧Gro h G h':=by
 refine aO Tryz.f20 ?_;simp only [Tryz.f20];have I:=r.one;have z:=r.len;have p:=(Stp.refl (W:=fun _=>False) s).new (b:=cQ x 36);have D:Aq 0 6 x=some x:=by rw [← z];exact Aj
 simp only [seval,go_sem,D];refine Ae (e56 p.st r) fun v J ⟨q,E⟩=>?_;subst q;simp only [seval,go_sem];exact p.trans E
theorem Hl {t:T} {x:List AV} (s:St h G) (r:RT G t x):Ans ctx 36 [gQ x] h fun v h'=>v=iQ wQ (if Iu t=0 then 14 else 0)∧Gro h G h':=by
 refine aO Tryz.f36 ?_;simp only [Tryz.f36];have I:=r.one;have D:=r.len;have p:=(Stp.refl (W:=fun _=>False) s).new (b:=cQ x 36);have E:Aq 0 6 x=some x:=by rw [← D];exact Aj
 simp only [seval,go_sem,E];refine Ae (count p.st r) fun v J ⟨q,z⟩=>?_;subst q;have c1:decide ((Iu t:Int)=0)=decide (Iu t=0):=decide_eq_decide.2 tM
 by_cases hc:Iu t=0
 ·simp only [seval,go_sem,c1,hc];exact p.trans z
 ·simp only [seval,go_sem,c1,hc];exact p.trans z
end
open Go
mutual
def okT:T→Bool
 | .nd kd tg ky tx al ch=>Cc (.nd kd tg ky tx al ch) && okTs ch
def okTs:List T→Bool
 | []=>true
 | t::l=>okT t && okTs l
end
mutual
def siz:T→Nat
 | .nd _ _ _ _ _ ch=>1+sizs ch
def sizs:List T→Nat
 | []=>0
 | t::l=>siz t+sizs l
end
mutual
def dep:T→Nat
 | .nd _ _ _ _ _ ch=>1+deps ch
def deps:List T→Nat
 | []=>0
 | t::l=>max (dep t) (deps l)
end
mutual
theorem wk_ok:∀ (t:T) {lv c d:Nat},okT t=true→lv+dep t≤7→c+siz t≤64→(wkT t lv (c,d)).1=true∧(wkT t lv (c,d)).2.1=c+siz t
 | .nd kd tg ky tx al ch,lv,c,d,h1,h2,h3=>by
  rw [okT,Bool.and_eq_true] at h1;rw [dep] at h2;rw [siz] at h3;rw [wkT,if_pos ⟨tM,(by omega:c+1≤64),h1.1⟩,siz];have:=wks_ok ch (lv:=lv+1) (c:=c+1) (d:=max d lv) h1.2 tM tM;exact ⟨this.1,by rw [show c+(1+sizs ch)=c+1+sizs ch by omega];exact this.2⟩
theorem wks_ok:∀ (l:List T) {lv c d:Nat},okTs l=true→lv+deps l≤7→c+sizs l≤64→(wkL l lv (c,d)).1=true∧(wkL l lv (c,d)).2.1=c+sizs l
 | [],lv,c,d,h1,h2,h3=>by rw [wkL,sizs];exact ⟨rfl,rfl⟩
 | t::l,lv,c,d,h1,h2,h3=>by
  rw [okTs,Bool.and_eq_true] at h1;rw [deps] at h2;rw [sizs] at h3;obtain ⟨a,b⟩:=wk_ok t (lv:=lv) (c:=c) (d:=d) h1.1 tM tM;rw [wkL,if_pos a,sizs];generalize wkT t lv (c,d)=u at a b ⊢;obtain ⟨ub,uc,ud⟩:=u;simp only at a b ⊢;subst b;have:=wks_ok l (lv:=lv) (c:=c+siz t) (d:=ud) h1.2 tM tM;rw [← Nat.add_assoc];exact this
end
mutual
theorem Aqj:∀ (t:T) {lv c d:Nat},(wkT t lv (c,d)).1=true→okT t=true∧lv+dep t≤7∧c+siz t≤64∧(wkT t lv (c,d)).2.1=c+siz t
 | .nd kd tg ky tx al ch,lv,c,d,h=>by
  rw [wkT] at h ⊢;split at h
  ·rename_i hc;rw [if_pos hc,okT,siz,dep,hc.2.2];obtain ⟨a,b,e,f⟩:=wks_inv ch h (by have:=hc.1;omega) hc.2.1;exact ⟨by rw [a];rfl,tM,tM,by rw [f];omega⟩
  ·cases h
theorem wks_inv:∀ (l:List T) {lv c d:Nat},(wkL l lv (c,d)).1=true→lv≤7→c≤64→okTs l=true∧lv+deps l≤7∧c+sizs l≤64∧(wkL l lv (c,d)).2.1=c+sizs l
 | [],lv,c,d,h,h1,h2=>by rw [wkL,sizs,deps];exact ⟨rfl,h1,h2,rfl⟩
 | t::l,lv,c,d,h,h1,h2=>by
  rw [wkL] at h ⊢;split at h
  ·rename_i hc;obtain ⟨a,b,e,f⟩:=Aqj t hc;rw [if_pos hc,okTs,sizs,deps];generalize wkT t lv (c,d)=u at hc h f ⊢;obtain ⟨ub,uc,ud⟩:=u;simp only at f;subst f;obtain ⟨a2,b2,e2,f2⟩:=wks_inv l h h1 e;exact ⟨by rw [a,a2];rfl,tM,tM,by rw [f2];omega⟩
  ·cases h
end
def A8 (t:T):Prop:=okT t=true∧dep t≤6∧siz t≤64
theorem Axv {t:T} (h:A8 t):Iu t=siz t:=by
 obtain ⟨a,b⟩:=wk_ok t (lv:=1) (c:=0) (d:=0) h.1 (by have:=h.2.1;omega) (by have:=h.2.2;omega);unfold Iu;rw [if_pos a,b,Nat.zero_add]
theorem Mb:∀ t:T,0 < siz t
 | .nd _ _ _ _ _ ch=>by rw [siz];omega
theorem Gv {t:T} (h:A8 t):Iu t≠0:=by rw [Axv h];have:=Mb t;omega
theorem cnt_inv {t:T} (h:Iu t≠0):A8 t:=by
 unfold Iu at h;split at h
 ·rename_i z;obtain ⟨a,b,e,_⟩:=Aqj t z;exact ⟨a,tM,tM⟩
 ·exact absurd rfl h
theorem Jp:∀ {l:List T} {t:T},okTs l=true→t∈l→okT t=true
 | a::l,t,h,hm=>by
  rw [okTs,Bool.and_eq_true] at h;rcases List.mem_cons.1 hm with rfl | hm
  ·exact h.1
  ·exact Jp h.2 hm
theorem Qf:∀ {l:List T} {t:T},t∈l→siz t≤sizs l
 | a::l,t,hm=>by
  rw [sizs];rcases List.mem_cons.1 hm with rfl | hm
  ·omega
  ·have:=Qf hm;omega
theorem Jw:∀ {l:List T} {t:T},t∈l→dep t≤deps l
 | a::l,t,hm=>by
  rw [deps];rcases List.mem_cons.1 hm with rfl | hm
  ·omega
  ·have:=Jw hm;omega
theorem On {t:T} (h:okT t=true):Cc t=true∧okTs t.ch=true:=by
 cases t with
 | nd kd tg ky tx al ch=>rw [okT,Bool.and_eq_true] at h;exact h
theorem A8.ch {t c:T} (h:A8 t) (z:c∈t.ch):A8 c:=by
 cases t with
 | nd kd tg ky tx al ch =>
  obtain ⟨a,b,e⟩:=h;rw [okT,Bool.and_eq_true] at a;rw [dep] at b;rw [siz] at e;have:=Qf z;have:=Jw z;exact ⟨Jp a.2 z,by show dep c≤6;have:dep c≤deps ch:=Jw z;omega,by have:siz c≤sizs ch:=Qf z;omega⟩
theorem Y4 {t:T} (h:Cc t=true):t.attrs.length≤8:=by
 obtain ⟨kd,z,ky,D,al,ch⟩:=t;show al.length≤8
 by_cases hk:kd=2
 ·rw [show Cc (.nd kd z ky D al ch)=_ from if_pos hk] at h;simp only [Bool.and_eq_true,decide_eq_true_eq] at h;omega
 ·rw [show Cc (.nd kd z ky D al ch)=Cz kd z ky D al ch from if_neg hk] at h;unfold Cz at h;simp only [Bool.and_eq_true,decide_eq_true_eq] at h;exact h.2.2.2.2.1
mutual
def cpT (k:Bool):T→T
 | .nd kd tg ky tx al ch=>.nd kd tg (if k then ky else []) tx al (cpTs k ch)
def cpTs (k:Bool):List T→List T
 | []=>[]
 | t::l=>cpT k t::cpTs k l
end
theorem Jz (k:Bool):∀ l,cpTs k l=l.map (cpT k)
 | []=>rfl
 | t::l=>by rw [cpTs,Jz k l];rfl
mutual
theorem Axt:∀ t,cpT true t=t
 | .nd kd tg ky tx al ch=>by rw [cpT,cpTs_t ch];rfl
theorem cpTs_t:∀ l,cpTs true l=l
 | []=>rfl
 | t::l=>by rw [cpTs,Axt t,cpTs_t l]
end
mutual
theorem cpT_s (k:Bool):∀ t,siz (cpT k t)=siz t
 | .nd kd tg ky tx al ch=>by rw [cpT,siz,siz,cpTs_s k ch]
theorem cpTs_s (k:Bool):∀ l,sizs (cpTs k l)=sizs l
 | []=>rfl
 | t::l=>by rw [cpTs,sizs,sizs,cpT_s k t,cpTs_s k l]
end
mutual
theorem cpT_d (k:Bool):∀ t,dep (cpT k t)=dep t
 | .nd kd tg ky tx al ch=>by rw [cpT,dep,dep,cpTs_d k ch]
theorem cpTs_d (k:Bool):∀ l,deps (cpTs k l)=deps l
 | []=>rfl
 | t::l=>by rw [cpTs,deps,deps,cpT_d k t,cpTs_d k l]
end
theorem cpT_key:∀ t,(cpT false t).key=[]
 | .nd kd tg ky tx al ch=>rfl
theorem Aam:∀ (l seen:List T),Dp seen (cpTs false l)=true
 | [],_=>rfl
 | t::l,seen=>by rw [cpTs,Dp,cpT_key,Aam l];simp
theorem Ee (k:Bool):∀ l,(cpTs k l).length=l.length
 | []=>rfl
 | t::l=>by rw [cpTs,List.length_cons,List.length_cons,Ee k l]
mutual
theorem Axu:∀ t,okT t=true→okT (cpT false t)=true
 | .nd kd tg ky tx al ch,h=>by
  rw [okT,Bool.and_eq_true] at h;rw [cpT,okT,Bool.and_eq_true];refine ⟨?_,cpTs_ok ch h.2⟩;have h:=h.1
  by_cases hk:kd=2
  ·rw [show Cc (.nd kd tg ky tx al ch)=_ from if_pos hk] at h;rw [show Cc (.nd kd tg (if false=true then ky else []) tx al (cpTs false ch))=_ from if_pos hk,Ee];simp only [Bool.and_eq_true,decide_eq_true_eq] at h ⊢;exact ⟨h.1,h.2.1,rfl,h.2.2.2⟩
  ·rw [show Cc (.nd kd tg ky tx al ch)=Cz kd tg ky tx al ch from if_neg hk] at h;rw [show Cc (.nd kd tg (if false=true then ky else []) tx al (cpTs false ch))=Cz kd tg [] tx al (cpTs false ch) from if_neg hk];unfold Cz at h ⊢;rw [Ee,Aam];simp only [Bool.and_eq_true,decide_eq_true_eq] at h ⊢;exact ⟨h.1,h.2.1,by simp,h.2.2.2.1,h.2.2.2.2.1,h.2.2.2.2.2.1,h.2.2.2.2.2.2.1,trivial⟩
theorem cpTs_ok:∀ l,okTs l=true→okTs (cpTs false l)=true
 | [],_=>rfl
 | t::l,h=>by
  rw [okTs,Bool.and_eq_true] at h;rw [cpTs,okTs,Axu t h.1,cpTs_ok l h.2];rfl
end
theorem A8.cp {t:T} (h:A8 t):A8 (cpT false t):=⟨Axu t h.1,by rw [cpT_d];exact h.2.1,by rw [cpT_s];exact h.2.2⟩
theorem Bd:∀ (a b c us:List AV),b.length=us.length→Dt a.length us (a++(b++c))=some (a++(us++c))
 | [],b,c,us,h=>by
  show Cl (b++c) us=some (us++c)
  induction us generalizing b with
  | nil=>rw [List.length_eq_zero_iff.1 h];rfl
  | cons u us ih =>
   cases b with
   | nil=>cases h
   | cons x b =>
    show Dq (some u) (Cl (b++c) us)=_;rw [ih b (by simpa using h)];rfl
 | x::a,b,c,us,h=>by
  show Dq (some x) (Dt a.length us (a++(b++c)))=_;rw [Bd a b c us h];rfl
theorem Auu {z:List AV} {n:Nat}:rep z (n+1)=z++rep z n:=rfl
theorem RTs.app {G:Fz}:∀ {l:List T} {cs:List AV} {t:T} {x:List AV},RTs G l cs→RT G t x→RTs G (l++[t]) (cs++x)
 | [],cs,t,x,h,r=>by rw [show cs=[] from h];exact ⟨x,[],by simp,r,rfl⟩
 | a::l,cs,t,x,⟨y,z,h1,h2,h3⟩,r=>⟨y,z++x,by rw [h1,List.append_assoc],h2,RTs.app h3 r⟩
abbrev Aw:List AV:=[iQ vQ 0,sQ [],sQ [],(():AV),sQ [],(():AV)]
section
variable {h:H} {G:Fz}
theorem Gw:∀ l,Af (Ax l)=true
 | []=>rfl
 | (a,b)::l=>by rw [Ax];exact Gw l
def Cp (t:T) (k:Bool):Prop:=∀ {x:List AV} {h:H} {G:Fz},St h G→RT G t x→okT t=true→Ans ctx 114 [gQ x,bQ k] h fun v h'=>∃ G' x',v=gQ x'∧Stp (fun _=>False) h G h' G'∧RT G' (cpT k t) x'
theorem cp_step {k:Bool} {kd:Nat} {tg ky tx:List UInt8} {al:List (List UInt8 × List UInt8)} {ch:List T} (ih:∀ j (hj:j < ch.length),Cp ch[j] k):Cp (.nd kd tg ky tx al ch) k:=by
 intro x h G s r ok;obtain ⟨a,c,cc,rfl,ha,hc,hr⟩:=r;have ab:=On ok;have aq:ch.length≤16:=Mx ab.1;have n8:al.length≤8:=Y4 ab.1;have ak:=ab.2;refine aO Tryz.f114 ?_;simp only [Tryz.f114];have o1:=ha.one;have o2:=hc.one;refine (fun key:∀ D S e,D = (if k=true then ky else [])→Gro h G S→h.nx+2=S.nx→S.m.get h.nx=some (cQ [iQ vQ kd,sQ tg,sQ D,a,sQ tx,c] 36)→S.m.get (h.nx+1)=some (cQ Aw 36) →
   e.get 1=some (bQ k)→e.get 2=some (jQ h.nx 0)→e.get 4=some (jQ (h.nx+1) 0)→My ctx 38 (asR (FW ctx 105 [a] S)) (some 13) ?all ?l ?k e ?Q=>?main) ?key
 case main =>
  simp only [seval,go_sem,o1,o2];refine Cr (fun hk=>?_) (fun hk=>?_)
  ·simp only [seval,go_sem,o1,o2];refine key [] _ _ (by cases k;(· rfl);(· cases hk)) (((Stp.refl s).new.new).at (Or.inl (Nat.le_refl _)) (by simp only [Ac];omega) (s.none (Nat.le_refl _))) rfl ?_ ?_ ?_ ?_ ?_ <;> first | rfl | (simp (disch:=first | omega | (simp only [Ac,Ag,Ai] <;> omega) | fail) only [Bh,Ca,Cd,Bb,Az];done) | simp only [seval,go_sem]
  ·simp only [seval,go_sem,o1,o2];refine key ky _ _ (by cases k;(· cases hk);(· rfl)) ((Stp.refl s).new.new) rfl ?_ ?_ ?_ ?_ ?_ <;> first | rfl | (simp (disch:=first | omega | (simp only [Ac,Ag,Ai] <;> omega) | fail) only [Bh,Ca,Cd,Bb,Az];done) | simp only [seval,go_sem]
 case key =>
  intro D S e ag p an g0 g1 J O e4;refine Ae (Abf p.st ha tM (Gw al)) fun v h1 ⟨ow,p1⟩=>?_;have t0:=p1.gt p.st.1 g0 (fun h=>h);have t1:=p1.gt p.st.1 g1 (fun h=>h);obtain ⟨G1,p2,ao,ar⟩:=ow.frz p1 (Nat.le_refl _) (fun q hq=>p.st.none hq);have n0:G1 h.nx=none:=(p2.old _ tM).trans (s.none tM);have n1:G1 (h.nx+1)=none:=(p2.old _ tM).trans (s.none tM);simp only [seval,go_sem];refine Ae (Ajd ar) fun v2 Z ⟨ac,hh⟩=>?_;subst hh;have o3:=ac.one;have p3:=p.trans p2;clear p1 p2 ow ar;have p4:=p3.at (b:=cQ [iQ vQ kd,sQ tg,sQ D,v2,sQ tx,c] 36) (Or.inl (Nat.le_refl _)) (Ah p3.st.1 t0) n0;have b1:Nat.ble (bytes ctx 36 * ch.length) 281474976710656=true:=Nat.ble_eq_true_of_le (by rw [by36];omega);have b2:Nat.ble ch.length 9223372036854775807=true:=Nat.ble_eq_true_of_le tM;have aj:h.nx < Z.nx:=Ah p3.st.1 t0;simp only [seval,go_sem,J,O,e4,t0,o2,o3,hc.len,b1,b2,aj];have ap:h.nx+1 < Z.nx:=Ah p3.st.1 t1;have p5:=p4.new (b:=cQ (rep Aw ch.length) 36);refine Ao (fun i e h'=>(∃ G' I,Stp (fun _=>False) h G h' G'∧RTs G' (cpTs k (ch.take i)) I∧Arr G' 2 v2 al.length (Ax al)∧G' Z.nx=none∧G' h.nx=none∧G' (h.nx+1)=none ∧
   h'.m.get h.nx=some (cQ [iQ vQ kd,sQ tg,sQ D,v2,sQ tx,c] 36)∧h'.m.get (h.nx+1)=some (cQ Aw 36)∧h'.m.get Z.nx=some (cQ (I++rep Aw (ch.length - i)) 36)) ∧
   i≤ch.length∧e.get 1=some (bQ k)∧e.get 2=some (jQ h.nx 0)∧e.get 4=some (jQ (h.nx+1) 0)∧e.get 5=some (.sl Z.nx 0 ch.length ch.length)∧e.get 21=some c∧e.get 22=some (iQ wQ ch.length)∧e.get 23=some (iQ wQ i)) (fun i=>ch.length - i) 0 ?_ ?_
  ·refine ⟨⟨G1,[],p5,rfl,ac,p3.st.none (Nat.le_refl _),n0,n1,?_,?_,?_⟩,Nat.zero_le _,by simp [Tr.get_set,J,O,e4]⟩
   ·exact gL
   ·simp (disch:=first | omega | (simp only [Ac,Ag,Ai] <;> omega) | fail) only [Bh,Ca,Cd,Bb,Az];exact t1
   ·simp (disch:=first | omega | (simp only [Ac,Ag,Ai] <;> omega) | fail) only [Bh,Ca,Cd,Bb,Az];rfl
  clear J O e4 e p5 p4 t0 t1 g0 g1;rintro i e h' ⟨⟨G',I,p,rs,av,m2,m0,m1,t0,t1,t2⟩,hi,J,O,e4,e5,U,Y,aa⟩ lp;simp only [seval,go_sem,J,O,e4,e5,U,Y,aa];refine Cr (fun z=>?_) (fun z=>?_)
  ·have z:i < ch.length:=by simpa using z
   have w:=wI i;obtain ⟨cb,co,x,g1,g2,g3⟩:=hc.tree s hr z;have am:=Jp ak (List.getElem_mem z);have x6:=g3.len;have x1:=g3.one;have le:=p.le s;have ai:Aq 0 6 x=some x:=by rw [← x6];exact Aj
   have ov:Cl Aw x=some x:=by
    have:=Bd [] Aw [] x (by rw [x6];rfl);rw [List.append_nil,List.append_nil] at this;exact this
   have gp:Gro h' G' ((h'.new (cQ Aw 36)).at h'.nx (cQ x 36)):=((Stp.refl p.st).new).at (Or.inl (Nat.le_refl _)) (by simp only [Ac];omega) (p.st.none (Nat.le_refl _));simp only [seval,go_sem,J,O,e4,e5,U,Y,aa,g1,p.st.read (le.read g2),x1,x6,ai,ov];refine Ae (ih i z gp.st (g3.mono le) am) fun v h3 ⟨G3,x3,q1,q2,q3⟩=>?_;subst q1;have q4:=gp.trans q2;have s0:=q4.gt p.st.1 t0 (fun h=>h);have s1:=q4.gt p.st.1 t1 (fun h=>h);have s2:=q4.gt p.st.1 t2 (fun h=>h);have o0:=(q4.old _ (Ah p.st.1 t0)).trans m0;have o1:=(q4.old _ (Ah p.st.1 t1)).trans m1;have o2:=(q4.old _ (Ah p.st.1 t2)).trans m2;have y6:=q3.len;have y1:=q3.one;have E:=rs.len;rw [Ee,List.length_take,Nat.min_eq_left tM] at E;have ah:rep Aw (ch.length - i)=Aw++rep Aw (ch.length - (i+1)):=by rw [show ch.length - i=ch.length - (i+1)+1 by omega,Auu]
   have pe:Dt (i * 6) x3 (I++rep Aw (ch.length - i))=some (I++(x3++rep Aw (ch.length - (i+1)))):=by
    rw [ah,← E];exact Bd I Aw _ x3 (by rw [y6];rfl)
   have ae:=q4.le p.st;simp only [seval,go_sem,J,O,e4,e5,U,Y,aa,Ed z,s2,pe,y6,y1,w];refine lp (i+1) _ _ tM ⟨⟨G3,I++x3,?_,?_,av.mono ae,o2,o0,o1,?_,?_,?_⟩,z,by simp [Tr.get_set,J,O,e4,e5,U,Y]⟩
   ·exact (p.trans q4).at (Or.inl p3.nx) (Ah q4.st.1 s2) o2
   ·rw [List.take_succ_eq_append_getElem z,Jz,List.map_append,← Jz];exact (rs.mono ae).app q3
   ·simp (disch:=first | omega | (simp only [Ac,Ag,Ai] <;> omega) | fail) only [Bh,Ca,Cd,Bb,Az];exact s0
   ·simp (disch:=first | omega | (simp only [Ac,Ag,Ai] <;> omega) | fail) only [Bh,Ca,Cd,Bb,Az];exact s1
   ·simp (disch:=first | omega | (simp only [Ac,Ag,Ai] <;> omega) | fail) only [Bh,Ca,Cd,Bb,Az];rw [List.append_assoc]
  ·have z:ch.length≤i:=by simpa using z
   have af:i=ch.length:=tM;subst af;rw [Nat.sub_self,rep,List.append_nil] at t2;have E:=rs.len;rw [List.take_length,Ee] at E;rw [List.take_length] at rs;simp only [seval,go_sem,J,O,e4,e5,t0,t1,o3];have pz:=(((p.at (b:=cQ [iQ vQ kd,sQ tg,sQ D,v2,sQ tx,.sl Z.nx 0 ch.length ch.length] 36) (Or.inl (Nat.le_refl _)) (Ah p.st.1 t0) m0).at (b:=cQ [iQ vQ kd,sQ tg,sQ D,v2,sQ tx,.sl Z.nx 0 ch.length ch.length] 36) (i:=h.nx+1) (Or.inl tM) (by simp only [Ag];exact Ah p.st.1 t1) m1).frz (i:=Z.nx) p3.nx (by simp (disch:=first | omega | (simp only [Ac,Ag,Ai] <;> omega) | fail) only [Bh,Ca,Cd,Bb,Az];exact t2));have lz:=Fz.add_le m2 (b:=cQ (I) 36);refine ⟨_,_,rfl,pz,?_⟩;rw [cpT];refine ⟨v2,_,I,by rw [ag],av.mono lz,Or.inr ⟨Z.nx,0,Or.inl ⟨ch.length,by rw [Ee];exact Nat.le_refl _,by rw [Ee]⟩,?_⟩,rs.mono lz⟩;rw [Fz.rd_b Fz.add_at,Ee,← E];exact Aj
mutual
theorem Axs (k:Bool):∀ t,Cp t k
 | .nd kd tg ky tx al ch=>cp_step fun j hj=>cp_alls k ch j hj
theorem cp_alls (k:Bool):∀ (l:List T) (j:Nat) (hj:j < l.length),Cp l[j] k
 | t::l,0,_=>Axs k t
 | t::l,j+1,hj=>cp_alls k l j (by simpa using hj)
end
theorem e114 {t:T} {k:Bool} {x:List AV} (s:St h G) (r:RT G t x) (D:okT t=true):Ans ctx 114 [gQ x,bQ k] h fun v h'=>∃ G' z,v=gQ z∧Stp (fun _=>False) h G h' G'∧RT G' (cpT k t) z:=Axs k t s r D
theorem copy {t:T} {x:List AV} (s:St h G) (r:RT G t x) (ok:A8 t):Ans ctx 84 [gQ x] h fun v h'=>∃ G' x',v=gQ x'∧Stp (fun _=>False) h G h' G'∧RT G' (cpT true t) x':=by
 refine aO Tryz.f84 ?_;simp only [Tryz.f84];have h1:=r.one;have hl:=r.len;have p:=((Stp.refl (W:=fun _=>False) s).new (b:=cQ x 36)).new (b:=cQ Aw 36);have Z:Aq 0 6 x=some x:=by rw [← hl];exact Aj
 simp only [seval,go_sem,Z];refine Ae (Hl p.st r) fun v E ⟨q,J⟩=>?_;subst q;have g0:E.m.get h.nx=some (cQ x 36):=J.gt p.st.1 gL (fun h=>h);have g1:E.m.get (h.nx+1)=some (cQ Aw 36):=J.gt p.st.1 gL (fun h=>h);have r0:E.read h.nx 0 6=some x:=(Ab g0).trans Z;have z:=p.trans J;have hc:=Gv ok;simp only [seval,go_sem,r0,hc];refine Ae (e114 z.st r ok.1) fun v h3 ⟨G3,x3,q1,D,O⟩=>?_;subst q1;have Y:=D.gt z.st.1 g1 (fun h=>h);have U:=O.len;have y1:=O.one;have ov:Cl Aw x3=some x3:=by
  have:=Bd [] Aw [] x3 (by rw [U];rfl);rw [List.append_nil,List.append_nil] at this;exact this
 have I:Aq 0 6 x3=some x3:=by rw [← U];exact Aj
 simp only [seval,go_sem,Y,U,y1,ov,I];refine ⟨G3,x3,rfl,(z.trans D).at (Or.inl tM) (Ah D.st.1 Y) ((D.old _ (Ah z.st.1 g1)).trans (s.none tM)),O⟩
theorem strip {t:T} {x:List AV} (s:St h G) (r:RT G t x) (ok:A8 t):Ans ctx 47 [gQ x] h fun v h'=>∃ G' x',v=gQ x'∧Stp (fun _=>False) h G h' G'∧RT G' (cpT false t) x':=by
 refine aO Tryz.f47 ?_;simp only [Tryz.f47];have h1:=r.one;have hl:=r.len;have p:=((Stp.refl (W:=fun _=>False) s).new (b:=cQ x 36)).new (b:=cQ Aw 36);have Z:Aq 0 6 x=some x:=by rw [← hl];exact Aj
 simp only [seval,go_sem,Z];refine Ae (Hl p.st r) fun v E ⟨q,J⟩=>?_;subst q;have g0:E.m.get h.nx=some (cQ x 36):=J.gt p.st.1 gL (fun h=>h);have g1:E.m.get (h.nx+1)=some (cQ Aw 36):=J.gt p.st.1 gL (fun h=>h);have r0:E.read h.nx 0 6=some x:=(Ab g0).trans Z;have z:=p.trans J;have hc:=Gv ok;simp only [seval,go_sem,r0,hc];refine Ae (e114 z.st r ok.1) fun v h3 ⟨G3,x3,q1,D,O⟩=>?_;subst q1;have Y:=D.gt z.st.1 g1 (fun h=>h);have U:=O.len;have y1:=O.one;have ov:Cl Aw x3=some x3:=by
  have:=Bd [] Aw [] x3 (by rw [U];rfl);rw [List.append_nil,List.append_nil] at this;exact this
 have I:Aq 0 6 x3=some x3:=by rw [← U];exact Aj
 simp only [seval,go_sem,Y,U,y1,ov,I];refine ⟨G3,x3,rfl,(z.trans D).at (Or.inl tM) (Ah D.st.1 Y) ((D.old _ (Ah z.st.1 g1)).trans (s.none tM)),O⟩
end
section
variable {h:H} {G:Fz}
theorem e94 {v w:AV} {al:List (List UInt8 × List UInt8)} (s:St h G) (a:Arr G 2 v al.length (Ax al)) (b:Arr G 2 w al.length (Ax al)) (hn:al.length≤8):Ans ctx 94 [v,w] h fun x h'=>x=bQ true∧Gro h G h':=by
 refine aO Tryz.f94 ?_;simp only [Tryz.f94];simp only [seval,go_sem,a.len,b.len];refine Ao (fun i e h'=>Gro h G h'∧i≤al.length∧e.get 0=some v∧e.get 1=some w∧e.get 12=some (iQ wQ al.length)∧e.get 13=some (iQ wQ i)) (fun i=>al.length - i) 0 ⟨Stp.refl s,Nat.zero_le _,by simp [Tr.get_set]⟩ ?_;rintro i e h' ⟨p,hi,I,J,D,E⟩ lp;simp only [seval,go_sem,I,J,D,E];refine Cr (fun z=>?_) (fun z=>?_)
 ·have z:i < al.length:=by simpa using z
  have w:=wI i;obtain ⟨Z,ao,g1,O⟩:=a.attr p.st z;obtain ⟨bb,bo,U,Y⟩:=b.attr p.st z;simp only [seval,go_sem,I,J,D,E,g1,U,p.st.read O,p.st.read Y,w];exact lp (i+1) _ _ tM ⟨p.up,z,by simp [Tr.get_set,I,J,D]⟩
 ·simp only [seval,go_sem];exact p
def Sm (t:T):Prop:=∀ {x y:List AV} {h:H} {G:Fz},St h G→RT G t x→RT G t y→okT t=true→Ans ctx 113 [gQ x,gQ y] h fun v h'=>v=bQ true∧Gro h G h'
theorem e173 {l:List T} (ih:∀ j (hj:j < l.length),Sm l[j]) {v w:AV} {vc wc:List AV} (s:St h G) (a:Arr G 6 v l.length vc) (b:Arr G 6 w l.length wc) (ra:RTs G l vc) (rb:RTs G l wc) (ok:okTs l=true) (hn:l.length≤16) :
  Ans ctx 173 [v,w,.fn (.func 113) [] []] h fun x h'=>x=bQ true∧Gro h G h':=by
 refine aO Tryz.f173 ?_;simp only [Tryz.f173];simp only [seval,go_sem,a.len,b.len];refine Ao (fun i e h'=>Gro h G h'∧i≤l.length∧e.get 1=some w∧e.get 2=some (.fn (.func 113) [] [])∧e.get 15=some v∧e.get 16=some (iQ wQ l.length)∧e.get 17=some (iQ wQ i)) (fun i=>l.length - i) 0 ⟨Stp.refl s,Nat.zero_le _,by simp [Tr.get_set]⟩ ?_;rintro i e h' ⟨p,hi,J,O,D,E,I⟩ lp;simp only [seval,go_sem,J,O,D,E,I];refine Cr (fun z=>?_) (fun z=>?_)
 ·have z:i < l.length:=by simpa using z
  have w:=wI i;obtain ⟨ab,ao,x,g1,g2,U⟩:=a.tree p.st ra z;obtain ⟨bb,bo,y,q1,q2,q3⟩:=b.tree p.st rb z;have x6:=U.len;have x1:=U.one;have y6:=q3.len;have y1:=q3.one;have aa:=Jp ok (List.getElem_mem z);have Y:Aq 0 6 x=some x:=by rw [← x6];exact Aj
  have Z:Aq 0 6 y=some y:=by rw [← y6];exact Aj
  have ac:Cl Aw x=some x:=by
   have:=Bd [] Aw [] x (by rw [x6];rfl);rw [List.append_nil,List.append_nil] at this;exact this
  have ae:Cl Aw y=some y:=by
   have:=Bd [] Aw [] y (by rw [y6];rfl);rw [List.append_nil,List.append_nil] at this;exact this
  have p1:Gro h G ((h'.new (cQ Aw 36)).at h'.nx (cQ x 36)):=(p.new).at (Or.inl p.nx) (by simp only [Ac];omega) (p.st.none (Nat.le_refl _));have rq:=p1.st.read q2;simp only [seval,go_sem,J,O,D,E,I,g1,q1,p.st.read g2,rq,x6,x1,Y,ac,y6,y1,Z,ae];refine Ae (ih i z (h:=(((h'.new (cQ Aw 36)).at h'.nx (cQ x 36)).new (cQ Aw 36)).at (h'.nx+1) (cQ y 36)) ?_ U q3 aa) fun v h3 ⟨u1,u2⟩=>?_
  ·exact (p1.new.at (Or.inl (by have:=p.nx;omega)) (by simp only [Ac,Ag];omega) (p.st.none tM)).st
  ·subst u1;simp only [seval,go_sem,J,O,D,E,I,w];exact lp (i+1) _ _ tM ⟨(p1.new.at (Or.inl (by have:=p.nx;omega)) (by simp only [Ac,Ag];omega) (p.st.none tM)).trans u2,z,by simp [Tr.get_set,J,O,D,E]⟩
 ·simp only [seval,go_sem];exact p
theorem sm_step {kd:Nat} {I ky J:List UInt8} {al:List (List UInt8 × List UInt8)} {ch:List T} (ih:∀ j (hj:j < ch.length),Sm ch[j]):Sm (.nd kd I ky J al ch):=by
 intro x y h G s rx ry ok;obtain ⟨a,c,cc,rfl,U,Z,hr⟩:=rx;obtain ⟨b,d,dd,rfl,Y,hd,D⟩:=ry;have z:=On ok;refine aO Tryz.f113 ?_;simp only [Tryz.f113];have o1:=U.one;have o2:=Z.one;have o3:=Y.one;have o4:=hd.one;have p:∀ {b1 b2},Gro h G ((h.new b1).new b2):=(Stp.refl s).new.new;simp only [seval,go_sem,o1,o2,o3,o4];refine Ae (e94 p.st U Y (Y4 z.1)) fun v O ⟨q1,E⟩=>?_;subst q1;have p1:=p.trans E;have g0:=E.gt p.st.1 (i:=h.nx) (b:=cQ [iQ vQ kd,sQ I,sQ ky,a,sQ J,c] 36) gL (fun h=>h);have g1:=E.gt p.st.1 (i:=h.nx+1) (b:=cQ [iQ vQ kd,sQ I,sQ ky,b,sQ J,d] 36) gL (fun h=>h);have r0:O.read h.nx 5 1=some [c]:=(Ab g0).trans rfl;have r1:O.read (h.nx+1) 5 1=some [d]:=(Ab g1).trans rfl;simp only [seval,go_sem,r0,r1];refine Ae (e173 ih p1.st Z hd hr D z.2 (Mx z.1)) fun v h2 ⟨u1,u2⟩=>?_;subst u1;simp only [seval,go_sem];exact p1.trans u2
mutual
theorem Arp:∀ t,Sm t
 | .nd kd tg ky tx al ch=>sm_step fun j hj=>sm_alls ch j hj
theorem sm_alls:∀ (l:List T) (j:Nat) (hj:j < l.length),Sm l[j]
 | t::l,0,_=>Arp t
 | t::l,j+1,hj=>sm_alls l j (by simpa using hj)
end
theorem same {t:T} {x y:List AV} (s:St h G) (I:RT G t x) (J:RT G t y) (ok:A8 t):Ans ctx 46 [gQ x,gQ y] h fun v h'=>v=bQ true∧Gro h G h':=by
 refine aO Tryz.f46 ?_;simp only [Tryz.f46];have x6:=I.len;have x1:=I.one;have y6:=J.len;have y1:=J.one;have z:Aq 0 6 x=some x:=by rw [← x6];exact Aj
 have D:Aq 0 6 y=some y:=by rw [← y6];exact Aj
 have p:Gro h G ((h.new (cQ x 36)).new (cQ y 36)):=(Stp.refl s).new.new;have hc:=Gv ok;simp only [seval,go_sem,z,D];refine Ae (Hl p.st I) fun v h1 ⟨q1,E⟩=>?_;subst q1;have Z:=E.gt p.st.1 (i:=h.nx) (b:=cQ x 36) gL (fun h=>h);have g1:=E.gt p.st.1 (i:=h.nx+1) (b:=cQ y 36) gL (fun h=>h);have U:h1.read h.nx 0 6=some x:=(Ab Z).trans z;have Y:h1.read (h.nx+1) 0 6=some y:=(Ab g1).trans D;simp only [seval,go_sem,U,Y,hc];refine Ae (Hl E.st J) fun v h2 ⟨u1,O⟩=>?_;subst u1;have U:h2.read h.nx 0 6=some x:=(Ab (O.gt E.st.1 Z (fun h=>h))).trans z;have Y:h2.read (h.nx+1) 0 6=some y:=(Ab (O.gt E.st.1 g1 (fun h=>h))).trans D;simp only [seval,go_sem,U,Y,hc];refine Ae (Arp t O.st I J ok.1) fun v h3 ⟨v1,v2⟩=>?_;subst v1;simp only [seval,go_sem];exact ((p.trans E).trans O).trans v2
end
open D (Hd Nd)
theorem Qj {A C:List AV} {k f n:Nat} (z:A.length=k):Aq (k+f) n (A++C)=Aq f n C:=by
 subst z
 induction A with
 | nil=>rw [List.length_nil,Nat.zero_add];rfl
 | cons a A ih =>
  rw [List.length_cons,show A.length+1+f=(A.length+f)+1 by omega,List.cons_append,Zt];exact ih
theorem U3 {A C:List AV} {k n:Nat} (z:A.length=k):Aq k n (A++C)=Aq 0 n C:=Qj (f:=0) z
theorem Vi {A C us:List AV} {k f:Nat} (z:A.length=k):Dt (k+f) us (A++C)=onL A (Dt f us C):=by
 subst z
 induction A with
 | nil=>rw [List.length_nil,Nat.zero_add];show Dt f us C=_;cases Dt f us C <;> rfl
 | cons a A ih =>
  rw [List.length_cons,show A.length+1+f=(A.length+f)+1 by omega,List.cons_append,Z0,ih];cases Dt f us C <;> rfl
theorem Afu {A C us:List AV} {k:Nat} (z:A.length=k):Dt k us (A++C)=onL A (Dt 0 us C):=Vi (f:=0) z
def hdC:List Hd→List AV
 | []=>[]
 | k::l=>.int .u32 k.ix::.int .u32 k.gen::hdC l
abbrev hdA (k:Hd):AV:=.agg [.int .u32 k.ix,.int .u32 k.gen]
theorem Ez:∀ l:List Hd,(hdC l).length=l.length * 2
 | []=>rfl
 | k::l=>by rw [hdC,List.length_cons,List.length_cons,Ez l,List.length_cons];omega
theorem Ks:∀ l:List Hd,Af (hdC l)=true
 | []=>rfl
 | k::l=>by rw [hdC];exact Ks l
theorem Mq:∀ a b:List Hd,hdC (a++b)=hdC a++hdC b
 | [],b=>rfl
 | k::a,b=>by rw [List.cons_append,hdC,hdC,Mq a b];rfl
theorem Mp:∀ (l:List Hd) (i:Nat),(hdC l).take (i * 2)=hdC (l.take i)
 | l,0=>by rw [Nat.zero_mul,List.take_zero,List.take_zero];rfl
 | [],i+1=>by simp [hdC]
 | k::l,i+1=>by rw [hdC,show (i+1) * 2=i * 2+1+1 by omega,List.take_succ_cons,List.take_succ_cons,Mp l i,List.take_succ_cons];rfl
theorem Gq:∀ (l:List Hd) (i:Nat),(hdC l).drop (i * 2)=hdC (l.drop i)
 | l,0=>by rw [Nat.zero_mul,List.drop_zero,List.drop_zero]
 | [],i+1=>by simp [hdC]
 | k::l,i+1=>by rw [hdC,show (i+1) * 2=i * 2+1+1 by omega,List.drop_succ_cons,List.drop_succ_cons,Gq l i,List.drop_succ_cons]
theorem Fz.cut {G:Fz} {b o n a m:Nat} {cs:List AV} (e:G.read b o n=some cs) (D:a+m≤n):G.read b (o+a) m=some ((cs.drop a).take m):=by
 unfold Fz.read at e ⊢;split at e
 ·obtain ⟨z,rfl⟩:=Cv e;rw [Bw,if_pos tM,List.drop_take,List.take_take,List.drop_drop,Nat.min_eq_left tM]
 ·cases e
theorem Arr.hd {h:H} {G:Fz} (s:St h G) {l:List Hd} {v:AV} {j:Nat} (a:Arr G 2 v l.length (hdC l)) (z:j < l.length):∃ b o,ixA 2 j v=some (.ptr b (o+j * 2))∧G.read b (o+j * 2) 2=some [.int .u32 l[j].ix,.int .u32 l[j].gen]:=by
 obtain ⟨b,o,D,E⟩:=a.el s z;refine ⟨b,o,D,?_⟩;rw [Fz.cut E tM,Gq,List.drop_eq_getElem_cons z];rfl
structure Sl where
 gen:Nat
 nxt:Nat
 p:Option Nat
def ptrO:Option Nat→AV
 | some p=>.ptr p 0
 | none=>.raw (.pointer none)
def slC:List Sl→List AV
 | []=>[]
 | s::l=>.int .u32 s.gen::.bool s.p.isSome::.int .i64 s.nxt::ptrO s.p::slC l
theorem Pg:∀ a b:List Sl,slC (a++b)=slC a++slC b
 | [],b=>rfl
 | k::a,b=>by rw [List.cons_append,slC,slC,Pg a b];rfl
theorem Afo:∀ l:List Sl,(slC l).length=l.length * 4
 | []=>rfl
 | k::l=>by rw [slC,List.length_cons,List.length_cons,List.length_cons,List.length_cons,Afo l,List.length_cons];omega
theorem Avc (p:Option Nat):C9 (ptrO p)=true:=by cases p <;> rfl
theorem Kb:∀ l:List Sl,Af (slC l)=true
 | []=>rfl
 | k::l=>by rw [slC];simp only [Af,Avc,Kb l];rfl
theorem Ace {l:List Sl} {i:Nat} {s:Sl} (h:l[i]?=some s):slC l=slC (l.take i)++(.int .u32 s.gen::.bool s.p.isSome::.int .i64 s.nxt::ptrO s.p::slC (l.drop (i+1)))∧(slC (l.take i)).length=i * 4:=by
 obtain ⟨z,rfl⟩:=List.getElem?_eq_some_iff.1 h;constructor
 ·have:l=l.take i++l[i]::l.drop (i+1):=by rw [← List.drop_eq_getElem_cons z,List.take_append_drop]
  conv=>lhs;rw [this]
  rw [Pg];rfl
 ·rw [Afo,List.length_take,Nat.min_eq_left tM]
theorem Afn {l:List Sl} {i:Nat} {s:Sl} (z:i < l.length):slC (l.set i s)=slC (l.take i)++(.int .u32 s.gen::.bool s.p.isSome::.int .i64 s.nxt::ptrO s.p::slC (l.drop (i+1))):=by
 rw [List.set_eq_take_append_cons_drop,if_pos z,Pg];rfl
inductive FrL (sl:List Sl):Nat→List Nat→Prop
 | nil:FrL sl 0 []
 | cons {i g n l}:sl[i]?=some ⟨g,n,none⟩→FrL sl n l→FrL sl (i+1) (i::l)
def Ba:Option Hd→Hd
 | some k=>k
 | none=>⟨0,0⟩
def NdR (G:Fz) (nd:Nd) (cs:List AV):Prop:=∃ a c,cs=[.int .u8 nd.kind,.str nd.tag,a,.str nd.text,.int .i64 0,.int .i64 0,.bool false,.int .u32 (Ba nd.par).ix,.int .u32 (Ba nd.par).gen,c] ∧
 Arr G 2 a nd.attrs.length (Ax nd.attrs)∧Arr G 2 c nd.ch.length (hdC nd.ch)
theorem NdR.mono {G G':Fz} (g:Fz.Le G G') {nd:Nd} {cs:List AV}:NdR G nd cs→NdR G' nd cs:=fun ⟨a,c,z,D,E⟩=>⟨a,c,z,D.mono g,E.mono g⟩
def Ad (sl:List Sl) (k:Hd) (p:Nat):Prop:=∃ n,sl[k.ix]?=some ⟨k.gen,n,some p⟩
def slV (sl:List Sl) (b:Nat):AV:=if sl=[] then .raw (.slice none 0 0) else .sr b 0 0 sl.length
theorem U1 {sl:List Sl} {b:Nat}:Db (slV sl b)=some sl.length:=by
 unfold slV;split
 ·rename_i h;rw [h];rfl
 ·rfl
def Ia (sv:AV) (fr:Nat) (lv:Int) (c:List Int):List AV:=sv::.int .i64 fr::.int .i64 lv::(c.map (AV.int .i64)++[.bool false,.raw (.slice none 0 0)])
structure Dm (h:H) (G:Fz) (d:Nat) (m:D.M) (sl:List Sl) (b L:Nat):Prop where
 s:St h G
 dg:∃ (fr:Nat) (lv:Int) (c:List Int) (fl:List Nat),h.m.get d=some (.cells (Ia (slV sl b) fr lv c) 108)∧c.length=8∧FrL sl fr fl∧fl.Nodup
 row:sl≠[]→h.m.get b=some (.row (slC sl) sl.length 212 4)∧b≠d
 gd:G d=none
 gb:G b=none
 be:sl=[]→b=d
 nodes:∀ k p,Ad sl k p→∃ nd cs,m k=some nd∧h.m.get p=some (.cells cs 118)∧NdR G nd cs∧G p=none∧p≠d∧p≠b
 inj:∀ k k' p,Ad sl k p→Ad sl k' p→k=k'
 all:∀ k,m k≠none→∃ p,Ad sl k p
 gen:∀ (i:Nat) (s:Sl),sl[i]?=some s→1≤s.gen∧s.gen < 4294967296
 le:sl.length≤L∧L≤1000000
 nd:∀ k nd,m k=some nd→nd.attrs.length≤8∧nd.ch.length≤L
def FP (d b:Nat) (sl:List Sl):Nat→Prop:=fun i=>i=d∨(i=b∧sl≠[])∨∃ k,Ad sl k i
section
variable {h h':H} {G G':Fz} {d b L:Nat} {m:D.M} {sl:List Sl}
theorem Dm.up (D:Dm h G d m sl b L) {z:Nat} (E:L≤z) (I:z≤1000000):Dm h G d m sl b z :=
 ⟨D.s,D.dg,D.row,D.gd,D.gb,D.be,D.nodes,D.inj,D.all,D.gen,⟨Nat.le_trans D.le.1 E,I⟩,fun k nd e=>⟨(D.nd k nd e).1,Nat.le_trans (D.nd k nd e).2 E⟩⟩
theorem Dm.d_lt (D:Dm h G d m sl b L):d < h.nx:=by obtain ⟨_,_,_,_,e,_⟩:=D.dg;exact Ah D.s.1 e
theorem Dm.fp_lt (D:Dm h G d m sl b L):∀ i,FP d b sl i→i < h.nx:=fun i z=>by
 rcases z with rfl | ⟨rfl,z⟩ | ⟨k,z⟩
 ·exact D.d_lt
 ·exact Ah D.s.1 (D.row z).1
 ·obtain ⟨_,_,_,e,_⟩:=D.nodes k i z;exact Ah D.s.1 e
theorem Dm.gro (D:Dm h G d m sl b L) (p:Stp (fun _=>False) h G h' G'):Dm h' G' d m sl b L:=by
 have le:=p.le D.s;refine ⟨p.st,?_,fun z=>⟨p.gt D.s.1 (D.row z).1 (fun h=>h),(D.row z).2⟩,(p.old d D.d_lt).trans D.gd,?_,D.be,fun k q Z=>?_,D.inj,D.all,D.gen,D.le,D.nd⟩
 ·obtain ⟨I,lv,c,fl,e,r⟩:=D.dg;exact ⟨I,lv,c,fl,p.gt D.s.1 e (fun h=>h),r⟩
 ·by_cases z:sl=[]
  ·rw [D.be z];exact (p.old d D.d_lt).trans D.gd
  ·exact (p.old b (Ah D.s.1 (D.row z).1)).trans D.gb
 ·obtain ⟨nd,cs,J,E,O,U,Y⟩:=D.nodes k q Z;exact ⟨nd,cs,J,p.gt D.s.1 E (fun h=>h),O.mono le,(p.old q (Ah D.s.1 E)).trans U,Y⟩
theorem Ad.ne {k:Hd} {p:Nat} (a:Ad sl k p):sl≠[]:=fun e=>by obtain ⟨n,h⟩:=a;rw [e] at h;cases h
theorem Ad.lt {k:Hd} {p:Nat} (a:Ad sl k p):k.ix < sl.length:=by obtain ⟨n,h⟩:=a;exact (List.getElem?_eq_some_iff.1 h).1
structure Rd (h:H) (d b p:Nat) (sl:List Sl) (k:Hd):Prop where
 r0:h.read d 0 1=some [.sr b 0 0 sl.length]
 ra:h.read b (k.ix * 4) 1=some [.int .u32 k.gen]
 rb:h.read b (k.ix * 4+1) 1=some [.bool true]
 rc:h.read b (k.ix * 4+3) 1=some [.ptr p 0]
theorem Dm.rds (D:Dm h G d m sl b L) {k:Hd} {p:Nat} (a:Ad sl k p):Rd h d b p sl k:=by
 have z:=a.ne;obtain ⟨n,e⟩:=a;obtain ⟨U,lv,c,fl,J,_⟩:=D.dg;obtain ⟨O,I⟩:=Ace e;have E:=(D.row z).1;rw [O] at E;refine ⟨(Ab J).trans ?_,(Ab E).trans ?_,(Ab E).trans ?_,(Ab E).trans ?_⟩
 ·unfold slV;rw [if_neg z];rfl
 ·rw [Ha,U3 I];rfl
 ·rw [Ha,Qj I];rfl
 ·rw [Ha,Qj I];rfl
theorem Rd.mv {k:Hd} {p:Nat} (r:Rd h d b p sl k) (z:h.Ok) {W:Nat→Prop} (q:Stp W h G h' G') (hd:¬ W d) (D:¬ W b):Rd h' d b p sl k :=
 ⟨q.rs z r.r0 hd,q.rs z r.ra D,q.rs z r.rb D,q.rs z r.rc D⟩
end
section
variable {h h':H} {G G':Fz} {d b L i j:Nat} {m:D.M} {sl:List Sl}
theorem Stp.dl {W:Nat→Prop} (p:Stp W h G h' G') (D:h.nx≤i∨W i) (I:G' i=none):Stp W h G (h'.dl i) G':=⟨p.nx,fun j z hw=>by
 rw [Lh (fun e=>by rw [e] at z hw;rcases D with D | D;(· omega);(· exact hw D))];exact p.same j z hw,p.old,fun j z=>by
 show (h'.m.del i).get j=none;have z:h'.nx≤j:=z;rw [Tr.get_del];split
 ·rfl
 ·exact p.st.1 j z,fun j x e=>by
 rw [Lh (fun E=>by rw [E,I] at e;cases e)];exact p.st.2 j x e⟩
theorem FrL.set {s:Sl}:∀ {n:Nat} {fl:List Nat},FrL sl n fl→i ∉ fl→FrL (sl.set i s) n fl:=by
 intro n fl f
 induction f with
 | nil=>intro _;exact .nil
 | @cons k g n l h1 h2 ih =>
  intro z;exact .cons ((List.getElem?_set_ne fun e:i=k=>z (e ▸ List.mem_cons_self ..)).trans h1) (ih fun h=>z (List.mem_cons_of_mem _ h))
theorem Ad.uniq {k:Hd} {p D:Nat} (a:Ad sl k p) (E:Ad sl k D):p=D:=by
 obtain ⟨n,I⟩:=a;obtain ⟨n',z⟩:=E;rw [I] at z;cases z;rfl
theorem Ad.app {k:Hd} {p g n:Nat}:Ad (sl++[⟨g,n,none⟩]) k p↔Ad sl k p:=by
 unfold Ad;constructor
 ·rintro ⟨n',h⟩;rcases Nat.lt_or_ge k.ix sl.length with z | z
  ·rw [List.getElem?_append_left z] at h;exact ⟨n',h⟩
  ·rw [List.getElem?_append_right z] at h;cases hh:k.ix - sl.length with
   | zero=>rw [hh] at h;cases h
   | succ q=>rw [hh] at h;cases h
 ·rintro ⟨n',h⟩;exact ⟨n',by rw [List.getElem?_append_left (List.getElem?_eq_some_iff.1 h).1];exact h⟩
theorem Ad.set {s:Sl} {k:Hd} {p:Nat} (E:i < sl.length):Ad (sl.set i s) k p↔(k.ix=i∧k.gen=s.gen∧s.p=some p)∨(k.ix≠i∧Ad sl k p):=by
 unfold Ad
 by_cases e:k.ix=i
 ·subst e;rw [List.getElem?_set_self E];constructor
  ·rintro ⟨n,h⟩;cases h;exact Or.inl ⟨rfl,rfl,rfl⟩
  ·rintro (⟨_,z,D⟩ | ⟨h,_⟩)
   ·exact ⟨s.nxt,by rw [z,← D]⟩
   ·exact absurd rfl h
 ·rw [List.getElem?_set_ne (Ne.symm e)];constructor
  ·rintro ⟨n,h⟩;exact Or.inr ⟨e,n,h⟩
  ·rintro (⟨h,_⟩ | ⟨_,h⟩)
   ·exact absurd h e
   ·exact h
theorem Dm.grow (D:Dm h G d m sl b L) {b':Nat} {lv:Int} {c:List Int} (hL:L+1≤1000000) (s':St h' G) (hc:c.length=8)
  (hd:h'.m.get d=some (.cells (Ia (.sr b' 0 0 (sl.length+1)) (sl.length+1) lv c) 108)) (hb:h'.m.get b' = some (.row (slC (sl++[⟨1,0,none⟩])) (sl.length+1) 212 4)) (O:b'≠d) (U:G b' = none)
  (hp:∀ k p,Ad sl k p→h'.m.get p=h.m.get p∧p≠b') :
  Dm h' G d m (sl++[⟨1,0,none⟩]) b' (L+1)∧(sl++[⟨1,0,none⟩])[sl.length]?=some ⟨1,0,none⟩∧h'.m.get d=some (.cells (Ia (slV (sl++[⟨1,0,none⟩]) b') (sl.length+1) lv c) 108):=by
 have J:sl++[⟨1,0,none⟩]≠[]:=by simp
 have E:(sl++[(⟨1,0,none⟩:Sl)]).length=sl.length+1:=by simp
 have z:(sl++[(⟨1,0,none⟩:Sl)])[sl.length]?=some ⟨1,0,none⟩:=by simp
 have hv:slV (sl++[⟨1,0,none⟩]) b' = .sr b' 0 0 (sl.length+1):=by unfold slV;rw [if_neg J,E]
 have I:h'.m.get d=some (.cells (Ia (slV (sl++[⟨1,0,none⟩]) b') (sl.length+1) lv c) 108):=by rw [hv];exact hd
 refine ⟨⟨s',⟨_,lv,c,[sl.length],I,hc,.cons z .nil,by simp⟩,fun _=>⟨by rw [E];exact hb,O⟩,D.gd,U,fun h=>absurd h J,fun k p a=>?_,fun k k' p a Z=>D.inj k k' p (Ad.app.1 a) (Ad.app.1 Z),fun k hk=>?_,fun i s hs=>?_,⟨by rw [E];have:=D.le.1;omega,hL⟩,fun k nd e=>⟨(D.nd k nd e).1,Nat.le_succ_of_le (D.nd k nd e).2⟩⟩,z,I⟩
 ·obtain ⟨nd,cs,h1,h2,h3,h4,h5,_⟩:=D.nodes k p (Ad.app.1 a);obtain ⟨e1,e2⟩:=hp k p (Ad.app.1 a);exact ⟨nd,cs,h1,e1.trans h2,h3,h4,h5,e2⟩
 ·obtain ⟨p,a⟩:=D.all k hk;exact ⟨p,Ad.app.2 a⟩
 ·rcases Nat.lt_or_ge i sl.length with Y | Y
  ·rw [List.getElem?_append_left Y] at hs;exact D.gen i s hs
  ·rw [List.getElem?_append_right Y] at hs;cases hh:i - sl.length with
   | zero =>
    rw [hh] at hs;have e:s=(⟨1,0,none⟩:Sl):=by simpa using hs.symm
    subst e;exact ⟨Nat.le_refl 1,(by omega:1 < 4294967296)⟩
   | succ q=>rw [hh] at hs;cases hs
theorem Dm.take (D:Dm h G d m sl b L) {g nx q:Nat} {fl:List Nat} {lv:Int} {c:List Int} {nd:Nd} {cs:List AV} (hs:sl[i]?=some ⟨g,nx,none⟩) (hf:FrL sl nx fl) (hn:(i::fl).Nodup) (s':St h' G) (hc:c.length=8)
  (hd:h'.m.get d=some (.cells (Ia (slV sl b) nx lv c) 108)) (hb:h'.m.get b=some (.row (slC (sl.set i ⟨g,0,some q⟩)) sl.length 212 4))
  (hp:∀ k p,Ad sl k p→h'.m.get p=h.m.get p∧p≠q) (hq:h'.m.get q=some (.cells cs 118)) (ac:NdR G nd cs) (gq:G q=none) (qd:q≠d) (qb:q≠b) (h8:nd.attrs.length≤8∧nd.ch.length≤L) :
  m ⟨i,g⟩=none∧Dm h' G d (m.up ⟨i,g⟩ nd) (sl.set i ⟨g,0,some q⟩) b L∧Ad (sl.set i ⟨g,0,some q⟩) ⟨i,g⟩ q:=by
 obtain ⟨O,ae⟩:=List.getElem?_eq_some_iff.1 hs;have U:sl≠[]:=fun e=>by rw [e] at hs;cases hs
 have E:sl.set i ⟨g,0,some q⟩≠[]:=fun e=>by have:=congrArg List.length e;simp at this;exact U this
 have hv:slV (sl.set i ⟨g,0,some q⟩) b=slV sl b:=by unfold slV;rw [if_neg U,if_neg E,List.length_set]
 have Y:m ⟨i,g⟩=none:=by
  cases e:m ⟨i,g⟩ with
  | none=>rfl
  | some x =>
   obtain ⟨p,n,a⟩:=D.all ⟨i,g⟩ (by rw [e];exact Option.some_ne_none _);rw [hs] at a;cases a
 refine ⟨Y,⟨s',⟨nx,lv,c,fl,by rw [hv];exact hd,hc,hf.set (List.nodup_cons.1 hn).1,(List.nodup_cons.1 hn).2⟩,fun _=>⟨by rw [List.length_set];exact hb,(D.row U).2⟩,D.gd,D.gb,fun h=>absurd h E,fun k p a=>?_,fun k k' p a a'=>?_,fun k hk=>?_,fun j s hs=>?_,⟨by rw [List.length_set];exact D.le.1,D.le.2⟩,fun k nd' e=>?_⟩,(Ad.set O).2 (Or.inl ⟨rfl,rfl,rfl⟩)⟩
 ·rcases (Ad.set O).1 a with ⟨z,J,h3⟩ | ⟨z,a⟩
  ·cases h3;have:k=⟨i,g⟩:=by obtain ⟨x,y⟩:=k;simp only at z J;rw [z,J]
   subst this;exact ⟨nd,cs,_root_.Go.V.D.up_eq,hq,ac,gq,qd,qb⟩
  ·obtain ⟨nd',cs',J,h3,h4⟩:=D.nodes k p a;obtain ⟨e1,Z⟩:=hp k p a;exact ⟨nd',cs',(_root_.Go.V.D.up_ne fun e=>z (by rw [e])).trans J,e1.trans h3,h4⟩
 ·rcases (Ad.set O).1 a with ⟨z,J,h3⟩ | ⟨z,a⟩ <;> rcases (Ad.set O).1 a' with ⟨I,aa,ab⟩ | ⟨I,a'⟩
  ·obtain ⟨x,y⟩:=k;obtain ⟨x',y'⟩:=k';simp only at z J I aa;rw [z,J,I,aa]
  ·cases h3;exact absurd rfl (hp k' q a').2
  ·cases ab;exact absurd rfl (hp k q a).2
  ·exact D.inj k k' p a a'
 ·by_cases e:k=⟨i,g⟩
  ·subst e;exact ⟨q,(Ad.set O).2 (Or.inl ⟨rfl,rfl,rfl⟩)⟩
  ·rw [_root_.Go.V.D.up_ne e] at hk;obtain ⟨p,a⟩:=D.all k hk;refine ⟨p,(Ad.set O).2 (Or.inr ⟨fun Z=>?_,a⟩)⟩;obtain ⟨n,a⟩:=a;rw [Z,hs] at a;cases a
 ·by_cases e:j=i
  ·subst e;rw [List.getElem?_set_self O] at hs;cases hs;exact D.gen j ⟨g,nx,none⟩ tA
  ·rw [List.getElem?_set_ne (Ne.symm e)] at hs;exact D.gen j s hs
 ·by_cases Z:k=⟨i,g⟩
  ·subst Z;rw [_root_.Go.V.D.up_eq] at e;cases e;exact h8
  ·rw [_root_.Go.V.D.up_ne Z] at e;exact D.nd k nd' e
theorem Dm.mv (D:Dm h G d m sl b L) (s':St h' G) {E:Nat} {lv':Int} {c':List Int} {fl:List Nat} (hc:c'.length=8) (O:FrL sl E fl) (U:fl.Nodup) (hd:h'.m.get d=some (.cells (Ia (slV sl b) E lv' c') 108))
  (J:∀ i,FP d b sl i→i≠d→h'.m.get i=h.m.get i):Dm h' G d m sl b L :=
 ⟨s',⟨E,lv',c',fl,hd,hc,O,U⟩,fun z=>⟨(J b (Or.inr (Or.inl ⟨rfl,z⟩)) (D.row z).2).trans (D.row z).1,(D.row z).2⟩,D.gd,D.gb,D.be,fun k p a=>by
  obtain ⟨nd,cs,Y,Z,h3,h4,I,h6⟩:=D.nodes k p a;exact ⟨nd,cs,Y,(J p (Or.inr (Or.inr ⟨k,a⟩)) I).trans Z,h3,h4,I,h6⟩,D.inj,D.all,D.gen,D.le,D.nd⟩
theorem Dm.dc (D:Dm h G d m sl b L):∃ (z:Nat) (lv E c1 c2 I J O U Y:Int) (fl:List Nat),h.m.get d=some (.cells [slV sl b,.int .i64 z,.int .i64 lv,.int .i64 E,.int .i64 c1,.int .i64 c2,.int .i64 I,.int .i64 J,.int .i64 O,.int .i64 U,.int .i64 Y,.bool false,.raw (.slice none 0 0)] 108)∧FrL sl z fl∧fl.Nodup:=by
 obtain ⟨z,lv,c,fl,Z,e2,e3,e4⟩:=D.dg
 match c,e2 with
 | [E,c1,c2,I,J,O,U,Y],_=>exact ⟨z,lv,E,c1,c2,I,J,O,U,Y,fl,Z,e3,e4⟩
theorem Ka {sl:List Sl} {b:Nat}:C9 (slV sl b)=true:=by unfold slV;split <;> rfl
def VB (v:AV):Nat→Prop:=fun i=>∃ n,v=.sr i 0 0 n
theorem Di {C:Ctx} {lo e sz n k:Nat} {v:AV} {cs new:List AV} (o:Own h lo e sz v n cs) (hz:0 < sz) (z:F7 C e (n+(k+1))=true) (I:Af (cs++new)=true) (O:new.length=(k+1) * sz) (D:lo≤h.nx) (s:St h G) (Z:∀ q,VB v q→G q=none) :
  ∃ U h',Ig C e sz n (k+1) v h new=some (U,h')∧Own h' lo e sz U (n+(k+1)) (cs++new)∧h'.nx=h.nx+1∧Stp (VB v) h G h' G∧U = .sr h.nx 0 0 (n+(k+1)):=by
 have E:nz sz=true:=by rw [Lt,decide_eq_true hz]
 rcases o with ⟨rfl,rfl,rfl⟩ | ⟨q,hq,rfl,rfl,rfl,J⟩ | ⟨q,hq,rfl,J,Y⟩
 ·rw [Nat.zero_add] at z ⊢;rw [List.nil_append] at I ⊢;refine ⟨.sr h.nx 0 0 (k+1),h.new (.row new (k+1) e sz),?_,Or.inr (Or.inr ⟨h.nx,D,rfl,Au,O⟩),rfl,(Stp.refl s).new,rfl⟩;rw [Abn,Q2,z,E,I];rfl
 ·rw [Nat.zero_add] at z ⊢;rw [List.nil_append] at I ⊢;refine ⟨.sr h.nx 0 0 (k+1),h.new (.row new (k+1) e sz),?_,Or.inr (Or.inr ⟨h.nx,D,rfl,Au,O⟩),rfl,(Stp.refl s).new,rfl⟩;rw [Aeu,Nat.zero_add];have:Nat.ble (k+1) 0=false:=rfl;rw [this];simp only [];rw [Nat.zero_mul,Ab J];show De C h ([]++new) (k+1) e sz=_;rw [Q2,z,E,List.nil_append,I];rfl
 ·refine ⟨.sr h.nx 0 0 (n+(k+1)),(h.dl q).new (.row (cs++new) (n+(k+1)) e sz),?_,Or.inr (Or.inr ⟨h.nx,D,rfl,Au,by rw [List.length_append,Y,O];exact (Nat.add_mul _ _ _).symm⟩),rfl,((Stp.refl s).dl (Or.inr ⟨n,rfl⟩) (Z q ⟨n,rfl⟩)).new,rfl⟩;rw [Abi,J];simp only [Nat.beq_refl,Bool.and_self];rw [Q2,z,E,I];rfl
theorem Own.frz2 {W:Nat→Prop} {lo e sz n:Nat} {v:AV} {cs:List AV} (p:Stp W h G h' G') (o:Own h' lo e sz v n cs) (O:h.nx≤lo) (E:∀ q,VB v q∨v=.sl q 0 0 0→G' q=none):∃ z,Stp W h G h' z∧Fz.Le G' z∧Arr z sz v n cs:=by
 rcases o with ⟨rfl,rfl,rfl⟩ | ⟨q,J,rfl,rfl,rfl,D⟩ | ⟨q,J,rfl,D,I⟩
 ·exact ⟨G',p,Fz.Le.refl,Or.inl ⟨rfl,rfl,rfl⟩⟩
 ·refine ⟨G'.add q (.cells [] e),p.frz tM D,Fz.add_le (E q (Or.inr rfl)),Or.inr ⟨q,0,Or.inl ⟨0,Nat.le_refl _,rfl⟩,?_⟩⟩;rw [Fz.rd_b Fz.add_at,Nat.zero_mul];rfl
 ·refine ⟨G'.add q (.row cs n e sz),p.frz tM D,Fz.add_le (E q (Or.inl ⟨n,rfl⟩)),Or.inr ⟨q,0,Or.inr ⟨0,rfl⟩,?_⟩⟩;rw [Fz.rd_b Fz.add_at,← I];exact Aj
theorem Own.mv {lo e sz n:Nat} {v:AV} {cs:List AV} {W:Nat→Prop} (o:Own h lo e sz v n cs) (p:Stp W h G h' G') (J:h.Ok) (hw:∀ q,lo≤q→¬ W q):Own h' lo e sz v n cs:=by
 rcases o with o | ⟨q,z,D,E,I,O⟩ | ⟨q,z,D,E,I⟩
 ·exact Or.inl o
 ·exact Or.inr (Or.inl ⟨q,z,D,E,I,p.gt J O (hw q z)⟩)
 ·exact Or.inr (Or.inr ⟨q,z,D,p.gt J E (hw q z),I⟩)
theorem Own.one {lo e sz n:Nat} {v:AV} {cs:List AV} (o:Own h lo e sz v n cs):C9 v=true:=by
 rcases o with ⟨rfl,_⟩ | ⟨q,_,rfl,_⟩ | ⟨q,_,rfl,_⟩ <;> rfl
theorem Own.len {lo e sz n:Nat} {v:AV} {cs:List AV} (o:Own h lo e sz v n cs):Db v=some n:=by
 rcases o with ⟨rfl,rfl,_⟩ | ⟨q,_,rfl,rfl,_⟩ | ⟨q,_,rfl,_⟩ <;> rfl
theorem Own.vb {lo e sz n:Nat} {v:AV} {cs:List AV} (o:Own h lo e sz v n cs) {i:Nat} (D:VB v i):lo≤i:=by
 obtain ⟨k,e⟩:=D;rcases o with ⟨rfl,_⟩ | ⟨q,z,rfl,_⟩ | ⟨q,z,rfl,_⟩ <;> cases e
 exact z
structure OB (h:H) (G:Fz) (q lo t e sz n:Nat) (cs:List AV) (v:AV):Prop where
 g:h.m.get q=some (.cells [v] t)
 o:Own h lo e sz v n cs
 f:∀ j,VB v j∨v=.sl j 0 0 0→G j=none
 gq:G q=none
 lt:q < lo
 le:lo≤h.nx
abbrev OW (q lo:Nat):Nat→Prop:=fun i=>i=q∨lo≤i
theorem VB.lt {lo e sz n:Nat} {v:AV} {cs:List AV} (o:Own h lo e sz v n cs) (E:h.Ok) {j:Nat} (D:VB v j∨v=.sl j 0 0 0):j < h.nx:=by
 rcases o with ⟨rfl,_⟩ | ⟨I,_,rfl,_,_,z⟩ | ⟨I,_,rfl,z,_⟩
 ·rcases D with ⟨_,e⟩ | e <;> cases e
 ·rcases D with ⟨_,e⟩ | e <;> cases e
  exact Ah E z
 ·rcases D with ⟨_,e⟩ | e <;> cases e
  exact Ah E z
theorem OB.mv {q lo t e sz n:Nat} {cs:List AV} {v:AV} {W:Nat→Prop} (o:OB h G q lo t e sz n cs v) (p:Stp W h G h' G') (z:h.Ok) (hw:∀ i,W i→i≠q∧i < lo):OB h' G' q lo t e sz n cs v :=
 ⟨p.gt z o.g (fun h=>(hw q h).1 rfl),o.o.mv p z (fun j D E=>by have:=(hw j E).2;omega),fun j D=>(p.old j (VB.lt o.o z D)).trans (o.f j D),(p.old q (Ah z o.g)).trans o.gq,o.lt,Nat.le_trans o.le p.nx⟩
theorem OB.rd {q lo t e sz n:Nat} {cs:List AV} {v:AV} (o:OB h G q lo t e sz n cs v):h.read q 0 1=some [v]:=(Ab o.g).trans rfl
theorem OB.app {C:Ctx} {q lo t e sz n k:Nat} {cs new:List AV} {v:AV} (o:OB h G q lo t e sz n cs v) (s:St h G) (hz:0 < sz) (I:F7 C e (n+(k+1))=true) (h1:Af (cs++new)=true) (hl:new.length=(k+1) * sz) :
  ∃ E D,Ig C e sz n (k+1) v h new=some (E,D)∧C9 E = true∧D.m.get q=some (.cells [v] t)∧h.nx≤D.nx∧Stp (OW q lo) h G D G∧Stp (OW q lo) h G (D.at q (.cells [E] t)) G∧OB (D.at q (.cells [E] t)) G q lo t e sz (n+(k+1)) (cs++new) E:=by
 obtain ⟨E,D,c2,O,aa,z,Z⟩:=Di (C:=C) o.o hz I h1 hl o.le s (fun j J=>o.f j (Or.inl J));have U:Stp (OW q lo) h G D G:=z.mono fun i Y=>Or.inr (o.o.vb Y);have g5:=z.gt s.1 o.g (fun hh=>by have:=o.o.vb hh;have:=o.lt;omega);have q5:Stp (fun i=>i=q) D G (D.at q (.cells [E] t)) G:=(Stp.refl z.st).at (Or.inr rfl) (Ah z.st.1 g5) o.gq;refine ⟨E,D,c2,O.one,g5,z.nx,U,U.in q5 (fun i _ Y=>Or.inl Y),Ap,O.mv q5 z.st.1 (fun j J hw=>by have:=o.lt;omega),fun j J=>?_,o.gq,o.lt,by have:=o.le;have:=z.nx;simp only [Ag];omega⟩;rw [Z] at J;rcases J with ⟨_,e⟩ | e
 ·cases e;exact s.none (Nat.le_refl _)
 ·cases e
theorem Dm.setn (D:Dm h G d m sl b L) {k:Hd} {p:Nat} {nd:Nd} {cs:List AV} (a:Ad sl k p) (hr:NdR G nd cs) (h8:nd.attrs.length≤8∧nd.ch.length≤L):Dm (h.at p (.cells cs 118)) G d (m.up k nd) sl b L∧Stp (FP d b sl) h G (h.at p (.cells cs 118)) G:=by
 obtain ⟨ab,aa,n1,n2,n3,Y,Z,n6⟩:=D.nodes k p a;have st:Stp (FP d b sl) h G (h.at p (.cells cs 118)) G:=(Stp.refl D.s).at (Or.inr (Or.inr (Or.inr ⟨k,a⟩))) (Ah D.s.1 n2) Y;refine ⟨⟨st.st,?_,fun U=>⟨(An (Ne.symm n6)).trans (D.row U).1,(D.row U).2⟩,D.gd,D.gb,D.be,fun z O J=>?_,D.inj,fun z E=>?_,D.gen,D.le,fun z nd' e=>?_⟩,st⟩
 ·obtain ⟨fr,lv,c,fl,e,r⟩:=D.dg;exact ⟨fr,lv,c,fl,(An (Ne.symm Z)).trans e,r⟩
 ·by_cases e:O = p
  ·subst e;have:=D.inj z k O J a;subst this;exact ⟨nd,cs,_root_.Go.V.D.up_eq,Ap,hr,Y,Z,n6⟩
  ·obtain ⟨nd',cs',m1,m2,m3⟩:=D.nodes z O J;have hk:z≠k:=fun I=>by subst I;exact e (J.uniq a)
   exact ⟨nd',cs',(_root_.Go.V.D.up_ne hk).trans m1,(An e).trans m2,m3⟩
 ·by_cases e:z = k
  ·subst e;exact ⟨p,a⟩
  ·rw [_root_.Go.V.D.up_ne e] at E;exact D.all z E
 ·by_cases I:z = k
  ·subst I;rw [_root_.Go.V.D.up_eq] at e;cases e;exact h8
  ·rw [_root_.Go.V.D.up_ne I] at e;exact D.nd z nd' e
theorem Dm.setd (D:Dm h G d m sl b L) {z:Nat} {lv lv':Int} {c c':List Int} {fl:List Nat} (e:h.m.get d=some (.cells (Ia (slV sl b) z lv c) 108)) (I:FrL sl z fl) (J:fl.Nodup) (O:c'.length=8) :
  Dm (h.at d (.cells (Ia (slV sl b) z lv' c') 108)) G d m sl b L∧Stp (FP d b sl) h G (h.at d (.cells (Ia (slV sl b) z lv' c') 108)) G:=by
 have E:Stp (FP d b sl) h G (h.at d (.cells (Ia (slV sl b) z lv' c') 108)) G:=(Stp.refl D.s).at (Or.inr (Or.inl rfl)) D.d_lt D.gd;exact ⟨D.mv E.st O I J Ap fun i _ hd=>An hd,E⟩
theorem Dm.loc (D:Dm h G d m sl b L) (p:Stp (fun i=>¬ FP d b sl i) h G h' G'):Dm h' G' d m sl b L:=by
 have le:=p.le D.s;have gd:FP d b sl d:=Or.inl rfl;refine ⟨p.st,?_,fun z=>⟨p.gt D.s.1 (D.row z).1 (fun h=>h (Or.inr (Or.inl ⟨rfl,z⟩))),(D.row z).2⟩,(p.old d D.d_lt).trans D.gd,?_,D.be,fun k q I=>?_,D.inj,D.all,D.gen,D.le,D.nd⟩
 ·obtain ⟨J,lv,c,fl,e,r⟩:=D.dg;exact ⟨J,lv,c,fl,p.gt D.s.1 e (fun h=>h gd),r⟩
 ·by_cases z:sl=[]
  ·rw [D.be z];exact (p.old d D.d_lt).trans D.gd
  ·exact (p.old b (Ah D.s.1 (D.row z).1)).trans D.gb
 ·obtain ⟨nd,cs,O,E,U,Y,Z⟩:=D.nodes k q I;exact ⟨nd,cs,O,p.gt D.s.1 E (fun h=>h (Or.inr (Or.inr ⟨k,I⟩))),U.mono le,(p.old q (Ah D.s.1 E)).trans Y,Z⟩
def dlM (m:D.M) (k:Hd):D.M:=fun x=>if x=k then none else m x
theorem FrL.free {sl:List Sl}:∀ {n:Nat} {fl:List Nat},FrL sl n fl→∀ i,i∈fl→∃ g x,sl[i]?=some ⟨g,x,none⟩:=by
 intro n fl f
 induction f with
 | nil=>intro i z;cases z
 | cons h1 _ ih =>
  intro i z;rcases List.mem_cons.1 z with rfl | z
  ·exact ⟨_,_,h1⟩
  ·exact ih i z
theorem Dm.freed (D:Dm h G d m sl b L) {k:Hd} {p fr fr' n' g':Nat} {lv:Int} {c:List Int} {fl:List Nat} (a:Ad sl k p) (hf:FrL sl fr fl) (hn:fl.Nodup) (hc:c.length=8)
  (s':St h' G) (hd:h'.m.get d=some (.cells (Ia (slV sl b) fr' lv c) 108)) (hb:h'.m.get b=some (.row (slC (sl.set k.ix ⟨g',n',none⟩)) sl.length 212 4)) (hp:∀ z p',Ad sl z p'→h'.m.get p' = h.m.get p')
  (hg:(g' = k.gen+1∧k.gen+1 < 4294967296∧n' = fr∧fr' = k.ix+1)∨(g' = k.gen∧fr' = fr)) :
  Dm h' G d (dlM m k) (sl.set k.ix ⟨g',n',none⟩) b L∧(∀ i,FP d b (sl.set k.ix ⟨g',n',none⟩) i→FP d b sl i∧i≠p):=by
 have J:=a.ne;have hk:=a.lt;have Y:k.ix ∉ fl:=fun hh=>by
  obtain ⟨g,x,e⟩:=hf.free _ hh;obtain ⟨n,a⟩:=a;rw [e] at a;cases a
 have U:sl.set k.ix ⟨g',n',none⟩≠[]:=fun e=>by have:=congrArg List.length e;simp at this;exact J this
 have hv:slV (sl.set k.ix ⟨g',n',none⟩) b=slV sl b:=by unfold slV;rw [if_neg J,if_neg U,List.length_set]
 have ad:∀ z p',Ad (sl.set k.ix ⟨g',n',none⟩) z p'→z.ix≠k.ix∧Ad sl z p':=fun z p' E=>by
  rcases (Ad.set hk).1 E with ⟨_,_,h3⟩ | h
  ·cases h3
  ·exact h
 have aa:=D.gen k.ix _ a.choose_spec;refine ⟨⟨s',?_,fun _=>⟨by rw [List.length_set];exact hb,(D.row J).2⟩,D.gd,D.gb,fun h=>absurd h U,fun z p' E=>?_,fun z ae p' E ab=>D.inj z ae p' (ad _ _ E).2 (ad _ _ ab).2,fun z I=>?_,fun j s hs=>?_,⟨by rw [List.length_set];exact D.le.1,D.le.2⟩,fun z nd e=>?_⟩,fun i Y=>?_⟩
 ·rcases hg with ⟨_,_,e3,e4⟩ | ⟨_,O⟩
  ·exact ⟨fr',lv,c,k.ix::fl,by rw [hv];exact hd,hc,by rw [e4];exact .cons (by rw [List.getElem?_set_self hk,e3]) (hf.set Y),List.nodup_cons.2 ⟨Y,hn⟩⟩
  ·exact ⟨fr',lv,c,fl,by rw [hv];exact hd,hc,by rw [O];exact hf.set Y,hn⟩
 ·obtain ⟨Z,O⟩:=ad z p' E;obtain ⟨nd,cs,h1,h2,h3⟩:=D.nodes z p' O;exact ⟨nd,cs,(if_neg fun e=>Z (by rw [e])).trans h1,(hp z p' O).trans h2,h3⟩
 ·unfold dlM at I;split at I
  ·exact absurd rfl I
  ·rename_i ac;obtain ⟨p',E⟩:=D.all z I;refine ⟨p',(Ad.set hk).2 (Or.inr ⟨fun e=>ac ?_,E⟩)⟩;obtain ⟨n,a⟩:=a;obtain ⟨n2,E⟩:=E;rw [e,a] at E;cases z;cases k;simp only at e;subst e;cases E;rfl
 ·by_cases e:j=k.ix
  ·subst e;rw [List.getElem?_set_self hk] at hs;cases hs;rcases hg with ⟨Z,O,_⟩ | ⟨Z,_⟩
   ·exact ⟨by show 1≤g';omega,by show g' < _;omega⟩
   ·exact ⟨by show 1≤g';have:1≤k.gen:=aa.1;omega,by show g' < _;have:k.gen < 4294967296:=aa.2;omega⟩
  ·rw [List.getElem?_set_ne (Ne.symm e)] at hs;exact D.gen j s hs
 ·unfold dlM at e;split at e
  ·cases e
  ·exact D.nd z nd e
 ·rcases Y with rfl | ⟨rfl,_⟩ | ⟨z,Y⟩
  ·exact ⟨Or.inl rfl,fun e=>by obtain ⟨_,_,_,_,_,_,h5,_⟩:=D.nodes k p a;exact h5 e.symm⟩
  ·exact ⟨Or.inr (Or.inl ⟨rfl,J⟩),fun e=>by obtain ⟨_,_,_,_,_,_,_,h6⟩:=D.nodes k p a;exact h6 e.symm⟩
  ·obtain ⟨Z,O⟩:=ad z i Y;exact ⟨Or.inr (Or.inr ⟨z,O⟩),fun e=>Z (by subst e;rw [D.inj z k i O a])⟩
end
section
variable {h:H} {G:Fz} {d b L p:Nat} {m:D.M} {sl:List Sl} {k:Hd}
theorem Ayh (s:St h G) (r:Rd h d b p sl k) (z:k.ix < sl.length) (hn:sl.length≤1000000):Ans ctx 126 [jQ d 0,hdA k] h fun v h'=>v=.tup [jQ b (k.ix * 4),iQ wQ 0]∧Gro h G h':=by
 refine aO Tryz.f126 ?_;obtain ⟨D,E,U,rc⟩:=r;have I:¬ ((sl.length:Int)≤(k.ix:Int)):=tM;have Y:IntKind.u64.wrap (sl.length:Int)=sl.length:=Ll tM;have Z:IntKind.u64.wrap (k.ix:Int)=k.ix:=Ll tM;have J:=Cq s.1 D;have O:=Cq s.1 E;simp only [Tryz.f126];simp only [seval,go_sem,Y,Z,I,z,D,E,U,J,O,O6 z];exact (Stp.refl s).new.up.up.up
theorem Aqp (s:St h G) (r:Rd h d b p sl k) (D:k.ix < sl.length) (z:sl.length≤1000000):Ans ctx 103 [jQ d 0,hdA k] h fun v h'=>v=bQ true∧Gro h G h':=by
 refine aO Tryz.f103 ?_;simp only [Tryz.f103];have q:Gro h G (h.new k):=(Stp.refl s).new;simp only [seval,go_sem];refine Ae (Ayh q.st (r.mv s.1 q (fun h=>h) (fun h=>h)) D z) fun v J ⟨E,I⟩=>?_;subst E;simp only [seval,go_sem];exact q.trans I
theorem at107 (s:St h G) (r:Rd h d b p sl k) (E:k.ix < sl.length) (D:sl.length≤1000000):Ans ctx 107 [jQ d 0,hdA k] h fun v h'=>v=.tup [jQ p 0,iQ wQ 0]∧Gro h G h':=by
 refine aO Tryz.f107 ?_;simp only [Tryz.f107];have q:Gro h G (h.new k):=(Stp.refl s).new;simp only [seval,go_sem];refine Ae (Ayh q.st (r.mv s.1 q (fun h=>h) (fun h=>h)) E D) fun v J ⟨I,z⟩=>?_;subst I;have rc:=((r.mv s.1 q (fun h=>h) (fun h=>h)).mv q.st.1 z (fun h=>h) (fun h=>h)).rc;simp only [seval,go_sem,rc];exact q.trans z
theorem Ie (D:Dm h G d m sl b L) (a:Ad sl k p):Ans ctx 43 [jQ d 0,hdA k] h fun v h'=>v=jQ p 0∧Gro h G h':=by
 refine aO Tryz.f43 ?_;simp only [Tryz.f43];have q:Gro h G ((h.new k).up 10):=(Stp.refl D.s).new.up;obtain ⟨_,I,z,rfl,E⟩:=at107 q.st ((D.rds a).mv D.s.1 q (fun h=>h) (fun h=>h)) a.lt (by have:=D.le;omega);simp only [seval,go_sem,z];exact q.trans E
theorem Aaz {q q2:Nat} {v:AV} {l:List Hd} (D:Dm h G d m sl b L) (Z:h.read q 0 1=some [jQ d 0]) (h2:h.read q2 0 1=some [v]) (a:Arr G 2 v l.length (hdC l)) (hl:l.length < 1000000) (hv:∀ k,k∈l→∃ p,Ad sl k p) :
  Ans ctx 102 [jQ q 0,jQ q2 0] h fun x h'=>x=iQ wQ 0∧Gro h G h':=by
 refine aO Tryz.f102 ?_;simp only [Tryz.f102];simp only [seval,go_sem,Z,h2,a.len];refine Ao (fun i e h'=>Gro h G h'∧i≤l.length∧e.get 0=some (jQ q 0)∧e.get 7=some v∧e.get 8=some (iQ wQ l.length)∧e.get 9=some (iQ wQ i)) (fun i=>l.length - i) 0 ⟨Stp.refl D.s,Nat.zero_le _,by simp [Tr.get_set]⟩ ?_;rintro i e h' ⟨p,hi,E,I,J,U⟩ lp;simp only [seval,go_sem,E,I,J,U];refine Cr (fun z=>?_) (fun z=>?_)
 ·have z:i < l.length:=by simpa using z
  have w:=wI i;obtain ⟨ab,ao,g1,Y⟩:=a.hd p.st z;obtain ⟨kp,ka⟩:=hv l[i] (List.getElem_mem z);generalize l[i]=k at Y ka;have p1:Gro h G ((h'.new (cQ [iQ uQ 0,iQ uQ 0] 50)).at h'.nx (k:Blk)):=(p.new).at (Or.inl p.nx) (by simp only [Ac];omega) (p.st.none (Nat.le_refl _));have r1:=p1.rs D.s.1 Z (fun h=>h);have O:=p1.up (n:=6);obtain ⟨_,h3,c1,rfl,p3⟩:=Aqp O.st ((D.gro O).rds ka) ka.lt (by have:=D.le;omega);simp only [seval,go_sem,E,I,J,U,g1,p.st.read Y,r1,c1,w];exact lp (i+1) _ _ tM ⟨O.trans p3,z,by simp [Tr.get_set,E,I,J]⟩
 ·simp only [seval,go_sem];exact p
theorem e41 {v:AV} (z:C9 v=true):Ans ctx 41 [jQ d 0,v] h fun x h'=>x=.fn (.func 102) [] [jQ h.nx 0,jQ (h.nx+1) 0]∧h' = (h.new d).new (cQ [v] 53):=by
 refine aO Tryz.f41 ?_;simp only [Tryz.f41];simp only [seval,go_sem,z]
theorem note {cv:List AV} {f:AV} (D:Dm h G d m sl b L) (J:Af cv=true):Ans ctx 99 [jQ d 0,gQ cv,f] h fun x h'=>Gro h G h':=by
 refine aO Tryz.f99 ?_;simp only [Tryz.f99];have q:Gro h G (h.new (cQ cv 100)):=(Stp.refl D.s).new;obtain ⟨I,lv,c,fl,z,E,_⟩:=(D.gro q).dg;have r:(h.new (cQ cv 100)).read d 11 1=some [bQ false]:=(Ab z).trans (by
  match c,E with
  | [c0,c1,c2,c3,c4,c5,c6,c7],_=>rfl)
 simp only [seval,go_sem,r];exact q
end
theorem by212:bytes ctx 212=24:=kR
attribute [local go_sem] Apl
section
variable {h:H} {G:Fz} {d b L q:Nat} {m:D.M} {sl:List Sl}
theorem app_sl (D:Dm h G d m sl b L):∃ z,Ig ctx 212 4 sl.length 1 (slV sl b) h [iQ uQ 1,bQ false,iQ wQ 0,kQ (.pointer none)]=some (slV (sl++[⟨1,0,none⟩]) h.nx,z) ∧
  z.m.get h.nx=some (oQ (slC (sl++[⟨1,0,none⟩])) (sl.length+1) 212 4)∧(∀ j,¬ (j=b∧sl≠[])→j≠h.nx→z.m.get j=h.m.get j)∧z.nx=h.nx+1∧Stp (fun i=>i=b∧sl≠[]) h G z G:=by
 have I:=Be (C:=ctx) (e:=212) (n:=sl.length+1) (by rw [by212];omega) (by have:=D.le;omega);have hv:∀ x,slV (sl++[⟨1,0,none⟩]) x=.sr x 0 0 (sl.length+1):=fun x=>by unfold slV;rw [if_neg (by simp)];simp
 have O:slC (sl++[⟨1,0,none⟩])=slC sl++[iQ uQ 1,bQ false,iQ wQ 0,kQ (.pointer none)]:=by rw [Pg];rfl
 have E:=Kb (sl++[⟨1,0,none⟩]);rw [O] at E
 by_cases hne:sl=[]
 ·subst hne;refine ⟨h.new (oQ (slC ([]++[⟨1,0,none⟩])) 1 212 4),?_,Au,fun j _ U=>?_,rfl,(Stp.refl D.s).new⟩
  ·rw [hv,O];show Ig ctx 212 4 0 1 (():AV) h _=_;rw [Abn,Q2];have I:F7 ctx 212 1=true:=I;have E:Af ([]++[AV.int uQ 1,bQ false,iQ wQ 0,kQ (.pointer none)])=true:=E;rw [I];rfl
  ·rcases Nat.lt_trichotomy j h.nx with J | J | J
   ·exact Awn J
   ·exact absurd J U
   ·rw [D.s.1 j tM];exact (D.s.1.new j (by rw [Ac];omega))
 ·obtain ⟨Z,aa⟩:=D.row hne;have ab:=Ah D.s.1 Z;refine ⟨(h.dl b).new (oQ (slC (sl++[⟨1,0,none⟩])) (sl.length+1) 212 4),?_,Au,fun j Y U=>?_,rfl,((Stp.refl D.s).dl (Or.inr ⟨rfl,hne⟩) D.gb).new⟩
  ·rw [hv,O];unfold slV;rw [if_neg hne,Abi,Z];simp only [Nat.beq_refl,Bool.and_self];rw [Q2,I,E];rfl
  ·rw [show ((h.dl b).new (oQ (slC (sl++[⟨1,0,none⟩])) (sl.length+1) 212 4)).m.get j=(h.dl b).m.get j from ?_]
   ·exact Lh fun e=>Y ⟨e,hne⟩
   ·show ((h.dl b).m.set (h.dl b).nx _).get j=_;rw [Tr.get_set,if_neg (show ¬ j=(h.dl b).nx from U)]
theorem take {nd:Nd} {cs:List AV} (D:Dm h G d m sl b L) (hL:L+1≤1000000) (hq:h.m.get q=some (cQ cs 118)) (ap:NdR G nd cs) (gq:G q=none) (hf:¬ FP d b sl q) (h8:nd.attrs.length≤8∧nd.ch.length≤L) :
  Ans ctx 122 [jQ d 0,jQ q 0] h fun v h'=>∃ k ai b',v=.tup [hdA k,iQ wQ 0]∧m k=none∧1≤k.gen∧Dm h' G d (m.up k nd) ai b' (L+1)∧Ad ai k q∧Stp (FP d b sl) h G h' G∧∀ i,i < h.nx→FP d b' ai i→FP d b sl i∨i=q:=by
 refine aO Tryz.f122 ?_;simp only [Tryz.f122];obtain ⟨fr,lv,c,fl,e1,e2,e3,e4⟩:=D.dg;obtain ⟨c0,c1,c2,c3,c4,c5,c6,c7,rfl⟩:∃ c0 c1 c2 c3 c4 c5 c6 c7,c=[c0,c1,c2,c3,c4,c5,c6,c7]:=by
  match c,e2 with
  | [c0,c1,c2,c3,c4,c5,c6,c7],_=>exact ⟨_,_,_,_,_,_,_,_,rfl⟩
 have ld:=D.d_lt;have q0:Gro h G (h.new (cQ [iQ uQ 0,iQ uQ 0] 50)):=(Stp.refl D.s).new;have rd1:∀ {k x},Aq k 1 (Ia (slV sl b) fr lv [c0,c1,c2,c3,c4,c5,c6,c7])=some [x]→(h.new (cQ [iQ uQ 0,iQ uQ 0] 50)).read d k 1=some [x]:=fun e=>(Ab (q0.gt D.s.1 e1 (fun h=>h))).trans e;have r0:(h.new (cQ [iQ uQ 0,iQ uQ 0] 50)).read d 0 1=some [slV sl b]:=rd1 rfl;have r1:(h.new (cQ [iQ uQ 0,iQ uQ 0] 50)).read d 1 1=some [iQ wQ fr]:=rd1 rfl;have r2:(h.new (cQ [iQ uQ 0,iQ uQ 0] 50)).read d 2 1=some [iQ wQ lv]:=rd1 rfl;have ay:=D.le;refine (fun key:∀ (S:H) (e:Env) (z:List Sl) (b1 i g n:Nat) (l:List Nat),Dm S G d m z b1 (L+1)→S.m.get d=some (cQ (Ia (slV z b1) (i+1) lv [c0,c1,c2,c3,c4,c5,c6,c7]) 108)→z[i]?=some ⟨g,n,none⟩→FrL z n l→(i::l).Nodup →
   S.m.get q=some (cQ cs 118)→S.m.get h.nx=some (cQ [iQ uQ 0,iQ uQ 0] 50)→Stp (FP d b sl) h G S G→(∀ j,j < h.nx→FP d b1 z j→FP d b sl j)→¬ FP d b1 z h.nx→¬ FP d b1 z q →
   e.get 0=some (jQ d 0)→e.get 1=some (jQ q 0)→e.get 4=some (jQ h.nx 0)→e.get 6=some (iQ wQ i)→My ctx 93 (val S (ixA 4 i (slV z b1))) (some 61) ?all ?l ?k e ?Q=>?main) ?key
 case main =>
  cases e3 with
  | nil =>
   have cl:decide ((sl.length:Int)=1048576)=false:=decide_eq_false tM;simp only [seval,go_sem,r0,r1,ld,U1,cl];have q1:Gro h G ((h.new (cQ [iQ uQ 0,iQ uQ 0] 50)).new (cQ [iQ uQ 1,bQ false,iQ wQ 0,kQ (.pointer none)] 212)):=q0.new;obtain ⟨S2,a1,a2,a3,a4,a5⟩:=app_sl (D.gro q1);simp only [Ac] at a1 a2 a3 a4;rw [a1];generalize Y:slV (sl++[⟨1,0,none⟩]) (h.nx+1+1)=v at *;have aa:∀ {j B},h.m.get j=some B→¬ (j=b∧sl≠[])→S2.m.get j=some B:=fun {j B} e hn=>(a3 j hn (by have:=Ah D.s.1 e;omega)).trans (q1.gt D.s.1 e fun h=>h);have av:¬ (d=b∧sl≠[]):=fun ⟨e,hn⟩=>(D.row hn).2 e.symm;have g1:=aa e1 av;simp only [Ia,List.map_cons,List.map_nil,List.cons_append,List.nil_append] at g1;have l1:Db v=some (sl.length+1):=by rw [← Y,U1];simp
   have o1:C9 v=true:=by rw [← Y];unfold slV;rw [if_neg (by simp)];rfl
   have w:IntKind.i64.wrap (((sl.length+1:Nat):Int) - 1)=(sl.length:Int):=by rw [show ((sl.length+1:Nat):Int) - 1=(sl.length:Int) by omega];exact Bz tM
   simp only [seval,go_sem,g1,l1,o1,w];rw [← Y];generalize hS:H.at _ _ _=S;have a4:S2.nx=h.nx+3:=a4;have ac:d≠h.nx+1+1:=tM;have st:Stp (FP d b sl) h G S G:=by
    subst hS;have p1:=(q1.mono (W':=FP d b sl) fun _ h=>h.elim).in a5 (fun i _ hw=>Or.inr (Or.inl hw));exact (p1.at (Or.inr (Or.inl rfl)) tM D.gd).at (Or.inr (Or.inl rfl)) (by simp only [Ag];omega) D.gd
   have gS:∀ {j B},¬ j=d→S2.m.get j=B→S.m.get j=B:=fun {j B} hj e=>by subst hS;simp only [An hj];exact e
   have gD:S.m.get d=some (cQ (Ia (.sr (h.nx+1+1) 0 0 (sl.length+1)) (sl.length+1) lv [c0,c1,c2,c3,c4,c5,c6,c7]) 108):=by
    subst hS;rw [Ap];have:v=.sr (h.nx+1+1) 0 0 (sl.length+1):=by rw [← Y];unfold slV;rw [if_neg (by simp)];simp
    rw [Y,this];rfl
   have Z:∀ k p,Ad sl k p→p≠d∧p < h.nx∧¬ (p=b∧sl≠[]):=fun k p a=>by
    obtain ⟨_,_,_,h2,_,_,h5,h6⟩:=D.nodes k p a;exact ⟨h5,Ah D.s.1 h2,fun h=>h6 h.1⟩
   obtain ⟨D',ae,am⟩:=D.grow (h':=S) (b':=h.nx+1+1) hL st.st rfl gD (gS tM a2) (Ne.symm ac) (D.s.none tM) (fun k p a=>by
    obtain ⟨b1,b2,b3⟩:=Z k p a;obtain ⟨_,_,_,h2,_⟩:=D.nodes k p a;exact ⟨(gS b1 (aa h2 b3)).trans h2.symm,tM⟩)
   have lq:=Ah D.s.1 hq;have J:¬ q=d:=fun e=>hf (Or.inl e);have ar:¬ (h.nx=b∧sl≠[]):=fun ⟨e,hn⟩=>by have:=Ah D.s.1 (D.row hn).1;omega
   refine key S _ _ (h.nx+1+1) sl.length 1 0 [] D' am ae .nil (by simp) (gS J (aa hq fun ⟨e,hn⟩=>hf (Or.inr (Or.inl ⟨e,hn⟩)))) (gS tM ((a3 h.nx ar tM).trans ?_)) st (fun j hj hw=>?_) (fun hw=>?_) (fun hw=>?_) ?_ ?_ ?_ ?_
   ·exact gL
   ·rcases hw with rfl | ⟨rfl,_⟩ | ⟨k,hw⟩
    ·exact Or.inl rfl
    ·omega
    ·exact Or.inr (Or.inr ⟨k,Ad.app.1 hw⟩)
   ·rcases hw with e | ⟨e,_⟩ | ⟨k,hw⟩
    ·omega
    ·omega
    ·have:=(Z k _ (Ad.app.1 hw)).2.1;omega
   ·rcases hw with e | ⟨e,_⟩ | ⟨k,hw⟩
    ·exact J e
    ·omega
    ·exact hf (Or.inr (Or.inr ⟨k,Ad.app.1 hw⟩))
   all_goals simp [Tr.get_set]
  | @cons i g n l U ef =>
   have cl:decide (((i+1:Nat):Int)=0)=false:=decide_eq_false tM;have w:IntKind.i64.wrap (((i+1:Nat):Int) - 1)=(i:Int):=by rw [show ((i+1:Nat):Int) - 1=(i:Int) by omega];exact Bz (by have:=(List.getElem?_eq_some_iff.1 U).1;omega)
   simp only [seval,go_sem,r0,r1,r2,ld,U1,cl,w];have E:=(D.gro q0).up (Nat.le_succ L) hL;have aq:¬ FP d b sl h.nx:=fun hh=>by have:=D.fp_lt _ hh;omega
   refine key _ _ sl b i g n l E (q0.gt D.s.1 e1 fun h=>h) U ef e4 (q0.gt D.s.1 hq fun h=>h) Au (q0.mono fun _ h=>h.elim) (fun _ _ h=>h) aq hf ?_ ?_ ?_ ?_ <;> simp [Tr.get_set]
 case key =>
  intro S e z b1 i g n l E gd U ef en an gn p hF ag ah t0 t1 t4 t6;have I:z≠[]:=fun e=>by rw [e] at U;cases U
  have hi:=(List.getElem?_eq_some_iff.1 U).1;obtain ⟨gb,ab⟩:=E.row I;obtain ⟨af,O⟩:=Ace U;have Y:slV z b1=.sr b1 0 0 z.length:=if_neg I;generalize hA:slC (z.take i)=A at af O;generalize hB:slC (z.drop (i+1))=B at af;rw [af] at gb;have a0:Af A=true∧Af B=true:=by rw [← hA,← hB];exact ⟨Kb _,Kb _⟩
  have dn:(d=h.nx)=False:=eq_false tM;have bn:(b1=d)=False:=eq_false ab;have nb:(d=b1)=False:=eq_false (Ne.symm ab);have wi:IntKind.u32.wrap (i:Int)=(i:Int):=Aqh (by have:=E.le;omega);have nn:(h.nx=d)=False:=eq_false tM;have aw:(h.nx=b1)=False:=eq_false fun e=>ag (Or.inr (Or.inl ⟨e,I⟩));have ax:S.read b1 (i * 4+2) 1=some [iQ wQ n]:=(Ab gb).trans (by rw [Ha,Qj O];rfl);rw [Y] at gd;simp only [Ia,List.map_cons,List.map_nil,List.cons_append,List.nil_append] at gd;simp only [seval,go_sem,Y,O6 hi,t0,t1,t4,t6,ax,gd,gb,dn,bn,nb,nn,aw,Vi O,U3 O,Afu O,wi,gn];generalize hS:H.at _ _ _=S6;have ac:¬ h.nx=d:=tM;have ao:¬ h.nx=b1:=fun e=>ag (Or.inr (Or.inl ⟨e,I⟩));have ln:=Ah E.s.1 gn;have lb:=Ah E.s.1 gb;have az:=E.d_lt;have aj:FP d b1 z b1:=Or.inr (Or.inl ⟨rfl,I⟩);have wb:h.nx≤b1∨FP d b sl b1:=(Nat.lt_or_ge b1 h.nx).symm.imp id fun hl=>hF b1 hl aj;have st:Stp (FP d b sl) h G S6 G:=by
   subst hS;refine (((((p.at (Or.inr (Or.inl rfl)) ?_ D.gd).at wb ?_ E.gb).at wb ?_ E.gb).at wb ?_ E.gb).at (Or.inr (Or.inl rfl)) ?_ D.gd).at (Or.inl (Nat.le_refl _)) ?_ (D.s.none (Nat.le_refl _)) <;> first | assumption | (simp only [Ag];assumption) | fail
  have go:∀ {j B},¬ j=d→¬ j=b1→¬ j=h.nx→S.m.get j=B→S6.m.get j=B:=fun {j B} h1 h2 h3 e=>by
   subst hS;simp only [An h1,An h2,An h3];exact e
  have Z:∀ k p,Ad z k p→p≠d∧p≠b1∧p≠h.nx∧p≠q:=fun k p a=>by
   obtain ⟨_,_,_,_,_,_,h5,h6⟩:=E.nodes k p a;exact ⟨h5,h6,fun e=>ag (e ▸ Or.inr (Or.inr ⟨k,a⟩)),fun e=>ah (e ▸ Or.inr (Or.inr ⟨k,a⟩))⟩
  have J:q≠d:=fun e=>ah (Or.inl e);have ak:q≠b1:=fun e=>ah (Or.inr (Or.inl ⟨e,I⟩));have au:q≠h.nx:=by have:=Ah D.s.1 hq;omega
  obtain ⟨z1,z2,z3⟩:=E.take (q:=q) (lv:=IntKind.i64.wrap (lv+1)) (c:=[c0,c1,c2,c3,c4,c5,c6,c7]) U ef en st.st rfl (by rw [Y];subst hS;rw [An (Ne.symm ac),Ap];rfl)
   (by subst hS;rw [An (Ne.symm ao),An ab,Ap,Afn hi,hA,hB];rfl)
   (fun k p a=>by
    obtain ⟨n1,n2,n3,n4⟩:=Z k p a;exact ⟨go n1 n2 n3 rfl,n4⟩) (go J ak au an) ap gq J ak ⟨h8.1,Nat.le_succ_of_le h8.2⟩
  refine ⟨⟨i,g⟩,_,b1,rfl,z1,(E.gen i _ U).1,z2,z3,st,fun j hj hw=>?_⟩;rcases hw with rfl | ⟨rfl,_⟩ | ⟨k,hw⟩
  ·exact Or.inl (Or.inl rfl)
  ·exact Or.inl (hF _ hj aj)
  ·rcases (Ad.set hi).1 hw with ⟨_,_,h3⟩ | ⟨_,hw⟩
   ·cases h3;exact Or.inr rfl
   ·exact Or.inl (hF j hj (Or.inr (Or.inr ⟨k,hw⟩)))
end
section
variable {h:H} {G:Fz} {d b L q:Nat} {m:D.M} {sl:List Sl}
abbrev Ahg (kd:Nat) (tg tx:List UInt8):List AV:=[iQ vQ kd,sQ tg,sQ [],(():AV),sQ tx,(():AV)]
theorem Axr {kd:Nat} {J O:List UInt8} (D:Dm h G d m sl b L) (hL:L+1≤1000000) (hv:A8 (.nd kd J [] O [] [])) :
  Ans ctx 57 [jQ d 0,gQ (Ahg kd J O)] h fun v h'=>∃ k E b',v=.tup [hdA k,iQ wQ 0]∧m k=none∧1≤k.gen∧Dm h' G d (m.up k ⟨kd,J,[],O,none,[]⟩) E b' (L+1)∧Stp (FP d b sl) h G h' G∧∀ i,i < h.nx→FP d b' E i→FP d b sl i:=by
 refine aO Tryz.f57 ?_;simp only [Tryz.f57];have p:Gro h G (((h.new d).new (cQ (Ahg kd J O) 36)).new (cQ [iQ uQ 0,iQ uQ 0] 50)):=(Stp.refl D.s).new.new.new;have r:RT G (.nd kd J [] O [] []) (Ahg kd J O):=⟨_,_,[],rfl,Or.inl ⟨rfl,rfl,rfl⟩,Or.inl ⟨rfl,rfl,rfl⟩,rfl⟩;have hc:=Gv hv;simp only [seval,go_sem];refine Ae (Hl p.st r) fun v z ⟨q1,U⟩=>?_;subst q1;have g0:=U.gt p.st.1 (i:=h.nx) (b:=cQ [jQ d 0] 46) gL (fun h=>h);have g1:=U.gt p.st.1 (i:=h.nx+1) (b:=cQ (Ahg kd J O) 36) gL (fun h=>h);have g2:=U.gt p.st.1 (i:=h.nx+2) (b:=cQ [iQ uQ 0,iQ uQ 0] 50) gL (fun h=>h);have r0:z.read h.nx 0 1=some [jQ d 0]:=(Ab g0).trans rfl;have r1:z.read (h.nx+1) 0 1=some [iQ vQ kd]:=(Ab g1).trans rfl;have r2:z.read (h.nx+1) 1 1=some [sQ J]:=(Ab g1).trans rfl;have r3:z.read (h.nx+1) 4 1=some [sQ O]:=(Ab g1).trans rfl;have p2:∀ {B},Gro h G ((z.up 19).at (z.nx+11) B):=fun {B}=>((p.trans U).up).at (Or.inl (by have:=U.nx;simp only [Ac] at this;omega)) (by simp only [Ai];omega) (D.s.none (by have:=U.nx;simp only [Ac] at this;omega));have D2:=D.gro (p2 (B:=cQ [iQ vQ kd,sQ J,(():AV),sQ O,iQ wQ 0,iQ wQ 0,bQ false,iQ uQ 0,iQ uQ 0,(():AV)] 118));have l1:h.nx+3≤z.nx:=by have:=U.nx;simp only [Ac] at this;omega
 have hf:¬ FP d b sl (z.nx+11):=fun I=>by have:=D.fp_lt _ I;omega
 obtain ⟨_,h2,e1,k,E,b',rfl,m0,kg,D3,a3,ac,f3⟩:=take D2 hL Ap (nd:=⟨kd,J,[],O,none,[]⟩) ⟨_,_,rfl,Or.inl ⟨rfl,rfl,rfl⟩,Or.inl ⟨rfl,rfl,rfl⟩⟩ (D.s.none tM) hf ⟨Nat.zero_le _,Nat.zero_le _⟩;have ag:=U.gt p.st.1 (i:=h.nx) (b:=cQ [jQ d 0] 46) gL (fun h=>h);have ab:∀ {i},h.nx≤i→¬ FP d b sl i:=fun hi I=>by have:=D.fp_lt _ I;omega
 have p5:=(p2.mono (W':=FP d b sl) fun _ h=>h.elim).in ac (fun _ _ h=>h);have l2:=p5.nx;have l3:=ac.nx;simp only [Ag,Ai] at l3;have ae:¬ FP d b' E (z.nx+16):=fun I=>by
  rcases f3 _ (by simp only [Ag,Ai];omega) I with I | I
  ·exact ab tM I
  ·omega
 have p6:Stp (FP d b sl) h G ((h2.at (z.nx+16) (cQ [iQ uQ 0,iQ uQ 0] 50)).at (z.nx+16) (k:Blk)) G:=(p5.at (Or.inl tM) tM (D.s.none tM)).at (Or.inl tM) (by simp only [Ag];omega) (D.s.none tM);obtain ⟨fr,lv,Z,c1,c2,c3,c4,c5,c6,c7,fl,dg,ef,en⟩:=D3.dc;have aa:((h2.at (z.nx+16) (cQ [iQ uQ 0,iQ uQ 0] 50)).at (z.nx+16) (k:Blk)).m.get d=_:=(An (by have:=D.d_lt;omega)).trans ((An (by have:=D.d_lt;omega)).trans dg);have Y:Dm ((h2.at (z.nx+16) (cQ [iQ uQ 0,iQ uQ 0] 50)).at (z.nx+16) (k:Blk)) G d (m.up k ⟨kd,J,[],O,none,[]⟩) E b' (L+1):=D3.mv p6.st (lv':=lv) (c':=[Z,c1,c2,c3,c4,c5,c6,c7]) rfl ef en aa fun i hi _=>by
  have:i≠z.nx+16:=fun e=>ae (e ▸ hi);rw [An this,An this]
 have b0:∀ {j B},z.m.get j=some B→h.nx≤j→((h2.at (z.nx+16) (cQ [iQ uQ 0,iQ uQ 0] 50)).at (z.nx+16) (k:Blk)).m.get j=some B:=fun {j B} e hj=>by
  have lj:=Ah U.st.1 e;rw [An tM,An tM];exact ac.gt p2.st.1 ((An tM).trans e) (ab hj)
 have u0:=b0 ag (Nat.le_refl _);have u2:=b0 g2 tM;have v0:((h2.at (z.nx+16) (cQ [iQ uQ 0,iQ uQ 0] 50)).at (z.nx+16) (k:Blk)).read h.nx 0 1=some [jQ d 0]:=(Ab u0).trans rfl;have v1:((h2.at (z.nx+16) (cQ [iQ uQ 0,iQ uQ 0] 50)).at (z.nx+16) (k:Blk)).read d 3 8=some [iQ wQ Z,iQ wQ c1,iQ wQ c2,iQ wQ c3,iQ wQ c4,iQ wQ c5,iQ wQ c6,iQ wQ c7]:=(Ab aa).trans rfl;obtain ⟨nv,h3,e2,p7⟩:=note (Y.gro ((Stp.refl Y.s).up (n:=7))) (cv:=[iQ wQ Z,iQ wQ c1,iQ wQ c2,iQ wQ c3,iQ wQ c4,iQ wQ c5,iQ wQ c6,iQ wQ c7]) (f:=.fn (.func 123) [] [jQ h.nx 0,jQ (z.nx+16) 0]) rfl;have p8:Gro ((h2.at (z.nx+16) (cQ [iQ uQ 0,iQ uQ 0] 50)).at (z.nx+16) (k:Blk)) G h3:=((Stp.refl Y.s).up (n:=7)).trans p7;have x0:=p8.gt Y.s.1 u0 (fun h=>h);have x2:=p8.gt Y.s.1 u2 (fun h=>h);have xd:=p8.gt Y.s.1 aa (fun h=>h);have xk:h3.m.get (z.nx+16)=some (k:Blk):=p8.gt Y.s.1 Ap (fun h=>h);have y0:h3.read h.nx 0 1=some [jQ d 0]:=(Ab x0).trans rfl;have y1:h3.read d 3 1=some [iQ wQ Z]:=(Ab xd).trans rfl;have y2:h3.read d 4 1=some [iQ wQ c1]:=(Ab xd).trans rfl;have y3:h3.read (z.nx+16) 0 2=some [iQ uQ k.ix,iQ uQ k.gen]:=(Ab xk).trans rfl;have z0:(h.nx=d)=False:=eq_false (by have:=D.d_lt;omega);have z1:(d=h.nx+2)=False:=eq_false (by have:=D.d_lt;omega);have z2:(z.nx+16=d)=False:=eq_false (by have:=D.d_lt;omega);have z3:(h.nx+2=d)=False:=eq_false (by have:=D.d_lt;omega);have ov:=Ka (sl:=E) (b:=b');simp only [seval,go_sem,hc,r0,r1,r2,r3,e1,v0,v1,e2,y0,y1,y2,y3,xd,x2,z0,z1,z2,z3,ov];have p9:=p6.in p8 (fun _ _ h=>h.elim);have ah:¬ FP d b' E (h.nx+2):=fun I=>by
  rcases f3 _ (by simp only [Ag,Ai];omega) I with I | I
  ·exact ab tM I
  ·omega
 have D7:=Y.gro p8;have af:=((p9.at (b:=cQ [slV E b',iQ wQ fr,iQ wQ lv,iQ wQ (IntKind.i64.wrap (Z+1)),iQ wQ c1,iQ wQ c2,iQ wQ c3,iQ wQ c4,iQ wQ c5,iQ wQ c6,iQ wQ c7,bQ false,(():AV)] 108) (Or.inr (Or.inl rfl)) D7.d_lt D.gd).at
  (b:=cQ [slV E b',iQ wQ fr,iQ wQ lv,iQ wQ (IntKind.i64.wrap (Z+1)),iQ wQ (IntKind.i64.wrap (c1+1)),iQ wQ c2,iQ wQ c3,iQ wQ c4,iQ wQ c5,iQ wQ c6,iQ wQ c7,bQ false,(():AV)] 108) (Or.inr (Or.inl rfl)) (by simp only [Ag];exact D7.d_lt) D.gd).at
  (b:=cQ [iQ uQ k.ix,iQ uQ k.gen] 50) (i:=h.nx+2) (Or.inl tM) (by simp only [Ag];exact Ah p8.st.1 x2) (D.s.none tM)
 refine ⟨k,E,b',rfl,m0,kg,?_,af,fun i hi I=>?_⟩
 ·refine D7.mv af.st (lv':=lv) (c':=[IntKind.i64.wrap (Z+1),IntKind.i64.wrap (c1+1),c2,c3,c4,c5,c6,c7]) rfl ef en ?_ fun i hi hd=>?_
  ·rw [An (by have:=D.d_lt;omega),Ap];rfl
  ·rw [An (fun e:i=h.nx+2=>ah (e ▸ hi)),An hd,An hd]
 ·rcases f3 _ (by simp only [Ag,Ai];omega) I with I | I
  ·exact I
  ·omega
def Made (d:Nat) (m:D.M) (sl:List Sl) (b L:Nat) (G:Fz) (h:H) (nd:Nd) (v:AV) (h':H):Prop:=∃ k sl' b',v=.tup [hdA k,iQ wQ 0]∧m k=none∧1≤k.gen∧Dm h' G d (m.up k nd) sl' b' (L+1)∧Stp (FP d b sl) h G h' G∧∀ i,i < h.nx→FP d b' sl' i→FP d b sl i
theorem To {h' z:H} (p:Gro h G h') (D:Dm h G d m sl b L) (q:Stp (FP d b sl) h' G z G):Stp (FP d b sl) h G z G:=(p.mono fun _ h=>h.elim).in q (fun _ _ h=>h)
theorem element {J:List UInt8} (D:Dm h G d m sl b L) (hL:L+1≤1000000) (hv:A8 (.nd 1 J [] [] [] [])):Ans ctx 21 [jQ d 0,sQ J] h (Made d m sl b L G h ⟨1,J,[],[],none,[]⟩):=by
 refine aO Tryz.f21 ?_;simp only [Tryz.f21];have p:Gro h G (h.new (cQ [iQ uQ 0,iQ uQ 0] 50)):=(Stp.refl D.s).new;simp only [seval,go_sem];refine Ae (Axr (D.gro p) hL hv) fun v h2 ⟨k,E,b',q1,q2,q3,Y,I,q6⟩=>?_;subst q1;have lt:=p.nx;simp only [Ac] at lt;have x:=I.gt p.st.1 (i:=h.nx) Au (fun z=>by have:=D.fp_lt _ z;omega);simp only [seval,go_sem,x];have nF:¬ FP d b' E h.nx:=fun z=>by have:=D.fp_lt _ (q6 _ (by rw [Ac];omega) z);omega
 have U:=(To p D I).at (b:=cQ [iQ uQ k.ix,iQ uQ k.gen] 50) (Or.inl (Nat.le_refl _)) (Ah I.st.1 x) (D.s.none (Nat.le_refl _));obtain ⟨fr,lv,Z,c1,c2,c3,c4,c5,c6,c7,fl,dg,ef,en⟩:=Y.dc;refine ⟨k,E,b',rfl,q2,q3,?_,U,fun i O z=>q6 i (by rw [Ac];omega) z⟩;refine Y.mv U.st (lv':=lv) (c':=[Z,c1,c2,c3,c4,c5,c6,c7]) rfl ef en ((An (by have:=D.d_lt;omega)).trans dg) fun i O _=>An fun e=>nF (e ▸ O)
theorem words {J:List UInt8} (D:Dm h G d m sl b L) (hL:L+1≤1000000) (hv:A8 (.nd 2 [] [] J [] [])):Ans ctx 38 [jQ d 0,sQ J] h (Made d m sl b L G h ⟨2,[],[],J,none,[]⟩):=by
 refine aO Tryz.f38 ?_;simp only [Tryz.f38];have p:Gro h G (h.new (cQ [iQ uQ 0,iQ uQ 0] 50)):=(Stp.refl D.s).new;simp only [seval,go_sem];refine Ae (Axr (D.gro p) hL hv) fun v h2 ⟨k,E,b',q1,q2,q3,Y,I,q6⟩=>?_;subst q1;have lt:=p.nx;simp only [Ac] at lt;have x:=I.gt p.st.1 (i:=h.nx) Au (fun z=>by have:=D.fp_lt _ z;omega);simp only [seval,go_sem,x];have nF:¬ FP d b' E h.nx:=fun z=>by have:=D.fp_lt _ (q6 _ (by rw [Ac];omega) z);omega
 have U:=(To p D I).at (b:=cQ [iQ uQ k.ix,iQ uQ k.gen] 50) (Or.inl (Nat.le_refl _)) (Ah I.st.1 x) (D.s.none (Nat.le_refl _));obtain ⟨fr,lv,Z,c1,c2,c3,c4,c5,c6,c7,fl,dg,ef,en⟩:=Y.dc;refine ⟨k,E,b',rfl,q2,q3,?_,U,fun i O z=>q6 i (by rw [Ac];omega) z⟩;refine Y.mv U.st (lv':=lv) (c':=[Z,c1,c2,c3,c4,c5,c6,c7]) rfl ef en ((An (by have:=D.d_lt;omega)).trans dg) fun i O _=>An fun e=>nF (e ▸ O)
end
def Ja (h:H) (G:Fz) (lo e sz:Nat) (v:AV) (n:Nat) (cs:List AV):Prop :=
 (v=(():AV)∧n=0∧cs=[])∨∃ q,lo≤q∧v=.sl q 0 n n∧G q=none∧((n=0∧cs=[]∧h.m.get q=some (cQ [] e))∨(h.m.get q=some (oQ cs n e sz)∧cs.length=n * sz))
attribute [local go_sem] Option.getD
section
variable {h h':H} {G G':Fz} {d b L p:Nat} {m:D.M} {sl:List Sl} {k:Hd}
theorem Ja.one {lo e sz n:Nat} {v:AV} {cs:List AV} (o:Ja h G lo e sz v n cs):C9 v=true:=by
 rcases o with ⟨rfl,_,_⟩ | ⟨q,_,rfl,_⟩ <;> rfl
theorem Ja.len {lo e sz n:Nat} {v:AV} {cs:List AV} (o:Ja h G lo e sz v n cs):Db v=some n:=by
 rcases o with ⟨rfl,rfl,_⟩ | ⟨q,_,rfl,_⟩ <;> rfl
theorem Ja.mv {lo e sz n:Nat} {v:AV} {cs:List AV} {W:Nat→Prop} (o:Ja h G lo e sz v n cs) (p:Stp W h G h' G') (D:h.Ok) (hw:∀ q,lo≤q→¬ W q):Ja h' G' lo e sz v n cs:=by
 rcases o with o | ⟨q,z,I,J,E⟩
 ·exact Or.inl o
 ·refine Or.inr ⟨q,z,I,?_,?_⟩
  ·rcases E with ⟨_,_,g⟩ | ⟨g,_⟩ <;> exact (p.old q (Ah D g)).trans J
  ·rcases E with ⟨a,b,g⟩ | ⟨g,a⟩
   ·exact Or.inl ⟨a,b,p.gt D g (hw q z)⟩
   ·exact Or.inr ⟨p.gt D g (hw q z),a⟩
theorem Ja.frz {W:Nat→Prop} {lo e sz n:Nat} {v:AV} {cs:List AV} (p:Stp W h G h' G') (o:Ja h' G' lo e sz v n cs) (J:h.nx≤lo):∃ z,Stp W h G h' z∧Fz.Le G' z∧Arr z sz v n cs:=by
 rcases o with ⟨rfl,rfl,rfl⟩ | ⟨q,O,rfl,E,⟨rfl,rfl,D⟩ | ⟨D,I⟩⟩
 ·exact ⟨G',p,Fz.Le.refl,Or.inl ⟨rfl,rfl,rfl⟩⟩
 ·refine ⟨G'.add q (cQ [] e),p.frz tM D,Fz.add_le E,Or.inr ⟨q,0,Or.inl ⟨0,Nat.le_refl _,rfl⟩,?_⟩⟩;rw [Fz.rd_b Fz.add_at,Nat.zero_mul];rfl
 ·refine ⟨G'.add q (oQ cs n e sz),p.frz tM D,Fz.add_le E,Or.inr ⟨q,0,Or.inl ⟨n,Nat.le_refl _,rfl⟩,?_⟩⟩;rw [Fz.rd_b Fz.add_at,← I];exact Aj
theorem Ja.lo {lo z e sz n:Nat} {v:AV} {cs:List AV} (o:Ja h G lo e sz v n cs) (E:z≤lo):Ja h G z e sz v n cs:=by
 rcases o with o | ⟨q,D,r⟩
 ·exact Or.inl o
 ·exact Or.inr ⟨q,Nat.le_trans E D,r⟩
theorem cut_sr {C:Ctx} {q n t el:Nat} (z:und C t=some (.slice el)) (D:0 < size C el):Al C h t (.sr q 0 0 n) none (some n) (some n)=some (some (.sl q 0 n n),h):=by
 unfold Al;simp only [z,Lt,decide_eq_true D,Bs,Option.getD,Br,F8];simp only [Nat.zero_le,decide_true,Nat.le_refl,Bool.and_true,Bool.true_and,val];unfold G7;split
 ·rfl
 ·rw [Nat.zero_mul];rfl
theorem Axw {lo n:Nat} {v:AV} {cs:List AV} (s:St h G) (o:Own h lo 50 2 v n cs) (E:∀ q,lo≤q→G q=none):Ans ctx 106 [v] h fun J h'=>Ja h G lo 50 2 J n cs∧h' = h:=by
 rcases o with ⟨rfl,rfl,rfl⟩ | ⟨q,z,rfl,rfl,rfl,D⟩ | ⟨q,z,rfl,D,I⟩
 ·refine aO Tryz.f106 ?_;simp only [Tryz.f106];simp only [seval,go_sem,Al,Hn,Option.getD,Option.isNone,Option.isSome];exact Or.inl ⟨rfl,rfl,rfl⟩
 ·refine aO Tryz.f106 ?_;simp only [Tryz.f106];simp only [seval,go_sem,Al,Bs,Br,G7];exact Or.inr ⟨q,z,rfl,E q z,Or.inl ⟨rfl,rfl,D⟩⟩
 ·refine aO Tryz.f106 ?_;simp only [Tryz.f106];simp only [seval,go_sem,cut_sr (C:=ctx) u53 (by rw [s50];omega)];exact Or.inr ⟨q,z,rfl,E q z,Or.inr ⟨D,I⟩⟩
theorem own42 {nd:Nd} {vc:List AV} (s:St h G) (r:NdR G nd vc) (h8:nd.attrs.length≤8) (hn:nd.ch.length≤1000000):Ans ctx 42 [gQ vc] h fun v h'=>∃ G' a c,v=gQ [iQ vQ nd.kind,sQ nd.tag,a,sQ nd.text,iQ wQ 0,iQ wQ 0,bQ false,iQ uQ (Ba nd.par).ix,iQ uQ (Ba nd.par).gen,c] ∧
  Stp (fun _=>False) h G h' G'∧Arr G' 2 a nd.attrs.length (Ax nd.attrs)∧Ja h' G' h.nx 50 2 c nd.ch.length (hdC nd.ch):=by
 obtain ⟨a,c,rfl,ha,hc⟩:=r;refine aO Tryz.f42 ?_;simp only [Tryz.f42];have o1:=ha.one;have o2:=hc.one;have E:Gro h G (((h.new (cQ [iQ vQ nd.kind,sQ nd.tag,a,sQ nd.text,iQ wQ 0,iQ wQ 0,bQ false,iQ uQ (Ba nd.par).ix,iQ uQ (Ba nd.par).gen,c] 55)).new (cQ [iQ vQ 0,sQ [],(():AV),sQ [],iQ wQ 0,iQ wQ 0,bQ false,iQ uQ 0,iQ uQ 0,(():AV)] 55)).up 12):=(Stp.refl s).new.new.up;obtain ⟨v1,h1,e1,w1,J⟩:=Abf E.st ha tM (Gw _);obtain ⟨G1,D,ac,ar⟩:=w1.frz J (Nat.le_refl _) (fun q Y=>E.st.none Y);have O:=E.trans D;obtain ⟨v2,ae,e2,I,aa⟩:=Ajd (h:=h1) ar;rw [aa] at e2;obtain ⟨v3,U,e3,w3,z⟩:=Yx O.st (hc.mono ac) tM (Ks _);obtain ⟨v4,af,e4,oc,ab⟩:=Axw z.st w3 (fun q Y=>O.st.none Y);rw [ab] at e4;have Z:U.m.get h.nx=_:=z.gt O.st.1 (J.gt E.st.1 (i:=h.nx) (b:=cQ [iQ vQ nd.kind,sQ nd.tag,a,sQ nd.text,iQ wQ 0,iQ wQ 0,bQ false,iQ uQ (Ba nd.par).ix,iQ uQ (Ba nd.par).gen,c] 55) gL (fun h=>h)) (fun h=>h);have g1:U.m.get (h.nx+1)=_:=z.gt O.st.1 (J.gt E.st.1 (i:=h.nx+1) (b:=cQ [iQ vQ 0,sQ [],(():AV),sQ [],iQ wQ 0,iQ wQ 0,bQ false,iQ uQ 0,iQ uQ 0,(():AV)] 55) gL (fun h=>h)) (fun h=>h);have l1:=J.nx;simp only [Ac,Ai] at l1;have r2:h1.read h.nx 9 1=some [c]:=(Ab (J.gt E.st.1 (i:=h.nx) (b:=cQ [iQ vQ nd.kind,sQ nd.tag,a,sQ nd.text,iQ wQ 0,iQ wQ 0,bQ false,iQ uQ (Ba nd.par).ix,iQ uQ (Ba nd.par).gen,c] 55) gL (fun h=>h))).trans rfl;have o3:=I.one;have o4:=oc.one;simp only [seval,go_sem,o1,o2,e1,e2,e3,e4,r2,Z,g1,o3,o4];have l2:=z.nx;have lx:(((h.new (cQ [iQ vQ nd.kind,sQ nd.tag,a,sQ nd.text,iQ wQ 0,iQ wQ 0,bQ false,iQ uQ (Ba nd.par).ix,iQ uQ (Ba nd.par).gen,c] 55)).new (cQ [iQ vQ 0,sQ [],(():AV),sQ [],iQ wQ 0,iQ wQ 0,bQ false,iQ uQ 0,iQ uQ 0,(():AV)] 55)).up 12).nx=h.nx+14:=rfl
 have n0:G1 h.nx=none:=(D.old _ tM).trans (s.none (Nat.le_refl _));have n1:G1 (h.nx+1)=none:=(D.old _ tM).trans (s.none tM);have p4:∀ {B1 B2 B3},Stp (fun i=>i=h.nx∨i=h.nx+1) U G1 (((U.at h.nx B1).at h.nx B2).at (h.nx+1) B3) G1:=fun {B1 B2 B3}=>(((Stp.refl z.st).at (Or.inr (Or.inl rfl)) (Ah z.st.1 Z) n0).at (Or.inr (Or.inl rfl)) (by simp only [Ag];exact Ah z.st.1 Z) n0).at (Or.inr (Or.inr rfl)) (by simp only [Ag];exact Ah z.st.1 g1) n1;refine ⟨G1,v2,v4,rfl,(O.trans z).in p4 (fun i hi hw=>by rcases hw with rfl | rfl <;> omega),I,?_⟩;exact (oc.mv p4 z.st.1 (fun q Y hw=>by rcases hw with rfl | rfl <;> omega)).lo tM
theorem look {nd:Nd} (D:Dm h G d m sl b L) (a:Ad sl k p) (hm:m k=some nd):Ans ctx 10 [jQ d 0,hdA k] h fun v h'=>∃ G' a c,v=.tup [gQ [iQ vQ nd.kind,sQ nd.tag,a,sQ nd.text,iQ wQ 0,iQ wQ 0,bQ false,iQ uQ (Ba nd.par).ix,iQ uQ (Ba nd.par).gen,c],iQ wQ 0] ∧
  Stp (fun _=>False) h G h' G'∧Arr G' 2 a nd.attrs.length (Ax nd.attrs)∧Ja h' G' h.nx 50 2 c nd.ch.length (hdC nd.ch):=by
 refine aO Tryz.f10 ?_;simp only [Tryz.f10];simp only [seval,go_sem];have pa:∀ {B1 B2 B3},Gro h G (((h.new B1).new B2).new B3):=(Stp.refl D.s).new.new.new;have pf:=(pa (B1:=cQ [iQ uQ k.ix,iQ uQ k.gen] 50) (B2:=cQ [iQ vQ 0,sQ [],(():AV),sQ [],iQ wQ 0,iQ wQ 0,bQ false,iQ uQ 0,iQ uQ 0,(():AV)] 55) (B3:=cQ [iQ uQ k.ix,iQ uQ k.gen] 50)).frz (i:=h.nx+2) (b:=cQ (hdC [k]) 50) tM (by simp (disch:=first | omega | (simp only [Ac,Ag,Ai] <;> omega) | fail) only [Bh,Ca,Cd,Bb,Az];rfl);have ar:Arr (G.add (h.nx+2) (cQ (hdC [k]) 50)) 2 (.sl (h.nx+2) 0 1 1) [k].length (hdC [k]):=Or.inr ⟨h.nx+2,0,Or.inl ⟨1,Nat.le_refl _,rfl⟩,by rw [Fz.rd_b Fz.add_at];rfl⟩;refine Ae (e41 rfl) fun v h1 ⟨z,q2⟩=>?_;subst z q2;have Y:=pf.new (b:=cQ [jQ d 0] 46) |>.new (b:=cQ [.sl (h.nx+2) 0 1 1] 53)
 simp only [seval,go_sem];refine Ae (Aaz (D.gro Y) ?_ ?_ ar (by simp) (fun k' hk=>?_)) fun v h2 ⟨z,p2⟩=>?_
 ·(simp (disch:=first | omega | (simp only [Ac,Ag,Ai] <;> omega) | fail) only [Bc,Qv,Qw,Ck,Je,Ib];rfl)
 ·(simp (disch:=first | omega | (simp only [Ac,Ag,Ai] <;> omega) | fail) only [Bc,Qv,Qw,Ck,Je,Ib];rfl)
 ·rw [List.mem_singleton] at hk;subst hk;exact ⟨p,a⟩
 subst z;have p3:=Y.trans p2;have gk:h2.m.get h.nx=some (k:Blk):=p2.gt Y.st.1 gL (fun h=>h);have gz:h2.m.get (h.nx+1)=some (cQ [iQ vQ 0,sQ [],(():AV),sQ [],iQ wQ 0,iQ wQ 0,bQ false,iQ uQ 0,iQ uQ 0,(():AV)] 55):=p2.gt Y.st.1 gL (fun h=>h);have rk:h2.read h.nx 0 2=some [iQ uQ k.ix,iQ uQ k.gen]:=(Ab gk).trans rfl;simp only [seval,go_sem,rk];have I:=D.gro p3;refine Ae (Ie I a) fun v h3 ⟨z,Z⟩=>?_;subst z;have J:=I.gro Z;obtain ⟨nd',vc,U,n2,n3,_⟩:=J.nodes k p a;rw [hm] at U;cases U;have hl:=J.nd k nd hm;have ab:=J.le;have aa:vc.length=10:=by obtain ⟨_,_,rfl,_⟩:=n3;rfl
 have rp:h3.read p 0 10=some vc:=(Ab n2).trans (by rw [Ib,← aa];exact Aj);simp only [seval,go_sem,rp];refine Ae (own42 J.s n3 hl.1 tM) fun v h4 ⟨G5,av,cv,z,E,ax,oc⟩=>?_;subst z;have O:=E.gt J.s.1 (Z.gt I.s.1 gz (fun h=>h)) (fun h=>h);have o1:=ax.one;have o2:=oc.one;have l3:=p3.nx;have l4:=Z.nx;simp only [seval,go_sem,O,o1,o2];have U:G5 (h.nx+1)=none:=by
  have lx:=Ah I.s.1 gz;rw [E.old _ tM,show (G.add (h.nx+2) (cQ (hdC [k]) 50)) (h.nx+1)=G (h.nx+1) from Fz.add_ne tM];exact D.s.none tM
 have p6:∀ {B},Stp (fun i=>i=h.nx+1) h4 G5 (h4.at (h.nx+1) B) G5:=fun {B}=>(Stp.refl E.st).at (Or.inr rfl) (Ah E.st.1 O) U;have lz:=Ah I.s.1 gz;refine ⟨G5,av,cv,rfl,((p3.trans Z).trans E).in p6 (fun i hi hw=>by omega),ax,?_⟩;exact (oc.mv p6 E.st.1 (fun q hq hw=>by omega)).lo tM
end
open D (Hd Nd HT)
theorem A7:∀ {a b:List AV},Af (a++b)=(Af a && Af b)
 | [],b=>rfl
 | x::a,b=>by rw [List.cons_append,Af,Af,A7,Bool.and_assoc]
theorem RTs.one {G:Fz}:∀ {l:List T} {cs:List AV},RTs G l cs→Af cs=true
 | [],cs,h=>by rw [show cs=[] from h];rfl
 | t::l,cs,⟨x,r,h1,h2,h3⟩=>by rw [h1,A7,h2.one,RTs.one h3];rfl
section
variable {h h':H} {G G':Fz} {d b L p:Nat} {m:D.M} {sl:List Sl} {k:Hd}
def Ayt (d:Nat) (m:D.M) (sl:List Sl) (b L:Nat) (ht:HT) (t:T):Prop:=∀ {h:H} {G:Fz} {par:Option Hd} {lv:Nat},Dm h G d m sl b L→D.R m par ht t→okT t=true→dep t≤lv→lv≤10 →
 Ans ctx 83 [jQ d 0,hdA ht.x,iQ wQ lv] h fun v h'=>∃ G' x',v=gQ x'∧Stp (fun _=>False) h G h' G'∧RT G' (cpT false t) x'
theorem tr_step {x:Hd} {hs:List HT} {kd:Nat} {tg ky tx:List UInt8} {al:List (List UInt8 × List UInt8)} {ch:List T} (ih:∀ j (hj:j < ch.length) (aJ:j < hs.length),Ayt d m sl b L hs[j] ch[j]):Ayt d m sl b L (.nd x hs) (.nd kd tg ky tx al ch):=by
 intro h G aN lv D r ok hd aK;obtain ⟨hx,ai⟩:=r;have ac:=On ok;have aL:ch.length≤16:=Mx ac.1;have n8:al.length≤8:=Y4 ac.1;have ah:=ai.len;rw [dep] at hd;obtain ⟨p,a⟩:=D.all x (by rw [hx];exact Option.some_ne_none _);refine aO Tryz.f83 ?_;simp only [Tryz.f83];have p0:Gro h G ((h.new x).new (cQ Aw 36)):=(Stp.refl D.s).new.new;simp only [seval,go_sem];refine Ae (Ie (D.gro p0) a) fun v z ⟨q1,p1⟩=>?_;subst q1;have p2:=p0.trans p1;obtain ⟨nd,vc,m1,m2,⟨av,cv,rfl,ha,hc⟩,gp,_⟩:=(D.gro p2).nodes x p a;rw [hx] at m1;cases m1;rw [List.length_map] at hc;have r0:z.read p 0 1=some [iQ vQ kd]:=(Ab m2).trans rfl;have r1:z.read p 1 1=some [sQ tg]:=(Ab m2).trans rfl;have r2:z.read p 2 1=some [av]:=(Ab m2).trans rfl;have r3:z.read p 3 1=some [sQ tx]:=(Ab m2).trans rfl;have r9:z.read p 9 1=some [cv]:=(Ab m2).trans rfl;have o1:=ha.one;have cl:((lv:Int)=0)=False:=eq_false tM;have lp:=Ah p2.st.1 m2;have cn:decide ((16:Int) < (hs.length:Int))=false:=decide_eq_false tM;have am:=hc.len;have pz:(p=z.nx+21)=False:=eq_false tM;simp only [seval,go_sem,r0,r1,r2,r3,r9,o1,cl,am,cn,pz];have p3:∀ {B1 B2},Gro h G (((z.up 23).at (z.nx+21) B1).at (z.nx+21) B2):=fun {B1 B2}=>(p2.up.at (Or.inl (by have:=p2.nx;omega)) (by simp only [Ai];omega) (D.s.none (by have:=p2.nx;omega))).at (Or.inl (by have:=p2.nx;omega)) (by simp only [Ai,Ag];omega) (D.s.none (by have:=p2.nx;omega));have lh:=p1.nx;simp only [Ac] at lh;have gz:z.m.get (h.nx+1)=some (cQ Aw 36):=p1.gt p0.st.1 gL (fun h=>h);refine Ao (fun i e h'=>(∃ G' v dn,Stp (fun _=>False) h G h' G'∧RTs G' (cpTs false (ch.take i)) dn∧Own h' (z.nx+22) 36 6 v i dn∧(∀ q,VB v q∨v=.sl q 0 0 0→G' q=none)∧G' (z.nx+21)=none∧G' (h.nx+1)=none∧z.nx+23≤h'.nx ∧
   h'.m.get (z.nx+21)=some (cQ [iQ vQ kd,sQ tg,sQ [],av,sQ tx,v] 36)∧h'.m.get (h.nx+1)=some (cQ Aw 36)) ∧
   i≤ch.length∧e.get 0=some (jQ d 0)∧e.get 2=some (iQ wQ lv)∧e.get 6=some (jQ (h.nx+1) 0)∧e.get 8=some (jQ (z.nx+21) 0)∧e.get 51=some cv∧e.get 52=some (iQ wQ ch.length)∧e.get 53=some (iQ wQ i)) (fun i=>ch.length - i) 0 ?_ ?_
 ·refine ⟨⟨G,(():AV),[],p3,rfl,Or.inl ⟨rfl,rfl,rfl⟩,(fun q U=>by rcases U with ⟨_,e⟩ | e <;> cases e),D.s.none tM,D.s.none tM,by simp only [Ag,Ai];omega,Ap,?_⟩,Nat.zero_le _,by simp [Tr.get_set,ah]⟩;rw [An tM,An tM];exact gz
 clear r0 r1 r2 r3 r9 cl cn pz;rintro i e I ⟨⟨G',v,dn,p,rs,ow,vb,n0,n1,lx,g0,g1⟩,hi,e0,e2,e6,e8,e51,Z,e53⟩ az;simp only [seval,go_sem,e0,e2,e6,e8,e51,Z,e53];refine Cr (fun E=>?_) (fun E=>?_)
 ·have E:i < ch.length:=by simpa using E
  have w:=wI i;have w2:IntKind.i64.wrap ((lv:Int) - 1)=((lv - 1:Nat):Int):=by rw [show (lv:Int) - 1=((lv - 1:Nat):Int) by omega];exact Bz tM
  have aa:i < hs.length:=tM;obtain ⟨hh,ag,an⟩:=ai.get (List.getElem?_eq_getElem E);have ao:hs[i]=hh:=by rw [List.getElem?_eq_getElem aa] at ag;exact Option.some.inj ag
  have ak:=hc.mono (p.le D.s);have af:(hs.map HT.x).length=hs.length:=List.length_map ..;obtain ⟨hb,ho,g2,g3⟩:=Arr.hd p.st (l:=hs.map HT.x) (af.symm ▸ ak) (j:=i) (by rw [af];exact aa);rw [List.getElem_map] at g3;have x0:Ayt d m sl b L hs[i] ch[i]:=ih i E aa;rw [ao] at x0 g3;have q1:Gro I G' (((I.new (cQ [iQ uQ 0,iQ uQ 0] 50)).at I.nx (cQ [iQ uQ hh.x.ix,iQ uQ hh.x.gen] 50)).up 11):=(((Stp.refl p.st).new).at (Or.inl (Nat.le_refl _)) (by simp only [Ac];omega) (p.st.none (Nat.le_refl _))).up;have dc:dep ch[i]≤lv - 1:=by have:=Jw (List.getElem_mem E);omega
  obtain ⟨_,h3,c1,G3,x1,rfl,p3,rt⟩:=x0 (D.gro (p.trans q1)) an (Jp ac.2 (List.getElem_mem E)) dc tM;have ay:=p3.nx;simp only [Ac,Ag,Ai] at ay;have x6:=rt.len;have xo:=rt.one;have J:=q1.trans p3;have n8:G3 (I.nx+8)=none:=(p3.old _ (by simp only [Ac,Ag,Ai];omega)).trans (p.st.none tM);have q2:Stp (fun _=>False) I G' (h3.at (I.nx+8) (cQ x1 36)) G3:=J.at (Or.inl tM) tM n8;have s0:=J.gt p.st.1 g0 (fun h=>h);have s1:=J.gt p.st.1 g1 (fun h=>h);have aD:=rs.len;rw [Ee,List.length_take,Nat.min_eq_left tM] at aD;have ae:Own (h3.at (I.nx+8) (cQ x1 36)) (z.nx+22) 36 6 v i dn:=ow.mv q2 p.st.1 (fun _ _ h=>h);have aI:∀ q,VB v q→G3 q=none:=fun q U=>by
   rcases ow with ⟨rfl,_⟩ | ⟨q',_,rfl,_⟩ | ⟨q',_,rfl,hb,_⟩
   ·obtain ⟨_,e⟩:=U;cases e
   ·obtain ⟨_,e⟩:=U;cases e
   ·have aq:=U;obtain ⟨_,e⟩:=aq;cases e;exact (J.old _ (Ah p.st.1 hb)).trans (vb _ (Or.inl U))
  have aj:=rs.one;obtain ⟨v',h5,c2,Y,aM,O,ar⟩:=Di (C:=ctx) (k:=0) (new:=x1) ae tM (Be (by rw [by36];omega) tM) (by rw [A7,aj,xo];rfl) tM (by simp only [Ag];omega) q2.st aI;have ab:∀ j,VB v j→z.nx+22≤j:=fun j hj=>ae.vb hj;have t0:=O.gt q2.st.1 ((An (b:=cQ x1 36) (i:=I.nx+8) tM).trans s0) (fun hh=>by have:=ab _ hh;omega);have t1:=O.gt q2.st.1 ((An (b:=cQ x1 36) (i:=I.nx+8) tM).trans s1) (fun hh=>by have:=ab _ hh;omega);have aF:I.read (z.nx+21) 5 1=some [v]:=(Ab g0).trans rfl;have aG:h3.read (z.nx+21) 5 1=some [v]:=(Ab s0).trans rfl;have aH:h5.read (z.nx+21) 5 1=some [v]:=(Ab t0).trans rfl;have a0:z.nx+21 < I.nx:=tM;have a6:(z.nx+21=I.nx)=False:=eq_false tM;have a7:(z.nx+21=I.nx+8)=False:=eq_false tM;have a8:(I.nx=I.nx+8)=False:=eq_false tM;have aA:(I.nx=z.nx+21)=False:=eq_false tM;have aE:h3.read I.nx 0 2=some [iQ uQ hh.x.ix,iQ uQ hh.x.gen]:=(Ab (p3.gt q1.st.1 (i:=I.nx) (b:=cQ [iQ uQ hh.x.ix,iQ uQ hh.x.gen] 50) gL (fun h=>h))).trans rfl;have au:Aq 0 6 x1=some x1:=by rw [← x6];exact Aj
  have aC:=ae.len;have ov:Cl Aw x1=some x1:=by
   have:=Bd [] Aw [] x1 (by rw [x6];rfl);rw [List.append_nil,List.append_nil] at this;exact this
  have aB:=Y.one;simp only [seval,go_sem,e0,e2,e6,e8,e51,Z,e53,g2,p.st.read g3,w,w2,c1,aF,aG,aH,aE,a0,a6,a7,a8,aA,ov,c2,x6,xo,au,aC,aB,t0];have aw:=J.le p.st;have q5:Stp (fun i=>i=z.nx+21) h5 G3 (h5.at (z.nx+21) (cQ [iQ vQ kd,sQ tg,sQ [],av,sQ tx,v'] 36)) G3:=(Stp.refl O.st).at (Or.inr rfl) (Ah O.st.1 t0) ((J.old _ (Ah p.st.1 g0)).trans n0);have px:=(p.trans q2).in O (fun j hj hw=>by have:=ab j hw;omega);refine az (i+1) _ _ tM ⟨⟨G3,v',dn++x1,px.in q5 (fun j hj hw=>by omega),?_,Y.mv q5 O.st.1 (fun j hj hw=>by omega),fun q U=>?_,(J.old _ (Ah p.st.1 g0)).trans n0,(J.old _ (Ah p.st.1 g1)).trans n1,by have:=O.nx;simp only [Ag] at this ⊢;omega,Ap,(An tM).trans t1⟩,E,by simp [Tr.get_set,e0,e2,e6,e8,e51,Z]⟩
  ·rw [List.take_succ_eq_append_getElem E,Jz,List.map_append,← Jz];exact (rs.mono aw).app rt
  ·rw [ar] at U;rcases U with ⟨_,e⟩ | e
   ·cases e;exact q2.st.none (Nat.le_refl _)
   ·cases e
 ·have E:ch.length≤i:=by simpa using E
  have ap:i=ch.length:=tM;subst ap;have rr:I.read (z.nx+21) 0 6=some [iQ vQ kd,sQ tg,sQ [],av,sQ tx,v]:=(Ab g0).trans rfl;have ov:=ow.one;simp only [seval,go_sem,e0,e2,e6,e8,rr,g1,ov,o1];have q5:∀ {B},Stp (fun i=>i=h.nx+1) I G' (I.at (h.nx+1) B) G':=fun {B}=>(Stp.refl p.st).at (Or.inr rfl) (Ah p.st.1 g1) n1;have Y:=ow.mv (q5 (B:=cQ [iQ vQ kd,sQ tg,sQ [],av,sQ tx,v] 36)) p.st.1 (fun j hj hw=>by omega);obtain ⟨G2,pz,lz,ax⟩:=Y.frz2 (p.in q5 (fun j hj hw=>by omega)) tM vb;refine ⟨G2,_,rfl,pz,?_⟩;rw [List.take_length] at rs;rw [cpT];exact ⟨av,v,dn,rfl,(ha.mono ((p.le D.s).trans lz)),by rw [Ee];exact ax,rs.mono lz⟩
mutual
theorem Aqy:∀ (t:T) (ht:HT),Ayt d m sl b L ht t
 | .nd kd tg ky tx al ch,.nd x hs=>tr_step fun j hj hj2=>tr_alls ch j hj hs[j]
theorem tr_alls:∀ (l:List T) (j:Nat) (hj:j < l.length) (ht:HT),Ayt d m sl b L ht l[j]
 | t::l,0,_,ht=>Aqy t ht
 | t::l,j+1,hj,ht=>tr_alls l j (by simpa using hj) ht
end
end
theorem Gd {x:List AV} (h:x.length=6):Cl Aw x=some x:=by
 have:=Bd [] Aw [] x (by rw [h];rfl);rw [List.append_nil,List.append_nil] at this;exact this
theorem cpT_cp:∀ (k:Bool) (t:T),cpT true t=t:=fun _=>Axt
section
variable {h h':H} {G G':Fz} {d b L p:Nat} {m:D.M} {sl:List Sl} {k:Hd}
theorem tree31 {U:HT} {t:T} {ac:Option Hd} (D:Dm h G d m sl b L) (r:V.D.R m ac U t) (ok:A8 t):Ans ctx 31 [jQ d 0,hdA U.x] h fun v h'=>∃ G' x',v=.tup [gQ x',iQ wQ 0]∧Stp (fun _=>False) h G h' G'∧RT G' (cpT false t) x':=by
 obtain ⟨p,a⟩:=D.all U.x (by rw [r.x.1];exact Option.some_ne_none _);generalize hk:U.x=k at a;refine aO Tryz.f31 ?_;simp only [Tryz.f31];simp only [seval,go_sem];have pa:∀ {B1 B2 B3},Gro h G (((h.new B1).new B2).new B3):=(Stp.refl D.s).new.new.new;have pf:=(pa (B1:=cQ [iQ uQ k.ix,iQ uQ k.gen] 50) (B2:=cQ Aw 36) (B3:=cQ [iQ uQ k.ix,iQ uQ k.gen] 50)).frz (i:=h.nx+2) (b:=cQ (hdC [k]) 50) tM (by simp (disch:=first | omega | (simp only [Ac,Ag,Ai] <;> omega) | fail) only [Bh,Ca,Cd,Bb,Az];rfl);have ar:Arr (G.add (h.nx+2) (cQ (hdC [k]) 50)) 2 (.sl (h.nx+2) 0 1 1) [k].length (hdC [k]):=Or.inr ⟨h.nx+2,0,Or.inl ⟨1,Nat.le_refl _,rfl⟩,by rw [Fz.rd_b Fz.add_at];rfl⟩;have pn:(G.add (h.nx+2) (cQ (hdC [k]) 50)) (h.nx+1)=none:=(Fz.add_ne tM).trans (D.s.none tM);refine Ae (e41 rfl) fun v h1 ⟨E,q2⟩=>?_;subst E q2;have p1:=pf.new (b:=cQ [jQ d 0] 46) |>.new (b:=cQ [.sl (h.nx+2) 0 1 1] 53)
 simp only [seval,go_sem];refine Ae (Aaz (D.gro p1) ?_ ?_ ar (by simp) (fun k' hk=>?_)) fun v h2 ⟨E,p2⟩=>?_
 ·(simp (disch:=first | omega | (simp only [Ac,Ag,Ai] <;> omega) | fail) only [Bc,Qv,Qw,Ck,Je,Ib];rfl)
 ·(simp (disch:=first | omega | (simp only [Ac,Ag,Ai] <;> omega) | fail) only [Bc,Qv,Qw,Ck,Je,Ib];rfl)
 ·rw [List.mem_singleton] at hk;subst hk;exact ⟨p,a⟩
 subst E;have p3:=p1.trans p2;have gk:h2.m.get h.nx=some (k:Blk):=p2.gt p1.st.1 gL (fun h=>h);have gz:h2.m.get (h.nx+1)=some (cQ Aw 36):=p2.gt p1.st.1 gL (fun h=>h);have rk:h2.read h.nx 0 2=some [iQ uQ k.ix,iQ uQ k.gen]:=(Ab gk).trans rfl;simp only [seval,go_sem,rk];have lz:=Ah p3.st.1 gz;rw [← hk];refine Ae (Aqy t U (D.gro p3) r ok.1 ok.2.1 tM (lv:=6)) fun v O ⟨G3,x3,E,p4,rt⟩=>?_;subst E;have x6:=rt.len;have x1:=rt.one;have ov:=Gd x6;have Y:Aq 0 6 x3=some x3:=by rw [← x6];exact Aj
 have p5:Gro O G3 ((O.new (cQ Aw 36)).at O.nx (cQ x3 36)):=((Stp.refl p4.st).new).at (Or.inl (Nat.le_refl _)) (by simp only [Ac];omega) (p4.st.none (Nat.le_refl _));simp only [seval,go_sem,x6,x1,ov,Y];have Z:=ok.cp;refine Ae (Hl p5.st rt) fun v h4 ⟨E,p6⟩=>?_;subst E;have hc:=Gv Z;have r4:h4.read O.nx 0 6=some x3:=(Ab (p6.gt p5.st.1 (i:=O.nx) (b:=cQ x3 36) gL (fun h=>h))).trans Y;simp only [seval,go_sem,hc,r4];refine Ae (copy p6.st rt Z) fun v h5 ⟨G5,x5,E,p7,I⟩=>?_;subst E;have y6:=I.len;have y1:=I.one;have ab:=Gd y6;have aa:Aq 0 6 x5=some x5:=by rw [← y6];exact Aj
 have z:=p4.trans (p5.trans (p6.trans p7));have J:=z.gt p3.st.1 gz (fun h=>h);simp only [seval,go_sem,y6,y1,ab,aa,J];rw [Axt] at I;exact ⟨G5,x5,rfl,(p3.trans z).at (Or.inl tM) (Ah z.st.1 J) ((z.old _ lz).trans pn),I⟩
theorem is12 {ht:HT} {t:T} {ab:Option Hd} {x:List AV} (D:Dm h G d m sl b L) (r:V.D.R m ab ht t) (ok:A8 t) (rt:RT G t x):Ans ctx 12 [jQ d 0,hdA ht.x,gQ x] h fun v h'=>v=.tup [bQ true,iQ wQ 0]∧Gro h G h':=by
 generalize hk:ht.x=k;refine aO Tryz.f12 ?_;simp only [Tryz.f12];have x6:=rt.len;have x1:=rt.one;have I:Aq 0 6 x=some x:=by rw [← x6];exact Aj
 have Z:Gro h G ((h.new k).new (cQ x 36)):=(Stp.refl D.s).new.new;simp only [seval,go_sem];rw [← hk];rw [← hk] at Z;refine Ae (tree31 (D.gro Z) r ok) fun v z ⟨G1,x2,q1,E,Y⟩=>?_;subst q1;have y6:=Y.len;have y1:=Y.one;have aa:=Gd y6;have J:Aq 0 6 x2=some x2:=by rw [← y6];exact Aj
 have g1:z.m.get (h.nx+1)=some (cQ x 36):=E.gt Z.st.1 gL (fun h=>h);have lz:=Ah E.st.1 g1;have p2:Gro z G1 ((z.new (cQ Aw 36)).at z.nx (cQ x2 36)):=((Stp.refl E.st).new).at (Or.inl (Nat.le_refl _)) (by simp only [Ac];omega) (E.st.none (Nat.le_refl _));have r1:((z.new (cQ Aw 36)).at z.nx (cQ x2 36)).read (h.nx+1) 0 6=some x:=(Ab (p2.gt E.st.1 g1 fun h=>h)).trans I;simp only [seval,go_sem,y6,y1,aa,r1];refine Ae (Hl p2.st (rt.mono (E.le Z.st))) fun v h2 ⟨q1,p3⟩=>?_;subst q1;have hc:=Gv ok;have O:=p2.trans p3;have r2:h2.read (h.nx+1) 0 6=some x:=(Ab (O.gt E.st.1 g1 fun h=>h)).trans I;have u1:=p3.gt p2.st.1 (i:=z.nx) (b:=cQ x2 36) Ap (fun h=>h);have u2:=O.gt E.st.1 g1 (fun h=>h);have r3:h2.read z.nx 0 6=some x2:=(Ab u1).trans J;have p4:=O.up (n:=10);obtain ⟨_,h3,e1,G3,x3,rfl,U,ac⟩:=strip p4.st (rt.mono (E.le Z.st)) ok;obtain ⟨_,h4,e2,rfl,p6⟩:=same U.st (Y.mono (U.le p4.st)) ac ok.cp;have p7:=p4.trans (U.trans p6);have u3:=U.gt p4.st.1 (i:=z.nx) (b:=cQ x2 36) u1 (fun h=>h);have u4:=U.gt p4.st.1 (i:=h.nx+1) (b:=cQ x 36) u2 (fun h=>h);have r4:h3.read z.nx 0 6=some x2:=(Ab u3).trans J;have r5:h3.read (h.nx+1) 0 6=some x:=(Ab u4).trans I;have r6:h4.read z.nx 0 6=some x2:=(Ab (p6.gt U.st.1 u3 (fun h=>h))).trans J;have r7:h4.read (h.nx+1) 0 6=some x:=(Ab (p6.gt U.st.1 u4 (fun h=>h))).trans I;simp only [seval,go_sem,hc,r2,r3,e1,e2,r4,r5,r6,r7];exact ((Z.trans E).trans p7).less D.s
end
open D (Hd Nd HT Als Str)
section
variable {h h':H} {G G':Fz} {q2 q3 q8 q9 lo:Nat}
def okA (l:Als):Prop:=Bm none l=true∧l.length≤8
theorem okA_v {l:Als} (h:okA l):A8 (.nd 1 [97] [] [] l []):=by
 refine ⟨?_,by show 1+deps []≤6;simp [deps],by show 1+sizs []≤64;simp [sizs]⟩;rw [okT,Bool.and_eq_true];refine ⟨?_,rfl⟩;show Cz 1 [97] [] [] l []=true;unfold Cz;rw [h.1,decide_eq_true h.2]
 decide
theorem Mv {v:AV} {l:Als} (s:St h G) (a:Arr G 2 v l.length (Ax l)) (E:okA l):Ans ctx 189 [v] h fun x h'=>x=iQ wQ 0∧Gro h G h':=by
 refine aO Tryz.f189 ?_;simp only [Tryz.f189];have D:=a.one;have r:RT G (.nd 1 [97] [] [] l []) [iQ vQ 1,sQ [97],sQ [],v,sQ [],(():AV)]:=⟨_,_,[],rfl,a,Or.inl ⟨rfl,rfl,rfl⟩,rfl⟩;have z:=Gv (okA_v E);simp only [seval,go_sem,D];refine Ae (Hl s r) fun v O ⟨J,I⟩=>?_;subst J;simp only [seval,go_sem,z];exact I
def cmpI (a b:Str):Int:=if Op.bytesLess a b=true then -1 else if a=b then 0 else 1
theorem Ajc {a b:Str}:FW ctx 215 [sQ a,sQ b] h=some (iQ wQ (cmpI a b),h):=by
 have z:∀ {c:Str} {h:H},FW ctx 229 [sQ c] h=some (bQ false,h):=fun {c h}=>by
  refine Aet (Iz (fn:=Tryz.f229) rfl kR rfl tR ?_);simp only [Tryz.f229];simp only [seval,go_sem,decide_true,Bool.not_true]
 refine Aet (Iz (fn:=Tryz.f215) rfl kR rfl tR ?_);simp only [Tryz.f215];unfold cmpI;cases h1:Op.bytesLess a b with
 | true=>simp only [seval,go_sem,z,h1]
 | false =>
  by_cases h2:a=b
  ·subst h2;simp only [seval,go_sem,z,h1,beq_self_eq_true]
  ·have D:(a==b)=false:=by simpa using h2
   simp only [seval,go_sem,z,h1,h2,D]
structure Edt where
 n:Str
 drop:Bool
 v:Str
abbrev edC (x:Edt):List AV:=[sQ x.n,bQ x.drop,sQ x.v]
structure ApB (h:H) (G:Fz) (q2 q3 q8 q9 lo:Nat) (al:Als) (x:Edt) (o:Als) (v:AV):Prop where
 s:St h G
 ob:OB h G q8 lo 33 112 2 o.length (Ax o) v
 l:∃ lv,h.read q2 0 1=some [lv]∧Arr G 2 lv al.length (Ax al)
 e:∃ ev,h.read q3 0 1=some [ev]∧Db ev=some 1∧∃ b p,ixA 3 0 ev=some (jQ b p)∧G.read b p 3=some (edC x)
 ne:q2≠q8∧q3≠q8∧q2 < lo∧q3 < lo
 n:o.length≤100
theorem ApB.mv {al:Als} {x:Edt} {o o':Als} {v D:AV} (A:ApB h G q2 q3 q8 q9 lo al x o v) (p:Stp (OW q8 lo) h G h' G) (Y:OB h' G q8 lo 33 112 2 o'.length (Ax o') D) (J:o'.length≤100):ApB h' G q2 q3 q8 q9 lo al x o' D:=by
 obtain ⟨lv,O,U⟩:=A.l;obtain ⟨ev,E,I⟩:=A.e;have ne:=A.ne;refine ⟨p.st,Y,⟨lv,p.rs A.s.1 O (fun z=>by rcases z with z | z <;> omega),U⟩,⟨ev,p.rs A.s.1 E (fun z=>by rcases z with z | z <;> omega),I⟩,ne,J⟩
theorem L7:∀ a b:Als,Ax (a++b)=Ax a++Ax b
 | [],b=>rfl
 | (x,y)::a,b=>by rw [List.cons_append,Ax,Ax,L7 a b];rfl
theorem e193a {al o:Als} {x:Edt} {v:AV} {i:Nat} (A:ApB h G q2 q3 q8 q9 lo al x o v) (hi:i < al.length) (hn:o.length < 100) :
  Ans ctx 193 [iQ wQ i,iQ wQ (-1),jQ q8 0,jQ q2 0,jQ q3 0,jQ q9 0] h fun _ h'=>Stp (OW q8 lo) h G h' G∧∃ z,ApB h' G q2 q3 q8 q9 lo al x (o++[al[i]]) z:=by
 refine aO Tryz.f193 ?_;simp only [Tryz.f193];obtain ⟨lv,l1,l2⟩:=A.l;obtain ⟨b,p,g1,Y⟩:=l2.attr A.s hi;have aa:=A.ob.le;have ac:=A.ob.lt;have r1:=A.ob.rd;have J:=A.ob.o.len;generalize hx:al[i]=ab at Y;obtain ⟨ka,D⟩:=ab;have O:Gro h G ((h.up 8).at (h.nx+5) (cQ [sQ ka,sQ D] 112)):=((Stp.refl A.s).up).at (Or.inl tM) (by simp only [Ai];omega) (A.s.none tM);have E:=A.ob.mv O A.s.1 (fun _ h=>h.elim);obtain ⟨z,h5,c2,o5,g5,l5,af,U,I⟩:=E.app (C:=ctx) (k:=0) (new:=[sQ ka,sQ D]) O.st tM (Be (by rw [Ajg];omega) tM) (by rw [A7,Gw];rfl) rfl;have ae:=A.ne;have c1:decide ((-1:Int) < 0)=true:=rfl;simp only [seval,go_sem,c1,r1,l1,g1,A.s.read Y,J,c2,g5,o5];have Z:Stp (OW q8 lo) h G (h5.at q8 (cQ [z] 33)) G:=(O.mono fun _ h=>h.elim).in U (fun _ _ h=>h);have hl:(o++[(ka,D)]).length=o.length+1:=by simp
 refine ⟨Z,z,A.mv Z (by rw [hl,L7];exact I) tM⟩
theorem Axl {al o:Als} {x:Edt} {v:AV} {i:Int} (A:ApB h G q2 q3 q8 q9 lo al x o v) (hd:x.drop=false) (hn:o.length < 100) :
  Ans ctx 193 [iQ wQ i,iQ wQ 0,jQ q8 0,jQ q2 0,jQ q3 0,jQ q9 0] h fun _ h'=>Stp (OW q8 lo) h G h' G∧∃ z,ApB h' G q2 q3 q8 q9 lo al x (o++[(x.n,x.v)]) z:=by
 refine aO Tryz.f193 ?_;simp only [Tryz.f193];obtain ⟨ev,l1,_,b,p,g1,D⟩:=A.e;have aa:=A.ob.le;have ab:=A.ob.lt;have r1:=A.ob.rd;have J:=A.ob.o.len;have O:Gro h G ((h.up 15).at (h.nx+12) (cQ [sQ x.n,sQ x.v] 112)):=((Stp.refl A.s).up).at (Or.inl tM) (by simp only [Ai];omega) (A.s.none tM);have E:=A.ob.mv O A.s.1 (fun _ h=>h.elim);obtain ⟨z,h5,c2,o5,Z,l5,ac,U,I⟩:=E.app (C:=ctx) (k:=0) (new:=[sQ x.n,sQ x.v]) O.st tM (Be (by rw [Ajg];omega) tM) (by rw [A7,Gw];rfl) rfl;have m0:h.read b p 1=some [sQ x.n]:=Fk (a:=0) (A.s.read D) rfl;have m1:=Fk (a:=1) (A.s.read D) rfl;have m2:=Fk (a:=2) (A.s.read D) rfl;rw [hd] at m1;simp only [seval,go_sem,r1,l1,g1,m0,m1,m2,J,c2,Z,o5];have Y:Stp (OW q8 lo) h G (h5.at q8 (cQ [z] 33)) G:=(O.mono fun _ h=>h.elim).in U (fun _ _ h=>h);have hl:(o++[(x.n,x.v)]).length=o.length+1:=by simp
 refine ⟨Y,z,A.mv Y (by rw [hl,L7];exact I) tM⟩
theorem e193c {al o:Als} {x:Edt} {v:AV} {i:Nat} (A:ApB h G q2 q3 q8 q9 lo al x o v) (hd:x.drop=true) :
  Ans ctx 193 [iQ wQ i,iQ wQ 0,jQ q8 0,jQ q2 0,jQ q3 0,jQ q9 0] h fun _ h'=>h' = h:=by
 refine aO Tryz.f193 ?_;simp only [Tryz.f193];obtain ⟨ev,D,_,b,p,g1,z⟩:=A.e;have m1:=Fk (a:=1) (A.s.read z) rfl;rw [hd] at m1;have c1:decide ((i:Int) < 0)=false:=decide_eq_false tM;simp only [seval,go_sem,D,g1,m1,c1];exact ⟨_,rfl⟩
theorem name191 {a b:Str}:Ans ctx 191 [gQ [sQ a,sQ b]] h fun v h'=>v=sQ a∧h' = h.new (cQ [sQ a,sQ b] 112):=by
 refine aO Tryz.f191 ?_;simp only [Tryz.f191];simp only [seval,go_sem]
theorem name192 {x:Edt}:Ans ctx 192 [gQ (edC x)] h fun v h'=>v=sQ x.n∧h' = h.new (cQ (edC x) 179):=by
 refine aO Tryz.f192 ?_;simp only [Tryz.f192];simp only [seval,go_sem]
theorem Amk {a b:Str}:FW ctx 191 [gQ [sQ a,sQ b]] h=some (sQ a,h.new (cQ [sQ a,sQ b] 112)):=by
 obtain ⟨_,_,e,rfl,rfl⟩:=name191 (h:=h) (a:=a) (b:=b);exact e
theorem Amj {x:Edt}:FW ctx 192 [gQ (edC x)] h=some (sQ x.n,h.new (cQ (edC x) 179)):=by
 obtain ⟨_,_,e,rfl,rfl⟩:=name192 (h:=h) (x:=x);exact e
def edA (x:Edt):Als→Als
 | []=>if x.drop then [] else [(x.n,x.v)]
 | (a,w)::l=>if Op.bytesLess a x.n=true then (a,w)::edA x l else if a=x.n then (if x.drop then l else (x.n,x.v)::l) else (if x.drop then (a,w)::l else (x.n,x.v)::(a,w)::l)
def Anp (x:Edt) (al:Als):Prop:=x.drop=true→x.n∈al.map (·.1)
theorem ApB.gro {al o:Als} {x:Edt} {v:AV} (A:ApB h G q2 q3 q8 q9 lo al x o v) (p:Gro h G h'):ApB h' G q2 q3 q8 q9 lo al x o v :=
 A.mv (p.mono fun _ h=>h.elim) (A.ob.mv p A.s.1 (fun _ h=>h.elim)) A.n
theorem Avw {al:Als} {x:Edt} {v0 lv ev:AV} (A:ApB h G q2 q3 q8 q9 lo al x [] v0) (hl:h.read q2 0 1=some [lv]) (he:h.read q3 0 1=some [ev]) (ho:Anp x al) (ah:D.AscA Op.bytesLess al) (h8:al.length≤8) :
  Ans ctx 190 [lv,ev,.fn (.func 191) [] [],.fn (.func 192) [] [],.fn (.func 193) [] [jQ q8 0,jQ q2 0,jQ q3 0,jQ q9 0]] h fun _ h'=>Stp (OW q8 lo) h G h' G∧∃ v,ApB h' G q2 q3 q8 q9 lo al x (edA x al) v:=by
 obtain ⟨lv',l1,la⟩:=A.l;rw [hl] at l1;cases l1;obtain ⟨ao,O,el,eb,ep,eg,er⟩:=A.e;rw [he] at O;cases O;have s:=A.s;refine aO Tryz.f190 ?_;simp only [Tryz.f190];simp only [seval,go_sem];refine Ao (fun (ik:Nat × Nat) e h'=>(∃ v o,ApB h' G q2 q3 q8 q9 lo al x o v∧o.length≤ik.1+ik.2∧(ik.2=0→o++edA x (al.drop ik.1)=edA x al∧Anp x (al.drop ik.1))∧(ik.2≠0→o++al.drop ik.1=edA x al))∧Stp (OW q8 lo) h G h' G∧ik.1≤al.length∧ik.2≤1 ∧
   e.get 0=some lv∧e.get 1=some ev∧e.get 2=some (.fn (.func 191) [] [])∧e.get 3=some (.fn (.func 192) [] [])∧e.get 4=some (.fn (.func 193) [] [jQ q8 0,jQ q2 0,jQ q3 0,jQ q9 0])∧e.get 10=some (iQ wQ ik.1)∧e.get 11=some (iQ wQ ik.2)) (fun ik=>al.length - ik.1+(1 - ik.2)) (0,0) ?_ ?_
 ·exact ⟨⟨v0,[],A,Nat.le_refl _,fun _=>⟨rfl,ho⟩,fun h=>absurd rfl h⟩,Stp.refl s,Nat.zero_le _,Nat.zero_le _,by simp [Tr.get_set]⟩
 rintro ⟨i,k⟩ e h' ⟨⟨v,o,A',hn,I,aa⟩,p,hi,hk,Y,O,Z,e3,e4,J,E⟩ lp;simp only at hn I aa hi hk J E;have ll:=la.len;have w:=wI i;have wk:=wI k;have wm:IntKind.i64.wrap 1=1:=by decide
 have step:∀ (i' k':Nat) (e':Env) (h2:H) (v2:AV) (o2:Als),al.length - i' + (1 - k') < al.length - i+(1 - k)→ApB h2 G q2 q3 q8 q9 lo al x o2 v2→o2.length≤i' + k'→(k' = 0→o2++edA x (al.drop i')=edA x al∧Anp x (al.drop i'))→(k'≠0→o2++al.drop i' = edA x al)→Stp (OW q8 lo) h G h2 G→i'≤al.length→k'≤1 →
   e'.get 0=some lv→e'.get 1=some ev→e'.get 2=some (.fn (.func 191) [] [])→e'.get 3=some (.fn (.func 192) [] [])→e'.get 4=some (.fn (.func 193) [] [jQ q8 0,jQ q2 0,jQ q3 0,jQ q9 0])→e'.get 10=some (iQ wQ i')→e'.get 11=some (iQ wQ k')→Bq ctx 70 _ ⟨e',h2⟩ _ :=
  fun i' k' e' h2 v2 o2 hr a b c d f g z y0 y1 y2 y3 y4 am an=>lp (i',k') e' h2 hr ⟨⟨v2,o2,a,b,c,d⟩,f,g,z,y0,y1,y2,y3,y4,am,an⟩
 clear lp;rcases Nat.lt_or_ge i al.length with U | U
 ·have ci:decide ((i:Int) < (al.length:Int))=true:=decide_eq_true tM;have ae:decide ((i:Int)=(al.length:Int))=false:=decide_eq_false tM;cases k with
  | succ k =>
   have:k=0:=tM;subst this;simp only [seval,go_sem,Y,O,Z,e3,e4,J,E,ll,el,ci,ae];refine Ae (e193a A' U tM) fun _ h2 ⟨p2,v2,A2⟩=>?_;simp only [seval,go_sem,Y,O,Z,e3,e4,J,E,w];have aa:=aa tM;rw [List.drop_eq_getElem_cons U] at aa;exact step (i+1) 1 _ _ v2 _ tM A2 (by simp;omega) (fun h=>by omega) (fun _=>by rw [List.append_assoc];exact aa) (p.in p2 (fun j hj hw=>hw)) U (Nat.le_refl _) (by simp [Tr.get_set,Y]) (by simp [Tr.get_set,O]) (by simp [Tr.get_set,Z]) (by simp [Tr.get_set,e3]) (by simp [Tr.get_set,e4]) (by simp [Tr.get_set]) (by simp [Tr.get_set,E])
  | zero =>
   obtain ⟨I,ac⟩:=I rfl;obtain ⟨ab,ap,g1,g2⟩:=la.attr A'.s U;have af:=List.drop_eq_getElem_cons U;have ag:(al.drop i).Pairwise fun a b=>Op.bytesLess a.1 b.1=true:=List.Pairwise.sublist (List.drop_sublist i al) ah;rw [af] at I ac ag;have aj:=List.pairwise_cons.1 ag;generalize hab:al[i]=kab at *;obtain ⟨a,b⟩:=kab;have u1:Gro h' G ((h'.up 14).new (cQ [sQ a,sQ b] 112)):=(Stp.refl A'.s).up.new;have u2:Gro h' G (((h'.up 14).new (cQ [sQ a,sQ b] 112)).new (cQ (edC x) 179)):=u1.new;simp only [seval,go_sem,Y,O,Z,e3,e4,J,E,ll,el,ci,ae,g1,A'.s.read g2,Amk,Amj,eg,A'.s.read er,u1.st.read er,u2.st.read er,u1.st.read g2,u2.st.read g2,Ajc];have A3:=A'.gro u2;have p3:=p.in u2 (fun _ _ h=>h.elim);unfold cmpI
   by_cases c1:Op.bytesLess a x.n=true
   ·simp only [seval,go_sem,c1,if_true,Y,O,Z,e3,e4,J,E];rw [edA,if_pos c1] at I;refine Ae (e193a A3 U tM) fun _ h2 ⟨p2,v2,A2⟩=>?_;simp only [seval,go_sem,Y,O,Z,e3,e4,J,E,w];rw [hab] at A2;refine step (i+1) 0 _ _ v2 _ tM A2 (by simp;omega) (fun _=>⟨by rw [List.append_assoc];exact I,fun hd=>?_⟩) (fun h=>absurd rfl h) (p3.in p2 (fun j hj hw=>hw)) U (Nat.zero_le _) (by simp [Tr.get_set,Y]) (by simp [Tr.get_set,O]) (by simp [Tr.get_set,Z]) (by simp [Tr.get_set,e3]) (by simp [Tr.get_set,e4]) (by simp [Tr.get_set,J]) (by simp [Tr.get_set,E]);rcases List.mem_cons.1 (ac hd) with hh | hh
    ·simp only at hh;rw [hh,Ep] at c1;cases c1
    ·exact hh
   ·rw [edA,if_neg c1] at I
    by_cases c2:a=x.n
    ·rw [if_pos c2] at I;simp only [seval,go_sem,if_neg c1,if_pos c2,Y,O,Z,e3,e4,J,E];cases hd:x.drop with
     | true =>
      rw [hd] at I;refine Ae (e193c A3 hd) fun _ h2 hh=>?_;subst hh;simp only [seval,go_sem,Y,O,Z,e3,e4,J,E,w,wm];exact step (i+1) 1 _ _ v _ tM A3 tM (fun h=>by omega) (fun _=>I) p3 U (Nat.le_refl _) (by simp [Tr.get_set,Y]) (by simp [Tr.get_set,O]) (by simp [Tr.get_set,Z]) (by simp [Tr.get_set,e3]) (by simp [Tr.get_set,e4]) (by simp [Tr.get_set,J]) (by simp [Tr.get_set,E])
     | false =>
      rw [hd] at I;refine Ae (Axl A3 hd tM) fun _ h2 ⟨p2,v2,A2⟩=>?_;simp only [seval,go_sem,Y,O,Z,e3,e4,J,E,w,wm];exact step (i+1) 1 _ _ v2 _ tM A2 (by simp;omega) (fun h=>by omega) (fun _=>by rw [List.append_assoc];exact I) (p3.in p2 (fun j hj hw=>hw)) U (Nat.le_refl _) (by simp [Tr.get_set,Y]) (by simp [Tr.get_set,O]) (by simp [Tr.get_set,Z]) (by simp [Tr.get_set,e3]) (by simp [Tr.get_set,e4]) (by simp [Tr.get_set,J]) (by simp [Tr.get_set,E])
    ·rw [if_neg c2] at I;simp only [seval,go_sem,c1,c2,if_true,if_false,Y,O,Z,e3,e4,J,E];have hd:x.drop=false:=by
      cases hd:x.drop with
      | false=>rfl
      | true =>
       rcases List.mem_cons.1 (ac hd) with hh | hh
       ·exact absurd hh.symm c2
       ·obtain ⟨z,hz,ak⟩:=List.mem_map.1 hh;have:=aj.1 z hz;rw [ak] at this;exact absurd this c1
     rw [hd] at I;refine Ae (Axl A3 hd tM) fun _ h2 ⟨p2,v2,A2⟩=>?_;simp only [seval,go_sem,Y,O,Z,e3,e4,J,E,w,wm];exact step i 1 _ _ v2 _ tM A2 (by simp;omega) (fun h=>by omega) (fun _=>by rw [List.append_assoc,af];exact I) (p3.in p2 (fun j hj hw=>hw)) hi (Nat.le_refl _) (by simp [Tr.get_set,Y]) (by simp [Tr.get_set,O]) (by simp [Tr.get_set,Z]) (by simp [Tr.get_set,e3]) (by simp [Tr.get_set,e4]) (by simp [Tr.get_set,J]) (by simp [Tr.get_set,E])
 ·have ai:i=al.length:=tM;subst ai;have ci:decide ((al.length:Int) < (al.length:Int))=false:=decide_eq_false tM;cases k with
  | succ k =>
   have:k=0:=tM;subst this;simp only [seval,go_sem,Y,O,Z,e3,e4,J,E,ll,el,ci];have aa:=aa tM;rw [List.drop_length,List.append_nil] at aa;subst aa;exact ⟨p,v,A'⟩
  | zero =>
   obtain ⟨I,ac⟩:=I rfl;rw [List.drop_length] at I ac;have hd:x.drop=false:=by
    cases hd:x.drop with
    | false=>rfl
    | true=>have:=ac hd;simp at this
   rw [edA,hd] at I;simp only [seval,go_sem,Y,O,Z,e3,e4,J,E,ll,el,ci];refine Ae (Axl A' hd tM) fun _ h2 ⟨p2,v2,A2⟩=>?_;simp only [seval,go_sem,Y,O,Z,e3,e4,J,E,w,wm];exact step al.length 1 _ _ v2 _ tM A2 (by simp;omega) (fun h=>by omega) (fun _=>by rw [List.drop_length,List.append_nil];exact I) (p.in p2 (fun j hj hw=>hw)) hi (Nat.le_refl _) (by simp [Tr.get_set,Y]) (by simp [Tr.get_set,O]) (by simp [Tr.get_set,Z]) (by simp [Tr.get_set,e3]) (by simp [Tr.get_set,e4]) (by simp [Tr.get_set,J]) (by simp [Tr.get_set,E])
end
section
variable {h h':H} {G G':Fz} {q2 q3 q8 q9 lo:Nat}
def okE (x:Edt):Prop:=okA [(x.n,x.v)]∧(x.drop=true→x.v=[])
theorem Uj {ev:AV} {x:Edt} {b p:Nat} (s:St h G) (Z:Db ev=some 1) (hi:ixA 3 0 ev=some (jQ b p)) (hr:G.read b p 3=some (edC x)) (ok:okE x):Ans ctx 144 [ev] h fun v h'=>v=iQ wQ 0∧Gro h G h':=by
 refine aO Tryz.f144 ?_;simp only [Tryz.f144];have w1:IntKind.i64.wrap 1=1:=by decide
 simp only [seval,go_sem,Z];refine Ao (fun (i:Nat) e h'=>Gro h G h'∧i≤1∧e.get 0=some ev∧e.get 6=some ev∧e.get 7=some (iQ wQ 1)∧e.get 8=some (iQ wQ i)) (fun i=>1 - i) 0 ⟨Stp.refl s,Nat.zero_le _,by simp [Tr.get_set]⟩ ?_;rintro i e h' ⟨q,aa,z,D,E,I⟩ lp;cases i with
 | zero =>
  have J:decide (((0:Nat):Int) < 1)=true:=rfl;have u1:∀ {B1 B2 B3},Gro h G ((((h'.new B1).at h'.nx B2)).new B3):=fun {B1 B2 B3}=>((q.new).at (Or.inl q.nx) (by simp only [Ac];omega) (q.st.none (Nat.le_refl _))).new;have lx:=q.nx;have Y:=(u1 (B1:=cQ [sQ [],bQ false,sQ []] 179) (B2:=cQ (edC x) 179) (B3:=cQ (Ax [(x.n,x.v)]) 112)).frz (i:=h'.nx+1) (b:=cQ (Ax [(x.n,x.v)]) 112) tM gL;have ar:Arr (G.add (h'.nx+1) (cQ (Ax [(x.n,x.v)]) 112)) 2 (.sl (h'.nx+1) 0 1 1) [(x.n,x.v)].length (Ax [(x.n,x.v)]):=Or.inr ⟨h'.nx+1,0,Or.inl ⟨1,Nat.le_refl _,rfl⟩,by rw [Fz.rd_b Fz.add_at];rfl⟩;simp only [seval,go_sem,z,D,E,I,J,hi,q.st.read hr];refine Ae (Mv Y.st ar ok.1) fun v U ⟨q1,p1⟩=>?_;subst q1;have u3:=(Y.trans p1).less s;have g1:U.m.get h'.nx=some (cQ (edC x) 179):=p1.gt Y.st.1 gL (fun h=>h);have O:U.read h'.nx 1 1=some [bQ x.drop]:=(Ab g1).trans rfl;have r2:U.read h'.nx 2 1=some [sQ x.v]:=(Ab g1).trans rfl;have w0:IntKind.i64.wrap 1=1:=by decide
  cases hd:x.drop with
  | false =>
   rw [hd] at O;simp only [seval,go_sem,z,D,E,I,O,w0];exact lp 1 _ _ tM ⟨u3,Nat.le_refl _,by simp [Tr.get_set,z,D,E]⟩
  | true =>
   rw [hd] at O;rw [ok.2 hd] at r2;simp only [seval,go_sem,z,D,E,I,O,r2,w0];exact lp 1 _ _ tM ⟨u3,Nat.le_refl _,by simp [Tr.get_set,z,D,E]⟩
 | succ i =>
  have:i=0:=tM;subst this;have J:decide (((0+1:Nat):Int) < 1)=false:=rfl;simp only [seval,go_sem,z,D,E,I,J];rw [Afq];simp only [seval,go_sem,z,D,E,I,J,Z];exact q
theorem Ayk {lv ev:AV} {al:Als} {x:Edt} {b p:Nat} (s:St h G) (la:Arr G 2 lv al.length (Ax al)) (hl:Db ev=some 1) (hi:ixA 3 0 ev=some (jQ b p)) (hr:G.read b p 3=some (edC x)) (ac:C9 ev=true) (I:okA al) (af:okE x) (ab:Anp x al) (aa:D.AscA Op.bytesLess al) (h8:(edA x al).length≤8) :
  Ans ctx 146 [lv,ev] h fun v h'=>∃ G' v',v=.tup [v',iQ wQ 0]∧Stp (fun _=>False) h G h' G'∧Arr G' 2 v' (edA x al).length (Ax (edA x al)):=by
 refine aO Tryz.f146 ?_;simp only [Tryz.f146];have o1:=la.one;have U:Gro h G ((h.new (cQ [lv] 33)).new (cQ [ev] 234)):=(Stp.refl s).new.new;simp only [seval,go_sem,o1,ac];refine Ae (Mv U.st la I) fun v h1 ⟨q1,E⟩=>?_;subst q1;have g0:h1.m.get h.nx=some (cQ [lv] 33):=E.gt U.st.1 gL (fun h=>h);have g1:h1.m.get (h.nx+1)=some (cQ [ev] 234):=E.gt U.st.1 gL (fun h=>h);have r1:h1.read (h.nx+1) 0 1=some [ev]:=(Ab g1).trans rfl;simp only [seval,go_sem,r1];refine Ae (Uj E.st hl hi hr af) fun v z ⟨q1,J⟩=>?_;subst q1;have k0:=J.gt E.st.1 g0 (fun h=>h);have k1:=J.gt E.st.1 g1 (fun h=>h);have l0:z.read h.nx 0 1=some [lv]:=(Ab k0).trans rfl;have l1:z.read (h.nx+1) 0 1=some [ev]:=(Ab k1).trans rfl;have ln:=Ah J.st.1 k1;have ah:=Ah J.st.1 k0;have ai:(z.nx≤h.nx)=False:=eq_false tM;have p3:Gro h G (((z.new (cQ [(():AV)] 33)).new (cQ [iQ wQ 0] 37)).at (z.nx+1) (cQ [iQ wQ 0] 37)):=((U.trans (E.trans J)).new.new).at (Or.inl tM) (by simp only [Ac];omega) (s.none tM);have Y:(((z.new (cQ [(():AV)] 33)).new (cQ [iQ wQ 0] 37)).at (z.nx+1) (cQ [iQ wQ 0] 37)).read h.nx 0 1=some [lv]:=by simp (disch:=first | omega | (simp only [Ac,Ag,Ai] <;> omega) | fail) only [Bc,Ck];exact l0
 have Z:(((z.new (cQ [(():AV)] 33)).new (cQ [iQ wQ 0] 37)).at (z.nx+1) (cQ [iQ wQ 0] 37)).read (h.nx+1) 0 1=some [ev]:=by simp (disch:=first | omega | (simp only [Ac,Ag,Ai] <;> omega) | fail) only [Bc,Ck];exact l1
 simp only [seval,go_sem,r1,Y,Z];have A:ApB (((z.new (cQ [(():AV)] 33)).new (cQ [iQ wQ 0] 37)).at (z.nx+1) (cQ [iQ wQ 0] 37)) G h.nx (h.nx+1) z.nx (z.nx+1) (z.nx+2) al x [] (():AV):=by
  refine ⟨p3.st,⟨?_,Or.inl ⟨rfl,rfl,rfl⟩,(fun j hj=>by rcases hj with ⟨_,e⟩ | e <;> cases e),s.none tM,tM,by simp only [Ac,Ag];omega⟩,⟨lv,?_,la⟩,⟨ev,?_,hl,b,p,hi,hr⟩,tM,Nat.zero_le _⟩
  ·exact gL
  ·exact Y
  ·exact Z
 refine Ae (Avw A ?_ ?_ ab aa I.2) fun _ h3 ⟨p4,v3,O⟩=>?_
 ·exact Y
 ·exact Z
 have g9:h3.m.get (z.nx+1)=some (cQ [iQ wQ 0] 37):=p4.gt p3.st.1 gL (fun hh=>by rcases hh with hh | hh <;> omega);have r9:h3.read (z.nx+1) 0 1=some [iQ wQ 0]:=(Ab g9).trans rfl;have r8:=O.ob.rd;have ae:=O.ob.o.len;have c8:decide ((8:Int) < ((edA x al).length:Int))=false:=decide_eq_false tM;have p5:=p3.in p4 (W2:=OW z.nx (z.nx+2)) (fun j hj hw=>by rcases hw with hw | hw <;> omega);obtain ⟨G2,p6,ag,ax⟩:=O.ob.o.frz2 p5 tM O.ob.f;obtain ⟨v4,z1,z2⟩:=ax.clip (C:=ctx) (t:=33) (el:=112) u33 Ake tM;simp only [seval,go_sem,r9,r8,ae,c8,z1];exact ⟨G2,v4,rfl,p6,z2⟩
end
attribute [local go_sem] Nat.mul_one Nat.one_mul
section
variable {h h':H} {G G':Fz} {d b L p q:Nat} {m:D.M} {sl:List Sl} {k:Hd}
theorem Ku {n:Nat} {cs:List AV} (P:Nat→H→Prop) (h0:P 0 h) (hn:cs.length=n) (hs:n≤100) (Z:∀ i h',i < n→P i h'→h'.read q 0 n=some cs) (Y:∀ i h',(hi:i < n)→P i h'→∃ f a b,cs[i]?=some (.fn (.func f) a b)∧Ans ctx f (a++b) h' fun v O=>v=iQ wQ 0∧P (i+1) O) :
  Ans ctx 68 [.sl q 0 n n] h fun v h'=>v=iQ wQ 0∧P n h':=by
 refine aO Tryz.f68 ?_;simp only [Tryz.f68];simp only [seval,go_sem];refine Ao (fun (i:Nat) e h'=>P i h'∧i≤n∧e.get 6=some (.sl q 0 n n)∧e.get 7=some (iQ wQ n)∧e.get 8=some (iQ wQ i)) (fun i=>n - i) 0 ⟨h0,Nat.zero_le _,by simp [Tr.get_set]⟩ ?_;rintro i e h' ⟨p,hi,D,E,I⟩ lp;simp only [seval,go_sem,D,E,I];refine Cr (fun z=>?_) (fun z=>?_)
 ·have z:i < n:=by simpa using z
  have w:=wI i;obtain ⟨f,a,b,c1,c2⟩:=Y i h' z p;have U:=Fk (Z i h' z p) c1;rw [Nat.zero_add] at U;simp only [seval,go_sem,D,E,I,Ed z,U,List.nil_append];refine Ae c2 fun v O ⟨q1,p2⟩=>?_;subst q1;simp only [seval,go_sem,D,E,I,w];exact lp (i+1) _ _ tM ⟨p2,z,by simp [Tr.get_set,D,E]⟩
 ·have z:n≤i:=by simpa using z
  have J:i=n:=tM;subst J;simp only [seval,go_sem];exact p
theorem Gi {f:Nat} {a b:List AV} {e:Int}:FW ctx 71 [.fn (.func f) a b,iQ wQ e] h=some (.fn (.func 128) [] [jQ h.nx 0,jQ (h.nx+1) 0],(h.new (cQ [.fn (.func f) a b] 45)).new (cQ [iQ wQ e] 37)):=by
 have:=Iz (C:=ctx) (f:=71) (vs:=[.fn (.func f) a b,iQ wQ e]) (h:=h) (fn:=Tryz.f71) (Q:=fun v h'=>v=.fn (.func 128) [] [jQ h.nx 0,jQ (h.nx+1) 0]∧h' = (h.new (cQ [.fn (.func f) a b] 45)).new (cQ [iQ wQ e] 37)) rfl kR rfl tR (by
  simp only [Tryz.f71];simp only [seval,go_sem])
 obtain ⟨_,_,e,rfl,rfl⟩:=this;exact e
theorem Hp {z J f:Nat} {a b:List AV} {P:H→Prop} (D:h.read z 0 1=some [.fn (.func f) a b]) (E:Ans ctx f (a++b) h fun v h'=>v=bQ true∧P h'):Ans ctx 128 [jQ z 0,jQ J 0] h fun v h'=>v=iQ wQ 0∧P h':=by
 refine aO Tryz.f128 ?_;simp only [Tryz.f128];simp only [seval,go_sem,D,List.nil_append];refine Ae E fun v O ⟨z,I⟩=>?_;subst z;simp only [seval,go_sem];exact I
theorem Ua:FW ctx 70 [jQ d 0,hdA k] h=some (.fn (.func 128) [] [jQ (h.nx+2) 0,jQ (h.nx+3) 0],(((h.new d).new k).new (cQ [.fn (.func 127) [] [jQ h.nx 0,jQ (h.nx+1) 0]] 45)).new (cQ [iQ wQ 1] 37)):=by
 have:=Iz (C:=ctx) (f:=70) (vs:=[jQ d 0,hdA k]) (h:=h) (fn:=Tryz.f70) (Q:=fun v h'=>v=.fn (.func 128) [] [jQ (h.nx+2) 0,jQ (h.nx+3) 0]∧h' = (((h.new d).new k).new (cQ [.fn (.func 127) [] [jQ h.nx 0,jQ (h.nx+1) 0]] 45)).new (cQ [iQ wQ 1] 37)) rfl kR rfl tR (by
  simp only [Tryz.f70];simp only [seval,go_sem,Gi])
 obtain ⟨_,_,e,rfl,rfl⟩:=this;exact e
theorem Aun {I J:Nat} {nd:Nd} (D:Dm h G d m sl b L) (a:Ad sl k p) (hm:m k=some nd) (Z:nd.kind=1) (O:h.read I 0 1=some [jQ d 0]) (U:h.read J 0 2=some [iQ uQ k.ix,iQ uQ k.gen]):Ans ctx 127 [jQ I 0,jQ J 0] h fun v h'=>v=bQ true∧Gro h G h':=by
 refine aO Tryz.f127 ?_;simp only [Tryz.f127];simp only [seval,go_sem,O,U];refine Ae (Ie D a) fun v Y ⟨q3,E⟩=>?_;subst q3;obtain ⟨nd',vc,z,n2,⟨x,y,rfl,_⟩,_⟩:=(D.gro E).nodes k p a;rw [hm] at z;cases z;have r:Y.read p 0 1=some [iQ vQ 1]:=(Ab n2).trans (by rw [Ib,Z];rfl);simp only [seval,go_sem,r];exact E
theorem edit143 {x:Edt} (s:St h G) (D:h.read q 0 3=some (edC x)) (E:okE x):Ans ctx 143 [jQ q 0] h fun v h'=>v=bQ true∧Gro h G h':=by
 refine aO Tryz.f143 ?_;simp only [Tryz.f143];have I:Gro h G (h.new (cQ (edC x) 179)):=(Stp.refl s).new;have z:=I.frz (i:=h.nx) (b:=cQ (edC x) 179) (Nat.le_refl _) Au;simp only [seval,go_sem,D];refine Ae (Uj (ev:=.sl h.nx 0 1 1) (b:=h.nx) (p:=0) z.st rfl rfl (by rw [Fz.rd_b Fz.add_at];rfl) E) fun v U ⟨O,J⟩=>?_;subst O;simp only [seval,go_sem];exact (z.trans J).less s
theorem edit145 {q4 q5 q6 z:Nat} {x:Edt} {nd:Nd} {Z:AV} (D:Dm h G d m sl b L) (a:Ad sl k p) (hm:m k=some nd) (r4:h.read q4 0 1=some [jQ d 0]) (r5:h.read q5 0 2=some [iQ uQ k.ix,iQ uQ k.gen]) (r6:h.read q6 0 3=some (edC x)) (g9:h.m.get z=some (cQ [Z] 33)) (n9:G z=none) (f9:¬ FP d b sl z)
  (aa:okA nd.attrs) (ab:okE x) (Y:Anp x nd.attrs) (U:V.D.AscA Op.bytesLess nd.attrs) (h8:(edA x nd.attrs).length≤8) :
  Ans ctx 145 [jQ q4 0,jQ q5 0,jQ q6 0,jQ z 0] h fun v h'=>v=iQ wQ 0∧∃ G' O,Stp (fun i=>i=z) h G h' G'∧h'.m.get z=some (cQ [O] 33)∧Arr G' 2 O (edA x nd.attrs).length (Ax (edA x nd.attrs)):=by
 refine aO Tryz.f145 ?_;simp only [Tryz.f145];have E:Gro h G (h.up 15):=(Stp.refl D.s).up;obtain ⟨_,h1,e1,rfl,I⟩:=Ie (D.gro E) a;have l1:=I.nx;simp only [Ai] at l1;obtain ⟨nd',vc,n1,n2,⟨av,cv,rfl,ha,_⟩,_⟩:=(D.gro (E.trans I)).nodes k p a;rw [hm] at n1;cases n1;have r2:h1.read p 2 1=some [av]:=(Ab n2).trans rfl;have ac:h1.read q6 0 3=some (edC x):=(E.trans I).rs D.s.1 r6 (fun h=>h);have p2:=((E.trans I).at (b:=cQ (edC x) 179) (i:=h.nx+8) (Or.inl tM) tM (D.s.none tM)).frz (i:=h.nx+8) (b:=cQ (edC x) 179) tM Ap;have le:=p2.le D.s;obtain ⟨_,h2,e2,G2,O,rfl,p3,ax⟩:=Ayk (ev:=.sl (h.nx+8) 0 1 1) (b:=h.nx+8) (p:=0) p2.st (ha.mono le) rfl rfl (by rw [Fz.rd_b Fz.add_at];rfl) rfl aa ab Y U h8;have J:=p2.trans p3;have k9:=J.gt D.s.1 g9 (fun h=>h);have o1:=ax.one;simp only [seval,go_sem,r4,r5,r6,ac,r2,e1,e2,k9,o1];exact ⟨G2,O,(J.mono fun _ h=>h.elim).at (Or.inr rfl) (Ah J.st.1 k9) ((J.old _ (Ah D.s.1 g9)).trans n9),rfl,ax⟩
theorem Aqf (D:Dm h G d m sl b L):Ans ctx 148 [jQ d 3] h fun _ h'=>Dm h' G d m sl b L∧Stp (FP d b sl) h G h' G:=by
 refine aO Tryz.f148 ?_;simp only [Tryz.f148];obtain ⟨fr,lv,I,c1,c2,J,O,U,z,Y,fl,E,Z,en⟩:=D.dc;have r1:h.read d 9 1=some [iQ wQ z]:=(Ab E).trans rfl;have ov:=Ka (sl:=sl) (b:=b);simp only [seval,go_sem,r1,E,ov];exact D.setd (lv:=lv) (lv':=lv) (c:=[I,c1,c2,J,O,U,z,Y]) (c':=[I,c1,c2,J,O,U,IntKind.i64.wrap (z+1),Y]) E Z en rfl
theorem Uk {f:Nat} {B:List AV} {nd nd':Nd} {I cs':List AV} (D:Dm h G d m sl b L) (a:Ad sl k p) (hm:m k=some nd) (Y:h.m.get p=some (cQ I 118)) (hr:NdR G nd' cs') (h8:nd'.attrs.length≤8∧nd'.ch.length≤L)
  (hf:∀ z,Gro h G z→z.m.get p=some (cQ I 118)→Ans ctx f (jQ p 0::B) z fun _ h'=>h' = z.at p (cQ cs' 118)) :
  Ans ctx 147 [jQ d 0,hdA k,.fn (.func 148) [] [],.fn (.func f) [] B] h fun _ h'=>Dm h' G d (m.up k nd') sl b L∧Stp (FP d b sl) h G h' G:=by
 refine aO Tryz.f147 ?_;simp only [Tryz.f147];have p0:Gro h G (h.new k):=(Stp.refl D.s).new;simp only [seval,go_sem];refine Ae (Ie (D.gro p0) a) fun v z ⟨q1,p1⟩=>?_;subst q1;have J:=p0.trans p1;obtain ⟨ab,vc,n1,n2,n3,_⟩:=(D.gro J).nodes k p a;rw [hm] at n1;cases n1;have E:vc.length=10:=by obtain ⟨_,_,rfl,_⟩:=n3;rfl
 have v1:Af vc=true:=by obtain ⟨x,y,rfl,ha,hc⟩:=n3;simp only [Af,ha.one,hc.one];rfl
 have rp:z.read p 0 10=some vc:=(Ab n2).trans (by rw [Ib,← E];exact Aj);have lp:=Ah J.st.1 n2;have np:(p=z.nx)=False:=eq_false tM;have Z:Cl [iQ vQ 0,sQ [],(():AV),sQ [],iQ wQ 0,iQ wQ 0,bQ false,iQ uQ 0,iQ uQ 0,(():AV)] vc=some vc:=by
  have:=Bd [] [iQ vQ 0,sQ [],(():AV),sQ [],iQ wQ 0,iQ wQ 0,bQ false,iQ uQ 0,iQ uQ 0,(():AV)] [] vc (by rw [E];rfl);rw [List.append_nil,List.append_nil] at this;exact this
 have aa:((z.new (cQ [kQ (.pointer none)] 119)).at z.nx (cQ [jQ p 0] 119)).read p 0 10=some vc:=by
  rw [Ck tM,Bc tM];exact rp
 have lx:=J.nx;have p3:Gro h G ((((z.new (cQ [kQ (.pointer none)] 119)).at z.nx (cQ [jQ p 0] 119)).new (cQ [iQ vQ 0,sQ [],(():AV),sQ [],iQ wQ 0,iQ wQ 0,bQ false,iQ uQ 0,iQ uQ 0,(():AV)] 55)).at (z.nx+1) (cQ vc 55)):=((((J.new).at (Or.inl lx) (by simp only [Ac];omega) (D.s.none lx)).new).at (Or.inl tM) (by simp only [Ac,Ag];omega) (D.s.none tM));have D3:=D.gro p3;obtain ⟨fr,lv,c0,c1,c2,c3,c4,c5,c6,c7,fl,dg,ef,en⟩:=D3.dc;have r3:((((z.new (cQ [kQ (.pointer none)] 119)).at z.nx (cQ [jQ p 0] 119)).new (cQ [iQ vQ 0,sQ [],(():AV),sQ [],iQ wQ 0,iQ wQ 0,bQ false,iQ uQ 0,iQ uQ 0,(():AV)] 55)).at (z.nx+1) (cQ vc 55)).read d 3 8=some [iQ wQ c0,iQ wQ c1,iQ wQ c2,iQ wQ c3,iQ wQ c4,iQ wQ c5,iQ wQ c6,iQ wQ c7]:=(Ab dg).trans rfl;simp only [seval,go_sem,E,v1,Z,aa,r3];refine Ae (note D3 (cv:=[iQ wQ c0,iQ wQ c1,iQ wQ c2,iQ wQ c3,iQ wQ c4,iQ wQ c5,iQ wQ c6,iQ wQ c7]) rfl) fun _ U p4=>?_;have O:=p3.trans p4;have g8:U.m.get z.nx=some (cQ [jQ p 0] 119):=p4.gt p3.st.1 gL (fun h=>h);have r8:U.read z.nx 0 1=some [jQ p 0]:=(Ab g8).trans rfl;simp only [seval,go_sem,r8];have D5:=D.gro O;refine Ae (hf U O (O.gt D.s.1 Y fun h=>h)) fun _ h6 q6=>?_;subst q6;obtain ⟨D6,p6⟩:=D5.setn a hr h8;simp only [seval,go_sem];refine Ae (Aqf D6) fun _ h7 ⟨D7,p7⟩=>?_;simp only [seval,go_sem];exact ⟨D7,((O.mono (W':=FP d b sl) fun _ h=>h.elim).in p6 (fun _ _ h=>h)).in p7 (fun _ _ h=>h)⟩
theorem set149 {lv x c:AV} {nd:Nd} (D:h.m.get p=some (cQ [iQ vQ nd.kind,sQ nd.tag,x,sQ nd.text,iQ wQ 0,iQ wQ 0,bQ false,iQ uQ (Ba nd.par).ix,iQ uQ (Ba nd.par).gen,c] 118)) (E:h.read q 0 1=some [lv]) (z:C9 lv=true) :
  Ans ctx 149 [jQ p 0,jQ q 0] h fun _ h'=>h' = h.at p (cQ [iQ vQ nd.kind,sQ nd.tag,lv,sQ nd.text,iQ wQ 0,iQ wQ 0,bQ false,iQ uQ (Ba nd.par).ix,iQ uQ (Ba nd.par).gen,c] 118):=by
 refine aO Tryz.f149 ?_;simp only [Tryz.f149];simp only [seval,go_sem,E,z,D];exact ⟨_,rfl⟩
theorem set202 {x c:AV} {z:Str} {nd:Nd} (D:h.m.get p=some (cQ [iQ vQ nd.kind,sQ nd.tag,x,sQ nd.text,iQ wQ 0,iQ wQ 0,bQ false,iQ uQ (Ba nd.par).ix,iQ uQ (Ba nd.par).gen,c] 118)) (E:h.read q 0 1=some [sQ z]) :
  Ans ctx 202 [jQ p 0,jQ q 0] h fun _ h'=>h' = h.at p (cQ [iQ vQ nd.kind,sQ nd.tag,x,sQ z,iQ wQ 0,iQ wQ 0,bQ false,iQ uQ (Ba nd.par).ix,iQ uQ (Ba nd.par).gen,c] 118):=by
 refine aO Tryz.f202 ?_;simp only [Tryz.f202];simp only [seval,go_sem,E,D];exact ⟨_,rfl⟩
theorem Pd {i o n c:Nat}:FW ctx 41 [jQ d 0,.sl i o n c] h=some (.fn (.func 102) [] [jQ h.nx 0,jQ (h.nx+1) 0],(h.new d).new (cQ [.sl i o n c] 53)):=by
 obtain ⟨_,_,e,rfl,rfl⟩:=e41 (d:=d) (h:=h) (v:=.sl i o n c) rfl;exact e
theorem Axh {x:Edt} {e:Int} {nd:Nd} (D:Dm h G d m sl b L) (Y:m k=some nd) (hk:nd.kind=1) (am:okA nd.attrs) (ab:okE x) (ak:Anp x nd.attrs) (ac:V.D.AscA Op.bytesLess nd.attrs) (h8:(edA x nd.attrs).length≤8) :
  Ans ctx 95 [jQ d 0,hdA k,gQ (edC x),iQ wQ e] h fun v h'=>v=iQ wQ 0∧∃ G',Dm h' G' d (m.up k { nd with attrs:=edA x nd.attrs }) sl b L∧Stp (FP d b sl) h G h' G':=by
 obtain ⟨p,a⟩:=D.all k (by rw [Y];exact Option.some_ne_none _);refine aO Tryz.f95 ?_;simp only [Tryz.f95];have pS:Gro h G (((((((((((((((h.new d).new k).new (cQ (edC x) 179)).new (cQ [(():AV)] 33)).up 14).at (h.nx+6) (k:Blk)).new d).new (cQ [.sl (h.nx+6) 0 1 1] 53)).new d).new k).new (cQ [.fn (.func 127) [] [jQ (h.nx+20) 0,jQ (h.nx+21) 0]] 45)).new (cQ [iQ wQ 1] 37)).new (cQ [.fn (.func 143) [] [jQ (h.nx+2) 0]] 45)).new (cQ [iQ wQ e] 37)).at (h.nx+15) (cQ [.fn (.func 102) [] [jQ (h.nx+18) 0,jQ (h.nx+19) 0],.fn (.func 128) [] [jQ (h.nx+22) 0,jQ (h.nx+23) 0],.fn (.func 128) [] [jQ (h.nx+24) 0,jQ (h.nx+25) 0],.fn (.func 145) [] [jQ h.nx 0,jQ (h.nx+1) 0,jQ (h.nx+2) 0,jQ (h.nx+3) 0]] 85)):=(((((Stp.refl D.s).new.new.new.new.up).at (Or.inl tM) (by simp only [Ac,Ai];omega) (D.s.none tM)).new.new.new.new.new.new.new.new).at (Or.inl tM) (by simp only [Ac,Ai,Ag];omega) (D.s.none tM));have gS:∀ {j B},(((((((((((((((h.new d).new k).new (cQ (edC x) 179)).new (cQ [(():AV)] 33)).up 14).at (h.nx+6) (k:Blk)).new d).new (cQ [.sl (h.nx+6) 0 1 1] 53)).new d).new k).new (cQ [.fn (.func 127) [] [jQ (h.nx+20) 0,jQ (h.nx+21) 0]] 45)).new (cQ [iQ wQ 1] 37)).new (cQ [.fn (.func 143) [] [jQ (h.nx+2) 0]] 45)).new (cQ [iQ wQ e] 37)).at (h.nx+15) (cQ [.fn (.func 102) [] [jQ (h.nx+18) 0,jQ (h.nx+19) 0],.fn (.func 128) [] [jQ (h.nx+22) 0,jQ (h.nx+23) 0],.fn (.func 128) [] [jQ (h.nx+24) 0,jQ (h.nx+25) 0],.fn (.func 145) [] [jQ h.nx 0,jQ (h.nx+1) 0,jQ (h.nx+2) 0,jQ (h.nx+3) 0]] 85)).m.get j=some B→(((((((((((((((h.new d).new k).new (cQ (edC x) 179)).new (cQ [(():AV)] 33)).up 14).at (h.nx+6) (k:Blk)).new d).new (cQ [.sl (h.nx+6) 0 1 1] 53)).new d).new k).new (cQ [.fn (.func 127) [] [jQ (h.nx+20) 0,jQ (h.nx+21) 0]] 45)).new (cQ [iQ wQ 1] 37)).new (cQ [.fn (.func 143) [] [jQ (h.nx+2) 0]] 45)).new (cQ [iQ wQ e] 37)).at (h.nx+15) (cQ [.fn (.func 102) [] [jQ (h.nx+18) 0,jQ (h.nx+19) 0],.fn (.func 128) [] [jQ (h.nx+22) 0,jQ (h.nx+23) 0],.fn (.func 128) [] [jQ (h.nx+24) 0,jQ (h.nx+25) 0],.fn (.func 145) [] [jQ h.nx 0,jQ (h.nx+1) 0,jQ (h.nx+2) 0,jQ (h.nx+3) 0]] 85)).m.get j=some B:=fun h=>h
 have z:(((((((((((((((h.new d).new k).new (cQ (edC x) 179)).new (cQ [(():AV)] 33)).up 14).at (h.nx+6) (k:Blk)).new d).new (cQ [.sl (h.nx+6) 0 1 1] 53)).new d).new k).new (cQ [.fn (.func 127) [] [jQ (h.nx+20) 0,jQ (h.nx+21) 0]] 45)).new (cQ [iQ wQ 1] 37)).new (cQ [.fn (.func 143) [] [jQ (h.nx+2) 0]] 45)).new (cQ [iQ wQ e] 37)).at (h.nx+15) (cQ [.fn (.func 102) [] [jQ (h.nx+18) 0,jQ (h.nx+19) 0],.fn (.func 128) [] [jQ (h.nx+22) 0,jQ (h.nx+23) 0],.fn (.func 128) [] [jQ (h.nx+24) 0,jQ (h.nx+25) 0],.fn (.func 145) [] [jQ h.nx 0,jQ (h.nx+1) 0,jQ (h.nx+2) 0,jQ (h.nx+3) 0]] 85)).m.get h.nx=some (d:Blk):=gL;have b1:=lG z (h.nx+1) (k:Blk);have b2:=lG z (h.nx+2) (cQ (edC x) 179);have b3:=lG z (h.nx+3) (cQ [(():AV)] 33);have b6:(((((((((((((((h.new d).new k).new (cQ (edC x) 179)).new (cQ [(():AV)] 33)).up 14).at (h.nx+6) (k:Blk)).new d).new (cQ [.sl (h.nx+6) 0 1 1] 53)).new d).new k).new (cQ [.fn (.func 127) [] [jQ (h.nx+20) 0,jQ (h.nx+21) 0]] 45)).new (cQ [iQ wQ 1] 37)).new (cQ [.fn (.func 143) [] [jQ (h.nx+2) 0]] 45)).new (cQ [iQ wQ e] 37)).at (h.nx+15) (cQ [.fn (.func 102) [] [jQ (h.nx+18) 0,jQ (h.nx+19) 0],.fn (.func 128) [] [jQ (h.nx+22) 0,jQ (h.nx+23) 0],.fn (.func 128) [] [jQ (h.nx+24) 0,jQ (h.nx+25) 0],.fn (.func 145) [] [jQ h.nx 0,jQ (h.nx+1) 0,jQ (h.nx+2) 0,jQ (h.nx+3) 0]] 85)).m.get (h.nx+6)=some (cQ (hdC [k]) 50):=by simp (disch:=first | omega | (simp only [Ac,Ag,Ai] <;> omega) | fail) only [Bh,Ca,Cd,Bb,Az];rfl
 have Z:=lG z (h.nx+15) (cQ [.fn (.func 102) [] [jQ (h.nx+18) 0,jQ (h.nx+19) 0],.fn (.func 128) [] [jQ (h.nx+22) 0,jQ (h.nx+23) 0],.fn (.func 128) [] [jQ (h.nx+24) 0,jQ (h.nx+25) 0],.fn (.func 145) [] [jQ h.nx 0,jQ (h.nx+1) 0,jQ (h.nx+2) 0,jQ (h.nx+3) 0]] 85);have ae:=lG z (h.nx+18) (d:Blk);have af:=lG z (h.nx+19) (cQ [.sl (h.nx+6) 0 1 1] 53);have ag:=lG z (h.nx+20) (d:Blk);have ah:=lG z (h.nx+21) (k:Blk);have ai:=lG z (h.nx+22) (cQ [.fn (.func 127) [] [jQ (h.nx+20) 0,jQ (h.nx+21) 0]] 45);have aj:=lG z (h.nx+24) (cQ [.fn (.func 143) [] [jQ (h.nx+2) 0]] 45);have nS:(((((((((((((((h.new d).new k).new (cQ (edC x) 179)).new (cQ [(():AV)] 33)).up 14).at (h.nx+6) (k:Blk)).new d).new (cQ [.sl (h.nx+6) 0 1 1] 53)).new d).new k).new (cQ [.fn (.func 127) [] [jQ (h.nx+20) 0,jQ (h.nx+21) 0]] 45)).new (cQ [iQ wQ 1] 37)).new (cQ [.fn (.func 143) [] [jQ (h.nx+2) 0]] 45)).new (cQ [iQ wQ e] 37)).at (h.nx+15) (cQ [.fn (.func 102) [] [jQ (h.nx+18) 0,jQ (h.nx+19) 0],.fn (.func 128) [] [jQ (h.nx+22) 0,jQ (h.nx+23) 0],.fn (.func 128) [] [jQ (h.nx+24) 0,jQ (h.nx+25) 0],.fn (.func 145) [] [jQ h.nx 0,jQ (h.nx+1) 0,jQ (h.nx+2) 0,jQ (h.nx+3) 0]] 85)).nx=h.nx+26:=rfl;simp only [seval,go_sem,Pd,Ua,Gi];generalize hS:(((((((((((((((h.new d).new k).new (cQ (edC x) 179)).new (cQ [(():AV)] 33)).up 14).at (h.nx+6) (k:Blk)).new d).new (cQ [.sl (h.nx+6) 0 1 1] 53)).new d).new k).new (cQ [.fn (.func 127) [] [jQ (h.nx+20) 0,jQ (h.nx+21) 0]] 45)).new (cQ [iQ wQ 1] 37)).new (cQ [.fn (.func 143) [] [jQ (h.nx+2) 0]] 45)).new (cQ [iQ wQ e] 37)).at (h.nx+15) (cQ [.fn (.func 102) [] [jQ (h.nx+18) 0,jQ (h.nx+19) 0],.fn (.func 128) [] [jQ (h.nx+22) 0,jQ (h.nx+23) 0],.fn (.func 128) [] [jQ (h.nx+24) 0,jQ (h.nx+25) 0],.fn (.func 145) [] [jQ h.nx 0,jQ (h.nx+1) 0,jQ (h.nx+2) 0,jQ (h.nx+3) 0]] 85))=S at *
 have J:=pS.frz (i:=h.nx+6) tM b6;generalize hG:G.add (h.nx+6) (cQ (hdC [k]) 50)=Gf at *;have Df:=D.gro J;have gn:∀ {j},h.nx≤j→j≠h.nx+6→Gf j=none:=fun {j} h1 E=>by rw [← hG,Fz.add_ne E];exact D.s.none h1
 have ar:Arr Gf 2 (.sl (h.nx+6) 0 1 1) [k].length (hdC [k]):=Or.inr ⟨h.nx+6,0,Or.inl ⟨1,Nat.le_refl _,rfl⟩,by rw [← hG,Fz.rd_b Fz.add_at];rfl⟩;have nF:¬ FP d b sl (h.nx+3):=fun hh=>by have:=D.fp_lt _ hh;omega
 obtain ⟨_,E,e1,rfl,P4⟩:=Ku (h:=S) (q:=h.nx+15) (n:=4) (cs:=[.fn (.func 102) [] [jQ (h.nx+18) 0,jQ (h.nx+19) 0],.fn (.func 128) [] [jQ (h.nx+22) 0,jQ (h.nx+23) 0],.fn (.func 128) [] [jQ (h.nx+24) 0,jQ (h.nx+25) 0],.fn (.func 145) [] [jQ h.nx 0,jQ (h.nx+1) 0,jQ (h.nx+2) 0,jQ (h.nx+3) 0]])
  (fun i h'=>if i < 4 then Gro S Gf h' else ∃ G' v',Stp (fun j=>j=h.nx+3) S Gf h' G'∧h'.m.get (h.nx+3)=some (cQ [v'] 33)∧Arr G' 2 v' (edA x nd.attrs).length (Ax (edA x nd.attrs))) (Stp.refl J.st) rfl tM
  (fun i h' hi p=>by
   rw [if_pos hi] at p;exact (Ab (p.gt J.st.1 Z (fun h=>h))).trans rfl)
  (fun i h' hi p=>by
   rw [if_pos hi] at p;have I:=Df.gro p;have rd:∀ {j B},S.m.get j=some B→h'.m.get j=some B:=fun e=>p.gt J.st.1 e (fun h=>h)
   match i,hi with
   | 0,_=>exact ⟨102,[],_,rfl,(Aaz I ((Ab (rd ae)).trans rfl) ((Ab (rd af)).trans rfl) ar (by simp) (fun k' aa=>by rw [List.mem_singleton] at aa;subst aa;exact ⟨_,a⟩)).mono fun v E ⟨O,U⟩=>⟨O,p.trans U⟩⟩
   | 1,_=>exact ⟨128,[],_,rfl,(Hp ((Ab (rd ai)).trans rfl) (Aun I a Y hk ((Ab (rd ag)).trans rfl) ((Ab (rd ah)).trans rfl))).mono fun v E ⟨O,U⟩=>⟨O,p.trans U⟩⟩
   | 2,_=>exact ⟨128,[],_,rfl,(Hp ((Ab (rd aj)).trans rfl) (edit143 I.s ((Ab (rd b2)).trans rfl) ab)).mono fun v E ⟨O,U⟩=>⟨O,p.trans U⟩⟩
   | 3,_=>exact ⟨145,[],_,rfl,(edit145 I a Y ((Ab (rd z)).trans rfl) ((Ab (rd b1)).trans rfl) ((Ab (rd b2)).trans rfl) (rd b3) (gn tM tM) nF am ab ak ac h8).mono fun v E ⟨O,G',v',U,q3,q4⟩=>⟨O,G',v',(p.mono fun _ h=>h.elim).in U (fun _ _ h=>h),q3,q4⟩⟩)
 rw [if_neg tM] at P4;obtain ⟨G2,lv,p2,g3,ax⟩:=P4;have k0:=p2.gt J.st.1 z (fun h=>by omega);have k1:=p2.gt J.st.1 b1 (fun h=>by omega);have r0:E.read h.nx 0 1=some [jQ d 0]:=(Ab k0).trans rfl;have r1:E.read (h.nx+1) 0 2=some [iQ uQ k.ix,iQ uQ k.gen]:=(Ab k1).trans rfl;have r3:E.read (h.nx+3) 0 1=some [lv]:=(Ab g3).trans rfl;have an:S.read (h.nx+15) 0 4=_:=(Ab Z).trans rfl;simp only [seval,go_sem,e1,r0,r1];have I:Dm E G2 d m sl b L:=Df.loc (p2.mono fun j hj=>hj ▸ nF);obtain ⟨ao,ap,n1,n2,n3,_⟩:=I.nodes k _ a;rw [Y] at n1;cases n1;obtain ⟨xv,cv,rfl,ha,hc⟩:=n3;have hL:=D.nd k nd Y;refine Ae (Uk I a Y n2 (nd':={ nd with attrs:=edA x nd.attrs }) (cs':=[iQ vQ nd.kind,sQ nd.tag,lv,sQ nd.text,iQ wQ 0,iQ wQ 0,bQ false,iQ uQ (Ba nd.par).ix,iQ uQ (Ba nd.par).gen,cv]) ⟨lv,cv,rfl,ax,hc⟩ ⟨h8,hL.2⟩ (fun h4 p4 g4=>set149 g4 ((Ab (p4.gt p2.st.1 g3 (fun h=>h))).trans rfl) ax.one)) fun _ h5 ⟨D5,p5⟩=>?_;simp only [seval,go_sem];refine ⟨G2,D5,?_⟩;exact ((J.mono (W':=FP d b sl) fun _ h=>h.elim).in p2 (fun j hj hw=>by omega)).in p5 (fun _ _ h=>h)
end
theorem Ys {n v:Str}:∀ al:Als,edA ⟨n,false,v⟩ al=V.D.setA Op.bytesLess n v al
 | []=>rfl
 | (a,w)::l=>by
  rw [edA,V.D.setA,Ys l];rfl
theorem Aay {n v:Str}:∀ al:Als,V.D.AscA Op.bytesLess al→n∈al.map (·.1)→edA ⟨n,true,v⟩ al=V.D.drpA n al
 | [],_,h=>by simp at h
 | (a,w)::l,asc,h=>by
  have hp:=List.pairwise_cons.1 asc;rw [edA];unfold V.D.drpA
  by_cases c1:Op.bytesLess a n=true
  ·have hne:a≠n:=fun e=>by rw [e,Ep] at c1;cases c1
   rw [if_pos c1,List.filter_cons,if_pos (by simpa using hne)];have hm:n∈l.map (·.1):=by
    rcases List.mem_cons.1 h with e | e
    ·exact absurd e.symm hne
    ·exact e
   have:=Aay (v:=v) l hp.2 hm;unfold V.D.drpA at this;rw [this]
  ·rw [if_neg c1];have hall:∀ x∈l,x.1≠a:=fun x hx e=>by have:=hp.1 x hx;rw [e,Ep] at this;cases this
   by_cases c2:a=n
   ·subst c2;rw [if_pos rfl,if_pos rfl,List.filter_cons,if_neg (by simp)];exact (List.filter_eq_self.2 fun x hx=>by simpa using hall x hx).symm
   ·exfalso
    rcases List.mem_cons.1 h with e | e
    ·exact c2 e.symm
    ·obtain ⟨x,hx,hx2⟩:=List.mem_map.1 e;have:=hp.1 x hx;rw [hx2] at this;exact c1 this
section
variable {h h':H} {G G':Fz} {d b L p q:Nat} {m:D.M} {sl:List Sl} {k:Hd}
theorem Su {n v:Str} {nd:Nd} (D:Dm h G d m sl b L) (hm:m k=some nd) (Z:nd.kind=1) (E:okA nd.attrs) (I:okA [(n,v)]) (z:V.D.AscA Op.bytesLess nd.attrs) (J:(V.D.setA Op.bytesLess n v nd.attrs).length≤8) :
  Ans ctx 39 [jQ d 0,hdA k,sQ n,sQ v] h fun x h'=>x=iQ wQ 0∧∃ G',Dm h' G' d (m.up k { nd with attrs:=V.D.setA Op.bytesLess n v nd.attrs }) sl b L∧Stp (FP d b sl) h G h' G':=by
 refine aO Tryz.f39 ?_;simp only [Tryz.f39];have O:Gro h G (h.new k):=(Stp.refl D.s).new;simp only [seval,go_sem];rw [← Ys] at J;have:=Axh (x:=⟨n,false,v⟩) (e:=1) (D.gro O) hm Z E ⟨I,fun h=>by cases h⟩ (fun h=>by cases h) z J;rw [Ys] at this;refine Ae this fun x h2 ⟨q1,Y,U,p2⟩=>?_;subst q1;simp only [seval,go_sem];exact ⟨Y,U,(O.mono fun _ h=>h.elim).in p2 (fun _ _ h=>h)⟩
theorem Abb {n:Str} {nd:Nd} (D:Dm h G d m sl b L) (hm:m k=some nd) (Z:nd.kind=1) (E:okA nd.attrs) (I:okA [(n,[])]) (z:V.D.AscA Op.bytesLess nd.attrs) (J:n∈nd.attrs.map (·.1)) :
  Ans ctx 164 [jQ d 0,hdA k,sQ n] h fun x h'=>x=iQ wQ 0∧∃ G',Dm h' G' d (m.up k { nd with attrs:=V.D.drpA n nd.attrs }) sl b L∧Stp (FP d b sl) h G h' G':=by
 refine aO Tryz.f164 ?_;simp only [Tryz.f164];have O:Gro h G (h.new k):=(Stp.refl D.s).new;simp only [seval,go_sem];have hd:=Aay (v:=[]) nd.attrs z J;have:=Axh (x:=⟨n,true,[]⟩) (e:=17) (D.gro O) hm Z E ⟨I,fun _=>rfl⟩ (fun _=>J) z (by rw [hd];exact Nat.le_trans (List.length_filter_le _ _) E.2);rw [hd] at this;refine Ae this fun x h2 ⟨q1,Y,U,p2⟩=>?_;subst q1;simp only [seval,go_sem];exact ⟨Y,U,(O.mono fun _ h=>h.elim).in p2 (fun _ _ h=>h)⟩
theorem run201 {O U Y:Nat} {z:Str} {nd:Nd} (D:Dm h G d m sl b L) (a:Ad sl k p) (hm:m k=some nd) (hk:nd.kind=2) (r0:h.read O 0 1=some [jQ d 0]) (r1:h.read U 0 2=some [iQ uQ k.ix,iQ uQ k.gen]) (r2:h.read Y 0 1=some [sQ z]) (ht:He z=true) :
  Ans ctx 201 [jQ O 0,jQ U 0,jQ Y 0] h fun v h'=>v=bQ true∧Gro h G h':=by
 refine aO Tryz.f201 ?_;simp only [Tryz.f201];simp only [seval,go_sem,r0,r1];refine Ae (Ie D a) fun v Z ⟨q3,E⟩=>?_;subst q3;obtain ⟨nd',vc,J,n2,⟨x,y,rfl,_⟩,_⟩:=(D.gro E).nodes k p a;rw [hm] at J;cases J;have r:Z.read p 0 1=some [iQ vQ 2]:=(Ab n2).trans (by rw [Ib,hk];rfl);have I:=E.rs D.s.1 r2 (fun h=>h);simp only [seval,go_sem,r,I];have rt:RT G (.nd 2 [] [] z [] []) [iQ vQ 2,sQ [],sQ [],(():AV),sQ z,(():AV)]:=⟨_,_,[],rfl,Or.inl ⟨rfl,rfl,rfl⟩,Or.inl ⟨rfl,rfl,rfl⟩,rfl⟩;have hv:A8 (.nd 2 [] [] z [] []):=by
  refine ⟨?_,by show 1+deps []≤6;simp [deps],by show 1+sizs []≤64;simp [sizs]⟩;rw [okT,Bool.and_eq_true];refine ⟨?_,rfl⟩;show (He z && _)=true;rw [ht];rfl
 have hc:=Gv hv;refine Ae (Hl E.st rt) fun v h4 ⟨q4,p4⟩=>?_;subst q4;simp only [seval,go_sem,hc];exact E.trans p4
theorem Acf {z:Str} {nd:Nd} (D:Dm h G d m sl b L) (Y:m k=some nd) (hk:nd.kind=2) (ht:He z=true) :
  Ans ctx 167 [jQ d 0,hdA k,sQ z] h fun x h'=>x=iQ wQ 0∧∃ G',Dm h' G' d (m.up k { nd with text:=z }) sl b L∧Stp (FP d b sl) h G h' G':=by
 obtain ⟨p,a⟩:=D.all k (by rw [Y];exact Option.some_ne_none _);refine aO Tryz.f167 ?_;simp only [Tryz.f167];have pS:Gro h G (((((((((h.new d).new k).new (cQ [sQ z] 9)).new k).new d).new (cQ [.sl (h.nx+3) 0 1 1] 53)).new (cQ [.fn (.func 201) [] [jQ h.nx 0,jQ (h.nx+1) 0,jQ (h.nx+2) 0]] 45)).new (cQ [iQ wQ 1] 37)).new (cQ [.fn (.func 102) [] [jQ (h.nx+4) 0,jQ (h.nx+5) 0],.fn (.func 128) [] [jQ (h.nx+6) 0,jQ (h.nx+7) 0]] 85)):=(Stp.refl D.s).new.new.new.new.new.new.new.new.new;have E:(((((((((h.new d).new k).new (cQ [sQ z] 9)).new k).new d).new (cQ [.sl (h.nx+3) 0 1 1] 53)).new (cQ [.fn (.func 201) [] [jQ h.nx 0,jQ (h.nx+1) 0,jQ (h.nx+2) 0]] 45)).new (cQ [iQ wQ 1] 37)).new (cQ [.fn (.func 102) [] [jQ (h.nx+4) 0,jQ (h.nx+5) 0],.fn (.func 128) [] [jQ (h.nx+6) 0,jQ (h.nx+7) 0]] 85)).m.get h.nx=some (d:Blk):=gL;have b1:=lG E (h.nx+1) (k:Blk);have b2:=lG E (h.nx+2) (cQ [sQ z] 9);have b3:(((((((((h.new d).new k).new (cQ [sQ z] 9)).new k).new d).new (cQ [.sl (h.nx+3) 0 1 1] 53)).new (cQ [.fn (.func 201) [] [jQ h.nx 0,jQ (h.nx+1) 0,jQ (h.nx+2) 0]] 45)).new (cQ [iQ wQ 1] 37)).new (cQ [.fn (.func 102) [] [jQ (h.nx+4) 0,jQ (h.nx+5) 0],.fn (.func 128) [] [jQ (h.nx+6) 0,jQ (h.nx+7) 0]] 85)).m.get (h.nx+3)=some (cQ (hdC [k]) 50):=by simp (disch:=first | omega | (simp only [Ac,Ag,Ai] <;> omega) | fail) only [Bh,Ca,Cd,Bb,Az];rfl
 have b4:=lG E (h.nx+4) (d:Blk);have b5:=lG E (h.nx+5) (cQ [.sl (h.nx+3) 0 1 1] 53);have b6:=lG E (h.nx+6) (cQ [.fn (.func 201) [] [jQ h.nx 0,jQ (h.nx+1) 0,jQ (h.nx+2) 0]] 45);have b8:=lG E (h.nx+8) (cQ [.fn (.func 102) [] [jQ (h.nx+4) 0,jQ (h.nx+5) 0],.fn (.func 128) [] [jQ (h.nx+6) 0,jQ (h.nx+7) 0]] 85);have nS:(((((((((h.new d).new k).new (cQ [sQ z] 9)).new k).new d).new (cQ [.sl (h.nx+3) 0 1 1] 53)).new (cQ [.fn (.func 201) [] [jQ h.nx 0,jQ (h.nx+1) 0,jQ (h.nx+2) 0]] 45)).new (cQ [iQ wQ 1] 37)).new (cQ [.fn (.func 102) [] [jQ (h.nx+4) 0,jQ (h.nx+5) 0],.fn (.func 128) [] [jQ (h.nx+6) 0,jQ (h.nx+7) 0]] 85)).nx=h.nx+9:=rfl;simp only [seval,go_sem,Pd,Gi];generalize hS:(((((((((h.new d).new k).new (cQ [sQ z] 9)).new k).new d).new (cQ [.sl (h.nx+3) 0 1 1] 53)).new (cQ [.fn (.func 201) [] [jQ h.nx 0,jQ (h.nx+1) 0,jQ (h.nx+2) 0]] 45)).new (cQ [iQ wQ 1] 37)).new (cQ [.fn (.func 102) [] [jQ (h.nx+4) 0,jQ (h.nx+5) 0],.fn (.func 128) [] [jQ (h.nx+6) 0,jQ (h.nx+7) 0]] 85))=S at *;have I:=pS.frz (i:=h.nx+3) tM b3;generalize hG:G.add (h.nx+3) (cQ (hdC [k]) 50)=Gf at *;have Df:=D.gro I;have ar:Arr Gf 2 (.sl (h.nx+3) 0 1 1) [k].length (hdC [k]):=Or.inr ⟨h.nx+3,0,Or.inl ⟨1,Nat.le_refl _,rfl⟩,by rw [← hG,Fz.rd_b Fz.add_at];rfl⟩;refine Ae (Ku (h:=S) (q:=h.nx+8) (n:=2) (cs:=[.fn (.func 102) [] [jQ (h.nx+4) 0,jQ (h.nx+5) 0],.fn (.func 128) [] [jQ (h.nx+6) 0,jQ (h.nx+7) 0]]) (fun _ h'=>Gro S Gf h') (Stp.refl I.st) rfl tM (fun i h' hi p=>(Ab (p.gt I.st.1 b8 (fun h=>h))).trans rfl)
  (fun i h' hi p=>by
   have O:=Df.gro p;have rd:∀ {j B},S.m.get j=some B→h'.m.get j=some B:=fun e=>p.gt I.st.1 e (fun h=>h)
   match i,hi with
   | 0,_=>exact ⟨102,[],_,rfl,(Aaz O ((Ab (rd b4)).trans rfl) ((Ab (rd b5)).trans rfl) ar (by simp) (fun k' U=>by rw [List.mem_singleton] at U;subst U;exact ⟨_,a⟩)).mono fun v h2 ⟨Z,q2⟩=>⟨Z,p.trans q2⟩⟩
   | 1,_=>exact ⟨128,[],_,rfl,(Hp ((Ab (rd b6)).trans rfl) (run201 O a Y hk ((Ab (rd E)).trans rfl) ((Ab (rd b1)).trans rfl) ((Ab (rd b2)).trans rfl) ht)).mono fun v h2 ⟨Z,q2⟩=>⟨Z,p.trans q2⟩⟩)) fun v h2 ⟨Z,J⟩=>?_
 subst Z;have r0:h2.read h.nx 0 1=some [jQ d 0]:=(Ab (J.gt I.st.1 E (fun h=>h))).trans rfl;have r1:h2.read (h.nx+1) 0 2=some [iQ uQ k.ix,iQ uQ k.gen]:=(Ab (J.gt I.st.1 b1 (fun h=>h))).trans rfl;have g2:=J.gt I.st.1 b2 (fun h=>h);simp only [seval,go_sem,r0,r1];have O:=Df.gro J;obtain ⟨aa,ab,n1,n2,n3,_⟩:=O.nodes k _ a;rw [Y] at n1;cases n1;obtain ⟨xv,cv,rfl,ha,hc⟩:=n3;have hL:=D.nd k nd Y;refine Ae (Uk O a Y n2 (nd':={ nd with text:=z }) (cs':=[iQ vQ nd.kind,sQ nd.tag,xv,sQ z,iQ wQ 0,iQ wQ 0,bQ false,iQ uQ (Ba nd.par).ix,iQ uQ (Ba nd.par).gen,cv]) ⟨xv,cv,rfl,ha,hc⟩ hL (fun h4 p4 g4=>set202 g4 ((Ab (p4.gt J.st.1 g2 (fun h=>h))).trans rfl))) fun _ h5 ⟨D5,p5⟩=>?_;simp only [seval,go_sem];exact ⟨Gf,D5,((I.trans J).mono fun _ h=>h.elim).in p5 (fun _ _ h=>h)⟩
end
def ixH (k:Hd):List Hd→Nat→Int
 | [],_=>-1
 | x::l,i=>if k=x then (i:Int) else ixH k l (i+1)
theorem Wz {k:Hd}:∀ {l:List Hd} {j i:Nat},l.Nodup→l[j]?=some k→ixH k l i=((i+j:Nat):Int)
 | x::l,0,i,_,h=>by cases h;rw [ixH,if_pos rfl];rfl
 | x::l,j+1,i,n,h=>by
  have hn:=List.nodup_cons.1 n;rw [List.getElem?_cons_succ] at h;rw [ixH,if_neg fun e:k=x=>hn.1 (e ▸ List.mem_of_getElem? h),Wz hn.2 h];congr 1;omega
section
variable {h h':H} {G G':Fz} {d b L p q:Nat} {m:D.M} {sl:List Sl} {k:Hd}
theorem Awk {v:AV} {l:List Hd} (s:St h G) (a:Arr G 2 v l.length (hdC l)) (hn:l.length≤1000000):Ans ctx 129 [v,hdA k] h fun r h'=>r=iQ wQ (ixH k l 0)∧Gro h G h':=by
 refine aO Tryz.f129 ?_;simp only [Tryz.f129];have p0:Gro h G (h.new k):=(Stp.refl s).new;simp only [seval,go_sem,a.len];refine Ao (fun (i:Nat) e h'=>Gro h G h'∧h'.read h.nx 0 2=some [iQ uQ k.ix,iQ uQ k.gen]∧i≤l.length∧ixH k l 0=ixH k (l.drop i) i∧e.get 0=some v∧e.get 3=some (jQ h.nx 0)∧e.get 7=some (iQ wQ l.length)∧e.get 8=some (iQ wQ i)) (fun i=>l.length - i) 0 ⟨p0,(Ab Au).trans rfl,Nat.zero_le _,rfl,by simp [Tr.get_set]⟩ ?_;rintro i e h' ⟨p,r0,hi,E,J,O,U,Y⟩ lp;simp only [seval,go_sem,J,O,U,Y];refine Cr (fun z=>?_) (fun z=>?_)
 ·have z:i < l.length:=by simpa using z
  have w:=wI i;obtain ⟨ab,ao,g1,g2⟩:=a.hd p.st z;rw [List.drop_eq_getElem_cons z,ixH] at E;generalize l[i]=x at g2 E;have c1:decide ((k.ix:Int)=(x.ix:Int))=decide (k.ix=x.ix):=decide_eq_decide.2 tM;have c2:decide ((k.gen:Int)=(x.gen:Int))=decide (k.gen=x.gen):=decide_eq_decide.2 tM;have I:(k=x)↔(k.ix=x.ix∧k.gen=x.gen):=⟨fun e=>by rw [e];exact ⟨rfl,rfl⟩,fun ⟨a,b⟩=>by obtain ⟨_,_⟩:=k;obtain ⟨_,_⟩:=x;simp only at a b;rw [a,b]⟩;simp only [seval,go_sem,J,O,U,Y,r0,g1,p.st.read g2,c1,c2];refine Cr (fun D=>?_) (fun D=>?_)
  ·simp only [Bool.and_eq_true,decide_eq_true_eq] at D;simp only [seval,go_sem];rw [E,if_pos (I.2 D)];exact ⟨rfl,p.up⟩
  ·have Z:¬ k=x:=fun e=>by
    obtain ⟨a,b⟩:=I.1 e;rw [decide_eq_true a,decide_eq_true b] at D;cases D
   simp only [seval,go_sem,J,O,U,Y,w];refine lp (i+1) _ _ tM ⟨p.up,r0,z,?_,by simp [Tr.get_set,J,O,U]⟩;rw [E,if_neg Z]
 ·have z:l.length≤i:=by simpa using z
  simp only [seval,go_sem];rw [E,List.drop_of_length_le z];exact ⟨rfl,p⟩
theorem Ph {v:AV} {l:List Hd} (s:St h G) (E:h.read p 9 1=some [v]) (a:Arr G 2 v l.length (hdC l)) (U:l.length≤1000000) (z:k=⟨0,0⟩∨1≤k.gen):Ans ctx 75 [jQ p 0,hdA k] h fun r h'=>r=iQ wQ (if k=⟨0,0⟩ then (l.length:Int) else ixH k l 0)∧Gro h G h':=by
 refine aO Tryz.f75 ?_;simp only [Tryz.f75];have I:Gro h G (h.new k):=(Stp.refl s).new;have lp:=Cq s.1 E;rcases z with rfl | z
 ·have c1:decide (((0:Nat):Int)=0)=true:=rfl;simp only [seval,go_sem,c1,lp,E,a.len];exact I
 ·have c1:decide ((k.gen:Int)=0)=false:=decide_eq_false tM;have D:¬ k=⟨0,0⟩:=fun e=>by rw [e] at z;exact absurd z tD
  have J:Gro h G ((h.new k).up 8):=I.up;obtain ⟨_,Z,O,rfl,Y⟩:=Awk (k:=k) J.st a U;rw [if_neg D];simp only [seval,go_sem,c1,lp,E,O];exact J.trans Y
inductive ChN (m:V.D.M) (k1:Hd):Nat→Hd→Prop
 | top {x nd}:m x=some nd→nd.par=none→x≠k1→ChN m k1 0 x
 | up {n x nd y}:m x=some nd→nd.par=some y→x≠k1→ChN m k1 n y→ChN m k1 (n+1) x
theorem Dm.g1 (D:Dm h G d m sl b L) {nd:Nd} (z:m k=some nd):1≤k.gen:=by
 obtain ⟨p,n,a⟩:=D.all k (by rw [z];exact Option.some_ne_none _);exact (D.gen k.ix _ a).1
theorem Tw {x k:Hd}:decide (((x.ix:Int)=(k.ix:Int)))=decide (x.ix=k.ix)∧decide (((x.gen:Int)=(k.gen:Int)))=decide (x.gen=k.gen)∧((x=k)↔(x.ix=k.ix∧x.gen=k.gen)) :=
 ⟨decide_eq_decide.2 tM,decide_eq_decide.2 tM,⟨fun e=>by rw [e];exact ⟨rfl,rfl⟩,fun ⟨a,b⟩=>by obtain ⟨_,_⟩:=k;obtain ⟨_,_⟩:=x;simp only at a b;rw [a,b]⟩⟩
theorem above73 {k1 O:Hd} {n0:Nat} (D:Dm h G d m sl b L) (hk:1≤k1.gen) (c:ChN m k1 n0 O):Ans ctx 73 [jQ d 0,hdA k1,hdA O] h fun r h'=>r=bQ false∧Gro h G h':=by
 refine aO Tryz.f73 ?_;simp only [Tryz.f73];have p0:Gro h G ((h.new k1).new O):=(Stp.refl D.s).new.new;simp only [seval,go_sem];refine Ao (fun (n:Nat) e h'=>∃ x:Hd,Gro h G h'∧h'.m.get h.nx=some (k1:Blk)∧h'.m.get (h.nx+1)=some (x:Blk)∧((n=0∧x=⟨0,0⟩)∨∃ n',n=n' + 1∧ChN m k1 n' x)∧e.get 0=some (jQ d 0)∧e.get 4=some (jQ h.nx 0)∧e.get 5=some (jQ (h.nx+1) 0)) (fun n=>n) (n0+1) ?_ ?_
 ·exact ⟨O,p0,by simp (disch:=first | omega | (simp only [Ac,Ag,Ai] <;> omega) | fail) only [Bh,Ca,Cd,Bb,Az],by simp (disch:=first | omega | (simp only [Ac,Ag,Ai] <;> omega) | fail) only [Bh,Ca,Cd,Bb,Az],Or.inr ⟨n0,rfl,c⟩,by simp [Tr.get_set]⟩
 rintro n e h' ⟨x,p,g0,g1,hx,I,e4,J⟩ lp;have r0:h'.read h.nx 0 2=some [iQ uQ k1.ix,iQ uQ k1.gen]:=(Ab g0).trans rfl;have r1:h'.read (h.nx+1) 0 2=some [iQ uQ x.ix,iQ uQ x.gen]:=(Ab g1).trans rfl;rcases hx with ⟨rfl,rfl⟩ | ⟨n',rfl,U⟩
 ·have c1:decide (((0:Nat):Int)=0)=true:=rfl;have c2:decide (((0:Nat):Int)=(k1.gen:Int))=false:=decide_eq_false tM;simp only [seval,go_sem,I,e4,J,r0,r1,c1,c2];exact ⟨by rw [show decide ((0:Int)=(k1.gen:Int))=false from decide_eq_false tM,Bool.and_false],p⟩
 ·have Y:x≠k1:=by cases U <;> assumption
  obtain ⟨nd,z⟩:∃ nd,m x=some nd:=by cases U <;> exact ⟨_,tA⟩
  have hg:=D.g1 z;obtain ⟨q,a⟩:=D.all x (by rw [z];exact Option.some_ne_none _);have c1:decide ((x.gen:Int)=0)=false:=decide_eq_false tM;have c2:(decide (x.ix=k1.ix) && decide (x.gen=k1.gen))=false:=by
   cases hh:(decide (x.ix=k1.ix) && decide (x.gen=k1.gen)) with
   | false=>rfl
   | true =>
    simp only [Bool.and_eq_true,decide_eq_true_eq] at hh;exact absurd (Tw.2.2.2 hh) Y
  simp only [seval,go_sem,I,e4,J,r0,r1,c1,Tw.1,Tw.2.1,c2];refine Ae (Ie (D.gro p) a) fun v h3 ⟨q1,Z⟩=>?_;subst q1;have p4:=p.trans Z;obtain ⟨nd',vc,n1,n2,⟨av,cv,rfl,_⟩,_⟩:=(D.gro p4).nodes x q a;rw [z] at n1;cases n1;have k0:=Z.gt p.st.1 g0 (fun h=>h);have E:=Z.gt p.st.1 g1 (fun h=>h);have rq:h3.read q 7 2=some [iQ uQ (Ba nd.par).ix,iQ uQ (Ba nd.par).gen]:=(Ab n2).trans rfl;simp only [seval,go_sem,rq,E,I,e4,J];have p5:∀ {B},Gro h G (h3.at (h.nx+1) B):=fun {B}=>p4.at (Or.inl tM) (Ah p4.st.1 E) (D.s.none tM);refine lp n' _ _ tM ⟨Ba nd.par,p5,(An tM).trans k0,Ap,?_,by simp [Tr.get_set,I,e4,J]⟩;cases U with
  | top h1 h2 _ =>
   rw [z] at h1;cases h1;rw [h2];exact Or.inl ⟨rfl,rfl⟩
  | up h1 h2 _ c' =>
   rw [z] at h1;cases h1;rw [h2];exact Or.inr ⟨_,rfl,c'⟩
theorem ins77 {lo n i j:Nat} {s:AV} {l:List Hd} {k:Hd} (o:Own h lo 50 2 s n (hdC l)) (hn:l.length=n) (st:St h G) (hg:∀ q,VB s q→G q=none) (hi:i≤n) (hj:∀ q,VB s q→q≠j) (h7:n≤10000000) (Z:h.read j 0 2=some [iQ uQ k.ix,iQ uQ k.gen]) (hx:∃ cs t,h.m.get j=some (cQ cs t)) :
  ∃ h',FW ctx 77 [s,iQ wQ i,.sl j 0 1 1] h=some (.sr h.nx 0 0 (n+1),h')∧h'.m.get h.nx=some (oQ (hdC (V.D.insH l i k)) (n+1) 50 2)∧Stp (VB s) h G h' G∧h'.nx=h.nx+1:=by
 have J:Gz i 2 (hdC l) [iQ uQ k.ix,iQ uQ k.gen]=hdC (V.D.insH l i k):=by
  unfold Gz V.D.insH;rw [Mp,Gq,Mq];rfl
 have O:Eo (i:Int)=some i:=rfl;have z:Af [iQ uQ k.ix,iQ uQ k.gen]=true:=rfl;have E:Aee h j=true:=by obtain ⟨cs,t,hx⟩:=hx;unfold Aee;rw [hx]
 rcases o with ⟨rfl,rfl,Y⟩ | ⟨q,hq,rfl,rfl,Y,U⟩ | ⟨q,hq,rfl,U,_⟩
 ·have I:i=0:=tM;subst I;refine ⟨h.new (oQ (hdC (V.D.insH l 0 k)) 1 50 2),Fa ?_,Au,(Stp.refl st).new,rfl⟩;show some (I8 50 2 [(():AV),iQ wQ (0:Nat),.sl j 0 1 1] h)=_;unfold I8;simp only [Mj,O,Z,z,E,Bool.and_self];rw [← J,Y];rfl
 ·have I:i=0:=tM;subst I;refine ⟨h.new (oQ (hdC (V.D.insH l 0 k)) 1 50 2),Fa ?_,Au,(Stp.refl st).new,rfl⟩;show some (I8 50 2 [.sl q 0 0 0,iQ wQ (0:Nat),.sl j 0 1 1] h)=_;have aa:h.read q 0 0=some []:=by unfold H.read;rw [U];rfl
  unfold I8;simp only [Mj,O,Z,z,E,Bool.and_self,aa];rw [← J,Y];rfl
 ·refine ⟨(h.dl q).new (oQ (hdC (V.D.insH l i k)) (n+1) 50 2),Fa ?_,Au,((Stp.refl st).dl (Or.inr ⟨n,rfl⟩) (hg q ⟨n,rfl⟩)).new,rfl⟩;show some (I8 50 2 [.sr q 0 0 n,iQ wQ i,.sl j 0 1 1] h)=_;have ab:Nat.beq q j=false:=by rw [J2];exact decide_eq_false (hj q ⟨n,rfl⟩)
  have ac:Hg 50 2 n q h=some (hdC l):=by
   unfold Hg;simp only [U,Nat.beq_refl];rfl
  unfold I8;simp only [Mj,O,Z,z,E,Bool.and_self];unfold Awg;simp only [Nat.ble_eq_true_of_le hi,Nat.ble_eq_true_of_le h7,ab,ac,Bool.not_false,Bool.and_self];rw [← J];rfl
theorem del183 {lo n i:Nat} {s:AV} {l:List Hd} (o:Own h lo 50 2 s n (hdC l)) (hn:l.length=n) (st:St h G) (U:∀ q,VB s q→G q=none) (Y:i < n) :
  ∃ h',FW ctx 183 [s,iQ wQ i,iQ wQ (i+1:Nat)] h=some (.sr h.nx 0 0 (n - 1),h')∧h'.m.get h.nx=some (oQ (hdC (V.D.delI l i)) (n - 1) 50 2)∧Stp (VB s) h G h' G∧h'.nx=h.nx+1:=by
 have z:(hdC l).take (i * 2)++(hdC l).drop ((i+1) * 2)=hdC (V.D.delI l i):=by
  unfold V.D.delI;rw [Mp,Gq,Mq]
 rcases o with ⟨rfl,rfl,O⟩ | ⟨q,Z,rfl,rfl,O,J⟩ | ⟨q,Z,rfl,J,_⟩
 ·omega
 ·omega
 ·refine ⟨(h.dl q).new (oQ (hdC (V.D.delI l i)) (n - 1) 50 2),Fa ?_,Au,((Stp.refl st).dl (Or.inr ⟨n,rfl⟩) (U q ⟨n,rfl⟩)).new,rfl⟩;show some (Ow 50 2 [iQ uQ 0,iQ uQ 0] [.sr q 0 0 n,iQ wQ i,iQ wQ (i+1:Nat)] h)=_;have E:∀ j:Nat,Eo (j:Int)=some j:=fun _=>rfl;have I:Hg 50 2 n q h=some (hdC l):=by
   unfold Hg;simp only [J,Nat.beq_refl];rfl
  unfold Ow;simp only [Mj,E,Nat.beq_refl];unfold Axn;simp only [Nat.ble_eq_true_of_le (show i+1≤n from Y),I];rw [z];rfl
end
end Go.V
