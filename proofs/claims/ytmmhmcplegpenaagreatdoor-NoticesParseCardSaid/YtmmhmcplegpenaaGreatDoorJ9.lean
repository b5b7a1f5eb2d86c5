/- The walks, part Z. · Lists: lists in new memory, entry by entry; what 'do' hands back. · The walks, part LE. · The walks, part LF. · The walks, part LG. · The walks, part LH. -/
import Derived.Test.YtmmhmcplegpenaaGreatDoorJ8
namespace Go.Proofs.YtmmhmcplegpenaaGreatDoor
open Go Go.Y Go.Proofs
set_option linter.unusedSimpArgs false
set_option linter.unusedVariables false
def ROWM (a:Option Addr) (k:Nat) (m:List Value):Res:=.row (.slice a k k) k m 9 1
/-- A cell row of a copy: its marks are an owned row of the list. -/
def rdC (Ls:List Res):Rd ItemD:=fun G cs x=>∃ (a:Option Addr) (m:List Value),cs=[.int .u64 ((x.key:Nat):Int),.int .u8 ((x.typ:Nat):Int),.string (str x.text),.slice a x.marks.length x.marks.length] ∧
 x.key < 18446744073709551616∧x.typ < 256∧x.text.length≤9223372036854775807∧x.marks.length≤9223372036854775807∧ROWM a x.marks.length m∈Ls∧Els Dw 1 G m x.marks
def Abt (Ls:List Res):Rd (ItemD × Bool):=fun G cs p=>(p.2=true→rdC Ls G cs p.1)∧(p.2=false→Cn G cs p.1)
theorem Ajz {Ls:List Res}:I9 (rdC Ls):=by
 rintro G G' cs x h ⟨a,m,h1,h2,h3,h4,h5,h6,h7⟩
 exact ⟨a,m,h1,h2,h3,h4,h5,h6,h7.mono Bn h⟩
theorem Afy {Ls:List Res} {r:Res} {G:A4} {cs:List Value} {p:ItemD × Bool} (h:Abt Ls G cs p):Abt (r::Ls) G cs p:=⟨fun e=>by
 obtain ⟨a,m,h1,h2,h3,h4,h5,h6,h7⟩:=h.1 e
 exact ⟨a,m,h1,h2,h3,h4,h5,List.mem_cons_of_mem _ h6,h7⟩,h.2⟩
theorem Z1 {Ls:List Res} {r:Res} {G:A4}:∀ {ys:List (ItemD × Bool)} {cs:List Value},Els (Abt Ls) 4 G cs ys→Els (Abt (r::Ls)) 4 G cs ys
 | [],cs,h=>h
 | y::ys,cs,h=>by
  obtain ⟨c,r',h1,h2,h3,h4⟩:=h
  exact ⟨c,r',h1,h2,Afy h3,Z1 h4⟩
def ysF (xs:List ItemD) (i:Nat):List (ItemD × Bool):=(xs.take i).map (·,true)++(xs.drop i).map (·,false)
theorem ysF_get {xs:List ItemD} {i:Nat} {x:ItemD} (h:xs[i]?=some x):(ysF xs i)[i]?=some (x,false):=by
 have hi:=Bj h
 unfold ysF
 rw [List.getElem?_append_right (by simp;omega),List.length_map,List.length_take,Nat.min_eq_left (by omega),Nat.sub_self,List.getElem?_map,List.getElem?_drop,Nat.add_zero,h];rfl
theorem ysF_set {xs:List ItemD} {i:Nat} {x:ItemD} (h:xs[i]?=some x):(ysF xs i).set i (x,true)=ysF xs (i+1):=by
 have hi:=Bj h
 have hl:((xs.take i).map (·,true)).length=i:=by simp;omega
 unfold ysF
 have hx:xs[i]=x:=by rw [List.getElem?_eq_getElem hi] at h;simpa using h
 have hdr:xs.drop i=x::xs.drop (i+1):=by rw [List.drop_eq_getElem_cons hi,hx]
 rw [List.set_append_right _ _ (by omega),hl,Nat.sub_self,List.take_add_one,h,hdr]
 simp
theorem Z0 {G:A4}:∀ {xs:List ItemD} {cs:List Value},Els Cn 4 G cs xs→Els (Abt []) 4 G cs (ysF xs 0)
 | [],cs,h=>h
 | x::xs,cs,h=>by
  obtain ⟨c,r',h1,h2,h3,h4⟩:=h
  exact ⟨c,r',h1,h2,⟨(fun e=>by cases e),fun _=>h3⟩,Z0 h4⟩
theorem Aml {G:A4} {Ls:List Res} {xs:List ItemD} {cs:List Value} {i:Nat} (h:Els (Abt Ls) 4 G cs (ysF xs i)) (hi:xs.length≤i):Els (rdC Ls) 4 G cs xs:=by
 have e:ysF xs i=xs.map (·,true):=by unfold ysF;rw [List.take_of_length_le hi,List.drop_eq_nil_of_le hi];simp
 rw [e] at h
 clear e hi
 induction xs generalizing cs with
 | nil=>exact h
 | cons x xs ih =>
  obtain ⟨c,r',h1,h2,h3,h4⟩:=h
  exact ⟨c,r',h1,h2,h3.1 rfl,ih h4⟩
theorem Amr {w0 w:World} {G:A4} {L:List Res} (M:Mem w0 G L w) {a1:Option Addr} {c1:Nat} {xs:List ItemD} (S:Ay Cn 4 G (.slice a1 xs.length c1) xs) (hN:xs.length≤1000000) (hM:∀ x∈xs,x.marks.length≤1000000) :
  Calls Tryz.prog 15 #[.slice a1 xs.length c1] w (J7 w0 G fun L' v=>∃ (a:Option Addr) (cs:List Value) (Ls:List Res),v=.slice a xs.length xs.length∧L' = (.row (.slice a xs.length xs.length) xs.length cs 26 4::(Ls++L))∧Els (rdC Ls) 4 G cs xs):=by
 refine Az (vs:=[_]) Tryz.func15 rfl (n:=24) rfl rfl<|Ab<|Ac<|Af rfl<|Aa<|Ad<|Ab<|Ac<|Ae rfl<|Pi ent54 rfl rfl (Aes (xs:=xs) M S (by omega))<|?_;clear M;rintro _ _ w M ⟨aq1,csq1,rfl,rfl,Eq1⟩
 refine Af rfl<|Aa<|Ad<|Ab<|Ab<|Ac<|Ae rfl<|Cg B5.k rfl<|Ae rfl<|Aa<|Ad<|A3<|?_
 have E0:=Z0 Eq1
 intro a F
 refine B8 (fun m a' w'=>∃ (i:Nat),∃ (Ls:List Res),∃ (cso:List Value),m=xs.length - i∧Fits 24 a' [(3,.slice aq1 xs.length xs.length),(7,.slice aq1 xs.length xs.length),(8,.int .i64 ((xs.length:Nat):Int)),(9,.int .i64 ((i:Nat):Int))]∧Mem w0 G (.row (.slice aq1 xs.length xs.length) (xs.length) (cso) 26 4::(Ls++L)) w'∧(i≤xs.length)∧(Els (Abt Ls) 4 G cso (ysF xs i))) _ ⟨0,[],csq1,rfl,F.to ⟨rfl,rfl,rfl,rfl,trivial⟩,M,Nat.zero_le _,E0⟩ ?_
 clear F M
 rintro m a w ⟨i,Ls,cso,rfl,F,M,hi,Eo⟩
 revert a
 refine Ab<|Ac<|Df rfl rfl<|Aa<|Ad<|Ab<|Av rfl ?_ ?_
 ·intro h2b
  have h2:=dT h2b
  refine Au<|Ad<|Ab<|A3<|Ab<|Ac<|Ae rfl<|Af rfl<|Aa<|Ad<|?_
  obtain ⟨Xi,hXi⟩:=Be (xs:=xs) (i:=i) (by omega)
  have hYi:=ysF_get hXi
  refine Ac<|Ae rfl<|Ae rfl<|Ae rfl<|Ae rfl<|?_
  obtain ⟨be3,_,Ie3,hme3,_,Ae3,hTe3⟩:=M.atRow (k:=0) rfl (by decide) Eo hYi
  obtain ⟨mae3,mce3,rfl,hke3,hte3,hxe3,hne3,SMe3⟩:=hTe3.2 rfl
  refine Fp B5.k A1 Ie3 rfl rfl<|Bc A1.k rfl rfl<|Aip Cd Ae3 3 rfl rfl rfl rfl<|Pi ent55 rfl rfl (Aer (xs:=Xi.marks) M SMe3 (hM Xi (List.mem_of_getElem? hXi)))<|?_;clear M;rintro _ _ w M ⟨aq4,csq4,rfl,rfl,Eq4⟩
  have em5:=Z1 (r:=.row (.slice aq4 Xi.marks.length Xi.marks.length) (Xi.marks.length) (csq4) 9 1) Eo
  obtain ⟨be6,_,Ie6,hme6,_,Ae6,hTe6⟩:=M.atRow (k:=1) rfl (by decide) em5 hYi
  obtain ⟨mae6,mce6,rfl,hke6,hte6,hxe6,hne6,SMe6⟩:=hTe6.2 rfl
  refine Fp B5.k A1 Ie6 rfl rfl<|Bc A1.k rfl rfl<|fun a F=>?_
  refine Ju F M Cd rfl (k:=1) rfl em5 Ie6 hYi (f:=3) (by decide) rfl rfl rfl rfl (X':=(Xi,true)) (fun ch _ h=>⟨fun _=>by obtain ⟨a_,c_,rfl,h1,h2,h3,h4,_⟩:=h.2 rfl;exact ⟨aq4,csq4,rfl,h1,h2,h3,h4,List.mem_cons_self,Eq4⟩,fun h_=>by cases h_⟩) ?_;clear F M a;intro csu7 w a M Eu7 F
  revert a
  refine Aa<|C0<|Ad<|?_
  replace M:=M.perm (Ao _ 1 _ rfl)
  change Mem w0 G (_::_::(Ls++L)) _ at M
  change Mem w0 G (.row (.slice aq1 xs.length xs.length) (xs.length) (csu7) 26 4::((.row (.slice aq4 Xi.marks.length Xi.marks.length) (Xi.marks.length) (csq4) 9 1::Ls)++L)) _ at M
  refine Ac<|B9 rfl rfl<|Ae rfl<|Aa<|Ad<|fun a F=>?_
  exact ⟨_,by omega,i+1,(.row (.slice aq4 Xi.marks.length Xi.marks.length) (Xi.marks.length) (csq4) 9 1::Ls),csu7,rfl,F.to ⟨rfl,rfl,rfl,rfl,trivial⟩,M,by omega,by have h_:=Eu7;rwa [ysF_set hXi] at h_⟩
 ·intro h8b
  have h8:=dF h8b
  refine B1<|Bx<|Bx<|Dj<|Ad<|Ab<|Ac<|Ae rfl<|Af rfl<|Aa<|Ad<|Aj<|Al rfl rfl<|?_
  exact ⟨_,M,_,_,Ls,rfl,rfl,Aml Eo (by omega)⟩
open Go Go.Y
set_option linter.unusedSimpArgs false
set_option linter.unusedVariables false
/-- A cell row of an entry whose marks are an owned row of the list. -/
def Nx (Ls:List Res):Rd EntD:=fun G cs x=>∃ c1,cs=c1++[.int .i64 x.size,.bool x.known]∧rdC Ls G c1 x.item∧A2 .i64 x.size
theorem Agp {Ls:List Res}:I9 (Nx Ls):=by
 rintro G G' cs x h ⟨c1,h1,h2,h3⟩
 exact ⟨c1,h1,Ajz _ _ _ _ h h2,h3⟩
def Abs (Ls:List Res):Rd (Option EntD):=fun G cs o=>match o with
 | some x=>Nx Ls G cs x
 | none=>True
theorem Ago {Ls:List Res}:I9 (Abs Ls):=by
 intro G G' cs o h hr
 cases o with
 | none=>trivial
 | some x=>exact Agp _ _ _ _ h hr
theorem Adp {Ls Ls':List Res} (hs:∀ r∈Ls,r∈Ls') {G:A4} {cs:List Value} {x:ItemD} (h:rdC Ls G cs x):rdC Ls' G cs x:=by
 obtain ⟨a,m,h1,h2,h3,h4,h5,h6,h7⟩:=h
 exact ⟨a,m,h1,h2,h3,h4,h5,hs _ h6,h7⟩
theorem Ajg {Ls Ls':List Res} (hs:∀ r∈Ls,r∈Ls') {G:A4} {cs:List Value} {x:EntD} (h:Nx Ls G cs x):Nx Ls' G cs x:=by
 obtain ⟨c1,h1,h2,h3⟩:=h
 exact ⟨c1,h1,Adp hs h2,h3⟩
theorem V0 {Ls Ls':List Res} (hs:∀ r∈Ls,r∈Ls') {G:A4}:∀ {ys:List (Option EntD)} {cs:List Value},Els (Abs Ls) 6 G cs ys→Els (Abs Ls') 6 G cs ys
 | [],cs,h=>h
 | y::ys,cs,h=>by
  obtain ⟨c,r',h1,h2,h3,h4⟩:=h
  refine ⟨c,r',h1,h2,?_,V0 hs h4⟩
  cases y with
  | none=>trivial
  | some x=>exact Ajg hs h3
theorem V1 {Ls:List Res} {G:A4}:∀ {ys:List EntD} {cs:List Value},Els (Abs Ls) 6 G cs (ys.map some)→Els (Nx Ls) 6 G cs ys
 | [],cs,h=>h
 | y::ys,cs,h=>by
  obtain ⟨c,r',h1,h2,h3,h4⟩:=h
  exact ⟨c,r',h1,h2,h3,V1 h4⟩
theorem Tt {w0 w:World} {G:A4} {L Ls LL:List Res} (hsub:∀ x∈Ls,x∈LL) (M:Mem w0 G (LL++L) w):∀ {xs:List EntD} {cs:List Value},Els (Nx Ls) 6 G cs xs→Els C2 6 (O1 G LL w) cs xs
 | [],cs,h=>h
 | x::xs,cs,h=>by
  obtain ⟨c,r',h1,h2,⟨c1,e1,⟨a,m,e2,k1,k2,k3,k4,hm,hE⟩,h3⟩,h4⟩:=h
  exact ⟨c,r',h1,h2,⟨c1,e1,⟨a,x.item.marks.length,e2,k1,k2,k3,k4,Zl M (hsub _ hm) (hE.mono Bn M.lend.1) (by decide)⟩,h3⟩,Tt hsub M h4⟩
/-- The entries in new memory: their row and the rows of their marks. -/
def Cw (a:Option Addr) (n:Nat) (cs:List Value):Res:=.row (.slice a n n) n cs 69 6
theorem Yx {w0 w:World} {G:A4} {L Ls:List Res} {a:Option Addr} {cs:List Value} {xs:List EntD} (M:Mem w0 G ((Cw a xs.length cs::Ls)++L) w) (E:Els (Nx Ls) 6 G cs xs) :
  Ay C2 6 (O1 G (Cw a xs.length cs::Ls) w) (.slice a xs.length xs.length) xs :=
 Zl (t:=69) M (by simp [Cw]) (Tt (fun x hx=>List.mem_cons_of_mem _ hx) M E) (by decide)
theorem Cm (A R L:List Res):(A++(R++L)).Perm (R++(A++L)):=by
 rw [← List.append_assoc,← List.append_assoc]
 exact List.Perm.append_right L List.perm_append_comm
section
variable {α β:Type}
/-- The first i of a list made over, the rest as it was made. -/
def N0 (f:α→β) (z:β) (xs:List α) (i:Nat):List β:=(xs.take i).map f++List.replicate (xs.length - i) z
theorem Zf (f:α→β) (z:β) (xs:List α):N0 f z xs 0=List.replicate xs.length z:=by simp [N0]
theorem Ady (f:α→β) (z:β) (xs:List α) (i:Nat):(N0 f z xs i).length=xs.length:=by simp [N0];omega
theorem Adx {f:α→β} {z:β} {xs:List α} {i:Nat} {x:α} (h:xs[i]?=some x):(N0 f z xs i).set i (f x)=N0 f z xs (i+1):=by
 have hi:=Bj h
 have hl:((xs.take i).map f).length=i:=by simp;omega
 have e:xs.length - i=(xs.length - (i+1))+1:=by omega
 unfold N0
 rw [List.set_append_right _ _ (by omega),hl,Nat.sub_self,List.take_add_one,h,e,List.replicate_succ,List.set_cons_zero]
 simp
theorem Adz {f:α→β} {z:β} {xs:List α} {i:Nat} (h:xs.length≤i):N0 f z xs i=xs.map f:=by
 unfold N0
 rw [List.take_of_length_le h,show xs.length - i=0 by omega];simp
end
/-- What 'do' hands back. -/
def doR (cE:Int) (ins:Bool) (cnt:Int) (f:Nat→Int) (n:Nat) (out:List EntD):List EntD × Int :=
 if cE≠0 then ([],cE) else if ins=false then ([],4) else if 1024 < cnt then ([],3) else if Ce f n≠0 then ([],Ce f n) else if Ej out≠0 then ([],Ej out) else (out,0)
section
variable {cE:Int} {ins:Bool} {cnt:Int} {f:Nat→Int} {n:Nat} {out:List EntD}
theorem Amm (h:cE=0) (h1:ins=false):doR cE ins cnt f n out=([],4):=by unfold doR;rw [if_neg (not_not_intro h),if_pos h1]
theorem do_3 (h:cE=0) (h1:ins=true) (h2:1024 < cnt):doR cE ins cnt f n out=([],3):=by unfold doR;rw [if_neg (not_not_intro h),if_neg (by simp [h1]),if_pos h2]
theorem do_e {i:Nat} {z:Int} (h:cE=0) (h1:ins=true) (h2:¬ 1024 < cnt) (h3:Ce f i=0) (hi:i < n) (hz:f i=z) (h0:z≠0):doR cE ins cnt f n out=([],z):=by
 have:=N6 h3 hi (by rw [hz];exact h0)
 unfold doR;rw [if_neg (not_not_intro h),if_neg (by simp [h1]),if_neg h2,if_pos (by rw [this,hz];exact h0),this,hz]
theorem Ahk (h:cE=0) (h1:ins=true) (h2:¬ 1024 < cnt) (h3:Ce f n=0) (h4:Ej out≠0):doR cE ins cnt f n out=([],Ej out):=by
 unfold doR;rw [if_neg (not_not_intro h),if_neg (by simp [h1]),if_neg h2,if_neg (not_not_intro h3),if_pos h4]
theorem Nc (h:cE=0) (h1:ins=true) (h2:¬ 1024 < cnt) (h3:Ce f n=0) (h4:Ej out=0):doR cE ins cnt f n out=(out,0):=by
 unfold doR;rw [if_neg (not_not_intro h),if_neg (by simp [h1]),if_neg h2,if_neg (not_not_intro h3),if_neg (not_not_intro h4)]
end
open Classical in
/-- The error of an item that comes in, with what is wrong with its key. -/
noncomputable def inE (c:RulesD) (x:ItemD) (k:Int):Int:=if ¬ ItemOk (c.kinds.length:Int) x then 6 else if k≠0 then k else Iu c x
theorem Aeh {c:RulesD} {x:ItemD} {k:Int} (h:¬ ItemOk (c.kinds.length:Int) x):inE c x k=6:=by unfold inE;rw [if_pos h]
theorem Aky {c:RulesD} {x:ItemD} {k:Int} (h:ItemOk (c.kinds.length:Int) x) (h2:k≠0):inE c x k=k:=by unfold inE;rw [if_neg (not_not_intro h),if_pos h2]
theorem Aeg {c:RulesD} {x:ItemD} {k:Int} (h:ItemOk (c.kinds.length:Int) x) (h2:k=0):inE c x k=Iu c x:=by unfold inE;rw [if_neg (not_not_intro h),if_neg (not_not_intro h2)]
noncomputable def J6 (c:RulesD) (xs:List ItemD) (fK:Nat→Int) (i:Nat):Int:=match xs[i]? with
 | some x=>inE c x (fK i)
 | none=>0
theorem Tg {c:RulesD} {xs:List ItemD} {fK:Nat→Int} {i:Nat} {x:ItemD} (h:xs[i]?=some x):J6 c xs fK i=inE c x (fK i):=by unfold J6;rw [h]
theorem Aef {c:RulesD} {xs:List ItemD} {fK:Nat→Int} {n:Nat} (h:Ce (J6 c xs fK) n=0) (hn:xs.length≤n):∀ x∈xs,ItemOk (c.kinds.length:Int) x:=by
 intro x hx
 obtain ⟨i,hi⟩:=List.mem_iff_getElem?.1 hx
 have h1:=E3.1 h i (by have:=Bj hi;omega)
 rw [Tg hi] at h1
 exact Classical.byContradiction fun h2=>by rw [Aeh h2] at h1;cases h1
theorem in_step {c:RulesD} {xs:List ItemD} {fK:Nat→Int} {i:Nat} {x:ItemD} (h:Ce (J6 c xs fK) i=0) (hx:xs[i]?=some x) (hz:inE c x (fK i)=0):Ce (J6 c xs fK) (i+1)=0:=by rw [Hn h,Tg hx,hz]
open Go Go.Y Go.Proofs
variable {w0 w:World} {G:A4} {L:List Res}
set_option linter.unusedSimpArgs false
set_option linter.unusedVariables false
theorem Tj (M:Mem w0 G L w) {c:RulesD} {kca:Option Addr} {kcc:Nat} (SC:Ay Du 9 G (.slice kca c.kinds.length kcc) c.kinds) {ta:Option Addr} {tc:Nat} {xs:List ItemD} (T:Ay Cn 4 G (.slice ta xs.length tc) xs) (hN:xs.length≤1000000) (hok:∀ x∈xs,ItemOk (c.kinds.length:Int) x):Calls Tryz.prog 160 #[.agg #[.slice kca c.kinds.length kcc,.int .i64 c.cap],.slice ta xs.length tc] w (Ret w0 G L fun G' v=>∃ (a:Option Addr) (cc:Nat),v=.slice a (xs.map (C8 c)).length cc∧Ay C2 6 G' (.slice a (xs.map (C8 c)).length cc) (xs.map (C8 c))):=by
 have bT:=T.bound
 refine Az (vs:=[_,_]) Tryz.func160 rfl (n:=32) rfl rfl<|Ab<|Ac<|C4 M rfl rfl rfl<|?_;clear M;intro b1 w M
 refine Af rfl<|Aa<|Ad<|Ab<|Ac<|Ae rfl<|Cg B5.k rfl<|fun a F=>?_
 refine rl_make (rd:=C2) (Z:=(⟨⟨0,0,[],[]⟩,0,false⟩:EntD)) F M C3.k De rfl (by decide) rfl rfl (l:=xs.length) (by omega) rfl (by omega) (by show 72 * _≤_;omega) (by omega) (by simp [ti69,Value.cells,Value.oneCell']) (⟨[.int .u64 0,.int .u8 0,.string (str []),.slice none 0 0],rfl,⟨none,0,rfl,by decide,by decide,by decide,by decide,Ay.nil⟩,⟨by decide,by decide⟩⟩) rfl ?_;clear F M a;intro v2 csv2 w a M Ev2 F
 obtain ⟨av2,cv2,rfl,hlev2,hcmv2,hlv2⟩:=M.row_shape (k:=0) rfl
 revert a
 refine Af rfl<|Aa<|Ad<|Ab<|Ab<|Ac<|Ae rfl<|Cg B5.k rfl<|Ae rfl<|Aa<|Ad<|A3<|?_
 have E0:Els C2 6 G csv2 (N0 (C8 c) (⟨⟨0,0,[],[]⟩,0,false⟩:EntD) xs 0):=by rw [Zf];exact Ev2
 intro a F
 refine B8 (fun m a' w'=>∃ (i:Nat),∃ (cso:List Value),m=xs.length - i∧Fits 32 a' [(2,.pointer (some ⟨b1,0,none⟩)),(5,.slice av2 xs.length cv2),(11,.slice ta xs.length tc),(12,.int .i64 ((xs.length:Nat):Int)),(13,.int .i64 ((i:Nat):Int))]∧Mem w0 G (.row (.slice av2 xs.length cv2) (xs.length) (cso) 69 6::.blk b1 [.slice kca c.kinds.length kcc,.int .i64 c.cap] 51::L) w'∧(i≤xs.length)∧(Els C2 6 G cso (N0 (C8 c) (⟨⟨0,0,[],[]⟩,0,false⟩:EntD) xs i))) _ ⟨0,csv2,rfl,F.to ⟨rfl,rfl,rfl,rfl,rfl,trivial⟩,M,Nat.zero_le _,E0⟩ ?_
 clear F M
 rintro m a w ⟨i,cso,rfl,F,M,hi,Eo⟩
 revert a
 refine Ab<|Ac<|Df rfl rfl<|Aa<|Ad<|Ab<|Av rfl ?_ ?_
 ·intro h3b
  have h3:=dT h3b
  refine Au<|Ad<|Ab<|A3<|Ab<|?_
  obtain ⟨Xi,hXi⟩:=Be (xs:=xs) (i:=i) (by omega)
  obtain ⟨k,hK⟩:=O2 (hok Xi (List.mem_of_getElem? hXi))
  have hml:=Ady (C8 c) (⟨⟨0,0,[],[]⟩,0,false⟩:EntD) xs i
  refine Ac<|Ae rfl<|?_
  obtain ⟨be4,oe4,_,Ie4,_,Ae4,hTe4⟩:=T.at hXi
  obtain ⟨mae4,mce4,rfl,hke4,hte4,hxe4,hne4,SMe4⟩:=hTe4
  have hIe4:(Xi.key < 18446744073709551616∧Xi.typ < 256∧Xi.text.length≤9223372036854775807):=⟨hke4,hte4,hxe4⟩
  refine Fp B5.k A1 Ie4 rfl rfl<|Ap (fun a F=>Am A1 rfl (F.ev rfl) (cs:=[.int .u64 ((Xi.key:Nat):Int),.int .u8 ((Xi.typ:Nat):Int),.string (str Xi.text),.slice mae4 Xi.marks.length mce4]) rfl (M.cellsA Ae4 0 (by omega) rfl)) rfl<|Cz M A1 rfl rfl<|?_;clear M;intro b5 w M
  refine Af rfl<|fun a F=>?_
  refine Ar F M A1 (k:=0) rfl rfl rfl (us:=[.int .u64 ((Xi.key:Nat):Int),.int .u8 ((Xi.typ:Nat):Int),.string (str Xi.text),.slice mae4 Xi.marks.length mce4]) rfl rfl (by simp [Value.oneCell']) (by simp) ?_;clear F M a;intro w a M F
  change Mem w0 G (.blk b5 [.int .u64 ((Xi.key:Nat):Int),.int .u8 ((Xi.typ:Nat):Int),.string (str Xi.text),.slice mae4 Xi.marks.length mce4] 26::_::_::L) _ at M
  revert a
  refine Aa<|Ad<|fun a F=>Fw [(true,0),(true,1),(true,2),(true,3),(true,4),(true,5),(true,6),(true,7),(true,8),(true,9),(true,10),(true,11),(false,12)] (Keep G [.blk b5 [.int .u64 ((Xi.key:Nat):Int),.int .u8 ((Xi.typ:Nat):Int),.string (str Xi.text),.slice mae4 Xi.marks.length mce4] 26,.blk b1 [.slice kca c.kinds.length kcc,.int .i64 c.cap] 51]) rfl (by kernel_rfl) (fun c a d v w h=>by cases d <;> exact h) ((M.drew _).keep (Gle.refl _) (by simp)) ?_
  replace M:=M.drew (w.drawn+1)
  revert a
  refine l_r (fun a F w M=>Cj F rfl) rfl<|l_r (fun a F w M=>Cj F rfl) rfl<|l_r (fun a F w M=>Am A1 rfl (F.ev rfl) (cs:=[.int .u64 ((Xi.key:Nat):Int),.int .u8 ((Xi.typ:Nat):Int),.string (str Xi.text),.slice mae4 Xi.marks.length mce4]) rfl (M.cellsL (k:=0) rfl rfl)) rfl<|l_r (fun a F w M=>Co Dv.k rfl F rfl) rfl<|l_r (fun a F w M=>Aq (agf H5 rfl) (F.ev rfl) (M.cellL (k:=1) rfl rfl)) rfl<|l_r (fun a F w M=>Co A1.k rfl F rfl) rfl<|l_r (fun a F w M=>Aq (agf Ew rfl) (F.ev rfl) (M.cellL (k:=0) rfl rfl)) rfl<|?_
  obtain ⟨be7,oe7,_,Ie7,_,Ae7,hTe7⟩:=SC.at hK
  obtain ⟨c1e7,hcse7,hPe7,hBe7⟩:=hTe7
  obtain ⟨tae7,tce7,kae7,kce7,rfl,hke7,hle7,SAe7,SKe7⟩:=F1 hPe7
  subst hcse7
  have hQe7:-9223372036854775808≤k.base∧k.base≤9223372036854775807:=hBe7
  refine l_r (fun a F w M=>Ca H5.k Kb (F.ev rfl) (F.ev rfl) (by omega) Ie7) rfl<|l_r (fun a F w M=>Co Kb.k rfl F rfl) rfl<|l_r (fun a F w M=>Aq (agf T7 rfl) (F.ev rfl) (M.cellA Ae7 6 rfl rfl)) rfl<|l_r (fun a F w M=>Ba (cs:=[.int .u64 ((Xi.key:Nat):Int),.int .u8 ((Xi.typ:Nat):Int),.string (str Xi.text),.slice mae4 Xi.marks.length mce4,.int .i64 k.base,.bool false]) (ps:=[(0,.agg #[.int .u64 ((Xi.key:Nat):Int),.int .u8 ((Xi.typ:Nat):Int),.string (str Xi.text),.slice mae4 Xi.marks.length mce4]),(1,.int .i64 k.base)]) De.k rfl De (F.evp rfl) rfl) rfl<|?_
  obtain ⟨Xe8,hXe8⟩:=Be (xs:=(N0 (C8 c) (⟨⟨0,0,[],[]⟩,0,false⟩:EntD) xs i)) (i:=i) (by omega)
  obtain ⟨be8,_,Ie8,hme8,_,Ae8,hTe8⟩:=M.atRow (k:=1) rfl (by decide) Eo hXe8
  obtain ⟨c1e8,hcse8,hPe8,hBe8⟩:=hTe8
  obtain ⟨mae8,mce8,rfl,hke8,hte8,hxe8,hne8,SMe8⟩:=hPe8
  subst hcse8
  have hIe8:(Xe8.item.key < 18446744073709551616∧Xe8.item.typ < 256∧Xe8.item.text.length≤9223372036854775807):=⟨hke8,hte8,hxe8⟩
  have hQe8:-9223372036854775808≤Xe8.size∧Xe8.size≤9223372036854775807:=hBe8
  refine l_r (fun a F w M=>Ca C3.k De (F.ev rfl) (F.ev rfl) (by omega) Ie8) rfl<|l_a rfl<|fun a F=>?_
  refine Nv F M De (k:=1) rfl rfl Eo Ie8 (Bj hXe8) rfl rfl (us:=[.int .u64 ((Xi.key:Nat):Int),.int .u8 ((Xi.typ:Nat):Int),.string (str Xi.text),.slice mae4 Xi.marks.length mce4,.int .i64 k.base,.bool false]) rfl rfl (by simp [Value.oneCell']) (X':=(C8 c Xi)) (⟨[.int .u64 ((Xi.key:Nat):Int),.int .u8 ((Xi.typ:Nat):Int),.string (str Xi.text),.slice mae4 Xi.marks.length mce4],by rw [show (C8 c Xi).size=k.base from J1 hK];rfl,⟨mae4,mce4,rfl,hIe4.1,hIe4.2.1,hIe4.2.2,(by have h_:=SMe4.bound;show Xi.marks.length≤_;omega),SMe4⟩,Aiz SC hK⟩) ?_;clear F M a;intro csu9 w a M Eu9 F
  revert a
  refine Aa<|eK (C':=Keep G [.blk b5 [.int .u64 ((Xi.key:Nat):Int),.int .u8 ((Xi.typ:Nat):Int),.string (str Xi.text),.slice mae4 Xi.marks.length mce4] 26,.blk b1 [.slice kca c.kinds.length kcc,.int .i64 c.cap] 51]) (M.keep (Gle.refl _) (by simp)) (fun w h=>h.mono (Gle.refl _) (by simp))<|Gx<|C0<|Ad<|Ac<|B9 rfl rfl<|Ae rfl<|Aa<|Ad<|fun a F=>?_
  exact ⟨_,by omega,i+1,csu9,rfl,F.to ⟨rfl,rfl,rfl,rfl,rfl,trivial⟩,(M.weaken (.cons _ (.cons_cons _ (.cons_cons _ (sR _))))),by omega,by have h_:=Eu9;rwa [Adx hXi] at h_⟩
 ·intro h10b
  have h10:=dF h10b
  refine B1<|Bx<|Bx<|Dj<|Ad<|Ab<|Ac<|Ae rfl<|Af rfl<|Aa<|Ad<|Aj<|Al rfl rfl<|?_
  rw [Adz (by omega)] at Eo
  obtain ⟨hnz11,Gz11,az11,cz11,hGz11,hez11,Sz11,M⟩:=M.freeze_row Ax (k:=0) rfl Eo (by decide)
  clear hez11 az11 cz11
  have hxl:(xs.map (C8 c)).length=xs.length:=List.length_map _
  exact ⟨Gz11,(Gle.refl _).trans hGz11,M.weaken (.cons _ (sR _)),av2,cv2,by rw [hxl],by rw [hxl];exact Sz11⟩
theorem Iq (M:Mem w0 G L w) {a1:Option Addr} {c1:Nat} {l:List EntD} (S:Ay C2 6 G (.slice a1 l.length c1) l) {a2:Option Addr} {c2:Nat} {fr:List EntD} (R:Ay C2 6 G (.slice a2 fr.length c2) fr) {p n:Nat} (hp:p+n≤l.length) (hl:l.length≤1000000) (hf:fr.length≤1000000):Calls Tryz.prog 119 #[.slice a1 l.length c1,.int .i64 ((p:Nat):Int),.int .i64 ((n:Nat):Int),.slice a2 fr.length c2] w
  (Ret w0 G L fun G' v=>∃ (a:Option Addr) (cc:Nat),v=.slice a (Ea l p n fr).length cc∧Ay C2 6 G' (.slice a (Ea l p n fr).length cc) (Ea l p n fr)):=by
 refine Az (vs:=[_,_,_,_]) Tryz.func119 rfl (n:=33) rfl rfl<|Ab<|Ac<|Af rfl<|Aa<|Ad<|Ab<|Ac<|Ae rfl<|Cg C3.k rfl<|Ae rfl<|Lu rfl rfl<|?_
 have hs1:(((l.length:Nat):Int) - ((n:Nat):Int):Int)=((l.length - n:Nat):Int):=by omega
 intro a F
 rw [hs1] at F
 revert a
 refine Ae rfl<|Cg C3.k rfl<|B9 rfl rfl<|fun a F=>?_
 refine Aiw F M C3.k De rfl rfl (by omega) rfl (c:=(l.length - n)+fr.length) (by omega) (by show 72 * _≤_;omega) (by omega) rfl ?_;clear F M a;intro bv2 w a M F
 revert a
 refine Af rfl<|Aa<|Ad<|Ab<|Ac<|Ae rfl<|Ae rfl<|Ae rfl<|?_
 obtain ⟨as3,cs3,Is3,hms3,hcs3,Ss3⟩:=S.partT (p) (by omega)
 refine Ap (fun a F=>Kx C3.k De Is3 (F.ev rfl) (h:=p) (kl:=.i64) (zl:=0) rfl ⟨(F.ev rfl),by omega⟩ (by omega) (by omega)) rfl<|fun a F=>?_
 refine Mq F M (k:=0) rfl C3.k De rfl rfl (by decide) rfl Ss3 rfl (by show _ * 72≤_;(try simp only [List.length_drop,List.length_take,List.length_append,List.length_cons,List.length_nil]);omega) (by (try simp only [List.length_drop,List.length_take,List.length_append,List.length_cons,List.length_nil]);omega) rfl ?_;clear F M a;intro v4 csv4 w a M Ev4 F
 have Ev4:=Els.append Els.nil Ev4
 obtain ⟨av4,cv4,rfl,hlev4,hcmv4,hlv4⟩:=M.row_shape (k:=0) rfl
 revert a
 refine Af rfl<|Aa<|Ad<|Ab<|Ac<|Ae rfl<|Ae rfl<|fun a F=>?_
 refine Mq F M (k:=0) rfl C3.k De rfl rfl (by decide) rfl R rfl (by show _ * 72≤_;(try simp only [List.length_drop,List.length_take,List.length_append,List.length_cons,List.length_nil]);omega) (by (try simp only [List.length_drop,List.length_take,List.length_append,List.length_cons,List.length_nil]);omega) rfl ?_;clear F M a;intro v5 csv5 w a M Ev5 F
 have Ev5:=Els.append Ev4 Ev5
 obtain ⟨av5,cv5,rfl,hlev5,hcmv5,hlv5⟩:=M.row_shape (k:=0) rfl
 revert a
 refine Af rfl<|Aa<|Ad<|Ab<|Ac<|Ae rfl<|Ae rfl<|Ae rfl<|Ae rfl<|B9 rfl rfl<|?_
 obtain ⟨as6,cs6,Is6,hms6,hcs6,Ss6⟩:=S.partD (p+n) (by omega)
 refine Ap (fun a F=>Kx C3.k De Is6 (F.ev rfl) (h:=l.length) (kh:=.i64) (zh:=0) ⟨(F.ev rfl),by omega⟩ (by omega) (by omega) (by omega)) rfl<|fun a F=>?_
 refine Mq F M (k:=0) rfl C3.k De rfl rfl (by decide) rfl Ss6 rfl (by show _ * 72≤_;(try simp only [List.length_drop,List.length_take,List.length_append,List.length_cons,List.length_nil]);omega) (by (try simp only [List.length_drop,List.length_take,List.length_append,List.length_cons,List.length_nil]);omega) rfl ?_;clear F M a;intro v7 csv7 w a M Ev7 F
 have Ev7:=Els.append Ev5 Ev7
 obtain ⟨av7,cv7,rfl,hlev7,hcmv7,hlv7⟩:=M.row_shape (k:=0) rfl
 revert a
 refine Af rfl<|Aa<|Ad<|Aj<|Al rfl rfl<|?_
 have Ex:Els C2 6 G (((([])++csv4)++csv5)++csv7) (Ea l p n fr):=by have h_:Els C2 6 G (((([])++csv4)++csv5)++csv7) (((([])++(l.take (p)))++fr)++(l.drop (p+n))):=Ev7;simpa only [List.nil_append,Ea] using h_
 obtain ⟨hnz8,Gz8,az8,cz8,hGz8,hez8,Sz8,M⟩:=M.freeze_row Ax (k:=0) rfl Ex (by decide)
 clear hez8 az8 cz8
 rw [hnz8] at Sz8
 exact ⟨Gz8,(Gle.refl _).trans hGz8,M.weaken (sR _),av7,cv7,by rw [hnz8],Sz8⟩
theorem O8 {p:Prop} [Decidable p] {b:Bool} (h:p↔b=true):decide p=b:=by
 by_cases hp:p
 ·rw [decide_eq_true hp,h.1 hp]
 ·cases b with
  | true=>exact absurd (h.2 rfl) hp
  | false=>exact decide_eq_false hp
theorem Io (M:Mem w0 G L w) {z n m:Int} (hm:0≤m∧m≤9223372036854775807):Calls Tryz.prog 117 #[.int .i64 z,.int .i64 n,.int .i64 m] w (Cl w0 G L fun v=>v=.bool (decide (Bp z n m))):=by
 refine Az (vs:=[_,_,_]) Tryz.func117 rfl (n:=25) rfl rfl<|Ab<|Ac<|Af rfl<|Aa<|Ad<|Ab<|Ac<|Ae rfl<|Li rfl rfl<|Ae rfl<|?_
 rcases bE (decide (0≤z)) with h1b | h6b
 ·skip
  have h1:=dT h1b
  refine g_t rfl h1b<|Ae rfl<|g_t rfl h1b<|Ae rfl<|g_t rfl h1b<|Lv rfl rfl<|Bi rfl h1b rfl<|Ae rfl<|?_
  rcases bE (decide (z≤m)) with h2b | h5b
  ·skip
   have h2:=dT h2b
   refine g_t rfl h2b<|Ae rfl<|g_t rfl h2b<|Li rfl rfl<|Bi rfl h2b rfl<|Ae rfl<|?_
   rcases bE (decide (0≤n)) with h3b | h4b
   ·skip
    have h3:=dT h3b
    refine g_t rfl h3b<|Ae rfl<|g_t rfl h3b<|Ae rfl<|g_t rfl h3b<|Ae rfl<|g_t rfl h3b<|Lu rfl rfl<|g_t rfl h3b<|Lv rfl rfl<|Bi rfl h3b rfl<|Af rfl<|Aa<|Ad<|Aj<|Al rfl rfl<|?_
    exact ⟨M,by rw [O8 (show Bp z n m↔((decide (n≤m - z))=true) by unfold Bp;first | (simp only [decide_eq_true_eq];omega) | (simp only [Bool.false_eq_true,iff_false];omega))]⟩
   ·skip
    have h4:=dF h4b
    refine g_f rfl h4b<|g_f rfl h4b<|g_f rfl h4b<|g_f rfl h4b<|g_f rfl h4b<|Bh rfl h4b rfl<|Af rfl<|Aa<|Ad<|Aj<|Al rfl rfl<|?_
    exact ⟨M,by rw [O8 (show Bp z n m↔(false=true) by unfold Bp;first | (simp only [decide_eq_true_eq];omega) | (simp only [Bool.false_eq_true,iff_false];omega))]⟩
  ·skip
   have h5:=dF h5b
   refine g_f rfl h5b<|g_f rfl h5b<|Bh rfl h5b rfl<|Ae rfl<|g_f rfl rfl<|g_f rfl rfl<|g_f rfl rfl<|g_f rfl rfl<|g_f rfl rfl<|Bh rfl rfl rfl<|Af rfl<|Aa<|Ad<|Aj<|Al rfl rfl<|?_
   exact ⟨M,by rw [O8 (show Bp z n m↔(false=true) by unfold Bp;first | (simp only [decide_eq_true_eq];omega) | (simp only [Bool.false_eq_true,iff_false];omega))]⟩
 ·skip
  have h6:=dF h6b
  refine g_f rfl h6b<|g_f rfl h6b<|g_f rfl h6b<|Bh rfl h6b rfl<|Ae rfl<|g_f rfl rfl<|g_f rfl rfl<|Bh rfl rfl rfl<|Ae rfl<|g_f rfl rfl<|g_f rfl rfl<|g_f rfl rfl<|g_f rfl rfl<|g_f rfl rfl<|Bh rfl rfl rfl<|Af rfl<|Aa<|Ad<|Aj<|Al rfl rfl<|?_
  exact ⟨M,by rw [O8 (show Bp z n m↔(false=true) by unfold Bp;first | (simp only [decide_eq_true_eq];omega) | (simp only [Bool.false_eq_true,iff_false];omega))]⟩
open Go Go.Y Go.Proofs
set_option linter.unusedSimpArgs false
set_option linter.unusedVariables false
theorem perm_in (L1 As Ls L:List Res):(L1++(As++(Ls++L))).Perm (As++((L1++Ls)++L)):=by
 rw [List.append_assoc];exact Cm L1 As (Ls++L)
theorem Ot {w0 w:World} {G:A4} {L:List Res} (M:Mem w0 G L w) {a1:Option Addr} {c1:Nat} {l:List EntD} (S:Ay C2 6 G (.slice a1 l.length c1) l) (hl:l.length≤1000000) (hmk:∀ x∈l,x.item.marks.length≤1000000):Calls Tryz.prog 159 #[.slice a1 l.length c1] w (Ij w0 G fun G' L' v=>∃ (a:Option Addr) (cs:List Value) (Ls:List Res),v=.agg #[.slice a l.length l.length]∧L' = (Cw a l.length cs::(Ls++L))∧Els (Nx Ls) 6 G' cs l):=by
 have bS:=S.bound
 refine Az (vs:=[_]) Tryz.func159 rfl (n:=34) rfl rfl<|Ab<|Ac<|Cz M Bb rfl rfl<|?_;clear M;intro b1 w M
 refine Aa<|Ad<|Ab<|Ab<|Ac<|Ae rfl<|Cg C3.k rfl<|Dc rfl rfl<|Aa<|Ad<|Av rfl ?_ ?_
 ·intro h3b
  have h3:=dT h3b
  refine Ab<|Ac<|Ap (fun a F=>Ba (cs:=[.slice none 0 0]) (ps:=[]) Bb.k rfl Bb (F.evp rfl) rfl) rfl<|fun a F=>?_
  refine Ar F M Bb (k:=0) rfl rfl rfl (us:=[.slice none 0 0]) rfl rfl (by simp [Value.oneCell']) (by simp) ?_;clear F M a;intro w a M F
  change Mem w0 G (.blk b1 [.slice none 0 0] 54::L) _ at M
  revert a
  refine Aa<|Ad<|Aj<|Aw<|fun a F=>Md F M (k:=0) rfl rfl Bb rfl rfl rfl ?_
  have hl0:l=[]:=List.eq_nil_of_length_eq_zero (by omega)
  subst hl0
  have M:=(M.weaken (.cons _ (sR _))).nilrow 69 6
  exact ⟨_,_,(Gle.refl _),M,none,[],[],rfl,rfl,Els.nil⟩
 ·intro h4b
  have h4:=dF h4b
  refine Au<|Ad<|Ab<|Ac<|Ae rfl<|Cg C3.k rfl<|fun a F=>?_
  refine Oo (rd:=(Abs [])) (Z:=(none:Option EntD)) F M C3.k De rfl (by decide) rfl rfl (l:=l.length) (by omega) rfl (by omega) (by show 72 * _≤_;omega) (by omega) (by simp [ti69,Value.cells,Value.oneCell']) (trivial) rfl ?_;clear F M a;intro bv5 csv5 w a M Ev5 F
  revert a
  refine Af rfl<|Aa<|Ad<|Ab<|Ab<|Ac<|Ae rfl<|Cg C3.k rfl<|Ae rfl<|Aa<|Ad<|A3<|?_
  have E0:Els (Abs []) 6 G csv5 (N0 some none l 0):=by rw [Zf];exact Ev5
  intro a F
  refine B8 (fun m a' w'=>∃ (i:Nat),∃ (Ls:List Res),∃ (cso:List Value),m=l.length - i∧∃ G6,Gle G G6∧Fits 34 a' [(2,.pointer (some ⟨b1,0,none⟩)),(3,.slice (some ⟨bv5,0,none⟩) (l.length) (l.length)),(13,.slice a1 l.length c1),(14,.int .i64 ((l.length:Nat):Int)),(15,.int .i64 ((i:Nat):Int))]∧Mem w0 G6 (.row (.slice (some ⟨bv5,0,none⟩) (l.length) (l.length)) (l.length) (cso) 69 6::.blk b1 [.slice none 0 0] 54::(Ls++L)) w'∧(i≤l.length)∧(Els (Abs Ls) 6 G6 cso (N0 some none l i))) _ ⟨0,[],csv5,rfl,G,Gle.refl _,F.to ⟨rfl,rfl,rfl,rfl,rfl,trivial⟩,M,Nat.zero_le _,E0⟩ ?_
  clear F M
  rintro m a w ⟨i,Ls,cso,rfl,G6,hG6,F,M,hi,Eo⟩
  replace S:=S.mono Ax hG6
  revert a
  refine Ab<|Ac<|Df rfl rfl<|Aa<|Ad<|Ab<|Av rfl ?_ ?_
  ·intro h7b
   have h7:=dT h7b
   refine Au<|Ad<|Ab<|A3<|Ab<|?_
   obtain ⟨Xi,hXi⟩:=Be (xs:=l) (i:=i) (by omega)
   refine Ac<|Ae rfl<|?_
   obtain ⟨be8,oe8,_,Ie8,_,Ae8,hTe8⟩:=S.at hXi
   obtain ⟨c1e8,hcse8,hPe8,hBe8⟩:=hTe8
   obtain ⟨mae8,mce8,rfl,hke8,hte8,hxe8,hne8,SMe8⟩:=hPe8
   subst hcse8
   have hIe8:(Xi.item.key < 18446744073709551616∧Xi.item.typ < 256∧Xi.item.text.length≤9223372036854775807):=⟨hke8,hte8,hxe8⟩
   have hQe8:-9223372036854775808≤Xi.size∧Xi.size≤9223372036854775807:=hBe8
   refine Fp C3.k De Ie8 rfl rfl<|Ap (fun a F=>Am De rfl (F.ev rfl) (cs:=[.int .u64 ((Xi.item.key:Nat):Int),.int .u8 ((Xi.item.typ:Nat):Int),.string (str Xi.item.text),.slice mae8 Xi.item.marks.length mce8,.int .i64 Xi.size,.bool Xi.known]) rfl (M.cellsA Ae8 0 (by omega) rfl)) rfl<|Cz M De rfl rfl<|?_;clear M;intro b9 w M
   refine Af rfl<|fun a F=>?_
   refine Ar F M De (k:=0) rfl rfl rfl (us:=[.int .u64 ((Xi.item.key:Nat):Int),.int .u8 ((Xi.item.typ:Nat):Int),.string (str Xi.item.text),.slice mae8 Xi.item.marks.length mce8,.int .i64 Xi.size,.bool Xi.known]) rfl rfl (by simp [Value.oneCell']) (by simp) ?_;clear F M a;intro w a M F
   change Mem w0 G6 (.blk b9 [.int .u64 ((Xi.item.key:Nat):Int),.int .u8 ((Xi.item.typ:Nat):Int),.string (str Xi.item.text),.slice mae8 Xi.item.marks.length mce8,.int .i64 Xi.size,.bool Xi.known] 69::_::_::(Ls++L)) _ at M
   revert a
   refine Aa<|Ad<|Ab<|Ac<|Bc De.k rfl rfl<|Ap (fun a F=>Am A1 rfl (F.ev rfl) (cs:=[.int .u64 ((Xi.item.key:Nat):Int),.int .u8 ((Xi.item.typ:Nat):Int),.string (str Xi.item.text),.slice mae8 Xi.item.marks.length mce8]) rfl (M.cellsL (k:=0) rfl rfl)) rfl<|fun a F=>?_
   refine Ci F M B5.k A1 rfl rfl (cs:=[.int .u64 ((Xi.item.key:Nat):Int),.int .u8 ((Xi.item.typ:Nat):Int),.string (str Xi.item.text),.slice mae8 Xi.item.marks.length mce8]) rfl rfl (by simp [Value.oneCell']) (by decide) rfl ?_;clear F M a;intro v11 w a M F
   obtain ⟨av11,cv11,rfl,hlev11,hcmv11,hlv11⟩:=M.row_shape (k:=0) rfl
   have Eb:Els Cn 4 G6 [.int .u64 ((Xi.item.key:Nat):Int),.int .u8 ((Xi.item.typ:Nat):Int),.string (str Xi.item.text),.slice mae8 Xi.item.marks.length mce8] [Xi.item]:=⟨[.int .u64 ((Xi.item.key:Nat):Int),.int .u8 ((Xi.item.typ:Nat):Int),.string (str Xi.item.text),.slice mae8 Xi.item.marks.length mce8],[],rfl,rfl,⟨mae8,mce8,rfl,hke8,hte8,hxe8,hne8,SMe8⟩,rfl⟩
   obtain ⟨hnz12,Gz12,az12,cz12,hGz12,hez12,Sz12,M⟩:=M.freeze_row A0 (k:=0) rfl Eb (by decide)
   clear hez12 az12 cz12
   replace S:=S.mono Ax hGz12
   replace Eo:=Eo.mono Ago hGz12
   replace Ae8:=Ae8.mono hGz12
   replace SMe8:=SMe8.mono Bn hGz12
   revert a
   refine Pi Amc rfl rfl (Amr (xs:=[Xi.item]) M Sz12 (by show 1≤1000000;omega) (fun x hx=>by rw [List.mem_singleton.1 hx];exact hmk Xi (List.mem_of_getElem? hXi)))<|?_;clear M;rintro _ _ w M ⟨ac,csc,L1,rfl,rfl,Ec⟩
   have M:=M.perm ((perm_in L1 [.blk b9 [.int .u64 ((Xi.item.key:Nat):Int),.int .u8 ((Xi.item.typ:Nat):Int),.string (str Xi.item.text),.slice mae8 Xi.item.marks.length mce8,.int .i64 Xi.size,.bool Xi.known] 69,.row (.slice (some ⟨bv5,0,none⟩) (l.length) (l.length)) (l.length) (cso) 69 6,.blk b1 [.slice none 0 0] 54] Ls L).cons _)
   obtain ⟨Ln,hLn⟩:∃ Ln,Ln=L1++Ls:=⟨_,rfl⟩
   intro a F
   rw [← hLn] at M
   have hs1:∀ r∈Ls,r∈Ln:=fun r hr=>by rw [hLn];exact List.mem_append_right _ hr
   have hs2:∀ r∈L1,r∈Ln:=fun r hr=>by rw [hLn];exact List.mem_append_left _ hr
   clear hLn
   change Mem w0 Gz12 (.row (.slice ac 1 1) 1 (csc) 26 4::.blk b9 [.int .u64 ((Xi.item.key:Nat):Int),.int .u8 ((Xi.item.typ:Nat):Int),.string (str Xi.item.text),.slice mae8 Xi.item.marks.length mce8,.int .i64 Xi.size,.bool Xi.known] 69::.row (.slice (some ⟨bv5,0,none⟩) (l.length) (l.length)) (l.length) (cso) 69 6::.blk b1 [.slice none 0 0] 54::(Ln++L)) _ at M
   obtain ⟨be13,_,Ie13,hme13,_,Ae13,⟨ace13,mme13,rfl,k1e13,k2e13,k3e13,k4e13,hme13,hEe13⟩⟩:=M.atRow (k:=0) rfl (by decide) Ec (rfl:[Xi.item][0]?=some Xi.item)
   revert a
   refine Fp B5.k A1 Ie13 rfl rfl<|Ap (fun a F=>Am A1 rfl (F.ev rfl) (cs:=[.int .u64 ((Xi.item.key:Nat):Int),.int .u8 ((Xi.item.typ:Nat):Int),.string (str Xi.item.text),.slice ace13 Xi.item.marks.length Xi.item.marks.length]) rfl (Amy Ae13 0 (by omega) rfl)) rfl<|Bc De.k rfl rfl<|fun a F=>?_
   refine Ar F M A1 (k:=1) rfl rfl rfl (us:=[.int .u64 ((Xi.item.key:Nat):Int),.int .u8 ((Xi.item.typ:Nat):Int),.string (str Xi.item.text),.slice ace13 Xi.item.marks.length Xi.item.marks.length]) rfl rfl (by simp [Value.oneCell']) (by simp) ?_;clear F M a;intro w a M F
   change Mem w0 Gz12 (_::.blk b9 [.int .u64 ((Xi.item.key:Nat):Int),.int .u8 ((Xi.item.typ:Nat):Int),.string (str Xi.item.text),.slice ace13 Xi.item.marks.length Xi.item.marks.length,.int .i64 Xi.size,.bool Xi.known] 69::_::_::(Ln++L)) _ at M
   revert a
   refine Aa<|Ad<|?_
   have En:=V0 hs1 Eo
   have hml:=Ady some none l i
   refine Ac<|Ae rfl<|Ae rfl<|Ap (fun a F=>Am De rfl (F.ev rfl) (cs:=[.int .u64 ((Xi.item.key:Nat):Int),.int .u8 ((Xi.item.typ:Nat):Int),.string (str Xi.item.text),.slice ace13 Xi.item.marks.length Xi.item.marks.length,.int .i64 Xi.size,.bool Xi.known]) rfl (M.cellsL (k:=1) rfl rfl)) rfl<|?_
   obtain ⟨Xe14,hXe14⟩:=Be (xs:=(N0 some none l i)) (i:=i) (by omega)
   obtain ⟨be14,_,Ie14,hme14,_,Ae14,_⟩:=M.atRow (k:=2) rfl (by decide) En hXe14
   refine Fp C3.k De Ie14 rfl rfl<|fun a F=>?_
   refine Nv F M De (k:=2) rfl rfl En Ie14 (Bj hXe14) rfl rfl (us:=[.int .u64 ((Xi.item.key:Nat):Int),.int .u8 ((Xi.item.typ:Nat):Int),.string (str Xi.item.text),.slice ace13 Xi.item.marks.length Xi.item.marks.length,.int .i64 Xi.size,.bool Xi.known]) rfl rfl (by simp [Value.oneCell']) (X':=(some Xi)) (show Nx Ln Gz12 [.int .u64 ((Xi.item.key:Nat):Int),.int .u8 ((Xi.item.typ:Nat):Int),.string (str Xi.item.text),.slice ace13 Xi.item.marks.length Xi.item.marks.length,.int .i64 Xi.size,.bool Xi.known] Xi from ⟨[.int .u64 ((Xi.item.key:Nat):Int),.int .u8 ((Xi.item.typ:Nat):Int),.string (str Xi.item.text),.slice ace13 Xi.item.marks.length Xi.item.marks.length],rfl,Adp hs2 ⟨ace13,mme13,rfl,k1e13,k2e13,k3e13,k4e13,hme13,hEe13⟩,hBe8⟩) ?_;clear F M a;intro csu15 w a M Eu15 F
   revert a
   refine Aa<|C0<|Ad<|Ac<|B9 rfl rfl<|Ae rfl<|Aa<|Ad<|fun a F=>?_
   exact ⟨_,by omega,i+1,Ln,csu15,rfl,Gz12,(hG6.trans hGz12),F.to ⟨rfl,rfl,rfl,rfl,rfl,trivial⟩,(M.weaken (.cons _ (.cons _ (.cons_cons _ (.cons_cons _ (sR _)))))),by omega,by have h_:=Eu15;rwa [Adx hXi] at h_⟩
  ·intro h16b
   have h16:=dF h16b
   refine B1<|Bx<|Bx<|Dj<|Ad<|Ab<|Ac<|Ae rfl<|Ap (fun a F=>Ba (cs:=[.slice (some ⟨bv5,0,none⟩) (l.length) (l.length)]) (ps:=[(0,.slice (some ⟨bv5,0,none⟩) (l.length) (l.length))]) Bb.k rfl Bb (F.evp rfl) rfl) rfl<|fun a F=>?_
   refine Ar F M Bb (k:=1) rfl rfl rfl (us:=[.slice (some ⟨bv5,0,none⟩) (l.length) (l.length)]) rfl rfl (by simp [Value.oneCell']) (by simp) ?_;clear F M a;intro w a M F
   change Mem w0 G6 (_::.blk b1 [.slice (some ⟨bv5,0,none⟩) (l.length) (l.length)] 54::(Ls++L)) _ at M
   revert a
   refine Aa<|Ad<|Aj<|fun a F=>Md F M (k:=1) rfl rfl Bb rfl rfl rfl ?_
   have Ex:=Eo;rw [Adz (by omega)] at Ex
   exact ⟨_,_,hG6,M.weaken (.cons_cons _ (.cons _ (sR _))),_,_,Ls,rfl,rfl,V1 Ex⟩
theorem Ov {w0 w:World} {G:A4} {L Ls:List Res} {a:Option Addr} {cs:List Value} {xs:List EntD} (M:Mem w0 G (Cw a xs.length cs::(Ls++L)) w) (E:Els (Nx Ls) 6 G cs xs) :
  Calls Tryz.prog 115 #[.agg #[.slice a xs.length xs.length]] w (Cl w0 G (Cw a xs.length cs::(Ls++L)) fun v=>v=.int .i64 (Ej xs)):=by
 have M1:Mem w0 G ((Cw a xs.length cs::Ls)++L) w:=M
 obtain ⟨hG,M2⟩:=M1.lend
 refine (Vf M2 (Yx M1 E)).mono ?_
 rintro e w' h
 cases e with
 | returned v=>exact ⟨M1.back h.1,h.2⟩
 | panicked c=>exact h.elim
 | outgrown=>exact h.elim
/-- What is owned is lent for good. -/
theorem Ou {w0 w:World} {G:A4} {L Ls:List Res} {a:Option Addr} {cs:List Value} {xs:List EntD} (M:Mem w0 G (Cw a xs.length cs::(Ls++L)) w) (E:Els (Nx Ls) 6 G cs xs) :
  ∃ G',Gle G G'∧Mem w0 G' L w∧Ay C2 6 G' (.slice a xs.length xs.length) xs:=by
 have M1:Mem w0 G ((Cw a xs.length cs::Ls)++L) w:=M
 exact ⟨_,M1.lend.1,M1.lend.2,Yx M1 E⟩
open Go Go.Y Go.Proofs
variable {w0 w:World} {G:A4} {L:List Res}
set_option linter.unusedSimpArgs false
set_option linter.unusedVariables false
theorem E9 {c:RulesD} {l:List EntD} (h:Bw c l=0):E4 c∧l.length≤1024∧(∀ i x,l[i]?=some x→P4 c (l.take i) x=0)∧Ej l=0:=by
 by_cases hv:E4 c
 ·by_cases h2:1024 < l.length
  ·rw [Afb hv h2] at h;cases h
  ·by_cases h3:Ce (Hs c l) l.length=0
   ·rw [Jh hv h2 h3 (Nat.le_refl _)] at h
    exact ⟨hv,by omega,fun i x hx=>by have:=E3.1 h3 i (Bj hx);rwa [Ol hx] at this,h⟩
   ·unfold Bw at h;rw [if_neg (not_not_intro hv),if_neg h2,if_neg h3] at h;exact absurd h h3
 ·rw [Afa hv] at h;cases h
theorem Wa {c:RulesD} {l:List EntD} (h:Bw c l=0) {i:Nat} {x:EntD} (hx:l[i]?=some x):¬ Dr (l.take i) x.item.key:=(He.1 (M8.1 ((E9 h).2.2.1 i x hx)).1).2.1
theorem N8 {c:RulesD} {l:List EntD} (h:Bw c l=0):∀ x∈l,ItemOk (c.kinds.length:Int) x.item:=fun x hx=>by
 obtain ⟨i,hi⟩:=List.mem_iff_getElem?.1 hx
 exact (He.1 (M8.1 ((E9 h).2.2.1 i x hi)).1).1
theorem Qf (M:Mem w0 G L w) {c:RulesD} {a1:Option Addr} {c1:Nat} {l:List EntD} (S:Ay C2 6 G (.slice a1 l.length c1) l) (hck:Bw c l=0):Calls Tryz.prog 139 #[.slice a1 l.length c1] w (J7 w0 G fun L' v=>∃ (b mb:Nat) (es:Array MapEntry) (cl:Nat) (ks:List Nat),v=.func (.func 168) #[] #[.pointer (some ⟨b,0,none⟩)]∧L' = (.blk b [.map (some mb)] 185::.obj mb (.map es cl)::L)∧I3 es ks∧∀ q,q∈ks↔Dr l q):=by
 have bS:=S.bound
 refine Az (vs:=[_]) Tryz.func139 rfl (n:=19) rfl rfl<|Ab<|Ac<|Af rfl<|Aa<|Ad<|Ab<|Ac<|fun a F=>?_
 refine Sb (kt:=23) (et:=4) F M rfl ?_;clear F M a;intro bm1 w a M F
 revert a
 refine Cz M J3 rfl rfl<|?_;clear M;intro b2 w M
 refine Fo J3 M 0 rfl rfl rfl rfl rfl rfl<|?_;clear M;intro w M
 refine Aa<|Ad<|Ab<|Ab<|Ac<|Ae rfl<|Cg C3.k rfl<|Ae rfl<|Aa<|Ad<|A3<|fun a F=>B8 (fun m a' w'=>∃ (i:Nat),∃ (es:Array MapEntry),∃ (cl:Nat),∃ (ks:List Nat),m=l.length - i∧Fits 19 a' [(3,.pointer (some ⟨b2,0,none⟩)),(7,.slice a1 l.length c1),(8,.int .i64 ((l.length:Nat):Int)),(9,.int .i64 ((i:Nat):Int))]∧Mem w0 G (.blk b2 [.map (some bm1)] 185::.obj bm1 (.map es cl)::L) w'∧(i≤l.length)∧(I3 es ks)∧(Ft l i ks)) _ ⟨0,#[],0,([]:List Nat),rfl,F.to ⟨rfl,rfl,rfl,rfl,trivial⟩,M,Nat.zero_le _,I3.nil,Ft.zero l⟩ ?_
 clear F M
 rintro m a w ⟨i,es,cl,ks,rfl,F,M,hi,Es,hks⟩
 revert a
 refine Ab<|Ac<|Df rfl rfl<|Aa<|Ad<|Ab<|Av rfl ?_ ?_
 ·intro h4b
  have h4:=dT h4b
  refine Au<|Ad<|Ab<|A3<|Ab<|Ac<|?_
  obtain ⟨Xe5,hXe5⟩:=Be (xs:=l) (i:=i) (by omega)
  obtain ⟨be5,oe5,_,Ie5,_,Ae5,hTe5⟩:=S.at hXe5
  obtain ⟨c1e5,hcse5,hPe5,hBe5⟩:=hTe5
  obtain ⟨mae5,mce5,rfl,hke5,hte5,hxe5,hne5,SMe5⟩:=hPe5
  subst hcse5
  have hIe5:(Xe5.item.key < 18446744073709551616∧Xe5.item.typ < 256∧Xe5.item.text.length≤9223372036854775807):=⟨hke5,hte5,hxe5⟩
  have hQe5:-9223372036854775808≤Xe5.size∧Xe5.size≤9223372036854775807:=hBe5
  refine Fp C3.k De Ie5 rfl rfl<|Ap (fun a F=>Am De rfl (F.ev rfl) (cs:=[.int .u64 ((Xe5.item.key:Nat):Int),.int .u8 ((Xe5.item.typ:Nat):Int),.string (str Xe5.item.text),.slice mae5 Xe5.item.marks.length mce5,.int .i64 Xe5.size,.bool Xe5.known]) rfl (M.cellsA Ae5 0 (by omega) rfl)) rfl<|Cz M De rfl rfl<|?_;clear M;intro b6 w M
  intro a F
  refine Ar F M De (k:=0) rfl rfl rfl (us:=[.int .u64 ((Xe5.item.key:Nat):Int),.int .u8 ((Xe5.item.typ:Nat):Int),.string (str Xe5.item.text),.slice mae5 Xe5.item.marks.length mce5,.int .i64 Xe5.size,.bool Xe5.known]) rfl rfl (by simp [Value.oneCell']) (by simp) ?_;clear F M a;intro w a M F
  change Mem w0 G (.blk b6 [.int .u64 ((Xe5.item.key:Nat):Int),.int .u8 ((Xe5.item.typ:Nat):Int),.string (str Xe5.item.text),.slice mae5 Xe5.item.marks.length mce5,.int .i64 Xe5.size,.bool Xe5.known] 69::.blk b2 [.map (some bm1)] 185::_::L) _ at M
  revert a
  refine Aa<|Ad<|?_
  have hnk:¬ Xe5.item.key∈ks:=fun h_=>Wa hck hXe5 ((hks _).1 h_)
  refine Ac<|Bl J3 M 1 rfl rfl rfl rfl<|Bc De.k rfl rfl<|Bc A1.k rfl rfl<|Bl Eh M 0 rfl rfl rfl rfl<|fun a F=>?_
  refine Pm (z:=Xe5.item.key) F M (k:=2) rfl Es J3.k Eh.k rfl rfl rfl (by assumption) ?_;clear F M a;intro esm8 clm8 w a Em8 M F
  revert a
  refine Aa<|C0<|Ad<|Ac<|B9 rfl rfl<|Ae rfl<|Aa<|Ad<|fun a F=>?_
  exact ⟨_,by omega,i+1,esm8,clm8,(Xe5.item.key::ks),rfl,F.to ⟨rfl,rfl,rfl,rfl,trivial⟩,(M.weaken (.cons _ (.cons_cons _ (.cons_cons _ (sR _))))),by omega,Em8,hks.step hXe5⟩
 ·intro h9b
  have h9:=dF h9b
  refine B1<|Bx<|Bx<|Dj<|Ad<|Ab<|Ac<|Ap (fun a F=>Dk (vs:=#[.pointer (some ⟨b2,0,none⟩)]) (by simp only [List.map_toArray,List.map_cons,List.map_nil,F.ev (x:=.tmp 3) rfl])) rfl<|Af rfl<|Aa<|Ad<|Aj<|Al rfl rfl<|?_
  replace M:=M.perm (Ao _ 1 _ rfl)
  replace M:=M.perm (Ao _ 1 _ rfl)
  change Mem w0 G (.blk b2 [.map (some bm1)] 185::_::L) _ at M
  exact ⟨_,M,b2,bm1,es,cl,ks,rfl,rfl,Es,by have h_:=hks;unfold Ft at h_;rwa [List.take_of_length_le (by omega)] at h_⟩
theorem Wj {w0 w:World} {G:A4} {L:List Res} {b mb:Nat} {es:Array MapEntry} {cl:Nat} {ks:List Nat} (M:Mem w0 G (.blk b [.map (some mb)] 185::.obj mb (.map es cl)::L) w) (Es:I3 es ks) {x:ItemD} {ma:Option Addr} {mc:Nat} (hI:(x.key < 18446744073709551616∧x.typ < 256∧x.text.length≤9223372036854775807)) (SM:Ay Dw 1 G (.slice ma x.marks.length mc) x.marks) {i:Int} :
  Calls Tryz.prog 168 #[.int .i64 i,.agg #[.int .u64 ((x.key:Nat):Int),.int .u8 ((x.typ:Nat):Int),.string (str x.text),.slice ma x.marks.length mc],.pointer (some ⟨b,0,none⟩)] w (J7 w0 G fun L' v=>∃ (es':Array MapEntry) (cl':Nat),v=.int .i64 (if x.key∈ks then 8 else 0)∧L' = (.blk b [.map (some mb)] 185::.obj mb (.map es' cl')::L)∧(¬ x.key∈ks→I3 es' (x.key::ks))):=by
 refine Az (vs:=[_,_,_]) Tryz.func168 rfl (n:=13) rfl rfl<|Ab<|Ac<|C4 M rfl rfl rfl<|?_;clear M;intro b1 w M
 refine Af rfl<|Aa<|Ad<|Ab<|Ab<|Ac<|Bl J3 M 1 rfl rfl rfl rfl<|Bc A1.k rfl rfl<|Bl Eh M 0 rfl rfl rfl rfl<|fun a F=>Sc F M (k:=2) rfl Es J3.k Eh.k I6 rfl rfl rfl rfl ?_;clear F a;intro a F
 revert a
 refine Aa<|Ad<|Av rfl ?_ ?_
 ·intro h2b
  have h2:=dT h2b
  refine Ab<|Ac<|Af rfl<|Aa<|Ad<|Aj<|Aw<|Al rfl rfl<|?_
  replace M:=M.perm (Ao _ 2 _ rfl)
  replace M:=M.perm (Ao _ 2 _ rfl)
  change Mem w0 G (_::_::_::L) _ at M
  exact ⟨_,M.weaken (.cons_cons _ (.cons_cons _ (.cons _ (sR _)))),es,cl,by rw [if_pos (by assumption)],rfl,fun h_=>absurd (by assumption) h_⟩
 ·intro h3b
  have h3:=dF h3b
  refine Au<|Ad<|Ab<|Ac<|Bl J3 M 1 rfl rfl rfl rfl<|Bc A1.k rfl rfl<|Bl Eh M 0 rfl rfl rfl rfl<|fun a F=>?_
  refine Pm (z:=x.key) F M (k:=2) rfl Es J3.k Eh.k rfl rfl rfl (by assumption) ?_;clear F M a;intro esm4 clm4 w a Em4 M F
  revert a
  refine Aa<|Ad<|Ab<|Ac<|Af rfl<|Aa<|Ad<|Aj<|Al rfl rfl<|?_
  replace M:=M.perm (Ao _ 2 _ rfl)
  replace M:=M.perm (Ao _ 2 _ rfl)
  change Mem w0 G (_::_::_::L) _ at M
  exact ⟨_,M.weaken (.cons_cons _ (.cons_cons _ (.cons _ (sR _)))),esm4,clm4,by rw [if_neg (by assumption)],rfl,fun _=>Em4⟩
theorem Ahb (M:Mem w0 G L w) {a1:Option Addr} {c1:Nat} {l:List EntD} (S:Ay C2 6 G (.slice a1 l.length c1) l) {b5:Nat} (A5:At G b5 0 [.slice a1 l.length c1]) {b6 p:Nat} (A6:At G b6 0 [.int .i64 ((p:Nat):Int)]) {a2:Option Addr} {c2:Nat} {fr:List EntD} (R:Ay C2 6 G (.slice a2 fr.length c2) fr) (hp:p≤l.length) (hl:l.length≤1000000) (hf:fr.length≤1000000):Calls Tryz.prog 161 #[.slice a2 fr.length c2,.pointer (some ⟨b5,0,none⟩),.pointer (some ⟨b6,0,none⟩)] w (Ret w0 G L fun G' v=>∃ (a:Option Addr) (cc:Nat),v=.slice a (Ea l p 0 fr).length cc∧Ay C2 6 G' (.slice a (Ea l p 0 fr).length cc) (Ea l p 0 fr)):=by
 refine Az (vs:=[_,_,_]) Tryz.func161 rfl (n:=10) rfl rfl<|Ab<|Ac<|Af rfl<|Aa<|Ad<|Ab<|Ac<|Bc Bb.k rfl rfl<|D4 C3 M A5 0 rfl rfl rfl rfl<|D4 B7 M A6 0 rfl rfl (by omega) rfl<|Ae rfl<|Hq To rfl rfl (Iq (l:=l) (fr:=fr) (p:=p) (n:=0) M S R (by omega) (by omega) (by omega))<|?_;clear M;rintro _ Gq1 w hGq1 M ⟨aq1,cq1,rfl,Sq1⟩
 replace S:=S.mono Ax hGq1
 replace A5:=A5.mono hGq1
 replace A6:=A6.mono hGq1
 replace R:=R.mono Ax hGq1
 refine Af rfl<|Aa<|Ad<|Aj<|Al rfl rfl<|?_
 exact ⟨_,hGq1,M,aq1,cq1,rfl,Sq1⟩
theorem Afu (M:Mem w0 G L w) {a1:Option Addr} {c1:Nat} {l:List EntD} (S:Ay C2 6 G (.slice a1 l.length c1) l) {b5:Nat} (A5:At G b5 0 [.slice a1 l.length c1]) {b6 p:Nat} (A6:At G b6 0 [.int .i64 ((p:Nat):Int)]) {b7 n:Nat} (A7:At G b7 0 [.int .i64 ((n:Nat):Int)]) {a2:Option Addr} {c2:Nat} {fr:List EntD} (R:Ay C2 6 G (.slice a2 fr.length c2) fr) (hp:p+n≤l.length) (hl:l.length≤1000000):Calls Tryz.prog 118 #[.slice a2 fr.length c2,.pointer (some ⟨b5,0,none⟩),.pointer (some ⟨b6,0,none⟩),.pointer (some ⟨b7,0,none⟩)] w (Ret w0 G L fun G' v=>∃ (a:Option Addr) (cc:Nat),v=.slice a (Ea l p n []).length cc∧Ay C2 6 G' (.slice a (Ea l p n []).length cc) (Ea l p n [])):=by
 refine Az (vs:=[_,_,_,_]) Tryz.func118 rfl (n:=11) rfl rfl<|Ab<|Ac<|Af rfl<|Aa<|Ad<|Ab<|Ac<|Bc Bb.k rfl rfl<|D4 C3 M A5 0 rfl rfl rfl rfl<|D4 B7 M A6 0 rfl rfl (by omega) rfl<|D4 B7 M A7 0 rfl rfl (by omega) rfl<|Hq To rfl rfl (Iq (l:=l) (fr:=([]:List EntD)) (p:=p) (n:=n) M S Ay.nil (by omega) (by omega) (by (show 0≤1000000;omega)))<|?_;clear M;rintro _ Gq1 w hGq1 M ⟨aq1,cq1,rfl,Sq1⟩
 replace S:=S.mono Ax hGq1
 replace A5:=A5.mono hGq1
 replace A6:=A6.mono hGq1
 replace A7:=A7.mono hGq1
 replace R:=R.mono Ax hGq1
 refine Af rfl<|Aa<|Ad<|Aj<|Al rfl rfl<|?_
 exact ⟨_,hGq1,M,aq1,cq1,rfl,Sq1⟩
theorem Agm (M:Mem w0 G L w) {a1:Option Addr} {c1:Nat} {l:List EntD} (S:Ay C2 6 G (.slice a1 l.length c1) l) {b5:Nat} (A5:At G b5 0 [.slice a1 l.length c1]) {b6 p:Nat} (A6:At G b6 0 [.int .i64 ((p:Nat):Int)]) {b7 n:Nat} (A7:At G b7 0 [.int .i64 ((n:Nat):Int)]) {b8 q:Nat} (A8:At G b8 0 [.int .i64 ((q:Nat):Int)]) {a2:Option Addr} {c2:Nat} {fr:List EntD} (R:Ay C2 6 G (.slice a2 fr.length c2) fr) (hp:p+n≤l.length) (hq:q+n≤l.length) (hl:l.length≤1000000):Calls Tryz.prog 162 #[.slice a2 fr.length c2,.pointer (some ⟨b5,0,none⟩),.pointer (some ⟨b6,0,none⟩),.pointer (some ⟨b7,0,none⟩),.pointer (some ⟨b8,0,none⟩)] w (Ret w0 G L fun G' v=>∃ (a:Option Addr) (cc:Nat),v=.slice a (Pv l p n q).length cc∧Ay C2 6 G' (.slice a (Pv l p n q).length cc) (Pv l p n q)):=by
 refine Az (vs:=[_,_,_,_,_]) Tryz.func162 rfl (n:=21) rfl rfl<|Ab<|Ac<|Af rfl<|Aa<|Ad<|Ab<|fun a F=>Fw [(true,0),(true,1),(true,2),(true,3),(true,5),(true,6),(true,7),(true,8),(true,9),(true,10),(true,11),(true,12),(false,4),(false,13),(true,14)] (Keep G []) rfl (by kernel_rfl) (fun c a d v w h=>by cases d <;> exact h) ((M.drew _).keep (Gle.refl _) (by simp)) ?_
 replace M:=M.drew (w.drawn+1)
 revert a
 refine l_r (fun a F w M=>Co Bb.k rfl F rfl) rfl<|l_r (fun a F w M=>Aq (agf C3 rfl) (F.ev rfl) (M.cellA A5 0 rfl rfl)) rfl<|l_r (fun a F w M=>Aq (agf B7 rfl) (F.ev rfl) (M.cellA A6 0 (by omega) rfl)) rfl<|l_r (fun a F w M=>Aq (agf B7 rfl) (F.ev rfl) (M.cellA A7 0 (by omega) rfl)) rfl<|l_r (fun a F w M=>Aq (agf B7 rfl) (F.ev rfl) (M.cellA A8 0 (by omega) rfl)) rfl<|l_r (fun a F w M=>Co Bb.k rfl F rfl) rfl<|l_r (fun a F w M=>Aq (agf C3 rfl) (F.ev rfl) (M.cellA A5 0 rfl rfl)) rfl<|l_r (fun a F w M=>Aq (agf B7 rfl) (F.ev rfl) (M.cellA A6 0 (by omega) rfl)) rfl<|l_r (fun a F w M=>Aq (agf B7 rfl) (F.ev rfl) (M.cellA A6 0 (by omega) rfl)) rfl<|l_r (fun a F w M=>Aq (agf B7 rfl) (F.ev rfl) (M.cellA A7 0 (by omega) rfl)) rfl<|l_r (fun a F w M=>Fj (F.ev rfl) (F.ev rfl) (Cr (by omega) (by omega))) rfl<|?_
 obtain ⟨as1,cs1,Is1,hms1,hcs1,Ss1⟩:=S.part (p) (p+n) (by omega) (by omega)
 refine l_r (fun a F w M=>Kx C3.k De Is1 (F.ev rfl) (h:=p+n) ⟨(F.ev rfl),by omega⟩ ⟨(F.ev rfl),by omega⟩ (by omega) (by omega)) rfl<|l_a rfl<|Hq To rfl rfl (Iq (l:=l) (fr:=([]:List EntD)) (p:=p) (n:=n) M S Ay.nil (by omega) (by omega) (by (first | (show 0≤1000000;omega) | (rw [List.length_take];omega))))<|?_;clear M;rintro _ Gq2 w hGq2 M ⟨aq2,cq2,rfl,Sq2⟩
 replace S:=S.mono Ax hGq2
 replace A5:=A5.mono hGq2
 replace A6:=A6.mono hGq2
 replace A7:=A7.mono hGq2
 replace A8:=A8.mono hGq2
 replace R:=R.mono Ax hGq2
 replace Ss1:=Ss1.mono Ax hGq2
 refine Aa<|eK (C':=Keep Gq2 []) (M.keep (Gle.refl _) (by simp)) (fun w h=>h.mono hGq2 (by simp))<|l_a rfl<|?_
 have hsl9:p+n - p=((l.drop p).take n).length:=by rw [List.length_take,List.length_drop];omega
 have hdt9:(l.take (p+n)).drop p=(l.drop p).take n:=by rw [List.drop_take];congr 1;omega
 intro a F
 rw [hsl9,hdt9] at Ss1
 rw [hsl9] at F
 have hml9:=Mu (l:=l) (p:=p) (n:=n) (by omega)
 revert a
 refine Hq To rfl rfl (Iq (l:=(Ea l p n ([]:List EntD))) (fr:=((l.drop p).take n)) (p:=q) (n:=0) M Sq2 Ss1 (by omega) (by omega) (by (first | (show 0≤1000000;omega) | (rw [List.length_take];omega))))<|?_;clear M;rintro _ Gq3 w hGq3 M ⟨aq3,cq3,rfl,Sq3⟩
 replace S:=S.mono Ax hGq3
 replace A5:=A5.mono hGq3
 replace A6:=A6.mono hGq3
 replace A7:=A7.mono hGq3
 replace A8:=A8.mono hGq3
 replace R:=R.mono Ax hGq3
 replace Ss1:=Ss1.mono Ax hGq3
 replace Sq2:=Sq2.mono Ax hGq3
 refine Aa<|eK (C':=Keep Gq3 []) (M.keep (Gle.refl _) (by simp)) (fun w h=>h.mono hGq3 (by simp))<|l_r (fun a F w M=>Gm F rfl) rfl<|Gx<|Ad<|Aj<|Al rfl rfl<|?_
 exact ⟨_,(hGq2.trans hGq3),M,aq3,cq3,rfl,Sq3⟩
theorem Ahr (M:Mem w0 G L w) {a1:Option Addr} {c1:Nat} {l:List EntD} (S:Ay C2 6 G (.slice a1 l.length c1) l) {b5:Nat} (A5:At G b5 0 [.slice a1 l.length c1]) {b6 p:Nat} (A6:At G b6 0 [.int .i64 ((p:Nat):Int)]) {x:ItemD} {ma:Option Addr} {mc:Nat} (hI:(x.key < 18446744073709551616∧x.typ < 256∧x.text.length≤9223372036854775807)) (SM:Ay Dw 1 G (.slice ma x.marks.length mc) x.marks) {i:Nat} {y:EntD} (hy:l[p+i]?=some y) (hl:l.length≤1000000):Calls Tryz.prog 163 #[.int .i64 ((i:Nat):Int),.agg #[.int .u64 ((x.key:Nat):Int),.int .u8 ((x.typ:Nat):Int),.string (str x.text),.slice ma x.marks.length mc],.pointer (some ⟨b5,0,none⟩),.pointer (some ⟨b6,0,none⟩)] w (Cl w0 G L fun v=>v=.int .i64 (if y.item.key=x.key then 0 else 9)):=by
 have hyl:=Bj hy
 refine Az (vs:=[_,_,_,_]) Tryz.func163 rfl (n:=19) rfl rfl<|Ab<|Ac<|C4 M rfl rfl rfl<|?_;clear M;intro b1 w M
 refine Af rfl<|Aa<|Ad<|Ab<|Ab<|fun a F=>Fw [(true,0),(true,1),(true,2),(true,3),(true,4),(true,5),(true,6),(true,7),(true,8),(true,9),(true,10),(true,11)] (Keep G [.blk b1 [.int .u64 ((x.key:Nat):Int),.int .u8 ((x.typ:Nat):Int),.string (str x.text),.slice ma x.marks.length mc] 26]) rfl (by kernel_rfl) (fun c a d v w h=>by cases d <;> exact h) ((M.drew _).keep (Gle.refl _) (by simp)) ?_
 replace M:=M.drew (w.drawn+1)
 revert a
 refine l_r (fun a F w M=>Co Bb.k rfl F rfl) rfl<|l_r (fun a F w M=>Aq (agf C3 rfl) (F.ev rfl) (M.cellA A5 0 rfl rfl)) rfl<|l_r (fun a F w M=>Aq (agf B7 rfl) (F.ev rfl) (M.cellA A6 0 (by omega) rfl)) rfl<|l_r (fun a F w M=>Cj F rfl) rfl<|l_r (fun a F w M=>Fj (F.ev rfl) (F.ev rfl) (Cr (by omega) (by omega))) rfl<|?_
 obtain ⟨be2,oe2,_,Ie2,_,Ae2,hTe2⟩:=S.at hy
 obtain ⟨c1e2,hcse2,hPe2,hBe2⟩:=hTe2
 obtain ⟨mae2,mce2,rfl,hke2,hte2,hxe2,hne2,SMe2⟩:=hPe2
 subst hcse2
 have hIe2:(y.item.key < 18446744073709551616∧y.item.typ < 256∧y.item.text.length≤9223372036854775807):=⟨hke2,hte2,hxe2⟩
 have hQe2:-9223372036854775808≤y.size∧y.size≤9223372036854775807:=hBe2
 refine l_r (fun a F w M=>Ca C3.k De (F.ev rfl) (F.ev rfl) (by omega) Ie2) rfl<|l_r (fun a F w M=>Co De.k rfl F rfl) rfl<|l_r (fun a F w M=>Co A1.k rfl F rfl) rfl<|l_r (fun a F w M=>Aq (agf Eh rfl) (F.ev rfl) (M.cellA Ae2 0 (by omega) rfl)) rfl<|l_r (fun a F w M=>Co A1.k rfl F rfl) rfl<|l_r (fun a F w M=>Aq (agf Eh rfl) (F.ev rfl) (M.cellL (k:=0) rfl rfl)) rfl<|l_r (fun a F w M=>Wt (F.ev rfl) (F.ev rfl)) rfl<|Gx<|?_
 generalize ({ w with drawn:=w.drawn+1 }:World)=w at M ⊢
 refine Ad<|Av rfl ?_ ?_
 ·intro h3b
  have h3:=dF (Ag h3b)
  refine Ab<|Ac<|Af rfl<|Aa<|Ad<|Aj<|Aw<|Al rfl rfl<|?_
  exact ⟨M.weaken (.cons _ (sR _)),by rw [if_neg (by omega)]⟩
 ·intro h4b
  have h4:=dT (Ah h4b)
  refine Au<|Ad<|Ab<|Ac<|Af rfl<|Aa<|Ad<|Aj<|Al rfl rfl<|?_
  exact ⟨M.weaken (.cons _ (sR _)),by rw [if_pos (by omega)]⟩
theorem Ahq (M:Mem w0 G L w) {a1:Option Addr} {c1:Nat} {l:List EntD} (S:Ay C2 6 G (.slice a1 l.length c1) l) {b5:Nat} (A5:At G b5 0 [.slice a1 l.length c1]) {b6 p:Nat} (A6:At G b6 0 [.int .i64 ((p:Nat):Int)]) {ta:Option Addr} {tc:Nat} {xs:List ItemD} (T:Ay Cn 4 G (.slice ta xs.length tc) xs) {b9:Nat} (A9:At G b9 0 [.slice ta xs.length tc]) {a2:Option Addr} {c2:Nat} {fr:List EntD} (R:Ay C2 6 G (.slice a2 fr.length c2) fr) (hp:p+xs.length≤l.length) (hl:l.length≤1000000) (hf:fr.length≤1000000):Calls Tryz.prog 164 #[.slice a2 fr.length c2,.pointer (some ⟨b5,0,none⟩),.pointer (some ⟨b6,0,none⟩),.pointer (some ⟨b9,0,none⟩)] w (Ret w0 G L fun G' v=>∃ (a:Option Addr) (cc:Nat),v=.slice a (Ea l p xs.length fr).length cc∧Ay C2 6 G' (.slice a (Ea l p xs.length fr).length cc) (Ea l p xs.length fr)):=by
 refine Az (vs:=[_,_,_,_]) Tryz.func164 rfl (n:=13) rfl rfl<|Ab<|Ac<|Af rfl<|Aa<|Ad<|Ab<|Ac<|Bc Bb.k rfl rfl<|D4 C3 M A5 0 rfl rfl rfl rfl<|D4 B7 M A6 0 rfl rfl (by omega) rfl<|D4 B5 M A9 0 rfl rfl (by omega) rfl<|Cg B5.k rfl<|Ae rfl<|Hq To rfl rfl (Iq (l:=l) (fr:=fr) (p:=p) (n:=xs.length) M S R (by omega) (by omega) (by omega))<|?_;clear M;rintro _ Gq1 w hGq1 M ⟨aq1,cq1,rfl,Sq1⟩
 replace S:=S.mono Ax hGq1
 replace A5:=A5.mono hGq1
 replace A6:=A6.mono hGq1
 replace A9:=A9.mono hGq1
 replace R:=R.mono Ax hGq1
 replace T:=T.mono A0 hGq1
 refine Af rfl<|Aa<|Ad<|Aj<|Al rfl rfl<|?_
 exact ⟨_,hGq1,M,aq1,cq1,rfl,Sq1⟩
theorem Afq (M:Mem w0 G L w) {a2:Option Addr} {c2:Nat} {fr:List EntD} (R:Ay C2 6 G (.slice a2 fr.length c2) fr):Calls Tryz.prog 140 #[.slice a2 fr.length c2] w (Ret w0 G L fun G' v=>∃ (a:Option Addr) (cc:Nat),v=.slice a (fr).length cc∧Ay C2 6 G' (.slice a (fr).length cc) (fr)):=by
 refine Az (vs:=[_]) Tryz.func140 rfl (n:=4) rfl rfl<|Ab<|Ac<|Af rfl<|Aa<|Ad<|Ab<|Ac<|Ae rfl<|Af rfl<|Aa<|Ad<|Aj<|Al rfl rfl<|?_
 exact ⟨_,(Gle.refl _),M,a2,c2,rfl,R⟩
open Go Go.Y Go.Proofs
set_option linter.unusedSimpArgs false
set_option linter.unusedVariables false
/-- What the closure that checks a key does: it goes from state to state. -/
def KeyC (w0:World) (G0:A4) (kf:FuncId) (kc:List Value) (xs:List ItemD) (fK:Nat→Int) (Rk:Nat→List Res→Prop):Prop :=
 ∀ (G:A4) (L R:List Res) (w:World) (i:Nat) (x:ItemD) (ma:Option Addr) (mc:Nat),Gle G0 G→xs[i]?=some x→Rk i R→Mem w0 G (R++L) w→(x.key < 18446744073709551616∧x.typ < 256∧x.text.length≤9223372036854775807)→Ay Dw 1 G (.slice ma x.marks.length mc) x.marks →
  Calls Tryz.prog kf ([.int .i64 ((i:Nat):Int),.agg #[.int .u64 ((x.key:Nat):Int),.int .u8 ((x.typ:Nat):Int),.string (str x.text),.slice ma x.marks.length mc]]++kc:List Value).toArray w (J7 w0 G fun L' v=>∃ R',v=.int .i64 (fK i)∧L' = R'++L∧(fK i=0→Rk (i+1) R'))
/-- What the closure does that makes the list. -/
def MakeC (w0:World) (G0:A4) (mk:FuncId) (mc:List Value) (fr out:List EntD):Prop :=
 ∀ (G:A4) (L:List Res) (w:World) (a2:Option Addr) (c2:Nat),Gle G0 G→Mem w0 G L w→Ay C2 6 G (.slice a2 fr.length c2) fr →
  Calls Tryz.prog mk ([.slice a2 fr.length c2]++mc:List Value).toArray w (Ret w0 G L fun G' v=>∃ (a:Option Addr) (cc:Nat),v=.slice a (out).length cc∧Ay C2 6 G' (.slice a (out).length cc) (out))
/-- A list and an error, the list in new memory. -/
def Jp (L:List Res) (r:List EntD × Int) (G':A4) (L':List Res) (v:Value):Prop :=
 ∃ (a:Option Addr) (cs:List Value) (Ls:List Res),v=.tuple #[.agg #[.slice a r.1.length r.1.length],.int .i64 r.2]∧L' = (Cw a r.1.length cs::(Ls++L))∧Els (Nx Ls) 6 G' cs r.1
theorem F3 {w0 w:World} {G G':A4} {L:List Res} {r:List EntD × Int} {e:Int} (hr:r=([],e)) (hG:Gle G G') (M:Mem w0 G' L w):∃ G2 L2,Gle G G2∧Mem w0 G2 L2 w∧Jp L r G2 L2 (.tuple #[.agg #[.slice none 0 0],.int .i64 e]):=by
 subst hr
 exact ⟨G',_,hG,M.nilrow 69 6,none,[],[],rfl,rfl,Els.nil⟩
theorem Pn {P:Program} {ops:Array Oper} {Q:Exit→Act→World→Prop} {n:Nat} {a:Act} {w w0:World} {e:Env} {G:A4} {L:List Res} {d:Nat} {t:TypeId} {p:String} {af:Array Edge} {r:List Oper} {f:FuncId} {cal:Operand} {args:List Operand} {ats:Array TypeId} {vs caps:List Value} {Φ:A4→Value→Prop}
  (F:Fits n a e) (hE:Ent P f) (hc:ev e cal=some (.func (.func f) #[] caps.toArray)) (hv:evs e args=some vs) (hd:Nat.ble (d+1) n=true) (hs:Calls P f (vs++caps).toArray w (Ret w0 G L Φ))
  (k:∀ v G' w' a',Gle G G'→Mem w0 G' L w'→Φ G' v→Fits n a' ((d,v)::e)→rl P ops Q r a' w') :
  rl P ops Q (⟨some d,.call ⟨.value cal,args.toArray,ats⟩,t,p,af,none⟩::r) a w:=by
 refine It F hE hc hv hd hs fun x w' hx=>?_
 cases x with
 | returned v=>obtain ⟨G',h1,h2,h3⟩:=hx;exact ⟨v,rfl,fun a' F'=>k v G' w' a' h1 h2 h3 F'⟩
 | panicked c=>exact hx.elim
 | outgrown=>exact hx.elim
theorem O7 {w0 w:World} {G:A4} {L:List Res} {ins:Bool} {cnt:Int} {kv mv:Value} {fK:Nat→Int} {Rk:Nat→List Res→Prop} {out:List EntD} {R:List Res} (M:Mem w0 G (R++L) w) {c:RulesD} {kca:Option Addr} {kcc:Nat} (SC:Ay Du 9 G (.slice kca c.kinds.length kcc) c.kinds) {a1:Option Addr} {c1:Nat} {l:List EntD} (S:Ay C2 6 G (.slice a1 l.length c1) l) {ta:Option Addr} {tc:Nat} {xs:List ItemD} (T:Ay Cn 4 G (.slice ta xs.length tc) xs) (hck:Bw c l=0) (hR:Rk 0 R) (hN:xs.length≤1000000)
  (hKy:ins=true→xs=[]∨∃ kf kc,kv=.func (.func kf) #[] (List.toArray kc)∧Ent Tryz.prog kf∧KeyC w0 G kf kc xs fK Rk) (hMk:ins=true→Ce (J6 c xs fK) xs.length=0→∃ mk mc,mv=.func (.func mk) #[] (List.toArray mc)∧Ent Tryz.prog mk∧MakeC w0 G mk mc (xs.map (C8 c)) out)
  (hol:ins=true→out.length≤1000000) (hmk:ins=true→Ce (J6 c xs fK) xs.length=0→∀ x∈out,x.item.marks.length≤1000000) :
  Calls Tryz.prog 116 #[.agg #[.slice kca c.kinds.length kcc,.int .i64 c.cap],.agg #[.slice a1 l.length c1],.agg #[.bool ins,.int .i64 cnt,.slice ta xs.length tc,kv,mv]] w (Ij w0 G (Jp L (doR (Bw c l) ins cnt (J6 c xs fK) xs.length out))):=by
 have bT:=T.bound
 refine Az (vs:=[_,_,_]) Tryz.func116 rfl (n:=79) rfl rfl<|Ab<|Ac<|C4 M rfl rfl rfl<|?_;clear M;intro b1 w M
 refine C4 M rfl rfl rfl<|?_;clear M;intro b2 w M
 refine C4 M rfl rfl rfl<|?_;clear M;intro b3 w M
 refine Cz M Bb rfl rfl<|?_;clear M;intro b4 w M
 refine Af rfl<|Aa<|Ad<|Ab<|Ab<|Ac<|Ap (fun a F=>Am Dv rfl (F.ev rfl) (cs:=[.slice kca c.kinds.length kcc,.int .i64 c.cap]) rfl (M.cellsL (k:=3) rfl rfl)) rfl<|Ap (fun a F=>Am Bb rfl (F.ev rfl) (cs:=[.slice a1 l.length c1]) rfl (M.cellsL (k:=2) rfl rfl)) rfl<|Br Alm rfl rfl (L8 (c:=c) (l:=l) M SC S)<|?_;clear M;rintro _ w M rfl
 refine Af rfl<|Aa<|Ad<|Ab<|Ac<|Ae rfl<|D9 rfl rfl<|Aa<|Ad<|D2 rfl (Ai (decide_eq_true (by exact hck)))<|Au<|Ad<|Ab<|A3<|Ab<|Ac<|Bc Gb.k rfl rfl<|Bl I6 M 1 rfl rfl rfl rfl<|C9 rfl<|Af rfl<|Aa<|Ad<|Av rfl ?_ ?_
 ·intro h6b
  have h6:=Ag h6b
  have h6c:(ins)=false:=(Ag h6b)
  refine Ab<|Ac<|Ap (fun a F=>Ba (cs:=[.slice none 0 0]) (ps:=[]) Bb.k rfl Bb (F.evp rfl) rfl) rfl<|fun a F=>?_
  refine Ar F M Bb (k:=0) rfl rfl rfl (us:=[.slice none 0 0]) rfl rfl (by simp [Value.oneCell']) (by simp) ?_;clear F M a;intro w a M F
  change Mem w0 G (.blk b4 [.slice none 0 0] 54::_::_::_::(R++L)) _ at M
  revert a
  refine Af rfl<|Aa<|Ad<|Aj<|Bo<|Aw<|fun a F=>Cb F M (k:=0) rfl rfl Bb rfl rfl rfl rfl ?_
  exact F3 (Amm hck (by cases ins <;> simp_all)) (Gle.refl _) (M.weaken (.cons _ (.cons _ (.cons _ (.cons _ (List.sublist_append_right _ _))))))
 ·intro h7b
  have h7:=Ah h7b
  have h7c:(ins)=true:=(Ah h7b)
  refine Ab<|Ac<|Bc Gb.k rfl rfl<|Bl B7 M 1 rfl rfl rfl rfl<|Dn rfl rfl<|Af rfl<|Aa<|Ad<|Av rfl ?_ ?_
  ·intro h8b
   have h8:=dT h8b
   refine Ab<|Ac<|Ap (fun a F=>Ba (cs:=[.slice none 0 0]) (ps:=[]) Bb.k rfl Bb (F.evp rfl) rfl) rfl<|fun a F=>?_
   refine Ar F M Bb (k:=0) rfl rfl rfl (us:=[.slice none 0 0]) rfl rfl (by simp [Value.oneCell']) (by simp) ?_;clear F M a;intro w a M F
   change Mem w0 G (.blk b4 [.slice none 0 0] 54::_::_::_::(R++L)) _ at M
   revert a
   refine Af rfl<|Aa<|Ad<|Aj<|Bo<|Aw<|fun a F=>Cb F M (k:=0) rfl rfl Bb rfl rfl rfl rfl ?_
   exact F3 (do_3 hck (by cases ins <;> simp_all) (by omega)) (Gle.refl _) (M.weaken (.cons _ (.cons _ (.cons _ (.cons _ (List.sublist_append_right _ _))))))
  ·intro h9b
   have h9:=dF h9b
   refine Au<|C0<|Ad<|Ab<|Ab<|?_
   have hins:ins=true:=by cases ins <;> simp_all
   refine Ac<|Bc Gb.k rfl rfl<|Bl B5 M 1 rfl rfl rfl rfl<|Cg B5.k rfl<|Ae rfl<|Aa<|Ad<|A3<|fun a F=>B8 (fun m a' w'=>∃ (i:Nat),∃ (Rn:List Res),m=xs.length - i∧Fits 79 a' [(3,.pointer (some ⟨b1,0,none⟩)),(4,.pointer (some ⟨b2,0,none⟩)),(5,.pointer (some ⟨b3,0,none⟩)),(6,.pointer (some ⟨b4,0,none⟩)),(32,.slice ta xs.length tc),(33,.int .i64 ((xs.length:Nat):Int)),(34,.int .i64 ((i:Nat):Int))]∧Mem w0 G (.blk b4 [.slice none 0 0] 54::.blk b3 [.bool ins,.int .i64 cnt,.slice ta xs.length tc,kv,mv] 207::.blk b2 [.slice a1 l.length c1] 54::.blk b1 [.slice kca c.kinds.length kcc,.int .i64 c.cap] 51::(Rn++L)) w'∧(i≤xs.length)∧(Rk i Rn)∧(Ce (J6 c xs fK) i=0)) _ ⟨0,R,rfl,F.to ⟨rfl,rfl,rfl,rfl,rfl,rfl,rfl,trivial⟩,M,Nat.zero_le _,hR,rfl⟩ ?_
   clear F M
   rintro m a w ⟨i,Rn,rfl,F,M,hi,hRn,hS⟩
   revert a
   refine Ab<|Ac<|Df rfl rfl<|Aa<|Ad<|Ab<|Av rfl ?_ ?_
   ·intro h10b
    have h10:=dT h10b
    refine Au<|Ad<|Ab<|A3<|Ab<|?_
    obtain ⟨Xi,hXi⟩:=Be (xs:=xs) (i:=i) (by omega)
    rcases hKy hins with hx0 | ⟨kf,kc,hkv,hEk,hKc⟩
    ·intro a F
     exact absurd hXi (by rw [hx0];simp)
    refine Ac<|Ae rfl<|?_
    obtain ⟨be11,oe11,_,Ie11,_,Ae11,hTe11⟩:=T.at hXi
    obtain ⟨mae11,mce11,rfl,hke11,hte11,hxe11,hne11,SMe11⟩:=hTe11
    have hIe11:(Xi.key < 18446744073709551616∧Xi.typ < 256∧Xi.text.length≤9223372036854775807):=⟨hke11,hte11,hxe11⟩
    refine Fp B5.k A1 Ie11 rfl rfl<|Ap (fun a F=>Am A1 rfl (F.ev rfl) (cs:=[.int .u64 ((Xi.key:Nat):Int),.int .u8 ((Xi.typ:Nat):Int),.string (str Xi.text),.slice mae11 Xi.marks.length mce11]) rfl (M.cellsA Ae11 0 (by omega) rfl)) rfl<|Cz M A1 rfl rfl<|?_;clear M;intro b12 w M
    refine Af rfl<|fun a F=>?_
    refine Ar F M A1 (k:=0) rfl rfl rfl (us:=[.int .u64 ((Xi.key:Nat):Int),.int .u8 ((Xi.typ:Nat):Int),.string (str Xi.text),.slice mae11 Xi.marks.length mce11]) rfl rfl (by simp [Value.oneCell']) (by simp) ?_;clear F M a;intro w a M F
    change Mem w0 G (.blk b12 [.int .u64 ((Xi.key:Nat):Int),.int .u8 ((Xi.typ:Nat):Int),.string (str Xi.text),.slice mae11 Xi.marks.length mce11] 26::_::_::_::_::(Rn++L)) _ at M
    revert a
    refine Aa<|Ad<|Ab<|Ac<|Ap (fun a F=>Am A1 rfl (F.ev rfl) (cs:=[.int .u64 ((Xi.key:Nat):Int),.int .u8 ((Xi.typ:Nat):Int),.string (str Xi.text),.slice mae11 Xi.marks.length mce11]) rfl (M.cellsL (k:=0) rfl rfl)) rfl<|Bc Dv.k rfl rfl<|Bl H5 M 4 rfl rfl rfl rfl<|Cg H5.k rfl<|Br Zz rfl rfl (Jn (x:=Xi) (t:=((c.kinds.length:Nat):Int)) M hIe11 SMe11)<|?_;clear M;rintro _ w M rfl
    refine Af rfl<|Aa<|Ad<|Ab<|Ab<|Ac<|Ae rfl<|Dc rfl rfl<|Aa<|Ad<|Av rfl ?_ ?_
    ·intro h14b
     have h14:=dT h14b
     have hok:ItemOk (c.kinds.length:Int) Xi:=Dy.1 (by assumption)
     refine Ac<|Bc Gb.k rfl rfl<|Bl tok205 M 2 rfl rfl rfl rfl<|Ae rfl<|Ap (fun a F=>Am A1 rfl (F.ev rfl) (cs:=[.int .u64 ((Xi.key:Nat):Int),.int .u8 ((Xi.typ:Nat):Int),.string (str Xi.text),.slice mae11 Xi.marks.length mce11]) rfl (M.cellsL (k:=0) rfl rfl)) rfl<|fun a F=>?_
     rw [hkv] at F
     refine Po F hEk (caps:=kc) rfl rfl rfl (hKc _ _ Rn _ i Xi _ _ (Gle.refl _) hXi hRn (M.perm (Cm [.blk b12 [.int .u64 ((Xi.key:Nat):Int),.int .u8 ((Xi.typ:Nat):Int),.string (str Xi.text),.slice mae11 Xi.marks.length mce11] 26,.blk b4 [.slice none 0 0] 54,.blk b3 [.bool ins,.int .i64 cnt,.slice ta xs.length tc,kv,mv] 207,.blk b2 [.slice a1 l.length c1] 54,.blk b1 [.slice kca c.kinds.length kcc,.int .i64 c.cap] 51] Rn L)) hIe11 SMe11) ?_;clear F M a;rintro _ _ w a M ⟨R2,rfl,rfl,hR2⟩ F
     have M:=M.perm (Cm R2 [.blk b12 [.int .u64 ((Xi.key:Nat):Int),.int .u8 ((Xi.typ:Nat):Int),.string (str Xi.text),.slice mae11 Xi.marks.length mce11] 26,.blk b4 [.slice none 0 0] 54,.blk b3 [.bool ins,.int .i64 cnt,.slice ta xs.length tc,kv,mv] 207,.blk b2 [.slice a1 l.length c1] 54,.blk b1 [.slice kca c.kinds.length kcc,.int .i64 c.cap] 51] L)
     change Mem w0 G (.blk b12 [.int .u64 ((Xi.key:Nat):Int),.int .u8 ((Xi.typ:Nat):Int),.string (str Xi.text),.slice mae11 Xi.marks.length mce11] 26::.blk b4 [.slice none 0 0] 54::.blk b3 [.bool ins,.int .i64 cnt,.slice ta xs.length tc,kv,mv] 207::.blk b2 [.slice a1 l.length c1] 54::.blk b1 [.slice kca c.kinds.length kcc,.int .i64 c.cap] 51::(R2++L)) _ at M
     revert a
     refine Af rfl<|Aa<|Ad<|Ab<|Ab<|Ac<|Ae rfl<|Dc rfl rfl<|Aa<|Ad<|Av rfl ?_ ?_
     ·intro h15b
      have h15:=dT h15b
      obtain ⟨k,hK⟩:=O2 hok
      refine Ac<|Ap (fun a F=>Am Dv rfl (F.ev rfl) (cs:=[.slice kca c.kinds.length kcc,.int .i64 c.cap]) rfl (M.cellsL (k:=4) rfl rfl)) rfl<|Ap (fun a F=>Am A1 rfl (F.ev rfl) (cs:=[.int .u64 ((Xi.key:Nat):Int),.int .u8 ((Xi.typ:Nat):Int),.string (str Xi.text),.slice mae11 Xi.marks.length mce11]) rfl (M.cellsL (k:=0) rfl rfl)) rfl<|Br Amg rfl rfl (Qn (c:=c) (x:=Xi) M SC hIe11 SMe11 hK)<|?_;clear M;rintro _ w M ⟨n1n16,s1n16,s2n16,s3n16,a1n16,a2n16,l1n16,c1n16,l2n16,c2n16,rfl⟩
      refine Ae rfl<|Ch rfl rfl<|Ch rfl rfl<|Af rfl<|Aa<|Ad<|Ab<|Ac<|Ae rfl<|D9 rfl rfl<|Aa<|Ad<|Av rfl ?_ ?_
      ·intro h17b
       have h17:=dF (Ag h17b)
       have h17c:(decide (Iu c Xi=0))=false:=(Ag h17b)
       refine Ab<|Ac<|Ap (fun a F=>Ba (cs:=[.slice none 0 0]) (ps:=[]) Bb.k rfl Bb (F.evp rfl) rfl) rfl<|Ae rfl<|fun a F=>?_
       refine Ar F M Bb (k:=1) rfl rfl rfl (us:=[.slice none 0 0]) rfl rfl (by simp [Value.oneCell']) (by simp) ?_;clear F M a;intro w a M F
       change Mem w0 G (.blk b12 [.int .u64 ((Xi.key:Nat):Int),.int .u8 ((Xi.typ:Nat):Int),.string (str Xi.text),.slice mae11 Xi.marks.length mce11] 26::.blk b4 [.slice none 0 0] 54::_::_::_::(R2++L)) _ at M
       revert a
       refine Af rfl<|Aa<|Ad<|Aj<|Bo<|Aw<|Aw<|Bo<|Aw<|fun a F=>Cb F M (k:=1) rfl rfl Bb rfl rfl rfl rfl ?_
       exact F3 (do_e hck hins (by omega) hS (Bj hXi) ((Tg hXi).trans (Aeg hok (by omega))) (by omega)) (Gle.refl _) (M.weaken (.cons _ (.cons _ (.cons _ (.cons _ (.cons _ (List.sublist_append_right _ _)))))))
      ·intro h18b
       have h18:=dT (Ah h18b)
       have h18c:(decide (Iu c Xi=0))=true:=(Ah h18b)
       refine Au<|C0<|Ad<|Ac<|B9 rfl rfl<|Ae rfl<|Aa<|Ad<|fun a F=>?_
       exact ⟨_,by omega,i+1,R2,rfl,F.to ⟨rfl,rfl,rfl,rfl,rfl,rfl,rfl,trivial⟩,(M.weaken (.cons _ (.cons_cons _ (.cons_cons _ (.cons_cons _ (.cons_cons _ (sR _))))))),by omega,hR2 (by omega),in_step hS hXi ((Aeg hok (by omega)).trans (by omega))⟩
     ·intro h19b
      have h19:=dF h19b
      refine Au<|Ad<|Ab<|Ac<|Ae rfl<|D9 rfl rfl<|Aa<|Ad<|Bk rfl (Ak (decide_eq_false h19))<|Ab<|Ac<|Ap (fun a F=>Ba (cs:=[.slice none 0 0]) (ps:=[]) Bb.k rfl Bb (F.evp rfl) rfl) rfl<|Ae rfl<|fun a F=>?_
      refine Ar F M Bb (k:=1) rfl rfl rfl (us:=[.slice none 0 0]) rfl rfl (by simp [Value.oneCell']) (by simp) ?_;clear F M a;intro w a M F
      change Mem w0 G (.blk b12 [.int .u64 ((Xi.key:Nat):Int),.int .u8 ((Xi.typ:Nat):Int),.string (str Xi.text),.slice mae11 Xi.marks.length mce11] 26::.blk b4 [.slice none 0 0] 54::_::_::_::(R2++L)) _ at M
      revert a
      refine Af rfl<|Aa<|Ad<|Aj<|Bo<|Aw<|Aw<|Bo<|Aw<|fun a F=>Cb F M (k:=1) rfl rfl Bb rfl rfl rfl rfl ?_
      exact F3 (do_e hck hins (by omega) hS (Bj hXi) ((Tg hXi).trans (Aky hok (by omega))) (by omega)) (Gle.refl _) (M.weaken (.cons _ (.cons _ (.cons _ (.cons _ (.cons _ (List.sublist_append_right _ _)))))))
    ·intro h20b
     have h20:=dF h20b
     refine Au<|Ad<|Ab<|Ab<|Ac<|Ae rfl<|Dc rfl rfl<|Aa<|Ad<|D2 rfl (decide_eq_false h20)<|Au<|Ad<|Ab<|Ac<|Ae rfl<|D9 rfl rfl<|Aa<|Ad<|Bk rfl (Ak (decide_eq_false h20))<|Ab<|Ac<|Ap (fun a F=>Ba (cs:=[.slice none 0 0]) (ps:=[]) Bb.k rfl Bb (F.evp rfl) rfl) rfl<|Ae rfl<|fun a F=>?_
     refine Ar F M Bb (k:=1) rfl rfl rfl (us:=[.slice none 0 0]) rfl rfl (by simp [Value.oneCell']) (by simp) ?_;clear F M a;intro w a M F
     change Mem w0 G (.blk b12 [.int .u64 ((Xi.key:Nat):Int),.int .u8 ((Xi.typ:Nat):Int),.string (str Xi.text),.slice mae11 Xi.marks.length mce11] 26::.blk b4 [.slice none 0 0] 54::_::_::_::(Rn++L)) _ at M
     revert a
     refine Af rfl<|Aa<|Ad<|Aj<|Bo<|Aw<|Aw<|Bo<|Aw<|fun a F=>Cb F M (k:=1) rfl rfl Bb rfl rfl rfl rfl ?_
     exact F3 (do_e hck hins (by omega) hS (Bj hXi) ((Tg hXi).trans ((Aeh (fun h_=>by have:=Dp h_;omega)).trans (Fv (fun h_=>by have:=Dp h_;omega)).symm)) (by omega)) (Gle.refl _) (M.weaken (.cons _ (.cons _ (.cons _ (.cons _ (.cons _ (List.sublist_append_right _ _)))))))
   ·intro h21b
    have h21:=dF h21b
    refine B1<|Bx<|Bx<|Dj<|Ad<|Ab<|?_
    have hxe:Ce (J6 c xs fK) xs.length=0:=by rw [show xs.length=i by omega];exact hS
    have hxo:=Aef hxe (Nat.le_refl _)
    obtain ⟨mk,mc,hmv,hEm,hMc⟩:=hMk hins hxe
    intro a F
    refine Aak (.run 0 (.run 1 (.run 2 (.run 3 (.run 4 (.act 5 (.act 6 (.act 7 (.act 8 (.act 9 .fin .no) .no) (.act 8 (.act 7 (.act 9 .fin .no) .no) .no)) (.act 8 (.act 6 (.act 7 (.act 9 .fin .no) .no) .no) .no)) (.act 8 (.act 5 (.act 6 (.act 7 (.act 9 .fin .no) .no) .no) .no) .no))))))) (Keep G [.blk b4 [.slice none 0 0] 54,.blk b3 [.bool ins,.int .i64 cnt,.slice ta xs.length tc,kv,mv] 207,.blk b2 [.slice a1 l.length c1] 54,.blk b1 [.slice kca c.kinds.length kcc,.int .i64 c.cap] 51]) rfl (by kernel_rfl) (fun c a d v w h=>by cases d <;> exact h) ((M.drew _).keep (Gle.refl _) (by simp)) ?_
    replace M:=M.drew (w.drawn+1)
    revert a
    refine t_r (fun a F w M=>Co Gb.k rfl F rfl) rfl<|t_r (fun a F w M=>Aq (agf tok204 rfl) (F.ev rfl) (M.cellL (k:=1) rfl rfl)) rfl<|t_r (fun a F w M=>Am Dv rfl (F.ev rfl) (cs:=[.slice kca c.kinds.length kcc,.int .i64 c.cap]) rfl (M.cellsL (k:=3) rfl rfl)) rfl<|t_r (fun a F w M=>Co Gb.k rfl F rfl) rfl<|t_r (fun a F w M=>Aq (agf B5 rfl) (F.ev rfl) (M.cellL (k:=1) rfl rfl)) rfl<|fun a F=>Cu ?_ rfl ?_
    ·skip
     revert a
     refine Hq Ama rfl rfl (Tj (c:=c) (xs:=xs) M SC T (by omega) hxo)<|?_;clear M;rintro _ Gq22 w hGq22 M ⟨aq22,cq22,rfl,Sq22⟩
     replace SC:=SC.mono Bg hGq22
     replace S:=S.mono Ax hGq22
     replace T:=T.mono A0 hGq22
     refine Aa<|eK (C':=Keep Gq22 [.blk b4 [.slice none 0 0] 54,.blk b3 [.bool ins,.int .i64 cnt,.slice ta xs.length tc,kv,mv] 207,.blk b2 [.slice a1 l.length c1] 54,.blk b1 [.slice kca c.kinds.length kcc,.int .i64 c.cap] 51]) (M.keep (Gle.refl _) (by simp)) (fun w h=>h.mono hGq22 (by simp))<|fun a F=>Cu ?_ rfl ?_
     ·skip
      rw [hmv] at F
      refine Pn F hEm (caps:=mc) rfl rfl rfl (hMc _ _ _ _ _ hGq22 M Sq22) ?_;clear F M a;rintro _ Gq23 w a hGq23 M ⟨aq23,cq23,rfl,Sq23⟩ F
      replace SC:=SC.mono Bg hGq23
      replace S:=S.mono Ax hGq23
      replace T:=T.mono A0 hGq23
      replace Sq22:=Sq22.mono Ax hGq23
      revert a
      refine Aa<|eK (C':=Keep Gq23 [.blk b4 [.slice none 0 0] 54,.blk b3 [.bool ins,.int .i64 cnt,.slice ta xs.length tc,kv,mv] 207,.blk b2 [.slice a1 l.length c1] 54,.blk b1 [.slice kca c.kinds.length kcc,.int .i64 c.cap] 51]) (M.keep (Gle.refl _) (by simp)) (fun w h=>h.mono hGq23 (by simp))<|fun a F=>Cu ?_ rfl ?_
      ·skip
       refine Dz F Xq rfl rfl (Ot M Sq23 (hol hins) (hmk hins hxe)) ?_;clear F M a;rintro _ Gq24 _ w a hGq24 M ⟨ao,cso,Lo,rfl,rfl,Eo⟩ F
       replace SC:=SC.mono Bg hGq24
       replace S:=S.mono Ax hGq24
       replace T:=T.mono A0 hGq24
       replace Sq22:=Sq22.mono Ax hGq24
       replace Sq23:=Sq23.mono Ax hGq24
       have M:=M.perm (Cm (Cw ao out.length cso::Lo) [.blk b4 [.slice none 0 0] 54,.blk b3 [.bool ins,.int .i64 cnt,.slice ta xs.length tc,kv,mv] 207,.blk b2 [.slice a1 l.length c1] 54,.blk b1 [.slice kca c.kinds.length kcc,.int .i64 c.cap] 51] (Rn++L))
       change Mem w0 Gq24 (.blk b4 [.slice none 0 0] 54::.blk b3 [.bool ins,.int .i64 cnt,.slice ta xs.length tc,kv,mv] 207::.blk b2 [.slice a1 l.length c1] 54::.blk b1 [.slice kca c.kinds.length kcc,.int .i64 c.cap] 51::((Cw ao out.length cso::Lo)++(Rn++L))) _ at M
       revert a
       refine Aa<|eK (C':=Keep Gq24 [.blk b4 [.slice none 0 0] 54,.blk b3 [.bool ins,.int .i64 cnt,.slice ta xs.length tc,kv,mv] 207,.blk b2 [.slice a1 l.length c1] 54,.blk b1 [.slice kca c.kinds.length kcc,.int .i64 c.cap] 51]) (M.keep (Gle.refl _) (by simp)) (fun w h=>h.mono hGq24 (by simp))<|fun a F=>Cu ?_ rfl D7
       revert a
       refine Cz M Bb rfl rfl<|?_;clear M;intro b25 w M
       refine Aa<|eK (C':=Keep Gq24 [.blk b4 [.slice none 0 0] 54,.blk b3 [.bool ins,.int .i64 cnt,.slice ta xs.length tc,kv,mv] 207,.blk b2 [.slice a1 l.length c1] 54,.blk b1 [.slice kca c.kinds.length kcc,.int .i64 c.cap] 51]) (M.keep (Gle.refl _) (by simp)) (fun w h=>h.mono (Gle.refl _) (by simp))<|fun a F=>Cu ?_ rfl D7
       refine Ar F M Bb (k:=0) rfl rfl rfl (us:=[.slice ao out.length out.length]) rfl rfl (by simp [Value.oneCell']) (by simp) ?_;clear F M a;intro w a M F
       change Mem w0 Gq24 (.blk b25 [.slice ao out.length out.length] 54::_::_::_::_::((Cw ao out.length cso::Lo)++(Rn++L))) _ at M
       revert a
       refine Aa<|eK (C':=Keep Gq24 [.blk b4 [.slice none 0 0] 54,.blk b3 [.bool ins,.int .i64 cnt,.slice ta xs.length tc,kv,mv] 207,.blk b2 [.slice a1 l.length c1] 54,.blk b1 [.slice kca c.kinds.length kcc,.int .i64 c.cap] 51]) (M.keep (Gle.refl _) (by simp)) (fun w h=>h.mono (Gle.refl _) (by simp))<|Lf<|Ad<|Ab<|Ab<|Ac<|Ap (fun a F=>Am Bb rfl (F.ev rfl) (cs:=[.slice ao out.length out.length]) rfl (M.cellsL (k:=0) rfl rfl)) rfl<|?_
       have M:=M.perm (Cm [.blk b25 [.slice ao out.length out.length] 54,.blk b4 [.slice none 0 0] 54,.blk b3 [.bool ins,.int .i64 cnt,.slice ta xs.length tc,kv,mv] 207,.blk b2 [.slice a1 l.length c1] 54,.blk b1 [.slice kca c.kinds.length kcc,.int .i64 c.cap] 51] (Cw ao out.length cso::Lo) (Rn++L))
       refine Br Tq rfl rfl (Ov M Eo)<|?_;clear M;rintro _ w M rfl
       have M:=M.perm (Cm (Cw ao out.length cso::Lo) [.blk b25 [.slice ao out.length out.length] 54,.blk b4 [.slice none 0 0] 54,.blk b3 [.bool ins,.int .i64 cnt,.slice ta xs.length tc,kv,mv] 207,.blk b2 [.slice a1 l.length c1] 54,.blk b1 [.slice kca c.kinds.length kcc,.int .i64 c.cap] 51] (Rn++L))
       change Mem w0 Gq24 (.blk b25 [.slice ao out.length out.length] 54::.blk b4 [.slice none 0 0] 54::.blk b3 [.bool ins,.int .i64 cnt,.slice ta xs.length tc,kv,mv] 207::.blk b2 [.slice a1 l.length c1] 54::.blk b1 [.slice kca c.kinds.length kcc,.int .i64 c.cap] 51::((Cw ao out.length cso::Lo)++(Rn++L))) _ at M
       refine Af rfl<|Aa<|Ad<|Ab<|Ac<|Ae rfl<|D9 rfl rfl<|Aa<|Ad<|Av rfl ?_ ?_
       ·intro h27b
        have h27:=dF (Ag h27b)
        have h27c:(decide (Ej out=0))=false:=(Ag h27b)
        refine Ab<|Ac<|Ap (fun a F=>Ba (cs:=[.slice none 0 0]) (ps:=[]) Bb.k rfl Bb (F.evp rfl) rfl) rfl<|Ae rfl<|fun a F=>?_
        refine Ar F M Bb (k:=1) rfl rfl rfl (us:=[.slice none 0 0]) rfl rfl (by simp [Value.oneCell']) (by simp) ?_;clear F M a;intro w a M F
        change Mem w0 Gq24 (.blk b25 [.slice ao out.length out.length] 54::.blk b4 [.slice none 0 0] 54::_::_::_::((Cw ao out.length cso::Lo)++(Rn++L))) _ at M
        revert a
        refine Af rfl<|Aa<|Ad<|Aj<|Aw<|fun a F=>Cb F M (k:=1) rfl rfl Bb rfl rfl rfl rfl ?_
        exact F3 (Ahk hck hins (by omega) hxe (by omega)) ((hGq22.trans hGq23).trans hGq24) (M.weaken (.cons _ (.cons _ (.cons _ (.cons _ (.cons _ ((List.sublist_append_right _ _).trans (List.sublist_append_right _ _))))))))
       ·intro h28b
        have h28:=dT (Ah h28b)
        have h28c:(decide (Ej out=0))=true:=(Ah h28b)
        refine Au<|Ad<|Ab<|Ac<|Ap (fun a F=>Am Bb rfl (F.ev rfl) (cs:=[.slice ao out.length out.length]) rfl (M.cellsL (k:=0) rfl rfl)) rfl<|fun a F=>?_
        refine Ar F M Bb (k:=1) rfl rfl rfl (us:=[.slice ao out.length out.length]) rfl rfl (by simp [Value.oneCell']) (by simp) ?_;clear F M a;intro w a M F
        change Mem w0 Gq24 (.blk b25 [.slice ao out.length out.length] 54::.blk b4 [.slice ao out.length out.length] 54::_::_::_::((Cw ao out.length cso::Lo)++(Rn++L))) _ at M
        revert a
        refine Af rfl<|Aa<|Ad<|Aj<|fun a F=>Cb F M (k:=1) rfl rfl Bb rfl rfl rfl rfl ?_
        exact ⟨_,_,((hGq22.trans hGq23).trans hGq24),M.weaken (.cons _ (.cons _ (.cons _ (.cons _ (.cons _ (.cons_cons _ ((sR Lo).append (List.sublist_append_right Rn L)))))))),ao,cso,Lo,by rw [Nc hck hins (by omega) hxe (by omega)],by rw [Nc hck hins (by omega) hxe (by omega)],by rw [Nc hck hins (by omega) hxe (by omega)];exact Eo⟩
      refine Cu ?_ rfl ?_
      ·skip
       revert a
       refine Cz M Bb rfl rfl<|?_;clear M;intro b29 w M
       refine Aa<|eK (C':=Keep Gq23 [.blk b4 [.slice none 0 0] 54,.blk b3 [.bool ins,.int .i64 cnt,.slice ta xs.length tc,kv,mv] 207,.blk b2 [.slice a1 l.length c1] 54,.blk b1 [.slice kca c.kinds.length kcc,.int .i64 c.cap] 51]) (M.keep (Gle.refl _) (by simp)) (fun w h=>h.mono (Gle.refl _) (by simp))<|fun a F=>Cu ?_ rfl D7
       refine Dz F Xq rfl rfl (Ot M Sq23 (hol hins) (hmk hins hxe)) ?_;clear F M a;rintro _ Gq31 _ w a hGq31 M ⟨ao,cso,Lo,rfl,rfl,Eo⟩ F
       replace SC:=SC.mono Bg hGq31
       replace S:=S.mono Ax hGq31
       replace T:=T.mono A0 hGq31
       replace Sq22:=Sq22.mono Ax hGq31
       replace Sq23:=Sq23.mono Ax hGq31
       have M:=M.perm (Cm (Cw ao out.length cso::Lo) [.blk b29 [.slice none 0 0] 54,.blk b4 [.slice none 0 0] 54,.blk b3 [.bool ins,.int .i64 cnt,.slice ta xs.length tc,kv,mv] 207,.blk b2 [.slice a1 l.length c1] 54,.blk b1 [.slice kca c.kinds.length kcc,.int .i64 c.cap] 51] (Rn++L))
       change Mem w0 Gq31 (.blk b29 [.slice none 0 0] 54::.blk b4 [.slice none 0 0] 54::.blk b3 [.bool ins,.int .i64 cnt,.slice ta xs.length tc,kv,mv] 207::.blk b2 [.slice a1 l.length c1] 54::.blk b1 [.slice kca c.kinds.length kcc,.int .i64 c.cap] 51::((Cw ao out.length cso::Lo)++(Rn++L))) _ at M
       revert a
       refine Aa<|eK (C':=Keep Gq31 [.blk b4 [.slice none 0 0] 54,.blk b3 [.bool ins,.int .i64 cnt,.slice ta xs.length tc,kv,mv] 207,.blk b2 [.slice a1 l.length c1] 54,.blk b1 [.slice kca c.kinds.length kcc,.int .i64 c.cap] 51]) (M.keep (Gle.refl _) (by simp)) (fun w h=>h.mono hGq31 (by simp))<|fun a F=>Cu ?_ rfl D7
       refine Ar F M Bb (k:=0) rfl rfl rfl (us:=[.slice ao out.length out.length]) rfl rfl (by simp [Value.oneCell']) (by simp) ?_;clear F M a;intro w a M F
       change Mem w0 Gq31 (.blk b29 [.slice ao out.length out.length] 54::_::_::_::_::((Cw ao out.length cso::Lo)++(Rn++L))) _ at M
       revert a
       refine Aa<|eK (C':=Keep Gq31 [.blk b4 [.slice none 0 0] 54,.blk b3 [.bool ins,.int .i64 cnt,.slice ta xs.length tc,kv,mv] 207,.blk b2 [.slice a1 l.length c1] 54,.blk b1 [.slice kca c.kinds.length kcc,.int .i64 c.cap] 51]) (M.keep (Gle.refl _) (by simp)) (fun w h=>h.mono (Gle.refl _) (by simp))<|Lf<|Ad<|Ab<|Ab<|Ac<|Ap (fun a F=>Am Bb rfl (F.ev rfl) (cs:=[.slice ao out.length out.length]) rfl (M.cellsL (k:=0) rfl rfl)) rfl<|?_
       have M:=M.perm (Cm [.blk b29 [.slice ao out.length out.length] 54,.blk b4 [.slice none 0 0] 54,.blk b3 [.bool ins,.int .i64 cnt,.slice ta xs.length tc,kv,mv] 207,.blk b2 [.slice a1 l.length c1] 54,.blk b1 [.slice kca c.kinds.length kcc,.int .i64 c.cap] 51] (Cw ao out.length cso::Lo) (Rn++L))
       refine Br Tq rfl rfl (Ov M Eo)<|?_;clear M;rintro _ w M rfl
       have M:=M.perm (Cm (Cw ao out.length cso::Lo) [.blk b29 [.slice ao out.length out.length] 54,.blk b4 [.slice none 0 0] 54,.blk b3 [.bool ins,.int .i64 cnt,.slice ta xs.length tc,kv,mv] 207,.blk b2 [.slice a1 l.length c1] 54,.blk b1 [.slice kca c.kinds.length kcc,.int .i64 c.cap] 51] (Rn++L))
       change Mem w0 Gq31 (.blk b29 [.slice ao out.length out.length] 54::.blk b4 [.slice none 0 0] 54::.blk b3 [.bool ins,.int .i64 cnt,.slice ta xs.length tc,kv,mv] 207::.blk b2 [.slice a1 l.length c1] 54::.blk b1 [.slice kca c.kinds.length kcc,.int .i64 c.cap] 51::((Cw ao out.length cso::Lo)++(Rn++L))) _ at M
       refine Af rfl<|Aa<|Ad<|Ab<|Ac<|Ae rfl<|D9 rfl rfl<|Aa<|Ad<|Av rfl ?_ ?_
       ·intro h32b
        have h32:=dF (Ag h32b)
        have h32c:(decide (Ej out=0))=false:=(Ag h32b)
        refine Ab<|Ac<|Ap (fun a F=>Ba (cs:=[.slice none 0 0]) (ps:=[]) Bb.k rfl Bb (F.evp rfl) rfl) rfl<|Ae rfl<|fun a F=>?_
        refine Ar F M Bb (k:=1) rfl rfl rfl (us:=[.slice none 0 0]) rfl rfl (by simp [Value.oneCell']) (by simp) ?_;clear F M a;intro w a M F
        change Mem w0 Gq31 (.blk b29 [.slice ao out.length out.length] 54::.blk b4 [.slice none 0 0] 54::_::_::_::((Cw ao out.length cso::Lo)++(Rn++L))) _ at M
        revert a
        refine Af rfl<|Aa<|Ad<|Aj<|Aw<|fun a F=>Cb F M (k:=1) rfl rfl Bb rfl rfl rfl rfl ?_
        exact F3 (Ahk hck hins (by omega) hxe (by omega)) ((hGq22.trans hGq23).trans hGq31) (M.weaken (.cons _ (.cons _ (.cons _ (.cons _ (.cons _ ((List.sublist_append_right _ _).trans (List.sublist_append_right _ _))))))))
       ·intro h33b
        have h33:=dT (Ah h33b)
        have h33c:(decide (Ej out=0))=true:=(Ah h33b)
        refine Au<|Ad<|Ab<|Ac<|Ap (fun a F=>Am Bb rfl (F.ev rfl) (cs:=[.slice ao out.length out.length]) rfl (M.cellsL (k:=0) rfl rfl)) rfl<|fun a F=>?_
        refine Ar F M Bb (k:=1) rfl rfl rfl (us:=[.slice ao out.length out.length]) rfl rfl (by simp [Value.oneCell']) (by simp) ?_;clear F M a;intro w a M F
        change Mem w0 Gq31 (.blk b29 [.slice ao out.length out.length] 54::.blk b4 [.slice ao out.length out.length] 54::_::_::_::((Cw ao out.length cso::Lo)++(Rn++L))) _ at M
        revert a
        refine Af rfl<|Aa<|Ad<|Aj<|fun a F=>Cb F M (k:=1) rfl rfl Bb rfl rfl rfl rfl ?_
        exact ⟨_,_,((hGq22.trans hGq23).trans hGq31),M.weaken (.cons _ (.cons _ (.cons _ (.cons _ (.cons _ (.cons_cons _ ((sR Lo).append (List.sublist_append_right Rn L)))))))),ao,cso,Lo,by rw [Nc hck hins (by omega) hxe (by omega)],by rw [Nc hck hins (by omega) hxe (by omega)],by rw [Nc hck hins (by omega) hxe (by omega)];exact Eo⟩
      exact D7
     refine Cu ?_ rfl ?_
     ·skip
      revert a
      refine Cz M Bb rfl rfl<|?_;clear M;intro b34 w M
      refine Aa<|eK (C':=Keep Gq22 [.blk b4 [.slice none 0 0] 54,.blk b3 [.bool ins,.int .i64 cnt,.slice ta xs.length tc,kv,mv] 207,.blk b2 [.slice a1 l.length c1] 54,.blk b1 [.slice kca c.kinds.length kcc,.int .i64 c.cap] 51]) (M.keep (Gle.refl _) (by simp)) (fun w h=>h.mono (Gle.refl _) (by simp))<|fun a F=>Cu ?_ rfl D7
      rw [hmv] at F
      refine Pn F hEm (caps:=mc) rfl rfl rfl (hMc _ _ _ _ _ hGq22 M Sq22) ?_;clear F M a;rintro _ Gq36 w a hGq36 M ⟨aq36,cq36,rfl,Sq36⟩ F
      replace SC:=SC.mono Bg hGq36
      replace S:=S.mono Ax hGq36
      replace T:=T.mono A0 hGq36
      replace Sq22:=Sq22.mono Ax hGq36
      revert a
      refine Aa<|eK (C':=Keep Gq36 [.blk b4 [.slice none 0 0] 54,.blk b3 [.bool ins,.int .i64 cnt,.slice ta xs.length tc,kv,mv] 207,.blk b2 [.slice a1 l.length c1] 54,.blk b1 [.slice kca c.kinds.length kcc,.int .i64 c.cap] 51]) (M.keep (Gle.refl _) (by simp)) (fun w h=>h.mono hGq36 (by simp))<|fun a F=>Cu ?_ rfl D7
      refine Dz F Xq rfl rfl (Ot M Sq36 (hol hins) (hmk hins hxe)) ?_;clear F M a;rintro _ Gq37 _ w a hGq37 M ⟨ao,cso,Lo,rfl,rfl,Eo⟩ F
      replace SC:=SC.mono Bg hGq37
      replace S:=S.mono Ax hGq37
      replace T:=T.mono A0 hGq37
      replace Sq22:=Sq22.mono Ax hGq37
      replace Sq36:=Sq36.mono Ax hGq37
      have M:=M.perm (Cm (Cw ao out.length cso::Lo) [.blk b34 [.slice none 0 0] 54,.blk b4 [.slice none 0 0] 54,.blk b3 [.bool ins,.int .i64 cnt,.slice ta xs.length tc,kv,mv] 207,.blk b2 [.slice a1 l.length c1] 54,.blk b1 [.slice kca c.kinds.length kcc,.int .i64 c.cap] 51] (Rn++L))
      change Mem w0 Gq37 (.blk b34 [.slice none 0 0] 54::.blk b4 [.slice none 0 0] 54::.blk b3 [.bool ins,.int .i64 cnt,.slice ta xs.length tc,kv,mv] 207::.blk b2 [.slice a1 l.length c1] 54::.blk b1 [.slice kca c.kinds.length kcc,.int .i64 c.cap] 51::((Cw ao out.length cso::Lo)++(Rn++L))) _ at M
      revert a
      refine Aa<|eK (C':=Keep Gq37 [.blk b4 [.slice none 0 0] 54,.blk b3 [.bool ins,.int .i64 cnt,.slice ta xs.length tc,kv,mv] 207,.blk b2 [.slice a1 l.length c1] 54,.blk b1 [.slice kca c.kinds.length kcc,.int .i64 c.cap] 51]) (M.keep (Gle.refl _) (by simp)) (fun w h=>h.mono hGq37 (by simp))<|fun a F=>Cu ?_ rfl D7
      refine Ar F M Bb (k:=0) rfl rfl rfl (us:=[.slice ao out.length out.length]) rfl rfl (by simp [Value.oneCell']) (by simp) ?_;clear F M a;intro w a M F
      change Mem w0 Gq37 (.blk b34 [.slice ao out.length out.length] 54::_::_::_::_::((Cw ao out.length cso::Lo)++(Rn++L))) _ at M
      revert a
      refine Aa<|eK (C':=Keep Gq37 [.blk b4 [.slice none 0 0] 54,.blk b3 [.bool ins,.int .i64 cnt,.slice ta xs.length tc,kv,mv] 207,.blk b2 [.slice a1 l.length c1] 54,.blk b1 [.slice kca c.kinds.length kcc,.int .i64 c.cap] 51]) (M.keep (Gle.refl _) (by simp)) (fun w h=>h.mono (Gle.refl _) (by simp))<|Lf<|Ad<|Ab<|Ab<|Ac<|Ap (fun a F=>Am Bb rfl (F.ev rfl) (cs:=[.slice ao out.length out.length]) rfl (M.cellsL (k:=0) rfl rfl)) rfl<|?_
      have M:=M.perm (Cm [.blk b34 [.slice ao out.length out.length] 54,.blk b4 [.slice none 0 0] 54,.blk b3 [.bool ins,.int .i64 cnt,.slice ta xs.length tc,kv,mv] 207,.blk b2 [.slice a1 l.length c1] 54,.blk b1 [.slice kca c.kinds.length kcc,.int .i64 c.cap] 51] (Cw ao out.length cso::Lo) (Rn++L))
      refine Br Tq rfl rfl (Ov M Eo)<|?_;clear M;rintro _ w M rfl
      have M:=M.perm (Cm (Cw ao out.length cso::Lo) [.blk b34 [.slice ao out.length out.length] 54,.blk b4 [.slice none 0 0] 54,.blk b3 [.bool ins,.int .i64 cnt,.slice ta xs.length tc,kv,mv] 207,.blk b2 [.slice a1 l.length c1] 54,.blk b1 [.slice kca c.kinds.length kcc,.int .i64 c.cap] 51] (Rn++L))
      change Mem w0 Gq37 (.blk b34 [.slice ao out.length out.length] 54::.blk b4 [.slice none 0 0] 54::.blk b3 [.bool ins,.int .i64 cnt,.slice ta xs.length tc,kv,mv] 207::.blk b2 [.slice a1 l.length c1] 54::.blk b1 [.slice kca c.kinds.length kcc,.int .i64 c.cap] 51::((Cw ao out.length cso::Lo)++(Rn++L))) _ at M
      refine Af rfl<|Aa<|Ad<|Ab<|Ac<|Ae rfl<|D9 rfl rfl<|Aa<|Ad<|Av rfl ?_ ?_
      ·intro h38b
       have h38:=dF (Ag h38b)
       have h38c:(decide (Ej out=0))=false:=(Ag h38b)
       refine Ab<|Ac<|Ap (fun a F=>Ba (cs:=[.slice none 0 0]) (ps:=[]) Bb.k rfl Bb (F.evp rfl) rfl) rfl<|Ae rfl<|fun a F=>?_
       refine Ar F M Bb (k:=1) rfl rfl rfl (us:=[.slice none 0 0]) rfl rfl (by simp [Value.oneCell']) (by simp) ?_;clear F M a;intro w a M F
       change Mem w0 Gq37 (.blk b34 [.slice ao out.length out.length] 54::.blk b4 [.slice none 0 0] 54::_::_::_::((Cw ao out.length cso::Lo)++(Rn++L))) _ at M
       revert a
       refine Af rfl<|Aa<|Ad<|Aj<|Aw<|fun a F=>Cb F M (k:=1) rfl rfl Bb rfl rfl rfl rfl ?_
       exact F3 (Ahk hck hins (by omega) hxe (by omega)) ((hGq22.trans hGq36).trans hGq37) (M.weaken (.cons _ (.cons _ (.cons _ (.cons _ (.cons _ ((List.sublist_append_right _ _).trans (List.sublist_append_right _ _))))))))
      ·intro h39b
       have h39:=dT (Ah h39b)
       have h39c:(decide (Ej out=0))=true:=(Ah h39b)
       refine Au<|Ad<|Ab<|Ac<|Ap (fun a F=>Am Bb rfl (F.ev rfl) (cs:=[.slice ao out.length out.length]) rfl (M.cellsL (k:=0) rfl rfl)) rfl<|fun a F=>?_
       refine Ar F M Bb (k:=1) rfl rfl rfl (us:=[.slice ao out.length out.length]) rfl rfl (by simp [Value.oneCell']) (by simp) ?_;clear F M a;intro w a M F
       change Mem w0 Gq37 (.blk b34 [.slice ao out.length out.length] 54::.blk b4 [.slice ao out.length out.length] 54::_::_::_::((Cw ao out.length cso::Lo)++(Rn++L))) _ at M
       revert a
       refine Af rfl<|Aa<|Ad<|Aj<|fun a F=>Cb F M (k:=1) rfl rfl Bb rfl rfl rfl rfl ?_
       exact ⟨_,_,((hGq22.trans hGq36).trans hGq37),M.weaken (.cons _ (.cons _ (.cons _ (.cons _ (.cons _ (.cons_cons _ ((sR Lo).append (List.sublist_append_right Rn L)))))))),ao,cso,Lo,by rw [Nc hck hins (by omega) hxe (by omega)],by rw [Nc hck hins (by omega) hxe (by omega)],by rw [Nc hck hins (by omega) hxe (by omega)];exact Eo⟩
     exact D7
    refine Cu ?_ rfl ?_
    ·skip
     revert a
     refine Cz M Bb rfl rfl<|?_;clear M;intro b40 w M
     refine Aa<|eK (C':=Keep G [.blk b4 [.slice none 0 0] 54,.blk b3 [.bool ins,.int .i64 cnt,.slice ta xs.length tc,kv,mv] 207,.blk b2 [.slice a1 l.length c1] 54,.blk b1 [.slice kca c.kinds.length kcc,.int .i64 c.cap] 51]) (M.keep (Gle.refl _) (by simp)) (fun w h=>h.mono (Gle.refl _) (by simp))<|fun a F=>Cu ?_ rfl D7
     revert a
     refine Hq Ama rfl rfl (Tj (c:=c) (xs:=xs) M SC T (by omega) hxo)<|?_;clear M;rintro _ Gq42 w hGq42 M ⟨aq42,cq42,rfl,Sq42⟩
     replace SC:=SC.mono Bg hGq42
     replace S:=S.mono Ax hGq42
     replace T:=T.mono A0 hGq42
     refine Aa<|eK (C':=Keep Gq42 [.blk b4 [.slice none 0 0] 54,.blk b3 [.bool ins,.int .i64 cnt,.slice ta xs.length tc,kv,mv] 207,.blk b2 [.slice a1 l.length c1] 54,.blk b1 [.slice kca c.kinds.length kcc,.int .i64 c.cap] 51]) (M.keep (Gle.refl _) (by simp)) (fun w h=>h.mono hGq42 (by simp))<|fun a F=>Cu ?_ rfl D7
     rw [hmv] at F
     refine Pn F hEm (caps:=mc) rfl rfl rfl (hMc _ _ _ _ _ hGq42 M Sq42) ?_;clear F M a;rintro _ Gq43 w a hGq43 M ⟨aq43,cq43,rfl,Sq43⟩ F
     replace SC:=SC.mono Bg hGq43
     replace S:=S.mono Ax hGq43
     replace T:=T.mono A0 hGq43
     replace Sq42:=Sq42.mono Ax hGq43
     revert a
     refine Aa<|eK (C':=Keep Gq43 [.blk b4 [.slice none 0 0] 54,.blk b3 [.bool ins,.int .i64 cnt,.slice ta xs.length tc,kv,mv] 207,.blk b2 [.slice a1 l.length c1] 54,.blk b1 [.slice kca c.kinds.length kcc,.int .i64 c.cap] 51]) (M.keep (Gle.refl _) (by simp)) (fun w h=>h.mono hGq43 (by simp))<|fun a F=>Cu ?_ rfl D7
     refine Dz F Xq rfl rfl (Ot M Sq43 (hol hins) (hmk hins hxe)) ?_;clear F M a;rintro _ Gq44 _ w a hGq44 M ⟨ao,cso,Lo,rfl,rfl,Eo⟩ F
     replace SC:=SC.mono Bg hGq44
     replace S:=S.mono Ax hGq44
     replace T:=T.mono A0 hGq44
     replace Sq42:=Sq42.mono Ax hGq44
     replace Sq43:=Sq43.mono Ax hGq44
     have M:=M.perm (Cm (Cw ao out.length cso::Lo) [.blk b40 [.slice none 0 0] 54,.blk b4 [.slice none 0 0] 54,.blk b3 [.bool ins,.int .i64 cnt,.slice ta xs.length tc,kv,mv] 207,.blk b2 [.slice a1 l.length c1] 54,.blk b1 [.slice kca c.kinds.length kcc,.int .i64 c.cap] 51] (Rn++L))
     change Mem w0 Gq44 (.blk b40 [.slice none 0 0] 54::.blk b4 [.slice none 0 0] 54::.blk b3 [.bool ins,.int .i64 cnt,.slice ta xs.length tc,kv,mv] 207::.blk b2 [.slice a1 l.length c1] 54::.blk b1 [.slice kca c.kinds.length kcc,.int .i64 c.cap] 51::((Cw ao out.length cso::Lo)++(Rn++L))) _ at M
     revert a
     refine Aa<|eK (C':=Keep Gq44 [.blk b4 [.slice none 0 0] 54,.blk b3 [.bool ins,.int .i64 cnt,.slice ta xs.length tc,kv,mv] 207,.blk b2 [.slice a1 l.length c1] 54,.blk b1 [.slice kca c.kinds.length kcc,.int .i64 c.cap] 51]) (M.keep (Gle.refl _) (by simp)) (fun w h=>h.mono hGq44 (by simp))<|fun a F=>Cu ?_ rfl D7
     refine Ar F M Bb (k:=0) rfl rfl rfl (us:=[.slice ao out.length out.length]) rfl rfl (by simp [Value.oneCell']) (by simp) ?_;clear F M a;intro w a M F
     change Mem w0 Gq44 (.blk b40 [.slice ao out.length out.length] 54::_::_::_::_::((Cw ao out.length cso::Lo)++(Rn++L))) _ at M
     revert a
     refine Aa<|eK (C':=Keep Gq44 [.blk b4 [.slice none 0 0] 54,.blk b3 [.bool ins,.int .i64 cnt,.slice ta xs.length tc,kv,mv] 207,.blk b2 [.slice a1 l.length c1] 54,.blk b1 [.slice kca c.kinds.length kcc,.int .i64 c.cap] 51]) (M.keep (Gle.refl _) (by simp)) (fun w h=>h.mono (Gle.refl _) (by simp))<|Lf<|Ad<|Ab<|Ab<|Ac<|Ap (fun a F=>Am Bb rfl (F.ev rfl) (cs:=[.slice ao out.length out.length]) rfl (M.cellsL (k:=0) rfl rfl)) rfl<|?_
     have M:=M.perm (Cm [.blk b40 [.slice ao out.length out.length] 54,.blk b4 [.slice none 0 0] 54,.blk b3 [.bool ins,.int .i64 cnt,.slice ta xs.length tc,kv,mv] 207,.blk b2 [.slice a1 l.length c1] 54,.blk b1 [.slice kca c.kinds.length kcc,.int .i64 c.cap] 51] (Cw ao out.length cso::Lo) (Rn++L))
     refine Br Tq rfl rfl (Ov M Eo)<|?_;clear M;rintro _ w M rfl
     have M:=M.perm (Cm (Cw ao out.length cso::Lo) [.blk b40 [.slice ao out.length out.length] 54,.blk b4 [.slice none 0 0] 54,.blk b3 [.bool ins,.int .i64 cnt,.slice ta xs.length tc,kv,mv] 207,.blk b2 [.slice a1 l.length c1] 54,.blk b1 [.slice kca c.kinds.length kcc,.int .i64 c.cap] 51] (Rn++L))
     change Mem w0 Gq44 (.blk b40 [.slice ao out.length out.length] 54::.blk b4 [.slice none 0 0] 54::.blk b3 [.bool ins,.int .i64 cnt,.slice ta xs.length tc,kv,mv] 207::.blk b2 [.slice a1 l.length c1] 54::.blk b1 [.slice kca c.kinds.length kcc,.int .i64 c.cap] 51::((Cw ao out.length cso::Lo)++(Rn++L))) _ at M
     refine Af rfl<|Aa<|Ad<|Ab<|Ac<|Ae rfl<|D9 rfl rfl<|Aa<|Ad<|Av rfl ?_ ?_
     ·intro h45b
      have h45:=dF (Ag h45b)
      have h45c:(decide (Ej out=0))=false:=(Ag h45b)
      refine Ab<|Ac<|Ap (fun a F=>Ba (cs:=[.slice none 0 0]) (ps:=[]) Bb.k rfl Bb (F.evp rfl) rfl) rfl<|Ae rfl<|fun a F=>?_
      refine Ar F M Bb (k:=1) rfl rfl rfl (us:=[.slice none 0 0]) rfl rfl (by simp [Value.oneCell']) (by simp) ?_;clear F M a;intro w a M F
      change Mem w0 Gq44 (.blk b40 [.slice ao out.length out.length] 54::.blk b4 [.slice none 0 0] 54::_::_::_::((Cw ao out.length cso::Lo)++(Rn++L))) _ at M
      revert a
      refine Af rfl<|Aa<|Ad<|Aj<|Aw<|fun a F=>Cb F M (k:=1) rfl rfl Bb rfl rfl rfl rfl ?_
      exact F3 (Ahk hck hins (by omega) hxe (by omega)) ((hGq42.trans hGq43).trans hGq44) (M.weaken (.cons _ (.cons _ (.cons _ (.cons _ (.cons _ ((List.sublist_append_right _ _).trans (List.sublist_append_right _ _))))))))
     ·intro h46b
      have h46:=dT (Ah h46b)
      have h46c:(decide (Ej out=0))=true:=(Ah h46b)
      refine Au<|Ad<|Ab<|Ac<|Ap (fun a F=>Am Bb rfl (F.ev rfl) (cs:=[.slice ao out.length out.length]) rfl (M.cellsL (k:=0) rfl rfl)) rfl<|fun a F=>?_
      refine Ar F M Bb (k:=1) rfl rfl rfl (us:=[.slice ao out.length out.length]) rfl rfl (by simp [Value.oneCell']) (by simp) ?_;clear F M a;intro w a M F
      change Mem w0 Gq44 (.blk b40 [.slice ao out.length out.length] 54::.blk b4 [.slice ao out.length out.length] 54::_::_::_::((Cw ao out.length cso::Lo)++(Rn++L))) _ at M
      revert a
      refine Af rfl<|Aa<|Ad<|Aj<|fun a F=>Cb F M (k:=1) rfl rfl Bb rfl rfl rfl rfl ?_
      exact ⟨_,_,((hGq42.trans hGq43).trans hGq44),M.weaken (.cons _ (.cons _ (.cons _ (.cons _ (.cons _ (.cons_cons _ ((sR Lo).append (List.sublist_append_right Rn L)))))))),ao,cso,Lo,by rw [Nc hck hins (by omega) hxe (by omega)],by rw [Nc hck hins (by omega) hxe (by omega)],by rw [Nc hck hins (by omega) hxe (by omega)];exact Eo⟩
    exact D7
end Go.Proofs.YtmmhmcplegpenaaGreatDoor
