/- The walks, part Z. · Lists: lists in new memory, entry by entry; what 'do' hands back. · The walks, part LE. · The walks, part LF. · The walks, part LG. · The walks, part LH. · The walks, part LI. · The walks, part LJ. · Notices: what they are, what they do; lists stay valid. · The kinds of notices; a call of a function that a value holds. · The types and functions of the notices that the walks name. · The walks, part LK. · The walks, part LM. · The walks, part LN. · The walks, part LO. · The walks, part LP. · Notices: their lines and texts. · The walks, part LQ. -/
import Derived.Test.YtmmhmcplegpenaaGreatDoorJ6
import Derived.Lib.ItoaMem
set_option linter.unusedSimpArgs false
set_option linter.unusedVariables false
set_option maxRecDepth 10000
namespace Go.Proofs.YtmmhmcplegpenaaGreatDoor
open Go Go.Y Go.Proofs
def ROWM (a:Option Addr) (k:Nat) (m:List Value):Res:=.row (.slice a k k) k m 9 1
def rdC (Ls:List Res):Rd ItemD:=fun G cs x=>∃ (a:Option Addr) (m:List Value),cs=[.int .u64 ((x.key:Nat):Int),.int .u8 ((x.typ:Nat):Int),.string (str x.text),.slice a x.marks.length x.marks.length] ∧
 x.key < 18446744073709551616∧x.typ < 256∧x.text.length≤9223372036854775807∧x.marks.length≤9223372036854775807∧ROWM a x.marks.length m∈Ls∧Els Cj 1 G m x.marks
def Su (Ls:List Res):Rd (ItemD × Bool):=fun G cs p=>(p.2=true→rdC Ls G cs p.1)∧(p.2=false→B1 G cs p.1)
theorem U8 {Ls:List Res} {r:Res} {G:Av} {cs:List Value} {p:ItemD × Bool} (h:Su Ls G cs p):Su (r::Ls) G cs p:=⟨fun e=>by
 obtain ⟨a,m,h1,h2,h3,h4,h5,h6,h7⟩:=h.1 e
 exact ⟨a,m,h1,h2,h3,h4,h5,List.mem_cons_of_mem _ h6,h7⟩,h.2⟩
theorem Rs {Ls:List Res} {r:Res} {G:Av}:∀ {ys:List (ItemD × Bool)} {cs:List Value},Els (Su Ls) 4 G cs ys→Els (Su (r::Ls)) 4 G cs ys
 | [],cs,h=>h
 | y::ys,cs,h=>by
  obtain ⟨c,r',h1,h2,h3,h4⟩:=h
  exact ⟨c,r',h1,h2,U8 h3,Rs h4⟩
def ysF (xs:List ItemD) (i:Nat):List (ItemD × Bool):=(xs.take i).map (·,true)++(xs.drop i).map (·,false)
theorem ysF_get {xs:List ItemD} {i:Nat} {x:ItemD} (h:xs[i]?=some x):(ysF xs i)[i]?=some (x,false):=by
 have hi:=Bm h;unfold ysF;rw [List.getElem?_append_right (by simp;omega),List.length_map,List.length_take,Nat.min_eq_left (by omega),Nat.sub_self,List.getElem?_map,List.getElem?_drop,Nat.add_zero,h];rfl
theorem ysF_set {xs:List ItemD} {i:Nat} {x:ItemD} (h:xs[i]?=some x):(ysF xs i).set i (x,true)=ysF xs (i+1):=by
 have hi:=Bm h;have hl:((xs.take i).map (·,true)).length=i:=by simp;omega
 unfold ysF;have hx:xs[i]=x:=by rw [List.getElem?_eq_getElem hi] at h;simpa using h
 have hdr:xs.drop i=x::xs.drop (i+1):=by rw [List.drop_eq_getElem_cons hi,hx]
 rw [List.set_append_right _ _ (by omega),hl,Nat.sub_self,List.take_add_one,h,hdr]
 simp
theorem Rr {G:Av}:∀ {xs:List ItemD} {cs:List Value},Els B1 4 G cs xs→Els (Su []) 4 G cs (ysF xs 0)
 | [],cs,h=>h
 | x::xs,cs,h=>by
  obtain ⟨c,r',h1,h2,h3,h4⟩:=h
  exact ⟨c,r',h1,h2,⟨(fun e=>by cases e),fun _=>h3⟩,Rr h4⟩
theorem Yp {G:Av} {Ls:List Res} {xs:List ItemD} {cs:List Value} {i:Nat} (h:Els (Su Ls) 4 G cs (ysF xs i)) (hi:xs.length≤i):Els (rdC Ls) 4 G cs xs:=by
 have e:ysF xs i=xs.map (·,true):=by unfold ysF;rw [List.take_of_length_le hi,List.drop_eq_nil_of_le hi];simp
 rw [e] at h;clear e hi
 induction xs generalizing cs with
 | nil=>exact h
 | cons x xs ih =>
  obtain ⟨c,r',h1,h2,h3,h4⟩:=h
  exact ⟨c,r',h1,h2,h3.1 rfl,ih h4⟩
theorem Yt {w0 w:World} {G:Av} {L:List Res} (M:Mem w0 G L w) {a1:Option Addr} {c1:Nat} {xs:List ItemD} (S:A8 B1 4 G (.slice a1 xs.length c1) xs) (hN:xs.length≤1000000) (hM:∀ x∈xs,x.marks.length≤1000000) :
  Calls Tryz.prog 15 #[.slice a1 xs.length c1] w (Lf w0 G fun L' v=>∃ (a:Option Addr) (cs:List Value) (Ls:List Res),v=.slice a xs.length xs.length∧L' = (.row (.slice a xs.length xs.length) xs.length cs 26 4::(Ls++L))∧Els (rdC Ls) 4 G cs xs):=by
 refine Az (vs:=[_]) Tryz.func15 rfl (n:=24) rfl rfl<|Ad<|Ab rfl<|Ad<|Aa rfl<|Ph ent54 rfl rfl (Ug (xs:=xs) M S (by omega))<|?_;clear M;rintro _ _ w M ⟨aq1,csq1,rfl,rfl,Eq1⟩
 refine Ab rfl<|Ai<|Ad<|Aa rfl<|Cf A3.k rfl<|Aa rfl<|Ar<|?_
 have E0:=Rr Eq1;intro a F;refine Bi (fun m a' w'=>∃ (i:Nat),∃ (Ls:List Res),∃ (cso:List Value),m=xs.length - i∧Fits 24 a' [(3,.slice aq1 xs.length xs.length),(7,.slice aq1 xs.length xs.length),(8,.int .i64 ((xs.length:Nat):Int)),(9,.int .i64 ((i:Nat):Int))]∧Mem w0 G (.row (.slice aq1 xs.length xs.length) (xs.length) (cso) 26 4::(Ls++L)) w'∧(i≤xs.length)∧(Els (Su Ls) 4 G cso (ysF xs i))) _ ⟨0,[],csq1,rfl,F.to ⟨rfl,rfl,rfl,rfl,trivial⟩,M,Nat.zero_le _,E0⟩ ?_;clear F M;rintro m a w ⟨i,Ls,cso,rfl,F,M,hi,Eo⟩;revert a;refine Ad<|Co rfl rfl<|Ai<|qD rfl ?_ ?_
 ·intro h2;refine Ao<|Ai<|Ar<|Ad<|Aa rfl<|Ab rfl<|Au<|Ch<|?_
  obtain ⟨Xi,hXi⟩:=A0 (xs:=xs) (i:=i) (by omega);have hYi:=ysF_get hXi;refine Aw<|Aa rfl<|Aa rfl<|Aa rfl<|Aa rfl<|?_
  obtain ⟨be3,_,Ie3,hme3,_,Ae3,hTe3⟩:=M.atRow (k:=0) rfl (by decide) Eo hYi;obtain ⟨mae3,mce3,rfl,hke3,hte3,hxe3,hne3,SMe3⟩:=hTe3.2 rfl;refine Db A3.k Af Ie3 rfl rfl<|A9 Af.k rfl rfl<|s_le A5 Ae3 3 rfl rfl rfl rfl<|Ph ent55 rfl rfl (Uf (xs:=Xi.marks) M SMe3 (hM Xi (List.mem_of_getElem? hXi)))<|?_;clear M;rintro _ _ w M ⟨aq4,csq4,rfl,rfl,Eq4⟩
  have em5:=Rs (r:=.row (.slice aq4 Xi.marks.length Xi.marks.length) (Xi.marks.length) (csq4) 9 1) Eo;obtain ⟨be6,_,Ie6,hme6,_,Ae6,hTe6⟩:=M.atRow (k:=1) rfl (by decide) em5 hYi;obtain ⟨mae6,mce6,rfl,hke6,hte6,hxe6,hne6,SMe6⟩:=hTe6.2 rfl;refine Db A3.k Af Ie6 rfl rfl<|A9 Af.k rfl rfl<|fun a F=>?_
  refine F3 F M A5 rfl (k:=1) rfl em5 Ie6 hYi (f:=3) (by decide) rfl rfl rfl rfl (X':=(Xi,true)) (fun ch _ h=>⟨fun _=>by obtain ⟨a_,c_,rfl,h1,h2,h3,h4,_⟩:=h.2 rfl;exact ⟨aq4,csq4,rfl,h1,h2,h3,h4,List.mem_cons_self,Eq4⟩,fun h_=>by cases h_⟩) ?_;clear F M a;intro csu7 w a M Eu7 F;revert a;refine Au<|e_bn<|Ch<|?_
  replace M:=M.perm (Am _ 1 _ rfl);change Mem w0 G (_::_::(Ls++L)) _ at M;change Mem w0 G (.row (.slice aq1 xs.length xs.length) (xs.length) (csu7) 26 4::((.row (.slice aq4 Xi.marks.length Xi.marks.length) (Xi.marks.length) (csq4) 9 1::Ls)++L)) _ at M;refine Aw<|Bw rfl rfl<|Aa rfl<|Au<|Ch<|fun a F=>?_
  exact ⟨_,by omega,i+1,(.row (.slice aq4 Xi.marks.length Xi.marks.length) (Xi.marks.length) (csq4) 9 1::Ls),csu7,rfl,F.to ⟨rfl,rfl,rfl,rfl,trivial⟩,M,by omega,by have h_:=Eu7;rwa [ysF_set hXi] at h_⟩
 intro h8;refine Br<|Bu<|Bu<|C6<|Ad<|Aa rfl<|Ab rfl<|Al<|Ak rfl rfl<|?_
 exact ⟨_,M,_,_,Ls,rfl,rfl,Yp Eo (by omega)⟩
open Go Go.Y
section
variable {α β:Type}
end
section
variable {cE:Int} {ins:Bool} {cnt:Int} {f:Nat→Int} {n:Nat} {out:List EntD}
end
structure NotD where
 kind:Nat
 at_:Int
 count:Int
 to:Int
 items:List ItemD
def K1:Rd NotD:=fun G cs x=>∃ (a:Option Addr) (c:Nat),cs=[.int .u8 ((x.kind:Nat):Int),.int .i64 x.at_,.int .i64 x.count,.int .i64 x.to,.slice a x.items.length c] ∧
 x.kind < 256∧Bh .i64 x.at_∧Bh .i64 x.count∧Bh .i64 x.to∧x.items.length≤9223372036854775807∧A8 B1 4 G (.slice a x.items.length c) x.items
theorem He:Ie K1:=by
 rintro G G' cs x h ⟨a,c,h1,h2,h3,h4,h5,h6,h7⟩
 exact ⟨a,c,h1,h2,h3,h4,h5,h6,h7.mono Ae h⟩
def uAt (k:Nat):Prop:=k=1∨k=2∨k=3∨k=4
def uCo (k:Nat):Prop:=k=2∨k=3
def uTo (k:Nat):Prop:=k=3
def uIt (k:Nat):Prop:=k=1∨k=4∨k=5
instance (k:Nat):Decidable (uAt k):=by unfold uAt;infer_instance
instance (k:Nat):Decidable (uCo k):=by unfold uCo;infer_instance
instance (k:Nat):Decidable (uTo k):=by unfold uTo;infer_instance
instance (k:Nat):Decidable (uIt k):=by unfold uIt;infer_instance
def Da (n:NotD):Prop:=(uAt n.kind∨n.at_=0)∧(uCo n.kind∨n.count=0)∧(uTo n.kind∨n.to=0)∧(uIt n.kind∨n.items.length=0)
instance (n:NotD):Decidable (Da n):=by unfold Da;infer_instance
def Ge (n:NotD):Int:=if n.kind < 1∨5 < n.kind then 1 else if Da n then 0 else 5
theorem Xm {n:NotD} (h:n.kind < 1∨5 < n.kind):Ge n=1:=by unfold Ge;rw [if_pos h]
theorem note_5 {n:NotD} (h:¬ (n.kind < 1∨5 < n.kind)) (h2:¬ Da n):Ge n=5:=by unfold Ge;rw [if_neg h,if_neg h2]
theorem note_0 {n:NotD} (h:¬ (n.kind < 1∨5 < n.kind)) (h2:Da n):Ge n=0:=by unfold Ge;rw [if_neg h,if_pos h2]
theorem Og {n:NotD}:Ge n=0↔(1≤n.kind∧n.kind≤5)∧Da n:=by
 unfold Ge
 split
 ·rename_i h;exact ⟨fun h2=>(by cases h2),fun h2=>by omega⟩
 rename_i h
 split
 ·rename_i h2;exact ⟨fun _=>⟨by omega,h2⟩,fun _=>rfl⟩
 rename_i h2;exact ⟨fun h3=>(by cases h3),fun h3=>absurd h3.2 h2⟩
section
variable {c:RulesD} {l:List EntD} {n:NotD}
end
section
variable {c:RulesD} {l:List EntD} {ns:List NotD}
end
open Go Go.Y Go.RowKit
section
variable {P:Program} {ops:Array Oper} {Q:Exit→Act→World→Prop} {n:Nat} {a:Act} {e:Env} {w0 w:World} {G:Av} {L:List Res} {r:List Oper} {d:Nat} {t:TypeId} {p:String} {af:Array Edge}
variable {ρ:Operand→Value} {dd:Option Tmp} {g:Option (Nat × Bool)}
theorem Dz {ta et:TypeId} {i:TI} {x y:Operand} {m:Nat} {cs:Array Value} {us:List Value} {k:IntKind} {z:Int} {j:Nat} (ha:tk P ta=.array m et) (ht:TOK P et i) (hag:i.k.agg=some true)
  (hx:ρ x=.agg cs) (hy:ρ y=.int k z) (hz:z=(j:Int)) (hj:j < m) (hv:cs.extract (j * i.size) (j * i.size+i.size)=us.toArray) :
  (execOp ρ ⟨dd,.index ta x y,t,p,af,g⟩).run P w=.ok (.value (.agg us.toArray)) w:=by
 subst hz;have c1:(0:Int)≤(j:Int):=by omega
 have c2:(j:Int) < (m:Int):=by omega
 have h1:(isAgg et).run P w=.ok true w:=Lj (by rw [ht.k];exact hag)
 simp [execOp,Instr.index,hx,hy,asIntOf,B0 (Fz ha),hj,ht.sizeOf,part,h1,hv]
end
def Cc:Nat→List UInt8
 | 1=>[105,110,115,101,114,116]
 | 2=>[114,101,109,111,118,101]
 | 3=>[109,111,118,101]
 | 4=>[99,104,97,110,103,101]
 | 5=>[114,101,115,101,116]
 | _=>[]
def Dq:Nat→Nat
 | 1=>122
 | 2=>124
 | 3=>125
 | 4=>127
 | _=>129
def O5:List Value:=[
 .string (str []),.bool false,.bool false,.bool false,.bool false,.nilFunc,
 .string (str [105,110,115,101,114,116]),.bool true,.bool false,.bool false,.bool true,.func (.func 122) #[] #[],
 .string (str [114,101,109,111,118,101]),.bool true,.bool true,.bool false,.bool false,.func (.func 124) #[] #[],
 .string (str [109,111,118,101]),.bool true,.bool true,.bool true,.bool false,.func (.func 125) #[] #[],
 .string (str [99,104,97,110,103,101]),.bool true,.bool false,.bool false,.bool true,.func (.func 127) #[] #[],
 .string (str [114,101,115,101,116]),.bool false,.bool false,.bool false,.bool true,.func (.func 129) #[] #[]]
theorem Gx {k:Nat} (h:1≤k∧k≤5):O5.toArray.extract (k * 6) (k * 6+6) =
  [.string (str (Cc k)),.bool (decide (uAt k)),.bool (decide (uCo k)),.bool (decide (uTo k)),.bool (decide (uIt k)),.func (.func (Dq k)) #[] #[]].toArray:=by
 rcases (show k=1∨k=2∨k=3∨k=4∨k=5 by omega) with rfl | rfl | rfl | rfl | rfl <;> rfl
def uG (k i:Nat):Int:=match i with
 | 0=>if uAt k then 1 else 0
 | 1=>if uCo k then 1 else 0
 | 2=>if uTo k then 1 else 0
 | _=>if uIt k then 1 else 0
def ti47:TI:=⟨.slice 65,1,24,.slice none 0 0⟩
theorem Wt:TOK Tryz.prog 47 ti47:=⟨by kernel_rfl,by kernel_rfl,by kernel_rfl⟩
def ti65:TI:=⟨.struct [(0,1,5),(1,1,3),(2,1,3),(3,1,3),(4,1,22)],5,56,.agg #[.int .u8 0,.int .i64 0,.int .i64 0,.int .i64 0,.slice none 0 0]⟩
theorem De:TOK Tryz.prog 65 ti65:=⟨by kernel_rfl,by kernel_rfl,by kernel_rfl⟩
def ti138:TI:=⟨.struct [(0,1,9),(1,1,4),(2,1,4),(3,1,4),(4,1,4),(5,1,67)],6,32,.agg #[.string ⟨#[]⟩,.bool false,.bool false,.bool false,.bool false,.nilFunc]⟩
theorem Bn:TOK Tryz.prog 138 ti138:=⟨by kernel_rfl,by kernel_rfl,by kernel_rfl⟩
def ti139:TI:=⟨.array 6 138,36,192,.agg #[.string ⟨#[]⟩,.bool false,.bool false,.bool false,.bool false,.nilFunc,.string ⟨#[]⟩,.bool false,.bool false,.bool false,.bool false,.nilFunc,.string ⟨#[]⟩,.bool false,.bool false,.bool false,.bool false,.nilFunc,.string ⟨#[]⟩,.bool false,.bool false,.bool false,.bool false,.nilFunc,.string ⟨#[]⟩,.bool false,.bool false,.bool false,.bool false,.nilFunc,.string ⟨#[]⟩,.bool false,.bool false,.bool false,.bool false,.nilFunc]⟩
theorem F7:TOK Tryz.prog 139 ti139:=⟨by kernel_rfl,by kernel_rfl,by kernel_rfl⟩
def ti147:TI:=⟨.slice 150,1,24,.slice none 0 0⟩
theorem Pd:TOK Tryz.prog 147 ti147:=⟨by kernel_rfl,by kernel_rfl,by kernel_rfl⟩
def ti150:TI:=⟨.ptr 3,1,8,.pointer none⟩
theorem Mc:TOK Tryz.prog 150 ti150:=⟨by kernel_rfl,by kernel_rfl,by kernel_rfl⟩
def ti215:TI:=⟨.struct [(0,1,4),(1,1,150)],2,16,.agg #[.bool false,.pointer none]⟩
theorem El:TOK Tryz.prog 215 ti215:=⟨by kernel_rfl,by kernel_rfl,by kernel_rfl⟩
def ti216:TI:=⟨.slice 215,1,24,.slice none 0 0⟩
theorem Sb:TOK Tryz.prog 216 ti216:=⟨by kernel_rfl,by kernel_rfl,by kernel_rfl⟩
def ti219:TI:=⟨.slice 138,1,24,.slice none 0 0⟩
theorem Wu:TOK Tryz.prog 219 ti219:=⟨by kernel_rfl,by kernel_rfl,by kernel_rfl⟩
theorem ent37:Ent Tryz.prog 37:=.mk' Tryz.func37 (by kernel_rfl) (by kernel_rfl)
theorem Na:Ent Tryz.prog 75:=.mk' Tryz.func75 (by kernel_rfl) (by kernel_rfl)
theorem ent82:Ent Tryz.prog 82:=.mk' Tryz.func82 (by kernel_rfl) (by kernel_rfl)
theorem ent84:Ent Tryz.prog 84:=.mk' Tryz.func84 (by kernel_rfl) (by kernel_rfl)
theorem ent135:Ent Tryz.prog 135:=.mk' Tryz.func135 (by kernel_rfl) (by kernel_rfl)
variable {w0 w:World} {G:Av} {L:List Res}
theorem Ew (M:Mem w0 G L w):Calls Tryz.prog 75 #[] w (B5 w0 G L fun v=>v=.agg O5.toArray):=by
 refine Az (vs:=[]) Tryz.func75 rfl (n:=7) rfl rfl<|Ad<|Dy M F7 rfl rfl<|?_;clear M;intro b1 w M
 refine Ad<|Aq (fun a F=>Bf (cs:=[.string (str [105,110,115,101,114,116]),.bool true,.bool false,.bool false,.bool true,.func (.func 122) #[] #[]]) (ps:=[(0,.string (str [105,110,115,101,114,116])),(1,.bool true),(2,.bool false),(3,.bool false),(4,.bool true),(5,.func (.func 122) #[] #[])]) Bn.k rfl Bn (F.evp rfl) rfl) rfl<|Aq (fun a F=>Bf (cs:=[.string (str [114,101,109,111,118,101]),.bool true,.bool true,.bool false,.bool false,.func (.func 124) #[] #[]]) (ps:=[(0,.string (str [114,101,109,111,118,101])),(1,.bool true),(2,.bool true),(3,.bool false),(4,.bool false),(5,.func (.func 124) #[] #[])]) Bn.k rfl Bn (F.evp rfl) rfl) rfl<|Aq (fun a F=>Bf (cs:=[.string (str [109,111,118,101]),.bool true,.bool true,.bool true,.bool false,.func (.func 125) #[] #[]]) (ps:=[(0,.string (str [109,111,118,101])),(1,.bool true),(2,.bool true),(3,.bool true),(4,.bool false),(5,.func (.func 125) #[] #[])]) Bn.k rfl Bn (F.evp rfl) rfl) rfl<|Aq (fun a F=>Bf (cs:=[.string (str [99,104,97,110,103,101]),.bool true,.bool false,.bool false,.bool true,.func (.func 127) #[] #[]]) (ps:=[(0,.string (str [99,104,97,110,103,101])),(1,.bool true),(2,.bool false),(3,.bool false),(4,.bool true),(5,.func (.func 127) #[] #[])]) Bn.k rfl Bn (F.evp rfl) rfl) rfl<|Aq (fun a F=>Bf (cs:=[.string (str [114,101,115,101,116]),.bool false,.bool false,.bool false,.bool true,.func (.func 129) #[] #[]]) (ps:=[(0,.string (str [114,101,115,101,116])),(1,.bool false),(2,.bool false),(3,.bool false),(4,.bool true),(5,.func (.func 129) #[] #[])]) Bn.k rfl Bn (F.evp rfl) rfl) rfl<|Aq (fun a F=>Jq F (ps:=[(1,.agg #[.string (str [105,110,115,101,114,116]),.bool true,.bool false,.bool false,.bool true,.func (.func 122) #[] #[]]),(2,.agg #[.string (str [114,101,109,111,118,101]),.bool true,.bool true,.bool false,.bool false,.func (.func 124) #[] #[]]),(3,.agg #[.string (str [109,111,118,101]),.bool true,.bool true,.bool true,.bool false,.func (.func 125) #[] #[]]),(4,.agg #[.string (str [99,104,97,110,103,101]),.bool true,.bool false,.bool false,.bool true,.func (.func 127) #[] #[]]),(5,.agg #[.string (str [114,101,115,101,116]),.bool false,.bool false,.bool false,.bool true,.func (.func 129) #[] #[]])]) (cs:=[.string (str []),.bool false,.bool false,.bool false,.bool false,.nilFunc,.string (str [105,110,115,101,114,116]),.bool true,.bool false,.bool false,.bool true,.func (.func 122) #[] #[],.string (str [114,101,109,111,118,101]),.bool true,.bool true,.bool false,.bool false,.func (.func 124) #[] #[],.string (str [109,111,118,101]),.bool true,.bool true,.bool true,.bool false,.func (.func 125) #[] #[],.string (str [99,104,97,110,103,101]),.bool true,.bool false,.bool false,.bool true,.func (.func 127) #[] #[],.string (str [114,101,115,101,116]),.bool false,.bool false,.bool false,.bool true,.func (.func 129) #[] #[]]) F7.k F7 Bn rfl rfl) rfl<|fun a F=>?_
 refine Di F M F7 0 ?_;clear F M a;intro w a M F;revert a;refine Al<|fun a F=>X6 F M (k:=0) rfl rfl F7 rfl rfl rfl ?_
 exact ⟨M.weaken dS1,rfl⟩
theorem Iu (M:Mem w0 G L w) {x:NotD} {na:Option Addr} {nc:Nat} (hN:x.kind < 256∧Bh .i64 x.at_∧Bh .i64 x.count∧Bh .i64 x.to∧x.items.length≤9223372036854775807) (SI:A8 B1 4 G (.slice na x.items.length nc) x.items):Calls Tryz.prog 37 #[.agg #[.int .u8 ((x.kind:Nat):Int),.int .i64 x.at_,.int .i64 x.count,.int .i64 x.to,.slice na x.items.length nc]] w (B5 w0 G L fun v=>v=.int .i64 (Ge x)):=by
 refine Az (vs:=[_]) Tryz.func37 rfl (n:=55) rfl rfl<|Ad<|G4 M rfl rfl rfl<|?_;clear M;intro b1 w M
 refine Ab rfl<|Ai<|Ad<|A9 De.k rfl rfl<|Bl Cz M 0 rfl rfl rfl rfl<|Co rfl rfl<|Aa rfl<|?_
 rcases bE (decide (((x.kind:Nat):Int) < 1)) with h2b | h3b
 ·skip
  have h2:=dT h2b;refine g_f rfl h2b<|g_f rfl h2b<|g_f rfl h2b<|A7 rfl h2b rfl<|Bz rfl rfl<|Ad<|Ab rfl<|Al<|Ak rfl rfl<|?_
  exact ⟨M.weaken dS1,by rw [Xm (by omega)]⟩
 have h3:=dF h3b;refine g_t rfl h3b<|A9 De.k rfl rfl<|g_t rfl h3b<|Bl Cz M 0 rfl rfl rfl rfl<|g_t rfl h3b<|C5 rfl rfl<|A1 rfl h3b rfl<|qD rfl ?_ ?_
 ·intro h4;refine Ad<|Ab rfl<|Al<|Ak rfl rfl<|?_
  exact ⟨M.weaken dS1,by rw [Xm (by omega)]⟩
 intro h5;refine Ao<|Ai<|fun a F=>Ma (fun a' w'=>∃ (b3k:Nat),Fits 55 a' [(1,.pointer (some ⟨b1,0,none⟩)),(3,.pointer (some ⟨b3k,0,none⟩))]∧Mem w0 G (.blk b3k [.string (str (Cc x.kind)),.bool (decide (uAt x.kind)),.bool (decide (uCo x.kind)),.bool (decide (uTo x.kind)),.bool (decide (uIt x.kind)),.func (.func (Dq x.kind)) #[] #[]] 138::.blk b1 [.int .u8 ((x.kind:Nat):Int),.int .i64 x.at_,.int .i64 x.count,.int .i64 x.to,.slice na x.items.length nc] 65::L) w') ?_ ?_
 ·skip
  refine O8 (.run 1 (.run 2 (.act 0 (.run 3 (.act 4 (.act 5 .fin .no) .no)) (.act 4 (.act 0 (.run 3 (.act 5 .fin .no)) .no) .no)))) (Keep G [.blk b1 [.int .u8 ((x.kind:Nat):Int),.int .i64 x.at_,.int .i64 x.count,.int .i64 x.to,.slice na x.items.length nc] 65]) rfl (by kernel_rfl) (fun c a d v w h=>by cases d <;> exact h) (Bx (M.drew _)) ?_;replace M:=M.drew (w.drawn+1);revert a;refine tFa De.k rfl rfl<|tLd Cz 0 rfl rfl rfl rfl<|fun a F=>Bq ?_ rfl ?_
  ·skip
   revert a;refine Bc Na rfl rfl (Ew M)<|?_;clear M;rintro _ w M rfl
   refine eQ (Bx M)<|t_r (fun a F w M=>Dz (j:=x.kind) F7.k Bn rfl (F.ev rfl) (F.ev rfl) rfl (by omega) (us:=[.string (str (Cc x.kind)),.bool (decide (uAt x.kind)),.bool (decide (uCo x.kind)),.bool (decide (uTo x.kind)),.bool (decide (uIt x.kind)),.func (.func (Dq x.kind)) #[] #[]]) (Gx (by omega))) rfl<|fun a F=>Bq ?_ rfl Cn
   revert a;refine Dy M Bn rfl rfl<|?_;clear M;intro b6 w M
   refine eQ (Bx M)<|fun a F=>Bq ?_ rfl Cn
   refine Di F M Bn 0 ?_;clear F M a;intro w a M F;revert a;refine eQ (Bx M)<|Ho<|fun a F=>?_
   exact ⟨b6,F.to ⟨rfl,rfl,trivial⟩,M⟩
  refine Bq ?_ rfl ?_
  ·skip
   revert a;refine Dy M Bn rfl rfl<|?_;clear M;intro b8 w M
   refine eQ (Bx M)<|fun a F=>Bq ?_ rfl Cn
   revert a;refine Bc Na rfl rfl (Ew M)<|?_;clear M;rintro _ w M rfl
   refine eQ (Bx M)<|t_r (fun a F w M=>Dz (j:=x.kind) F7.k Bn rfl (F.ev rfl) (F.ev rfl) rfl (by omega) (us:=[.string (str (Cc x.kind)),.bool (decide (uAt x.kind)),.bool (decide (uCo x.kind)),.bool (decide (uTo x.kind)),.bool (decide (uIt x.kind)),.func (.func (Dq x.kind)) #[] #[]]) (Gx (by omega))) rfl<|fun a F=>Bq ?_ rfl Cn
   refine Di F M Bn 0 ?_;clear F M a;intro w a M F;revert a;refine eQ (Bx M)<|Ho<|fun a F=>?_
   exact ⟨b8,F.to ⟨rfl,rfl,trivial⟩,M⟩
  exact Cn
 clear F M;rintro a w ⟨b3k,F,M⟩;revert a;refine Ai<|Ai<|fun a F=>Ma (fun a' w'=>∃ (bb:Bool),Fits 55 a' [(1,.pointer (some ⟨b1,0,none⟩)),(54,.bool bb)]∧Mem w0 G (.blk b3k [.string (str (Cc x.kind)),.bool (decide (uAt x.kind)),.bool (decide (uCo x.kind)),.bool (decide (uTo x.kind)),.bool (decide (uIt x.kind)),.func (.func (Dq x.kind)) #[] #[]] 138::.blk b1 [.int .u8 ((x.kind:Nat):Int),.int .i64 x.at_,.int .i64 x.count,.int .i64 x.to,.slice na x.items.length nc] 65::L) w'∧(bb=true↔¬ Da x)) ?_ ?_
 ·skip
  revert a;refine Aw<|A9 Bn.k rfl rfl<|Bl Hj M 0 rfl rfl rfl rfl<|Cu rfl<|Aa rfl<|?_
  rcases bE (!(decide (uAt x.kind))) with h10b | h33b
  ·skip
   have h10:=dF (Ag h10b);have h10c:(decide (uAt x.kind))=false:=(Ag h10b);refine g_t rfl (Aj h10c)<|A9 De.k rfl rfl<|g_t rfl (Aj h10c)<|Bl Ct M 1 rfl rfl rfl rfl<|g_t rfl (Aj h10c)<|Df rfl rfl<|A7 rfl (Aj h10c) rfl<|Aa rfl<|?_
   rcases bE (!(decide (x.at_=0))) with h11b | h12b
   ·skip
    have h11:=dF (Ag h11b);have h11c:(decide (x.at_=0))=false:=(Ag h11b);refine g_f rfl (Aj h11c)<|g_f rfl (Aj h11c)<|g_f rfl (Aj h11c)<|g_f rfl (Aj h11c)<|g_u rfl<|g_u rfl<|g_u rfl<|g_f rfl (Aj h11c)<|A7 rfl (Aj h11c) rfl<|Aa rfl<|g_f rfl rfl<|g_f rfl rfl<|g_f rfl rfl<|g_f rfl rfl<|g_u rfl<|g_u rfl<|g_u rfl<|g_f rfl rfl<|A7 rfl rfl rfl<|Aa rfl<|g_f rfl rfl<|g_f rfl rfl<|g_f rfl rfl<|g_f rfl rfl<|?_
    refine g_u rfl<|g_u rfl<|g_u rfl<|g_u rfl<|g_f rfl rfl<|A7 rfl rfl rfl<|Au<|fun a F=>?_
    exact ⟨true,F.to ⟨rfl,rfl,trivial⟩,M,by clear F M;unfold Da;first | (simp only [Bool.true_eq_false,true_iff,false_iff,Bool.false_eq_true,decide_eq_true_eq];grind) | grind⟩
   have h12:=dT (Ah h12b);have h12c:(decide (x.at_=0))=true:=(Ah h12b);refine g_t rfl (Ac h12c)<|A9 Bn.k rfl rfl<|g_t rfl (Ac h12c)<|Bl Hj M 0 rfl rfl rfl rfl<|g_t rfl (Ac h12c)<|Cu rfl<|g_t rfl (Ac h12c)<|Aa rfl<|?_
   rcases bE (!(decide (uCo x.kind))) with h13b | h24b
   ·skip
    have h13:=dF (Ag h13b);have h13c:(decide (uCo x.kind))=false:=(Ag h13b);refine g_t rfl (Aj h13c)<|A9 De.k rfl rfl<|g_t rfl (Aj h13c)<|Bl Ct M 1 rfl rfl rfl rfl<|g_t rfl (Aj h13c)<|Df rfl rfl<|g_t rfl (Ac h12c)<|A7 rfl (Aj h13c) rfl<|A1 rfl (Ac h12c) rfl<|Aa rfl<|?_
    rcases bE (!(decide (x.count=0))) with h14b | h15b
    ·skip
     have h14:=dF (Ag h14b);have h14c:(decide (x.count=0))=false:=(Ag h14b);refine g_f rfl (Aj h14c)<|g_f rfl (Aj h14c)<|g_f rfl (Aj h14c)<|g_f rfl (Aj h14c)<|g_u rfl<|g_u rfl<|g_u rfl<|g_f rfl (Aj h14c)<|A7 rfl (Aj h14c) rfl<|Aa rfl<|g_f rfl rfl<|g_f rfl rfl<|g_f rfl rfl<|g_f rfl rfl<|g_u rfl<|g_u rfl<|g_u rfl<|g_u rfl<|g_f rfl rfl<|A7 rfl rfl rfl<|Au<|fun a F=>?_
     exact ⟨true,F.to ⟨rfl,rfl,trivial⟩,M,by clear F M;unfold Da;first | (simp only [Bool.true_eq_false,true_iff,false_iff,Bool.false_eq_true,decide_eq_true_eq];grind) | grind⟩
    have h15:=dT (Ah h15b);have h15c:(decide (x.count=0))=true:=(Ah h15b);refine g_t rfl (Ac h15c)<|A9 Bn.k rfl rfl<|g_t rfl (Ac h15c)<|Bl Hj M 0 rfl rfl rfl rfl<|g_t rfl (Ac h15c)<|Cu rfl<|g_t rfl (Ac h15c)<|Aa rfl<|?_
    rcases bE (!(decide (uTo x.kind))) with h16b | h21b
    ·skip
     have h16:=dF (Ag h16b);have h16c:(decide (uTo x.kind))=false:=(Ag h16b);refine g_t rfl (Aj h16c)<|A9 De.k rfl rfl<|g_t rfl (Aj h16c)<|Bl Ct M 1 rfl rfl rfl rfl<|g_t rfl (Aj h16c)<|Df rfl rfl<|g_t rfl (Ac h15c)<|A7 rfl (Aj h16c) rfl<|A1 rfl (Ac h15c) rfl<|Aa rfl<|?_
     rcases bE (!(decide (x.to=0))) with h17b | h18b
     ·skip
      have h17:=dF (Ag h17b);have h17c:(decide (x.to=0))=false:=(Ag h17b);refine g_f rfl (Aj h17c)<|g_f rfl (Aj h17c)<|g_f rfl (Aj h17c)<|g_f rfl (Aj h17c)<|g_u rfl<|g_u rfl<|g_u rfl<|g_u rfl<|g_f rfl (Aj h17c)<|A7 rfl (Aj h17c) rfl<|Au<|fun a F=>?_
      exact ⟨true,F.to ⟨rfl,rfl,trivial⟩,M,by clear F M;unfold Da;first | (simp only [Bool.true_eq_false,true_iff,false_iff,Bool.false_eq_true,decide_eq_true_eq];grind) | grind⟩
     have h18:=dT (Ah h18b);have h18c:(decide (x.to=0))=true:=(Ah h18b);refine g_t rfl (Ac h18c)<|A9 Bn.k rfl rfl<|g_t rfl (Ac h18c)<|Bl Hj M 0 rfl rfl rfl rfl<|g_t rfl (Ac h18c)<|Cu rfl<|g_t rfl (Ac h18c)<|Aa rfl<|?_
     rcases bE (!(decide (uIt x.kind))) with h19b | h20b
     ·skip
      have h19:=dF (Ag h19b);have h19c:(decide (uIt x.kind))=false:=(Ag h19b);refine g_t rfl (Aj h19c)<|A9 De.k rfl rfl<|g_t rfl (Aj h19c)<|Bl A3 M 1 rfl rfl rfl rfl<|g_t rfl (Aj h19c)<|Cf A3.k rfl<|g_t rfl (Aj h19c)<|C5 rfl rfl<|g_t rfl (Ac h18c)<|A7 rfl (Aj h19c) rfl<|A1 rfl (Ac h18c) rfl<|Au<|fun a F=>?_
      exact ⟨(decide (0 < ((x.items.length:Nat):Int))),F.to ⟨rfl,rfl,trivial⟩,M,by clear F M;unfold Da;first | (simp only [Bool.true_eq_false,true_iff,false_iff,Bool.false_eq_true,decide_eq_true_eq];grind) | grind⟩
     have h20:=dT (Ah h20b);have h20c:(decide (uIt x.kind))=true:=(Ah h20b);refine g_f rfl (Ac h20c)<|g_f rfl (Ac h20c)<|g_f rfl (Ac h20c)<|g_f rfl (Ac h20c)<|g_t rfl (Ac h18c)<|A1 rfl (Ac h20c) rfl<|A1 rfl (Ac h18c) rfl<|Au<|fun a F=>?_
     exact ⟨false,F.to ⟨rfl,rfl,trivial⟩,M,by clear F M;unfold Da;first | (simp only [Bool.true_eq_false,true_iff,false_iff,Bool.false_eq_true,decide_eq_true_eq];grind) | grind⟩
    have h21:=dT (Ah h21b);have h21c:(decide (uTo x.kind))=true:=(Ah h21b);refine g_f rfl (Ac h21c)<|g_f rfl (Ac h21c)<|g_f rfl (Ac h21c)<|g_t rfl (Ac h15c)<|A1 rfl (Ac h21c) rfl<|A1 rfl (Ac h15c) rfl<|Aa rfl<|g_t rfl rfl<|A9 Bn.k rfl rfl<|g_t rfl rfl<|Bl Hj M 0 rfl rfl rfl rfl<|g_t rfl rfl<|Cu rfl<|g_t rfl rfl<|Aa rfl<|?_
    rcases bE (!(decide (uIt x.kind))) with h22b | h23b
    ·skip
     have h22:=dF (Ag h22b);have h22c:(decide (uIt x.kind))=false:=(Ag h22b);refine g_t rfl (Aj h22c)<|A9 De.k rfl rfl<|g_t rfl (Aj h22c)<|Bl A3 M 1 rfl rfl rfl rfl<|g_t rfl (Aj h22c)<|Cf A3.k rfl<|g_t rfl (Aj h22c)<|C5 rfl rfl<|g_t rfl rfl<|A7 rfl (Aj h22c) rfl<|A1 rfl rfl rfl<|Au<|fun a F=>?_
     exact ⟨(decide (0 < ((x.items.length:Nat):Int))),F.to ⟨rfl,rfl,trivial⟩,M,by clear F M;unfold Da;first | (simp only [Bool.true_eq_false,true_iff,false_iff,Bool.false_eq_true,decide_eq_true_eq];grind) | grind⟩
    have h23:=dT (Ah h23b);have h23c:(decide (uIt x.kind))=true:=(Ah h23b);refine g_f rfl (Ac h23c)<|g_f rfl (Ac h23c)<|g_f rfl (Ac h23c)<|g_f rfl (Ac h23c)<|g_t rfl rfl<|A1 rfl (Ac h23c) rfl<|A1 rfl rfl rfl<|Au<|fun a F=>?_
    exact ⟨false,F.to ⟨rfl,rfl,trivial⟩,M,by clear F M;unfold Da;first | (simp only [Bool.true_eq_false,true_iff,false_iff,Bool.false_eq_true,decide_eq_true_eq];grind) | grind⟩
   have h24:=dT (Ah h24b);have h24c:(decide (uCo x.kind))=true:=(Ah h24b);refine g_f rfl (Ac h24c)<|g_f rfl (Ac h24c)<|g_f rfl (Ac h24c)<|g_t rfl (Ac h12c)<|A1 rfl (Ac h24c) rfl<|A1 rfl (Ac h12c) rfl<|Aa rfl<|g_t rfl rfl<|A9 Bn.k rfl rfl<|g_t rfl rfl<|Bl Hj M 0 rfl rfl rfl rfl<|g_t rfl rfl<|Cu rfl<|g_t rfl rfl<|Aa rfl<|?_
   rcases bE (!(decide (uTo x.kind))) with h25b | h30b
   ·skip
    have h25:=dF (Ag h25b);have h25c:(decide (uTo x.kind))=false:=(Ag h25b);refine g_t rfl (Aj h25c)<|A9 De.k rfl rfl<|g_t rfl (Aj h25c)<|Bl Ct M 1 rfl rfl rfl rfl<|g_t rfl (Aj h25c)<|Df rfl rfl<|g_t rfl rfl<|A7 rfl (Aj h25c) rfl<|A1 rfl rfl rfl<|Aa rfl<|?_
    rcases bE (!(decide (x.to=0))) with h26b | h27b
    ·skip
     have h26:=dF (Ag h26b);have h26c:(decide (x.to=0))=false:=(Ag h26b);refine g_f rfl (Aj h26c)<|g_f rfl (Aj h26c)<|g_f rfl (Aj h26c)<|g_f rfl (Aj h26c)<|g_u rfl<|g_u rfl<|g_u rfl<|g_u rfl<|g_f rfl (Aj h26c)<|A7 rfl (Aj h26c) rfl<|Au<|fun a F=>?_
     exact ⟨true,F.to ⟨rfl,rfl,trivial⟩,M,by clear F M;unfold Da;first | (simp only [Bool.true_eq_false,true_iff,false_iff,Bool.false_eq_true,decide_eq_true_eq];grind) | grind⟩
    have h27:=dT (Ah h27b);have h27c:(decide (x.to=0))=true:=(Ah h27b);refine g_t rfl (Ac h27c)<|A9 Bn.k rfl rfl<|g_t rfl (Ac h27c)<|Bl Hj M 0 rfl rfl rfl rfl<|g_t rfl (Ac h27c)<|Cu rfl<|g_t rfl (Ac h27c)<|Aa rfl<|?_
    rcases bE (!(decide (uIt x.kind))) with h28b | h29b
    ·skip
     have h28:=dF (Ag h28b);have h28c:(decide (uIt x.kind))=false:=(Ag h28b);refine g_t rfl (Aj h28c)<|A9 De.k rfl rfl<|g_t rfl (Aj h28c)<|Bl A3 M 1 rfl rfl rfl rfl<|g_t rfl (Aj h28c)<|Cf A3.k rfl<|g_t rfl (Aj h28c)<|C5 rfl rfl<|g_t rfl (Ac h27c)<|A7 rfl (Aj h28c) rfl<|A1 rfl (Ac h27c) rfl<|Au<|fun a F=>?_
     exact ⟨(decide (0 < ((x.items.length:Nat):Int))),F.to ⟨rfl,rfl,trivial⟩,M,by clear F M;unfold Da;first | (simp only [Bool.true_eq_false,true_iff,false_iff,Bool.false_eq_true,decide_eq_true_eq];grind) | grind⟩
    have h29:=dT (Ah h29b);have h29c:(decide (uIt x.kind))=true:=(Ah h29b);refine g_f rfl (Ac h29c)<|g_f rfl (Ac h29c)<|g_f rfl (Ac h29c)<|g_f rfl (Ac h29c)<|g_t rfl (Ac h27c)<|A1 rfl (Ac h29c) rfl<|A1 rfl (Ac h27c) rfl<|Au<|fun a F=>?_
    exact ⟨false,F.to ⟨rfl,rfl,trivial⟩,M,by clear F M;unfold Da;first | (simp only [Bool.true_eq_false,true_iff,false_iff,Bool.false_eq_true,decide_eq_true_eq];grind) | grind⟩
   have h30:=dT (Ah h30b);have h30c:(decide (uTo x.kind))=true:=(Ah h30b);refine g_f rfl (Ac h30c)<|g_f rfl (Ac h30c)<|g_f rfl (Ac h30c)<|g_t rfl rfl<|A1 rfl (Ac h30c) rfl<|A1 rfl rfl rfl<|Aa rfl<|g_t rfl rfl<|A9 Bn.k rfl rfl<|g_t rfl rfl<|Bl Hj M 0 rfl rfl rfl rfl<|g_t rfl rfl<|Cu rfl<|g_t rfl rfl<|Aa rfl<|?_
   rcases bE (!(decide (uIt x.kind))) with h31b | h32b
   ·skip
    have h31:=dF (Ag h31b);have h31c:(decide (uIt x.kind))=false:=(Ag h31b);refine g_t rfl (Aj h31c)<|A9 De.k rfl rfl<|g_t rfl (Aj h31c)<|Bl A3 M 1 rfl rfl rfl rfl<|g_t rfl (Aj h31c)<|Cf A3.k rfl<|g_t rfl (Aj h31c)<|C5 rfl rfl<|g_t rfl rfl<|A7 rfl (Aj h31c) rfl<|A1 rfl rfl rfl<|Au<|fun a F=>?_
    exact ⟨(decide (0 < ((x.items.length:Nat):Int))),F.to ⟨rfl,rfl,trivial⟩,M,by clear F M;unfold Da;first | (simp only [Bool.true_eq_false,true_iff,false_iff,Bool.false_eq_true,decide_eq_true_eq];grind) | grind⟩
   have h32:=dT (Ah h32b);have h32c:(decide (uIt x.kind))=true:=(Ah h32b);refine g_f rfl (Ac h32c)<|g_f rfl (Ac h32c)<|g_f rfl (Ac h32c)<|g_f rfl (Ac h32c)<|g_t rfl rfl<|A1 rfl (Ac h32c) rfl<|A1 rfl rfl rfl<|Au<|fun a F=>?_
   exact ⟨false,F.to ⟨rfl,rfl,trivial⟩,M,by clear F M;unfold Da;first | (simp only [Bool.true_eq_false,true_iff,false_iff,Bool.false_eq_true,decide_eq_true_eq];grind) | grind⟩
  have h33:=dT (Ah h33b);have h33c:(decide (uAt x.kind))=true:=(Ah h33b);refine g_f rfl (Ac h33c)<|g_f rfl (Ac h33c)<|g_f rfl (Ac h33c)<|A1 rfl (Ac h33c) rfl<|Aa rfl<|g_t rfl rfl<|A9 Bn.k rfl rfl<|g_t rfl rfl<|Bl Hj M 0 rfl rfl rfl rfl<|g_t rfl rfl<|Cu rfl<|g_t rfl rfl<|Aa rfl<|?_
  rcases bE (!(decide (uCo x.kind))) with h34b | h45b
  ·skip
   have h34:=dF (Ag h34b);have h34c:(decide (uCo x.kind))=false:=(Ag h34b);refine g_t rfl (Aj h34c)<|A9 De.k rfl rfl<|g_t rfl (Aj h34c)<|Bl Ct M 1 rfl rfl rfl rfl<|g_t rfl (Aj h34c)<|Df rfl rfl<|g_t rfl rfl<|A7 rfl (Aj h34c) rfl<|A1 rfl rfl rfl<|Aa rfl<|?_
   rcases bE (!(decide (x.count=0))) with h35b | h36b
   ·skip
    have h35:=dF (Ag h35b);have h35c:(decide (x.count=0))=false:=(Ag h35b);refine g_f rfl (Aj h35c)<|g_f rfl (Aj h35c)<|g_f rfl (Aj h35c)<|g_f rfl (Aj h35c)<|g_u rfl<|g_u rfl<|g_u rfl<|g_f rfl (Aj h35c)<|A7 rfl (Aj h35c) rfl<|Aa rfl<|g_f rfl rfl<|g_f rfl rfl<|g_f rfl rfl<|g_f rfl rfl<|g_u rfl<|g_u rfl<|g_u rfl<|g_u rfl<|g_f rfl rfl<|A7 rfl rfl rfl<|Au<|fun a F=>?_
    exact ⟨true,F.to ⟨rfl,rfl,trivial⟩,M,by clear F M;unfold Da;first | (simp only [Bool.true_eq_false,true_iff,false_iff,Bool.false_eq_true,decide_eq_true_eq];grind) | grind⟩
   have h36:=dT (Ah h36b);have h36c:(decide (x.count=0))=true:=(Ah h36b);refine g_t rfl (Ac h36c)<|A9 Bn.k rfl rfl<|g_t rfl (Ac h36c)<|Bl Hj M 0 rfl rfl rfl rfl<|g_t rfl (Ac h36c)<|Cu rfl<|g_t rfl (Ac h36c)<|Aa rfl<|?_
   rcases bE (!(decide (uTo x.kind))) with h37b | h42b
   ·skip
    have h37:=dF (Ag h37b);have h37c:(decide (uTo x.kind))=false:=(Ag h37b);refine g_t rfl (Aj h37c)<|A9 De.k rfl rfl<|g_t rfl (Aj h37c)<|Bl Ct M 1 rfl rfl rfl rfl<|g_t rfl (Aj h37c)<|Df rfl rfl<|g_t rfl (Ac h36c)<|A7 rfl (Aj h37c) rfl<|A1 rfl (Ac h36c) rfl<|Aa rfl<|?_
    rcases bE (!(decide (x.to=0))) with h38b | h39b
    ·skip
     have h38:=dF (Ag h38b);have h38c:(decide (x.to=0))=false:=(Ag h38b);refine g_f rfl (Aj h38c)<|g_f rfl (Aj h38c)<|g_f rfl (Aj h38c)<|g_f rfl (Aj h38c)<|g_u rfl<|g_u rfl<|g_u rfl<|g_u rfl<|g_f rfl (Aj h38c)<|A7 rfl (Aj h38c) rfl<|Au<|fun a F=>?_
     exact ⟨true,F.to ⟨rfl,rfl,trivial⟩,M,by clear F M;unfold Da;first | (simp only [Bool.true_eq_false,true_iff,false_iff,Bool.false_eq_true,decide_eq_true_eq];grind) | grind⟩
    have h39:=dT (Ah h39b);have h39c:(decide (x.to=0))=true:=(Ah h39b);refine g_t rfl (Ac h39c)<|A9 Bn.k rfl rfl<|g_t rfl (Ac h39c)<|Bl Hj M 0 rfl rfl rfl rfl<|g_t rfl (Ac h39c)<|Cu rfl<|g_t rfl (Ac h39c)<|Aa rfl<|?_
    rcases bE (!(decide (uIt x.kind))) with h40b | h41b
    ·skip
     have h40:=dF (Ag h40b);have h40c:(decide (uIt x.kind))=false:=(Ag h40b);refine g_t rfl (Aj h40c)<|A9 De.k rfl rfl<|g_t rfl (Aj h40c)<|Bl A3 M 1 rfl rfl rfl rfl<|g_t rfl (Aj h40c)<|Cf A3.k rfl<|g_t rfl (Aj h40c)<|C5 rfl rfl<|g_t rfl (Ac h39c)<|A7 rfl (Aj h40c) rfl<|A1 rfl (Ac h39c) rfl<|Au<|fun a F=>?_
     exact ⟨(decide (0 < ((x.items.length:Nat):Int))),F.to ⟨rfl,rfl,trivial⟩,M,by clear F M;unfold Da;first | (simp only [Bool.true_eq_false,true_iff,false_iff,Bool.false_eq_true,decide_eq_true_eq];grind) | grind⟩
    have h41:=dT (Ah h41b);have h41c:(decide (uIt x.kind))=true:=(Ah h41b);refine g_f rfl (Ac h41c)<|g_f rfl (Ac h41c)<|g_f rfl (Ac h41c)<|g_f rfl (Ac h41c)<|g_t rfl (Ac h39c)<|A1 rfl (Ac h41c) rfl<|A1 rfl (Ac h39c) rfl<|Au<|fun a F=>?_
    exact ⟨false,F.to ⟨rfl,rfl,trivial⟩,M,by clear F M;unfold Da;first | (simp only [Bool.true_eq_false,true_iff,false_iff,Bool.false_eq_true,decide_eq_true_eq];grind) | grind⟩
   have h42:=dT (Ah h42b);have h42c:(decide (uTo x.kind))=true:=(Ah h42b);refine g_f rfl (Ac h42c)<|g_f rfl (Ac h42c)<|g_f rfl (Ac h42c)<|g_t rfl (Ac h36c)<|A1 rfl (Ac h42c) rfl<|A1 rfl (Ac h36c) rfl<|Aa rfl<|g_t rfl rfl<|A9 Bn.k rfl rfl<|g_t rfl rfl<|Bl Hj M 0 rfl rfl rfl rfl<|g_t rfl rfl<|Cu rfl<|g_t rfl rfl<|Aa rfl<|?_
   rcases bE (!(decide (uIt x.kind))) with h43b | h44b
   ·skip
    have h43:=dF (Ag h43b);have h43c:(decide (uIt x.kind))=false:=(Ag h43b);refine g_t rfl (Aj h43c)<|A9 De.k rfl rfl<|g_t rfl (Aj h43c)<|Bl A3 M 1 rfl rfl rfl rfl<|g_t rfl (Aj h43c)<|Cf A3.k rfl<|g_t rfl (Aj h43c)<|C5 rfl rfl<|g_t rfl rfl<|A7 rfl (Aj h43c) rfl<|A1 rfl rfl rfl<|Au<|fun a F=>?_
    exact ⟨(decide (0 < ((x.items.length:Nat):Int))),F.to ⟨rfl,rfl,trivial⟩,M,by clear F M;unfold Da;first | (simp only [Bool.true_eq_false,true_iff,false_iff,Bool.false_eq_true,decide_eq_true_eq];grind) | grind⟩
   have h44:=dT (Ah h44b);have h44c:(decide (uIt x.kind))=true:=(Ah h44b);refine g_f rfl (Ac h44c)<|g_f rfl (Ac h44c)<|g_f rfl (Ac h44c)<|g_f rfl (Ac h44c)<|g_t rfl rfl<|A1 rfl (Ac h44c) rfl<|A1 rfl rfl rfl<|Au<|fun a F=>?_
   exact ⟨false,F.to ⟨rfl,rfl,trivial⟩,M,by clear F M;unfold Da;first | (simp only [Bool.true_eq_false,true_iff,false_iff,Bool.false_eq_true,decide_eq_true_eq];grind) | grind⟩
  have h45:=dT (Ah h45b);have h45c:(decide (uCo x.kind))=true:=(Ah h45b);refine g_f rfl (Ac h45c)<|g_f rfl (Ac h45c)<|g_f rfl (Ac h45c)<|g_t rfl rfl<|A1 rfl (Ac h45c) rfl<|A1 rfl rfl rfl<|Aa rfl<|g_t rfl rfl<|A9 Bn.k rfl rfl<|g_t rfl rfl<|Bl Hj M 0 rfl rfl rfl rfl<|g_t rfl rfl<|Cu rfl<|g_t rfl rfl<|Aa rfl<|?_
  rcases bE (!(decide (uTo x.kind))) with h46b | h51b
  ·skip
   have h46:=dF (Ag h46b);have h46c:(decide (uTo x.kind))=false:=(Ag h46b);refine g_t rfl (Aj h46c)<|A9 De.k rfl rfl<|g_t rfl (Aj h46c)<|Bl Ct M 1 rfl rfl rfl rfl<|g_t rfl (Aj h46c)<|Df rfl rfl<|g_t rfl rfl<|A7 rfl (Aj h46c) rfl<|A1 rfl rfl rfl<|Aa rfl<|?_
   rcases bE (!(decide (x.to=0))) with h47b | h48b
   ·skip
    have h47:=dF (Ag h47b);have h47c:(decide (x.to=0))=false:=(Ag h47b);refine g_f rfl (Aj h47c)<|g_f rfl (Aj h47c)<|g_f rfl (Aj h47c)<|g_f rfl (Aj h47c)<|g_u rfl<|g_u rfl<|g_u rfl<|g_u rfl<|g_f rfl (Aj h47c)<|A7 rfl (Aj h47c) rfl<|Au<|fun a F=>?_
    exact ⟨true,F.to ⟨rfl,rfl,trivial⟩,M,by clear F M;unfold Da;first | (simp only [Bool.true_eq_false,true_iff,false_iff,Bool.false_eq_true,decide_eq_true_eq];grind) | grind⟩
   have h48:=dT (Ah h48b);have h48c:(decide (x.to=0))=true:=(Ah h48b);refine g_t rfl (Ac h48c)<|A9 Bn.k rfl rfl<|g_t rfl (Ac h48c)<|Bl Hj M 0 rfl rfl rfl rfl<|g_t rfl (Ac h48c)<|Cu rfl<|g_t rfl (Ac h48c)<|Aa rfl<|?_
   rcases bE (!(decide (uIt x.kind))) with h49b | h50b
   ·skip
    have h49:=dF (Ag h49b);have h49c:(decide (uIt x.kind))=false:=(Ag h49b);refine g_t rfl (Aj h49c)<|A9 De.k rfl rfl<|g_t rfl (Aj h49c)<|Bl A3 M 1 rfl rfl rfl rfl<|g_t rfl (Aj h49c)<|Cf A3.k rfl<|g_t rfl (Aj h49c)<|C5 rfl rfl<|g_t rfl (Ac h48c)<|A7 rfl (Aj h49c) rfl<|A1 rfl (Ac h48c) rfl<|Au<|fun a F=>?_
    exact ⟨(decide (0 < ((x.items.length:Nat):Int))),F.to ⟨rfl,rfl,trivial⟩,M,by clear F M;unfold Da;first | (simp only [Bool.true_eq_false,true_iff,false_iff,Bool.false_eq_true,decide_eq_true_eq];grind) | grind⟩
   have h50:=dT (Ah h50b);have h50c:(decide (uIt x.kind))=true:=(Ah h50b);refine g_f rfl (Ac h50c)<|g_f rfl (Ac h50c)<|g_f rfl (Ac h50c)<|g_f rfl (Ac h50c)<|g_t rfl (Ac h48c)<|A1 rfl (Ac h50c) rfl<|A1 rfl (Ac h48c) rfl<|Au<|fun a F=>?_
   exact ⟨false,F.to ⟨rfl,rfl,trivial⟩,M,by clear F M;unfold Da;first | (simp only [Bool.true_eq_false,true_iff,false_iff,Bool.false_eq_true,decide_eq_true_eq];grind) | grind⟩
  have h51:=dT (Ah h51b);have h51c:(decide (uTo x.kind))=true:=(Ah h51b);refine g_f rfl (Ac h51c)<|g_f rfl (Ac h51c)<|g_f rfl (Ac h51c)<|g_t rfl rfl<|A1 rfl (Ac h51c) rfl<|A1 rfl rfl rfl<|Aa rfl<|g_t rfl rfl<|A9 Bn.k rfl rfl<|g_t rfl rfl<|Bl Hj M 0 rfl rfl rfl rfl<|g_t rfl rfl<|Cu rfl<|g_t rfl rfl<|Aa rfl<|?_
  rcases bE (!(decide (uIt x.kind))) with h52b | h53b
  ·skip
   have h52:=dF (Ag h52b);have h52c:(decide (uIt x.kind))=false:=(Ag h52b);refine g_t rfl (Aj h52c)<|A9 De.k rfl rfl<|g_t rfl (Aj h52c)<|Bl A3 M 1 rfl rfl rfl rfl<|g_t rfl (Aj h52c)<|Cf A3.k rfl<|g_t rfl (Aj h52c)<|C5 rfl rfl<|g_t rfl rfl<|A7 rfl (Aj h52c) rfl<|A1 rfl rfl rfl<|Au<|fun a F=>?_
   exact ⟨(decide (0 < ((x.items.length:Nat):Int))),F.to ⟨rfl,rfl,trivial⟩,M,by clear F M;unfold Da;first | (simp only [Bool.true_eq_false,true_iff,false_iff,Bool.false_eq_true,decide_eq_true_eq];grind) | grind⟩
  have h53:=dT (Ah h53b);have h53c:(decide (uIt x.kind))=true:=(Ah h53b);refine g_f rfl (Ac h53c)<|g_f rfl (Ac h53c)<|g_f rfl (Ac h53c)<|g_f rfl (Ac h53c)<|g_t rfl rfl<|A1 rfl (Ac h53c) rfl<|A1 rfl rfl rfl<|Au<|fun a F=>?_
  exact ⟨false,F.to ⟨rfl,rfl,trivial⟩,M,by clear F M;unfold Da;first | (simp only [Bool.true_eq_false,true_iff,false_iff,Bool.false_eq_true,decide_eq_true_eq];grind) | grind⟩
 clear F M;rintro a w ⟨bb,F,M,hbb⟩;revert a;refine Ap rfl ?_ ?_
 ·intro h54b;have h54:(bb)=true:=h54b;refine Ai<|?_
  have hF:¬ Da x:=hbb.1 (by assumption);refine Aw<|Ab rfl<|Al<|Ak rfl rfl<|?_
  exact ⟨M.weaken dS2,by rw [note_5 (by omega) hF]⟩
 intro h55b;have h55:(bb)=false:=h55b;refine Ao<|Ai<|?_
 have hF:Da x:=Classical.byContradiction fun h_=>by have h9_:=hbb.2 h_;simp_all
 refine Aw<|Ab rfl<|Al<|Ak rfl rfl<|?_
 exact ⟨M.weaken dS2,by rw [note_0 (by omega) hF]⟩
deriving instance DecidableEq for EntD
deriving instance DecidableEq for NotD
def fm {α:Type} (l:List (Bool × α)):List α:=(l.filter (·.1)).map (·.2)
section
variable {ρ:Operand→Value} {P:Program} {d:Option Tmp} {t:TypeId} {p:String} {af:Array Edge} {g:Option (Nat × Bool)} {w:World}
end
theorem L7 {α:Type} {l:List (Bool × α)} {i:Nat} {x:Bool × α} (h:l[i]?=some x):fm (l.take (i+1))=fm (l.take i)++(if x.1=true then [x.2] else []):=by
 unfold fm;rw [List.take_add_one,h];simp only [Option.toList_some,List.filter_append,List.map_append]
 congr 1
 by_cases hx:x.1=true
 ·simp [hx]
 simp [hx]
theorem X3 {α:Type} (l:List (Bool × α)):(fm l).length≤l.length:=by
 unfold fm;rw [List.length_map];exact List.length_filter_le _ _
def Ii (k b b2:Nat):List (Bool × (Nat × Nat)):=[(decide (uAt k),(b,1)),(decide (uCo k),(b,2)),(decide (uTo k),(b,3)),(decide (uIt k),(b2,0))]
def nuK (x:NotD) (sz:Int):List (Bool × Int):=[(decide (uAt x.kind),x.at_),(decide (uCo x.kind),x.count),(decide (uTo x.kind),x.to),(decide (uIt x.kind),sz)]
def Xa:Rd (Nat × Nat):=fun _ cs p=>cs=[.pointer (some ⟨p.1,p.2,none⟩)]
theorem Vo:Ie Xa:=fun _ _ _ _ _ h=>h
def rdUP:Rd (Bool × (Nat × Nat)):=fun _ cs p=>cs=[.bool p.1,.pointer (some ⟨p.2.1,p.2.2,none⟩)]
theorem Vn:Ie rdUP:=fun _ _ _ _ _ h=>h
theorem els_ups {G:Av} {a b c d:Bool} {b1 b2 b3 b4 o1 o2 o3 o4:Nat}:Els rdUP 2 G [.bool a,.pointer (some ⟨b1,o1,none⟩),.bool b,.pointer (some ⟨b2,o2,none⟩),.bool c,.pointer (some ⟨b3,o3,none⟩),.bool d,.pointer (some ⟨b4,o4,none⟩)] [(a,(b1,o1)),(b,(b2,o2)),(c,(b3,o3)),(d,(b4,o4))] :=
 ⟨[.bool a,.pointer (some ⟨b1,o1,none⟩)],_,rfl,rfl,rfl,[.bool b,.pointer (some ⟨b2,o2,none⟩)],_,rfl,rfl,rfl,[.bool c,.pointer (some ⟨b3,o3,none⟩)],_,rfl,rfl,rfl,[.bool d,.pointer (some ⟨b4,o4,none⟩)],[],rfl,rfl,rfl,rfl⟩
theorem els_pt {G:Av} {p:Nat × Nat}:Els Xa 1 G [.pointer (some ⟨p.1,p.2,none⟩)] [p]:=⟨[.pointer (some ⟨p.1,p.2,none⟩)],[],rfl,rfl,rfl,rfl⟩
theorem fld_get {x:NotD} {b b2 i:Nat} {sz:Int} {p:Nat × Nat} (h:(fm (Ii x.kind b b2))[i]?=some p) :
  ∃ z,(fm (nuK x sz))[i]?=some z∧((p=(b,1)∧z=x.at_)∨(p=(b,2)∧z=x.count)∨(p=(b,3)∧z=x.to)∨(p=(b2,0)∧z=sz)):=by
 unfold Ii fm at h;unfold nuK fm
 rcases bE (decide (uAt x.kind)) with h1 | h1 <;> rcases bE (decide (uCo x.kind)) with h2 | h2 <;>
 rcases bE (decide (uTo x.kind)) with h3 | h3 <;> rcases bE (decide (uIt x.kind)) with h4 | h4 <;> rw [h1,h2,h3,h4] at h ⊢ <;>
 simp only [List.filter_cons,List.filter_nil,if_true,if_false,Bool.false_eq_true,List.map_cons,List.map_nil] at h ⊢ <;>
 rcases i with _ | _ | _ | _ | i <;> simp only [List.getElem?_cons_zero,List.getElem?_cons_succ,List.getElem?_nil,Option.some.injEq,reduceCtorEq] at h <;>
 first | contradiction | (subst h;exact ⟨_,rfl,by simp⟩)
theorem Ue {x:NotD} {b b2:Nat} {sz:Int}:(fm (Ii x.kind b b2)).length=(fm (nuK x sz)).length:=by
 unfold Ii nuK fm
 rcases bE (decide (uAt x.kind)) with h1 | h1 <;> rcases bE (decide (uCo x.kind)) with h2 | h2 <;>
 rcases bE (decide (uTo x.kind)) with h3 | h3 <;> rcases bE (decide (uIt x.kind)) with h4 | h4 <;> rw [h1,h2,h3,h4] <;> rfl
def Cy (zs:List Int):List UInt8:=zs.flatMap fun z=>32::Lib.itoa z
theorem R6 {zs:List Int} {i:Nat} {z:Int} (h:zs[i]?=some z):Cy (zs.take (i+1))=Cy (zs.take i)++(32::Lib.itoa z):=by
 unfold Cy;rw [List.take_add_one,h];simp
def Fl (x:NotD) (sz:Int):List UInt8:=Cc x.kind++Cy (fm (nuK x sz))++[10]
def Xn (x:NotD):List UInt8:=Fl x ((x.items.length:Nat):Int)++Bd x.items
def C1 (l:List NotD):List UInt8:=l.flatMap Xn
theorem S4 {l:List NotD} {i:Nat} {x:NotD} (h:l[i]?=some x):C1 (l.take (i+1))=C1 (l.take i)++Xn x:=by
 unfold C1;rw [List.take_add_one,h];simp
def Gj (x:NotD):Int:=if Ge x≠0 then Ge x else Dj x.items
def Lt (l:List NotD) (i:Nat):Int:=match l[i]? with
 | some x=>Gj x
 | none=>0
theorem Ti {l:List NotD} {i:Nat} {x:NotD} (h:l[i]?=some x):Lt l i=Gj x:=by unfold Lt;rw [h]
def Fc (l:List NotD):Int:=if 32 < l.length then 3 else if D3 (Lt l) l.length≠0 then D3 (Lt l) l.length else if 1048576 < (C1 l).length then 3 else 0
def H2 (l:List NotD):List UInt8:=if Fc l=0 then C1 l else []
section
variable {l:List NotD} {i:Nat} {x:NotD}
theorem nt_3 (h:32 < l.length):Fc l=3∧H2 l=[]:=by
 have h1:Fc l=3:=by unfold Fc;rw [if_pos h]
 exact ⟨h1,by unfold H2;rw [if_neg (by omega)]⟩
theorem nt_e (h:¬ 32 < l.length) (hS:D3 (Lt l) i=0) (hx:l[i]?=some x) (he:Gj x≠0):Fc l=Gj x∧H2 l=[]:=by
 have h0:=Tf hS (Bm hx) (by rw [Ti hx];exact he);rw [Ti hx] at h0;have h1:Fc l=Gj x:=by unfold Fc;rw [if_neg h,if_pos (by rw [h0];exact he),h0]
 exact ⟨h1,by unfold H2;rw [if_neg (by rw [h1];exact he)]⟩
theorem Xk (h:¬ 32 < l.length) (hS:D3 (Lt l) i=0) (hi:i=l.length) (hl:1048576 < (C1 (l.take i)).length):Fc l=3∧H2 l=[]:=by
 subst hi;rw [List.take_length] at hl;have h1:Fc l=3:=by unfold Fc;rw [if_neg h,if_neg (not_not_intro hS),if_pos hl]
 exact ⟨h1,by unfold H2;rw [if_neg (by omega)]⟩
theorem nt_0 (h:¬ 32 < l.length) (hS:D3 (Lt l) i=0) (hi:i=l.length) (hl:¬ 1048576 < (C1 (l.take i)).length):Fc l=0∧H2 l=C1 (l.take i):=by
 subst hi;rw [List.take_length] at hl ⊢;have h1:Fc l=0:=by unfold Fc;rw [if_neg h,if_neg (not_not_intro hS),if_neg hl]
 exact ⟨h1,by unfold H2;rw [if_pos h1]⟩
end
theorem N4 {l:List ItemD} (h:Dj l=0):(l.length≤1024∧Dl l)∧Eh l=Bd l:=by
 by_cases h1:1024 < l.length
 ·rw [(Kb h1).1] at h;cases h
 by_cases h2:Dl l
 ·exact ⟨⟨by omega,h2⟩,(G8 (by omega) h2).2⟩
 rw [(Kc (by omega) h2).1] at h;cases h
theorem X9 {x:NotD} (h:Ge x≠0):Gj x=Ge x:=by unfold Gj;rw [if_pos h]
theorem Uh {x:NotD} (h:Ge x=0):Gj x=Dj x.items:=by unfold Gj;rw [if_neg (not_not_intro h)]
theorem R5 {k:List UInt8} {zs:List Int} {i:Nat} {z:Int} (h:zs[i]?=some z):k++Cy (zs.take i)++([32]++Lib.itoa z)=k++Cy (zs.take (i+1)):=by
 rw [R6 h];simp only [List.append_assoc,List.cons_append,List.nil_append]
theorem Xl {l:List NotD} {i:Nat} {x:NotD} (h:l[i]?=some x) {zs:List Int} {j:Nat} (hz:zs=fm (nuK x ((x.items.length:Nat):Int))) (hj:zs.length≤j) {t:List UInt8} (ht:t=Bd x.items) :
  C1 (l.take i)++Cc x.kind++Cy (zs.take j)++([10]++t)=C1 (l.take (i+1)):=by
 subst hz ht;rw [List.take_of_length_le hj,S4 h];simp only [Xn,Fl,List.append_assoc,List.cons_append,List.nil_append]
theorem Oj (k:Nat):(Cc k).length≤6:=by unfold Cc;split <;> simp
theorem Rg {z:Int} (h:Bh .i64 z):(Lib.itoa z).length≤21:=by
 obtain ⟨h1,h2⟩:=h;have h1:-9223372036854775808≤z:=h1;have h2:z≤9223372036854775807:=h2;unfold Lib.itoa
 split
 ·have:=Ed z.natAbs (by omega);simp only [List.length_cons,List.length_append,List.length_nil];omega
 have:=Ed z.toNat (by omega)
 omega
theorem Kw:∀ {zs:List Int},(∀ z∈zs,Bh .i64 z)→(Cy zs).length≤22 * zs.length
 | [],_=>by simp [Cy]
 | z::zs,h=>by
  have h1:=Rg (h z (by simp));have h2:=Kw (zs:=zs) fun y hy=>h y (by simp [hy]);simp only [Cy,List.flatMap_cons,List.length_append,List.length_cons] at h2 ⊢
  omega
theorem Pz {x:NotD} {sz:Int} (h1:Bh .i64 x.at_) (h2:Bh .i64 x.count) (h3:Bh .i64 x.to) (h4:Bh .i64 sz):∀ z∈fm (nuK x sz),Bh .i64 z:=by
 intro z hz;unfold fm nuK at hz;simp only [List.mem_map,List.mem_filter,List.mem_cons,List.not_mem_nil,or_false] at hz;obtain ⟨⟨b,y⟩,⟨hy | hy | hy | hy,_⟩,rfl⟩:=hz <;> (simp only [Prod.mk.injEq] at hy;obtain ⟨_,rfl⟩:=hy;assumption)
theorem Rj (M:Mem w0 G L w) (HG:Globs 0 1 2 3 G) {z:Int} (hz:Bh .i64 z):Calls Tryz.prog 133 #[.int .i64 z] w (B5 w0 G L fun v=>v=.string (str (Lib.itoa z))):=by
 refine Az (vs:=[_]) Tryz.func133 rfl (n:=5) rfl rfl<|Ad<|Ab rfl<|Ad<|Aa rfl<|Bc Yj rfl rfl (Rk (n:=z) M HG (by first | assumption | exact ⟨by decide,by decide⟩ | exact wrap_ink _ _ | exact Cl (by omega) (by omega)))<|?_;clear M;rintro _ w M rfl
 refine Ab rfl<|Al<|Ak rfl rfl<|?_
 exact ⟨M,rfl⟩
theorem S9 (M:Mem w0 G L w) (HG:Globs 0 1 2 3 G) {z:Int} (hz:Bh .i64 z):Calls Tryz.prog 83 #[.int .i64 z] w (B5 w0 G L fun v=>v=.string (str (Lib.itoa z))):=by
 refine Az (vs:=[_]) Tryz.func83 rfl (n:=5) rfl rfl<|Ad<|Ab rfl<|Ad<|Aa rfl<|Bc Yl rfl rfl (Rj (z:=z) M HG hz)<|?_;clear M;rintro _ w M rfl
 refine Ab rfl<|Al<|Ak rfl rfl<|?_
 exact ⟨M,rfl⟩
theorem We {w0 w:World} {G:Av} {L:List Res} {b n c:Nat} {ad:Option Addr} {l:List UInt8} {p:Value} (M:Mem w0 G (.blk b [p,.slice ad n c] 101::.row (.slice ad n c) n (bc l) 5 1::L) w) (hn:n=l.length) :
  Calls Tryz.prog 84 #[.pointer (some ⟨b,0,none⟩)] w (B5 w0 G (.blk b [p,.slice ad n c] 101::.row (.slice ad n c) n (bc l) 5 1::L) fun v=>v=.int .i64 ((l.length:Nat):Int)):=by
 refine Az (vs:=[_]) Tryz.func84 rfl (n:=8) rfl rfl<|Ad<|Ab rfl<|Ad<|Aa rfl<|Fj rfl<|A9 Eg.k rfl rfl<|Bl G7 M 0 rfl rfl rfl rfl<|Cf G7.k rfl<|Ab rfl<|Al<|Ak rfl rfl<|?_
 exact ⟨M,by rw [hn]⟩
theorem Vj (M:Mem w0 G L w) {k b b2:Nat}:Calls Tryz.prog 82 #[.agg #[.string (str (Cc k)),.bool (decide (uAt k)),.bool (decide (uCo k)),.bool (decide (uTo k)),.bool (decide (uIt k)),.func (.func (Dq k)) #[] #[]],.pointer (some ⟨b,0,none⟩),.pointer (some ⟨b2,0,none⟩)] w (Ret w0 G L fun G' v=>∃ (a:Option Addr) (cc:Nat),v=.slice a (fm (Ii k b b2)).length cc∧A8 Xa 1 G' (.slice a (fm (Ii k b b2)).length cc) (fm (Ii k b b2))):=by
 refine Az (vs:=[_,_,_]) Tryz.func82 rfl (n:=47) rfl rfl<|Ad<|G4 M rfl rfl rfl<|?_;clear M;intro b1 w M
 refine Ab rfl<|Ad<|Ab rfl<|Ai<|Ai<|fun a F=>Hw [(true,0),(true,1),(true,2),(true,3),(true,4),(true,5),(true,6),(true,7),(true,8),(true,9),(true,10),(true,11),(true,12),(true,13),(true,14),(true,15),(true,16),(true,17),(true,18),(true,19),(true,20),(true,21),(true,24),(false,22),(true,23)] (Keep G [.blk b1 [.string (str (Cc k)),.bool (decide (uAt k)),.bool (decide (uCo k)),.bool (decide (uTo k)),.bool (decide (uIt k)),.func (.func (Dq k)) #[] #[]] 138]) rfl (by kernel_rfl) (fun c a d v w h=>by cases d <;> exact h) (Bx (M.drew _)) ?_
 replace M:=M.drew (w.drawn+1);revert a;refine lFa Bn.k rfl rfl<|lLd Hj 0 rfl rfl rfl rfl<|lMv rfl<|l_r (fun a F w M=>C3 (F.ev rfl)) rfl<|lFa De.k rfl rfl<|l_r (fun a F w M=>Bf (cs:=[.bool (decide (uAt k)),.pointer (some ⟨b,0+1,none⟩)]) (ps:=[(0,.bool (decide (uAt k))),(1,.pointer (some ⟨b,0+1,none⟩))]) El.k rfl El (F.evp rfl) rfl) rfl<|lFa Bn.k rfl rfl<|lLd Hj 0 rfl rfl rfl rfl<|lMv rfl<|l_r (fun a F w M=>C3 (F.ev rfl)) rfl<|lFa De.k rfl rfl<|l_r (fun a F w M=>Bf (cs:=[.bool (decide (uCo k)),.pointer (some ⟨b,0+2,none⟩)]) (ps:=[(0,.bool (decide (uCo k))),(1,.pointer (some ⟨b,0+2,none⟩))]) El.k rfl El (F.evp rfl) rfl) rfl<|lFa Bn.k rfl rfl<|lLd Hj 0 rfl rfl rfl rfl<|lMv rfl<|l_r (fun a F w M=>C3 (F.ev rfl)) rfl<|lFa De.k rfl rfl<|l_r (fun a F w M=>Bf (cs:=[.bool (decide (uTo k)),.pointer (some ⟨b,0+3,none⟩)]) (ps:=[(0,.bool (decide (uTo k))),(1,.pointer (some ⟨b,0+3,none⟩))]) El.k rfl El (F.evp rfl) rfl) rfl<|lFa Bn.k rfl rfl<|lLd Hj 0 rfl rfl rfl rfl<|lMv rfl<|l_r (fun a F w M=>Bf (cs:=[.bool (decide (uIt k)),.pointer (some ⟨b2,0,none⟩)]) (ps:=[(0,.bool (decide (uIt k))),(1,.pointer (some ⟨b2,0,none⟩))]) El.k rfl El (F.evp rfl) rfl) rfl<|lMv rfl<|l_a rfl<|?_
 intro a F;refine Ca F M Sb.k El (ps:=[(0,.agg #[.bool (decide (uAt k)),.pointer (some ⟨b,0+1,none⟩)]),(1,.agg #[.bool (decide (uCo k)),.pointer (some ⟨b,0+2,none⟩)]),(2,.agg #[.bool (decide (uTo k)),.pointer (some ⟨b,0+3,none⟩)]),(3,.agg #[.bool (decide (uIt k)),.pointer (some ⟨b2,0,none⟩)])]) (cs:=[[.bool (decide (uAt k)),.pointer (some ⟨b,0+1,none⟩)],[.bool (decide (uCo k)),.pointer (some ⟨b,0+2,none⟩)],[.bool (decide (uTo k)),.pointer (some ⟨b,0+3,none⟩)],[.bool (decide (uIt k)),.pointer (some ⟨b2,0,none⟩)]]) (fl:=[.bool (decide (uAt k)),.pointer (some ⟨b,0+1,none⟩),.bool (decide (uCo k)),.pointer (some ⟨b,0+2,none⟩),.bool (decide (uTo k)),.pointer (some ⟨b,0+3,none⟩),.bool (decide (uIt k)),.pointer (some ⟨b2,0,none⟩)]) rfl rfl (by simp [Gf,Value.cells]) (by simp [ti215]) rfl (by simp [Value.oneCell']) (by decide) (by decide) rfl ?_;clear F M a;intro v2 w a M F;obtain ⟨av2,cv2,rfl,hlev2,hcmv2,hlv2⟩:=M.row_shape (k:=0) rfl;revert a;refine eQ (Bx M)<|?_
 have Eu:Els rdUP 2 G [.bool (decide (uAt k)),.pointer (some ⟨b,0+1,none⟩),.bool (decide (uCo k)),.pointer (some ⟨b,0+2,none⟩),.bool (decide (uTo k)),.pointer (some ⟨b,0+3,none⟩),.bool (decide (uIt k)),.pointer (some ⟨b2,0,none⟩)] (Ii k b b2):=els_ups;refine l_r (fun a F w M=>Ec Sb.k (F.ev rfl)) rfl<|Jh<|Ar<|?_
 have M:=M.nilrow 150 1;change Mem w0 G (.row (.slice none 0 0) 0 ([]) 150 1::.row (.slice av2 4 (cv2)) 4 ([.bool (decide (uAt k)),.pointer (some ⟨b,0+1,none⟩),.bool (decide (uCo k)),.pointer (some ⟨b,0+2,none⟩),.bool (decide (uTo k)),.pointer (some ⟨b,0+3,none⟩),.bool (decide (uIt k)),.pointer (some ⟨b2,0,none⟩)]) 215 2::.blk b1 [.string (str (Cc k)),.bool (decide (uAt k)),.bool (decide (uCo k)),.bool (decide (uTo k)),.bool (decide (uIt k)),.func (.func (Dq k)) #[] #[]] 138::L) _ at M;intro a F;refine Bi (fun m a' w'=>∃ (i:Nat),∃ (ar:Option Addr),∃ (nr:Nat),∃ (cr:Nat),∃ (csr:List Value),m=4 - i∧Fits 47 a' [(32,.slice av2 4 (cv2)),(33,.int .i64 ((4:Nat):Int)),(7,.slice ar nr cr),(34,.int .i64 ((i:Nat):Int))]∧Mem w0 G (.row (.slice ar nr cr) (nr) (csr) 150 1::.row (.slice av2 4 (cv2)) 4 ([.bool (decide (uAt k)),.pointer (some ⟨b,0+1,none⟩),.bool (decide (uCo k)),.pointer (some ⟨b,0+2,none⟩),.bool (decide (uTo k)),.pointer (some ⟨b,0+3,none⟩),.bool (decide (uIt k)),.pointer (some ⟨b2,0,none⟩)]) 215 2::.blk b1 [.string (str (Cc k)),.bool (decide (uAt k)),.bool (decide (uCo k)),.bool (decide (uTo k)),.bool (decide (uIt k)),.func (.func (Dq k)) #[] #[]] 138::L) w'∧(i≤4)∧(Els Xa 1 G csr (fm ((Ii k b b2).take i)))∧(nr≤i)) _ ⟨0,none,0,0,[],rfl,F.to ⟨rfl,rfl,rfl,rfl,trivial⟩,M,by omega,Els.nil,by omega⟩ ?_;clear F M;rintro m a w ⟨i,ar,nr,cr,csr,rfl,F,M,hi,Er,hnr⟩;revert a;refine Ad<|Co rfl rfl<|Ai<|qD rfl ?_ ?_
 ·intro h3;refine Ao<|Ai<|Ar<|Ad<|?_
  obtain ⟨Xe4,hXe4⟩:=A0 (xs:=(Ii k b b2)) (i:=i) (by (show i < 4;omega));obtain ⟨be4,_,Ie4,hme4,_,Ae4,rfl⟩:=M.atRow (k:=1) rfl (by decide) Eu hXe4;refine Db Sb.k El Ie4 rfl rfl<|Aq (fun a F=>Bj El rfl (F.ev rfl) (cs:=[.bool (Xe4.1),.pointer (some ⟨Xe4.2.1,Xe4.2.2,none⟩)]) rfl (Yw Ae4 0 (by omega) rfl)) rfl<|Dy M El rfl rfl<|?_;clear M;intro b5 w M
  intro a F;refine Di F M El 0 ?_;clear F M a;intro w a M F;revert a;refine Ad<|A9 El.k rfl rfl<|Bl Hj M 0 rfl rfl rfl rfl<|Ap rfl ?_ ?_
  ·intro h7b;have h7:(Xe4.1)=true:=h7b;refine Aw<|Aa rfl<|A9 El.k rfl rfl<|Bl Mc M 0 rfl rfl rfl rfl<|fun a F=>?_
   refine Ce F M Pd.k Mc rfl rfl (cs:=[.pointer (some ⟨Xe4.2.1,Xe4.2.2,none⟩)]) rfl rfl (by simp [Value.oneCell']) (by decide) rfl ?_;clear F M a;intro v8 w a M F;obtain ⟨av8,cv8,rfl,hlev8,hcmv8,hlv8⟩:=M.row_shape (k:=0) rfl;have Eb9:Els Xa 1 G [.pointer (some ⟨Xe4.2.1,Xe4.2.2,none⟩)] [Xe4.2]:=els_pt;refine Cp F M (k:=2) (k2:=0) rfl rfl Pd.k Mc rfl rfl (by decide) rfl rfl (by show _ * 8≤_;(try simp only [List.length_drop,List.length_take,List.length_append,List.length_cons,List.length_nil]);omega) (by (try simp only [List.length_drop,List.length_take,List.length_append,List.length_cons,List.length_nil]);omega) rfl ?_;clear F M a;intro v10 w a M F;have Ev10:=Els.append Er Eb9;obtain ⟨av10,cv10,rfl,hlev10,hcmv10,hlv10⟩:=M.row_shape (k:=2) rfl;revert a;refine Ab rfl<|Aw<|Bw rfl rfl<|Aa rfl<|Au<|Ch<|fun a F=>?_
   exact ⟨_,by omega,i+1,(av10),(nr+1),(cv10),csr++([.pointer (some ⟨Xe4.2.1,Xe4.2.2,none⟩)]),rfl,F.to ⟨rfl,rfl,rfl,rfl,trivial⟩,(M.weaken (cN (.cons _ (cC (.cons_cons _ (cC (sR _))))))),by omega,by have h_:=Ev10;first | (rw [L7 hXe4,if_pos (by assumption)];exact h_) | (rw [L7 hXe4,if_neg (by simp_all),List.append_nil];exact h_),by omega⟩
  intro h11b;have h11:(Xe4.1)=false:=h11b;refine Ao<|Aw<|Bw rfl rfl<|Aa rfl<|Au<|Ch<|fun a F=>?_
  exact ⟨_,by omega,i+1,(ar),(nr),(cr),csr,rfl,F.to ⟨rfl,rfl,rfl,rfl,trivial⟩,(M.weaken (cN (cC (.cons_cons _ (cC (sR _)))))),by omega,by have h_:=Er;first | (rw [L7 hXe4,if_pos (by assumption)];exact h_) | (rw [L7 hXe4,if_neg (by simp_all),List.append_nil];exact h_),by omega⟩
 intro h12;refine Br<|Bu<|Bu<|C6<|Ai<|fun a F=>?_
 rw [List.take_of_length_le (show (Ii k b b2).length≤i by show 4≤i;omega)] at Er;obtain ⟨hnz13,Gz13,az13,cz13,hGz13,hez13,Sz13,M⟩:=M.freeze_row Vo (k:=0) rfl Er (by decide);clear hez13 az13 cz13;replace Eu:=Eu.mono Vn hGz13;rw [hnz13] at F Sz13;revert a;refine Aw<|Aa rfl<|Ab rfl<|Al<|Ak rfl rfl<|?_
 exact ⟨_,hGz13,M.weaken dS2,_,_,rfl,Sz13⟩
end Go.Proofs.YtmmhmcplegpenaaGreatDoor
