/- The kinds of notices; a call of a function that a value holds. · The types and functions of the notices that the walks name. · The walks, part LK. · The walks, part LM. · The walks, part LN. · The walks, part LO. · The walks, part LP. -/
import Derived.Test.YtmmhmcplegpenaaGreatDoorJ10
import Derived.Test.YtmmhmcplegpenaaGreatDoorJ7
set_option linter.unusedSimpArgs false
set_option linter.unusedVariables false
set_option maxRecDepth 10000
namespace Go.Proofs.YtmmhmcplegpenaaGreatDoor
open Go Go.Y Go.RowKit
section
variable {P:Program} {ops:Array Oper} {Q:Exit→Act→World→Prop} {n:Nat} {a:Act} {e:Env} {w0 w:World} {G:Aq} {L:List Res} {r:List Oper} {d:Nat} {t:TypeId} {p:String} {af:Array Edge}
variable {ρ:Operand→Value} {dd:Option Tmp} {g:Option (Nat × Bool)}
theorem Fp {ta et:TypeId} {i:TI} {x y:Operand} {m:Nat} {cs:Array Value} {us:List Value} {k:IntKind} {z:Int} {j:Nat} (ha:tk P ta=.array m et) (ht:TOK P et i) (hag:i.k.agg=some true)
  (hx:ρ x=.agg cs) (hy:ρ y=.int k z) (hz:z=(j:Int)) (hj:j < m) (hv:cs.extract (j * i.size) (j * i.size+i.size)=us.toArray) :
  (execOp ρ ⟨dd,.index ta x y,t,p,af,g⟩).run P w=.ok (.value (.agg us.toArray)) w:=by
 subst hz;have c1:(0:Int)≤(j:Int):=by omega
 have c2:(j:Int) < (m:Int):=by omega
 have h1:(isAgg et).run P w=.ok true w:=Q6 (by rw [ht.k];exact hag)
 simp [execOp,Instr.index,hx,hy,asIntOf,B0 (Dz ha),hj,ht.sizeOf,part,h1,hv]
theorem Aek {s ft:TypeId} {x:Operand} {f off sz:Nat} {fs:List (Nat × Nat × Nat)} {i:TI} {cs:Array Value} {v:Value} (hs:tk P s=.struct fs) (hf:fs[f]?=some (off,sz,ft)) (ht:TOK P ft i) (hag:i.k.agg=some false)
  (hx:ρ x=.agg cs) (hv:cs[off]?=some v):(execOp ρ ⟨dd,.field s x f,t,p,af,g⟩).run P w=.ok (.value v) w:=by
 obtain ⟨ff,hu,hff⟩:=Hg hs;subst hff;simp only [List.getElem?_map,Option.map_eq_some_iff] at hf;obtain ⟨fd,hfd,he⟩:=hf;simp only [Prod.mk.injEq] at he;obtain ⟨rfl,h1,rfl⟩:=he;have hfd':ff[f]?=some fd:=by simpa using hfd
 simp [execOp,Instr.field,hx,B0 hu,hfd',asAgg,Vx (w:=w) (by rw [ht.k];exact hag) hv]
theorem Aju {f:FuncId} {cal:Operand} {args:List Operand} {ats:Array TypeId} {vs:List Value} {Φ:Aq→List Res→Value→Prop}
  (F:Fits n a e) (hE:Ent P f) (hc:ev e cal=some (.func (.func f) #[] #[])) (hv:evs e args=some vs) (hd:Nat.ble (d+1) n=true)
  (hs:Calls P f vs.toArray w (Ht w0 G Φ))
  (k:∀ v G' L' w' a',Gle G G'→Mem w0 G' L' w'→Φ G' L' v→Fits n a' ((d,v)::e)→rl P ops Q r a' w') :
  rl P ops Q (⟨some d,.call ⟨.value cal,args.toArray,ats⟩,t,p,af,none⟩::r) a w:=by
 refine H7 (caps:=[]) F hE hc hv hd (by rw [List.append_nil];exact hs) fun x w' hx=>?_
 cases x with
 | returned v=>obtain ⟨G',L',h1,h2,h3⟩:=hx;exact ⟨v,rfl,fun a' F'=>k v G' L' w' a' h1 h2 h3 F'⟩
 | panicked c=>exact hx.elim
 | outgrown=>exact hx.elim
end
def Cg:Nat→List UInt8
 | 1=>[105,110,115,101,114,116]
 | 2=>[114,101,109,111,118,101]
 | 3=>[109,111,118,101]
 | 4=>[99,104,97,110,103,101]
 | 5=>[114,101,115,101,116]
 | _=>[]
def Ft:Nat→Nat
 | 1=>122
 | 2=>124
 | 3=>125
 | 4=>127
 | _=>129
def J7:List Value:=[
 .string (str []),.bool false,.bool false,.bool false,.bool false,.nilFunc,
 .string (str [105,110,115,101,114,116]),.bool true,.bool false,.bool false,.bool true,.func (.func 122) #[] #[],
 .string (str [114,101,109,111,118,101]),.bool true,.bool true,.bool false,.bool false,.func (.func 124) #[] #[],
 .string (str [109,111,118,101]),.bool true,.bool true,.bool true,.bool false,.func (.func 125) #[] #[],
 .string (str [99,104,97,110,103,101]),.bool true,.bool false,.bool false,.bool true,.func (.func 127) #[] #[],
 .string (str [114,101,115,101,116]),.bool false,.bool false,.bool false,.bool true,.func (.func 129) #[] #[]]
theorem H9 {k:Nat} (h:1≤k∧k≤5):J7.toArray.extract (k * 6) (k * 6+6) =
  [.string (str (Cg k)),.bool (decide (uAt k)),.bool (decide (uCo k)),.bool (decide (uTo k)),.bool (decide (uIt k)),.func (.func (Ft k)) #[] #[]].toArray:=by
 rcases (show k=1∨k=2∨k=3∨k=4∨k=5 by omega) with rfl | rfl | rfl | rfl | rfl <;> rfl
def uG (k i:Nat):Int:=match i with
 | 0=>if uAt k then 1 else 0
 | 1=>if uCo k then 1 else 0
 | 2=>if uTo k then 1 else 0
 | _=>if uIt k then 1 else 0
def nG (x:NotD) (i:Nat):Int:=match i with
 | 0=>x.at_
 | 1=>x.count
 | 2=>x.to
 | _=>((x.items.length:Nat):Int)
theorem u_cell {k i:Nat} (h:i < 4):([.int .i64 (uG k 0),.int .i64 (uG k 1),.int .i64 (uG k 2),.int .i64 (uG k 3)]:List Value)[0+i]?=some (.int .i64 (uG k i)):=by
 rcases (show i=0∨i=1∨i=2∨i=3 by omega) with rfl | rfl | rfl | rfl <;> rfl
theorem n_cell {x:NotD} {i:Nat} (h:i < 4):([nG x 0,nG x 1,nG x 2,nG x 3]:List Int)[i]?=some (nG x i):=by
 rcases (show i=0∨i=1∨i=2∨i=3 by omega) with rfl | rfl | rfl | rfl <;> rfl
def rdZ:Rd Int:=fun _ cs x=>cs=[.int .i64 x]
theorem els_z {G:Aq}:∀ {zs:List Int},Els rdZ 1 G (zs.map fun z=>.int .i64 z) zs
 | []=>rfl
 | z::zs=>⟨[.int .i64 z],zs.map fun z=>.int .i64 z,rfl,rfl,rfl,els_z⟩
theorem ite_z {p:Prop} [Decidable p]:(if p then (1:Int) else 0)=0↔¬ p:=by split <;> simp_all
theorem form_of {x:NotD} (h:∀ j,j < 4→uG x.kind j=0→nG x j=0):Ed x:=by
 have h0:=h 0 (by omega);have h1:=h 1 (by omega);have h2:=h 2 (by omega);have h3:=h 3 (by omega);simp only [uG,nG,ite_z] at h0 h1 h2 h3;refine ⟨Classical.or_iff_not_imp_left.2 h0,Classical.or_iff_not_imp_left.2 h1,Classical.or_iff_not_imp_left.2 h2,Classical.or_iff_not_imp_left.2 fun h4=>by have:=h3 h4;omega⟩
theorem Apl {x:NotD} {j:Nat} (hj:j < 4) (h1:uG x.kind j=0) (h2:nG x j≠0):¬ Ed x:=by
 rintro ⟨f0,f1,f2,f3⟩
 rcases (show j=0∨j=1∨j=2∨j=3 by omega) with rfl | rfl | rfl | rfl <;> simp only [uG,nG,ite_z] at h1 h2
 ·exact h2 (f0.resolve_left h1)
 ·exact h2 (f1.resolve_left h1)
 ·exact h2 (f2.resolve_left h1)
 exact h2 (by have:=f3.resolve_left h1;omega)
noncomputable def Auy (c:RulesD) (l:List EntD) (n:NotD):List EntD × Int:=if Bb c l≠0 then ([],Bb c l) else F9 c l n
theorem appE_no {c:RulesD} {l:List EntD} {n:NotD} (h:Bb c l≠0):Auy c l n=([],Bb c l):=by unfold Auy;rw [if_pos h]
theorem Zr {c:RulesD} {l:List EntD} {n:NotD} (h:Bb c l=0):Auy c l n=F9 c l n:=by unfold Auy;rw [if_neg (not_not_intro h)]
theorem Aof {c:RulesD} {l:List EntD} {ns:List NotD}:Ca c l ns 0=(l,0):=rfl
theorem rem_00 {l:List EntD}:Le l 0 0=(l,0):=by
 rw [V6 (by unfold Av;omega)];unfold Ci
 simp
theorem all_x {c:RulesD} {l:List EntD} {ns:List NotD} {i:Nat} (h:¬ 32 < ns.length) (h2:(Ca c l ns i).2=0) (hn:i < ns.length) (he:(Ca c l ns (i+1)).2≠0):A1 c l ns=([],i,(Ca c l ns (i+1)).2):=by
 obtain ⟨x,hx⟩:=Ap hn;rw [H6 h2 hx] at he ⊢
 exact all_e h h2 hx rfl he
noncomputable def Qu (c:RulesD) (l:List EntD) (ns:List NotD):List EntD × Nat × Int:=if Bb c l≠0 then ([],0,Bb c l) else A1 c l ns
theorem allE_no {c:RulesD} {l:List EntD} {ns:List NotD} (h:Bb c l≠0):Qu c l ns=([],0,Bb c l):=by unfold Qu;rw [if_pos h]
theorem M6 {c:RulesD} {l:List EntD} {ns:List NotD} (h:Bb c l=0):Qu c l ns=A1 c l ns:=by unfold Qu;rw [if_neg (not_not_intro h)]
theorem Sb {P:Program} {fn:Func} {n:Nat} {a:Act} {e:Env} {w0 w:World} {G:Aq} {L:List Res} (F:Fits n a e) {t u u2 ty k b:Nat} {i:TI} {cs:List Value} {x y:Value} {R:Ending→World→Prop} (M:Mem w0 G L w) (hk:L[k]?=some (.blk b cs ty)) (hf:fn.results = #[.cell t ty,.tmp u,.tmp u2])
  (hty:TOK P ty i) (hag:i.k.agg=some true) (hl:cs.length=i.size) (hv:Y.look e t=some (.pointer (some ⟨b,0,none⟩))) (hx:Y.look e u=some x) (hy:Y.look e u2=some y) (h:R (.returned (.tuple #[.agg cs.toArray,x,y])) w):bodyPost P fn R .ret a w:=by
 refine K6 F (v:=.tuple #[.agg cs.toArray,x,y]) ?_ h;have h1:(loadVar ty ⟨b,0,none⟩).run P w=.ok (.agg cs.toArray) w:=Gl hty hag hl (M.cellsL hk (by rw [List.drop_zero,← hl,List.take_length]))
 simp [results,hf,F.slot _ _ hv,F.slot _ _ hx,F.slot _ _ hy,asAddr,h1]
open Go Go.Y Go.Proofs
abbrev ti47:TI:=⟨.slice 65,1,24,.slice none 0 0⟩
theorem I4:TOK Tryz.prog 47 ti47:=⟨by kernel_rfl,by kernel_rfl,by kernel_rfl⟩
abbrev Amv:TI:=⟨.struct [(0,1,5),(1,1,3),(2,1,3),(3,1,3),(4,1,22)],5,56,.agg #[.int .u8 0,.int .i64 0,.int .i64 0,.int .i64 0,.slice none 0 0]⟩
theorem Bd:TOK Tryz.prog 65 Amv:=⟨by kernel_rfl,by kernel_rfl,by kernel_rfl⟩
abbrev ti67:TI:=⟨.func,1,8,.nilFunc⟩
theorem tok67:TOK Tryz.prog 67 ti67:=⟨by kernel_rfl,by kernel_rfl,by kernel_rfl⟩
abbrev ti127:TI:=⟨.array 3 3,3,24,.agg #[.int .i64 0,.int .i64 0,.int .i64 0]⟩
theorem X1:TOK Tryz.prog 127 ti127:=⟨by kernel_rfl,by kernel_rfl,by kernel_rfl⟩
abbrev ti138:TI:=⟨.struct [(0,1,9),(1,1,4),(2,1,4),(3,1,4),(4,1,4),(5,1,67)],6,32,.agg #[.string ⟨#[]⟩,.bool false,.bool false,.bool false,.bool false,.nilFunc]⟩
theorem Cm:TOK Tryz.prog 138 ti138:=⟨by kernel_rfl,by kernel_rfl,by kernel_rfl⟩
abbrev ti139:TI:=⟨.array 6 138,36,192,.agg #[.string ⟨#[]⟩,.bool false,.bool false,.bool false,.bool false,.nilFunc,.string ⟨#[]⟩,.bool false,.bool false,.bool false,.bool false,.nilFunc,.string ⟨#[]⟩,.bool false,.bool false,.bool false,.bool false,.nilFunc,.string ⟨#[]⟩,.bool false,.bool false,.bool false,.bool false,.nilFunc,.string ⟨#[]⟩,.bool false,.bool false,.bool false,.bool false,.nilFunc,.string ⟨#[]⟩,.bool false,.bool false,.bool false,.bool false,.nilFunc]⟩
theorem Fz:TOK Tryz.prog 139 ti139:=⟨by kernel_rfl,by kernel_rfl,by kernel_rfl⟩
abbrev ti147:TI:=⟨.slice 150,1,24,.slice none 0 0⟩
theorem Adu:TOK Tryz.prog 147 ti147:=⟨by kernel_rfl,by kernel_rfl,by kernel_rfl⟩
abbrev ti150:TI:=⟨.ptr 3,1,8,.pointer none⟩
theorem Adt:TOK Tryz.prog 150 ti150:=⟨by kernel_rfl,by kernel_rfl,by kernel_rfl⟩
abbrev ti155:TI:=⟨.struct [(0,1,9),(1,1,3)],2,24,.agg #[.string ⟨#[]⟩,.int .i64 0]⟩
theorem Ads:TOK Tryz.prog 155 ti155:=⟨by kernel_rfl,by kernel_rfl,by kernel_rfl⟩
abbrev ti167:TI:=⟨.array 4 3,4,32,.agg #[.int .i64 0,.int .i64 0,.int .i64 0,.int .i64 0]⟩
theorem Dm:TOK Tryz.prog 167 ti167:=⟨by kernel_rfl,by kernel_rfl,by kernel_rfl⟩
abbrev ti169:TI:=⟨.slice 3,1,24,.slice none 0 0⟩
theorem Amu:TOK Tryz.prog 169 ti169:=⟨by kernel_rfl,by kernel_rfl,by kernel_rfl⟩
abbrev Amx:TI:=⟨.struct [(0,1,4),(1,1,150)],2,16,.agg #[.bool false,.pointer none]⟩
theorem Hv:TOK Tryz.prog 215 Amx:=⟨by kernel_rfl,by kernel_rfl,by kernel_rfl⟩
abbrev ti216:TI:=⟨.slice 215,1,24,.slice none 0 0⟩
theorem Ams:TOK Tryz.prog 216 ti216:=⟨by kernel_rfl,by kernel_rfl,by kernel_rfl⟩
abbrev ti219:TI:=⟨.slice 138,1,24,.slice none 0 0⟩
theorem Amr:TOK Tryz.prog 219 ti219:=⟨by kernel_rfl,by kernel_rfl,by kernel_rfl⟩
theorem W7:Ent Tryz.prog 22:=.mk' Tryz.func22 (by kernel_rfl) (by kernel_rfl)
theorem Pf:Ent Tryz.prog 25:=.mk' Tryz.func25 (by kernel_rfl) (by kernel_rfl)
theorem ent27:Ent Tryz.prog 27:=.mk' Tryz.func27 (by kernel_rfl) (by kernel_rfl)
theorem ent28:Ent Tryz.prog 28:=.mk' Tryz.func28 (by kernel_rfl) (by kernel_rfl)
theorem ent32:Ent Tryz.prog 32:=.mk' Tryz.func32 (by kernel_rfl) (by kernel_rfl)
theorem ent33:Ent Tryz.prog 33:=.mk' Tryz.func33 (by kernel_rfl) (by kernel_rfl)
theorem ent36:Ent Tryz.prog 36:=.mk' Tryz.func36 (by kernel_rfl) (by kernel_rfl)
theorem Acn:Ent Tryz.prog 37:=.mk' Tryz.func37 (by kernel_rfl) (by kernel_rfl)
theorem ent38:Ent Tryz.prog 38:=.mk' Tryz.func38 (by kernel_rfl) (by kernel_rfl)
theorem ent69:Ent Tryz.prog 69:=.mk' Tryz.func69 (by kernel_rfl) (by kernel_rfl)
theorem ent72:Ent Tryz.prog 72:=.mk' Tryz.func72 (by kernel_rfl) (by kernel_rfl)
theorem ent73:Ent Tryz.prog 73:=.mk' Tryz.func73 (by kernel_rfl) (by kernel_rfl)
theorem ent74:Ent Tryz.prog 74:=.mk' Tryz.func74 (by kernel_rfl) (by kernel_rfl)
theorem Pe:Ent Tryz.prog 75:=.mk' Tryz.func75 (by kernel_rfl) (by kernel_rfl)
theorem ent82:Ent Tryz.prog 82:=.mk' Tryz.func82 (by kernel_rfl) (by kernel_rfl)
theorem ent84:Ent Tryz.prog 84:=.mk' Tryz.func84 (by kernel_rfl) (by kernel_rfl)
theorem ent85:Ent Tryz.prog 85:=.mk' Tryz.func85 (by kernel_rfl) (by kernel_rfl)
theorem ent86:Ent Tryz.prog 86:=.mk' Tryz.func86 (by kernel_rfl) (by kernel_rfl)
theorem ent87:Ent Tryz.prog 87:=.mk' Tryz.func87 (by kernel_rfl) (by kernel_rfl)
theorem ent88:Ent Tryz.prog 88:=.mk' Tryz.func88 (by kernel_rfl) (by kernel_rfl)
theorem ent92:Ent Tryz.prog 92:=.mk' Tryz.func92 (by kernel_rfl) (by kernel_rfl)
theorem ent93:Ent Tryz.prog 93:=.mk' Tryz.func93 (by kernel_rfl) (by kernel_rfl)
theorem ent122:Ent Tryz.prog 122:=.mk' Tryz.func122 (by kernel_rfl) (by kernel_rfl)
theorem ent123:Ent Tryz.prog 123:=.mk' Tryz.func123 (by kernel_rfl) (by kernel_rfl)
theorem ent124:Ent Tryz.prog 124:=.mk' Tryz.func124 (by kernel_rfl) (by kernel_rfl)
theorem ent125:Ent Tryz.prog 125:=.mk' Tryz.func125 (by kernel_rfl) (by kernel_rfl)
theorem ent126:Ent Tryz.prog 126:=.mk' Tryz.func126 (by kernel_rfl) (by kernel_rfl)
theorem ent127:Ent Tryz.prog 127:=.mk' Tryz.func127 (by kernel_rfl) (by kernel_rfl)
theorem ent128:Ent Tryz.prog 128:=.mk' Tryz.func128 (by kernel_rfl) (by kernel_rfl)
theorem ent129:Ent Tryz.prog 129:=.mk' Tryz.func129 (by kernel_rfl) (by kernel_rfl)
theorem ent134:Ent Tryz.prog 134:=.mk' Tryz.func134 (by kernel_rfl) (by kernel_rfl)
theorem ent135:Ent Tryz.prog 135:=.mk' Tryz.func135 (by kernel_rfl) (by kernel_rfl)
theorem ent136:Ent Tryz.prog 136:=.mk' Tryz.func136 (by kernel_rfl) (by kernel_rfl)
instance:CT Tryz.prog 47 ti47:=⟨I4⟩
instance:CT Tryz.prog 65 Amv:=⟨Bd⟩
instance:CT Tryz.prog 67 ti67:=⟨tok67⟩
instance:CT Tryz.prog 127 ti127:=⟨X1⟩
instance:CT Tryz.prog 138 ti138:=⟨Cm⟩
instance:CT Tryz.prog 139 ti139:=⟨Fz⟩
instance:CT Tryz.prog 147 ti147:=⟨Adu⟩
instance:CT Tryz.prog 150 ti150:=⟨Adt⟩
instance:CT Tryz.prog 155 ti155:=⟨Ads⟩
instance:CT Tryz.prog 167 ti167:=⟨Dm⟩
instance:CT Tryz.prog 169 ti169:=⟨Amu⟩
instance:CT Tryz.prog 215 Amx:=⟨Hv⟩
instance:CT Tryz.prog 216 ti216:=⟨Ams⟩
instance:CT Tryz.prog 219 ti219:=⟨Amr⟩
variable {w0 w:World} {G:Aq} {L:List Res}
set_option maxHeartbeats 1600000
theorem Fu (M:Mem w0 G L w):Calls Tryz.prog 75 #[] w (Bu w0 G L fun v=>v=.agg J7.toArray):=by
 refine Al (vs:=[]) Tryz.func75 rfl (n:=7) rfl rfl<|?_
 refine Bt<|?_
 refine B1 M Fz rfl rfl<|?_;clear M;intro b1 w M
 refine wk ?_;refine Am (fun a F=>Ah (cs:=[.string (str [105,110,115,101,114,116]),.bool true,.bool false,.bool false,.bool true,.func (.func 122) #[] #[]]) (ps:=[(0,.string (str [105,110,115,101,114,116])),(1,.bool true),(2,.bool false),(3,.bool false),(4,.bool true),(5,.func (.func 122) #[] #[])]) Cm.k rfl Cm (F.evp rfl) rfl) rfl<|Am (fun a F=>Ah (cs:=[.string (str [114,101,109,111,118,101]),.bool true,.bool true,.bool false,.bool false,.func (.func 124) #[] #[]]) (ps:=[(0,.string (str [114,101,109,111,118,101])),(1,.bool true),(2,.bool true),(3,.bool false),(4,.bool false),(5,.func (.func 124) #[] #[])]) Cm.k rfl Cm (F.evp rfl) rfl) rfl<|Am (fun a F=>Ah (cs:=[.string (str [109,111,118,101]),.bool true,.bool true,.bool true,.bool false,.func (.func 125) #[] #[]]) (ps:=[(0,.string (str [109,111,118,101])),(1,.bool true),(2,.bool true),(3,.bool true),(4,.bool false),(5,.func (.func 125) #[] #[])]) Cm.k rfl Cm (F.evp rfl) rfl) rfl<|Am (fun a F=>Ah (cs:=[.string (str [99,104,97,110,103,101]),.bool true,.bool false,.bool false,.bool true,.func (.func 127) #[] #[]]) (ps:=[(0,.string (str [99,104,97,110,103,101])),(1,.bool true),(2,.bool false),(3,.bool false),(4,.bool true),(5,.func (.func 127) #[] #[])]) Cm.k rfl Cm (F.evp rfl) rfl) rfl<|Am (fun a F=>Ah (cs:=[.string (str [114,101,115,101,116]),.bool false,.bool false,.bool false,.bool true,.func (.func 129) #[] #[]]) (ps:=[(0,.string (str [114,101,115,101,116])),(1,.bool false),(2,.bool false),(3,.bool false),(4,.bool true),(5,.func (.func 129) #[] #[])]) Cm.k rfl Cm (F.evp rfl) rfl) rfl<|Am (fun a F=>Em F (ps:=[(1,.agg #[.string (str [105,110,115,101,114,116]),.bool true,.bool false,.bool false,.bool true,.func (.func 122) #[] #[]]),(2,.agg #[.string (str [114,101,109,111,118,101]),.bool true,.bool true,.bool false,.bool false,.func (.func 124) #[] #[]]),(3,.agg #[.string (str [109,111,118,101]),.bool true,.bool true,.bool true,.bool false,.func (.func 125) #[] #[]]),(4,.agg #[.string (str [99,104,97,110,103,101]),.bool true,.bool false,.bool false,.bool true,.func (.func 127) #[] #[]]),(5,.agg #[.string (str [114,101,115,101,116]),.bool false,.bool false,.bool false,.bool true,.func (.func 129) #[] #[]])]) (cs:=[.string (str []),.bool false,.bool false,.bool false,.bool false,.nilFunc,.string (str [105,110,115,101,114,116]),.bool true,.bool false,.bool false,.bool true,.func (.func 122) #[] #[],.string (str [114,101,109,111,118,101]),.bool true,.bool true,.bool false,.bool false,.func (.func 124) #[] #[],.string (str [109,111,118,101]),.bool true,.bool true,.bool true,.bool false,.func (.func 125) #[] #[],.string (str [99,104,97,110,103,101]),.bool true,.bool false,.bool false,.bool true,.func (.func 127) #[] #[],.string (str [114,101,115,101,116]),.bool false,.bool false,.bool false,.bool true,.func (.func 129) #[] #[]]) Fz.k Fz Cm rfl rfl) rfl<|fun a F=>?_
 refine Be F M Fz 0 ?_;clear F M a;intro w a M F;replace M:=z_M M;revert a;refine wk ?_;refine fun a F=>F6 F M (k:=0) rfl rfl Fz rfl rfl rfl ?_
 exact ⟨M.weaken dS1,rfl⟩
theorem Ha (M:Mem w0 G L w) {x:NotD} {na:Option Addr} {nc:Nat} (hN:x.kind < 256∧Au .i64 x.at_∧Au .i64 x.count∧Au .i64 x.to∧x.items.length≤9223372036854775807) (SI:Ag Bn 4 G (.slice na x.items.length nc) x.items):Calls Tryz.prog 37 #[.agg #[.int .u8 ((x.kind:Nat):Int),.int .i64 x.at_,.int .i64 x.count,.int .i64 x.to,.slice na x.items.length nc]] w (Bu w0 G L fun v=>v=.int .i64 (Dr x)):=by
 refine Al (vs:=[_]) Tryz.func37 rfl (n:=55) rfl rfl<|?_
 refine Bt<|?_
 refine B2 M rfl rfl rfl<|?_;clear M;intro b1 w M
 refine wk ?_
 rcases bE (decide (((x.kind:Nat):Int) < 1)) with h2b | h3b
 ·skip
  have h2:=dT h2b;refine wk ?_;refine Ad rfl rfl<|?_
  exact ⟨M.weaken dS1,by rw [Yz (by omega)]⟩
 have h3:=dF h3b;refine wk ?_;refine qD rfl ?_ ?_
 ·intro h4;refine wk ?_;refine Ad rfl rfl<|?_
  exact ⟨M.weaken dS1,by rw [Yz (by omega)]⟩
 intro h5;refine F3<|Cj<|?_
 refine fun a F=>Jo (fun a' w'=>∃ (b3k:Nat),Fits 55 a' [(1,.pointer (some ⟨b1,0,none⟩)),(3,.pointer (some ⟨b3k,0,none⟩))]∧Mem w0 G (.blk b3k [.string (str (Cg x.kind)),.bool (decide (uAt x.kind)),.bool (decide (uCo x.kind)),.bool (decide (uTo x.kind)),.bool (decide (uIt x.kind)),.func (.func (Ft x.kind)) #[] #[]] 138::.blk b1 [.int .u8 ((x.kind:Nat):Int),.int .i64 x.at_,.int .i64 x.count,.int .i64 x.to,.slice na x.items.length nc] 65::L) w') ?_ ?_
 ·skip
  refine Ic (.run 1 (.run 2 (.act 0 (.run 3 (.act 4 (.act 5 .fin .no) .no)) (.act 4 (.act 0 (.run 3 (.act 5 .fin .no)) .no) .no)))) (Keep G [.blk b1 [.int .u8 ((x.kind:Nat):Int),.int .i64 x.at_,.int .i64 x.count,.int .i64 x.to,.slice na x.items.length nc] 65]) rfl (by kernel_rfl) (fun c a d v w h=>by cases d <;> exact h) (Ax (M.drew _)) ?_;replace M:=M.drew (w.drawn+1);revert a;refine wk ?_;refine fun a F=>A2 ?_ rfl ?_
  ·skip
   revert a;refine A4 Pe rfl rfl (Fu M)<|?_;clear M;rintro _ w M rfl
   refine Ao<|?_
   refine eQ (Ax M)<|t_r (fun a F w M=>Fp (j:=x.kind) Fz.k Cm rfl (F.ev rfl) (F.ev rfl) rfl (by omega) (us:=[.string (str (Cg x.kind)),.bool (decide (uAt x.kind)),.bool (decide (uCo x.kind)),.bool (decide (uTo x.kind)),.bool (decide (uIt x.kind)),.func (.func (Ft x.kind)) #[] #[]]) (H9 (by omega))) rfl<|fun a F=>A2 ?_ rfl Bl
   revert a;refine B1 M Cm rfl rfl<|?_;clear M;intro b6 w M
   refine Ao<|?_
   refine eQ (Ax M)<|fun a F=>A2 ?_ rfl Bl
   refine Be F M Cm 0 ?_;clear F M a;intro w a M F;replace M:=z_M M;revert a;refine Ao<|?_
   refine eQ (Ax M)<|?_
   refine Ki<|?_
   intro a F
   exact ⟨b6,F.to ⟨rfl,rfl,trivial⟩,M⟩
  refine A2 ?_ rfl ?_
  ·skip
   revert a;refine B1 M Cm rfl rfl<|?_;clear M;intro b8 w M
   refine Ao<|?_
   refine eQ (Ax M)<|fun a F=>A2 ?_ rfl Bl
   revert a;refine A4 Pe rfl rfl (Fu M)<|?_;clear M;rintro _ w M rfl
   refine Ao<|?_
   refine eQ (Ax M)<|t_r (fun a F w M=>Fp (j:=x.kind) Fz.k Cm rfl (F.ev rfl) (F.ev rfl) rfl (by omega) (us:=[.string (str (Cg x.kind)),.bool (decide (uAt x.kind)),.bool (decide (uCo x.kind)),.bool (decide (uTo x.kind)),.bool (decide (uIt x.kind)),.func (.func (Ft x.kind)) #[] #[]]) (H9 (by omega))) rfl<|fun a F=>A2 ?_ rfl Bl
   refine Be F M Cm 0 ?_;clear F M a;intro w a M F;replace M:=z_M M;revert a;refine Ao<|?_
   refine eQ (Ax M)<|?_
   refine Ki<|?_
   intro a F
   exact ⟨b8,F.to ⟨rfl,rfl,trivial⟩,M⟩
  exact Bl
 clear F M;rintro a w ⟨b3k,F,M⟩;revert a;refine Cj<|Cj<|?_
 refine fun a F=>Jo (fun a' w'=>∃ (bb:Bool),Fits 55 a' [(1,.pointer (some ⟨b1,0,none⟩)),(54,.bool bb)]∧Mem w0 G (.blk b3k [.string (str (Cg x.kind)),.bool (decide (uAt x.kind)),.bool (decide (uCo x.kind)),.bool (decide (uTo x.kind)),.bool (decide (uIt x.kind)),.func (.func (Ft x.kind)) #[] #[]] 138::.blk b1 [.int .u8 ((x.kind:Nat):Int),.int .i64 x.at_,.int .i64 x.count,.int .i64 x.to,.slice na x.items.length nc] 65::L) w'∧(bb=true↔¬ Ed x)) ?_ ?_
 ·skip
  revert a;refine wk ?_
  rcases bE (!(decide (uAt x.kind))) with h10b | h33b
  ·skip
   have h10:=dF (Ab h10b);have h10c:(decide (uAt x.kind))=false:=(Ab h10b);refine wk ?_
   rcases bE (!(decide (x.at_=0))) with h11b | h12b
   ·skip
    have h11:=dF (Ab h11b);have h11c:(decide (x.at_=0))=false:=(Ab h11b);refine wk ?_;intro a F
    exact ⟨true,F.to ⟨rfl,rfl,trivial⟩,M,by clear F M;unfold Ed;first | (simp only [Bool.true_eq_false,true_iff,false_iff,Bool.false_eq_true,decide_eq_true_eq];grind) | grind⟩
   have h12:=dT (Ac h12b);have h12c:(decide (x.at_=0))=true:=(Ac h12b);refine wk ?_
   rcases bE (!(decide (uCo x.kind))) with h13b | h24b
   ·skip
    have h13:=dF (Ab h13b);have h13c:(decide (uCo x.kind))=false:=(Ab h13b);refine wk ?_
    rcases bE (!(decide (x.count=0))) with h14b | h15b
    ·skip
     have h14:=dF (Ab h14b);have h14c:(decide (x.count=0))=false:=(Ab h14b);refine wk ?_;intro a F
     exact ⟨true,F.to ⟨rfl,rfl,trivial⟩,M,by clear F M;unfold Ed;first | (simp only [Bool.true_eq_false,true_iff,false_iff,Bool.false_eq_true,decide_eq_true_eq];grind) | grind⟩
    have h15:=dT (Ac h15b);have h15c:(decide (x.count=0))=true:=(Ac h15b);refine wk ?_
    rcases bE (!(decide (uTo x.kind))) with h16b | h21b
    ·skip
     have h16:=dF (Ab h16b);have h16c:(decide (uTo x.kind))=false:=(Ab h16b);refine wk ?_
     rcases bE (!(decide (x.to=0))) with h17b | h18b
     ·skip
      have h17:=dF (Ab h17b);have h17c:(decide (x.to=0))=false:=(Ab h17b);refine wk ?_;intro a F
      exact ⟨true,F.to ⟨rfl,rfl,trivial⟩,M,by clear F M;unfold Ed;first | (simp only [Bool.true_eq_false,true_iff,false_iff,Bool.false_eq_true,decide_eq_true_eq];grind) | grind⟩
     have h18:=dT (Ac h18b);have h18c:(decide (x.to=0))=true:=(Ac h18b);refine wk ?_
     rcases bE (!(decide (uIt x.kind))) with h19b | h20b
     ·skip
      have h19:=dF (Ab h19b);have h19c:(decide (uIt x.kind))=false:=(Ab h19b);refine wk ?_;intro a F
      exact ⟨(decide (0 < ((x.items.length:Nat):Int))),F.to ⟨rfl,rfl,trivial⟩,M,by clear F M;unfold Ed;first | (simp only [Bool.true_eq_false,true_iff,false_iff,Bool.false_eq_true,decide_eq_true_eq];grind) | grind⟩
     have h20:=dT (Ac h20b);have h20c:(decide (uIt x.kind))=true:=(Ac h20b);refine wk ?_;intro a F
     exact ⟨false,F.to ⟨rfl,rfl,trivial⟩,M,by clear F M;unfold Ed;first | (simp only [Bool.true_eq_false,true_iff,false_iff,Bool.false_eq_true,decide_eq_true_eq];grind) | grind⟩
    have h21:=dT (Ac h21b);have h21c:(decide (uTo x.kind))=true:=(Ac h21b);refine wk ?_
    rcases bE (!(decide (uIt x.kind))) with h22b | h23b
    ·skip
     have h22:=dF (Ab h22b);have h22c:(decide (uIt x.kind))=false:=(Ab h22b);refine wk ?_;intro a F
     exact ⟨(decide (0 < ((x.items.length:Nat):Int))),F.to ⟨rfl,rfl,trivial⟩,M,by clear F M;unfold Ed;first | (simp only [Bool.true_eq_false,true_iff,false_iff,Bool.false_eq_true,decide_eq_true_eq];grind) | grind⟩
    have h23:=dT (Ac h23b);have h23c:(decide (uIt x.kind))=true:=(Ac h23b);refine wk ?_;intro a F
    exact ⟨false,F.to ⟨rfl,rfl,trivial⟩,M,by clear F M;unfold Ed;first | (simp only [Bool.true_eq_false,true_iff,false_iff,Bool.false_eq_true,decide_eq_true_eq];grind) | grind⟩
   have h24:=dT (Ac h24b);have h24c:(decide (uCo x.kind))=true:=(Ac h24b);refine wk ?_
   rcases bE (!(decide (uTo x.kind))) with h25b | h30b
   ·skip
    have h25:=dF (Ab h25b);have h25c:(decide (uTo x.kind))=false:=(Ab h25b);refine wk ?_
    rcases bE (!(decide (x.to=0))) with h26b | h27b
    ·skip
     have h26:=dF (Ab h26b);have h26c:(decide (x.to=0))=false:=(Ab h26b);refine wk ?_;intro a F
     exact ⟨true,F.to ⟨rfl,rfl,trivial⟩,M,by clear F M;unfold Ed;first | (simp only [Bool.true_eq_false,true_iff,false_iff,Bool.false_eq_true,decide_eq_true_eq];grind) | grind⟩
    have h27:=dT (Ac h27b);have h27c:(decide (x.to=0))=true:=(Ac h27b);refine wk ?_
    rcases bE (!(decide (uIt x.kind))) with h28b | h29b
    ·skip
     have h28:=dF (Ab h28b);have h28c:(decide (uIt x.kind))=false:=(Ab h28b);refine wk ?_;intro a F
     exact ⟨(decide (0 < ((x.items.length:Nat):Int))),F.to ⟨rfl,rfl,trivial⟩,M,by clear F M;unfold Ed;first | (simp only [Bool.true_eq_false,true_iff,false_iff,Bool.false_eq_true,decide_eq_true_eq];grind) | grind⟩
    have h29:=dT (Ac h29b);have h29c:(decide (uIt x.kind))=true:=(Ac h29b);refine wk ?_;intro a F
    exact ⟨false,F.to ⟨rfl,rfl,trivial⟩,M,by clear F M;unfold Ed;first | (simp only [Bool.true_eq_false,true_iff,false_iff,Bool.false_eq_true,decide_eq_true_eq];grind) | grind⟩
   have h30:=dT (Ac h30b);have h30c:(decide (uTo x.kind))=true:=(Ac h30b);refine wk ?_
   rcases bE (!(decide (uIt x.kind))) with h31b | h32b
   ·skip
    have h31:=dF (Ab h31b);have h31c:(decide (uIt x.kind))=false:=(Ab h31b);refine wk ?_;intro a F
    exact ⟨(decide (0 < ((x.items.length:Nat):Int))),F.to ⟨rfl,rfl,trivial⟩,M,by clear F M;unfold Ed;first | (simp only [Bool.true_eq_false,true_iff,false_iff,Bool.false_eq_true,decide_eq_true_eq];grind) | grind⟩
   have h32:=dT (Ac h32b);have h32c:(decide (uIt x.kind))=true:=(Ac h32b);refine wk ?_;intro a F
   exact ⟨false,F.to ⟨rfl,rfl,trivial⟩,M,by clear F M;unfold Ed;first | (simp only [Bool.true_eq_false,true_iff,false_iff,Bool.false_eq_true,decide_eq_true_eq];grind) | grind⟩
  have h33:=dT (Ac h33b);have h33c:(decide (uAt x.kind))=true:=(Ac h33b);refine wk ?_
  rcases bE (!(decide (uCo x.kind))) with h34b | h45b
  ·skip
   have h34:=dF (Ab h34b);have h34c:(decide (uCo x.kind))=false:=(Ab h34b);refine wk ?_
   rcases bE (!(decide (x.count=0))) with h35b | h36b
   ·skip
    have h35:=dF (Ab h35b);have h35c:(decide (x.count=0))=false:=(Ab h35b);refine wk ?_;intro a F
    exact ⟨true,F.to ⟨rfl,rfl,trivial⟩,M,by clear F M;unfold Ed;first | (simp only [Bool.true_eq_false,true_iff,false_iff,Bool.false_eq_true,decide_eq_true_eq];grind) | grind⟩
   have h36:=dT (Ac h36b);have h36c:(decide (x.count=0))=true:=(Ac h36b);refine wk ?_
   rcases bE (!(decide (uTo x.kind))) with h37b | h42b
   ·skip
    have h37:=dF (Ab h37b);have h37c:(decide (uTo x.kind))=false:=(Ab h37b);refine wk ?_
    rcases bE (!(decide (x.to=0))) with h38b | h39b
    ·skip
     have h38:=dF (Ab h38b);have h38c:(decide (x.to=0))=false:=(Ab h38b);refine wk ?_;intro a F
     exact ⟨true,F.to ⟨rfl,rfl,trivial⟩,M,by clear F M;unfold Ed;first | (simp only [Bool.true_eq_false,true_iff,false_iff,Bool.false_eq_true,decide_eq_true_eq];grind) | grind⟩
    have h39:=dT (Ac h39b);have h39c:(decide (x.to=0))=true:=(Ac h39b);refine wk ?_
    rcases bE (!(decide (uIt x.kind))) with h40b | h41b
    ·skip
     have h40:=dF (Ab h40b);have h40c:(decide (uIt x.kind))=false:=(Ab h40b);refine wk ?_;intro a F
     exact ⟨(decide (0 < ((x.items.length:Nat):Int))),F.to ⟨rfl,rfl,trivial⟩,M,by clear F M;unfold Ed;first | (simp only [Bool.true_eq_false,true_iff,false_iff,Bool.false_eq_true,decide_eq_true_eq];grind) | grind⟩
    have h41:=dT (Ac h41b);have h41c:(decide (uIt x.kind))=true:=(Ac h41b);refine wk ?_;intro a F
    exact ⟨false,F.to ⟨rfl,rfl,trivial⟩,M,by clear F M;unfold Ed;first | (simp only [Bool.true_eq_false,true_iff,false_iff,Bool.false_eq_true,decide_eq_true_eq];grind) | grind⟩
   have h42:=dT (Ac h42b);have h42c:(decide (uTo x.kind))=true:=(Ac h42b);refine wk ?_
   rcases bE (!(decide (uIt x.kind))) with h43b | h44b
   ·skip
    have h43:=dF (Ab h43b);have h43c:(decide (uIt x.kind))=false:=(Ab h43b);refine wk ?_;intro a F
    exact ⟨(decide (0 < ((x.items.length:Nat):Int))),F.to ⟨rfl,rfl,trivial⟩,M,by clear F M;unfold Ed;first | (simp only [Bool.true_eq_false,true_iff,false_iff,Bool.false_eq_true,decide_eq_true_eq];grind) | grind⟩
   have h44:=dT (Ac h44b);have h44c:(decide (uIt x.kind))=true:=(Ac h44b);refine wk ?_;intro a F
   exact ⟨false,F.to ⟨rfl,rfl,trivial⟩,M,by clear F M;unfold Ed;first | (simp only [Bool.true_eq_false,true_iff,false_iff,Bool.false_eq_true,decide_eq_true_eq];grind) | grind⟩
  have h45:=dT (Ac h45b);have h45c:(decide (uCo x.kind))=true:=(Ac h45b);refine wk ?_
  rcases bE (!(decide (uTo x.kind))) with h46b | h51b
  ·skip
   have h46:=dF (Ab h46b);have h46c:(decide (uTo x.kind))=false:=(Ab h46b);refine wk ?_
   rcases bE (!(decide (x.to=0))) with h47b | h48b
   ·skip
    have h47:=dF (Ab h47b);have h47c:(decide (x.to=0))=false:=(Ab h47b);refine wk ?_;intro a F
    exact ⟨true,F.to ⟨rfl,rfl,trivial⟩,M,by clear F M;unfold Ed;first | (simp only [Bool.true_eq_false,true_iff,false_iff,Bool.false_eq_true,decide_eq_true_eq];grind) | grind⟩
   have h48:=dT (Ac h48b);have h48c:(decide (x.to=0))=true:=(Ac h48b);refine wk ?_
   rcases bE (!(decide (uIt x.kind))) with h49b | h50b
   ·skip
    have h49:=dF (Ab h49b);have h49c:(decide (uIt x.kind))=false:=(Ab h49b);refine wk ?_;intro a F
    exact ⟨(decide (0 < ((x.items.length:Nat):Int))),F.to ⟨rfl,rfl,trivial⟩,M,by clear F M;unfold Ed;first | (simp only [Bool.true_eq_false,true_iff,false_iff,Bool.false_eq_true,decide_eq_true_eq];grind) | grind⟩
   have h50:=dT (Ac h50b);have h50c:(decide (uIt x.kind))=true:=(Ac h50b);refine wk ?_;intro a F
   exact ⟨false,F.to ⟨rfl,rfl,trivial⟩,M,by clear F M;unfold Ed;first | (simp only [Bool.true_eq_false,true_iff,false_iff,Bool.false_eq_true,decide_eq_true_eq];grind) | grind⟩
  have h51:=dT (Ac h51b);have h51c:(decide (uTo x.kind))=true:=(Ac h51b);refine wk ?_
  rcases bE (!(decide (uIt x.kind))) with h52b | h53b
  ·skip
   have h52:=dF (Ab h52b);have h52c:(decide (uIt x.kind))=false:=(Ab h52b);refine wk ?_;intro a F
   exact ⟨(decide (0 < ((x.items.length:Nat):Int))),F.to ⟨rfl,rfl,trivial⟩,M,by clear F M;unfold Ed;first | (simp only [Bool.true_eq_false,true_iff,false_iff,Bool.false_eq_true,decide_eq_true_eq];grind) | grind⟩
  have h53:=dT (Ac h53b);have h53c:(decide (uIt x.kind))=true:=(Ac h53b);refine wk ?_;intro a F
  exact ⟨false,F.to ⟨rfl,rfl,trivial⟩,M,by clear F M;unfold Ed;first | (simp only [Bool.true_eq_false,true_iff,false_iff,Bool.false_eq_true,decide_eq_true_eq];grind) | grind⟩
 clear F M;rintro a w ⟨bb,F,M,hbb⟩;revert a;refine F1<|?_
 refine Ae rfl ?_ ?_
 ·intro h54b;have h54:(bb)=true:=h54b;refine Cj<|?_
  have hF:¬ Ed x:=hbb.1 (by assumption);refine wk ?_;refine Ad rfl rfl<|?_
  exact ⟨M.weaken dS2,by rw [Apj (by omega) hF]⟩
 intro h55b;have h55:(bb)=false:=h55b;refine wk ?_;have hF:Ed x:=Classical.byContradiction fun h_=>by have h9_:=hbb.2 h_;simp_all
 refine wk ?_;refine Ad rfl rfl<|?_
 exact ⟨M.weaken dS2,by rw [Apk (by omega) hF]⟩
theorem Aeh (M:Mem w0 G L w) {k:Nat}:Calls Tryz.prog 93 #[.int .u8 ((k:Nat):Int)] w (Bu w0 G L fun v=>v=.agg #[.int .i64 (uG k 0),.int .i64 (uG k 1),.int .i64 (uG k 2),.int .i64 (uG k 3)]):=by
 refine Al (vs:=[_]) Tryz.func93 rfl (n:=18) rfl rfl<|?_
 refine Bt<|?_
 refine B1 M Dm rfl rfl<|?_;clear M;intro b1 w M
 refine wk ?_;refine qD rfl ?_ ?_
 ·intro h3;refine wk ?_;refine Am (fun a F=>Em F (ps:=[(0,.int .i64 1),(1,.int .i64 0),(2,.int .i64 0),(3,.int .i64 1)]) (cs:=[.int .i64 1,.int .i64 0,.int .i64 0,.int .i64 1]) Dm.k Dm Cq rfl rfl) rfl<|fun a F=>?_
  refine Be F M Dm 0 ?_;clear F M a;intro w a M F;revert a;refine E9<|Kd<|Gr<|?_
  refine fun a F=>F6 F M (k:=0) rfl rfl Dm rfl rfl rfl ?_
  exact ⟨M.weaken dS1,by rw [show uG k 0=1 from if_pos (by unfold uAt;omega),show uG k 1=0 from if_neg (by unfold uCo;omega),show uG k 2=0 from if_neg (by unfold uTo;omega),show uG k 3=1 from if_pos (by unfold uIt;omega)]⟩
 intro h4;refine wk ?_;refine qD rfl ?_ ?_
 ·intro h5;refine Bt<|?_
  refine Am (fun a F=>Em F (ps:=[(0,.int .i64 1),(1,.int .i64 0),(2,.int .i64 0),(3,.int .i64 1)]) (cs:=[.int .i64 1,.int .i64 0,.int .i64 0,.int .i64 1]) Dm.k Dm Cq rfl rfl) rfl<|fun a F=>?_
  refine Be F M Dm 0 ?_;clear F M a;intro w a M F;revert a;refine E9<|Kd<|Gr<|?_
  refine fun a F=>F6 F M (k:=0) rfl rfl Dm rfl rfl rfl ?_
  exact ⟨M.weaken dS1,by rw [show uG k 0=1 from if_pos (by unfold uAt;omega),show uG k 1=0 from if_neg (by unfold uCo;omega),show uG k 2=0 from if_neg (by unfold uTo;omega),show uG k 3=1 from if_pos (by unfold uIt;omega)]⟩
 intro h6;refine wk ?_;refine qD rfl ?_ ?_
 ·intro h7;refine Bt<|?_
  refine Am (fun a F=>Em F (ps:=[(0,.int .i64 1),(1,.int .i64 1),(2,.int .i64 0),(3,.int .i64 0)]) (cs:=[.int .i64 1,.int .i64 1,.int .i64 0,.int .i64 0]) Dm.k Dm Cq rfl rfl) rfl<|fun a F=>?_
  refine Be F M Dm 0 ?_;clear F M a;intro w a M F;revert a;refine E9<|Kd<|Gr<|?_
  refine fun a F=>F6 F M (k:=0) rfl rfl Dm rfl rfl rfl ?_
  exact ⟨M.weaken dS1,by rw [show uG k 0=1 from if_pos (by unfold uAt;omega),show uG k 1=1 from if_pos (by unfold uCo;omega),show uG k 2=0 from if_neg (by unfold uTo;omega),show uG k 3=0 from if_neg (by unfold uIt;omega)]⟩
 intro h8;refine wk ?_;refine qD rfl ?_ ?_
 ·intro h9;refine Bt<|?_
  refine Am (fun a F=>Em F (ps:=[(0,.int .i64 1),(1,.int .i64 1),(2,.int .i64 1),(3,.int .i64 0)]) (cs:=[.int .i64 1,.int .i64 1,.int .i64 1,.int .i64 0]) Dm.k Dm Cq rfl rfl) rfl<|fun a F=>?_
  refine Be F M Dm 0 ?_;clear F M a;intro w a M F;revert a;refine E9<|Kd<|Gr<|?_
  refine fun a F=>F6 F M (k:=0) rfl rfl Dm rfl rfl rfl ?_
  exact ⟨M.weaken dS1,by rw [show uG k 0=1 from if_pos (by unfold uAt;omega),show uG k 1=1 from if_pos (by unfold uCo;omega),show uG k 2=1 from if_pos (by unfold uTo;omega),show uG k 3=0 from if_neg (by unfold uIt;omega)]⟩
 intro h10;refine wk ?_;refine qD rfl ?_ ?_
 ·intro h11;refine Bt<|?_
  refine Am (fun a F=>Em F (ps:=[(0,.int .i64 0),(1,.int .i64 0),(2,.int .i64 0),(3,.int .i64 1)]) (cs:=[.int .i64 0,.int .i64 0,.int .i64 0,.int .i64 1]) Dm.k Dm Cq rfl rfl) rfl<|fun a F=>?_
  refine Be F M Dm 0 ?_;clear F M a;intro w a M F;revert a;refine E9<|Kd<|Gr<|?_
  refine fun a F=>F6 F M (k:=0) rfl rfl Dm rfl rfl rfl ?_
  exact ⟨M.weaken dS1,by rw [show uG k 0=0 from if_neg (by unfold uAt;omega),show uG k 1=0 from if_neg (by unfold uCo;omega),show uG k 2=0 from if_neg (by unfold uTo;omega),show uG k 3=1 from if_pos (by unfold uIt;omega)]⟩
 intro h12;refine wk ?_;refine Am (fun a F=>Em F (ps:=[]) (cs:=[.int .i64 0,.int .i64 0,.int .i64 0,.int .i64 0]) Dm.k Dm Cq rfl rfl) rfl<|fun a F=>?_
 refine Be F M Dm 0 ?_;clear F M a;intro w a M F;revert a;refine E9<|?_
 refine fun a F=>F6 F M (k:=0) rfl rfl Dm rfl rfl rfl ?_
 exact ⟨M.weaken dS1,by rw [show uG k 0=0 from if_neg (by unfold uAt;omega),show uG k 1=0 from if_neg (by unfold uCo;omega),show uG k 2=0 from if_neg (by unfold uTo;omega),show uG k 3=0 from if_neg (by unfold uIt;omega)]⟩
theorem Ov (M:Mem w0 G L w) {x:NotD} {na:Option Addr} {nc:Nat} (hN:x.kind < 256∧Au .i64 x.at_∧Au .i64 x.count∧Au .i64 x.to∧x.items.length≤9223372036854775807) (SI:Ag Bn 4 G (.slice na x.items.length nc) x.items):Calls Tryz.prog 38 #[.agg #[.int .u8 ((x.kind:Nat):Int),.int .i64 x.at_,.int .i64 x.count,.int .i64 x.to,.slice na x.items.length nc]] w (Bu w0 G L fun v=>v=.int .i64 (Dr x)):=by
 refine Al (vs:=[_]) Tryz.func38 rfl (n:=40) rfl rfl<|?_
 refine Bt<|?_
 refine B2 M rfl rfl rfl<|?_;clear M;intro b1 w M
 refine wk ?_
 rcases bE (decide (((x.kind:Nat):Int) < 1)) with h2b | h3b
 ·skip
  have h2:=dT h2b;refine wk ?_;refine Ad rfl rfl<|?_
  exact ⟨M.weaken dS1,by rw [Yz (by omega)]⟩
 have h3:=dF h3b;refine wk ?_;refine qD rfl ?_ ?_
 ·intro h4;refine wk ?_;refine Ad rfl rfl<|?_
  exact ⟨M.weaken dS1,by rw [Yz (by omega)]⟩
 intro h5;refine wk ?_;refine A4 ent93 rfl rfl (Aeh (k:=x.kind) M)<|?_;clear M;rintro _ w M rfl
 refine B1 M Dm rfl rfl<|?_;clear M;intro b6 w M
 intro a F;refine Be F M Dm 0 ?_;clear F M a;intro w a M F;replace M:=z_M M;revert a;refine wk ?_;refine fun a F=>Ba (fun m a' w'=>∃ (i:Nat),m=4 - i∧Fits 40 a' [(1,.pointer (some ⟨b1,0,none⟩)),(3,.pointer (some ⟨b6,0,none⟩)),(4,.int .i64 ((i:Nat):Int))]∧Mem w0 G (.blk b6 [.int .i64 (uG x.kind 0),.int .i64 (uG x.kind 1),.int .i64 (uG x.kind 2),.int .i64 (uG x.kind 3)] 167::.blk b1 [.int .u8 ((x.kind:Nat):Int),.int .i64 x.at_,.int .i64 x.count,.int .i64 x.to,.slice na x.items.length nc] 65::L) w'∧(i≤4)∧(∀ j,j < i→uG x.kind j=0→nG x j=0)) _ ⟨0,rfl,F.to ⟨rfl,rfl,rfl,trivial⟩,M,by omega,fun j h=>by omega⟩ ?_;clear F M;rintro m a w ⟨i,rfl,F,M,hi,hA⟩;revert a;refine wk ?_;refine qD rfl ?_ ?_
 ·intro h8;refine F3<|Cj<|J4<|Cj<|?_
  refine fun a F=>Jo (fun a' w'=>∃ (bb:Bool),Fits 40 a' [(1,.pointer (some ⟨b1,0,none⟩)),(3,.pointer (some ⟨b6,0,none⟩)),(4,.int .i64 ((i:Nat):Int)),(39,.bool bb)]∧Mem w0 G (.blk b6 [.int .i64 (uG x.kind 0),.int .i64 (uG x.kind 1),.int .i64 (uG x.kind 2),.int .i64 (uG x.kind 3)] 167::.blk b1 [.int .u8 ((x.kind:Nat):Int),.int .i64 x.at_,.int .i64 x.count,.int .i64 x.to,.slice na x.items.length nc] 65::L) w'∧(bb=true↔uG x.kind i=0∧nG x i≠0)) ?_ ?_
  ·skip
   revert a;refine J3<|C0 rfl<|?_
   refine Am (fun a F=>Bz (j:=i) Dm.k Cq rfl (F.ev rfl) (F.ev rfl) (by omega) (by omega)) rfl<|Am (fun a F=>Cs (agf Cq rfl) (F.ev rfl) (M.cellL (k:=0) rfl (u_cell (i:=i) (by omega)))) rfl<|?_
   refine wk ?_
   rcases bE (decide (uG x.kind i=0)) with h9b | h13b
   ·skip
    have h9:=dT h9b;refine wk ?_;intro a F;refine B7 F M Amu.k Cq (ps:=[(0,.int .i64 x.at_),(1,.int .i64 x.count),(2,.int .i64 x.to),(3,.int .i64 ((x.items.length:Nat):Int))]) (cs:=[[.int .i64 x.at_],[.int .i64 x.count],[.int .i64 x.to],[.int .i64 ((x.items.length:Nat):Int)]]) (fl:=[.int .i64 x.at_,.int .i64 x.count,.int .i64 x.to,.int .i64 ((x.items.length:Nat):Int)]) rfl rfl (by simp [Hn,Value.cells]) (by simp [ti3]) rfl (by simp [Value.oneCell']) (by decide) (by decide) rfl ?_;clear F M a;intro v10 w a M F;obtain ⟨av10,cv10,rfl,hlev10,hcmv10,hlv10⟩:=M.row_shape (k:=0) rfl;have Ez11:Els rdZ 1 G [.int .i64 x.at_,.int .i64 x.count,.int .i64 x.to,.int .i64 ((x.items.length:Nat):Int)] [nG x 0,nG x 1,nG x 2,nG x 3]:=els_z (zs:=[nG x 0,nG x 1,nG x 2,nG x 3]);revert a;refine wk ?_;obtain ⟨be12,_,Ie12,hme12,_,Ae12,rfl⟩:=M.atRow (k:=0) rfl (by decide) Ez11 (n_cell (x:=x) (i:=i) (by omega));refine wk ?_;refine s_le Cq Ae12 0 rfl rfl (by omega) rfl<|?_
    refine wk ?_;intro a F
    exact ⟨(!(decide ((nG x i)=0))),F.to ⟨rfl,rfl,rfl,rfl,trivial⟩,M.weaken dS1,by clear F M;first | (simp only [Bool.true_eq_false,true_iff,false_iff,Bool.false_eq_true,decide_eq_true_eq];omega) | grind⟩
   have h13:=dF h13b;refine wk ?_;intro a F
   exact ⟨false,F.to ⟨rfl,rfl,rfl,rfl,trivial⟩,M,by clear F M;first | (simp only [Bool.true_eq_false,true_iff,false_iff,Bool.false_eq_true,decide_eq_true_eq];omega) | grind⟩
  clear F M;rintro a w ⟨bb,F,M,hbb⟩;revert a;refine F1<|?_
  refine Ae rfl ?_ ?_
  ·intro h14b;have h14:(bb)=true:=h14b;refine Cj<|?_
   have h8_:=hbb;refine wk ?_;refine Ad rfl rfl<|?_
   exact ⟨M.weaken dS2,by rw [Apj (by omega) (Apl (j:=i) (by omega) (hbb.1 (by assumption)).1 (hbb.1 (by assumption)).2)]⟩
  intro h15b;have h15:(bb)=false:=h15b;refine wk ?_;intro a F
  exact ⟨_,by omega,i+1,rfl,F.to ⟨rfl,rfl,rfl,trivial⟩,M,by omega,fun j hj hu=>by rcases Nat.lt_succ_iff_lt_or_eq.1 hj with h_ | h_;exact hA j h_ hu;subst h_;clear F M;first | omega | simp_all⟩
 intro h16;refine wk ?_;refine Ad rfl rfl<|?_
 exact ⟨M.weaken dS2,by rw [Apk (by omega) (form_of fun j hj hu=>hA j (by omega) hu)]⟩
set_option maxHeartbeats 1600000
theorem k1_spec (M:Mem w0 G L w) {c:RulesD} {kca:Option Addr} {kcc:Nat} (SC:Ag Cb 9 G (.slice kca c.kinds.length kcc) c.kinds) {a1:Option Addr} {c1:Nat} {l:List EntD} (S:Ag Bg 6 G (.slice a1 l.length c1) l) (hck:Bb c l=0) {x:NotD} {na:Option Addr} {nc:Nat} (hN:x.kind < 256∧Au .i64 x.at_∧Au .i64 x.count∧Au .i64 x.to∧x.items.length≤9223372036854775807) (SI:Ag Bn 4 G (.slice na x.items.length nc) x.items) (hX:x.items.length≤900000) (h0:Dr x=0) (hk:x.kind=1):Calls Tryz.prog 122 #[.agg #[.slice kca c.kinds.length kcc,.int .i64 c.cap],.agg #[.slice a1 l.length c1],.agg #[.int .u8 ((x.kind:Nat):Int),.int .i64 x.at_,.int .i64 x.count,.int .i64 x.to,.slice na x.items.length nc]] w (Ht w0 G (Jl L (F9 c l x))):=by
 rw [Adg h0 hk];have bS:=S.bound;refine Al (vs:=[_,_,_]) Tryz.func122 rfl (n:=17) rfl rfl<|?_
 refine Bt<|?_
 refine B2 M rfl rfl rfl<|?_;clear M;intro b1 w M
 refine B2 M rfl rfl rfl<|?_;clear M;intro b2 w M
 refine B2 M rfl rfl rfl<|?_;clear M;intro b3 w M
 refine B1 M Az rfl rfl<|?_;clear M;intro b4 w M
 refine wk ?_;intro a F;refine Ch F ent123 rfl rfl (Y5 (c:=c) (l:=l) (xs:=x.items) (z:=x.at_) M SC S hck SI (by omega)) ?_;clear F M a;rintro _ Gq6 _ w a hGq6 M ⟨aoq6,csq6,Loq6,rfl,rfl,Eoq6⟩ F;replace SC:=SC.mono Ak hGq6;replace S:=S.mono Aa hGq6;replace SI:=SI.mono Ai hGq6;have M:=M.perm (Bj (Cw aoq6 (F8 c l x.at_ x.items).1.length csq6::Loq6) [.blk b4 [.slice none 0 0] 54,.blk b3 [.int .u8 ((x.kind:Nat):Int),.int .i64 x.at_,.int .i64 x.count,.int .i64 x.to,.slice na x.items.length nc] 65,.blk b2 [.slice a1 l.length c1] 54,.blk b1 [.slice kca c.kinds.length kcc,.int .i64 c.cap] 51] L);replace M:=z_M M;revert a;refine wk ?_;intro a F;refine Be F M Az 0 ?_;clear F M a;intro w a M F;replace M:=z_M M;revert a;refine wk ?_;refine fun a F=>Bs F M (k:=0) rfl rfl Az rfl rfl rfl rfl ?_
 exact ⟨_,_,hGq6,M.weaken dS4,aoq6,csq6,Loq6,rfl,rfl,Eoq6⟩
theorem k2_spec (M:Mem w0 G L w) {c:RulesD} {kca:Option Addr} {kcc:Nat} (SC:Ag Cb 9 G (.slice kca c.kinds.length kcc) c.kinds) {a1:Option Addr} {c1:Nat} {l:List EntD} (S:Ag Bg 6 G (.slice a1 l.length c1) l) (hck:Bb c l=0) {x:NotD} {na:Option Addr} {nc:Nat} (hN:x.kind < 256∧Au .i64 x.at_∧Au .i64 x.count∧Au .i64 x.to∧x.items.length≤9223372036854775807) (SI:Ag Bn 4 G (.slice na x.items.length nc) x.items) (hX:x.items.length≤900000) (h0:Dr x=0) (hk:x.kind=2):Calls Tryz.prog 124 #[.agg #[.slice kca c.kinds.length kcc,.int .i64 c.cap],.agg #[.slice a1 l.length c1],.agg #[.int .u8 ((x.kind:Nat):Int),.int .i64 x.at_,.int .i64 x.count,.int .i64 x.to,.slice na x.items.length nc]] w (Ht w0 G (Jl L (F9 c l x))):=by
 rw [Xm h0 hk];have bS:=S.bound;refine Al (vs:=[_,_,_]) Tryz.func124 rfl (n:=17) rfl rfl<|?_
 refine Bt<|?_
 refine B2 M rfl rfl rfl<|?_;clear M;intro b1 w M
 refine B2 M rfl rfl rfl<|?_;clear M;intro b2 w M
 refine B2 M rfl rfl rfl<|?_;clear M;intro b3 w M
 refine B1 M Az rfl rfl<|?_;clear M;intro b4 w M
 refine wk ?_;intro a F;refine Ch F ent69 rfl rfl (O5 (c:=c) (l:=l) (z:=x.at_) (n:=x.count) M SC S hck ) ?_;clear F M a;rintro _ Gq6 _ w a hGq6 M ⟨aoq6,csq6,Loq6,rfl,rfl,Eoq6⟩ F;replace SC:=SC.mono Ak hGq6;replace S:=S.mono Aa hGq6;replace SI:=SI.mono Ai hGq6;have M:=M.perm (Bj (Cw aoq6 (Le l x.at_ x.count).1.length csq6::Loq6) [.blk b4 [.slice none 0 0] 54,.blk b3 [.int .u8 ((x.kind:Nat):Int),.int .i64 x.at_,.int .i64 x.count,.int .i64 x.to,.slice na x.items.length nc] 65,.blk b2 [.slice a1 l.length c1] 54,.blk b1 [.slice kca c.kinds.length kcc,.int .i64 c.cap] 51] L);replace M:=z_M M;revert a;refine wk ?_;intro a F;refine Be F M Az 0 ?_;clear F M a;intro w a M F;replace M:=z_M M;revert a;refine wk ?_;refine fun a F=>Bs F M (k:=0) rfl rfl Az rfl rfl rfl rfl ?_
 exact ⟨_,_,hGq6,M.weaken dS4,aoq6,csq6,Loq6,rfl,rfl,Eoq6⟩
theorem k3_spec (M:Mem w0 G L w) {c:RulesD} {kca:Option Addr} {kcc:Nat} (SC:Ag Cb 9 G (.slice kca c.kinds.length kcc) c.kinds) {a1:Option Addr} {c1:Nat} {l:List EntD} (S:Ag Bg 6 G (.slice a1 l.length c1) l) (hck:Bb c l=0) {x:NotD} {na:Option Addr} {nc:Nat} (hN:x.kind < 256∧Au .i64 x.at_∧Au .i64 x.count∧Au .i64 x.to∧x.items.length≤9223372036854775807) (SI:Ag Bn 4 G (.slice na x.items.length nc) x.items) (hX:x.items.length≤900000) (h0:Dr x=0) (hk:x.kind=3):Calls Tryz.prog 125 #[.agg #[.slice kca c.kinds.length kcc,.int .i64 c.cap],.agg #[.slice a1 l.length c1],.agg #[.int .u8 ((x.kind:Nat):Int),.int .i64 x.at_,.int .i64 x.count,.int .i64 x.to,.slice na x.items.length nc]] w (Ht w0 G (Jl L (F9 c l x))):=by
 rw [Adf h0 hk];have bS:=S.bound;refine Al (vs:=[_,_,_]) Tryz.func125 rfl (n:=19) rfl rfl<|?_
 refine Bt<|?_
 refine B2 M rfl rfl rfl<|?_;clear M;intro b1 w M
 refine B2 M rfl rfl rfl<|?_;clear M;intro b2 w M
 refine B2 M rfl rfl rfl<|?_;clear M;intro b3 w M
 refine B1 M Az rfl rfl<|?_;clear M;intro b4 w M
 refine wk ?_;intro a F;refine Ch F ent126 rfl rfl (Afi (c:=c) (l:=l) (z:=x.at_) (n:=x.count) (q:=x.to) M SC S hck ) ?_;clear F M a;rintro _ Gq6 _ w a hGq6 M ⟨aoq6,csq6,Loq6,rfl,rfl,Eoq6⟩ F;replace SC:=SC.mono Ak hGq6;replace S:=S.mono Aa hGq6;replace SI:=SI.mono Ai hGq6;have M:=M.perm (Bj (Cw aoq6 (Hs l x.at_ x.count x.to).1.length csq6::Loq6) [.blk b4 [.slice none 0 0] 54,.blk b3 [.int .u8 ((x.kind:Nat):Int),.int .i64 x.at_,.int .i64 x.count,.int .i64 x.to,.slice na x.items.length nc] 65,.blk b2 [.slice a1 l.length c1] 54,.blk b1 [.slice kca c.kinds.length kcc,.int .i64 c.cap] 51] L);replace M:=z_M M;revert a;refine wk ?_;intro a F;refine Be F M Az 0 ?_;clear F M a;intro w a M F;replace M:=z_M M;revert a;refine wk ?_;refine fun a F=>Bs F M (k:=0) rfl rfl Az rfl rfl rfl rfl ?_
 exact ⟨_,_,hGq6,M.weaken dS4,aoq6,csq6,Loq6,rfl,rfl,Eoq6⟩
theorem k4_spec (M:Mem w0 G L w) {c:RulesD} {kca:Option Addr} {kcc:Nat} (SC:Ag Cb 9 G (.slice kca c.kinds.length kcc) c.kinds) {a1:Option Addr} {c1:Nat} {l:List EntD} (S:Ag Bg 6 G (.slice a1 l.length c1) l) (hck:Bb c l=0) {x:NotD} {na:Option Addr} {nc:Nat} (hN:x.kind < 256∧Au .i64 x.at_∧Au .i64 x.count∧Au .i64 x.to∧x.items.length≤9223372036854775807) (SI:Ag Bn 4 G (.slice na x.items.length nc) x.items) (hX:x.items.length≤900000) (h0:Dr x=0) (hk:x.kind=4):Calls Tryz.prog 127 #[.agg #[.slice kca c.kinds.length kcc,.int .i64 c.cap],.agg #[.slice a1 l.length c1],.agg #[.int .u8 ((x.kind:Nat):Int),.int .i64 x.at_,.int .i64 x.count,.int .i64 x.to,.slice na x.items.length nc]] w (Ht w0 G (Jl L (F9 c l x))):=by
 rw [Aja h0 hk];have bS:=S.bound;refine Al (vs:=[_,_,_]) Tryz.func127 rfl (n:=17) rfl rfl<|?_
 refine Bt<|?_
 refine B2 M rfl rfl rfl<|?_;clear M;intro b1 w M
 refine B2 M rfl rfl rfl<|?_;clear M;intro b2 w M
 refine B2 M rfl rfl rfl<|?_;clear M;intro b3 w M
 refine B1 M Az rfl rfl<|?_;clear M;intro b4 w M
 refine wk ?_;intro a F;refine Ch F ent128 rfl rfl (Y6 (c:=c) (l:=l) (xs:=x.items) (z:=x.at_) M SC S hck SI (by omega)) ?_;clear F M a;rintro _ Gq6 _ w a hGq6 M ⟨aoq6,csq6,Loq6,rfl,rfl,Eoq6⟩ F;replace SC:=SC.mono Ak hGq6;replace S:=S.mono Aa hGq6;replace SI:=SI.mono Ai hGq6;have M:=M.perm (Bj (Cw aoq6 (Jh c l x.at_ x.items).1.length csq6::Loq6) [.blk b4 [.slice none 0 0] 54,.blk b3 [.int .u8 ((x.kind:Nat):Int),.int .i64 x.at_,.int .i64 x.count,.int .i64 x.to,.slice na x.items.length nc] 65,.blk b2 [.slice a1 l.length c1] 54,.blk b1 [.slice kca c.kinds.length kcc,.int .i64 c.cap] 51] L);replace M:=z_M M;revert a;refine wk ?_;intro a F;refine Be F M Az 0 ?_;clear F M a;intro w a M F;replace M:=z_M M;revert a;refine wk ?_;refine fun a F=>Bs F M (k:=0) rfl rfl Az rfl rfl rfl rfl ?_
 exact ⟨_,_,hGq6,M.weaken dS4,aoq6,csq6,Loq6,rfl,rfl,Eoq6⟩
theorem k5_spec (M:Mem w0 G L w) {c:RulesD} {kca:Option Addr} {kcc:Nat} (SC:Ag Cb 9 G (.slice kca c.kinds.length kcc) c.kinds) {a1:Option Addr} {c1:Nat} {l:List EntD} (S:Ag Bg 6 G (.slice a1 l.length c1) l) (hck:Bb c l=0) {x:NotD} {na:Option Addr} {nc:Nat} (hN:x.kind < 256∧Au .i64 x.at_∧Au .i64 x.count∧Au .i64 x.to∧x.items.length≤9223372036854775807) (SI:Ag Bn 4 G (.slice na x.items.length nc) x.items) (hX:x.items.length≤900000) (h0:Dr x=0) (hk:x.kind=5):Calls Tryz.prog 129 #[.agg #[.slice kca c.kinds.length kcc,.int .i64 c.cap],.agg #[.slice a1 l.length c1],.agg #[.int .u8 ((x.kind:Nat):Int),.int .i64 x.at_,.int .i64 x.count,.int .i64 x.to,.slice na x.items.length nc]] w (Ht w0 G (Jl L (F9 c l x))):=by
 rw [Aiz h0 hk];have bS:=S.bound;refine Al (vs:=[_,_,_]) Tryz.func129 rfl (n:=15) rfl rfl<|?_
 refine Bt<|?_
 refine B2 M rfl rfl rfl<|?_;clear M;intro b1 w M
 refine B2 M rfl rfl rfl<|?_;clear M;intro b2 w M
 refine B2 M rfl rfl rfl<|?_;clear M;intro b3 w M
 refine B1 M Az rfl rfl<|?_;clear M;intro b4 w M
 refine wk ?_;intro a F;refine Ch F ent92 rfl rfl (Rh (c:=c) (l:=l) (xs:=x.items) M SC S hck SI (by omega)) ?_;clear F M a;rintro _ Gq6 _ w a hGq6 M ⟨aoq6,csq6,Loq6,rfl,rfl,Eoq6⟩ F;replace SC:=SC.mono Ak hGq6;replace S:=S.mono Aa hGq6;replace SI:=SI.mono Ai hGq6;have M:=M.perm (Bj (Cw aoq6 (F8 c [] 0 x.items).1.length csq6::Loq6) [.blk b4 [.slice none 0 0] 54,.blk b3 [.int .u8 ((x.kind:Nat):Int),.int .i64 x.at_,.int .i64 x.count,.int .i64 x.to,.slice na x.items.length nc] 65,.blk b2 [.slice a1 l.length c1] 54,.blk b1 [.slice kca c.kinds.length kcc,.int .i64 c.cap] 51] L);replace M:=z_M M;revert a;refine wk ?_;intro a F;refine Be F M Az 0 ?_;clear F M a;intro w a M F;replace M:=z_M M;revert a;refine wk ?_;refine fun a F=>Bs F M (k:=0) rfl rfl Az rfl rfl rfl rfl ?_
 exact ⟨_,_,hGq6,M.weaken dS4,aoq6,csq6,Loq6,rfl,rfl,Eoq6⟩
theorem Alo (M:Mem w0 G L w) {c:RulesD} {kca:Option Addr} {kcc:Nat} (SC:Ag Cb 9 G (.slice kca c.kinds.length kcc) c.kinds) {a1:Option Addr} {c1:Nat} {l:List EntD} (S:Ag Bg 6 G (.slice a1 l.length c1) l) (hck:Bb c l=0) {x:NotD} {na:Option Addr} {nc:Nat} (hN:x.kind < 256∧Au .i64 x.at_∧Au .i64 x.count∧Au .i64 x.to∧x.items.length≤9223372036854775807) (SI:Ag Bn 4 G (.slice na x.items.length nc) x.items) (hX:x.items.length≤900000) (h0:Dr x=0):Calls Tryz.prog (Ft x.kind) #[.agg #[.slice kca c.kinds.length kcc,.int .i64 c.cap],.agg #[.slice a1 l.length c1],.agg #[.int .u8 ((x.kind:Nat):Int),.int .i64 x.at_,.int .i64 x.count,.int .i64 x.to,.slice na x.items.length nc]] w (Ht w0 G (Jl L (F9 c l x))):=by
 have hk:=(I0.1 h0).1
 rcases (show x.kind=1∨x.kind=2∨x.kind=3∨x.kind=4∨x.kind=5 by omega) with e | e | e | e | e
 ·have h:=k1_spec M SC S hck hN SI hX h0 e;rw [show Ft x.kind=122 by rw [e];rfl];exact h
 ·have h:=k2_spec M SC S hck hN SI hX h0 e;rw [show Ft x.kind=124 by rw [e];rfl];exact h
 ·have h:=k3_spec M SC S hck hN SI hX h0 e;rw [show Ft x.kind=125 by rw [e];rfl];exact h
 ·have h:=k4_spec M SC S hck hN SI hX h0 e;rw [show Ft x.kind=127 by rw [e];rfl];exact h
 have h:=k5_spec M SC S hck hN SI hX h0 e;rw [show Ft x.kind=129 by rw [e];rfl];exact h
theorem Aqz {k:Nat}:Ent Tryz.prog (Ft k):=by
 unfold Ft
 split
 ·exact ent122
 ·exact ent124
 ·exact ent125
 ·exact ent127
 exact ent129
theorem Abj (M:Mem w0 G L w) {c:RulesD} {kca:Option Addr} {kcc:Nat} (SC:Ag Cb 9 G (.slice kca c.kinds.length kcc) c.kinds) {a1:Option Addr} {c1:Nat} {l:List EntD} (S:Ag Bg 6 G (.slice a1 l.length c1) l)  {x:NotD} {na:Option Addr} {nc:Nat} (hN:x.kind < 256∧Au .i64 x.at_∧Au .i64 x.count∧Au .i64 x.to∧x.items.length≤9223372036854775807) (SI:Ag Bn 4 G (.slice na x.items.length nc) x.items) (hX:x.items.length≤900000):Calls Tryz.prog 28 #[.agg #[.slice kca c.kinds.length kcc,.int .i64 c.cap],.agg #[.slice a1 l.length c1],.agg #[.int .u8 ((x.kind:Nat):Int),.int .i64 x.at_,.int .i64 x.count,.int .i64 x.to,.slice na x.items.length nc]] w (Ht w0 G (Jl L (Auy c l x))):=by
 have bS:=S.bound;refine Al (vs:=[_,_,_]) Tryz.func28 rfl (n:=34) rfl rfl<|?_
 refine Bt<|?_
 refine B2 M rfl rfl rfl<|?_;clear M;intro b1 w M
 refine B2 M rfl rfl rfl<|?_;clear M;intro b2 w M
 refine B2 M rfl rfl rfl<|?_;clear M;intro b3 w M
 refine B1 M Az rfl rfl<|?_;clear M;intro b4 w M
 refine wk ?_;refine A4 Ara rfl rfl (Ma (c:=c) (l:=l) M SC S)<|?_;clear M;rintro _ w M rfl
 refine wk ?_;refine Ae rfl ?_ ?_
 ·intro h6b;have h6:=dF (Ab h6b);refine Bt<|?_
  refine Am (fun a F=>Ah (cs:=[.slice none 0 0]) (ps:=[]) Az.k rfl Az (F.evp rfl) rfl) rfl<|?_
  refine C0 rfl<|?_
  intro a F;refine Be F M Az 0 ?_;clear F M a;intro w a M F;replace M:=z_M M;revert a;refine wk ?_;refine fun a F=>Bs F M (k:=0) rfl rfl Az rfl rfl rfl rfl ?_
  exact Fk (appE_no (by omega)) (Gle.refl _) (M.weaken (cN (.cons _ (cN (.cons _ (sR _))))))
 intro h7b;have h7:=dT (Ac h7b);refine wk ?_;refine A4 Acn rfl rfl (Ha (x:=x) M hN SI)<|?_;clear M;rintro _ w M rfl
 refine wk ?_;refine Ae rfl ?_ ?_
 ·intro h8b;have h8:=dF (Ab h8b);refine Bt<|?_
  refine Am (fun a F=>Ah (cs:=[.slice none 0 0]) (ps:=[]) Az.k rfl Az (F.evp rfl) rfl) rfl<|?_
  refine C0 rfl<|?_
  intro a F;refine Be F M Az 0 ?_;clear F M a;intro w a M F;replace M:=z_M M;revert a;refine wk ?_;refine fun a F=>Bs F M (k:=0) rfl rfl Az rfl rfl rfl rfl ?_
  exact Fk (((Zr (by omega)).trans (Aiy (by omega)))) (Gle.refl _) (M.weaken (cN (.cons _ (cN (.cons _ (sR _))))))
 intro h9b;have h9:=dT (Ac h9b);refine wk ?_;have hkk:=(I0.1 (show Dr x=0 by omega)).1;intro a F;refine Og [(.free,1),(.pure,2),(.pure,5),(.pure,6),(.pure,7),(.keep,0),(.free,3),(.free,4),(.keep,8),(.free,9),(.free,10),(.chg,11),(.free,12)] [11] (Keep G [.blk b3 [.int .u8 ((x.kind:Nat):Int),.int .i64 x.at_,.int .i64 x.count,.int .i64 x.to,.slice na x.items.length nc] 65,.blk b2 [.slice a1 l.length c1] 54,.blk b1 [.slice kca c.kinds.length kcc,.int .i64 c.cap] 51]) rfl (by kernel_rfl) (fun c a d v w h=>by cases d <;> exact h) (Ax (M.drew _)) ?_;replace M:=M.drew (w.drawn+1);revert a;refine wk ?_;refine k_k rfl<|A4 Pe rfl rfl (Fu M)<|?_;clear M;rintro _ w M rfl
 refine Ao<|?_
 refine eQ (Ax M)<|k_f (fun a F w _=>Fp (j:=x.kind) Fz.k Cm rfl (F.ev rfl) (F.ev rfl) rfl (by omega) (us:=[.string (str (Cg x.kind)),.bool (decide (uAt x.kind)),.bool (decide (uCo x.kind)),.bool (decide (uTo x.kind)),.bool (decide (uIt x.kind)),.func (.func (Ft x.kind)) #[] #[]]) (H9 (by omega))) rfl<|k_f (fun a F w _=>Aek Cm.k rfl tok67 rfl (F.ev rfl) rfl) rfl<|k_k rfl<|fun a F=>?_
 refine Aju F Aqz rfl rfl rfl (Alo M SC S (by omega) hN SI hX (by omega)) ?_;clear F M a;rintro _ Gq10 _ w a hGq10 M ⟨aoq10,csq10,Loq10,rfl,rfl,Eoq10⟩ F;replace SC:=SC.mono Ak hGq10;replace S:=S.mono Aa hGq10;replace SI:=SI.mono Ai hGq10;have M:=M.perm (Bj (Cw aoq10 (F9 c l x).1.length csq10::Loq10) [.blk b4 [.slice none 0 0] 54,.blk b3 [.int .u8 ((x.kind:Nat):Int),.int .i64 x.at_,.int .i64 x.count,.int .i64 x.to,.slice na x.items.length nc] 65,.blk b2 [.slice a1 l.length c1] 54,.blk b1 [.slice kca c.kinds.length kcc,.int .i64 c.cap] 51] L);replace M:=z_M M;revert a;refine Ao<|?_
 refine eK (C':=Keep Gq10 [.blk b3 [.int .u8 ((x.kind:Nat):Int),.int .i64 x.at_,.int .i64 x.count,.int .i64 x.to,.slice na x.items.length nc] 65,.blk b2 [.slice a1 l.length c1] 54,.blk b1 [.slice kca c.kinds.length kcc,.int .i64 c.cap] 51]) (Ax M) (fun w h=>h.mono hGq10 (by simp))<|?_
 refine wk ?_;refine k_c rfl<|fun a F=>?_
 refine Be F M Az 0 ?_;clear F M a;intro w a M F;change Mem w0 Gq10 (.blk b4 [.slice aoq10 ((F9 c l x).1.length) ((F9 c l x).1.length)] 54::_::_::_::((Cw aoq10 (F9 c l x).1.length csq10::Loq10)++L)) _ at M;revert a;refine Ao<|?_
 refine fun a F=>⟨Keep Gq10 [.blk b4 [.slice aoq10 ((F9 c l x).1.length) ((F9 c l x).1.length)] 54,.blk b3 [.int .u8 ((x.kind:Nat):Int),.int .i64 x.at_,.int .i64 x.count,.int .i64 x.to,.slice na x.items.length nc] 65,.blk b2 [.slice a1 l.length c1] 54,.blk b1 [.slice kca c.kinds.length kcc,.int .i64 c.cap] 51],M.keep (Gle.refl _) (by simp),?_⟩;revert a;refine wk ?_;refine fun a F=>Bs F M (k:=0) rfl rfl Az rfl rfl rfl rfl ?_;rw [Zr (by omega)]
 exact ⟨_,_,hGq10,M.weaken dS4,aoq10,csq10,Loq10,rfl,rfl,Eoq10⟩
set_option maxHeartbeats 1600000
theorem Aar {w0 w:World} {G:Aq} {L:List Res} (M:Mem w0 G L w) {c:RulesD} {kca:Option Addr} {kcc:Nat} (SC:Ag Cb 9 G (.slice kca c.kinds.length kcc) c.kinds) {a1:Option Addr} {c1:Nat} {l:List EntD} (S:Ag Bg 6 G (.slice a1 l.length c1) l) (hck:Bb c l=0) {x:NotD} {na:Option Addr} {nc:Nat} (hN:x.kind < 256∧Au .i64 x.at_∧Au .i64 x.count∧Au .i64 x.to∧x.items.length≤9223372036854775807) (SI:Ag Bn 4 G (.slice na x.items.length nc) x.items) (hX:x.items.length≤900000):Calls Tryz.prog 27 #[.agg #[.slice kca c.kinds.length kcc,.int .i64 c.cap],.slice a1 l.length c1,.agg #[.int .u8 ((x.kind:Nat):Int),.int .i64 x.at_,.int .i64 x.count,.int .i64 x.to,.slice na x.items.length nc]] w (Ret w0 G L fun G' v=>∃ (a:Option Addr) (cc:Nat),v=.tuple #[.slice a (F9 c l x).1.length cc,.int .i64 (F9 c l x).2]∧Ag Bg 6 G' (.slice a (F9 c l x).1.length cc) (F9 c l x).1):=by
 have hvc:=(Dq hck).1;have hl2:=(Dq hck).2.1;have bS:=S.bound;have hnn:=note_nn x;refine Al (vs:=[_,_,_]) Tryz.func27 rfl (n:=65) rfl rfl<|?_
 refine Bt<|?_
 refine B2 M rfl rfl rfl<|?_;clear M;intro b1 w M
 refine B2 M rfl rfl rfl<|?_;clear M;intro b2 w M
 refine wk ?_;refine A4 ent38 rfl rfl (Ov (x:=x) M hN SI)<|?_;clear M;rintro _ w M rfl
 refine wk ?_;refine qD rfl ?_ ?_
 ·intro h3;refine wk ?_;refine A4 ent38 rfl rfl (Ov (x:=x) M hN SI)<|?_;clear M;rintro _ w M rfl
  refine wk ?_;refine C8 rfl rfl rfl<|?_
  exact ⟨_,(Gle.refl _),M.weaken dS2,none,0,by rw [Aiy (by omega)];rfl,by rw [Aiy (by omega)];exact Ag.nil⟩
 intro h4;refine wk ?_;have hkk:=(I0.1 (show Dr x=0 by omega)).1;refine wk ?_;refine qD rfl ?_ ?_
 ·intro h5;refine wk ?_;refine D4 ent70 rfl rfl (Aca (c:=c) (l:=l) (z:=x.at_) (xs:=x.items) M SC hvc S SI (by omega) (by omega))<|?_;clear M;rintro _ Gq6 w hGq6 M ⟨aq6,cq6,rfl,Sq6⟩
  replace SC:=SC.mono Ak hGq6;replace S:=S.mono Aa hGq6;replace SI:=SI.mono Ai hGq6;refine wk ?_;refine C8 rfl rfl rfl<|?_
  exact ⟨_,hGq6,M.weaken dS2,aq6,cq6,by rw [Adg (by omega) (by omega)],by rw [Adg (by omega) (by omega)];exact Sq6⟩
 intro h7;refine wk ?_;refine qD rfl ?_ ?_
 ·intro h8;refine wk ?_;refine D4 ent71 rfl rfl (Aap (l:=l) (z:=x.at_) (n:=x.count) M S (by omega))<|?_;clear M;rintro _ Gq9 w hGq9 M ⟨aq9,cq9,rfl,Sq9⟩
  replace SC:=SC.mono Ak hGq9;replace S:=S.mono Aa hGq9;replace SI:=SI.mono Ai hGq9;refine wk ?_;refine C8 rfl rfl rfl<|?_
  exact ⟨_,hGq9,M.weaken dS2,aq9,cq9,by rw [Xm (by omega) (by omega)],by rw [Xm (by omega) (by omega)];exact Sq9⟩
 intro h10;refine wk ?_;refine qD rfl ?_ ?_
 ·intro h11;refine wk ?_;refine D4 ent72 rfl rfl (Apm (l:=l) (z:=x.at_) (n:=x.count) (b:=x.to) M S (by omega))<|?_;clear M;rintro _ Gq12 w hGq12 M ⟨aq12,cq12,rfl,Sq12⟩
  replace SC:=SC.mono Ak hGq12;replace S:=S.mono Aa hGq12;replace SI:=SI.mono Ai hGq12;refine wk ?_;refine C8 rfl rfl rfl<|?_
  exact ⟨_,hGq12,M.weaken dS2,aq12,cq12,by rw [Adf (by omega) (by omega)],by rw [Adf (by omega) (by omega)];exact Sq12⟩
 intro h13;refine wk ?_;refine qD rfl ?_ ?_
 ·intro h14;refine wk ?_;refine D4 ent73 rfl rfl (Aup (c:=c) (l:=l) (z:=x.at_) (xs:=x.items) M SC hvc S SI (by omega))<|?_;clear M;rintro _ Gq15 w hGq15 M ⟨aq15,cq15,rfl,Sq15⟩
  replace SC:=SC.mono Ak hGq15;replace S:=S.mono Aa hGq15;replace SI:=SI.mono Ai hGq15;refine wk ?_;refine C8 rfl rfl rfl<|?_
  exact ⟨_,hGq15,M.weaken dS2,aq15,cq15,by rw [Aja (by omega) (by omega)],by rw [Aja (by omega) (by omega)];exact Sq15⟩
 intro h16;refine wk ?_;refine D4 ent74 rfl rfl (Aon (c:=c) (xs:=x.items) M SC hvc SI (by omega))<|?_;clear M;rintro _ Gq17 w hGq17 M ⟨aq17,cq17,rfl,Sq17⟩
 replace SC:=SC.mono Ak hGq17;replace S:=S.mono Aa hGq17;replace SI:=SI.mono Ai hGq17;refine wk ?_;refine C8 rfl rfl rfl<|?_
 exact ⟨_,hGq17,M.weaken dS2,aq17,cq17,by rw [Aiz (by omega) (by omega)],by rw [Aiz (by omega) (by omega)];exact Sq17⟩
set_option maxHeartbeats 1600000
theorem Aff (M:Mem w0 G L w) {c:RulesD} {kca:Option Addr} {kcc:Nat} (SC:Ag Cb 9 G (.slice kca c.kinds.length kcc) c.kinds) {a1:Option Addr} {c1 i:Nat} {l:List EntD} {ns:List NotD} (S:Ag Bg 6 G (.slice a1 (Ca c l ns i).1.length c1) (Ca c l ns i).1) (hck:Bb c l=0) (hR:(Ca c l ns i).2=0) {x:NotD} {na:Option Addr} {nc:Nat} (hN:x.kind < 256∧Au .i64 x.at_∧Au .i64 x.count∧Au .i64 x.to∧x.items.length≤9223372036854775807) (SI:Ag Bn 4 G (.slice na x.items.length nc) x.items) (hx:ns[i]?=some x) (hNX:∀ x∈ns,x.items.length≤900000) :
  Calls Tryz.prog 28 #[.agg #[.slice kca c.kinds.length kcc,.int .i64 c.cap],.agg #[.slice a1 (Ca c l ns i).1.length c1],.agg #[.int .u8 ((x.kind:Nat):Int),.int .i64 x.at_,.int .i64 x.count,.int .i64 x.to,.slice na x.items.length nc]] w (Ht w0 G (Jl L (Ca c l ns (i+1)))):=by
 rw [H6 hR hx,← Zr (Pz hck hR)]
 exact Abj M SC S hN SI (hNX _ (List.mem_of_getElem? hx))
theorem Abu (M:Mem w0 G L w) {c:RulesD} {kca:Option Addr} {kcc:Nat} (SC:Ag Cb 9 G (.slice kca c.kinds.length kcc) c.kinds) {a1:Option Addr} {c1:Nat} {l:List EntD} (S:Ag Bg 6 G (.slice a1 l.length c1) l) (hck:Bb c l=0) {ns:List NotD}:Calls Tryz.prog 69 #[.agg #[.slice kca c.kinds.length kcc,.int .i64 c.cap],.agg #[.slice a1 l.length c1],.int .i64 0,.int .i64 0] w (Ht w0 G (Jl L (Ca c l ns 0))):=by
 rw [Aof,← rem_00]
 exact O5 M SC S hck
theorem Wl (M:Mem w0 G L w) {c:RulesD} {kca:Option Addr} {kcc:Nat} (SC:Ag Cb 9 G (.slice kca c.kinds.length kcc) c.kinds) {a1:Option Addr} {c1:Nat} {l:List EntD} (S:Ag Bg 6 G (.slice a1 l.length c1) l)  {an:Option Addr} {cn:Nat} {ns:List NotD} (SN:Ag E6 5 G (.slice an ns.length cn) ns) (hNX:∀ x∈ns,x.items.length≤900000):Calls Tryz.prog 25 #[.agg #[.slice kca c.kinds.length kcc,.int .i64 c.cap],.agg #[.slice a1 l.length c1],.slice an ns.length cn] w (Ht w0 G (fun G' L' v=>∃ (a:Option Addr) (cs:List Value) (Ls:List Res),v=.tuple #[.agg #[.slice a (Qu c l ns).1.length (Qu c l ns).1.length],.int .i64 (((Qu c l ns).2.1:Nat):Int),.int .i64 (Qu c l ns).2.2]∧L' = (Cw a (Qu c l ns).1.length cs::(Ls++L))∧Els (M8 Ls) 6 G' cs (Qu c l ns).1)):=by
 have bS:=S.bound;have bN:=SN.bound;refine Al (vs:=[_,_,_]) Tryz.func25 rfl (n:=53) rfl rfl<|?_
 refine Bt<|?_
 refine B2 M rfl rfl rfl<|?_;clear M;intro b1 w M
 refine B2 M rfl rfl rfl<|?_;clear M;intro b2 w M
 refine B1 M Az rfl rfl<|?_;clear M;intro b3 w M
 refine wk ?_;refine A4 Ara rfl rfl (Ma (c:=c) (l:=l) M SC S)<|?_;clear M;rintro _ w M rfl
 refine wk ?_;refine Ae rfl ?_ ?_
 ·intro h5b;have h5:=dF (Ab h5b);refine Bt<|?_
  refine Am (fun a F=>Ah (cs:=[.slice none 0 0]) (ps:=[]) Az.k rfl Az (F.evp rfl) rfl) rfl<|?_
  refine C0 rfl<|?_
  intro a F;refine Be F M Az 0 ?_;clear F M a;intro w a M F;replace M:=z_M M;revert a;refine wk ?_;refine fun a F=>Sb F M (k:=0) rfl rfl Az rfl rfl rfl rfl rfl ?_;rw [allE_no (by omega)]
  exact ⟨_,_,(Gle.refl _),(M.weaken (cN (.cons _ (cN (sR _))))).nilrow 69 6,none,[],[],rfl,rfl,Els.nil⟩
 intro h6b;have h6:=dT (Ac h6b);refine wk ?_;have hck:Bb c l=0:=by omega
 refine wk ?_;refine qD rfl ?_ ?_
 ·intro h7;refine Bt<|?_
  refine Am (fun a F=>Ah (cs:=[.slice none 0 0]) (ps:=[]) Az.k rfl Az (F.evp rfl) rfl) rfl<|fun a F=>?_
  refine Be F M Az 0 ?_;clear F M a;intro w a M F;replace M:=z_M M;revert a;refine wk ?_;refine fun a F=>Sb F M (k:=0) rfl rfl Az rfl rfl rfl rfl rfl ?_;rw [(M6 (by omega)).trans (all_3 (by omega))]
  exact ⟨_,_,(Gle.refl _),(M.weaken (cN (.cons _ (cN (sR _))))).nilrow 69 6,none,[],[],rfl,rfl,Els.nil⟩
 intro h8;refine wk ?_;intro a F;refine Ch F ent69 rfl rfl (Abu (ns:=ns) M SC S hck) ?_;clear F M a;rintro _ Gq9 _ w a hGq9 M ⟨aoq9,csq9,Loq9,rfl,rfl,Eoq9⟩ F;replace SC:=SC.mono Ak hGq9;replace S:=S.mono Aa hGq9;replace SN:=SN.mono Aj hGq9;have M:=M.perm (Bj (Cw aoq9 (Ca c l ns 0).1.length csq9::Loq9) [.blk b3 [.slice none 0 0] 54,.blk b2 [.slice a1 l.length c1] 54,.blk b1 [.slice kca c.kinds.length kcc,.int .i64 c.cap] 51] L);replace M:=z_M M;revert a;refine wk ?_;intro a F;refine Be F M Az 0 ?_;clear F M a;intro w a M F;replace M:=z_M M;revert a;refine wk ?_;refine fun a F=>Ba (fun m a' w'=>∃ (i:Nat),∃ (ao:Option Addr),∃ (cso:List Value),∃ (Lo:List Res),∃ (z:Int),m=ns.length - i∧∃ G10,Gle Gq9 G10∧Fits 53 a' [(2,.slice an ns.length cn),(3,.pointer (some ⟨b1,0,none⟩)),(4,.pointer (some ⟨b2,0,none⟩)),(6,.pointer (some ⟨b3,0,none⟩)),(29,.slice an ns.length cn),(30,.int .i64 ((ns.length:Nat):Int)),(31,.int .i64 ((i:Nat):Int)),(8,.int .i64 z)]∧Mem w0 G10 (.blk b3 [.slice ao ((Ca c l ns i).1.length) ((Ca c l ns i).1.length)] 54::.blk b2 [.slice a1 l.length c1] 54::.blk b1 [.slice kca c.kinds.length kcc,.int .i64 c.cap] 51::((Cw ao (Ca c l ns i).1.length cso::Lo)++L)) w'∧(i≤ns.length)∧((Ca c l ns i).2=0)∧(Els (M8 Lo) 6 G10 cso (Ca c l ns i).1)∧(z=0)) _ ⟨0,aoq9,csq9,Loq9,_,rfl,Gq9,Gle.refl _,F.to ⟨rfl,rfl,rfl,rfl,rfl,rfl,rfl,rfl,trivial⟩,M,Nat.zero_le _,rfl,Eoq9,rfl⟩ ?_;clear F M;rintro m a w ⟨i,ao,cso,Lo,z,rfl,G10,hG10,F,M,hi,hR,Eo,hz⟩;replace SC:=SC.mono Ak hG10;replace S:=S.mono Aa hG10
 replace SN:=SN.mono Aj hG10;revert a;refine wk ?_;refine qD rfl ?_ ?_
 ·intro h11;refine wk ?_;obtain ⟨Xe12,hXe12⟩:=Ap (xs:=ns) (i:=i) (by omega);obtain ⟨be12,oe12,_,Ie12,_,Ae12,hTe12⟩:=SN.at hXe12;obtain ⟨nae12,nce12,rfl,h1e12,h2e12,h3e12,h4e12,h5e12,SIe12⟩:=hTe12;have hNe12:Xe12.kind < 256∧Au .i64 Xe12.at_∧Au .i64 Xe12.count∧Au .i64 Xe12.to∧Xe12.items.length≤9223372036854775807:=⟨h1e12,h2e12,h3e12,h4e12,h5e12⟩;refine wk ?_;refine B1 M Bd rfl rfl<|?_;clear M;intro b13 w M
  refine Ew rfl<|?_
  intro a F;refine Be F M Bd 0 ?_;clear F M a;intro w a M F;replace M:=z_M M;revert a;refine wk ?_;obtain ⟨Gg,hGg,M,Sg⟩:=Gj (M.perm (Bj [.blk b13 [.int .u8 ((Xe12.kind:Nat):Int),.int .i64 Xe12.at_,.int .i64 Xe12.count,.int .i64 Xe12.to,.slice nae12 Xe12.items.length nce12] 65,.blk b3 [.slice ao ((Ca c l ns i).1.length) ((Ca c l ns i).1.length)] 54,.blk b2 [.slice a1 l.length c1] 54,.blk b1 [.slice kca c.kinds.length kcc,.int .i64 c.cap] 51] (Cw ao (Ca c l ns i).1.length cso::Lo) L)) Eo;replace SC:=SC.mono Ak hGg;replace S:=S.mono Aa hGg;replace SN:=SN.mono Aj hGg;replace Ae12:=Ae12.mono hGg;replace SIe12:=SIe12.mono Ai hGg;replace M:=z_M M;refine wk ?_;intro a F;refine Ch F ent28 rfl rfl (Aff (ns:=ns) M SC Sg hck hR hNe12 SIe12 hXe12 hNX) ?_;clear F M a;rintro _ Gq15 _ w a hGq15 M ⟨aoq15,csq15,Loq15,rfl,rfl,Eoq15⟩ F;replace SC:=SC.mono Ak hGq15;replace S:=S.mono Aa hGq15;replace SN:=SN.mono Aj hGq15;replace Ae12:=Ae12.mono hGq15;replace SIe12:=SIe12.mono Ai hGq15;replace Sg:=Sg.mono Aa hGq15;have M:=M.perm (Bj (Cw aoq15 ((Ca c l ns (i+1))).1.length csq15::Loq15) [.blk b13 [.int .u8 ((Xe12.kind:Nat):Int),.int .i64 Xe12.at_,.int .i64 Xe12.count,.int .i64 Xe12.to,.slice nae12 Xe12.items.length nce12] 65,.blk b3 [.slice ao ((Ca c l ns i).1.length) ((Ca c l ns i).1.length)] 54,.blk b2 [.slice a1 l.length c1] 54,.blk b1 [.slice kca c.kinds.length kcc,.int .i64 c.cap] 51] L);replace M:=z_M M;revert a;refine wk ?_;intro a F;refine Be F M Az 1 ?_;clear F M a;intro w a M F;change Mem w0 Gq15 (.blk b13 [.int .u8 ((Xe12.kind:Nat):Int),.int .i64 Xe12.at_,.int .i64 Xe12.count,.int .i64 Xe12.to,.slice nae12 Xe12.items.length nce12] 65::.blk b3 [.slice aoq15 (((Ca c l ns (i+1))).1.length) (((Ca c l ns (i+1))).1.length)] 54::_::_::((Cw aoq15 ((Ca c l ns (i+1))).1.length csq15::Loq15)++L)) _ at M
  revert a;refine Ew rfl<|Bt<|C0 rfl<|s_ne rfl rfl<|Ao<|F1<|?_
  refine Ae rfl ?_ ?_
  ·intro h16b;have h16:=dF (Ab h16b);refine Bt<|?_
   refine Am (fun a F=>Ah (cs:=[.slice none 0 0]) (ps:=[]) Az.k rfl Az (F.evp rfl) rfl) rfl<|?_
   refine C0 rfl<|C0 rfl<|?_
   intro a F;refine Be F M Az 1 ?_;clear F M a;intro w a M F;change Mem w0 Gq15 (.blk b13 [.int .u8 ((Xe12.kind:Nat):Int),.int .i64 Xe12.at_,.int .i64 Xe12.count,.int .i64 Xe12.to,.slice nae12 Xe12.items.length nce12] 65::.blk b3 [.slice none 0 0] 54::_::_::((Cw aoq15 ((Ca c l ns (i+1))).1.length csq15::Loq15)++L)) _ at M;revert a;refine Ew rfl<|Ew rfl<|E9<|Kd<|Gr<|Gr<|Kd<|Gr<|?_
   refine fun a F=>Sb F M (k:=1) rfl rfl Az rfl rfl rfl rfl rfl ?_;rw [(M6 hck).trans (all_x (by omega) hR (by omega) (by omega))]
   exact ⟨_,_,(((hGq9.trans hG10).trans hGg).trans hGq15),(M.weaken (cN (.cons _ (cN (.cons _ (List.sublist_append_right _ _)))))).nilrow 69 6,none,[],[],rfl,rfl,Els.nil⟩
  intro h17b;have h17:=dT (Ac h17b);refine wk ?_;intro a F
  exact ⟨_,by omega,i+1,aoq15,csq15,Loq15,_,rfl,Gq15,((hG10.trans hGg).trans hGq15),F.to ⟨rfl,rfl,rfl,rfl,rfl,rfl,rfl,rfl,trivial⟩,(M.weaken (cN (cC (.cons_cons _ (cC (sR _)))))),by omega,by omega,Eoq15,by omega⟩
 intro h18;refine wk ?_;intro a F;refine Be F M Az 0 ?_;clear F M a;intro w a M F;replace M:=z_M M;revert a;refine wk ?_;refine fun a F=>Sb F M (k:=0) rfl rfl Az rfl rfl rfl rfl rfl ?_;subst hz;rw [M6 hck,Ava (by omega) hR (by omega)]
 exact ⟨_,_,(hGq9.trans hG10),M.weaken dS3,ao,cso,Lo,rfl,rfl,Eo⟩
set_option maxHeartbeats 1600000
deriving instance DecidableEq for EntD
deriving instance DecidableEq for NotD
theorem ent_ext {x y:EntD} (h1:x.size=y.size) (h2:x.known=y.known) (h3:x.item=y.item):x=y:=by
 cases x;cases y;simp only [EntD.mk.injEq] at *;exact ⟨h3,h1,h2⟩
theorem Zc {x y:EntD} (h1:x.size=y.size) (h2:x.known=y.known):((if x.item=y.item then (1:Int) else 0)=0)↔x≠y:=by
 by_cases h:x.item=y.item
 ·rw [if_pos h];exact ⟨fun h_=>(by cases h_),fun h_=>absurd (ent_ext h1 h2 h) h_⟩
 rw [if_neg h];exact ⟨fun _ h_=>h (congrArg EntD.item h_),fun _=>rfl⟩
theorem Ju {w0 w:World} {G:Aq} {L:List Res} (M:Mem w0 G L w) {a1:Option Addr} {c1:Nat} {xs:List EntD} (S:Ag Bg 6 G (.slice a1 xs.length c1) xs) {a2:Option Addr} {c2:Nat} {ys:List EntD} (T:Ag Bg 6 G (.slice a2 ys.length c2) ys):Calls Tryz.prog 26 #[.slice a1 xs.length c1,.slice a2 ys.length c2] w (Bu w0 G L fun v=>v=.int .i64 (if xs=ys then (1:Int) else 0)):=by
 have bS:=S.bound;have bT:=T.bound;refine Al (vs:=[_,_]) Tryz.func26 rfl (n:=55) rfl rfl<|?_
 refine wk ?_;refine Ae rfl ?_ ?_
 ·intro h1b;have h1:=dF (Ab h1b);have h1c:(decide (((xs.length:Nat):Int)=((ys.length:Nat):Int)))=false:=(Ab h1b);refine wk ?_;refine Ad rfl rfl<|?_
  exact ⟨M,by rw [if_neg (fun h_=>absurd (congrArg List.length h_) (by omega))]⟩
 intro h2b;have h2:=dT (Ac h2b);have h2c:(decide (((xs.length:Nat):Int)=((ys.length:Nat):Int)))=true:=(Ac h2b);refine wk ?_;refine fun a F=>Ba (fun m a' w'=>∃ (i:Nat),m=xs.length - i∧Fits 55 a' [(0,.slice a1 xs.length c1),(1,.slice a2 ys.length c2),(5,.int .i64 ((i:Nat):Int))]∧Mem w0 G (L) w'∧(i≤xs.length)∧(∀ m,m < i→xs[m]?=ys[m]?)) _ ⟨0,rfl,F.to ⟨rfl,rfl,rfl,trivial⟩,M,Nat.zero_le _,fun m h=>by omega⟩ ?_;clear F M;rintro m a w ⟨i,rfl,F,M,hi,hA⟩;revert a;refine wk ?_;refine qD rfl ?_ ?_
 ·intro h3;refine wk ?_;obtain ⟨Xi,hXi⟩:=Ap (xs:=xs) (i:=i) (by omega);obtain ⟨Yi,hYi⟩:=Ap (xs:=ys) (i:=i) (by omega);intro a F;refine Jo (fun a' w'=>∃ (bb:Bool),Fits 55 a' [(0,.slice a1 xs.length c1),(1,.slice a2 ys.length c2),(5,.int .i64 ((i:Nat):Int)),(54,.bool bb)]∧Mem w0 G (L) w'∧(bb=true↔Xi≠Yi)) ?_ ?_
  ·skip
   refine D5 [(.free,0),(.free,1),(.free,2),(.free,3),(.pure,4),(.free,5),(.free,6),(.free,7),(.free,8),(.pure,9),(.free,10),(.free,11),(.free,12),(.free,13),(.free,14),(.free,15),(.pure,16),(.free,17),(.free,18),(.free,19),(.free,20),(.pure,21),(.free,22),(.free,23),(.free,24),(.free,25),(.free,26),(.free,27),(.free,28),(.pure,29),(.free,30),(.free,31),(.free,32),(.free,33),(.pure,34),(.keep,35),(.free,36),(.free,37)] [] (Keep G []) rfl (by kernel_rfl) (fun c a d v w h=>by cases d <;> exact h) (Ax (M.drew _)) ?_;replace M:=M.drew (w.drawn+1);revert a;refine wk ?_;obtain ⟨be4,oe4,_,Ie4,_,Ae4,hTe4⟩:=S.at hXi;obtain ⟨c1e4,hcse4,hPe4,hBe4⟩:=hTe4;obtain ⟨mae4,mce4,rfl,hke4,hte4,hxe4,hne4,SMe4⟩:=hPe4;subst hcse4;have hIe4:(Xi.item.key < 18446744073709551616∧Xi.item.typ < 256∧Xi.item.text.length≤9223372036854775807):=⟨hke4,hte4,hxe4⟩;have hQe4:-9223372036854775808≤Xi.size∧Xi.size≤9223372036854775807:=hBe4;refine wk ?_;obtain ⟨be5,oe5,_,Ie5,_,Ae5,hTe5⟩:=T.at hYi;obtain ⟨c1e5,hcse5,hPe5,hBe5⟩:=hTe5;obtain ⟨mae5,mce5,rfl,hke5,hte5,hxe5,hne5,SMe5⟩:=hPe5;subst hcse5;have hIe5:(Yi.item.key < 18446744073709551616∧Yi.item.typ < 256∧Yi.item.text.length≤9223372036854775807):=⟨hke5,hte5,hxe5⟩;have hQe5:-9223372036854775808≤Yi.size∧Yi.size≤9223372036854775807:=hBe5;refine wk ?_
   rcases bE (!(decide (Xi.size=Yi.size))) with h6b | h7b
   ·skip
    have h6:=dF (Ab h6b);have h6c:(decide (Xi.size=Yi.size))=false:=(Ab h6b);refine wk ?_
    generalize ({ w with drawn:=w.drawn+1 }:World)=w at M ⊢
    intro a F
    exact ⟨true,F.to ⟨rfl,rfl,rfl,rfl,trivial⟩,M,by clear F M;first | (simp only [Bool.true_eq_false,true_iff,false_iff,Bool.false_eq_true,decide_eq_true_eq];exact Zc (by omega) (by first | assumption | exact eq_of_beq (by assumption))) | (constructor <;> intro h_;(intro h9_;subst h9_;simp_all);first | rfl | (simp_all;done)) | (constructor;(intro h_ h9_;subst h9_;simp_all);(intro h_;simp_all))⟩
   have h7:=dT (Ac h7b);have h7c:(decide (Xi.size=Yi.size))=true:=(Ac h7b);refine wk ?_;obtain ⟨be8,oe8,_,Ie8,_,Ae8,hTe8⟩:=S.at hXi;obtain ⟨c1e8,hcse8,hPe8,hBe8⟩:=hTe8;obtain ⟨mae8,mce8,rfl,hke8,hte8,hxe8,hne8,SMe8⟩:=hPe8;subst hcse8;have hIe8:(Xi.item.key < 18446744073709551616∧Xi.item.typ < 256∧Xi.item.text.length≤9223372036854775807):=⟨hke8,hte8,hxe8⟩;have hQe8:-9223372036854775808≤Xi.size∧Xi.size≤9223372036854775807:=hBe8;refine wk ?_;obtain ⟨be9,oe9,_,Ie9,_,Ae9,hTe9⟩:=T.at hYi;obtain ⟨c1e9,hcse9,hPe9,hBe9⟩:=hTe9;obtain ⟨mae9,mce9,rfl,hke9,hte9,hxe9,hne9,SMe9⟩:=hPe9;subst hcse9;have hIe9:(Yi.item.key < 18446744073709551616∧Yi.item.typ < 256∧Yi.item.text.length≤9223372036854775807):=⟨hke9,hte9,hxe9⟩;have hQe9:-9223372036854775808≤Yi.size∧Yi.size≤9223372036854775807:=hBe9;refine wk ?_;refine Lf rfl (F4 h7c) (fun a F w _=>run_neb Amq.k (F.ev rfl) (F.ev rfl))<|?_
   refine wk ?_
   rcases bE (!((Xi.known)==(Yi.known))) with h10b | h11b
   ·skip
    have h10:=Ab h10b;have h10c:((Xi.known)==(Yi.known))=false:=(Ab h10b);refine wk ?_
    generalize ({ w with drawn:=w.drawn+1 }:World)=w at M ⊢
    intro a F
    exact ⟨true,F.to ⟨rfl,rfl,rfl,rfl,trivial⟩,M,by clear F M;first | (simp only [Bool.true_eq_false,true_iff,false_iff,Bool.false_eq_true,decide_eq_true_eq];exact Zc (by omega) (by first | assumption | exact eq_of_beq (by assumption))) | (constructor <;> intro h_;(intro h9_;subst h9_;simp_all);first | rfl | (simp_all;done)) | (constructor;(intro h_ h9_;subst h9_;simp_all);(intro h_;simp_all))⟩
   have h11:=Ac h11b;have h11c:((Xi.known)==(Yi.known))=true:=(Ac h11b);refine Lf rfl (F4 h11c) (fun a F w _=>Zv F rfl)<|Lf rfl (F4 h11c) (fun a F w _=>Zv F rfl)<|?_
   obtain ⟨be12,oe12,_,Ie12,_,Ae12,hTe12⟩:=S.at hXi;obtain ⟨c1e12,hcse12,hPe12,hBe12⟩:=hTe12;obtain ⟨mae12,mce12,rfl,hke12,hte12,hxe12,hne12,SMe12⟩:=hPe12;subst hcse12;have hIe12:(Xi.item.key < 18446744073709551616∧Xi.item.typ < 256∧Xi.item.text.length≤9223372036854775807):=⟨hke12,hte12,hxe12⟩;have hQe12:-9223372036854775808≤Xi.size∧Xi.size≤9223372036854775807:=hBe12;refine Lf rfl (F4 h11c) (fun a F w _=>Gf C6.k B9 (F.ev rfl) (F.ev rfl) (by omega) Ie12)<|Lf rfl (F4 h11c) (fun a F w _=>Zw B9.k rfl F rfl)<|k_pg rfl (F4 h11c) (fun a F w M=>Da Bi rfl (F.ev rfl) (cs:=[.int .u64 ((Xi.item.key:Nat):Int),.int .u8 ((Xi.item.typ:Nat):Int),.string (str Xi.item.text),.slice mae12 Xi.item.marks.length mce12]) rfl (M.cellsA Ae12 0 rfl rfl))<|Lf rfl (F4 h11c) (fun a F w _=>Zv F rfl)<|Lf rfl (F4 h11c) (fun a F w _=>Zv F rfl)<|?_
   obtain ⟨be13,oe13,_,Ie13,_,Ae13,hTe13⟩:=T.at hYi;obtain ⟨c1e13,hcse13,hPe13,hBe13⟩:=hTe13;obtain ⟨mae13,mce13,rfl,hke13,hte13,hxe13,hne13,SMe13⟩:=hPe13;subst hcse13;have hIe13:(Yi.item.key < 18446744073709551616∧Yi.item.typ < 256∧Yi.item.text.length≤9223372036854775807):=⟨hke13,hte13,hxe13⟩;have hQe13:-9223372036854775808≤Yi.size∧Yi.size≤9223372036854775807:=hBe13;refine Lf rfl (F4 h11c) (fun a F w _=>Gf C6.k B9 (F.ev rfl) (F.ev rfl) (by omega) Ie13)<|Lf rfl (F4 h11c) (fun a F w _=>Zw B9.k rfl F rfl)<|k_pg rfl (F4 h11c) (fun a F w M=>Da Bi rfl (F.ev rfl) (cs:=[.int .u64 ((Yi.item.key:Nat):Int),.int .u8 ((Yi.item.typ:Nat):Int),.string (str Yi.item.text),.slice mae13 Yi.item.marks.length mce13]) rfl (M.cellsA Ae13 0 rfl rfl))<|?_
   refine fun a F=>Fj F rfl rfl (F4 h11c) ?_;revert a;refine g_t rfl (F4 h11c)<|?_
   refine A4 ent46 rfl rfl (Aem (x:=Xi.item) (y:=Yi.item) M hIe12 SMe12 hIe13 SMe13)<|?_;clear M;rintro _ w M rfl
   refine Ao<|?_
   refine eQ (Ax M)<|?_
   refine wk ?_;intro a F
   exact ⟨(decide ((if Xi.item=Yi.item then (1:Int) else 0)=0)),F.to ⟨rfl,rfl,rfl,rfl,trivial⟩,M,by clear F M;first | (simp only [Bool.true_eq_false,true_iff,false_iff,Bool.false_eq_true,decide_eq_true_eq];exact Zc (by omega) (by first | assumption | exact eq_of_beq (by assumption))) | (constructor <;> intro h_;(intro h9_;subst h9_;simp_all);first | rfl | (simp_all;done)) | (constructor;(intro h_ h9_;subst h9_;simp_all);(intro h_;simp_all))⟩
  clear F M;rintro a w ⟨bb,F,M,hbb⟩;revert a;refine F1<|?_
  refine Ae rfl ?_ ?_
  ·intro h14b;have h14:(bb)=true:=h14b;refine wk ?_;refine Ad rfl rfl<|?_
   exact ⟨M,by rw [if_neg (Wh hXi hYi (hbb.1 (by assumption)))]⟩
  intro h15b;have h15:(bb)=false:=h15b;refine wk ?_;intro a F
  exact ⟨_,by omega,i+1,rfl,F.to ⟨rfl,rfl,rfl,trivial⟩,M,by omega,Aik hA hXi hYi (Classical.byContradiction fun h_=>by have h9_:=hbb.2 h_;simp_all)⟩
 intro h16;refine wk ?_;refine Ad rfl rfl<|?_
 exact ⟨M,by rw [if_pos (Aqw hA (by omega) (by omega))]⟩
end Go.Proofs.YtmmhmcplegpenaaGreatDoor
