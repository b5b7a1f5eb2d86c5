/- The generic core, third part: trees. -/
import Derived.Test.YtmmhmcplegpenaaGreatDoorYB
set_option linter.unusedSimpArgs false
set_option linter.unusedVariables false
namespace Go.Y
open Go Go.RowKit
inductive Tr (β:Type) where
 | mk (kind:Int) (tag key:List UInt8) (as:List β) (text:List UInt8) (kids:List (Tr β))
namespace Tr
variable {β:Type}
def kind:Tr β→Int | .mk k _ _ _ _ _=>k
def tag:Tr β→List UInt8 | .mk _ t _ _ _ _=>t
def key:Tr β→List UInt8 | .mk _ _ k _ _ _=>k
def as:Tr β→List β | .mk _ _ _ l _ _=>l
def text:Tr β→List UInt8 | .mk _ _ _ _ t _=>t
def kids:Tr β→List (Tr β) | .mk _ _ _ _ _ l=>l
mutual
def size:Tr β→Nat
 | .mk _ _ _ _ _ l=>sizes l+1
def sizes:List (Tr β)→Nat
 | []=>0
 | x::l=>size x+sizes l
end
mutual
def depth:Tr β→Nat
 | .mk _ _ _ _ _ l=>depths l+1
def depths:List (Tr β)→Nat
 | []=>0
 | x::l=>max (depth x) (depths l)
end
theorem size_eq (x:Tr β):x.size=sizes x.kids+1:=by cases x;simp only [size,kids]
theorem depth_eq (x:Tr β):x.depth=depths x.kids+1:=by cases x;simp only [depth,kids]
theorem Hy:∀ (l m:List (Tr β)),sizes (l++m)=sizes l+sizes m
 | [],m=>by simp [sizes]
 | x::l,m=>by simp only [List.cons_append,sizes,Hy l m];omega
theorem Jk:∀ (l m:List (Tr β)),depths (l++m)=max (depths l) (depths m)
 | [],m=>by simp [depths]
 | x::l,m=>by simp only [List.cons_append,depths,Jk l m];omega
theorem size_pos (x:Tr β):1≤x.size:=by rw [size_eq];omega
theorem Qn:∀ {l:List (Tr β)} {x:Tr β},x∈l→x.size≤sizes l
 | y::l,x,h=>by
  simp only [sizes]
  rcases List.mem_cons.1 h with rfl | h
  ·omega
  ·have:=Qn h;omega
theorem Wz {x c:Tr β} (h:c∈x.kids):c.size < x.size:=by
 have:=Qn h;rw [size_eq x];omega
theorem ind {p:Tr β→Prop} (h:∀ x,(∀ c∈x.kids,p c)→p x) (x:Tr β):p x:=by
 suffices ∀ n x,size x≤n→p x from this _ x (Nat.le_refl _)
 intro n
 induction n with
 | zero=>intro x hx;have:=size_pos x;omega
 | succ n ih=>intro x hx;exact h x fun c hc=>ih c (by have:=Wz hc;omega)
theorem take_snoc' {α:Type} {xs:List α} {i:Nat} {x:α} (hx:xs[i]?=some x):xs.take (i+1)=xs.take i++[x]:=by
 have hlt:i < xs.length:=by
  rcases Nat.lt_or_ge i xs.length with h | h
  ·exact h
  ·rw [List.getElem?_eq_none h] at hx;cases hx
 rw [List.take_succ_eq_append_getElem hlt];rw [List.getElem?_eq_getElem hlt] at hx;simp only [Option.some.injEq] at hx;rw [hx]
theorem sizes_snoc {l:List (Tr β)} {i:Nat} {x:Tr β} (h:l[i]?=some x):sizes (l.take (i+1))=sizes (l.take i)+x.size:=by
 rw [take_snoc' h,Hy];simp [sizes]
theorem depths_snoc {l:List (Tr β)} {i:Nat} {x:Tr β} (h:l[i]?=some x):depths (l.take (i+1))=max (depths (l.take i)) x.depth:=by
 rw [take_snoc' h,Jk];simp [depths]
theorem sizes_take_le (l:List (Tr β)) (i:Nat):sizes (l.take i)≤sizes l:=by
 conv=>rhs;rw [← List.take_append_drop i l]
 rw [Hy];omega
def Ok (A:Tr β→Prop):Nat→Tr β→Prop
 | 0,_=>False
 | n+1,x=>A x∧∀ c∈x.kids,Ok A n c
theorem Ok.depth {A:Tr β→Prop}:∀ {n:Nat} {x:Tr β},Ok A n x→x.depth≤n
 | 0,_,h=>h.elim
 | n+1,x,h=>by
  rw [depth_eq];have:∀ l:List (Tr β),(∀ c∈l,Ok A n c)→depths l≤n:=by
   intro l
   induction l with
   | nil=>intro _;simp [depths]
   | cons y l ih =>
    intro hl;have h1:=Ok.depth (hl y (by simp));have h2:=ih (fun c hc=>hl c (by simp [hc]));simp only [depths];omega
  have:=this _ h.2
  omega
theorem Ok.mono {A:Tr β→Prop}:∀ {n m:Nat} {x:Tr β},Ok A n x→n≤m→Ok A m x
 | 0,_,_,h,_=>h.elim
 | n+1,0,_,_,h=>by omega
 | n+1,m+1,x,h,hm=>⟨h.1,fun c hc=>Ok.mono (h.2 c hc) (by omega)⟩
end Tr
theorem A8.imp {α:Type} {rd rd':Rd α} {sz:Nat} {G:Av} {v:Value} {xs:List α} (h:∀ cs x,rd G cs x→rd' G cs x) (S:A8 rd sz G v xs):A8 rd' sz G v xs:=by
 obtain ⟨a,c,h1,h2,h3,h4⟩:=S;refine ⟨a,c,h1,h2,h3,?_⟩
 rcases h4 with h4 | ⟨b,o,h5,h6⟩
 ·exact Or.inl h4
 ·refine Or.inr ⟨b,o,h5,fun i x hx=>?_⟩;obtain ⟨cs,h7,h10,h8,h9⟩:=h6 i x hx
  exact ⟨cs,h7,h10,h8,h _ _ h9⟩
section
variable {β:Type} (rb:Rd β) (zb:Nat)
def rdTr:Nat→Rd (Tr β)
 | 0=>fun _ _ _=>False
 | d+1=>fun G cs x=>∃ a1 c1 a2 c2,cs=[.int .u8 x.kind,.string (str x.tag),.string (str x.key),.slice a1 x.as.length c1,.string (str x.text),.slice a2 x.kids.length c2] ∧
   Bh .u8 x.kind∧(x.tag.length≤9223372036854775807∧x.key.length≤9223372036854775807∧x.text.length≤9223372036854775807) ∧
   A8 rb zb G (.slice a1 x.as.length c1) x.as∧A8 (rdTr d) 6 G (.slice a2 x.kids.length c2) x.kids
def rdT:Rd (Tr β):=fun G cs x=>∃ d,rdTr rb zb d G cs x
variable {rb zb}
theorem Ol (hm:Ie rb):∀ d:Nat,Ie (rdTr rb zb d)
 | 0=>fun _ _ _ _ _ h=>h
 | d+1=>fun G G' cs x hg ⟨a1,c1,a2,c2,h1,h2,h3,h4,h5⟩=>⟨a1,c1,a2,c2,h1,h2,h3,h4.mono hm hg,h5.mono (Ol hm d) hg⟩
theorem Xp (hm:Ie rb):Ie (rdT rb zb):=fun G G' cs x hg ⟨d,h⟩=>⟨d,Ol hm d G G' cs x hg h⟩
theorem Gu {G : Av} {cs : List Value} {x : Tr β} (h : rdT rb zb G cs x) : ∃ a1 c1 a2 c2, cs = [.int .u8 x.kind, .string (str x.tag), .string (str x.key), .slice a1 x.as.length c1, .string (str x.text), .slice a2 x.kids.length c2] ∧
      Bh .u8 x.kind∧(x.tag.length≤9223372036854775807∧x.key.length≤9223372036854775807∧x.text.length≤9223372036854775807) ∧
      A8 rb zb G (.slice a1 x.as.length c1) x.as∧A8 (rdT rb zb) 6 G (.slice a2 x.kids.length c2) x.kids:=by
  obtain ⟨d,h⟩:=h
  cases d with
  | zero=>exact h.elim
  | succ d =>
    obtain ⟨a1,c1,a2,c2,h1,h2,h3,h4,h5⟩:=h
    exact ⟨a1,c1,a2,c2,h1,h2,h3,h4,h5.imp fun _ _ h=>⟨d,h⟩⟩
end
section
variable {P:Program} {w0 w:World} {G:Av} {L:List Res} {ops:Array Oper} {Q:Exit→Act→World→Prop} {n:Nat} {a:Act} {e:Env} {d:Nat} {t:TypeId} {p:String} {af:Array Edge} {r:List Oper}
theorem U2 {f:FuncId} {cal:Operand} {args:List Operand} {ats:Array TypeId} {vs caps:List Value} {Φ:Value→Prop}
  (F:Fits n a e) (hE:Ent P f) (hc:ev e cal=some (.func (.func f) #[] caps.toArray)) (hv:evs e args=some vs) (hd:Nat.ble (d+1) n=true) (hs:Calls P f (vs++caps).toArray w (B5 w0 G L Φ))
  (k:∀ v w' a',Mem w0 G L w'→Φ v→Fits n a' ((d,v)::e)→rl P ops Q r a' w') :
  rl P ops Q (⟨some d,.call ⟨.value cal,args.toArray,ats⟩,t,p,af,none⟩::r) a w:=by
 refine Io F hE hc hv hd hs fun x w' hx=>?_
 cases x with
 | returned v=>obtain ⟨h1,h2⟩:=hx;exact ⟨v,rfl,fun a' F'=>k v w' a' h1 h2 F'⟩
 | panicked c=>exact hx.elim
 | outgrown=>exact hx.elim
theorem Vd {C:World→Prop} {r:List (PK × Oper)} {q:PK} {op:Op} {j g:Nat} {want:Bool} (F:Fits n a e) (hj:(ops[j]?).bind (·.dst)=some g) (hb:look e g=some undef) (hd:Nat.ble (d+1) n=true)
  (k:∀ a',Fits n a' ((d,undef)::e)→pk P ops Q C r a' w):pk P ops Q C ((q,⟨some d,op,t,p,af,some (j,want)⟩)::r) a w:=by
 have hy:yielded ops a.tmps j=none:=by simp [yielded,hj,F.slot _ _ hb,undef]
 have hne:Region.wanted ⟨some d,op,t,p,af,some (j,want)⟩ (yielded ops a.tmps)=false:=by simp [Region.wanted,hy]
 cases q with
 | free=>exact ⟨undef,Or.inr ⟨hne,rfl⟩,k _ (F.put hd)⟩
 | pure=>exact ⟨undef,Or.inr ⟨hne,rfl⟩,k _ (F.put hd)⟩
 | keep=>exact ⟨fun h=>(by rw [hne] at h;cases h),fun _=>k _ (F.put hd)⟩
 | chg=>exact ⟨fun h=>(by rw [hne] at h;cases h),fun _=>k _ (F.put hd)⟩
theorem At.of_cells {b:Nat} {cs:List Value} {ty:TypeId} {f:Nat × Nat} (h:G b=some (.cells cs.toArray ty f)):At G b 0 cs:=by
 intro j v hj;unfold E7;rw [h]
 simpa using hj
theorem X5 {fn:Func} (F:Fits n a e) {t u ty1 ty2 k1 k2 b1 b2:Nat} {x y:Value} {R:Ending→World→Prop} (M:Mem w0 G L w) (hk1:L[k1]?=some (.blk b1 [x] ty1)) (hk2:L[k2]?=some (.blk b2 [y] ty2)) (hf:fn.results = #[.cell t ty1,.cell u ty2])
  (h1:(tk P ty1).agg=some false) (h2:(tk P ty2).agg=some false) (hv1:look e t=some (.pointer (some ⟨b1,0,none⟩))) (hv2:look e u=some (.pointer (some ⟨b2,0,none⟩))) (h:R (.returned (.tuple #[x,y])) w):bodyPost P fn R .ret a w:=by
 refine J1 F (v:=.tuple #[x,y]) ?_ h;have l1:(loadVar ty1 ⟨b1,0,none⟩).run P w=.ok x w:=D9 h1 (M.cellL hk1 rfl);have l2:(loadVar ty2 ⟨b2,0,none⟩).run P w=.ok y w:=D9 h2 (M.cellL hk2 rfl)
 simp [results,hf,F.slot _ _ hv1,F.slot _ _ hv2,asAddr,l1,l2]
end
section
variable {P:Program} {w0 w:World} {G:Av} {L:List Res} {ρ:Operand→Value} {dd:Option Tmp} {t:TypeId} {p:String} {af:Array Edge} {g:Option (Nat × Bool)}
end
section
variable {P:Program} {w0 w:World} {G:Av} {L:List Res} {ops:Array Oper} {Q:Exit→Act→World→Prop} {n:Nat} {a:Act} {e:Env} {d:Nat} {t:TypeId} {p:String} {af:Array Edge} {r:List Oper}
theorem Qs {α:Type} {rd:Rd α} {sz:Nat} {s et:TypeId} {i:TI} {x y:Operand} {kl kc:IntKind} {l:Nat} {zl zc:Int} {Z:α} (F:Fits n a e) (M:Mem w0 G L w) (hs:tk P s=.slice et) (ht:TOK P et i) (hsz:i.size=sz) (hpos:0 < sz) (hz:i.zero.cells.size=i.size)
  (hx:ev e x=some (.int kl zl)) (hzl:zl=(l:Int)) (hy:ev e y=some (.int kc zc)) (hzc:zc=(l:Int)) (hb:i.bytes * l≤281474976710656) (h63:l≤9223372036854775807)
  (h1:∀ u∈i.zero.cells.toList,u.oneCell' = true) (hr:rd G i.zero.cells.toList Z) (hd:Nat.ble (d+1) n=true)
  (k:∀ b cs w' a',Mem w0 G (.row (.slice (some ⟨b,0,none⟩) l l) l cs et sz::L) w'→Els rd sz G cs (List.replicate l Z)→Fits n a' ((d,.slice (some ⟨b,0,none⟩) l l)::e)→rl P ops Q r a' w') :
  rl P ops Q (⟨some d,.makeSlice s x y,t,p,af,none⟩::r) a w:=by
 subst hsz;refine A4 F (Li hs ht (F.ev hx) hzl (F.ev hy) hzc (Nat.le_refl _) hb h63) hd fun a' F'=>k _ (List.replicate l i.zero.cells.toList).flatten _ a' ?_ (Els.replicate (by simpa using hz) hr l) F';have hm:(madeCells i.zero.cells (l * i.size))=((List.replicate l i.zero.cells.toList).flatten++[]).toArray:=by
  rw [List.append_nil,← L4 _,hz]
 rw [hm];have hl:(List.replicate l i.zero.cells.toList).flatten.length=l * i.size:=by
  rw [← L4 _,Array.length_toList,size_madeCells,hz]
 have h63':l≤maxLen:=h63;refine M.newrow (spare:=[]) ?_ hl (by rw [List.append_nil];exact hl) (Nat.le_refl _) h63';intro u hu;obtain ⟨q,hq,hu⟩:=List.mem_flatten.1 hu;rw [(List.mem_replicate.1 hq).2] at hu
 exact h1 u hu
end
section
variable {P:Program} {w0 w:World} {G:Av} {L:List Res}
theorem X6 {fn:Func} {n:Nat} {a:Act} {e:Env} (F:Fits n a e) {t ty k b:Nat} {i:TI} {cs:List Value} {R:Ending→World→Prop} (M:Mem w0 G L w) (hk:L[k]?=some (.blk b cs ty)) (hf:fn.results = #[.cell t ty])
  (hty:TOK P ty i) (hag:i.k.agg=some true) (hl:cs.length=i.size) (hv:look e t=some (.pointer (some ⟨b,0,none⟩))) (h:R (.returned (.agg cs.toArray)) w):bodyPost P fn R .ret a w:=by
 refine J1 F (v:=.agg cs.toArray) ?_ h;have h1:(loadVar ty ⟨b,0,none⟩).run P w=.ok (.agg cs.toArray) w:=H0 hty hag hl (M.cellsL hk (by rw [List.drop_zero,← hl,List.take_length]))
 simp [results,hf,F.slot _ _ hv,asAddr,h1]
end
section
variable {P:Program} {ops:Array Oper} {Q:Exit→Act→World→Prop} {C:World→Prop} {ch:List Nat}
end
section
variable {P:Program} {w:World} {ρ:Operand→Value} {dd:Option Tmp} {t:TypeId} {p:String} {af:Array Edge} {g:Option (Nat × Bool)}
end
end Go.Y
namespace Go.Y
open Go Go.RowKit
def EV (n:Nat) (e:Env) (Φ:Act→Prop):Prop:=∀ a,Fits n a e→Φ a
theorem Fits.go {n:Nat} {a:Act} {e:Env} {Φ:Act→Prop} (F:Fits n a e) (h:EV n e Φ):Φ a:=h a F
def evd (n d:Nat) (e:Env) (x:Operand):Option Value:=match Nat.ble (d+1) n with
 | true=>ev e x
 | false=>none
theorem A2 {n d:Nat} {e:Env} {x:Operand} {v:Value} (h:evd n d e x=some v):Nat.ble (d+1) n=true∧ev e x=some v:=by
 unfold evd at h;split at h
 ·rename_i h1;exact ⟨h1,h⟩
 ·cases h
def Lo (fs:List (Nat × Nat × Nat)) (f:Nat):Option Nat:=match fs[f]? with
 | some (o,s,_)=>match Nat.beq s 0 with
  | false=>some o
  | true=>none
 | none=>none
theorem X4 {fs:List (Nat × Nat × Nat)} {f o:Nat} (h:Lo fs f=some o):∃ s t,fs[f]?=some (o,s,t)∧Nat.beq s 0=false:=by
 unfold Lo at h;split at h
 ·rename_i o' s t h1;split at h
  ·rename_i h2;simp only [Option.some.injEq] at h;subst h;exact ⟨s,t,h1,h2⟩
  ·cases h
 ·cases h
def gdv (n d:Nat) (ops:Array Oper) (e:Env) (j:Nat):Option Value:=match Nat.ble (d+1) n with
 | true=>match (ops[j]?).bind (·.dst) with
  | some g=>look e g
  | none=>none
 | false=>none
theorem H9 {n d:Nat} {ops:Array Oper} {e:Env} {j:Nat} {v:Value} (h:gdv n d ops e j=some v):Nat.ble (d+1) n=true∧∃ g,(ops[j]?).bind (·.dst)=some g∧look e g=some v:=by
 unfold gdv at h;split at h
 ·rename_i h1;split at h
  ·rename_i g h2;exact ⟨h1,g,h2,h⟩
  ·cases h
 ·cases h
section
variable {P:Program} {ops:Array Oper} {Q:Exit→Act→World→Prop} {K:Act→World→Prop} {n d:Nat} {w w0 w':World} {e:Env} {G:Av} {L:List Res} {op:Op} {t:TypeId} {p:String} {af:Array Edge} {r:List Oper} {v:Value} {x y z:Operand}
theorem Ai {c c':Code} (h:EV n e fun a=>c.wp P (Exit.then (fun a w=>c'.wp P Q a w) Q) a w):EV n e fun a=>(Code.seq c c').wp P Q a w:=fun a F=>wp_seq (h a F)
theorem Ao (h:EV n e fun a=>Q .normal a w):EV n e fun a=>Code.skip.wp P Q a w:=fun a F=>wp_skip (h a F)
theorem Ar {id:Nat} {c:Code} (h:EV n e fun a=>c.wp P (Exit.inBlock id Q) a w):EV n e fun a=>(Code.block id c).wp P Q a w:=fun a F=>wp_block (h a F)
theorem Br {id:Nat} (h:EV n e fun a=>Q (.exit id) a w):EV n e fun a=>(Code.exit id).wp P Q a w:=fun a F=>wp_exit (h a F)
theorem Al (h:EV n e fun a=>Q .ret a w):EV n e fun a=>Code.ret.wp P Q a w:=fun a F=>wp_ret (h a F)
theorem Aw {id:Nat} {l:List Oper} (h:EV n e fun a=>rl P l.toArray Q l a w):EV n e fun a=>(Code.region id l.toArray false).wp P Q a w:=fun a F=>Wm (h a F)
theorem Au (h:EV n e fun a=>Q .normal a w):EV n e fun a=>rl P ops Q [] a w:=h
theorem Ch (h:EV n e fun a=>K a w):EV n e fun a=>Exit.then K Q .normal a w:=h
theorem Bu {id:Nat} (h:EV n e fun a=>Q (.exit id) a w):EV n e fun a=>Exit.then K Q (.exit id) a w:=h
theorem J2 (h:EV n e fun a=>Q .ret a w):EV n e fun a=>Exit.then K Q .ret a w:=h
theorem e_bn {id:Nat} (h:EV n e fun a=>Q .normal a w):EV n e fun a=>Exit.inBlock id Q .normal a w:=h
theorem C6 {id:Nat} (h:EV n e fun a=>Q .normal a w):EV n e fun a=>Exit.inBlock id Q (.exit id) a w:=fun a F=>q_bh (h a F)
theorem e_be {id j:Nat} (hj:Nat.beq j id=false) (h:EV n e fun a=>Q (.exit j) a w):EV n e fun a=>Exit.inBlock id Q (.exit j) a w:=fun a F=>q_be hj (h a F)
theorem e_br {id:Nat} (h:EV n e fun a=>Q .ret a w):EV n e fun a=>Exit.inBlock id Q .ret a w:=h
theorem Ap {c c':Code} {b:Bool} (hc:ev e x=some (.bool b)) (ht:b=true→EV n e fun a=>c.wp P Q a w) (hf:b=false→EV n e fun a=>c'.wp P Q a w):EV n e fun a=>(Code.cond x c c').wp P Q a w :=
 fun a F=>w_cond F hc (fun h=>ht h a F) (fun h=>hf h a F)
theorem Bz {c c':Code} {b:Bool} (hc:ev e x=some (.bool b)) (hb:b=true) (k:EV n e fun a=>c.wp P Q a w):EV n e fun a=>(Code.cond x c c').wp P Q a w:=fun a F=>Wo F hc hb (k a F)
theorem Cq {c c':Code} {b:Bool} (hc:ev e x=some (.bool b)) (hb:b=false) (k:EV n e fun a=>c'.wp P Q a w):EV n e fun a=>(Code.cond x c c').wp P Q a w:=fun a F=>Wp F hc hb (k a F)
theorem Az {f:FuncId} {fn:Func} {c:Code} {vs:List Value} {R:Ending→World→Prop} (hf:P.funcs[f]?=some fn) (hb:fn.body=some c) (hn:fn.ntmps=n) (hs:Nat.ble vs.length n=true)
  (h:EV n (Lu 0 vs) fun a=>c.wp P (bodyPost P fn R) a w):Calls P f vs.toArray w R:=R0 hf hb hn hs h
section
variable {fn:Func} {R:Ending→World→Prop} {u s:Nat} {v1 v2:Value}
theorem Ak {t:Nat} (hf:fn.results = #[.tmp t]) (hv:look e t=some v) (h:R (.returned v) w):EV n e fun a=>bodyPost P fn R .ret a w:=fun _ F=>fin1 F hf hv h
theorem D5 {t:Nat} (hf:fn.results = #[.tmp t,.tmp u]) (hv:look e t=some v) (hx:look e u=some v1) (h:R (.returned (.tuple #[v,v1])) w):EV n e fun a=>bodyPost P fn R .ret a w:=fun _ F=>fin2 F hf hv hx h
theorem Ld {t:Nat} (hf:fn.results = #[.tmp t,.tmp u,.tmp s]) (hv:look e t=some v) (hx:look e u=some v1) (hy:look e s=some v2) (h:R (.returned (.tuple #[v,v1,v2])) w):EV n e fun a=>bodyPost P fn R .ret a w:=fun _ F=>fin3 F hf hv hx hy h
end
theorem Aq (hr:∀ a,Fits n a e→(execOp a.eval ⟨some d,op,t,p,af,none⟩).run P w=.ok (.value v) w') (hd:Nat.ble (d+1) n=true)
  (k:EV n ((d,v)::e) fun a=>rl P ops Q r a w'):EV n e fun a=>rl P ops Q (⟨some d,op,t,p,af,none⟩::r) a w:=fun a F=>A4 F (hr a F) hd k
theorem g_t {j:Nat} {want b:Bool} (h:gdv n d ops e j=some (.bool b)) (hw:b=want) (k:EV n e fun a=>rl P ops Q (⟨some d,op,t,p,af,none⟩::r) a w):EV n e fun a=>rl P ops Q (⟨some d,op,t,p,af,some (j,want)⟩::r) a w:=by
 obtain ⟨hd,g,h1,h2⟩:=H9 h
 exact fun a F=>Js F h1 h2 hd hw (k a F)
theorem g_f {j:Nat} {want b:Bool} (h:gdv n d ops e j=some (.bool b)) (hw:b = !want) (k:EV n ((d,undef)::e) fun a=>rl P ops Q r a w):EV n e fun a=>rl P ops Q (⟨some d,op,t,p,af,some (j,want)⟩::r) a w:=by
 obtain ⟨hd,g,h1,h2⟩:=H9 h
 exact fun a F=>Mq F h1 h2 hd hw k
theorem g_u {j:Nat} {want:Bool} (h:gdv n d ops e j=some undef) (k:EV n ((d,undef)::e) fun a=>rl P ops Q r a w):EV n e fun a=>rl P ops Q (⟨some d,op,t,p,af,some (j,want)⟩::r) a w:=by
 obtain ⟨hd,g,h1,h2⟩:=H9 h
 exact fun a F=>Sr F h1 h2 hd k
section
variable {a:Act} {dd:Option Tmp} {gg:Option (Nat × Bool)} {ty yt:TypeId} {k:IntKind} {i j:Int}
theorem J6 (F:Fits n a e) (h:ev e x=some v):(execOp a.eval ⟨dd,.move x,t,p,af,gg⟩).run P w=.ok (.value v) w:=Dp (F.ev h)
theorem x_as (F:Fits n a e) (h:ev e x=some v):(execOp a.eval ⟨dd,.assign x,t,p,af,gg⟩).run P w=.ok (.value v) w:=Ft (F.ev h)
theorem Kv {s f b o off:Nat} {fs:List (Nat × Nat × Nat)} (hs:tk P s=.struct fs) (hf:Lo fs f=some off) (F:Fits n a e) (h:ev e x=some (.pointer (some ⟨b,o,none⟩))) :
  (execOp a.eval ⟨dd,.fieldAddr s x f,t,p,af,gg⟩).run P w=.ok (.value (.pointer (some ⟨b,o+off,none⟩))) w:=by
 obtain ⟨s',t',h1,h2⟩:=X4 hf
 exact Nt hs h1 h2 (F.ev h)
theorem L8 {b:Bool} (F:Fits n a e) (hc:ev e x=some (.bool b)) (hb:b=true) (h:ev e y=some v):(execOp a.eval ⟨dd,.pick x y z,t,p,af,gg⟩).run P w=.ok (.value v) w:=Jo (F.ev hc) hb (F.ev h)
theorem Ih {b:Bool} (F:Fits n a e) (hc:ev e x=some (.bool b)) (hb:b=false) (h:ev e z=some v):(execOp a.eval ⟨dd,.pick x y z,t,p,af,gg⟩).run P w=.ok (.value v) w:=Jp (F.ev hc) hb (F.ev h)
end
theorem Aa (h:evd n d e x=some v) (k:EV n ((d,v)::e) fun a=>rl P ops Q r a w):EV n e fun a=>rl P ops Q (⟨some d,.move x,t,p,af,none⟩::r) a w:=fun _ F=>A4 F (Dp (F.ev (A2 h).2)) (A2 h).1 k
theorem Ab (h:evd n d e x=some v) (k:EV n ((d,v)::e) fun a=>rl P ops Q r a w):EV n e fun a=>rl P ops Q (⟨some d,.assign x,t,p,af,none⟩::r) a w:=fun _ F=>A4 F (Ft (F.ev (A2 h).2)) (A2 h).1 k
theorem Fj {a:Addr} (h:evd n d e x=some (.pointer (some a))) (k:EV n ((d,.pointer (some a))::e) fun a=>rl P ops Q r a w):EV n e fun a=>rl P ops Q (⟨some d,.nilCheck x,t,p,af,none⟩::r) a w:=fun _ F=>A4 F (C3 (F.ev (A2 h).2)) (A2 h).1 k
theorem A9 {s f b o off:Nat} {fs:List (Nat × Nat × Nat)} (hs:tk P s=.struct fs) (hf:Lo fs f=some off) (h:evd n d e x=some (.pointer (some ⟨b,o,none⟩))) (k:EV n ((d,.pointer (some ⟨b,o+off,none⟩))::e) fun a=>rl P ops Q r a w) :
  EV n e fun a=>rl P ops Q (⟨some d,.fieldAddr s x f,t,p,af,none⟩::r) a w:=fun _ F=>A4 F (Kv hs hf F (A2 h).2) (A2 h).1 k
theorem Bl {et:TypeId} {i:TI} {bt b o:Nat} {cs:List Value} (ht:TOK P et i) (M:Mem w0 G L w) (q:Nat) (ha:i.k.agg=some false) (h:evd n d e x=some (.pointer (some ⟨b,o,none⟩))) (hk:L[q]?=some (.blk b cs bt)) (hv:cs[o]?=some v)
  (k:EV n ((d,v)::e) fun a=>rl P ops Q r a w):EV n e fun a=>rl P ops Q (⟨some d,.load et x,t,p,af,none⟩::r) a w:=fun _ F=>A4 F (Bk (agf ht ha) (F.ev (A2 h).2) (M.cellL hk hv)) (A2 h).1 k
theorem Dm {et:TypeId} {i:TI} {b o z:Nat} {cs:List Value} (ht:TOK P et i) (M:Mem w0 G L w) (hA:At G b o cs) (q:Nat) (ha:i.k.agg=some false) (h:evd n d e x=some (.pointer (some ⟨b,z,none⟩))) (hz:z=o+q) (hv:cs[q]?=some v)
  (k:EV n ((d,v)::e) fun a=>rl P ops Q r a w):EV n e fun a=>rl P ops Q (⟨some d,.load et x,t,p,af,none⟩::r) a w:=fun _ F=>A4 F (Bk (agf ht ha) (F.ev (A2 h).2) (M.cellA hA q hz hv)) (A2 h).1 k
theorem s_le {et:TypeId} {i:TI} {b o z:Nat} {cs:List Value} (ht:TOK P et i) (hA:∀ (q:Nat) (v:Value),cs[q]?=some v→w.cell? ⟨b,o+q,none⟩=some v) (q:Nat) (ha:i.k.agg=some false) (h:evd n d e x=some (.pointer (some ⟨b,z,none⟩))) (hz:z=o+q) (hv:cs[q]?=some v)
  (k:EV n ((d,v)::e) fun a=>rl P ops Q r a w):EV n e fun a=>rl P ops Q (⟨some d,.load et x,t,p,af,none⟩::r) a w:=fun _ F=>A4 F (Bk (agf ht ha) (F.ev (A2 h).2) (Rz hA q hz hv)) (A2 h).1 k
theorem A7 {b:Bool} (hc:ev e x=some (.bool b)) (hb:b=true) (h:evd n d e y=some v) (k:EV n ((d,v)::e) fun a=>rl P ops Q r a w):EV n e fun a=>rl P ops Q (⟨some d,.pick x y z,t,p,af,none⟩::r) a w:=fun _ F=>A4 F (Jo (F.ev hc) hb (F.ev (A2 h).2)) (A2 h).1 k
theorem A1 {b:Bool} (hc:ev e x=some (.bool b)) (hb:b=false) (h:evd n d e z=some v) (k:EV n ((d,v)::e) fun a=>rl P ops Q r a w):EV n e fun a=>rl P ops Q (⟨some d,.pick x y z,t,p,af,none⟩::r) a w:=fun _ F=>A4 F (Jp (F.ev hc) hb (F.ev (A2 h).2)) (A2 h).1 k
theorem Cu {ty:TypeId} {b:Bool} (h:evd n d e x=some (.bool b)) (k:EV n ((d,.bool (!b))::e) fun a=>rl P ops Q r a w):EV n e fun a=>rl P ops Q (⟨some d,.unOp .not ty x,t,p,af,none⟩::r) a w:=fun _ F=>A4 F (Hb (F.ev (A2 h).2)) (A2 h).1 k
theorem Cd {i:Nat} {vs:Array Value} (h:evd n d e x=some (.tuple vs)) (hi:vs.toList[i]?=some v) (k:EV n ((d,v)::e) fun a=>rl P ops Q r a w):EV n e fun a=>rl P ops Q (⟨some d,.extract x i,t,p,af,none⟩::r) a w:=fun _ F=>A4 F (Ez (F.ev (A2 h).2) (by rw [← Array.getElem?_toList];exact hi)) (A2 h).1 k
theorem Cf {s et:TypeId} {ad:Option Addr} {m c:Nat} (hs:tk P s=.slice et) (h:evd n d e x=some (.slice ad m c)) (k:EV n ((d,.int .i64 (m:Int))::e) fun a=>rl P ops Q r a w) :
  EV n e fun a=>rl P ops Q (⟨some d,.call ⟨.builtin .len,#[x],#[s]⟩,t,p,af,none⟩::r) a w:=fun _ F=>A4 F (Ec hs (F.ev (A2 h).2)) (A2 h).1 k
section
variable {ty yt:TypeId} {kd:IntKind} {i j:Int}
theorem C5 (hx:ev e x=some (.int kd i)) (hy:evd n d e y=some (.int kd j)) (k:EV n ((d,.bool (decide (j < i)))::e) fun a=>rl P ops Q r a w):EV n e fun a=>rl P ops Q (⟨some d,.binOp .gtr ty x y yt,t,p,af,none⟩::r) a w:=fun _ F=>A4 F (Pm (F.ev hx) (F.ev (A2 hy).2)) (A2 hy).1 k
theorem Co (hx:ev e x=some (.int kd i)) (hy:evd n d e y=some (.int kd j)) (k:EV n ((d,.bool (decide (i < j)))::e) fun a=>rl P ops Q r a w):EV n e fun a=>rl P ops Q (⟨some d,.binOp .lss ty x y yt,t,p,af,none⟩::r) a w:=fun _ F=>A4 F (run_lss (F.ev hx) (F.ev (A2 hy).2)) (A2 hy).1 k
theorem Ke (hx:ev e x=some (.int kd i)) (hy:evd n d e y=some (.int kd j)) (k:EV n ((d,.bool (decide (i≤j)))::e) fun a=>rl P ops Q r a w):EV n e fun a=>rl P ops Q (⟨some d,.binOp .leq ty x y yt,t,p,af,none⟩::r) a w:=fun _ F=>A4 F (run_leq (F.ev hx) (F.ev (A2 hy).2)) (A2 hy).1 k
theorem Jc (hx:ev e x=some (.int kd i)) (hy:evd n d e y=some (.int kd j)) (k:EV n ((d,.bool (decide (j≤i)))::e) fun a=>rl P ops Q r a w):EV n e fun a=>rl P ops Q (⟨some d,.binOp .geq ty x y yt,t,p,af,none⟩::r) a w:=fun _ F=>A4 F (run_geq (F.ev hx) (F.ev (A2 hy).2)) (A2 hy).1 k
theorem C2 (hx:ev e x=some (.int kd i)) (hy:evd n d e y=some (.int kd j)) (k:EV n ((d,.bool (decide (i=j)))::e) fun a=>rl P ops Q r a w):EV n e fun a=>rl P ops Q (⟨some d,.binOp .eql ty x y yt,t,p,af,none⟩::r) a w:=fun _ F=>A4 F (Kg (F.ev hx) (F.ev (A2 hy).2)) (A2 hy).1 k
theorem Df (hx:ev e x=some (.int kd i)) (hy:evd n d e y=some (.int kd j)) (k:EV n ((d,.bool (!decide (i=j)))::e) fun a=>rl P ops Q r a w):EV n e fun a=>rl P ops Q (⟨some d,.binOp .neq ty x y yt,t,p,af,none⟩::r) a w:=fun _ F=>A4 F (run_nei (F.ev hx) (F.ev (A2 hy).2)) (A2 hy).1 k
theorem Bw (hx:ev e x=some (.int .i64 i)) (hy:evd n d e y=some (.int .i64 j)) (k:EV n ((d,.int .i64 (i+j))::e) fun a=>rl P ops Q r a w) (h1:-9223372036854775808≤i+j:=by omega) (h2:i+j≤9223372036854775807:=by omega) :
  EV n e fun a=>rl P ops Q (⟨some d,.binOp .add ty x y yt,t,p,af,none⟩::r) a w:=fun _ F=>A4 F (Fa (F.ev hx) (F.ev (A2 hy).2) (Cl h1 h2)) (A2 hy).1 k
theorem s_sub (hx:ev e x=some (.int .i64 i)) (hy:evd n d e y=some (.int .i64 j)) (k:EV n ((d,.int .i64 (i - j))::e) fun a=>rl P ops Q r a w) (h1:-9223372036854775808≤i - j:=by omega) (h2:i - j≤9223372036854775807:=by omega) :
  EV n e fun a=>rl P ops Q (⟨some d,.binOp .sub ty x y yt,t,p,af,none⟩::r) a w:=fun _ F=>A4 F (Mg (F.ev hx) (F.ev (A2 hy).2) (Cl h1 h2)) (A2 hy).1 k
theorem Db {s et:TypeId} {ti:TI} {ad:Option Addr} {m c b o jj:Nat} {z:Int} (hs:tk P s=.slice et) (ht:TOK P et ti) (I:Ix ad m jj ti.size b o) (hx:ev e x=some (.slice ad m c)) (hy:evd n d e y=some (.int kd z))
  (k:EV n ((d,.pointer (some ⟨b,o,none⟩))::e) fun a=>rl P ops Q r a w) (hz:z=(jj:Int):=by omega):EV n e fun a=>rl P ops Q (⟨some d,.indexAddr s x y,t,p,af,none⟩::r) a w:=fun _ F=>A4 F (Bo hs ht (F.ev hx) (F.ev (A2 hy).2) hz I) (A2 hy).1 k
theorem Kd {l l':List UInt8} (hx:ev e x=some (.string (str l))) (hy:evd n d e y=some (.string (str l'))) (k:EV n ((d,.bool (decide (l=l')))::e) fun a=>rl P ops Q r a w):EV n e fun a=>rl P ops Q (⟨some d,.binOp .eql ty x y yt,t,p,af,none⟩::r) a w:=fun _ F=>A4 F (Hp (F.ev hx) (F.ev (A2 hy).2)) (A2 hy).1 k
theorem F1 {l l':List UInt8} (hx:ev e x=some (.string (str l))) (hy:evd n d e y=some (.string (str l'))) (k:EV n ((d,.bool (!(decide (l=l'))))::e) fun a=>rl P ops Q r a w):EV n e fun a=>rl P ops Q (⟨some d,.binOp .neq ty x y yt,t,p,af,none⟩::r) a w:=fun _ F=>A4 F (I3 (F.ev hx) (F.ev (A2 hy).2)) (A2 hy).1 k
end
theorem F0 {et:TypeId} {i:TI} {old:Value} {b o:Nat} {cs:List Value} {bt:TypeId} (ht:TOK P et i) (M:Mem w0 G L w) (q:Nat) (h1:i.size=1) (hk:L[q]?=some (.blk b cs bt)) (hx:ev e x=some (.pointer (some ⟨b,o,none⟩))) (hy:ev e y=some v) (hv:v.oneCell' = true) (ho:cs[o]?=some old)
  (k:∀ w',Mem w0 G (L.set q (.blk b (cs.set o v) bt)) w'→EV n e fun a=>rl P ops Q r a w'):EV n e fun a=>rl P ops Q (⟨none,.store et x y,t,p,af,none⟩::r) a w:=fun _ F=>Od F M ht h1 hk hx hy hv ho fun w' a' M' F'=>k w' M' a' F'
theorem Dy {et:TypeId} {i:TI} {cs:List Value} (M:Mem w0 G L w) (ht:TOK P et i) (hz:i.zero.cells=cs.toArray) (hd:Nat.ble (d+1) n=true) (k:∀ b w',Mem w0 G (.blk b cs et::L) w'→EV n ((d,.pointer (some ⟨b,0,none⟩))::e) fun a=>rl P ops Q r a w') :
  EV n e fun a=>rl P ops Q (⟨some d,.alloc et,t,p,af,none⟩::r) a w:=fun _ F=>Ip F M ht hz hd fun b w' a' M' F'=>k b w' M' a' F'
theorem G4 {et:TypeId} {cs:List Value} (M:Mem w0 G L w) (hx:ev e x=some v) (hc:v.cells=cs.toArray) (hd:Nat.ble (d+1) n=true) (k:∀ b w',Mem w0 G (.blk b cs et::L) w'→EV n ((d,.pointer (some ⟨b,0,none⟩))::e) fun a=>rl P ops Q r a w') :
  EV n e fun a=>rl P ops Q (⟨some d,.box et x,t,p,af,none⟩::r) a w:=fun _ F=>rl_box F M hx hc hd fun b w' a' M' F'=>k b w' M' a' F'
section
variable {f:FuncId} {args:List Operand} {ats:Array TypeId} {vs caps:List Value}
theorem Bc {Φ:Value→Prop} (hE:Ent P f) (hv:evs e args=some vs) (hd:Nat.ble (d+1) n=true) (hs:Calls P f vs.toArray w (B5 w0 G L Φ)) (k:∀ v w',Mem w0 G L w'→Φ v→EV n ((d,v)::e) fun a=>rl P ops Q r a w') :
  EV n e fun a=>rl P ops Q (⟨some d,.call ⟨.value (.func f),args.toArray,ats⟩,t,p,af,none⟩::r) a w:=fun _ F=>Qu F hE hv hd hs fun v w' a' M' h F'=>k v w' M' h a' F'
theorem Ik {Φ:Av→Value→Prop} (hE:Ent P f) (hv:evs e args=some vs) (hd:Nat.ble (d+1) n=true) (hs:Calls P f vs.toArray w (Ret w0 G L Φ)) (k:∀ v G' w',Gle G G'→Mem w0 G' L w'→Φ G' v→EV n ((d,v)::e) fun a=>rl P ops Q r a w') :
  EV n e fun a=>rl P ops Q (⟨some d,.call ⟨.value (.func f),args.toArray,ats⟩,t,p,af,none⟩::r) a w:=fun _ F=>Po F hE hv hd hs fun v G' w' a' hg M' h F'=>k v G' w' hg M' h a' F'
theorem Ph {Φ:List Res→Value→Prop} (hE:Ent P f) (hv:evs e args=some vs) (hd:Nat.ble (d+1) n=true) (hs:Calls P f vs.toArray w (Lf w0 G Φ)) (k:∀ v L' w',Mem w0 G L' w'→Φ L' v→EV n ((d,v)::e) fun a=>rl P ops Q r a w') :
  EV n e fun a=>rl P ops Q (⟨some d,.call ⟨.value (.func f),args.toArray,ats⟩,t,p,af,none⟩::r) a w:=fun _ F=>Qv F hE hv hd hs fun v L' w' a' M' h F'=>k v L' w' M' h a' F'
theorem Si {Φ:Value→Prop} (hE:Ent P f) (hc:ev e x=some (.func (.func f) #[] caps.toArray)) (hv:evs e args=some vs) (hd:Nat.ble (d+1) n=true) (hs:Calls P f (vs++caps).toArray w (B5 w0 G L Φ)) (k:∀ v w',Mem w0 G L w'→Φ v→EV n ((d,v)::e) fun a=>rl P ops Q r a w') :
  EV n e fun a=>rl P ops Q (⟨some d,.call ⟨.value x,args.toArray,ats⟩,t,p,af,none⟩::r) a w:=fun _ F=>U2 F hE hc hv hd hs fun v w' a' M' h F'=>k v w' M' h a' F'
theorem s_vL {Φ:List Res→Value→Prop} (hE:Ent P f) (hc:ev e x=some (.func (.func f) #[] caps.toArray)) (hv:evs e args=some vs) (hd:Nat.ble (d+1) n=true) (hs:Calls P f (vs++caps).toArray w (Lf w0 G Φ)) (k:∀ v L' w',Mem w0 G L' w'→Φ L' v→EV n ((d,v)::e) fun a=>rl P ops Q r a w') :
  EV n e fun a=>rl P ops Q (⟨some d,.call ⟨.value x,args.toArray,ats⟩,t,p,af,none⟩::r) a w:=fun _ F=>U3 F hE hc hv hd hs fun v L' w' a' M' h F'=>k v L' w' M' h a' F'
end
section
variable {C:World→Prop} {j:Nat} {want b:Bool}
section
variable {r:List (PK × Oper)}
theorem Fm (h:EV n e fun a=>Q .normal a w):EV n e fun a=>pk P ops Q C [] a w:=h
theorem k_f (hr:∀ a,Fits n a e→∀ w,True→(execOp a.eval ⟨some d,op,t,p,af,none⟩).run P w=.ok (.value v) w) (hd:Nat.ble (d+1) n=true) (k:EV n ((d,v)::e) fun a=>pk P ops Q C r a w) :
  EV n e fun a=>pk P ops Q C ((.free,⟨some d,op,t,p,af,none⟩)::r) a w:=fun a F=>pk_free F (hr a F) hd k
theorem k_p (hr:∀ a,Fits n a e→∀ w,C w→(execOp a.eval ⟨some d,op,t,p,af,none⟩).run P w=.ok (.value v) w) (hd:Nat.ble (d+1) n=true) (k:EV n ((d,v)::e) fun a=>pk P ops Q C r a w) :
  EV n e fun a=>pk P ops Q C ((.pure,⟨some d,op,t,p,af,none⟩)::r) a w:=fun a F=>pk_pure F (hr a F) hd k
theorem F4 (h:gdv n d ops e j=some (.bool b)) (hw:b=want) (hr:∀ a,Fits n a e→∀ w,True→(execOp a.eval ⟨some d,op,t,p,af,some (j,want)⟩).run P w=.ok (.value v) w) (k:EV n ((d,v)::e) fun a=>pk P ops Q C r a w) :
  EV n e fun a=>pk P ops Q C ((.free,⟨some d,op,t,p,af,some (j,want)⟩)::r) a w:=by
 obtain ⟨hd,g,h1,h2⟩:=H9 h
 exact fun a F=>Vf F h1 h2 hw (hr a F) hd k
theorem Re (h:gdv n d ops e j=some (.bool b)) (hw:b=want) (hr:∀ a,Fits n a e→∀ w,C w→(execOp a.eval ⟨some d,op,t,p,af,some (j,want)⟩).run P w=.ok (.value v) w) (k:EV n ((d,v)::e) fun a=>pk P ops Q C r a w) :
  EV n e fun a=>pk P ops Q C ((.pure,⟨some d,op,t,p,af,some (j,want)⟩)::r) a w:=by
 obtain ⟨hd,g,h1,h2⟩:=H9 h
 exact fun a F=>Ve F h1 h2 hw (hr a F) hd k
theorem k_s {q:PK} (h:gdv n d ops e j=some (.bool b)) (hw:b = !want) (k:EV n ((d,undef)::e) fun a=>pk P ops Q C r a w):EV n e fun a=>pk P ops Q C ((q,⟨some d,op,t,p,af,some (j,want)⟩)::r) a w:=by
 obtain ⟨hd,g,h1,h2⟩:=H9 h
 exact fun a F=>pk_skip F h1 h2 hw hd k
theorem k_u {q:PK} (h:gdv n d ops e j=some undef) (k:EV n ((d,undef)::e) fun a=>pk P ops Q C r a w):EV n e fun a=>pk P ops Q C ((q,⟨some d,op,t,p,af,some (j,want)⟩)::r) a w:=by
 obtain ⟨hd,g,h1,h2⟩:=H9 h
 exact fun a F=>Vd F h1 h2 hd k
theorem k_k {o:Oper} (hg:o.guard=none) (h:EV n e fun a=>rl P ops (fun e a w=>match e with | .normal=>∃ C':World→Prop,C' w∧(∀ w,C' w→C w)∧pk P ops Q C' r a w | e=>Q e a w) [o] a w):EV n e fun a=>pk P ops Q C ((.keep,o)::r) a w:=fun a F=>pk_keep (h a F) hg
theorem k_c {o:Oper} (hg:o.guard=none) (h:EV n e fun a=>rl P ops (fun e a w=>match e with | .normal=>∃ C':World→Prop,C' w∧pk P ops Q C' r a w | e=>Q e a w) [o] a w):EV n e fun a=>pk P ops Q C ((.chg,o)::r) a w:=fun a F=>pk_chg (h a F) hg
end
section
variable {r:List (Bool × Oper)}
theorem Jh (h:EV n e fun a=>Q .normal a w):EV n e fun a=>pl P ops Q C [] a w:=h
theorem l_r (hr:∀ a,Fits n a e→∀ w,C w→(execOp a.eval ⟨some d,op,t,p,af,none⟩).run P w=.ok (.value v) w) (hd:Nat.ble (d+1) n=true) (k:EV n ((d,v)::e) fun a=>pl P ops Q C r a w) :
  EV n e fun a=>pl P ops Q C ((true,⟨some d,op,t,p,af,none⟩)::r) a w:=fun a F=>pl_run F (hr a F) hd k
theorem l_g (h:gdv n d ops e j=some (.bool b)) (hw:b=want) (hr:∀ a,Fits n a e→∀ w,C w→(execOp a.eval ⟨some d,op,t,p,af,some (j,want)⟩).run P w=.ok (.value v) w) (k:EV n ((d,v)::e) fun a=>pl P ops Q C r a w) :
  EV n e fun a=>pl P ops Q C ((true,⟨some d,op,t,p,af,some (j,want)⟩)::r) a w:=by
 obtain ⟨hd,g,h1,h2⟩:=H9 h
 exact fun a F=>Px F h1 h2 hw (hr a F) hd k
theorem l_s {b2:Bool} (h:gdv n d ops e j=some (.bool b)) (hw:b = !want) (k:EV n ((d,undef)::e) fun a=>pl P ops Q C r a w):EV n e fun a=>pl P ops Q C ((b2,⟨some d,op,t,p,af,some (j,want)⟩)::r) a w:=by
 obtain ⟨hd,g,h1,h2⟩:=H9 h
 exact fun a F=>Nw F h1 h2 hw hd k
theorem l_a {o:Oper} (hg:o.guard=none) (h:EV n e fun a=>rl P ops (fun e a w=>match e with | .normal=>∃ C':World→Prop,C' w∧(∀ w,C' w→C w)∧pl P ops Q C' r a w | e=>Q e a w) [o] a w):EV n e fun a=>pl P ops Q C ((false,o)::r) a w:=fun a F=>pl_act (h a F) hg
end
section
variable {r alt:PO}
theorem Ho (h:EV n e fun a=>Q .normal a w):EV n e fun a=>ptl P ops Q C .fin a w:=h
theorem t_r (hr:∀ a,Fits n a e→∀ w,C w→(execOp a.eval ⟨some d,op,t,p,af,none⟩).run P w=.ok (.value v) w) (hd:Nat.ble (d+1) n=true) (k:EV n ((d,v)::e) fun a=>ptl P ops Q C r a w) :
  EV n e fun a=>ptl P ops Q C (.run ⟨some d,op,t,p,af,none⟩ r) a w:=fun a F=>pt_run F (hr a F) hd k
end
section
variable {X:(World→Prop)→Act→Prop} {C':World→Prop}
theorem eQ {n:Nat} {e:Env} {w:World} {C:World→Prop} {X:(World→Prop)→Act→Prop} (h1:C w) (h:EV n e fun a=>X C a):EV n e fun a=>∃ C':World→Prop,C' w∧(∀ w,C' w→C w)∧X C' a:=fun a F=>⟨C,h1,fun _ h=>h,h a F⟩
theorem Ad {P:Program} {Q:Exit→Act→World→Prop} {n:Nat} {w:World} {e:Env} {id:Nat} {l:List Oper} {c':Code} (h:EV n e fun a=>rl P l.toArray (Exit.then (fun a w=>c'.wp P Q a w) Q) l a w):EV n e fun a=>(Code.seq (Code.region id l.toArray false) c').wp P Q a w:=Ai (Aw h)
theorem e_cD {P:Program} {Q:Exit→Act→World→Prop} {n:Nat} {w:World} {e:Env} {x:Operand} {c c':Code} {p:Prop} [Decidable p] (hc:ev e x=some (.bool (decide p))) (ht:p→EV n e fun a=>c.wp P Q a w) (hf:¬ p→EV n e fun a=>c'.wp P Q a w):EV n e fun a=>(Code.cond x c c').wp P Q a w :=
  Ap hc (fun h=>ht (of_decide_eq_true h)) (fun h=>hf (of_decide_eq_false h))
theorem Di {P:Program} {ops:Array Oper} {Q:Exit→Act→World→Prop} {n:Nat} {a:Act} {w w0:World} {e:Env} {G:Av} {L:List Res} {t:TypeId} {p:String} {af:Array Edge} {r:List Oper} {et bt:TypeId} {i:TI} {x y:Operand} {v:Value} {b o:Nat} {cs us:List Value} (F:Fits n a e) (M:Mem w0 G L w) (ht:TOK P et i) (k:Nat)
    {L':List Res} (kk:∀ w' a',Mem w0 G L' w'→Fits n a' e→rl P ops Q r a' w') (hk:L[k]?=some (.blk b cs bt):=by rfl) (hx:ev e x=some (.pointer (some ⟨b,o,none⟩)):=by rfl) (hy:ev e y=some v:=by rfl) (hv:v.cells=us.toArray:=by rfl) (hl:us.length=i.size:=by rfl)
    (hu:∀ u∈us,u.oneCell' = true:=by simp [Value.oneCell']) (hfit:o+us.length≤cs.length:=by simp) (hS:L.set k (.blk b (over cs o us) bt)=L':=by dsimp only [over,List.set]):rl P ops Q (⟨none,.store et x y,t,p,af,none⟩::r) a w:=U0 F M ht hk hx hy hv hl hu hfit (by rw [hS];exact kk)
theorem Iw {P:Program} {ops:Array Oper} {Q:Exit→Act→World→Prop} {n:Nat} {a:Act} {w w0:World} {e:Env} {G:Av} {L:List Res} {t:TypeId} {p:String} {af:Array Edge} {r:List Oper} {et bt:TypeId} {i:TI} {x y:Operand} {v old:Value} {b o:Nat} {cs:List Value} (F:Fits n a e) (M:Mem w0 G L w) (ht:TOK P et i) (k:Nat)
    {L':List Res} (kk:∀ w' a',Mem w0 G L' w'→Fits n a' e→rl P ops Q r a' w') (hk:L[k]?=some (.blk b cs bt):=by rfl) (hx:ev e x=some (.pointer (some ⟨b,o,none⟩)):=by rfl) (hy:ev e y=some v:=by rfl) (ho:cs[o]?=some old:=by rfl) (hv:v.oneCell' = true:=by rfl) (h1:i.size=1:=by rfl) (hS:L.set k (.blk b (cs.set o v) bt)=L':=by dsimp only [over,List.set]):rl P ops Q (⟨none,.store et x y,t,p,af,none⟩::r) a w:=Od F M ht h1 hk hx hy hv ho (by rw [hS];exact kk)
theorem Bx {w0 w:World} {G:Av} {L Lr:List Res} (M:Mem w0 G L w) (h:∀ r∈Lr,r∈L:=by simp):Keep G Lr w:=M.keep (Gle.refl _) h
theorem cC {α:Type} {a:α} {l l':List α} (h:l.Sublist l'):(a::l).Sublist (a::l'):=.cons_cons _ h
theorem cN {α:Type} {a:α} {l l':List α} (h:l.Sublist l'):l.Sublist (a::l'):=.cons _ h
theorem F8 {P:Program} {ops:Array Oper} {Q:Exit→Act→World→Prop} {n d:Nat} {w w0:World} {e:Env} {x:Operand} {G:Av} {L:List Res} {t:TypeId} {p:String} {af:Array Edge} {r:List Oper} {et bt:TypeId} {i:TI} {b:Nat} {cs:List Value} (ht:TOK P et i) (M:Mem w0 G L w) (q:Nat) (ha:i.k.agg=some true) (h:evd n d e x=some (.pointer (some ⟨b,0,none⟩))) (hk:L[q]?=some (.blk b cs bt)) (hl:cs.length=i.size)
    (k:EV n ((d,.agg cs.toArray)::e) fun a=>rl P ops Q r a w):EV n e fun a=>rl P ops Q (⟨some d,.load et x,t,p,af,none⟩::r) a w:=fun _ F=>A4 F (Bj ht ha (F.ev (A2 h).2) hl (M.cellsL hk (by rw [List.drop_zero,← hl,List.take_length]))) (A2 h).1 k
theorem lMv {P:Program} {ops:Array Oper} {Q:Exit→Act→World→Prop} {n d:Nat} {w:World} {e:Env} {x:Operand} {t:TypeId} {p:String} {af:Array Edge} {C:World→Prop} {r:List (Bool × Oper)} {v:Value} (h:evd n d e x=some v) (k:EV n ((d,v)::e) fun a=>pl P ops Q C r a w):EV n e fun a=>pl P ops Q C ((true,⟨some d,.move x,t,p,af,none⟩)::r) a w:=l_r (fun a F w M=>J6 F (A2 h).2) (A2 h).1 k
theorem lAs {P:Program} {ops:Array Oper} {Q:Exit→Act→World→Prop} {n d:Nat} {w:World} {e:Env} {x:Operand} {t:TypeId} {p:String} {af:Array Edge} {C:World→Prop} {r:List (Bool × Oper)} {v:Value} (h:evd n d e x=some v) (k:EV n ((d,v)::e) fun a=>pl P ops Q C r a w):EV n e fun a=>pl P ops Q C ((true,⟨some d,.assign x,t,p,af,none⟩)::r) a w:=l_r (fun a F w M=>x_as F (A2 h).2) (A2 h).1 k
theorem lFa {P:Program} {ops:Array Oper} {Q:Exit→Act→World→Prop} {n d:Nat} {w:World} {e:Env} {x:Operand} {t:TypeId} {p:String} {af:Array Edge} {C:World→Prop} {r:List (Bool × Oper)} {s f b o off:Nat} {fs:List (Nat × Nat × Nat)} (hs:tk P s=.struct fs) (hf:Lo fs f=some off) (h:evd n d e x=some (.pointer (some ⟨b,o,none⟩))) (k:EV n ((d,.pointer (some ⟨b,o+off,none⟩))::e) fun a=>pl P ops Q C r a w):EV n e fun a=>pl P ops Q C ((true,⟨some d,.fieldAddr s x f,t,p,af,none⟩)::r) a w:=l_r (fun a F w M=>Kv hs hf F (A2 h).2) (A2 h).1 k
theorem lLd {P:Program} {ops:Array Oper} {Q:Exit→Act→World→Prop} {n d:Nat} {w:World} {e:Env} {x:Operand} {t:TypeId} {p:String} {af:Array Edge} {r:List (Bool × Oper)} {G:Av} {L:List Res} {et bt:TypeId} {i:TI} {v:Value} {b o:Nat} {cs:List Value} (ht:TOK P et i) (q:Nat) (ha:i.k.agg=some false) (h:evd n d e x=some (.pointer (some ⟨b,o,none⟩))) (hk:L[q]?=some (.blk b cs bt)) (hv:cs[o]?=some v) (k:EV n ((d,v)::e) fun a=>pl P ops Q (Keep G L) r a w):EV n e fun a=>pl P ops Q (Keep G L) ((true,⟨some d,.load et x,t,p,af,none⟩)::r) a w:=l_r (fun a F w M=>Bk (agf ht ha) (F.ev (A2 h).2) (M.cellL hk hv)) (A2 h).1 k
theorem lLb {P:Program} {ops:Array Oper} {Q:Exit→Act→World→Prop} {n d:Nat} {w:World} {e:Env} {x:Operand} {t:TypeId} {p:String} {af:Array Edge} {r:List (Bool × Oper)} {G:Av} {L:List Res} {et bt:TypeId} {i:TI} {b:Nat} {cs:List Value} (ht:TOK P et i) (q:Nat) (ha:i.k.agg=some true) (h:evd n d e x=some (.pointer (some ⟨b,0,none⟩))) (hk:L[q]?=some (.blk b cs bt)) (hl:cs.length=i.size) (k:EV n ((d,.agg cs.toArray)::e) fun a=>pl P ops Q (Keep G L) r a w):EV n e fun a=>pl P ops Q (Keep G L) ((true,⟨some d,.load et x,t,p,af,none⟩)::r) a w:=l_r (fun a F w M=>Bj ht ha (F.ev (A2 h).2) hl (M.cellsL hk (by rw [List.drop_zero,← hl,List.take_length]))) (A2 h).1 k
theorem fMv {P:Program} {ops:Array Oper} {Q:Exit→Act→World→Prop} {n d:Nat} {w:World} {e:Env} {x:Operand} {t:TypeId} {p:String} {af:Array Edge} {C:World→Prop} {r:List (PK × Oper)} {v:Value} (h:evd n d e x=some v) (k:EV n ((d,v)::e) fun a=>pk P ops Q C r a w):EV n e fun a=>pk P ops Q C ((.free,⟨some d,.move x,t,p,af,none⟩)::r) a w:=k_f (fun a F w _=>J6 F (A2 h).2) (A2 h).1 k
theorem fAs {P:Program} {ops:Array Oper} {Q:Exit→Act→World→Prop} {n d:Nat} {w:World} {e:Env} {x:Operand} {t:TypeId} {p:String} {af:Array Edge} {C:World→Prop} {r:List (PK × Oper)} {v:Value} (h:evd n d e x=some v) (k:EV n ((d,v)::e) fun a=>pk P ops Q C r a w):EV n e fun a=>pk P ops Q C ((.free,⟨some d,.assign x,t,p,af,none⟩)::r) a w:=k_f (fun a F w _=>x_as F (A2 h).2) (A2 h).1 k
theorem fFa {P:Program} {ops:Array Oper} {Q:Exit→Act→World→Prop} {n d:Nat} {w:World} {e:Env} {x:Operand} {t:TypeId} {p:String} {af:Array Edge} {C:World→Prop} {r:List (PK × Oper)} {s f b o off:Nat} {fs:List (Nat × Nat × Nat)} (hs:tk P s=.struct fs) (hf:Lo fs f=some off) (h:evd n d e x=some (.pointer (some ⟨b,o,none⟩))) (k:EV n ((d,.pointer (some ⟨b,o+off,none⟩))::e) fun a=>pk P ops Q C r a w):EV n e fun a=>pk P ops Q C ((.free,⟨some d,.fieldAddr s x f,t,p,af,none⟩)::r) a w:=k_f (fun a F w _=>Kv hs hf F (A2 h).2) (A2 h).1 k
theorem pMv {P:Program} {ops:Array Oper} {Q:Exit→Act→World→Prop} {n d:Nat} {w:World} {e:Env} {x:Operand} {t:TypeId} {p:String} {af:Array Edge} {C:World→Prop} {r:List (PK × Oper)} {v:Value} (h:evd n d e x=some v) (k:EV n ((d,v)::e) fun a=>pk P ops Q C r a w):EV n e fun a=>pk P ops Q C ((.pure,⟨some d,.move x,t,p,af,none⟩)::r) a w:=k_p (fun a F w M=>J6 F (A2 h).2) (A2 h).1 k
theorem pAs {P:Program} {ops:Array Oper} {Q:Exit→Act→World→Prop} {n d:Nat} {w:World} {e:Env} {x:Operand} {t:TypeId} {p:String} {af:Array Edge} {C:World→Prop} {r:List (PK × Oper)} {v:Value} (h:evd n d e x=some v) (k:EV n ((d,v)::e) fun a=>pk P ops Q C r a w):EV n e fun a=>pk P ops Q C ((.pure,⟨some d,.assign x,t,p,af,none⟩)::r) a w:=k_p (fun a F w M=>x_as F (A2 h).2) (A2 h).1 k
theorem pFa {P:Program} {ops:Array Oper} {Q:Exit→Act→World→Prop} {n d:Nat} {w:World} {e:Env} {x:Operand} {t:TypeId} {p:String} {af:Array Edge} {C:World→Prop} {r:List (PK × Oper)} {s f b o off:Nat} {fs:List (Nat × Nat × Nat)} (hs:tk P s=.struct fs) (hf:Lo fs f=some off) (h:evd n d e x=some (.pointer (some ⟨b,o,none⟩))) (k:EV n ((d,.pointer (some ⟨b,o+off,none⟩))::e) fun a=>pk P ops Q C r a w):EV n e fun a=>pk P ops Q C ((.pure,⟨some d,.fieldAddr s x f,t,p,af,none⟩)::r) a w:=k_p (fun a F w M=>Kv hs hf F (A2 h).2) (A2 h).1 k
theorem pLd {P:Program} {ops:Array Oper} {Q:Exit→Act→World→Prop} {n d:Nat} {w:World} {e:Env} {x:Operand} {t:TypeId} {p:String} {af:Array Edge} {r:List (PK × Oper)} {G:Av} {L:List Res} {et bt:TypeId} {i:TI} {v:Value} {b o:Nat} {cs:List Value} (ht:TOK P et i) (q:Nat) (ha:i.k.agg=some false) (h:evd n d e x=some (.pointer (some ⟨b,o,none⟩))) (hk:L[q]?=some (.blk b cs bt)) (hv:cs[o]?=some v) (k:EV n ((d,v)::e) fun a=>pk P ops Q (Keep G L) r a w):EV n e fun a=>pk P ops Q (Keep G L) ((.pure,⟨some d,.load et x,t,p,af,none⟩)::r) a w:=k_p (fun a F w M=>Bk (agf ht ha) (F.ev (A2 h).2) (M.cellL hk hv)) (A2 h).1 k
theorem pLb {P:Program} {ops:Array Oper} {Q:Exit→Act→World→Prop} {n d:Nat} {w:World} {e:Env} {x:Operand} {t:TypeId} {p:String} {af:Array Edge} {r:List (PK × Oper)} {G:Av} {L:List Res} {et bt:TypeId} {i:TI} {b:Nat} {cs:List Value} (ht:TOK P et i) (q:Nat) (ha:i.k.agg=some true) (h:evd n d e x=some (.pointer (some ⟨b,0,none⟩))) (hk:L[q]?=some (.blk b cs bt)) (hl:cs.length=i.size) (k:EV n ((d,.agg cs.toArray)::e) fun a=>pk P ops Q (Keep G L) r a w):EV n e fun a=>pk P ops Q (Keep G L) ((.pure,⟨some d,.load et x,t,p,af,none⟩)::r) a w:=k_p (fun a F w M=>Bj ht ha (F.ev (A2 h).2) hl (M.cellsL hk (by rw [List.drop_zero,← hl,List.take_length]))) (A2 h).1 k
theorem tMv {P:Program} {ops:Array Oper} {Q:Exit→Act→World→Prop} {n d:Nat} {w:World} {e:Env} {x:Operand} {t:TypeId} {p:String} {af:Array Edge} {C:World→Prop} {r:PO} {v:Value} (h:evd n d e x=some v) (k:EV n ((d,v)::e) fun a=>ptl P ops Q C r a w):EV n e fun a=>ptl P ops Q C (.run ⟨some d,.move x,t,p,af,none⟩ r) a w:=t_r (fun a F w M=>J6 F (A2 h).2) (A2 h).1 k
theorem tAs {P:Program} {ops:Array Oper} {Q:Exit→Act→World→Prop} {n d:Nat} {w:World} {e:Env} {x:Operand} {t:TypeId} {p:String} {af:Array Edge} {C:World→Prop} {r:PO} {v:Value} (h:evd n d e x=some v) (k:EV n ((d,v)::e) fun a=>ptl P ops Q C r a w):EV n e fun a=>ptl P ops Q C (.run ⟨some d,.assign x,t,p,af,none⟩ r) a w:=t_r (fun a F w M=>x_as F (A2 h).2) (A2 h).1 k
theorem tFa {P:Program} {ops:Array Oper} {Q:Exit→Act→World→Prop} {n d:Nat} {w:World} {e:Env} {x:Operand} {t:TypeId} {p:String} {af:Array Edge} {C:World→Prop} {r:PO} {s f b o off:Nat} {fs:List (Nat × Nat × Nat)} (hs:tk P s=.struct fs) (hf:Lo fs f=some off) (h:evd n d e x=some (.pointer (some ⟨b,o,none⟩))) (k:EV n ((d,.pointer (some ⟨b,o+off,none⟩))::e) fun a=>ptl P ops Q C r a w):EV n e fun a=>ptl P ops Q C (.run ⟨some d,.fieldAddr s x f,t,p,af,none⟩ r) a w:=t_r (fun a F w M=>Kv hs hf F (A2 h).2) (A2 h).1 k
theorem tLd {P:Program} {ops:Array Oper} {Q:Exit→Act→World→Prop} {n d:Nat} {w:World} {e:Env} {x:Operand} {t:TypeId} {p:String} {af:Array Edge} {r:PO} {G:Av} {L:List Res} {et bt:TypeId} {i:TI} {v:Value} {b o:Nat} {cs:List Value} (ht:TOK P et i) (q:Nat) (ha:i.k.agg=some false) (h:evd n d e x=some (.pointer (some ⟨b,o,none⟩))) (hk:L[q]?=some (.blk b cs bt)) (hv:cs[o]?=some v) (k:EV n ((d,v)::e) fun a=>ptl P ops Q (Keep G L) r a w):EV n e fun a=>ptl P ops Q (Keep G L) (.run ⟨some d,.load et x,t,p,af,none⟩ r) a w:=t_r (fun a F w M=>Bk (agf ht ha) (F.ev (A2 h).2) (M.cellL hk hv)) (A2 h).1 k
theorem tLb {P:Program} {ops:Array Oper} {Q:Exit→Act→World→Prop} {n d:Nat} {w:World} {e:Env} {x:Operand} {t:TypeId} {p:String} {af:Array Edge} {r:PO} {G:Av} {L:List Res} {et bt:TypeId} {i:TI} {b:Nat} {cs:List Value} (ht:TOK P et i) (q:Nat) (ha:i.k.agg=some true) (h:evd n d e x=some (.pointer (some ⟨b,0,none⟩))) (hk:L[q]?=some (.blk b cs bt)) (hl:cs.length=i.size) (k:EV n ((d,.agg cs.toArray)::e) fun a=>ptl P ops Q (Keep G L) r a w):EV n e fun a=>ptl P ops Q (Keep G L) (.run ⟨some d,.load et x,t,p,af,none⟩ r) a w:=t_r (fun a F w M=>Bj ht ha (F.ev (A2 h).2) hl (M.cellsL hk (by rw [List.drop_zero,← hl,List.take_length]))) (A2 h).1 k
theorem qD {P:Program} {Q:Exit→Act→World→Prop} {n:Nat} {w:World} {e:Env} {x:Operand} {c c':Code} {q:Prop} [i:Decidable q] (hc:ev e x=some (.bool (decide q))) (h1:q→EV n e fun a=>c.wp P Q a w) (h2:¬q→EV n e fun a=>c'.wp P Q a w):EV n e fun a=>(Code.cond x c c').wp P Q a w:=Ap hc (fun h=>h1 (of_decide_eq_true h)) (fun h=>h2 (of_decide_eq_false h))
theorem eK (h1:C' w) (h2:∀ w,C' w→C w) (h:EV n e fun a=>X C' a):EV n e fun a=>∃ C':World→Prop,C' w∧(∀ w,C' w→C w)∧X C' a:=fun a F=>⟨C',h1,h2,h a F⟩
end
end
end
end Go.Y
set_option linter.unusedVariables false
namespace Go.Y
open Go Go.RowKit
class CT (P:Program) (t:TypeId) (i:outParam TI):Prop where
 ok:TOK P t i
theorem CT.k {P:Program} {t:TypeId} {i:TI} (c:CT P t i):tk P t=i.k:=c.ok.k
section
variable {P:Program} {ops:Array Oper} {Q:Exit→Act→World→Prop} {K:Act→World→Prop} {n d:Nat} {w w0:World} {e:Env} {G:Av} {L:List Res} {op:Op} {t:TypeId} {p:String} {af:Array Edge} {r:List Oper} {v:Value} {x y z:Operand} {C:World→Prop} {dd:Option Tmp} {gg:Option (Nat × Bool)}
section
variable {ty yt:TypeId} {kd:IntKind} {i j:Int}
end
theorem EV.id {Φ:Act→Prop} (h:EV n e Φ):EV n e Φ:=h
theorem EV.out {Φ:Act→Prop} (h:EV n e Φ):∀ a,Fits n a e→Φ a:=h
section
variable {j:Nat} {want b:Bool}
end
end
end Go.Y
