/- The generic core, third part: trees. -/
import Derived.Test.YtmmhmcplegpenaaGreatDoorYB
set_option linter.unusedSimpArgs false
set_option linter.unusedVariables false
namespace Go.Y
open Go Go.RowKit
inductive Tr (β:Type) where
 | mk (kind:Int) (tag key:List UInt8) (as:List β) (text:List UInt8) (kids:List (Tr β))
namespace Tr
variable {β:Type}
def kind:Tr β→Int | .mk k _ _ _ _ _=>k
def tag:Tr β→List UInt8 | .mk _ t _ _ _ _=>t
def key:Tr β→List UInt8 | .mk _ _ k _ _ _=>k
def as:Tr β→List β | .mk _ _ _ l _ _=>l
def text:Tr β→List UInt8 | .mk _ _ _ _ t _=>t
def kids:Tr β→List (Tr β) | .mk _ _ _ _ _ l=>l
mutual
def size:Tr β→Nat
 | .mk _ _ _ _ _ l=>sizes l+1
def sizes:List (Tr β)→Nat
 | []=>0
 | x::l=>size x+sizes l
end
mutual
def depth:Tr β→Nat
 | .mk _ _ _ _ _ l=>depths l+1
def depths:List (Tr β)→Nat
 | []=>0
 | x::l=>max (depth x) (depths l)
end
theorem size_eq (x:Tr β):x.size=sizes x.kids+1:=by cases x;simp only [size,kids]
theorem depth_eq (x:Tr β):x.depth=depths x.kids+1:=by cases x;simp only [depth,kids]
theorem Ku:∀ (l m:List (Tr β)),sizes (l++m)=sizes l+sizes m
 | [],m=>by simp [sizes]
 | x::l,m=>by simp only [List.cons_append,sizes,Ku l m];omega
theorem Nm:∀ (l m:List (Tr β)),depths (l++m)=max (depths l) (depths m)
 | [],m=>by simp [depths]
 | x::l,m=>by simp only [List.cons_append,depths,Nm l m];omega
theorem size_pos (x:Tr β):1≤x.size:=by rw [size_eq];omega
theorem size_mem:∀ {l:List (Tr β)} {x:Tr β},x∈l→x.size≤sizes l
 | y::l,x,h=>by
  simp only [sizes]
  rcases List.mem_cons.1 h with rfl | h
  ·omega
  ·have:=size_mem h;omega
theorem Aoa {x c:Tr β} (h:c∈x.kids):c.size < x.size:=by
 have:=size_mem h;rw [size_eq x];omega
theorem ind {p:Tr β→Prop} (h:∀ x,(∀ c∈x.kids,p c)→p x) (x:Tr β):p x:=by
 suffices ∀ n x,size x≤n→p x from this _ x (Nat.le_refl _)
 intro n
 induction n with
 | zero=>intro x hx;have:=size_pos x;omega
 | succ n ih=>intro x hx;exact h x fun c hc=>ih c (by have:=Aoa hc;omega)
theorem take_snoc' {α:Type} {xs:List α} {i:Nat} {x:α} (hx:xs[i]?=some x):xs.take (i+1)=xs.take i++[x]:=by
 have hlt:i < xs.length:=by
  rcases Nat.lt_or_ge i xs.length with h | h
  ·exact h
  ·rw [List.getElem?_eq_none h] at hx;cases hx
 rw [List.take_succ_eq_append_getElem hlt];rw [List.getElem?_eq_getElem hlt] at hx;simp only [Option.some.injEq] at hx;rw [hx]
theorem sizes_snoc {l:List (Tr β)} {i:Nat} {x:Tr β} (h:l[i]?=some x):sizes (l.take (i+1))=sizes (l.take i)+x.size:=by
 rw [take_snoc' h,Ku];simp [sizes]
theorem depths_snoc {l:List (Tr β)} {i:Nat} {x:Tr β} (h:l[i]?=some x):depths (l.take (i+1))=max (depths (l.take i)) x.depth:=by
 rw [take_snoc' h,Nm];simp [depths]
theorem sizes_take_le (l:List (Tr β)) (i:Nat):sizes (l.take i)≤sizes l:=by
 conv=>rhs;rw [← List.take_append_drop i l]
 rw [Ku];omega
def Ok (A:Tr β→Prop):Nat→Tr β→Prop
 | 0,_=>False
 | n+1,x=>A x∧∀ c∈x.kids,Ok A n c
theorem Ok.depth {A:Tr β→Prop}:∀ {n:Nat} {x:Tr β},Ok A n x→x.depth≤n
 | 0,_,h=>h.elim
 | n+1,x,h=>by
  rw [depth_eq];have:∀ l:List (Tr β),(∀ c∈l,Ok A n c)→depths l≤n:=by
   intro l
   induction l with
   | nil=>intro _;simp [depths]
   | cons y l ih =>
    intro hl;have h1:=Ok.depth (hl y (by simp));have h2:=ih (fun c hc=>hl c (by simp [hc]));simp only [depths];omega
  have:=this _ h.2
  omega
theorem Ok.mono {A:Tr β→Prop}:∀ {n m:Nat} {x:Tr β},Ok A n x→n≤m→Ok A m x
 | 0,_,_,h,_=>h.elim
 | n+1,0,_,_,h=>by omega
 | n+1,m+1,x,h,hm=>⟨h.1,fun c hc=>Ok.mono (h.2 c hc) (by omega)⟩
end Tr
theorem Ag.imp {α:Type} {rd rd':Rd α} {sz:Nat} {G:Aq} {v:Value} {xs:List α} (h:∀ cs x,rd G cs x→rd' G cs x) (S:Ag rd sz G v xs):Ag rd' sz G v xs:=by
 obtain ⟨a,c,h1,h2,h3,h4⟩:=S;refine ⟨a,c,h1,h2,h3,?_⟩
 rcases h4 with h4 | ⟨b,o,h5,h6⟩
 ·exact Or.inl h4
 ·refine Or.inr ⟨b,o,h5,fun i x hx=>?_⟩;obtain ⟨cs,h7,h10,h8,h9⟩:=h6 i x hx
  exact ⟨cs,h7,h10,h8,h _ _ h9⟩
section
variable {β:Type} (rb:Rd β) (zb:Nat)
def Ve:Nat→Rd (Tr β)
 | 0=>fun _ _ _=>False
 | d+1=>fun G cs x=>∃ a1 c1 a2 c2,cs=[.int .u8 x.kind,.string (str x.tag),.string (str x.key),.slice a1 x.as.length c1,.string (str x.text),.slice a2 x.kids.length c2] ∧
   Au .u8 x.kind∧(x.tag.length≤9223372036854775807∧x.key.length≤9223372036854775807∧x.text.length≤9223372036854775807) ∧
   Ag rb zb G (.slice a1 x.as.length c1) x.as∧Ag (Ve d) 6 G (.slice a2 x.kids.length c2) x.kids
def rdT:Rd (Tr β):=fun G cs x=>∃ d,Ve rb zb d G cs x
variable {rb zb}
theorem Agz:∀ {d:Nat} {G:Aq} {cs:List Value} {x:Tr β},Ve rb zb d G cs x→Ve rb zb (d+1) G cs x
 | 0,_,_,_,h=>h.elim
 | d+1,G,cs,x,⟨a1,c1,a2,c2,h1,h2,h3,h4,h5⟩=>⟨a1,c1,a2,c2,h1,h2,h3,h4,h5.imp fun _ _ h=>Agz h⟩
theorem Aha {d e:Nat} {G:Aq} {cs:List Value} {x:Tr β} (h:Ve rb zb d G cs x) (hd:d≤e):Ve rb zb e G cs x:=by
 induction hd with
 | refl=>exact h
 | step _ ih=>exact Agz ih
theorem Wn (hm:Ho rb):∀ d:Nat,Ho (Ve rb zb d)
 | 0=>fun _ _ _ _ _ h=>h
 | d+1=>fun G G' cs x hg ⟨a1,c1,a2,c2,h1,h2,h3,h4,h5⟩=>⟨a1,c1,a2,c2,h1,h2,h3,h4.mono hm hg,h5.mono (Wn hm d) hg⟩
theorem Abm (hm:Ho rb):Ho (rdT rb zb):=fun G G' cs x hg ⟨d,h⟩=>⟨d,Wn hm d G G' cs x hg h⟩
theorem Dn {G : Aq} {cs : List Value} {x : Tr β} (h : rdT rb zb G cs x) : ∃ a1 c1 a2 c2, cs = [.int .u8 x.kind, .string (str x.tag), .string (str x.key), .slice a1 x.as.length c1, .string (str x.text), .slice a2 x.kids.length c2] ∧
      Au .u8 x.kind∧(x.tag.length≤9223372036854775807∧x.key.length≤9223372036854775807∧x.text.length≤9223372036854775807) ∧
      Ag rb zb G (.slice a1 x.as.length c1) x.as∧Ag (rdT rb zb) 6 G (.slice a2 x.kids.length c2) x.kids:=by
  obtain ⟨d,h⟩:=h
  cases d with
  | zero=>exact h.elim
  | succ d =>
    obtain ⟨a1,c1,a2,c2,h1,h2,h3,h4,h5⟩:=h
    exact ⟨a1,c1,a2,c2,h1,h2,h3,h4,h5.imp fun _ _ h=>⟨d,h⟩⟩
theorem Akc {G:Aq} {v:Value} {xs:List (Tr β)} (S:Ag (rdT rb zb) 6 G v xs):∃ d,Ag (Ve rb zb d) 6 G v xs:=by
 obtain ⟨a,c,h1,h2,h3,h4⟩:=S
 rcases h4 with h4 | ⟨b,o,h5,h6⟩
 ·exact ⟨0,a,c,h1,h2,h3,Or.inl h4⟩
 ·have key:∀ n,∃ d,∀ i x,i < n→xs[i]?=some x→∃ cs:List Value,cs.length=6∧(∀ u∈cs,u.oneCell' = true)∧At G b (o+i * 6) cs∧Ve rb zb d G cs x:=by
   intro n
   induction n with
   | zero=>exact ⟨0,fun i x h=>by omega⟩
   | succ n ih =>
    obtain ⟨d,hd⟩:=ih
    cases hx:xs[n]? with
    | none =>
     refine ⟨d,fun i x hi hi2=>?_⟩
     rcases Nat.lt_or_ge i n with h | h
     ·exact hd i x h hi2
     ·have:i=n:=by omega
      subst this;rw [hx] at hi2;cases hi2
    | some y =>
     obtain ⟨cs,q1,q2,q3,e,q4⟩:=h6 n y hx;refine ⟨max d e,fun i x hi hi2=>?_⟩
     rcases Nat.lt_or_ge i n with h | h
     ·obtain ⟨cs',r1,r2,r3,r4⟩:=hd i x h hi2
      exact ⟨cs',r1,r2,r3,Aha r4 (by omega)⟩
     ·have:i=n:=by omega
      subst this;rw [hx] at hi2;simp only [Option.some.injEq] at hi2;subst hi2
      exact ⟨cs,q1,q2,q3,Aha q4 (by omega)⟩
  obtain ⟨d,hd⟩:=key xs.length;refine ⟨d,a,c,h1,h2,h3,Or.inr ⟨b,o,h5,fun i x hx=>hd i x ?_ hx⟩⟩
  rcases Nat.lt_or_ge i xs.length with h | h
  ·exact h
  ·rw [List.getElem?_eq_none h] at hx;cases hx
theorem Ff {G:Aq} {a1 a2:Option Addr} {c1 c2:Nat} {x:Tr β} (h2:Au .u8 x.kind) (h3:x.tag.length≤9223372036854775807∧x.key.length≤9223372036854775807∧x.text.length≤9223372036854775807)
  (h4:Ag rb zb G (.slice a1 x.as.length c1) x.as) (h5:Ag (rdT rb zb) 6 G (.slice a2 x.kids.length c2) x.kids) :
  rdT rb zb G [.int .u8 x.kind,.string (str x.tag),.string (str x.key),.slice a1 x.as.length c1,.string (str x.text),.slice a2 x.kids.length c2] x:=by
 obtain ⟨d,h5⟩:=Akc h5
 exact ⟨d+1,a1,c1,a2,c2,rfl,h2,h3,h4,h5⟩
end
section
variable {P:Program} {w0 w:World} {G:Aq} {L:List Res} {ops:Array Oper} {Q:Exit→Act→World→Prop} {n:Nat} {a:Act} {e:Env} {d:Nat} {t:TypeId} {p:String} {af:Array Edge} {r:List Oper}
theorem Ajt {f:FuncId} {cal:Operand} {args:List Operand} {ats:Array TypeId} {vs caps:List Value} {Φ:Value→Prop}
  (F:Fits n a e) (hE:Ent P f) (hc:ev e cal=some (.func (.func f) #[] caps.toArray)) (hv:evs e args=some vs) (hd:Nat.ble (d+1) n=true) (hs:Calls P f (vs++caps).toArray w (Bu w0 G L Φ))
  (k:∀ v w' a',Mem w0 G L w'→Φ v→Fits n a' ((d,v)::e)→rl P ops Q r a' w') :
  rl P ops Q (⟨some d,.call ⟨.value cal,args.toArray,ats⟩,t,p,af,none⟩::r) a w:=by
 refine H7 F hE hc hv hd hs fun x w' hx=>?_
 cases x with
 | returned v=>obtain ⟨h1,h2⟩:=hx;exact ⟨v,rfl,fun a' F'=>k v w' a' h1 h2 F'⟩
 | panicked c=>exact hx.elim
 | outgrown=>exact hx.elim
theorem Akk {C:World→Prop} {r:List (PK × Oper)} {q:PK} {op:Op} {j g:Nat} {want:Bool} (F:Fits n a e) (hj:(ops[j]?).bind (·.dst)=some g) (hb:look e g=some undef) (hd:Nat.ble (d+1) n=true)
  (k:∀ a',Fits n a' ((d,undef)::e)→pk P ops Q C r a' w):pk P ops Q C ((q,⟨some d,op,t,p,af,some (j,want)⟩)::r) a w:=by
 have hy:yielded ops a.tmps j=none:=by simp [yielded,hj,F.slot _ _ hb,undef]
 have hne:Region.wanted ⟨some d,op,t,p,af,some (j,want)⟩ (yielded ops a.tmps)=false:=by simp [Region.wanted,hy]
 cases q with
 | free=>exact ⟨undef,Or.inr ⟨hne,rfl⟩,k _ (F.put hd)⟩
 | pure=>exact ⟨undef,Or.inr ⟨hne,rfl⟩,k _ (F.put hd)⟩
 | keep=>exact ⟨fun h=>(by rw [hne] at h;cases h),fun _=>k _ (F.put hd)⟩
 | chg=>exact ⟨fun h=>(by rw [hne] at h;cases h),fun _=>k _ (F.put hd)⟩
theorem At.of_cells {b:Nat} {cs:List Value} {ty:TypeId} {f:Nat × Nat} (h:G b=some (.cells cs.toArray ty f)):At G b 0 cs:=by
 intro j v hj;unfold Hc;rw [h]
 simpa using hj
theorem Aqq {fn:Func} (F:Fits n a e) {t u ty1 ty2 k1 k2 b1 b2:Nat} {x y:Value} {R:Ending→World→Prop} (M:Mem w0 G L w) (hk1:L[k1]?=some (.blk b1 [x] ty1)) (hk2:L[k2]?=some (.blk b2 [y] ty2)) (hf:fn.results = #[.cell t ty1,.cell u ty2])
  (h1:(tk P ty1).agg=some false) (h2:(tk P ty2).agg=some false) (hv1:look e t=some (.pointer (some ⟨b1,0,none⟩))) (hv2:look e u=some (.pointer (some ⟨b2,0,none⟩))) (h:R (.returned (.tuple #[x,y])) w):bodyPost P fn R .ret a w:=by
 refine K6 F (v:=.tuple #[x,y]) ?_ h;have l1:(loadVar ty1 ⟨b1,0,none⟩).run P w=.ok x w:=Gm h1 (M.cellL hk1 rfl);have l2:(loadVar ty2 ⟨b2,0,none⟩).run P w=.ok y w:=Gm h2 (M.cellL hk2 rfl)
 simp [results,hf,F.slot _ _ hv1,F.slot _ _ hv2,asAddr,l1,l2]
end
section
variable {P:Program} {w0 w:World} {G:Aq} {L:List Res} {ρ:Operand→Value} {dd:Option Tmp} {t:TypeId} {p:String} {af:Array Edge} {g:Option (Nat × Bool)}
theorem U6 {ta et:TypeId} {i:TI} {x y:Operand} {n b l:Nat} {k:IntKind} {z:Int} (ha:tk P ta=.array n et) (ht:TOK P et i) (h1:i.size=1) (hx:ρ x=.pointer (some ⟨b,0,none⟩)) (hy:ρ y=.int k z) (hz:z=(l:Int)) (hl:l < n) :
  (execOp ρ ⟨dd,.slice ta x (some y) none none,t,p,af,g⟩).run P w=.ok (.value (.slice (some ⟨b,l,none⟩) (n - l) (n - l))) w:=by
 subst hz;have c1:(0:Int)≤(l:Int):=by omega
 have c2:(l:Int)≤(n:Int):=by omega
 have e:¬ (n - l=0):=by omega
 have c3:((n:Int) - (l:Int)).toNat=n - l:=by omega
 simp [execOp,Instr.sliceAt,B0 (Dz ha),hx,Instr.sureAddr,Instr.sliceBounds,Instr.sliceBound,hy,asIntOf,c1,ht.sizeOf,D9,h1,Nat.le_of_lt hl]
 intro h
 omega
theorem U4 {src dst e bt:TypeId} {x:Operand} {k b o n c:Nat} {l:List UInt8} (M:Mem w0 G L w) (hk:L[k]?=some (.blk b (bc l) bt)) (hs:tk P src=.slice e) (he:tk P e=.int .u8) (hd:tk P dst=.str)
  (hx:ρ x=.slice (some ⟨b,o,none⟩) n c) (hn:o+n=l.length):(execOp ρ ⟨dd,.convert src dst x,t,p,af,g⟩).run P w=.ok (.value (.string (str (l.drop o)))) w:=by
 have:=Ut (P:=P) (w:=w) (b:=b) (o:=o) (n:=n) (c:=c) (l:=l.drop o) hs he hd (by rw [List.length_drop];omega) (fun j hj=>by
  have h1:(bc (l.drop o))[j]?=(bc l)[o+j]?:=by
   simp only [bc,List.getElem?_map,List.getElem?_drop]
  rw [h1];have hjl:o+j < (bc l).length:=by rw [Uy];omega
  rw [List.getElem?_eq_getElem hjl]
  exact M.cellL hk (List.getElem?_eq_getElem hjl))
 simp [execOp,hx,this]
theorem bc_set (l:List UInt8) (o:Nat) (b:UInt8):(bc l).set o (.int .u8 (nb b))=bc (l.set o b):=by
 simp [bc,List.map_set]
end
section
variable {P:Program} {w0 w:World} {G:Aq} {L:List Res} {ops:Array Oper} {Q:Exit→Act→World→Prop} {n:Nat} {a:Act} {e:Env} {d:Nat} {t:TypeId} {p:String} {af:Array Edge} {r:List Oper}
theorem Ox {α:Type} {rd:Rd α} {sz:Nat} {s et:TypeId} {i:TI} {x y:Operand} {kl kc:IntKind} {l:Nat} {zl zc:Int} {Z:α} (F:Fits n a e) (M:Mem w0 G L w) (hs:tk P s=.slice et) (ht:TOK P et i) (hsz:i.size=sz) (hpos:0 < sz) (hz:i.zero.cells.size=i.size)
  (hx:ev e x=some (.int kl zl)) (hzl:zl=(l:Int)) (hy:ev e y=some (.int kc zc)) (hzc:zc=(l:Int)) (hb:i.bytes * l≤281474976710656) (h63:l≤9223372036854775807)
  (h1:∀ u∈i.zero.cells.toList,u.oneCell' = true) (hr:rd G i.zero.cells.toList Z) (hd:Nat.ble (d+1) n=true)
  (k:∀ b cs w' a',Mem w0 G (.row (.slice (some ⟨b,0,none⟩) l l) l cs et sz::L) w'→Els rd sz G cs (List.replicate l Z)→Fits n a' ((d,.slice (some ⟨b,0,none⟩) l l)::e)→rl P ops Q r a' w') :
  rl P ops Q (⟨some d,.makeSlice s x y,t,p,af,none⟩::r) a w:=by
 subst hsz;refine Bf F (Lx hs ht (F.ev hx) hzl (F.ev hy) hzc (Nat.le_refl _) hb h63) hd fun a' F'=>k _ (List.replicate l i.zero.cells.toList).flatten _ a' ?_ (Els.replicate (by simpa using hz) hr l) F';have hm:(madeCells i.zero.cells (l * i.size))=((List.replicate l i.zero.cells.toList).flatten++[]).toArray:=by
  rw [List.append_nil,← R6 _,hz]
 rw [hm];have hl:(List.replicate l i.zero.cells.toList).flatten.length=l * i.size:=by
  rw [← R6 _,Array.length_toList,size_madeCells,hz]
 have h63':l≤maxLen:=h63;refine M.newrow (spare:=[]) ?_ hl (by rw [List.append_nil];exact hl) (Nat.le_refl _) h63';intro u hu;obtain ⟨q,hq,hu⟩:=List.mem_flatten.1 hu;rw [(List.mem_replicate.1 hq).2] at hu
 exact h1 u hu
end
section
variable {P:Program} {w0 w:World} {G:Aq} {L:List Res}
theorem F6 {fn:Func} {n:Nat} {a:Act} {e:Env} (F:Fits n a e) {t ty k b:Nat} {i:TI} {cs:List Value} {R:Ending→World→Prop} (M:Mem w0 G L w) (hk:L[k]?=some (.blk b cs ty)) (hf:fn.results = #[.cell t ty])
  (hty:TOK P ty i) (hag:i.k.agg=some true) (hl:cs.length=i.size) (hv:look e t=some (.pointer (some ⟨b,0,none⟩))) (h:R (.returned (.agg cs.toArray)) w):bodyPost P fn R .ret a w:=by
 refine K6 F (v:=.agg cs.toArray) ?_ h;have h1:(loadVar ty ⟨b,0,none⟩).run P w=.ok (.agg cs.toArray) w:=Gl hty hag hl (M.cellsL hk (by rw [List.drop_zero,← hl,List.take_length]))
 simp [results,hf,F.slot _ _ hv,asAddr,h1]
end
section
variable {P:Program} {ops:Array Oper} {Q:Exit→Act→World→Prop} {C:World→Prop} {ch:List Nat}
theorem Rw {i:Nat} {oi:Oper} {v:Value} {fr:Bool} (hi:ops[i]?=some oi) (hsel:∀ (j:Nat) (o:Oper) cs b,ops[j]?=some o→o.op≠.select cs b) (hQ:∀ c a w,Q (.panic c) (a.put oi.dst v) w→Q (.panic c) a w)
  (D:Nat→Bool) (hD:∀ (j:Nat) (oj:Oper),ops[j]?=some oj→D j=true→∃ e∈oj.after,Region.binds .any e=true∧(e.on=i∨D e.on=true)) :
  ∀ (fuel:Nat) (C:World→Prop) (listed:Array Bool) (a:Act) (w:World),C w →
   (∀ j oj,ops[j]?=some oj→j≠i→listed.getD j true=false→D j=false→oi.apart ops oj=true∧(fr=true∨inL ch j=false)) →
   (∀ j,D j=true→listed.getD j true=false)→i∈Region.ready .any ops listed→(if fr=true then E2 P ops (fun _=>True) oi v a else E2 P ops C oi v a)→Vm P ops Q ch C fuel (listed.setIfInBounds i true) (a.put oi.dst v) w→Vm P ops Q ch C (fuel+1) listed a w:=by
 have gC:∀ {C:World→Prop} {a:Act},(if fr=true then E2 P ops (fun _=>True) oi v a else E2 P ops C oi v a)→E2 P ops C oi v a:=by
  intro C a h
  split at h
  ·exact h.mono fun _ _=>trivial
  ·exact h
 intro fuel
 induction fuel with
 | zero =>
  intro C listed a w hC _ _ hr hy H;refine ⟨fun h=>(by rw [h] at hr;cases hr),fun j hj=>?_⟩
  by_cases hji:j=i
  ·subst hji;exact (gC hy).op hi hC ⟨C,hC,fun _ _ h=>h,H⟩
  ·have:=ready_mono hj hji;rw [H.1] at this
   cases this
 | succ fuel ih =>
  intro C listed a w hC hf hu hr hy H;refine ⟨fun h=>(by rw [h] at hr;cases hr),fun j hj=>?_⟩
  by_cases hji:j=i
  ·subst hji;exact (gC hy).op hi hC ⟨C,hC,fun _ _ h=>h,H⟩
  ·obtain ⟨hju,oj,hoj,hall⟩:=mem_ready.1 hj;have hno:D j=false:=by
    rw [← Bool.not_eq_true];intro hdj;obtain ⟨e,he,hb,hor⟩:=hD j oj hoj hdj
    rcases hor with heq | hde
    ·exact Ra hoj hj hr he hb heq
    ·have h1:(listed[e.on]?).getD false=true:=by simpa using hall e he hb
     have h0:(listed[e.on]?).getD true=false:=by simpa using hu e.on hde
     cases hq:listed[e.on]? with
     | none=>rw [hq] at h1;cases h1
     | some b=>rw [hq] at h1 h0;simp only [Option.getD_some] at h1 h0;rw [h1] at h0;cases h0
   obtain ⟨hap,hfr⟩:=hf j oj hoj hji hju hno;have key:∀ {D:World→Prop},E2 P ops D oi v a→(∀ (a':Act) (C':World→Prop),E2 P ops D oi v a'→(inL ch j=false→∀ w,C' w→C w)→(if fr=true then E2 P ops (fun _=>True) oi v a' else E2 P ops C' oi v a')) →
     wpOp P ops Q j (fun a' w'=>∃ C':World→Prop,C' w'∧(inL ch j=false→∀ w,C' w→C w)∧Vm P ops Q ch C' (fuel+1) (listed.setIfInBounds j true) a' w') a w:=by
    intro D hg hstep;have h2:=Tq hoj hap (hsel i oi · · hi) (hsel j oj · · hoj) hQ hg (H.2 j (ready_mono hj hji));refine wpOp_mono (fun a' w' h3=>?_) h2;obtain ⟨h4,C',h5,h7,h6⟩:=h3;refine ⟨C',h5,h7,ih C' _ a' w' h5 ?_ ?_ (ready_mono hr (Ne.symm hji)) (hstep a' C' h4 h7) ?_⟩
    ·intro k ok hk hki hun hno';refine hf k ok hk hki ?_ hno'
     by_cases hjk:j=k
     ·subst hjk;exact hju
     ·rw [getD_set_ne true hjk] at hun;exact hun
    ·intro k hk;have hjk:j≠k:=by rintro rfl;rw [hno] at hk;cases hk
     rw [getD_set_ne true hjk];exact hu k hk
    ·rw [Array.setIfInBounds_comm _ _ hji]
     exact h6
   cases fr with
   | true =>
    simp only [if_true] at hy
    exact key hy fun a' C' h _=>by simpa using h
   | false =>
    simp only [Bool.false_eq_true,if_false] at hy;have hk:inL ch j=false:=by simpa using hfr
    exact key hy fun a' C' h h7=>by simpa using h.mono (h7 hk)
def Nb (ops:Array Oper) (i:Nat):Nat→Nat→Bool
 | 0,_=>false
 | f+1,j=>match ops[j]? with
  | none=>false
  | some oj=>oj.after.any fun e=>Region.binds .any e && (Nat.beq e.on i || Nb ops i f e.on)
theorem Xc {i f j:Nat} {oj:Oper} (hj:ops[j]?=some oj) (h:Nb ops i (f+1) j=true):∃ e∈oj.after,Region.binds .any e=true∧(e.on=i∨Nb ops i f e.on=true):=by
 simp only [Nb,hj] at h;obtain ⟨e,he,hb⟩:=Array.any_eq_true'.1 h;simp only [Bool.and_eq_true,Bool.or_eq_true] at hb
 exact ⟨e,he,hb.1,hb.2.imp Nat.eq_of_beq_eq_true id⟩
theorem Air {i:Nat}:∀ {f j:Nat},Nb ops i f j=true→Nb ops i (f+1) j=true
 | 0,_,h=>by cases h
 | f+1,j,h=>by
  cases hj:ops[j]? with
  | none=>simp [Nb,hj] at h
  | some oj =>
   obtain ⟨e,he,hb,hor⟩:=Xc hj h;simp only [Nb,hj];refine Array.any_eq_true'.2 ⟨e,he,?_⟩;rw [hb,Bool.true_and,Bool.or_eq_true]
   rcases hor with h1 | h1
   ·left;rw [h1];exact Nat.beq_refl i
   ·right
    have:=Air h1
    simpa [Nb] using this
theorem Ru {i f:Nat} (j:Nat) (oj:Oper) (hj:ops[j]?=some oj) (h:Nb ops i f j=true):∃ e∈oj.after,Region.binds .any e=true∧(e.on=i∨Nb ops i f e.on=true):=by
 cases f with
 | zero=>cases h
 | succ f =>
  obtain ⟨e,he,hb,hor⟩:=Xc hj h
  exact ⟨e,he,hb,hor.imp id Air⟩
def Zg (ops:Array Oper) (fr:Bool) (ch:List Nat) (i:Nat) (listed:Array Bool):Bool :=
 match ops[i]? with
 | none=>false
 | some oi=>(List.range ops.size).all fun j=>match ops[j]? with
  | none=>true
  | some oj=>if Nb ops i 5 j then !(listed.getD j true) else (Nat.beq j i || listed.getD j true || (oi.apart ops oj && (fr || !inL ch j)))
theorem J2 {fr:Bool} {i:Nat} {oi:Oper} {listed:Array Bool} (hi:ops[i]?=some oi) (hf:Zg ops fr ch i listed=true) :
  (∀ j oj,ops[j]?=some oj→j≠i→listed.getD j true=false→Nb ops i 5 j=false→oi.apart ops oj=true∧(fr=true∨inL ch j=false))∧(∀ j,Nb ops i 5 j=true→listed.getD j true=false):=by
 have key:∀ j oj,ops[j]?=some oj→(if Nb ops i 5 j then !(listed.getD j true) else (Nat.beq j i || listed.getD j true || (oi.apart ops oj && (fr || !inL ch j))))=true:=by
  intro j oj hj;unfold Zg at hf;simp only [hi] at hf;have hlt:j < ops.size:=by
   rcases Nat.lt_or_ge j ops.size with h' | h'
   ·exact h'
   ·rw [Array.getElem?_eq_none h'] at hj;cases hj
  have:=List.all_eq_true.1 hf j (List.mem_range.2 hlt);simp only [hj] at this
  exact this
 refine ⟨fun j oj hj hji hun hd=>?_,fun j hd=>?_⟩
 ·have h:=key j oj hj;rw [hd,if_neg (by simp)] at h;simp only [Bool.or_eq_true,Bool.and_eq_true] at h
  rcases h with (h1 | h1) | h1
  ·exact absurd (Nat.eq_of_beq_eq_true h1) hji
  ·rw [h1] at hun;cases hun
  ·exact ⟨h1.1,by simpa using h1.2⟩
 ·cases hj:ops[j]? with
  | none=>simp [Nb,hj] at hd
  | some oj =>
   have h:=key j oj hj;rw [hd,if_pos rfl] at h
   simpa using h
def I8 (ops:Array Oper) (ch:List Nat):List (PK × Nat)→Array Bool→Bool
 | [],listed=>(Region.ready .any ops listed).isEmpty
 | (.free,i)::r,listed=>(Region.ready .any ops listed).any (Nat.beq i) && Zg ops true ch i listed && I8 ops ch r (listed.setIfInBounds i true)
 | (.pure,i)::r,listed=>(Region.ready .any ops listed).any (Nat.beq i) && Zg ops false ch i listed && I8 ops ch r (listed.setIfInBounds i true)
 | (.keep,i)::r,listed=>(match Region.ready .any ops listed with | [j]=>Nat.beq i j | _=>false) && I8 ops ch r (listed.setIfInBounds i true)
 | (.chg,i)::r,listed=>inL ch i && (match Region.ready .any ops listed with | [j]=>Nat.beq i j | _=>false) && I8 ops ch r (listed.setIfInBounds i true)
theorem Gk (hsel:∀ (j:Nat) (o:Oper) cs b,ops[j]?=some o→o.op≠.select cs b) (hQ:∀ c a d v w,Q (.panic c) (a.put d v) w→Q (.panic c) a w) :
  ∀ (order:List (PK × Nat)) (C:World→Prop) (listed:Array Bool) (plan:List (PK × Oper)) (a:Act) (w:World),order.map (fun x=>(x.1,ops[x.2]?))=plan.map (fun x=>(x.1,some x.2))→I8 ops ch order listed=true→C w →
   pk P ops Q C plan a w→Vm P ops Q ch C order.length listed a w
 | [],C,listed,plan,a,w,hp,hok,_,h=>by
  cases plan with
  | nil=>exact ⟨by simpa [I8] using hok,h⟩
  | cons x y=>simp at hp
 | (k,i)::order,C,listed,plan,a,w,hp,hok,hC,h=>by
  cases plan with
  | nil=>simp at hp
  | cons x plan =>
   obtain ⟨b,o⟩:=x;simp only [List.map_cons,List.cons.injEq,Prod.mk.injEq] at hp;obtain ⟨⟨rfl,hi⟩,hp⟩:=hp;have hin:∀ {l:List Nat},l.any (Nat.beq i)=true→i∈l:=by
    intro l hl;obtain ⟨j,hj,hb⟩:=List.any_eq_true.1 hl;rw [Nat.eq_of_beq_eq_true hb];exact hj
   have one:(match Region.ready .any ops listed with | [j]=>Nat.beq i j | _=>false)=true→Region.ready .any ops listed=[i]:=by
    intro hr
    split at hr
    ·rename_i j hj;rw [hj,Nat.eq_of_beq_eq_true hr]
    ·cases hr
   cases k with
   | free =>
    simp only [I8,Bool.and_eq_true] at hok;obtain ⟨⟨hr,hf⟩,hok⟩:=hok;obtain ⟨v,hy,h'⟩:=h
    exact Rw (fr:=true) hi hsel (fun c a w=>hQ c a o.dst v w) _ Ru _ C listed a w hC (J2 hi hf).1 (J2 hi hf).2 (hin hr) (by simpa using hy) (Gk hsel hQ order C _ plan _ w hp hok hC h')
   | pure =>
    simp only [I8,Bool.and_eq_true] at hok;obtain ⟨⟨hr,hf⟩,hok⟩:=hok;obtain ⟨v,hy,h'⟩:=h
    exact Rw (fr:=false) hi hsel (fun c a w=>hQ c a o.dst v w) _ Ru _ C listed a w hC (J2 hi hf).1 (J2 hi hf).2 (hin hr) (by simpa using hy) (Gk hsel hQ order C _ plan _ w hp hok hC h')
   | keep =>
    simp only [I8,Bool.and_eq_true] at hok;obtain ⟨hr,hok⟩:=hok;have hready:=one hr;refine ⟨fun h0=>(by rw [hready] at h0;cases h0),fun j hj=>?_⟩;rw [hready] at hj;have hji:j=i:=by simpa using hj
    subst hji;obtain ⟨h1,h2⟩:=h;unfold wpOp;simp only [hi]
    by_cases hw:Region.wanted o (yielded ops a.tmps)=true
    ·rw [if_pos hw]
     left
     exact Oper.wp_mono (fun a' w' hk=>by
      obtain ⟨C',h3,h4,h5⟩:=hk
      exact ⟨C',h3,fun _=>h4,Gk hsel hQ order C' _ plan a' w' hp hok h3 h5⟩) (h1 hw)
    ·rw [if_neg hw]
     exact ⟨C,hC,fun _ _ h=>h,Gk hsel hQ order C _ plan _ w hp hok hC (h2 (by simpa using hw))⟩
   | chg =>
    simp only [I8,Bool.and_eq_true] at hok;obtain ⟨⟨hch,hr⟩,hok⟩:=hok;have hready:=one hr;refine ⟨fun h0=>(by rw [hready] at h0;cases h0),fun j hj=>?_⟩;rw [hready] at hj;have hji:j=i:=by simpa using hj
    subst hji;obtain ⟨h1,h2⟩:=h;unfold wpOp;simp only [hi]
    by_cases hw:Region.wanted o (yielded ops a.tmps)=true
    ·rw [if_pos hw]
     left
     exact Oper.wp_mono (fun a' w' hk=>by
      obtain ⟨C',h3,h5⟩:=hk
      exact ⟨C',h3,fun h=>(by rw [hch] at h;cases h),Gk hsel hQ order C' _ plan a' w' hp hok h3 h5⟩) (h1 hw)
    ·rw [if_neg hw]
     exact ⟨C,hC,fun h=>(by rw [hch] at h;cases h),Gk hsel hQ order C _ plan _ w hp hok hC (h2 (by simpa using hw))⟩
def Tm (l:List Oper) (ch:List Nat) (order:List (PK × Nat)):Bool :=
 Region.noSelect l.toArray && order.all (fun x=>Nat.ble (x.2+1) l.length) && Nat.beq order.length l.length && I8 l.toArray ch order (Array.replicate l.length false)
theorem Og {id:Nat} {l:List Oper} {a:Act} {w:World} (order:List (PK × Nat)) (ch:List Nat) (C:World→Prop) (hm:P.follows .mixedOrders=true) (hk:Tm l ch order=true)
  (hQ:∀ c a d v w,Q (.panic c) (a.put d v) w→Q (.panic c) a w) (hC:C { w with drawn:=w.drawn+1 }) (h:pk P l.toArray Q C (Mo l.toArray order) a { w with drawn:=w.drawn+1 }):(Code.region id l.toArray true).wp P Q a w:=by
 simp only [Tm,Bool.and_eq_true] at hk;obtain ⟨⟨⟨hs,hr⟩,hn⟩,hok⟩:=hk;refine wp_region_any hm (Mf (ch:=ch) _ C _ _ _ ?_);have hn':=Nat.eq_of_beq_eq_true hn;have:=Gk (P:=P) (Region.noSelect_spec hs) hQ order C (Array.replicate l.length false) _ a _ (L5 order (by simpa using hr)) hok hC h;rw [hn'] at this
 simpa using this
end
section
variable {P:Program} {w:World} {ρ:Operand→Value} {dd:Option Tmp} {t:TypeId} {p:String} {af:Array Edge} {g:Option (Nat × Bool)}
end
end Go.Y
namespace Go.Y
open Go Go.RowKit
def EV (n:Nat) (e:Env) (Φ:Act→Prop):Prop:=∀ a,Fits n a e→Φ a
theorem Fits.go {n:Nat} {a:Act} {e:Env} {Φ:Act→Prop} (F:Fits n a e) (h:EV n e Φ):Φ a:=h a F
def evd (n d:Nat) (e:Env) (x:Operand):Option Value:=match Nat.ble (d+1) n with
 | true=>ev e x
 | false=>none
theorem Bk {n d:Nat} {e:Env} {x:Operand} {v:Value} (h:evd n d e x=some v):Nat.ble (d+1) n=true∧ev e x=some v:=by
 unfold evd at h;split at h
 ·rename_i h1;exact ⟨h1,h⟩
 ·cases h
def Pd (fs:List (Nat × Nat × Nat)) (f:Nat):Option Nat:=match fs[f]? with
 | some (o,s,_)=>match Nat.beq s 0 with
  | false=>some o
  | true=>none
 | none=>none
theorem Aqp {fs:List (Nat × Nat × Nat)} {f o:Nat} (h:Pd fs f=some o):∃ s t,fs[f]?=some (o,s,t)∧Nat.beq s 0=false:=by
 unfold Pd at h;split at h
 ·rename_i o' s t h1;split at h
  ·rename_i h2;simp only [Option.some.injEq] at h;subst h;exact ⟨s,t,h1,h2⟩
  ·cases h
 ·cases h
def gdv (n d:Nat) (ops:Array Oper) (e:Env) (j:Nat):Option Value:=match Nat.ble (d+1) n with
 | true=>match (ops[j]?).bind (·.dst) with
  | some g=>look e g
  | none=>none
 | false=>none
theorem Jf {n d:Nat} {ops:Array Oper} {e:Env} {j:Nat} {v:Value} (h:gdv n d ops e j=some v):Nat.ble (d+1) n=true∧∃ g,(ops[j]?).bind (·.dst)=some g∧look e g=some v:=by
 unfold gdv at h;split at h
 ·rename_i h1;split at h
  ·rename_i g h2;exact ⟨h1,g,h2,h⟩
  ·cases h
 ·cases h
section
variable {P:Program} {ops:Array Oper} {Q:Exit→Act→World→Prop} {K:Act→World→Prop} {n d:Nat} {w w0 w':World} {e:Env} {G:Aq} {L:List Res} {op:Op} {t:TypeId} {p:String} {af:Array Edge} {r:List Oper} {v:Value} {x y z:Operand}
theorem Cj {c c':Code} (h:EV n e fun a=>c.wp P (Exit.then (fun a w=>c'.wp P Q a w) Q) a w):EV n e fun a=>(Code.seq c c').wp P Q a w:=fun a F=>wp_seq (h a F)
theorem F3 (h:EV n e fun a=>Q .normal a w):EV n e fun a=>Code.skip.wp P Q a w:=fun a F=>wp_skip (h a F)
theorem J4 {id:Nat} {c:Code} (h:EV n e fun a=>c.wp P (Exit.inBlock id Q) a w):EV n e fun a=>(Code.block id c).wp P Q a w:=fun a F=>wp_block (h a F)
theorem Auf {id:Nat} (h:EV n e fun a=>Q (.exit id) a w):EV n e fun a=>(Code.exit id).wp P Q a w:=fun a F=>wp_exit (h a F)
theorem E9 (h:EV n e fun a=>Q .ret a w):EV n e fun a=>Code.ret.wp P Q a w:=fun a F=>wp_ret (h a F)
theorem J3 {id:Nat} {l:List Oper} (h:EV n e fun a=>rl P l.toArray Q l a w):EV n e fun a=>(Code.region id l.toArray false).wp P Q a w:=fun a F=>Ami (h a F)
theorem Ao (h:EV n e fun a=>Q .normal a w):EV n e fun a=>rl P ops Q [] a w:=h
theorem F1 (h:EV n e fun a=>K a w):EV n e fun a=>Exit.then K Q .normal a w:=h
theorem e_te {id:Nat} (h:EV n e fun a=>Q (.exit id) a w):EV n e fun a=>Exit.then K Q (.exit id) a w:=h
theorem Gr (h:EV n e fun a=>Q .ret a w):EV n e fun a=>Exit.then K Q .ret a w:=h
theorem e_bn {id:Nat} (h:EV n e fun a=>Q .normal a w):EV n e fun a=>Exit.inBlock id Q .normal a w:=h
theorem e_bh {id:Nat} (h:EV n e fun a=>Q .normal a w):EV n e fun a=>Exit.inBlock id Q (.exit id) a w:=fun a F=>q_bh (h a F)
theorem e_be {id j:Nat} (hj:Nat.beq j id=false) (h:EV n e fun a=>Q (.exit j) a w):EV n e fun a=>Exit.inBlock id Q (.exit j) a w:=fun a F=>q_be hj (h a F)
theorem Kd {id:Nat} (h:EV n e fun a=>Q .ret a w):EV n e fun a=>Exit.inBlock id Q .ret a w:=h
theorem Ae {c c':Code} {b:Bool} (hc:ev e x=some (.bool b)) (ht:b=true→EV n e fun a=>c.wp P Q a w) (hf:b=false→EV n e fun a=>c'.wp P Q a w):EV n e fun a=>(Code.cond x c c').wp P Q a w :=
 fun a F=>w_cond F hc (fun h=>ht h a F) (fun h=>hf h a F)
theorem Aug {c c':Code} {b:Bool} (hc:ev e x=some (.bool b)) (hb:b=true) (k:EV n e fun a=>c.wp P Q a w):EV n e fun a=>(Code.cond x c c').wp P Q a w:=fun a F=>Amk F hc hb (k a F)
theorem Auh {c c':Code} {b:Bool} (hc:ev e x=some (.bool b)) (hb:b=false) (k:EV n e fun a=>c'.wp P Q a w):EV n e fun a=>(Code.cond x c c').wp P Q a w:=fun a F=>Aml F hc hb (k a F)
theorem Al {f:FuncId} {fn:Func} {c:Code} {vs:List Value} {R:Ending→World→Prop} (hf:P.funcs[f]?=some fn) (hb:fn.body=some c) (hn:fn.ntmps=n) (hs:Nat.ble vs.length n=true)
  (h:EV n (Rt 0 vs) fun a=>c.wp P (bodyPost P fn R) a w):Calls P f vs.toArray w R:=Ada hf hb hn hs h
section
variable {fn:Func} {R:Ending→World→Prop} {u s:Nat} {v1 v2:Value}
theorem Ad {t:Nat} (hf:fn.results = #[.tmp t]) (hv:look e t=some v) (h:R (.returned v) w):EV n e fun a=>bodyPost P fn R .ret a w:=fun _ F=>fin1 F hf hv h
theorem C8 {t:Nat} (hf:fn.results = #[.tmp t,.tmp u]) (hv:look e t=some v) (hx:look e u=some v1) (h:R (.returned (.tuple #[v,v1])) w):EV n e fun a=>bodyPost P fn R .ret a w:=fun _ F=>fin2 F hf hv hx h
theorem Zn {t:Nat} (hf:fn.results = #[.tmp t,.tmp u,.tmp s]) (hv:look e t=some v) (hx:look e u=some v1) (hy:look e s=some v2) (h:R (.returned (.tuple #[v,v1,v2])) w):EV n e fun a=>bodyPost P fn R .ret a w:=fun _ F=>fin3 F hf hv hx hy h
end
theorem Am (hr:∀ a,Fits n a e→(execOp a.eval ⟨some d,op,t,p,af,none⟩).run P w=.ok (.value v) w') (hd:Nat.ble (d+1) n=true)
  (k:EV n ((d,v)::e) fun a=>rl P ops Q r a w'):EV n e fun a=>rl P ops Q (⟨some d,op,t,p,af,none⟩::r) a w:=fun a F=>Bf F (hr a F) hd k
theorem g_t {j:Nat} {want b:Bool} (h:gdv n d ops e j=some (.bool b)) (hw:b=want) (k:EV n e fun a=>rl P ops Q (⟨some d,op,t,p,af,none⟩::r) a w):EV n e fun a=>rl P ops Q (⟨some d,op,t,p,af,some (j,want)⟩::r) a w:=by
 obtain ⟨hd,g,h1,h2⟩:=Jf h
 exact fun a F=>Nv F h1 h2 hd hw (k a F)
theorem g_f {j:Nat} {want b:Bool} (h:gdv n d ops e j=some (.bool b)) (hw:b = !want) (k:EV n ((d,undef)::e) fun a=>rl P ops Q r a w):EV n e fun a=>rl P ops Q (⟨some d,op,t,p,af,some (j,want)⟩::r) a w:=by
 obtain ⟨hd,g,h1,h2⟩:=Jf h
 exact fun a F=>Tf F h1 h2 hd hw k
theorem g_u {j:Nat} {want:Bool} (h:gdv n d ops e j=some undef) (k:EV n ((d,undef)::e) fun a=>rl P ops Q r a w):EV n e fun a=>rl P ops Q (⟨some d,op,t,p,af,some (j,want)⟩::r) a w:=by
 obtain ⟨hd,g,h1,h2⟩:=Jf h
 exact fun a F=>Aeq F h1 h2 hd k
section
variable {a:Act} {dd:Option Tmp} {gg:Option (Nat × Bool)} {ty yt:TypeId} {k:IntKind} {i j:Int}
theorem Zv (F:Fits n a e) (h:ev e x=some v):(execOp a.eval ⟨dd,.move x,t,p,af,gg⟩).run P w=.ok (.value v) w:=Fi (F.ev h)
theorem x_as (F:Fits n a e) (h:ev e x=some v):(execOp a.eval ⟨dd,.assign x,t,p,af,gg⟩).run P w=.ok (.value v) w:=Gy (F.ev h)
theorem Zw {s f b o off:Nat} {fs:List (Nat × Nat × Nat)} (hs:tk P s=.struct fs) (hf:Pd fs f=some off) (F:Fits n a e) (h:ev e x=some (.pointer (some ⟨b,o,none⟩))) :
  (execOp a.eval ⟨dd,.fieldAddr s x f,t,p,af,gg⟩).run P w=.ok (.value (.pointer (some ⟨b,o+off,none⟩))) w:=by
 obtain ⟨s',t',h1,h2⟩:=Aqp hf
 exact Va hs h1 h2 (F.ev h)
theorem U2 {b:Bool} (F:Fits n a e) (hc:ev e x=some (.bool b)) (hb:b=false) (h:ev e z=some v):(execOp a.eval ⟨dd,.pick x y z,t,p,af,gg⟩).run P w=.ok (.value v) w:=Kv (F.ev hc) hb (F.ev h)
end
theorem C0 (h:evd n d e x=some v) (k:EV n ((d,v)::e) fun a=>rl P ops Q r a w):EV n e fun a=>rl P ops Q (⟨some d,.move x,t,p,af,none⟩::r) a w:=fun _ F=>Bf F (Fi (F.ev (Bk h).2)) (Bk h).1 k
theorem Ew (h:evd n d e x=some v) (k:EV n ((d,v)::e) fun a=>rl P ops Q r a w):EV n e fun a=>rl P ops Q (⟨some d,.assign x,t,p,af,none⟩::r) a w:=fun _ F=>Bf F (Gy (F.ev (Bk h).2)) (Bk h).1 k
theorem M7 {s f b o off:Nat} {fs:List (Nat × Nat × Nat)} (hs:tk P s=.struct fs) (hf:Pd fs f=some off) (h:evd n d e x=some (.pointer (some ⟨b,o,none⟩))) (k:EV n ((d,.pointer (some ⟨b,o+off,none⟩))::e) fun a=>rl P ops Q r a w) :
  EV n e fun a=>rl P ops Q (⟨some d,.fieldAddr s x f,t,p,af,none⟩::r) a w:=fun _ F=>Bf F (Zw hs hf F (Bk h).2) (Bk h).1 k
theorem Nr {et:TypeId} {i:TI} {bt b o:Nat} {cs:List Value} (ht:TOK P et i) (M:Mem w0 G L w) (q:Nat) (ha:i.k.agg=some false) (h:evd n d e x=some (.pointer (some ⟨b,o,none⟩))) (hk:L[q]?=some (.blk b cs bt)) (hv:cs[o]?=some v)
  (k:EV n ((d,v)::e) fun a=>rl P ops Q r a w):EV n e fun a=>rl P ops Q (⟨some d,.load et x,t,p,af,none⟩::r) a w:=fun _ F=>Bf F (Cs (agf ht ha) (F.ev (Bk h).2) (M.cellL hk hv)) (Bk h).1 k
theorem s_la {et:TypeId} {i:TI} {b o z:Nat} {cs:List Value} (ht:TOK P et i) (M:Mem w0 G L w) (hA:At G b o cs) (q:Nat) (ha:i.k.agg=some false) (h:evd n d e x=some (.pointer (some ⟨b,z,none⟩))) (hz:z=o+q) (hv:cs[q]?=some v)
  (k:EV n ((d,v)::e) fun a=>rl P ops Q r a w):EV n e fun a=>rl P ops Q (⟨some d,.load et x,t,p,af,none⟩::r) a w:=fun _ F=>Bf F (Cs (agf ht ha) (F.ev (Bk h).2) (M.cellA hA q hz hv)) (Bk h).1 k
theorem s_le {et:TypeId} {i:TI} {b o z:Nat} {cs:List Value} (ht:TOK P et i) (hA:∀ (q:Nat) (v:Value),cs[q]?=some v→w.cell? ⟨b,o+q,none⟩=some v) (q:Nat) (ha:i.k.agg=some false) (h:evd n d e x=some (.pointer (some ⟨b,z,none⟩))) (hz:z=o+q) (hv:cs[q]?=some v)
  (k:EV n ((d,v)::e) fun a=>rl P ops Q r a w):EV n e fun a=>rl P ops Q (⟨some d,.load et x,t,p,af,none⟩::r) a w:=fun _ F=>Bf F (Cs (agf ht ha) (F.ev (Bk h).2) (Acz hA q hz hv)) (Bk h).1 k
theorem Aod {b:Bool} (hc:ev e x=some (.bool b)) (hb:b=true) (h:evd n d e y=some v) (k:EV n ((d,v)::e) fun a=>rl P ops Q r a w):EV n e fun a=>rl P ops Q (⟨some d,.pick x y z,t,p,af,none⟩::r) a w:=fun _ F=>Bf F (Nu (F.ev hc) hb (F.ev (Bk h).2)) (Bk h).1 k
theorem Hj {b:Bool} (hc:ev e x=some (.bool b)) (hb:b=false) (h:evd n d e z=some v) (k:EV n ((d,v)::e) fun a=>rl P ops Q r a w):EV n e fun a=>rl P ops Q (⟨some d,.pick x y z,t,p,af,none⟩::r) a w:=fun _ F=>Bf F (Kv (F.ev hc) hb (F.ev (Bk h).2)) (Bk h).1 k
theorem s_ex {i:Nat} {vs:Array Value} (h:evd n d e x=some (.tuple vs)) (hi:vs.toList[i]?=some v) (k:EV n ((d,v)::e) fun a=>rl P ops Q r a w):EV n e fun a=>rl P ops Q (⟨some d,.extract x i,t,p,af,none⟩::r) a w:=fun _ F=>Bf F (Gh (F.ev (Bk h).2) (by rw [← Array.getElem?_toList];exact hi)) (Bk h).1 k
theorem s_ls {s et:TypeId} {ad:Option Addr} {m c:Nat} (hs:tk P s=.slice et) (h:evd n d e x=some (.slice ad m c)) (k:EV n ((d,.int .i64 (m:Int))::e) fun a=>rl P ops Q r a w) :
  EV n e fun a=>rl P ops Q (⟨some d,.call ⟨.builtin .len,#[x],#[s]⟩,t,p,af,none⟩::r) a w:=fun _ F=>Bf F (Iw hs (F.ev (Bk h).2)) (Bk h).1 k
section
variable {ty yt:TypeId} {kd:IntKind} {i j:Int}
theorem s_gt (hx:ev e x=some (.int kd i)) (hy:evd n d e y=some (.int kd j)) (k:EV n ((d,.bool (decide (j < i)))::e) fun a=>rl P ops Q r a w):EV n e fun a=>rl P ops Q (⟨some d,.binOp .gtr ty x y yt,t,p,af,none⟩::r) a w:=fun _ F=>Bf F (Yc (F.ev hx) (F.ev (Bk hy).2)) (Bk hy).1 k
theorem Aoe (hx:ev e x=some (.int kd i)) (hy:evd n d e y=some (.int kd j)) (k:EV n ((d,.bool (decide (i < j)))::e) fun a=>rl P ops Q r a w):EV n e fun a=>rl P ops Q (⟨some d,.binOp .lss ty x y yt,t,p,af,none⟩::r) a w:=fun _ F=>Bf F (Agq (F.ev hx) (F.ev (Bk hy).2)) (Bk hy).1 k
theorem s_eq (hx:ev e x=some (.int kd i)) (hy:evd n d e y=some (.int kd j)) (k:EV n ((d,.bool (decide (i=j)))::e) fun a=>rl P ops Q r a w):EV n e fun a=>rl P ops Q (⟨some d,.binOp .eql ty x y yt,t,p,af,none⟩::r) a w:=fun _ F=>Bf F (Yd (F.ev hx) (F.ev (Bk hy).2)) (Bk hy).1 k
theorem s_ne (hx:ev e x=some (.int kd i)) (hy:evd n d e y=some (.int kd j)) (k:EV n ((d,.bool (!decide (i=j)))::e) fun a=>rl P ops Q r a w):EV n e fun a=>rl P ops Q (⟨some d,.binOp .neq ty x y yt,t,p,af,none⟩::r) a w:=fun _ F=>Bf F (Agp (F.ev hx) (F.ev (Bk hy).2)) (Bk hy).1 k
theorem s_add (hx:ev e x=some (.int .i64 i)) (hy:evd n d e y=some (.int .i64 j)) (k:EV n ((d,.int .i64 (i+j))::e) fun a=>rl P ops Q r a w) (h1:-9223372036854775808≤i+j:=by omega) (h2:i+j≤9223372036854775807:=by omega) :
  EV n e fun a=>rl P ops Q (⟨some d,.binOp .add ty x y yt,t,p,af,none⟩::r) a w:=fun _ F=>Bf F (Gi (F.ev hx) (F.ev (Bk hy).2) (Br h1 h2)) (Bk hy).1 k
theorem s_sub (hx:ev e x=some (.int .i64 i)) (hy:evd n d e y=some (.int .i64 j)) (k:EV n ((d,.int .i64 (i - j))::e) fun a=>rl P ops Q r a w) (h1:-9223372036854775808≤i - j:=by omega) (h2:i - j≤9223372036854775807:=by omega) :
  EV n e fun a=>rl P ops Q (⟨some d,.binOp .sub ty x y yt,t,p,af,none⟩::r) a w:=fun _ F=>Bf F (Aaf (F.ev hx) (F.ev (Bk hy).2) (Br h1 h2)) (Bk hy).1 k
theorem Ajk {s et:TypeId} {ti:TI} {ad:Option Addr} {m c b o jj:Nat} {z:Int} (hs:tk P s=.slice et) (ht:TOK P et ti) (I:Ix ad m jj ti.size b o) (hx:ev e x=some (.slice ad m c)) (hy:evd n d e y=some (.int kd z))
  (k:EV n ((d,.pointer (some ⟨b,o,none⟩))::e) fun a=>rl P ops Q r a w) (hz:z=(jj:Int):=by omega):EV n e fun a=>rl P ops Q (⟨some d,.indexAddr s x y,t,p,af,none⟩::r) a w:=fun _ F=>Bf F (Gf hs ht (F.ev hx) (F.ev (Bk hy).2) hz I) (Bk hy).1 k
theorem s_sne {l l':List UInt8} (hx:ev e x=some (.string (str l))) (hy:evd n d e y=some (.string (str l'))) (k:EV n ((d,.bool (!(decide (l=l'))))::e) fun a=>rl P ops Q r a w):EV n e fun a=>rl P ops Q (⟨some d,.binOp .neq ty x y yt,t,p,af,none⟩::r) a w:=fun _ F=>Bf F (P0 (F.ev hx) (F.ev (Bk hy).2)) (Bk hy).1 k
end
theorem Dv {et:TypeId} {i:TI} {old:Value} {b o:Nat} {cs:List Value} {bt:TypeId} (ht:TOK P et i) (M:Mem w0 G L w) (q:Nat) (h1:i.size=1) (hk:L[q]?=some (.blk b cs bt)) (hx:ev e x=some (.pointer (some ⟨b,o,none⟩))) (hy:ev e y=some v) (hv:v.oneCell' = true) (ho:cs[o]?=some old)
  (k:∀ w',Mem w0 G (L.set q (.blk b (cs.set o v) bt)) w'→EV n e fun a=>rl P ops Q r a w'):EV n e fun a=>rl P ops Q (⟨none,.store et x y,t,p,af,none⟩::r) a w:=fun _ F=>P5 F M ht h1 hk hx hy hv ho fun w' a' M' F'=>k w' M' a' F'
theorem B1 {et:TypeId} {i:TI} {cs:List Value} (M:Mem w0 G L w) (ht:TOK P et i) (hz:i.zero.cells=cs.toArray) (hd:Nat.ble (d+1) n=true) (k:∀ b w',Mem w0 G (.blk b cs et::L) w'→EV n ((d,.pointer (some ⟨b,0,none⟩))::e) fun a=>rl P ops Q r a w') :
  EV n e fun a=>rl P ops Q (⟨some d,.alloc et,t,p,af,none⟩::r) a w:=fun _ F=>Lz F M ht hz hd fun b w' a' M' F'=>k b w' M' a' F'
theorem B2 {et:TypeId} {cs:List Value} (M:Mem w0 G L w) (hx:ev e x=some v) (hc:v.cells=cs.toArray) (hd:Nat.ble (d+1) n=true) (k:∀ b w',Mem w0 G (.blk b cs et::L) w'→EV n ((d,.pointer (some ⟨b,0,none⟩))::e) fun a=>rl P ops Q r a w') :
  EV n e fun a=>rl P ops Q (⟨some d,.box et x,t,p,af,none⟩::r) a w:=fun _ F=>rl_box F M hx hc hd fun b w' a' M' F'=>k b w' M' a' F'
section
variable {f:FuncId} {args:List Operand} {ats:Array TypeId} {vs caps:List Value}
theorem A4 {Φ:Value→Prop} (hE:Ent P f) (hv:evs e args=some vs) (hd:Nat.ble (d+1) n=true) (hs:Calls P f vs.toArray w (Bu w0 G L Φ)) (k:∀ v w',Mem w0 G L w'→Φ v→EV n ((d,v)::e) fun a=>rl P ops Q r a w') :
  EV n e fun a=>rl P ops Q (⟨some d,.call ⟨.value (.func f),args.toArray,ats⟩,t,p,af,none⟩::r) a w:=fun _ F=>Aak F hE hv hd hs fun v w' a' M' h F'=>k v w' M' h a' F'
theorem D4 {Φ:Aq→Value→Prop} (hE:Ent P f) (hv:evs e args=some vs) (hd:Nat.ble (d+1) n=true) (hs:Calls P f vs.toArray w (Ret w0 G L Φ)) (k:∀ v G' w',Gle G G'→Mem w0 G' L w'→Φ G' v→EV n ((d,v)::e) fun a=>rl P ops Q r a w') :
  EV n e fun a=>rl P ops Q (⟨some d,.call ⟨.value (.func f),args.toArray,ats⟩,t,p,af,none⟩::r) a w:=fun _ F=>Yh F hE hv hd hs fun v G' w' a' hg M' h F'=>k v G' w' hg M' h a' F'
theorem Py {Φ:List Res→Value→Prop} (hE:Ent P f) (hv:evs e args=some vs) (hd:Nat.ble (d+1) n=true) (hs:Calls P f vs.toArray w (Ke w0 G Φ)) (k:∀ v L' w',Mem w0 G L' w'→Φ L' v→EV n ((d,v)::e) fun a=>rl P ops Q r a w') :
  EV n e fun a=>rl P ops Q (⟨some d,.call ⟨.value (.func f),args.toArray,ats⟩,t,p,af,none⟩::r) a w:=fun _ F=>Aal F hE hv hd hs fun v L' w' a' M' h F'=>k v L' w' M' h a' F'
theorem Aef {Φ:Value→Prop} (hE:Ent P f) (hc:ev e x=some (.func (.func f) #[] caps.toArray)) (hv:evs e args=some vs) (hd:Nat.ble (d+1) n=true) (hs:Calls P f (vs++caps).toArray w (Bu w0 G L Φ)) (k:∀ v w',Mem w0 G L w'→Φ v→EV n ((d,v)::e) fun a=>rl P ops Q r a w') :
  EV n e fun a=>rl P ops Q (⟨some d,.call ⟨.value x,args.toArray,ats⟩,t,p,af,none⟩::r) a w:=fun _ F=>Ajt F hE hc hv hd hs fun v w' a' M' h F'=>k v w' M' h a' F'
theorem s_vL {Φ:List Res→Value→Prop} (hE:Ent P f) (hc:ev e x=some (.func (.func f) #[] caps.toArray)) (hv:evs e args=some vs) (hd:Nat.ble (d+1) n=true) (hs:Calls P f (vs++caps).toArray w (Ke w0 G Φ)) (k:∀ v L' w',Mem w0 G L' w'→Φ L' v→EV n ((d,v)::e) fun a=>rl P ops Q r a w') :
  EV n e fun a=>rl P ops Q (⟨some d,.call ⟨.value x,args.toArray,ats⟩,t,p,af,none⟩::r) a w:=fun _ F=>P8 F hE hc hv hd hs fun v L' w' a' M' h F'=>k v L' w' M' h a' F'
end
section
variable {C:World→Prop} {j:Nat} {want b:Bool}
section
variable {r:List (PK × Oper)}
theorem k_nil (h:EV n e fun a=>Q .normal a w):EV n e fun a=>pk P ops Q C [] a w:=h
theorem k_f (hr:∀ a,Fits n a e→∀ w,True→(execOp a.eval ⟨some d,op,t,p,af,none⟩).run P w=.ok (.value v) w) (hd:Nat.ble (d+1) n=true) (k:EV n ((d,v)::e) fun a=>pk P ops Q C r a w) :
  EV n e fun a=>pk P ops Q C ((.free,⟨some d,op,t,p,af,none⟩)::r) a w:=fun a F=>pk_free F (hr a F) hd k
theorem k_p (hr:∀ a,Fits n a e→∀ w,C w→(execOp a.eval ⟨some d,op,t,p,af,none⟩).run P w=.ok (.value v) w) (hd:Nat.ble (d+1) n=true) (k:EV n ((d,v)::e) fun a=>pk P ops Q C r a w) :
  EV n e fun a=>pk P ops Q C ((.pure,⟨some d,op,t,p,af,none⟩)::r) a w:=fun a F=>pk_pure F (hr a F) hd k
theorem Lf (h:gdv n d ops e j=some (.bool b)) (hw:b=want) (hr:∀ a,Fits n a e→∀ w,True→(execOp a.eval ⟨some d,op,t,p,af,some (j,want)⟩).run P w=.ok (.value v) w) (k:EV n ((d,v)::e) fun a=>pk P ops Q C r a w) :
  EV n e fun a=>pk P ops Q C ((.free,⟨some d,op,t,p,af,some (j,want)⟩)::r) a w:=by
 obtain ⟨hd,g,h1,h2⟩:=Jf h
 exact fun a F=>Akm F h1 h2 hw (hr a F) hd k
theorem k_pg (h:gdv n d ops e j=some (.bool b)) (hw:b=want) (hr:∀ a,Fits n a e→∀ w,C w→(execOp a.eval ⟨some d,op,t,p,af,some (j,want)⟩).run P w=.ok (.value v) w) (k:EV n ((d,v)::e) fun a=>pk P ops Q C r a w) :
  EV n e fun a=>pk P ops Q C ((.pure,⟨some d,op,t,p,af,some (j,want)⟩)::r) a w:=by
 obtain ⟨hd,g,h1,h2⟩:=Jf h
 exact fun a F=>Akl F h1 h2 hw (hr a F) hd k
theorem k_s {q:PK} (h:gdv n d ops e j=some (.bool b)) (hw:b = !want) (k:EV n ((d,undef)::e) fun a=>pk P ops Q C r a w):EV n e fun a=>pk P ops Q C ((q,⟨some d,op,t,p,af,some (j,want)⟩)::r) a w:=by
 obtain ⟨hd,g,h1,h2⟩:=Jf h
 exact fun a F=>pk_skip F h1 h2 hw hd k
theorem k_u {q:PK} (h:gdv n d ops e j=some undef) (k:EV n ((d,undef)::e) fun a=>pk P ops Q C r a w):EV n e fun a=>pk P ops Q C ((q,⟨some d,op,t,p,af,some (j,want)⟩)::r) a w:=by
 obtain ⟨hd,g,h1,h2⟩:=Jf h
 exact fun a F=>Akk F h1 h2 hd k
theorem k_k {o:Oper} (hg:o.guard=none) (h:EV n e fun a=>rl P ops (fun e a w=>match e with | .normal=>∃ C':World→Prop,C' w∧(∀ w,C' w→C w)∧pk P ops Q C' r a w | e=>Q e a w) [o] a w):EV n e fun a=>pk P ops Q C ((.keep,o)::r) a w:=fun a F=>pk_keep (h a F) hg
theorem k_c {o:Oper} (hg:o.guard=none) (h:EV n e fun a=>rl P ops (fun e a w=>match e with | .normal=>∃ C':World→Prop,C' w∧pk P ops Q C' r a w | e=>Q e a w) [o] a w):EV n e fun a=>pk P ops Q C ((.chg,o)::r) a w:=fun a F=>pk_chg (h a F) hg
end
section
variable {r:List (Bool × Oper)}
theorem l_nil (h:EV n e fun a=>Q .normal a w):EV n e fun a=>pl P ops Q C [] a w:=h
theorem l_r (hr:∀ a,Fits n a e→∀ w,C w→(execOp a.eval ⟨some d,op,t,p,af,none⟩).run P w=.ok (.value v) w) (hd:Nat.ble (d+1) n=true) (k:EV n ((d,v)::e) fun a=>pl P ops Q C r a w) :
  EV n e fun a=>pl P ops Q C ((true,⟨some d,op,t,p,af,none⟩)::r) a w:=fun a F=>pl_run F (hr a F) hd k
theorem l_g (h:gdv n d ops e j=some (.bool b)) (hw:b=want) (hr:∀ a,Fits n a e→∀ w,C w→(execOp a.eval ⟨some d,op,t,p,af,some (j,want)⟩).run P w=.ok (.value v) w) (k:EV n ((d,v)::e) fun a=>pl P ops Q C r a w) :
  EV n e fun a=>pl P ops Q C ((true,⟨some d,op,t,p,af,some (j,want)⟩)::r) a w:=by
 obtain ⟨hd,g,h1,h2⟩:=Jf h
 exact fun a F=>Yt F h1 h2 hw (hr a F) hd k
theorem l_s {b2:Bool} (h:gdv n d ops e j=some (.bool b)) (hw:b = !want) (k:EV n ((d,undef)::e) fun a=>pl P ops Q C r a w):EV n e fun a=>pl P ops Q C ((b2,⟨some d,op,t,p,af,some (j,want)⟩)::r) a w:=by
 obtain ⟨hd,g,h1,h2⟩:=Jf h
 exact fun a F=>Vg F h1 h2 hw hd k
theorem l_a {o:Oper} (hg:o.guard=none) (h:EV n e fun a=>rl P ops (fun e a w=>match e with | .normal=>∃ C':World→Prop,C' w∧(∀ w,C' w→C w)∧pl P ops Q C' r a w | e=>Q e a w) [o] a w):EV n e fun a=>pl P ops Q C ((false,o)::r) a w:=fun a F=>pl_act (h a F) hg
end
section
variable {r alt:PO}
theorem Ki (h:EV n e fun a=>Q .normal a w):EV n e fun a=>ptl P ops Q C .fin a w:=h
theorem t_r (hr:∀ a,Fits n a e→∀ w,C w→(execOp a.eval ⟨some d,op,t,p,af,none⟩).run P w=.ok (.value v) w) (hd:Nat.ble (d+1) n=true) (k:EV n ((d,v)::e) fun a=>ptl P ops Q C r a w) :
  EV n e fun a=>ptl P ops Q C (.run ⟨some d,op,t,p,af,none⟩ r) a w:=fun a F=>pt_run F (hr a F) hd k
theorem t_g (h:gdv n d ops e j=some (.bool b)) (hw:b=want) (hr:∀ a,Fits n a e→∀ w,C w→(execOp a.eval ⟨some d,op,t,p,af,some (j,want)⟩).run P w=.ok (.value v) w) (k:EV n ((d,v)::e) fun a=>ptl P ops Q C r a w) :
  EV n e fun a=>ptl P ops Q C (.run ⟨some d,op,t,p,af,some (j,want)⟩ r) a w:=by
 obtain ⟨hd,g,h1,h2⟩:=Jf h
 exact fun a F=>Ys F h1 h2 hw (hr a F) hd k
theorem t_s (h:gdv n d ops e j=some (.bool b)) (hw:b = !want) (k:EV n ((d,undef)::e) fun a=>ptl P ops Q C r a w):EV n e fun a=>ptl P ops Q C (.run ⟨some d,op,t,p,af,some (j,want)⟩ r) a w:=by
 obtain ⟨hd,g,h1,h2⟩:=Jf h
 exact fun a F=>Vf F h1 h2 hw hd k
end
section
variable {X:(World→Prop)→Act→Prop} {C':World→Prop}
theorem eQ {n:Nat} {e:Env} {w:World} {C:World→Prop} {X:(World→Prop)→Act→Prop} (h1:C w) (h:EV n e fun a=>X C a):EV n e fun a=>∃ C':World→Prop,C' w∧(∀ w,C' w→C w)∧X C' a:=fun a F=>⟨C,h1,fun _ h=>h,h a F⟩
theorem Bt {P:Program} {Q:Exit→Act→World→Prop} {n:Nat} {w:World} {e:Env} {id:Nat} {l:List Oper} {c':Code} (h:EV n e fun a=>rl P l.toArray (Exit.then (fun a w=>c'.wp P Q a w) Q) l a w):EV n e fun a=>(Code.seq (Code.region id l.toArray false) c').wp P Q a w:=Cj (J3 h)
theorem e_cD {P:Program} {Q:Exit→Act→World→Prop} {n:Nat} {w:World} {e:Env} {x:Operand} {c c':Code} {p:Prop} [Decidable p] (hc:ev e x=some (.bool (decide p))) (ht:p→EV n e fun a=>c.wp P Q a w) (hf:¬ p→EV n e fun a=>c'.wp P Q a w):EV n e fun a=>(Code.cond x c c').wp P Q a w :=
  Ae hc (fun h=>ht (of_decide_eq_true h)) (fun h=>hf (of_decide_eq_false h))
theorem Be {P:Program} {ops:Array Oper} {Q:Exit→Act→World→Prop} {n:Nat} {a:Act} {w w0:World} {e:Env} {G:Aq} {L:List Res} {t:TypeId} {p:String} {af:Array Edge} {r:List Oper} {et bt:TypeId} {i:TI} {x y:Operand} {v:Value} {b o:Nat} {cs us:List Value} (F:Fits n a e) (M:Mem w0 G L w) (ht:TOK P et i) (k:Nat)
    {L':List Res} (kk:∀ w' a',Mem w0 G L' w'→Fits n a' e→rl P ops Q r a' w') (hk:L[k]?=some (.blk b cs bt):=by rfl) (hx:ev e x=some (.pointer (some ⟨b,o,none⟩)):=by rfl) (hy:ev e y=some v:=by rfl) (hv:v.cells=us.toArray:=by rfl) (hl:us.length=i.size:=by rfl)
    (hu:∀ u∈us,u.oneCell' = true:=by simp [Value.oneCell']) (hfit:o+us.length≤cs.length:=by simp) (hS:L.set k (.blk b (over cs o us) bt)=L':=by dsimp only [over,List.set]):rl P ops Q (⟨none,.store et x y,t,p,af,none⟩::r) a w:=V3 F M ht hk hx hy hv hl hu hfit (by rw [hS];exact kk)
theorem Mc {P:Program} {ops:Array Oper} {Q:Exit→Act→World→Prop} {n:Nat} {a:Act} {w w0:World} {e:Env} {G:Aq} {L:List Res} {t:TypeId} {p:String} {af:Array Edge} {r:List Oper} {et bt:TypeId} {i:TI} {x y:Operand} {v old:Value} {b o:Nat} {cs:List Value} (F:Fits n a e) (M:Mem w0 G L w) (ht:TOK P et i) (k:Nat)
    {L':List Res} (kk:∀ w' a',Mem w0 G L' w'→Fits n a' e→rl P ops Q r a' w') (hk:L[k]?=some (.blk b cs bt):=by rfl) (hx:ev e x=some (.pointer (some ⟨b,o,none⟩)):=by rfl) (hy:ev e y=some v:=by rfl) (ho:cs[o]?=some old:=by rfl) (hv:v.oneCell' = true:=by rfl) (h1:i.size=1:=by rfl) (hS:L.set k (.blk b (cs.set o v) bt)=L':=by dsimp only [over,List.set]):rl P ops Q (⟨none,.store et x y,t,p,af,none⟩::r) a w:=P5 F M ht h1 hk hx hy hv ho (by rw [hS];exact kk)
theorem Ax {w0 w:World} {G:Aq} {L Lr:List Res} (M:Mem w0 G L w) (h:∀ r∈Lr,r∈L:=by simp):Keep G Lr w:=M.keep (Gle.refl _) h
theorem cC {α:Type} {a:α} {l l':List α} (h:l.Sublist l'):(a::l).Sublist (a::l'):=.cons_cons _ h
theorem cN {α:Type} {a:α} {l l':List α} (h:l.Sublist l'):l.Sublist (a::l'):=.cons _ h
theorem Aeg {P:Program} {ops:Array Oper} {Q:Exit→Act→World→Prop} {n d:Nat} {w w0:World} {e:Env} {x:Operand} {G:Aq} {L:List Res} {t:TypeId} {p:String} {af:Array Edge} {r:List Oper} {et bt:TypeId} {i:TI} {b:Nat} {cs:List Value} (ht:TOK P et i) (M:Mem w0 G L w) (q:Nat) (ha:i.k.agg=some true) (h:evd n d e x=some (.pointer (some ⟨b,0,none⟩))) (hk:L[q]?=some (.blk b cs bt)) (hl:cs.length=i.size)
    (k:EV n ((d,.agg cs.toArray)::e) fun a=>rl P ops Q r a w):EV n e fun a=>rl P ops Q (⟨some d,.load et x,t,p,af,none⟩::r) a w:=fun _ F=>Bf F (Da ht ha (F.ev (Bk h).2) hl (M.cellsL hk (by rw [List.drop_zero,← hl,List.take_length]))) (Bk h).1 k
theorem lMv {P:Program} {ops:Array Oper} {Q:Exit→Act→World→Prop} {n d:Nat} {w:World} {e:Env} {x:Operand} {t:TypeId} {p:String} {af:Array Edge} {C:World→Prop} {r:List (Bool × Oper)} {v:Value} (h:evd n d e x=some v) (k:EV n ((d,v)::e) fun a=>pl P ops Q C r a w):EV n e fun a=>pl P ops Q C ((true,⟨some d,.move x,t,p,af,none⟩)::r) a w:=l_r (fun a F w M=>Zv F (Bk h).2) (Bk h).1 k
theorem lAs {P:Program} {ops:Array Oper} {Q:Exit→Act→World→Prop} {n d:Nat} {w:World} {e:Env} {x:Operand} {t:TypeId} {p:String} {af:Array Edge} {C:World→Prop} {r:List (Bool × Oper)} {v:Value} (h:evd n d e x=some v) (k:EV n ((d,v)::e) fun a=>pl P ops Q C r a w):EV n e fun a=>pl P ops Q C ((true,⟨some d,.assign x,t,p,af,none⟩)::r) a w:=l_r (fun a F w M=>x_as F (Bk h).2) (Bk h).1 k
theorem lFa {P:Program} {ops:Array Oper} {Q:Exit→Act→World→Prop} {n d:Nat} {w:World} {e:Env} {x:Operand} {t:TypeId} {p:String} {af:Array Edge} {C:World→Prop} {r:List (Bool × Oper)} {s f b o off:Nat} {fs:List (Nat × Nat × Nat)} (hs:tk P s=.struct fs) (hf:Pd fs f=some off) (h:evd n d e x=some (.pointer (some ⟨b,o,none⟩))) (k:EV n ((d,.pointer (some ⟨b,o+off,none⟩))::e) fun a=>pl P ops Q C r a w):EV n e fun a=>pl P ops Q C ((true,⟨some d,.fieldAddr s x f,t,p,af,none⟩)::r) a w:=l_r (fun a F w M=>Zw hs hf F (Bk h).2) (Bk h).1 k
theorem lLd {P:Program} {ops:Array Oper} {Q:Exit→Act→World→Prop} {n d:Nat} {w:World} {e:Env} {x:Operand} {t:TypeId} {p:String} {af:Array Edge} {r:List (Bool × Oper)} {G:Aq} {L:List Res} {et bt:TypeId} {i:TI} {v:Value} {b o:Nat} {cs:List Value} (ht:TOK P et i) (q:Nat) (ha:i.k.agg=some false) (h:evd n d e x=some (.pointer (some ⟨b,o,none⟩))) (hk:L[q]?=some (.blk b cs bt)) (hv:cs[o]?=some v) (k:EV n ((d,v)::e) fun a=>pl P ops Q (Keep G L) r a w):EV n e fun a=>pl P ops Q (Keep G L) ((true,⟨some d,.load et x,t,p,af,none⟩)::r) a w:=l_r (fun a F w M=>Cs (agf ht ha) (F.ev (Bk h).2) (M.cellL hk hv)) (Bk h).1 k
theorem lLb {P:Program} {ops:Array Oper} {Q:Exit→Act→World→Prop} {n d:Nat} {w:World} {e:Env} {x:Operand} {t:TypeId} {p:String} {af:Array Edge} {r:List (Bool × Oper)} {G:Aq} {L:List Res} {et bt:TypeId} {i:TI} {b:Nat} {cs:List Value} (ht:TOK P et i) (q:Nat) (ha:i.k.agg=some true) (h:evd n d e x=some (.pointer (some ⟨b,0,none⟩))) (hk:L[q]?=some (.blk b cs bt)) (hl:cs.length=i.size) (k:EV n ((d,.agg cs.toArray)::e) fun a=>pl P ops Q (Keep G L) r a w):EV n e fun a=>pl P ops Q (Keep G L) ((true,⟨some d,.load et x,t,p,af,none⟩)::r) a w:=l_r (fun a F w M=>Da ht ha (F.ev (Bk h).2) hl (M.cellsL hk (by rw [List.drop_zero,← hl,List.take_length]))) (Bk h).1 k
theorem fMv {P:Program} {ops:Array Oper} {Q:Exit→Act→World→Prop} {n d:Nat} {w:World} {e:Env} {x:Operand} {t:TypeId} {p:String} {af:Array Edge} {C:World→Prop} {r:List (PK × Oper)} {v:Value} (h:evd n d e x=some v) (k:EV n ((d,v)::e) fun a=>pk P ops Q C r a w):EV n e fun a=>pk P ops Q C ((.free,⟨some d,.move x,t,p,af,none⟩)::r) a w:=k_f (fun a F w _=>Zv F (Bk h).2) (Bk h).1 k
theorem fAs {P:Program} {ops:Array Oper} {Q:Exit→Act→World→Prop} {n d:Nat} {w:World} {e:Env} {x:Operand} {t:TypeId} {p:String} {af:Array Edge} {C:World→Prop} {r:List (PK × Oper)} {v:Value} (h:evd n d e x=some v) (k:EV n ((d,v)::e) fun a=>pk P ops Q C r a w):EV n e fun a=>pk P ops Q C ((.free,⟨some d,.assign x,t,p,af,none⟩)::r) a w:=k_f (fun a F w _=>x_as F (Bk h).2) (Bk h).1 k
theorem fFa {P:Program} {ops:Array Oper} {Q:Exit→Act→World→Prop} {n d:Nat} {w:World} {e:Env} {x:Operand} {t:TypeId} {p:String} {af:Array Edge} {C:World→Prop} {r:List (PK × Oper)} {s f b o off:Nat} {fs:List (Nat × Nat × Nat)} (hs:tk P s=.struct fs) (hf:Pd fs f=some off) (h:evd n d e x=some (.pointer (some ⟨b,o,none⟩))) (k:EV n ((d,.pointer (some ⟨b,o+off,none⟩))::e) fun a=>pk P ops Q C r a w):EV n e fun a=>pk P ops Q C ((.free,⟨some d,.fieldAddr s x f,t,p,af,none⟩)::r) a w:=k_f (fun a F w _=>Zw hs hf F (Bk h).2) (Bk h).1 k
theorem pMv {P:Program} {ops:Array Oper} {Q:Exit→Act→World→Prop} {n d:Nat} {w:World} {e:Env} {x:Operand} {t:TypeId} {p:String} {af:Array Edge} {C:World→Prop} {r:List (PK × Oper)} {v:Value} (h:evd n d e x=some v) (k:EV n ((d,v)::e) fun a=>pk P ops Q C r a w):EV n e fun a=>pk P ops Q C ((.pure,⟨some d,.move x,t,p,af,none⟩)::r) a w:=k_p (fun a F w M=>Zv F (Bk h).2) (Bk h).1 k
theorem pAs {P:Program} {ops:Array Oper} {Q:Exit→Act→World→Prop} {n d:Nat} {w:World} {e:Env} {x:Operand} {t:TypeId} {p:String} {af:Array Edge} {C:World→Prop} {r:List (PK × Oper)} {v:Value} (h:evd n d e x=some v) (k:EV n ((d,v)::e) fun a=>pk P ops Q C r a w):EV n e fun a=>pk P ops Q C ((.pure,⟨some d,.assign x,t,p,af,none⟩)::r) a w:=k_p (fun a F w M=>x_as F (Bk h).2) (Bk h).1 k
theorem pFa {P:Program} {ops:Array Oper} {Q:Exit→Act→World→Prop} {n d:Nat} {w:World} {e:Env} {x:Operand} {t:TypeId} {p:String} {af:Array Edge} {C:World→Prop} {r:List (PK × Oper)} {s f b o off:Nat} {fs:List (Nat × Nat × Nat)} (hs:tk P s=.struct fs) (hf:Pd fs f=some off) (h:evd n d e x=some (.pointer (some ⟨b,o,none⟩))) (k:EV n ((d,.pointer (some ⟨b,o+off,none⟩))::e) fun a=>pk P ops Q C r a w):EV n e fun a=>pk P ops Q C ((.pure,⟨some d,.fieldAddr s x f,t,p,af,none⟩)::r) a w:=k_p (fun a F w M=>Zw hs hf F (Bk h).2) (Bk h).1 k
theorem pLd {P:Program} {ops:Array Oper} {Q:Exit→Act→World→Prop} {n d:Nat} {w:World} {e:Env} {x:Operand} {t:TypeId} {p:String} {af:Array Edge} {r:List (PK × Oper)} {G:Aq} {L:List Res} {et bt:TypeId} {i:TI} {v:Value} {b o:Nat} {cs:List Value} (ht:TOK P et i) (q:Nat) (ha:i.k.agg=some false) (h:evd n d e x=some (.pointer (some ⟨b,o,none⟩))) (hk:L[q]?=some (.blk b cs bt)) (hv:cs[o]?=some v) (k:EV n ((d,v)::e) fun a=>pk P ops Q (Keep G L) r a w):EV n e fun a=>pk P ops Q (Keep G L) ((.pure,⟨some d,.load et x,t,p,af,none⟩)::r) a w:=k_p (fun a F w M=>Cs (agf ht ha) (F.ev (Bk h).2) (M.cellL hk hv)) (Bk h).1 k
theorem pLb {P:Program} {ops:Array Oper} {Q:Exit→Act→World→Prop} {n d:Nat} {w:World} {e:Env} {x:Operand} {t:TypeId} {p:String} {af:Array Edge} {r:List (PK × Oper)} {G:Aq} {L:List Res} {et bt:TypeId} {i:TI} {b:Nat} {cs:List Value} (ht:TOK P et i) (q:Nat) (ha:i.k.agg=some true) (h:evd n d e x=some (.pointer (some ⟨b,0,none⟩))) (hk:L[q]?=some (.blk b cs bt)) (hl:cs.length=i.size) (k:EV n ((d,.agg cs.toArray)::e) fun a=>pk P ops Q (Keep G L) r a w):EV n e fun a=>pk P ops Q (Keep G L) ((.pure,⟨some d,.load et x,t,p,af,none⟩)::r) a w:=k_p (fun a F w M=>Da ht ha (F.ev (Bk h).2) hl (M.cellsL hk (by rw [List.drop_zero,← hl,List.take_length]))) (Bk h).1 k
theorem tMv {P:Program} {ops:Array Oper} {Q:Exit→Act→World→Prop} {n d:Nat} {w:World} {e:Env} {x:Operand} {t:TypeId} {p:String} {af:Array Edge} {C:World→Prop} {r:PO} {v:Value} (h:evd n d e x=some v) (k:EV n ((d,v)::e) fun a=>ptl P ops Q C r a w):EV n e fun a=>ptl P ops Q C (.run ⟨some d,.move x,t,p,af,none⟩ r) a w:=t_r (fun a F w M=>Zv F (Bk h).2) (Bk h).1 k
theorem tAs {P:Program} {ops:Array Oper} {Q:Exit→Act→World→Prop} {n d:Nat} {w:World} {e:Env} {x:Operand} {t:TypeId} {p:String} {af:Array Edge} {C:World→Prop} {r:PO} {v:Value} (h:evd n d e x=some v) (k:EV n ((d,v)::e) fun a=>ptl P ops Q C r a w):EV n e fun a=>ptl P ops Q C (.run ⟨some d,.assign x,t,p,af,none⟩ r) a w:=t_r (fun a F w M=>x_as F (Bk h).2) (Bk h).1 k
theorem tFa {P:Program} {ops:Array Oper} {Q:Exit→Act→World→Prop} {n d:Nat} {w:World} {e:Env} {x:Operand} {t:TypeId} {p:String} {af:Array Edge} {C:World→Prop} {r:PO} {s f b o off:Nat} {fs:List (Nat × Nat × Nat)} (hs:tk P s=.struct fs) (hf:Pd fs f=some off) (h:evd n d e x=some (.pointer (some ⟨b,o,none⟩))) (k:EV n ((d,.pointer (some ⟨b,o+off,none⟩))::e) fun a=>ptl P ops Q C r a w):EV n e fun a=>ptl P ops Q C (.run ⟨some d,.fieldAddr s x f,t,p,af,none⟩ r) a w:=t_r (fun a F w M=>Zw hs hf F (Bk h).2) (Bk h).1 k
theorem tLd {P:Program} {ops:Array Oper} {Q:Exit→Act→World→Prop} {n d:Nat} {w:World} {e:Env} {x:Operand} {t:TypeId} {p:String} {af:Array Edge} {r:PO} {G:Aq} {L:List Res} {et bt:TypeId} {i:TI} {v:Value} {b o:Nat} {cs:List Value} (ht:TOK P et i) (q:Nat) (ha:i.k.agg=some false) (h:evd n d e x=some (.pointer (some ⟨b,o,none⟩))) (hk:L[q]?=some (.blk b cs bt)) (hv:cs[o]?=some v) (k:EV n ((d,v)::e) fun a=>ptl P ops Q (Keep G L) r a w):EV n e fun a=>ptl P ops Q (Keep G L) (.run ⟨some d,.load et x,t,p,af,none⟩ r) a w:=t_r (fun a F w M=>Cs (agf ht ha) (F.ev (Bk h).2) (M.cellL hk hv)) (Bk h).1 k
theorem tLb {P:Program} {ops:Array Oper} {Q:Exit→Act→World→Prop} {n d:Nat} {w:World} {e:Env} {x:Operand} {t:TypeId} {p:String} {af:Array Edge} {r:PO} {G:Aq} {L:List Res} {et bt:TypeId} {i:TI} {b:Nat} {cs:List Value} (ht:TOK P et i) (q:Nat) (ha:i.k.agg=some true) (h:evd n d e x=some (.pointer (some ⟨b,0,none⟩))) (hk:L[q]?=some (.blk b cs bt)) (hl:cs.length=i.size) (k:EV n ((d,.agg cs.toArray)::e) fun a=>ptl P ops Q (Keep G L) r a w):EV n e fun a=>ptl P ops Q (Keep G L) (.run ⟨some d,.load et x,t,p,af,none⟩ r) a w:=t_r (fun a F w M=>Da ht ha (F.ev (Bk h).2) hl (M.cellsL hk (by rw [List.drop_zero,← hl,List.take_length]))) (Bk h).1 k
theorem qD {P:Program} {Q:Exit→Act→World→Prop} {n:Nat} {w:World} {e:Env} {x:Operand} {c c':Code} {q:Prop} [i:Decidable q] (hc:ev e x=some (.bool (decide q))) (h1:q→EV n e fun a=>c.wp P Q a w) (h2:¬q→EV n e fun a=>c'.wp P Q a w):EV n e fun a=>(Code.cond x c c').wp P Q a w:=Ae hc (fun h=>h1 (of_decide_eq_true h)) (fun h=>h2 (of_decide_eq_false h))
theorem eK (h1:C' w) (h2:∀ w,C' w→C w) (h:EV n e fun a=>X C' a):EV n e fun a=>∃ C':World→Prop,C' w∧(∀ w,C' w→C w)∧X C' a:=fun a F=>⟨C',h1,h2,h a F⟩
end
end
end
end Go.Y
set_option linter.unusedVariables false
namespace Go.Y
open Go Go.RowKit
class CT (P:Program) (t:TypeId) (i:outParam TI):Prop where
 ok:TOK P t i
theorem CT.k {P:Program} {t:TypeId} {i:TI} (c:CT P t i):tk P t=i.k:=c.ok.k
section
variable {P:Program} {ops:Array Oper} {Q:Exit→Act→World→Prop} {K:Act→World→Prop} {n d:Nat} {w w0:World} {e:Env} {G:Aq} {L:List Res} {op:Op} {t:TypeId} {p:String} {af:Array Edge} {r:List Oper} {v:Value} {x y z:Operand} {C:World→Prop} {dd:Option Tmp} {gg:Option (Nat × Bool)}
def RN (P:Program) (n:Nat) (e:Env) (C:World→Prop) (dd:Option Tmp) (op:Op) (t:TypeId) (p:String) (af:Array Edge) (gg:Option (Nat × Bool)) (v:Value):Prop :=
 ∀ a,Fits n a e→∀ w,C w→(execOp a.eval ⟨dd,op,t,p,af,gg⟩).run P w=.ok (.value v) w
def CL (C:World→Prop) (b o:Nat) (v:Value):Prop:=∀ w,C w→w.cell? ⟨b,o,none⟩=some v
def CS (C:World→Prop) (b o m:Nat) (us:List Value):Prop:=∀ w,C w→∀ j,j < m→w.cell? ⟨b,o+j,none⟩=us[j]?
theorem Rz {x:Res} (h:x∈L):∃ k:Nat,L[k]?=some x:=by obtain ⟨k,hk⟩:=List.mem_iff_getElem?.1 h;exact ⟨k,hk⟩
theorem c_m {b o:Nat} {cs:List Value} {bt:TypeId} (M:Mem w0 G L w) (hb:Res.blk b cs bt∈L) (hv:cs[o]?=some v):CL (fun w'=>w' = w) b o v:=fun w' hw=>by
 obtain ⟨k,hk⟩:=Rz hb;subst hw;exact M.cellL hk hv
theorem c_k {b o:Nat} {cs:List Value} {bt:TypeId} (hb:Res.blk b cs bt∈L) (hv:cs[o]?=some v):CL (Keep G L) b o v:=fun w' K=>by
 obtain ⟨k,hk⟩:=Rz hb;exact K.cellL hk hv
theorem c_ma {b o z:Nat} {cs:List Value} (M:Mem w0 G L w) (hA:At G b o cs) {q:Nat} (hz:z=o+q) (hv:cs[q]?=some v):CL (fun w'=>w' = w) b z v:=fun w' hw=>by subst hw;exact M.cellA hA q hz hv
theorem c_ka {b o z:Nat} {cs:List Value} (hA:At G b o cs) {q:Nat} (hz:z=o+q) (hv:cs[q]?=some v):CL (Keep G L) b z v:=fun w' K=>K.cellA hA q hz hv
theorem cs_m {b o m:Nat} {cs us:List Value} {bt:TypeId} (M:Mem w0 G L w) (hb:Res.blk b cs bt∈L) (hu:(cs.drop o).take m=us):CS (fun w'=>w' = w) b o m us:=fun w' hw=>by
 obtain ⟨k,hk⟩:=Rz hb;subst hw;exact M.cellsL hk hu
theorem cs_k {b o m:Nat} {cs us:List Value} {bt:TypeId} (hb:Res.blk b cs bt∈L) (hu:(cs.drop o).take m=us):CS (Keep G L) b o m us:=fun w' K=>by
 obtain ⟨k,hk⟩:=Rz hb;exact K.cellsL hk hu
theorem cs_ma {b o z m:Nat} {cs us:List Value} (M:Mem w0 G L w) (hA:At G b o cs) {q:Nat} (hz:z=o+q) (hu:(cs.drop q).take m=us) (hl:us.length=m):CS (fun w'=>w' = w) b z m us:=fun w' hw=>by subst hw;exact M.cellsA hA q hz hu hl
theorem cs_ka {b o z m:Nat} {cs us:List Value} (hA:At G b o cs) {q:Nat} (hz:z=o+q) (hu:(cs.drop q).take m=us) (hl:us.length=m):CS (Keep G L) b z m us:=fun w' K=>K.cellsA hA q hz hu hl
theorem cw_m {b m:Nat} {cs:List Value} {bt:TypeId} (M:Mem w0 G L w) (hb:Res.blk b cs bt∈L) (hl:cs.length=m):CS (fun w'=>w' = w) b 0 m cs:=cs_m M hb (by rw [List.drop_zero,List.take_of_length_le (Nat.le_of_eq hl)])
theorem cw_k {b m:Nat} {cs:List Value} {bt:TypeId} (hb:Res.blk b cs bt∈L) (hl:cs.length=m):CS (Keep G L) b 0 m cs:=cs_k hb (by rw [List.drop_zero,List.take_of_length_le (Nat.le_of_eq hl)])
theorem cw_ma {b o z m:Nat} {cs:List Value} (M:Mem w0 G L w) (hA:At G b o cs) (hz:z=o) (hl:cs.length=m):CS (fun w'=>w' = w) b z m cs:=cs_ma (q:=0) M hA hz (by rw [List.drop_zero,List.take_of_length_le (Nat.le_of_eq hl)]) hl
theorem cw_ka {b o z m:Nat} {cs:List Value} (hA:At G b o cs) (hz:z=o) (hl:cs.length=m):CS (Keep G L) b z m cs:=cs_ka (q:=0) hA hz (by rw [List.drop_zero,List.take_of_length_le (Nat.le_of_eq hl)]) hl
theorem Ajd {p:Prop} (h:p:=by first | ((repeat (first | exact List.mem_cons_self | refine List.mem_cons_of_mem _ ?_));done) | fail):p:=h
theorem z_n {α:Type} {x:α}:(some x).isNone=false:=rfl
theorem Pq {p:Prop} (h:p:=by
 first
 | with_reducible exact rfl
 | with_reducible exact decide_eq_true rfl
 | with_reducible exact F4 (decide_eq_true rfl)
 | with_reducible assumption
 | exact z_n
 | exact Abe z_n
 | exact decide_eq_true (by with_reducible assumption)
 | exact decide_eq_false (by with_reducible assumption)
 | exact Abe (by with_reducible assumption)
 | exact F4 (by with_reducible assumption)
 | exact Abe (decide_eq_false (by with_reducible assumption))
 | exact F4 (decide_eq_true (by with_reducible assumption))
 | decide
 | fail):p:=h
theorem z_us {p:Prop} (h:p:=by first | (dsimp only [List.drop,List.take,List.set];done) | (dsimp only [List.drop,List.take,List.set];exact rfl) | exact rfl | fail):p:=h
theorem z_pl {p:Prop} (h:p:=by first | with_reducible exact (Nat.add_zero _).symm | with_reducible exact rfl | exact rfl | omega | fail):p:=h
theorem z_cl {p:Prop} (h:p:=by
 first
 | (apply c_m M;exact Ajd;exact rfl)
 | (apply c_k;exact Ajd;exact rfl)
 | (apply c_ma M;(with_reducible assumption);exact z_pl;exact rfl)
 | (apply c_ka;(with_reducible assumption);exact z_pl;exact rfl)
 | fail):p:=h
theorem z_cs {p:Prop} (h:p:=by
 first
 | (apply cw_m M;exact Ajd;exact rfl)
 | (apply cw_k;exact Ajd;exact rfl)
 | (apply cw_ma M;(with_reducible assumption);exact rfl;exact rfl)
 | (apply cw_ka;(with_reducible assumption);exact rfl;exact rfl)
 | (apply cs_m M;exact Ajd;exact z_us)
 | (apply cs_k;exact Ajd;exact z_us)
 | (apply cs_ma M;(with_reducible assumption);exact z_pl;exact z_us;exact rfl)
 | (apply cs_ka;(with_reducible assumption);exact z_pl;exact z_us;exact rfl)
 | fail):p:=h
theorem n_mv (h:ev e x=some v):RN P n e C dd (.move x) t p af gg v:=fun _ F _ _=>Fi (F.ev h)
theorem n_as (h:ev e x=some v):RN P n e C dd (.assign x) t p af gg v:=fun _ F _ _=>Gy (F.ev h)
theorem n_nc {a:Addr} (h:ev e x=some (.pointer (some a))):RN P n e C dd (.nilCheck x) t p af gg (.pointer (some a)):=fun _ F _ _=>Yb (F.ev h)
theorem n_fa {s f b o off:Nat} {fs:List (Nat × Nat × Nat)} {i:TI} [c:CT P s i] (hi:i.k=.struct fs) (hf:Pd fs f=some off) (h:ev e x=some (.pointer (some ⟨b,o,none⟩))) :
  RN P n e C dd (.fieldAddr s x f) t p af gg (.pointer (some ⟨b,o+off,none⟩)):=fun _ F _ _=>Zw (c.k.trans hi) hf F h
theorem n_ld {et:TypeId} {i:TI} [c:CT P et i] {b o:Nat} (ha:i.k.agg=some false) (h:ev e x=some (.pointer (some ⟨b,o,none⟩))) (hc:CL C b o v):RN P n e C dd (.load et x) t p af gg v :=
 fun _ F w hw=>Cs (agf c.ok ha) (F.ev h) (hc w hw)
theorem n_lb {et:TypeId} {i:TI} [c:CT P et i] {b o:Nat} {us:List Value} (ha:i.k.agg=some true) (h:ev e x=some (.pointer (some ⟨b,o,none⟩))) (hc:CS C b o i.size us) (hl:us.length=i.size):RN P n e C dd (.load et x) t p af gg (.agg us.toArray) :=
 fun _ F w hw=>Da c.ok ha (F.ev h) hl (hc w hw)
theorem n_pt {b:Bool} (hc:ev e x=some (.bool b)) (hb:b=true) (h:ev e y=some v):RN P n e C dd (.pick x y z) t p af gg v:=fun _ F _ _=>Nu (F.ev hc) hb (F.ev h)
theorem n_pf {b:Bool} (hc:ev e x=some (.bool b)) (hb:b=false) (h:ev e z=some v):RN P n e C dd (.pick x y z) t p af gg v:=fun _ F _ _=>Kv (F.ev hc) hb (F.ev h)
theorem n_not {ty:TypeId} {b:Bool} (h:ev e x=some (.bool b)):RN P n e C dd (.unOp .not ty x) t p af gg (.bool (!b)):=fun _ F _ _=>Ot (F.ev h)
theorem n_ex {i:Nat} {vs:Array Value} (h:ev e x=some (.tuple vs)) (hi:vs.toList[i]?=some v):RN P n e C dd (.extract x i) t p af gg v:=fun _ F _ _=>Gh (F.ev h) (by rw [← Array.getElem?_toList];exact hi)
theorem n_ls {s et:TypeId} {i:TI} [c:CT P s i] {ad:Option Addr} {m k:Nat} (hi:i.k=.slice et) (h:ev e x=some (.slice ad m k)):RN P n e C dd (.call ⟨.builtin .len,#[x],#[s]⟩) t p af gg (.int .i64 (m:Int)):=fun _ F _ _=>Iw (c.k.trans hi) (F.ev h)
theorem n_lS {s:TypeId} {i:TI} [c:CT P s i] {l:List UInt8} (hi:i.k=.str) (h:ev e x=some (.string (str l))):RN P n e C dd (.call ⟨.builtin .len,#[x],#[s]⟩) t p af gg (.int .i64 (l.length:Nat)):=fun _ F _ _=>S1 (c.k.trans hi) (F.ev h)
section
variable {ty yt:TypeId} {kd:IntKind} {i j:Int}
theorem n_gt (hx:ev e x=some (.int kd i)) (hy:ev e y=some (.int kd j)):RN P n e C dd (.binOp .gtr ty x y yt) t p af gg (.bool (decide (j < i))):=fun _ F _ _=>Yc (F.ev hx) (F.ev hy)
theorem n_lt (hx:ev e x=some (.int kd i)) (hy:ev e y=some (.int kd j)):RN P n e C dd (.binOp .lss ty x y yt) t p af gg (.bool (decide (i < j))):=fun _ F _ _=>Agq (F.ev hx) (F.ev hy)
theorem n_lq (hx:ev e x=some (.int kd i)) (hy:ev e y=some (.int kd j)):RN P n e C dd (.binOp .leq ty x y yt) t p af gg (.bool (decide (i≤j))):=fun _ F _ _=>run_leq (F.ev hx) (F.ev hy)
theorem n_gq (hx:ev e x=some (.int kd i)) (hy:ev e y=some (.int kd j)):RN P n e C dd (.binOp .geq ty x y yt) t p af gg (.bool (decide (j≤i))):=fun _ F _ _=>run_geq (F.ev hx) (F.ev hy)
theorem n_eq (hx:ev e x=some (.int kd i)) (hy:ev e y=some (.int kd j)):RN P n e C dd (.binOp .eql ty x y yt) t p af gg (.bool (decide (i=j))):=fun _ F _ _=>Yd (F.ev hx) (F.ev hy)
theorem n_ne (hx:ev e x=some (.int kd i)) (hy:ev e y=some (.int kd j)):RN P n e C dd (.binOp .neq ty x y yt) t p af gg (.bool (!decide (i=j))):=fun _ F _ _=>Agp (F.ev hx) (F.ev hy)
theorem n_seq {l l':List UInt8} (hx:ev e x=some (.string (str l))) (hy:ev e y=some (.string (str l'))):RN P n e C dd (.binOp .eql ty x y yt) t p af gg (.bool (decide (l=l'))):=fun _ F _ _=>Ajl (F.ev hx) (F.ev hy)
theorem n_sne {l l':List UInt8} (hx:ev e x=some (.string (str l))) (hy:ev e y=some (.string (str l'))):RN P n e C dd (.binOp .neq ty x y yt) t p af gg (.bool (!(decide (l=l')))):=fun _ F _ _=>P0 (F.ev hx) (F.ev hy)
theorem n_add (hx:ev e x=some (.int .i64 i)) (hy:ev e y=some (.int .i64 j)) (h1:-9223372036854775808≤i+j∧i+j≤9223372036854775807):RN P n e C dd (.binOp .add ty x y yt) t p af gg (.int .i64 (i+j)):=fun _ F _ _=>Gi (F.ev hx) (F.ev hy) (Br h1.1 h1.2)
theorem n_sub (hx:ev e x=some (.int .i64 i)) (hy:ev e y=some (.int .i64 j)) (h1:-9223372036854775808≤i - j∧i - j≤9223372036854775807):RN P n e C dd (.binOp .sub ty x y yt) t p af gg (.int .i64 (i - j)):=fun _ F _ _=>Aaf (F.ev hx) (F.ev hy) (Br h1.1 h1.2)
theorem n_ix {s et:TypeId} {si ti:TI} [c:CT P s si] {ad:Option Addr} {m k b o jj:Nat} {zz:Int} (hi:si.k=.slice et) (c':CT P et ti) (hx:ev e x=some (.slice ad m k)) (hy:ev e y=some (.int kd zz)) (I:Ix ad m jj ti.size b o) (hz:zz=(jj:Int)) :
  RN P n e C dd (.indexAddr s x y) t p af gg (.pointer (some ⟨b,o,none⟩)):=fun _ F _ _=>Gf (c.k.trans hi) c'.ok (F.ev hx) (F.ev hy) hz I
end
theorem Xp {p:Prop} (h:p:=by
 first
 | ((with_reducible apply n_mv);exact rfl)
 | ((with_reducible apply n_as);exact rfl)
 | ((with_reducible apply n_fa);exact rfl;exact rfl;exact rfl)
 | ((with_reducible apply n_ld);exact rfl;exact rfl;exact z_cl)
 | ((with_reducible apply n_lb);exact rfl;exact rfl;exact z_cs;exact rfl)
 | ((with_reducible apply n_pt);exact rfl;exact Pq;exact rfl)
 | ((with_reducible apply n_pf);exact rfl;exact Pq;exact rfl)
 | ((with_reducible apply n_ls);exact rfl;exact rfl)
 | ((with_reducible apply n_lS);exact rfl;exact rfl)
 | ((with_reducible apply n_eq);exact rfl;exact rfl)
 | ((with_reducible apply n_ne);exact rfl;exact rfl)
 | ((with_reducible apply n_lt);exact rfl;exact rfl)
 | ((with_reducible apply n_gt);exact rfl;exact rfl)
 | ((with_reducible apply n_lq);exact rfl;exact rfl)
 | ((with_reducible apply n_gq);exact rfl;exact rfl)
 | ((with_reducible apply n_seq);exact rfl;exact rfl)
 | ((with_reducible apply n_sne);exact rfl;exact rfl)
 | ((with_reducible apply n_ex);exact rfl;exact rfl)
 | ((with_reducible apply n_not);exact rfl)
 | ((with_reducible apply n_nc);exact rfl)
 | ((with_reducible apply n_add);exact rfl;exact rfl;omega)
 | ((with_reducible apply n_sub);exact rfl;exact rfl;omega)
 | ((with_reducible apply n_ix);exact rfl;exact inferInstance;exact rfl;exact rfl;(with_reducible assumption);omega)
 | fail):p:=h
theorem u_run (hr:RN P n e (fun w'=>w' = w) (some d) op t p af none v) (hd:Nat.ble (d+1) n=true) (k:EV n ((d,v)::e) fun a=>rl P ops Q r a w):EV n e fun a=>rl P ops Q (⟨some d,op,t,p,af,none⟩::r) a w :=
 Am (fun a F=>hr a F w rfl) hd k
theorem EV.id {Φ:Act→Prop} (h:EV n e Φ):EV n e Φ:=h
theorem EV.out {Φ:Act→Prop} (h:EV n e Φ):∀ a,Fits n a e→Φ a:=h
theorem z_M {L':List Res} (M:Mem w0 G L w) (h:L=L':=by first | (dsimp only [List.set,List.eraseIdx,List.cons_append,List.nil_append,over];done) | exact rfl):Mem w0 G L' w:=h ▸ M
section
variable {j:Nat} {want b:Bool}
theorem v_kf {r:List (PK × Oper)} (hr:RN P n e (fun _=>True) (some d) op t p af none v) (hd:Nat.ble (d+1) n=true) (k:EV n ((d,v)::e) fun a=>pk P ops Q C r a w):EV n e fun a=>pk P ops Q C ((.free,⟨some d,op,t,p,af,none⟩)::r) a w:=k_f hr hd k
theorem v_kp {r:List (PK × Oper)} (hr:RN P n e C (some d) op t p af none v) (hd:Nat.ble (d+1) n=true) (k:EV n ((d,v)::e) fun a=>pk P ops Q C r a w):EV n e fun a=>pk P ops Q C ((.pure,⟨some d,op,t,p,af,none⟩)::r) a w:=k_p hr hd k
theorem v_kfg {r:List (PK × Oper)} (h:gdv n d ops e j=some (.bool b)) (hw:b=want) (hr:RN P n e (fun _=>True) (some d) op t p af (some (j,want)) v) (k:EV n ((d,v)::e) fun a=>pk P ops Q C r a w):EV n e fun a=>pk P ops Q C ((.free,⟨some d,op,t,p,af,some (j,want)⟩)::r) a w:=Lf h hw hr k
theorem v_kpg {r:List (PK × Oper)} (h:gdv n d ops e j=some (.bool b)) (hw:b=want) (hr:RN P n e C (some d) op t p af (some (j,want)) v) (k:EV n ((d,v)::e) fun a=>pk P ops Q C r a w):EV n e fun a=>pk P ops Q C ((.pure,⟨some d,op,t,p,af,some (j,want)⟩)::r) a w:=k_pg h hw hr k
theorem v_lr {r:List (Bool × Oper)} (hr:RN P n e C (some d) op t p af none v) (hd:Nat.ble (d+1) n=true) (k:EV n ((d,v)::e) fun a=>pl P ops Q C r a w):EV n e fun a=>pl P ops Q C ((true,⟨some d,op,t,p,af,none⟩)::r) a w:=l_r hr hd k
theorem v_lg {r:List (Bool × Oper)} (h:gdv n d ops e j=some (.bool b)) (hw:b=want) (hr:RN P n e C (some d) op t p af (some (j,want)) v) (k:EV n ((d,v)::e) fun a=>pl P ops Q C r a w):EV n e fun a=>pl P ops Q C ((true,⟨some d,op,t,p,af,some (j,want)⟩)::r) a w:=l_g h hw hr k
theorem v_tr {r:PO} (hr:RN P n e C (some d) op t p af none v) (hd:Nat.ble (d+1) n=true) (k:EV n ((d,v)::e) fun a=>ptl P ops Q C r a w):EV n e fun a=>ptl P ops Q C (.run ⟨some d,op,t,p,af,none⟩ r) a w:=t_r hr hd k
theorem v_tg {r:PO} (h:gdv n d ops e j=some (.bool b)) (hw:b=want) (hr:RN P n e C (some d) op t p af (some (j,want)) v) (k:EV n ((d,v)::e) fun a=>ptl P ops Q C r a w):EV n e fun a=>ptl P ops Q C (.run ⟨some d,op,t,p,af,some (j,want)⟩ r) a w:=t_g h hw hr k
end
theorem z_pk {r:List (PK × Oper)} (h:EV n e fun a=>pk P ops Q C r a w):EV n e fun a=>pk P ops Q C r a w:=h
theorem z_lk {r:List (Bool × Oper)} (h:EV n e fun a=>pl P ops Q C r a w):EV n e fun a=>pl P ops Q C r a w:=h
theorem z_tk {r:PO} (h:EV n e fun a=>ptl P ops Q C r a w):EV n e fun a=>ptl P ops Q C r a w:=h
structure Bx (q:Prop):Prop where
 out:q
theorem wk {p q:Prop} (k:q) (h:Bx q→p:=by
  intro hq
  (first | (with_reducible refine EV.id ?_) | (with_reducible refine EV.out ?_) | (revert a;with_reducible refine EV.out ?_))
  repeat (first
    | (with_reducible apply Cj)
    | (with_reducible apply J3)
    | ((with_reducible apply u_run);exact Xp;exact rfl)
    | (with_reducible apply Ao)
    | (with_reducible apply F1)
    | ((with_reducible apply g_u);exact rfl)
    | ((with_reducible apply g_t);exact rfl;exact Pq)
    | ((with_reducible apply g_f);exact rfl;exact Pq)
    | ((with_reducible apply Aug);exact rfl;exact Pq)
    | ((with_reducible apply Auh);exact rfl;exact Pq)
    | (with_reducible apply F3)
    | (with_reducible apply J4)
    | (with_reducible apply Auf)
    | (with_reducible apply E9)
    | (with_reducible apply Gr)
    | (with_reducible apply e_te)
    | (with_reducible apply e_bn)
    | (with_reducible apply Kd)
    | (with_reducible apply e_bh)
    | ((with_reducible apply e_be);exact rfl)
    | ((with_reducible refine z_pk ?_)
       first
       | (apply v_kf;exact Xp;exact rfl)
       | (apply v_kp;exact Xp;exact rfl)
       | (apply k_u;exact rfl)
       | (apply k_s;exact rfl;exact Pq)
       | (apply v_kfg;exact rfl;exact Pq;exact Xp)
       | (apply v_kpg;exact rfl;exact Pq;exact Xp)
       | apply k_nil)
    | ((with_reducible refine z_lk ?_)
       first
       | (apply v_lr;exact Xp;exact rfl)
       | (apply l_s;exact rfl;exact Pq)
       | (apply v_lg;exact rfl;exact Pq;exact Xp)
       | apply l_nil)
    | ((with_reducible refine z_tk ?_)
       first
       | (apply v_tr;exact Xp;exact rfl)
       | (apply t_s;exact rfl;exact Pq)
       | (apply v_tg;exact rfl;exact Pq;exact Xp)
       | apply Ki))
  exact hq.1):p:=h ⟨k⟩
end
end Go.Y
