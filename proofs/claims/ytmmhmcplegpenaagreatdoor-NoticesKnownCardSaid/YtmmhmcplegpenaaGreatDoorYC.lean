/- The generic core, third part: trees. -/
import Derived.Test.YtmmhmcplegpenaaGreatDoorYB
set_option linter.unusedSimpArgs false
set_option linter.unusedVariables false
namespace Go.Y
open Go Go.RowKit
inductive Tr (β:Type) where
 | mk (kind:Int) (tag key:List UInt8) (as:List β) (text:List UInt8) (kids:List (Tr β))
namespace Tr
variable {β:Type}
def kind:Tr β→Int | .mk k _ _ _ _ _=>k
def tag:Tr β→List UInt8 | .mk _ t _ _ _ _=>t
def key:Tr β→List UInt8 | .mk _ _ k _ _ _=>k
def as:Tr β→List β | .mk _ _ _ l _ _=>l
def text:Tr β→List UInt8 | .mk _ _ _ _ t _=>t
def kids:Tr β→List (Tr β) | .mk _ _ _ _ _ l=>l
mutual
def size:Tr β→Nat
 | .mk _ _ _ _ _ l=>sizes l+1
def sizes:List (Tr β)→Nat
 | []=>0
 | x::l=>size x+sizes l
end
mutual
def depth:Tr β→Nat
 | .mk _ _ _ _ _ l=>depths l+1
def depths:List (Tr β)→Nat
 | []=>0
 | x::l=>max (depth x) (depths l)
end
theorem size_eq (x:Tr β):x.size=sizes x.kids+1:=by cases x;simp only [size,kids]
theorem depth_eq (x:Tr β):x.depth=depths x.kids+1:=by cases x;simp only [depth,kids]
theorem Mw:∀ (l m:List (Tr β)),sizes (l++m)=sizes l+sizes m
 | [],m=>by simp [sizes]
 | x::l,m=>by simp only [List.cons_append,sizes,Mw l m];omega
theorem Qe:∀ (l m:List (Tr β)),depths (l++m)=max (depths l) (depths m)
 | [],m=>by simp [depths]
 | x::l,m=>by simp only [List.cons_append,depths,Qe l m];omega
theorem size_pos (x:Tr β):1≤x.size:=by rw [size_eq];omega
theorem size_mem:∀ {l:List (Tr β)} {x:Tr β},x∈l→x.size≤sizes l
 | y::l,x,h=>by
  simp only [sizes]
  rcases List.mem_cons.1 h with rfl | h
  ·omega
  ·have:=size_mem h;omega
theorem Awg {x c:Tr β} (h:c∈x.kids):c.size < x.size:=by
 have:=size_mem h;rw [size_eq x];omega
theorem ind {p:Tr β→Prop} (h:∀ x,(∀ c∈x.kids,p c)→p x) (x:Tr β):p x:=by
 suffices ∀ n x,size x≤n→p x from this _ x (Nat.le_refl _)
 intro n
 induction n with
 | zero=>intro x D;have:=size_pos x;omega
 | succ n ih=>intro x D;exact h x fun c A=>ih c (by have:=Awg A;omega)
theorem take_snoc' {α:Type} {xs:List α} {i:Nat} {x:α} (D:xs[i]?=some x):xs.take (i+1)=xs.take i++[x]:=by
 have A:i < xs.length:=by
  rcases Nat.lt_or_ge i xs.length with h | h
  ·exact h
  ·rw [List.getElem?_eq_none h] at D;cases D
 rw [List.take_succ_eq_append_getElem A];rw [List.getElem?_eq_getElem A] at D;simp only [Option.some.injEq] at D;rw [D]
theorem sizes_snoc {l:List (Tr β)} {i:Nat} {x:Tr β} (h:l[i]?=some x):sizes (l.take (i+1))=sizes (l.take i)+x.size:=by
 rw [take_snoc' h,Mw];simp [sizes]
theorem depths_snoc {l:List (Tr β)} {i:Nat} {x:Tr β} (h:l[i]?=some x):depths (l.take (i+1))=max (depths (l.take i)) x.depth:=by
 rw [take_snoc' h,Qe];simp [depths]
theorem sizes_take_le (l:List (Tr β)) (i:Nat):sizes (l.take i)≤sizes l:=by
 conv=>rhs;rw [← List.take_append_drop i l]
 rw [Mw];omega
def Ok (A:Tr β→Prop):Nat→Tr β→Prop
 | 0,_=>False
 | n+1,x=>A x∧∀ c∈x.kids,Ok A n c
theorem Ok.depth {A:Tr β→Prop}:∀ {n:Nat} {x:Tr β},Ok A n x→x.depth≤n
 | 0,_,h=>h.elim
 | n+1,x,h=>by
  rw [depth_eq];have:∀ l:List (Tr β),(∀ c∈l,Ok A n c)→depths l≤n:=by
   intro l
   induction l with
   | nil=>intro _;simp [depths]
   | cons y l ih =>
    intro hl;have h1:=Ok.depth (hl y (by simp));have h2:=ih (fun c hc=>hl c (by simp [hc]));simp only [depths];omega
  have:=this _ h.2
  omega
theorem Ok.mono {A:Tr β→Prop}:∀ {n m:Nat} {x:Tr β},Ok A n x→n≤m→Ok A m x
 | 0,_,_,h,_=>h.elim
 | n+1,0,_,_,h=>by omega
 | n+1,m+1,x,h,hm=>⟨h.1,fun c hc=>Ok.mono (h.2 c hc) tM⟩
end Tr
theorem Aj.imp {α:Type} {rd A:Rd α} {sz:Nat} {G:Av} {v:Value} {xs:List α} (h:∀ cs x,rd G cs x→A G cs x) (S:Aj rd sz G v xs):Aj A sz G v xs:=by
 obtain ⟨a,c,H,I,N,E⟩:=S;refine ⟨a,c,H,I,N,?_⟩
 rcases E with E | ⟨b,o,O,T⟩
 ·exact Or.inl E
 ·refine Or.inr ⟨b,o,O,fun i x hx=>?_⟩;obtain ⟨cs,U,D,V,Y⟩:=T i x hx
  exact ⟨cs,U,D,V,h _ _ Y⟩
section
variable {β:Type} (rb:Rd β) (zb:Nat)
def Y1:Nat→Rd (Tr β)
 | 0=>fun _ _ _=>False
 | d+1=>fun G cs x=>∃ a1 c1 a2 c2,cs=[.int .u8 x.kind,.string (str x.tag),.string (str x.key),.slice a1 x.as.length c1,.string (str x.text),.slice a2 x.kids.length c2] ∧
   Al .u8 x.kind∧(x.tag.length≤9223372036854775807∧x.key.length≤9223372036854775807∧x.text.length≤9223372036854775807) ∧
   Aj rb zb G (.slice a1 x.as.length c1) x.as∧Aj (Y1 d) 6 G (.slice a2 x.kids.length c2) x.kids
def rdT:Rd (Tr β):=fun G cs x=>∃ d,Y1 rb zb d G cs x
variable {rb zb}
theorem Amu:∀ {d:Nat} {G:Av} {cs:List Value} {x:Tr β},Y1 rb zb d G cs x→Y1 rb zb (d+1) G cs x
 | 0,_,_,_,h=>h.elim
 | d+1,G,cs,x,⟨a1,c1,a2,c2,h1,h2,h3,h4,h5⟩=>⟨a1,c1,a2,c2,h1,h2,h3,h4,h5.imp fun _ _ h=>Amu h⟩
theorem Amv {d e:Nat} {G:Av} {cs:List Value} {x:Tr β} (h:Y1 rb zb d G cs x) (A:d≤e):Y1 rb zb e G cs x:=by
 induction A with
 | refl=>exact h
 | step _ ih=>exact Amu ih
theorem Aab (hm:Hx rb):∀ d:Nat,Hx (Y1 rb zb d)
 | 0=>fun _ _ _ _ _ h=>h
 | d+1=>fun G G' cs x hg ⟨a1,c1,a2,c2,h1,h2,h3,h4,h5⟩=>⟨a1,c1,a2,c2,h1,h2,h3,h4.mono hm hg,h5.mono (Aab hm d) hg⟩
theorem Agv (E:Hx rb):Hx (rdT rb zb):=fun G A cs x D ⟨d,h⟩=>⟨d,Aab E d G A cs x D h⟩
theorem D7 {G : Av} {cs : List Value} {x : Tr β} (h : rdT rb zb G cs x) : ∃ A E D H, cs = [.int .u8 x.kind, .string (str x.tag), .string (str x.key), .slice A x.as.length E, .string (str x.text), .slice D x.kids.length H] ∧
      Al .u8 x.kind∧(x.tag.length≤9223372036854775807∧x.key.length≤9223372036854775807∧x.text.length≤9223372036854775807) ∧
      Aj rb zb G (.slice A x.as.length E) x.as∧Aj (rdT rb zb) 6 G (.slice D x.kids.length H) x.kids:=by
  obtain ⟨d,h⟩:=h
  cases d with
  | zero=>exact h.elim
  | succ d =>
    obtain ⟨A,E,D,H,I,N,O,S,T⟩:=h
    exact ⟨A,E,D,H,I,N,O,S,T.imp fun _ _ h=>⟨d,h⟩⟩
theorem Arf {G:Av} {v:Value} {xs:List (Tr β)} (S:Aj (rdT rb zb) 6 G v xs):∃ d,Aj (Y1 rb zb d) 6 G v xs:=by
 obtain ⟨a,c,N,O,T,I⟩:=S
 rcases I with I | ⟨b,o,U,V⟩
 ·exact ⟨0,a,c,N,O,T,Or.inl I⟩
 ·have key:∀ n,∃ d,∀ i x,i < n→xs[i]?=some x→∃ cs:List Value,cs.length=6∧(∀ u∈cs,u.oneCell' = true)∧At G b (o+i * 6) cs∧Y1 rb zb d G cs x:=by
   intro n
   induction n with
   | zero=>exact ⟨0,fun i x h=>by omega⟩
   | succ n ih =>
    obtain ⟨d,E⟩:=ih
    cases D:xs[n]? with
    | none =>
     refine ⟨d,fun i x Y A=>?_⟩
     rcases Nat.lt_or_ge i n with h | h
     ·exact E i x h A
     ·have:i=n:=by omega
      subst this;rw [D] at A;cases A
    | some y =>
     obtain ⟨cs,q1,q2,q3,e,q4⟩:=V n y D;refine ⟨max d e,fun i x Y A=>?_⟩
     rcases Nat.lt_or_ge i n with h | h
     ·obtain ⟨H,r1,r2,r3,r4⟩:=E i x h A
      exact ⟨H,r1,r2,r3,Amv r4 tM⟩
     ·have:i=n:=by omega
      subst this;rw [D] at A;simp only [Option.some.injEq] at A;subst A
      exact ⟨cs,q1,q2,q3,Amv q4 tM⟩
  obtain ⟨d,E⟩:=key xs.length;refine ⟨d,a,c,N,O,T,Or.inr ⟨b,o,U,fun i x D=>E i x ?_ D⟩⟩
  rcases Nat.lt_or_ge i xs.length with h | h
  ·exact h
  ·rw [List.getElem?_eq_none h] at D;cases D
theorem F5 {G:Av} {A D:Option Addr} {E H:Nat} {x:Tr β} (N:Al .u8 x.kind) (O:x.tag.length≤9223372036854775807∧x.key.length≤9223372036854775807∧x.text.length≤9223372036854775807)
  (S:Aj rb zb G (.slice A x.as.length E) x.as) (I:Aj (rdT rb zb) 6 G (.slice D x.kids.length H) x.kids) :
  rdT rb zb G [.int .u8 x.kind,.string (str x.tag),.string (str x.key),.slice A x.as.length E,.string (str x.text),.slice D x.kids.length H] x:=by
 obtain ⟨d,I⟩:=Arf I
 exact ⟨d+1,A,E,D,H,rfl,N,O,S,I⟩
end
section
variable {P:Program} {w0 w:World} {G:Av} {L:List Res} {ops:Array Oper} {Q:Exit→Act→World→Prop} {n:Nat} {a:Act} {e:Env} {d:Nat} {t:TypeId} {p:String} {af:Array Edge} {r:List Oper}
theorem Aqv {f:FuncId} {A:Operand} {args:List Operand} {E:Array TypeId} {vs caps:List Value} {Φ:Value→Prop}
  (F:Fits n a e) (S:Ent P f) (T:ev e A=some (.func (.func f) #[] caps.toArray)) (Y:evs e args=some vs) (U:Nat.ble (d+1) n=true) (V:Calls P f (vs++caps).toArray w (B5 w0 G L Φ))
  (k:∀ v w' D,Mem w0 G L w'→Φ v→Fits n D ((d,v)::e)→rl P ops Q r D w') :
  rl P ops Q (⟨some d,.call ⟨.value A,args.toArray,E⟩,t,p,af,none⟩::r) a w:=by
 refine Jo F S T Y U V fun x w' H=>?_
 cases x with
 | returned v=>obtain ⟨N,O⟩:=H;exact ⟨v,rfl,fun D I=>k v w' D N O I⟩
 | panicked c=>exact H.elim
 | outgrown=>exact H.elim
theorem Aro {C:World→Prop} {r:List (PK × Oper)} {q:PK} {op:Op} {j g:Nat} {D:Bool} (F:Fits n a e) (N:(ops[j]?).bind (·.dst)=some g) (I:look e g=some undef) (E:Nat.ble (d+1) n=true)
  (k:∀ H,Fits n H ((d,undef)::e)→pk P ops Q C r H w):pk P ops Q C ((q,⟨some d,op,t,p,af,some (j,D)⟩)::r) a w:=by
 have O:yielded ops a.tmps j=none:=by simp [yielded,N,F.slot _ _ I,undef]
 have A:Region.wanted ⟨some d,op,t,p,af,some (j,D)⟩ (yielded ops a.tmps)=false:=by simp [Region.wanted,O]
 cases q with
 | free=>exact ⟨undef,Or.inr ⟨A,rfl⟩,k _ (F.put E)⟩
 | pure=>exact ⟨undef,Or.inr ⟨A,rfl⟩,k _ (F.put E)⟩
 | keep=>exact ⟨fun h=>(by rw [A] at h;cases h),fun _=>k _ (F.put E)⟩
 | chg=>exact ⟨fun h=>(by rw [A] at h;cases h),fun _=>k _ (F.put E)⟩
theorem At.of_cells {b:Nat} {cs:List Value} {ty:TypeId} {f:Nat × Nat} (h:G b=some (.cells cs.toArray ty f)):At G b 0 cs:=by
 intro j v A;unfold Ic;rw [h]
 simpa using A
theorem Azw {S:Func} (F:Fits n a e) {t u A D k1 k2 E b2:Nat} {x y:Value} {R:Ending→World→Prop} (M:Mem w0 G L w) (H:L[k1]?=some (.blk E [x] A)) (I:L[k2]?=some (.blk b2 [y] D)) (V:S.results = #[.cell t A,.cell u D])
  (T:(tk P A).agg=some false) (U:(tk P D).agg=some false) (N:look e t=some (.pointer (some ⟨E,0,none⟩))) (O:look e u=some (.pointer (some ⟨b2,0,none⟩))) (h:R (.returned (.tuple #[x,y])) w):bodyPost P S R .ret a w:=by
 refine Nh F (v:=.tuple #[x,y]) ?_ h;have Y:(loadVar A ⟨E,0,none⟩).run P w=.ok x w:=Hs T (M.cellL H rfl);have l2:(loadVar D ⟨b2,0,none⟩).run P w=.ok y w:=Hs U (M.cellL I rfl)
 simp [results,V,F.slot _ _ N,F.slot _ _ O,asAddr,Y,l2]
end
section
variable {P:Program} {w0 w:World} {G:Av} {L:List Res} {ρ:Operand→Value} {dd:Option Tmp} {t:TypeId} {p:String} {af:Array Edge} {g:Option (Nat × Bool)}
theorem Yt {A et:TypeId} {i:TI} {x y:Operand} {n b l:Nat} {k:IntKind} {z:Int} (H:tk P A=.array n et) (N:TOK P et i) (E:i.size=1) (O:ρ x=.pointer (some ⟨b,0,none⟩)) (S:ρ y=.int k z) (T:z=(l:Int)) (I:l < n) :
  (execOp ρ ⟨dd,.slice A x (some y) none none,t,p,af,g⟩).run P w=.ok (.value (.slice (some ⟨b,l,none⟩) (n - l) (n - l))) w:=by
 subst T;have D:(0:Int)≤(l:Int):=by omega
 have U:(l:Int)≤(n:Int):=by omega
 have e:¬ (n - l=0):=by omega
 have c3:((n:Int) - (l:Int)).toNat=n - l:=by omega
 simp [execOp,Instr.sliceAt,B9 (F7 H),O,Instr.sureAddr,Instr.sliceBounds,Instr.sliceBound,S,asIntOf,D,N.sizeOf,Fv,E,Nat.le_of_lt I]
 intro h
 omega
theorem Yr {E A e H:TypeId} {x:Operand} {k b o n c:Nat} {l:List UInt8} (M:Mem w0 G L w) (S:L[k]?=some (.blk b (bc l) H)) (T:tk P E=.slice e) (O:tk P e=.int .u8) (N:tk P A=.str)
  (U:ρ x=.slice (some ⟨b,o,none⟩) n c) (Y:o+n=l.length):(execOp ρ ⟨dd,.convert E A x,t,p,af,g⟩).run P w=.ok (.value (.string (str (l.drop o)))) w:=by
 have:=Yc (P:=P) (w:=w) (b:=b) (o:=o) (n:=n) (c:=c) (l:=l.drop o) T O N (by rw [List.length_drop];omega) (fun j V=>by
  have I:(bc (l.drop o))[j]?=(bc l)[o+j]?:=by
   simp only [bc,List.getElem?_map,List.getElem?_drop]
  rw [I];have D:o+j < (bc l).length:=by rw [Yl];omega
  rw [List.getElem?_eq_getElem D]
  exact M.cellL S (List.getElem?_eq_getElem D))
 simp [execOp,U,this]
theorem bc_set (l:List UInt8) (o:Nat) (b:UInt8):(bc l).set o (.int .u8 (nb b))=bc (l.set o b):=by
 simp [bc,List.map_set]
end
section
variable {P:Program} {w0 w:World} {G:Av} {L:List Res} {ops:Array Oper} {Q:Exit→Act→World→Prop} {n:Nat} {a:Act} {e:Env} {d:Nat} {t:TypeId} {p:String} {af:Array Edge} {r:List Oper}
theorem Rq {α:Type} {rd:Rd α} {sz:Nat} {s et:TypeId} {i:TI} {x y:Operand} {kl kc:IntKind} {l:Nat} {zl V:Int} {Z:α} (F:Fits n a e) (M:Mem w0 G L w) (hs:tk P s=.slice et) (ht:TOK P et i) (I:i.size=sz) (U:0 < sz) (N:i.zero.cells.size=i.size)
  (hx:ev e x=some (.int kl zl)) (S:zl=(l:Int)) (hy:ev e y=some (.int kc V)) (O:V=(l:Int)) (hb:i.bytes * l≤281474976710656) (A:l≤9223372036854775807)
  (h1:∀ u∈i.zero.cells.toList,u.oneCell' = true) (hr:rd G i.zero.cells.toList Z) (hd:Nat.ble (d+1) n=true)
  (k:∀ b cs w' E,Mem w0 G (.row (.slice (some ⟨b,0,none⟩) l l) l cs et sz::L) w'→Els rd sz G cs (List.replicate l Z)→Fits n E ((d,.slice (some ⟨b,0,none⟩) l l)::e)→rl P ops Q r E w') :
  rl P ops Q (⟨some d,.makeSlice s x y,t,p,af,none⟩::r) a w:=by
 subst I;refine Bo F (N6 hs ht (F.ev hx) S (F.ev hy) O (Nat.le_refl _) hb A) hd fun E Y=>k _ (List.replicate l i.zero.cells.toList).flatten _ E ?_ (Els.replicate (by simpa using N) hr l) Y;have hm:(madeCells i.zero.cells (l * i.size))=((List.replicate l i.zero.cells.toList).flatten++[]).toArray:=by
  rw [List.append_nil,← Va _,N]
 rw [hm];have T:(List.replicate l i.zero.cells.toList).flatten.length=l * i.size:=by
  rw [← Va _,Array.length_toList,size_madeCells,N]
 have D:l≤maxLen:=A;refine M.newrow (spare:=[]) ?_ T (by rw [List.append_nil];exact T) (Nat.le_refl _) D;intro u H;obtain ⟨q,hq,H⟩:=List.mem_flatten.1 H;rw [(List.mem_replicate.1 hq).2] at H
 exact h1 u H
end
section
variable {P:Program} {w0 w:World} {G:Av} {L:List Res}
theorem Hf {E:Func} {n:Nat} {a:Act} {e:Env} (F:Fits n a e) {t ty k b:Nat} {i:TI} {cs:List Value} {R:Ending→World→Prop} (M:Mem w0 G L w) (O:L[k]?=some (.blk b cs ty)) (N:E.results = #[.cell t ty])
  (D:TOK P ty i) (A:i.k.agg=some true) (H:cs.length=i.size) (S:look e t=some (.pointer (some ⟨b,0,none⟩))) (h:R (.returned (.agg cs.toArray)) w):bodyPost P E R .ret a w:=by
 refine Nh F (v:=.agg cs.toArray) ?_ h;have I:(loadVar ty ⟨b,0,none⟩).run P w=.ok (.agg cs.toArray) w:=Hr D A H (M.cellsL O (by rw [List.drop_zero,← H,List.take_length]))
 simp [results,N,F.slot _ _ S,asAddr,I]
end
section
variable {P:Program} {ops:Array Oper} {Q:Exit→Act→World→Prop} {C:World→Prop} {ch:List Nat}
theorem Uy {i:Nat} {I:Oper} {v:Value} {fr:Bool} (hi:ops[i]?=some I) (U:∀ (j:Nat) (o:Oper) cs b,ops[j]?=some o→o.op≠.select cs b) (hQ:∀ c a w,Q (.panic c) (a.put I.dst v) w→Q (.panic c) a w)
  (D:Nat→Bool) (hD:∀ (j:Nat) (T:Oper),ops[j]?=some T→D j=true→∃ e∈T.after,Region.binds .any e=true∧(e.on=i∨D e.on=true)) :
  ∀ (E:Nat) (C:World→Prop) (A:Array Bool) (a:Act) (w:World),C w →
   (∀ j T,ops[j]?=some T→j≠i→A.getD j true=false→D j=false→I.apart ops T=true∧(fr=true∨inL ch j=false)) →
   (∀ j,D j=true→A.getD j true=false)→i∈Region.ready .any ops A→(if fr=true then Fm P ops (fun _=>True) I v a else Fm P ops C I v a)→Y9 P ops Q ch C E (A.setIfInBounds i true) (a.put I.dst v) w→Y9 P ops Q ch C (E+1) A a w:=by
 have gC:∀ {C:World→Prop} {a:Act},(if fr=true then Fm P ops (fun _=>True) I v a else Fm P ops C I v a)→Fm P ops C I v a:=by
  intro C a h
  split at h
  ·exact h.mono fun _ _=>trivial
  ·exact h
 intro E
 induction E with
 | zero =>
  intro C A a w hC _ _ Y hy H;refine ⟨fun h=>(by rw [h] at Y;cases Y),fun j hj=>?_⟩
  by_cases hji:j=i
  ·subst hji;exact (gC hy).op hi hC ⟨C,hC,fun _ _ h=>h,H⟩
  ·have:=ready_mono hj hji;rw [H.1] at this
   cases this
 | succ E ih =>
  intro C A a w hC hf hu Y hy H;refine ⟨fun h=>(by rw [h] at Y;cases Y),fun j hj=>?_⟩
  by_cases hji:j=i
  ·subst hji;exact (gC hy).op hi hC ⟨C,hC,fun _ _ h=>h,H⟩
  ·obtain ⟨ac,T,N,ab⟩:=mem_ready.1 hj;have ae:D j=false:=by
    rw [← Bool.not_eq_true];intro ak;obtain ⟨e,he,hb,ao⟩:=hD j T N ak
    rcases ao with al | aj
    ·exact Uj N hj Y he hb al
    ·have h1:(A[e.on]?).getD false=true:=by simpa using ab e he hb
     have h0:(A[e.on]?).getD true=false:=by simpa using hu e.on aj
     cases hq:A[e.on]? with
     | none=>rw [hq] at h1;cases h1
     | some b=>rw [hq] at h1 h0;simp only [Option.getD_some] at h1 h0;rw [h1] at h0;cases h0
   obtain ⟨ai,am⟩:=hf j T N hji ac ae;have key:∀ {D:World→Prop},Fm P ops D I v a→(∀ (O:Act) (C':World→Prop),Fm P ops D I v O→(inL ch j=false→∀ w,C' w→C w)→(if fr=true then Fm P ops (fun _=>True) I v O else Fm P ops C' I v O)) →
     wpOp P ops Q j (fun O w'=>∃ C':World→Prop,C' w'∧(inL ch j=false→∀ w,C' w→C w)∧Y9 P ops Q ch C' (E+1) (A.setIfInBounds j true) O w') a w:=by
    intro D hg aa;have h2:=Wt N ai (U i I · · hi) (U j T · · N) hQ hg (H.2 j (ready_mono hj hji));refine wpOp_mono (fun O w' h3=>?_) h2;obtain ⟨h4,C',h5,h7,h6⟩:=h3;refine ⟨C',h5,h7,ih C' _ O w' h5 ?_ ?_ (ready_mono Y (Ne.symm hji)) (aa O C' h4 h7) ?_⟩
    ·intro k ok V an ah ag;refine hf k ok V an ?_ ag
     by_cases S:j=k
     ·subst S;exact ac
     ·rw [getD_set_ne true S] at ah;exact ah
    ·intro k V;have S:j≠k:=by rintro rfl;rw [ae] at V;cases V
     rw [getD_set_ne true S];exact hu k V
    ·rw [Array.setIfInBounds_comm _ _ hji]
     exact h6
   cases fr with
   | true =>
    simp only [if_true] at hy
    exact key hy fun O C' h _=>by simpa using h
   | false =>
    simp only [Bool.false_eq_true,if_false] at hy;have V:inL ch j=false:=by simpa using am
    exact key hy fun O C' h h7=>by simpa using h.mono (h7 V)
def P2 (ops:Array Oper) (i:Nat):Nat→Nat→Bool
 | 0,_=>false
 | f+1,j=>match ops[j]? with
  | none=>false
  | some oj=>oj.after.any fun e=>Region.binds .any e && (Nat.beq e.on i || P2 ops i f e.on)
theorem Aax {i f j:Nat} {D:Oper} (H:ops[j]?=some D) (h:P2 ops i (f+1) j=true):∃ e∈D.after,Region.binds .any e=true∧(e.on=i∨P2 ops i f e.on=true):=by
 simp only [P2,H] at h;obtain ⟨e,E,A⟩:=Array.any_eq_true'.1 h;simp only [Bool.and_eq_true,Bool.or_eq_true] at A
 exact ⟨e,E,A.1,A.2.imp Nat.eq_of_beq_eq_true id⟩
theorem Aps {i:Nat}:∀ {f j:Nat},P2 ops i f j=true→P2 ops i (f+1) j=true
 | 0,_,h=>by cases h
 | f+1,j,h=>by
  cases hj:ops[j]? with
  | none=>simp [P2,hj] at h
  | some oj =>
   obtain ⟨e,he,hb,hor⟩:=Aax hj h;simp only [P2,hj];refine Array.any_eq_true'.2 ⟨e,he,?_⟩;rw [hb,Bool.true_and,Bool.or_eq_true]
   rcases hor with h1 | h1
   ·left;rw [h1];exact Nat.beq_refl i
   ·right
    have:=Aps h1
    simpa [P2] using this
theorem Uw {i f:Nat} (j:Nat) (D:Oper) (I:ops[j]?=some D) (h:P2 ops i f j=true):∃ e∈D.after,Region.binds .any e=true∧(e.on=i∨P2 ops i f e.on=true):=by
 cases f with
 | zero=>cases h
 | succ f =>
  obtain ⟨e,H,E,A⟩:=Aax I h
  exact ⟨e,H,E,A.imp id Aps⟩
def Adv (ops:Array Oper) (fr:Bool) (ch:List Nat) (i:Nat) (listed:Array Bool):Bool :=
 match ops[i]? with
 | none=>false
 | some oi=>(List.range ops.size).all fun j=>match ops[j]? with
  | none=>true
  | some oj=>if P2 ops i 5 j then !(listed.getD j true) else (Nat.beq j i || listed.getD j true || (oi.apart ops oj && (fr || !inL ch j)))
theorem Ll {fr:Bool} {i:Nat} {V:Oper} {A:Array Bool} (Y:ops[i]?=some V) (S:Adv ops fr ch i A=true) :
  (∀ j D,ops[j]?=some D→j≠i→A.getD j true=false→P2 ops i 5 j=false→V.apart ops D=true∧(fr=true∨inL ch j=false))∧(∀ j,P2 ops i 5 j=true→A.getD j true=false):=by
 have key:∀ j D,ops[j]?=some D→(if P2 ops i 5 j then !(A.getD j true) else (Nat.beq j i || A.getD j true || (V.apart ops D && (fr || !inL ch j))))=true:=by
  intro j D E;unfold Adv at S;simp only [Y] at S;have U:j < ops.size:=by
   rcases Nat.lt_or_ge j ops.size with O | O
   ·exact O
   ·rw [Array.getElem?_eq_none O] at E;cases E
  have:=List.all_eq_true.1 S j (List.mem_range.2 U);simp only [E] at this
  exact this
 refine ⟨fun j D E T I N=>?_,fun j N=>?_⟩
 ·have h:=key j D E;rw [N,if_neg (by simp)] at h;simp only [Bool.or_eq_true,Bool.and_eq_true] at h
  rcases h with (H | H) | H
  ·exact absurd (Nat.eq_of_beq_eq_true H) T
  ·rw [H] at I;cases I
  ·exact ⟨H.1,by simpa using H.2⟩
 ·cases E:ops[j]? with
  | none=>simp [P2,E] at N
  | some D =>
   have h:=key j D E;rw [N,if_pos rfl] at h
   simpa using h
def Kn (ops:Array Oper) (ch:List Nat):List (PK × Nat)→Array Bool→Bool
 | [],listed=>(Region.ready .any ops listed).isEmpty
 | (.free,i)::r,listed=>(Region.ready .any ops listed).any (Nat.beq i) && Adv ops true ch i listed && Kn ops ch r (listed.setIfInBounds i true)
 | (.pure,i)::r,listed=>(Region.ready .any ops listed).any (Nat.beq i) && Adv ops false ch i listed && Kn ops ch r (listed.setIfInBounds i true)
 | (.keep,i)::r,listed=>(match Region.ready .any ops listed with | [j]=>Nat.beq i j | _=>false) && Kn ops ch r (listed.setIfInBounds i true)
 | (.chg,i)::r,listed=>inL ch i && (match Region.ready .any ops listed with | [j]=>Nat.beq i j | _=>false) && Kn ops ch r (listed.setIfInBounds i true)
theorem Hq (hsel:∀ (j:Nat) (o:Oper) cs b,ops[j]?=some o→o.op≠.select cs b) (hQ:∀ c a d v w,Q (.panic c) (a.put d v) w→Q (.panic c) a w) :
  ∀ (order:List (PK × Nat)) (C:World→Prop) (listed:Array Bool) (plan:List (PK × Oper)) (a:Act) (w:World),order.map (fun x=>(x.1,ops[x.2]?))=plan.map (fun x=>(x.1,some x.2))→Kn ops ch order listed=true→C w →
   pk P ops Q C plan a w→Y9 P ops Q ch C order.length listed a w
 | [],C,listed,plan,a,w,hp,hok,_,h=>by
  cases plan with
  | nil=>exact ⟨by simpa [Kn] using hok,h⟩
  | cons x y=>simp at hp
 | (k,i)::order,C,listed,plan,a,w,hp,hok,hC,h=>by
  cases plan with
  | nil=>simp at hp
  | cons x plan =>
   obtain ⟨b,o⟩:=x;simp only [List.map_cons,List.cons.injEq,Prod.mk.injEq] at hp;obtain ⟨⟨rfl,hi⟩,hp⟩:=hp;have hin:∀ {l:List Nat},l.any (Nat.beq i)=true→i∈l:=by
    intro l hl;obtain ⟨j,hj,hb⟩:=List.any_eq_true.1 hl;rw [Nat.eq_of_beq_eq_true hb];exact hj
   have one:(match Region.ready .any ops listed with | [j]=>Nat.beq i j | _=>false)=true→Region.ready .any ops listed=[i]:=by
    intro hr
    split at hr
    ·rename_i j hj;rw [hj,Nat.eq_of_beq_eq_true hr]
    ·cases hr
   cases k with
   | free =>
    simp only [Kn,Bool.and_eq_true] at hok;obtain ⟨⟨hr,hf⟩,hok⟩:=hok;obtain ⟨v,hy,h'⟩:=h
    exact Uy (fr:=true) hi hsel (fun c a w=>hQ c a o.dst v w) _ Uw _ C listed a w hC (Ll hi hf).1 (Ll hi hf).2 (hin hr) (by simpa using hy) (Hq hsel hQ order C _ plan _ w hp hok hC h')
   | pure =>
    simp only [Kn,Bool.and_eq_true] at hok;obtain ⟨⟨hr,hf⟩,hok⟩:=hok;obtain ⟨v,hy,h'⟩:=h
    exact Uy (fr:=false) hi hsel (fun c a w=>hQ c a o.dst v w) _ Uw _ C listed a w hC (Ll hi hf).1 (Ll hi hf).2 (hin hr) (by simpa using hy) (Hq hsel hQ order C _ plan _ w hp hok hC h')
   | keep =>
    simp only [Kn,Bool.and_eq_true] at hok;obtain ⟨hr,hok⟩:=hok;have hready:=one hr;refine ⟨fun h0=>(by rw [hready] at h0;cases h0),fun j hj=>?_⟩;rw [hready] at hj;have hji:j=i:=by simpa using hj
    subst hji;obtain ⟨h1,h2⟩:=h;unfold wpOp;simp only [hi]
    by_cases hw:Region.wanted o (yielded ops a.tmps)=true
    ·rw [if_pos hw]
     left
     exact Oper.wp_mono (fun a' w' hk=>by
      obtain ⟨C',h3,h4,h5⟩:=hk
      exact ⟨C',h3,fun _=>h4,Hq hsel hQ order C' _ plan a' w' hp hok h3 h5⟩) (h1 hw)
    ·rw [if_neg hw]
     exact ⟨C,hC,fun _ _ h=>h,Hq hsel hQ order C _ plan _ w hp hok hC (h2 (by simpa using hw))⟩
   | chg =>
    simp only [Kn,Bool.and_eq_true] at hok;obtain ⟨⟨hch,hr⟩,hok⟩:=hok;have hready:=one hr;refine ⟨fun h0=>(by rw [hready] at h0;cases h0),fun j hj=>?_⟩;rw [hready] at hj;have hji:j=i:=by simpa using hj
    subst hji;obtain ⟨h1,h2⟩:=h;unfold wpOp;simp only [hi]
    by_cases hw:Region.wanted o (yielded ops a.tmps)=true
    ·rw [if_pos hw]
     left
     exact Oper.wp_mono (fun a' w' hk=>by
      obtain ⟨C',h3,h5⟩:=hk
      exact ⟨C',h3,fun h=>(by rw [hch] at h;cases h),Hq hsel hQ order C' _ plan a' w' hp hok h3 h5⟩) (h1 hw)
    ·rw [if_neg hw]
     exact ⟨C,hC,fun h=>(by rw [hch] at h;cases h),Hq hsel hQ order C _ plan _ w hp hok hC (h2 (by simpa using hw))⟩
def Wo (l:List Oper) (ch:List Nat) (order:List (PK × Nat)):Bool :=
 Region.noSelect l.toArray && order.all (fun x=>Nat.ble (x.2+1) l.length) && Nat.beq order.length l.length && Kn l.toArray ch order (Array.replicate l.length false)
theorem Mq {id:Nat} {l:List Oper} {a:Act} {w:World} (A:List (PK × Nat)) (ch:List Nat) (C:World→Prop) (O:P.follows .mixedOrders=true) (H:Wo l ch A=true)
  (N:∀ c a d v w,Q (.panic c) (a.put d v) w→Q (.panic c) a w) (I:C { w with drawn:=w.drawn+1 }) (h:pk P l.toArray Q C (Pf l.toArray A) a { w with drawn:=w.drawn+1 }):(Code.region id l.toArray true).wp P Q a w:=by
 simp only [Wo,Bool.and_eq_true] at H;obtain ⟨⟨⟨U,T⟩,S⟩,E⟩:=H;refine wp_region_any O (O0 (ch:=ch) _ C _ _ _ ?_);have D:=Nat.eq_of_beq_eq_true S;have:=Hq (P:=P) (Region.noSelect_spec U) N A C (Array.replicate l.length false) _ a _ (Of A (by simpa using T)) E I h;rw [D] at this
 simpa using this
end
section
variable {P:Program} {w:World} {ρ:Operand→Value} {dd:Option Tmp} {t:TypeId} {p:String} {af:Array Edge} {g:Option (Nat × Bool)}
end
end Go.Y
namespace Go.Y
open Go Go.RowKit
def EV (n:Nat) (e:Env) (Φ:Act→Prop):Prop:=∀ a,Fits n a e→Φ a
theorem Fits.go {n:Nat} {a:Act} {e:Env} {Φ:Act→Prop} (F:Fits n a e) (h:EV n e Φ):Φ a:=h a F
def evd (n d:Nat) (e:Env) (x:Operand):Option Value:=match Nat.ble (d+1) n with
 | true=>ev e x
 | false=>none
theorem Bu {n d:Nat} {e:Env} {x:Operand} {v:Value} (h:evd n d e x=some v):Nat.ble (d+1) n=true∧ev e x=some v:=by
 unfold evd at h;split at h
 ·rename_i A;exact ⟨A,h⟩
 ·cases h
def Sa (fs:List (Nat × Nat × Nat)) (f:Nat):Option Nat:=match fs[f]? with
 | some (o,s,_)=>match Nat.beq s 0 with
  | false=>some o
  | true=>none
 | none=>none
theorem Azu {A:List (Nat × Nat × Nat)} {f o:Nat} (h:Sa A f=some o):∃ s t,A[f]?=some (o,s,t)∧Nat.beq s 0=false:=by
 unfold Sa at h;split at h
 ·rename_i o' s t D;split at h
  ·rename_i E;simp only [Option.some.injEq] at h;subst h;exact ⟨s,t,D,E⟩
  ·cases h
 ·cases h
def gdv (n d:Nat) (ops:Array Oper) (e:Env) (j:Nat):Option Value:=match Nat.ble (d+1) n with
 | true=>match (ops[j]?).bind (·.dst) with
  | some g=>look e g
  | none=>none
 | false=>none
theorem Ky {n d:Nat} {A:Array Oper} {e:Env} {j:Nat} {v:Value} (h:gdv n d A e j=some v):Nat.ble (d+1) n=true∧∃ g,(A[j]?).bind (·.dst)=some g∧look e g=some v:=by
 unfold gdv at h;split at h
 ·rename_i D;split at h
  ·rename_i g E;exact ⟨D,g,E,h⟩
  ·cases h
 ·cases h
section
variable {P:Program} {ops:Array Oper} {Q:Exit→Act→World→Prop} {K:Act→World→Prop} {n d:Nat} {w w0 w':World} {e:Env} {G:Av} {L:List Res} {op:Op} {t:TypeId} {p:String} {af:Array Edge} {r:List Oper} {v:Value} {x y z:Operand}
theorem Ca {c A:Code} (h:EV n e fun a=>c.wp P (Exit.then (fun a w=>A.wp P Q a w) Q) a w):EV n e fun a=>(Code.seq c A).wp P Q a w:=fun a F=>wp_seq (h a F)
theorem D8 (h:EV n e fun a=>Q .normal a w):EV n e fun a=>Code.skip.wp P Q a w:=fun a F=>wp_skip (h a F)
theorem H2 {id:Nat} {c:Code} (h:EV n e fun a=>c.wp P (Exit.inBlock id Q) a w):EV n e fun a=>(Code.block id c).wp P Q a w:=fun a F=>wp_block (h a F)
theorem X8 {id:Nat} (h:EV n e fun a=>Q (.exit id) a w):EV n e fun a=>(Code.exit id).wp P Q a w:=fun a F=>wp_exit (h a F)
theorem Fl (h:EV n e fun a=>Q .ret a w):EV n e fun a=>Code.ret.wp P Q a w:=fun a F=>wp_ret (h a F)
theorem Hg {id:Nat} {l:List Oper} (h:EV n e fun a=>rl P l.toArray Q l a w):EV n e fun a=>(Code.region id l.toArray false).wp P Q a w:=fun a F=>Avn (h a F)
theorem Ao (h:EV n e fun a=>Q .normal a w):EV n e fun a=>rl P ops Q [] a w:=h
theorem Gd (h:EV n e fun a=>K a w):EV n e fun a=>Exit.then K Q .normal a w:=h
theorem Aee {id:Nat} (h:EV n e fun a=>Q (.exit id) a w):EV n e fun a=>Exit.then K Q (.exit id) a w:=h
theorem Fu (h:EV n e fun a=>Q .ret a w):EV n e fun a=>Exit.then K Q .ret a w:=h
theorem e_bn {id:Nat} (h:EV n e fun a=>Q .normal a w):EV n e fun a=>Exit.inBlock id Q .normal a w:=h
theorem A1p {id:Nat} (h:EV n e fun a=>Q .normal a w):EV n e fun a=>Exit.inBlock id Q (.exit id) a w:=fun a F=>q_bh (h a F)
theorem e_be {id j:Nat} (A:Nat.beq j id=false) (h:EV n e fun a=>Q (.exit j) a w):EV n e fun a=>Exit.inBlock id Q (.exit j) a w:=fun a F=>q_be A (h a F)
theorem Iw {id:Nat} (h:EV n e fun a=>Q .ret a w):EV n e fun a=>Exit.inBlock id Q .ret a w:=h
theorem Ag {c A:Code} {b:Bool} (D:ev e x=some (.bool b)) (H:b=true→EV n e fun a=>c.wp P Q a w) (E:b=false→EV n e fun a=>A.wp P Q a w):EV n e fun a=>(Code.cond x c A).wp P Q a w :=
 fun a F=>w_cond F D (fun h=>H h a F) (fun h=>E h a F)
theorem Aia {c A:Code} {b:Bool} (E:ev e x=some (.bool b)) (D:b=true) (k:EV n e fun a=>c.wp P Q a w):EV n e fun a=>(Code.cond x c A).wp P Q a w:=fun a F=>Avp F E D (k a F)
theorem Sc {c A:Code} {b:Bool} (E:ev e x=some (.bool b)) (D:b=false) (k:EV n e fun a=>A.wp P Q a w):EV n e fun a=>(Code.cond x c A).wp P Q a w:=fun a F=>Avq F E D (k a F)
theorem Ap {f:FuncId} {A:Func} {c:Code} {vs:List Value} {R:Ending→World→Prop} (E:P.funcs[f]?=some A) (D:A.body=some c) (H:A.ntmps=n) (I:Nat.ble vs.length n=true)
  (h:EV n (Uu 0 vs) fun a=>c.wp P (bodyPost P A R) a w):Calls P f vs.toArray w R:=Aii E D H I h
section
variable {fn:Func} {R:Ending→World→Prop} {u s:Nat} {v1 v2:Value}
theorem Af {t:Nat} (A:fn.results = #[.tmp t]) (D:look e t=some v) (h:R (.returned v) w):EV n e fun a=>bodyPost P fn R .ret a w:=fun _ F=>fin1 F A D h
theorem Co {t:Nat} (A:fn.results = #[.tmp t,.tmp u]) (D:look e t=some v) (E:look e u=some v1) (h:R (.returned (.tuple #[v,v1])) w):EV n e fun a=>bodyPost P fn R .ret a w:=fun _ F=>fin2 F A D E h
theorem Hc {t:Nat} (A:fn.results = #[.tmp t,.tmp u,.tmp s]) (D:look e t=some v) (E:look e u=some v1) (H:look e s=some v2) (h:R (.returned (.tuple #[v,v1,v2])) w):EV n e fun a=>bodyPost P fn R .ret a w:=fun _ F=>fin3 F A D E H h
end
theorem Ak (D:∀ a,Fits n a e→(execOp a.eval ⟨some d,op,t,p,af,none⟩).run P w=.ok (.value v) w') (A:Nat.ble (d+1) n=true)
  (k:EV n ((d,v)::e) fun a=>rl P ops Q r a w'):EV n e fun a=>rl P ops Q (⟨some d,op,t,p,af,none⟩::r) a w:=fun a F=>Bo F (D a F) A k
theorem g_t {j:Nat} {A b:Bool} (h:gdv n d ops e j=some (.bool b)) (hw:b=A) (k:EV n e fun a=>rl P ops Q (⟨some d,op,t,p,af,none⟩::r) a w):EV n e fun a=>rl P ops Q (⟨some d,op,t,p,af,some (j,A)⟩::r) a w:=by
 obtain ⟨H,g,D,E⟩:=Ky h
 exact fun a F=>Qo F D E H hw (k a F)
theorem g_f {j:Nat} {A b:Bool} (h:gdv n d ops e j=some (.bool b)) (hw:b = !A) (k:EV n ((d,undef)::e) fun a=>rl P ops Q r a w):EV n e fun a=>rl P ops Q (⟨some d,op,t,p,af,some (j,A)⟩::r) a w:=by
 obtain ⟨H,g,D,E⟩:=Ky h
 exact fun a F=>Wf F D E H hw k
theorem g_u {j:Nat} {A:Bool} (h:gdv n d ops e j=some undef) (k:EV n ((d,undef)::e) fun a=>rl P ops Q r a w):EV n e fun a=>rl P ops Q (⟨some d,op,t,p,af,some (j,A)⟩::r) a w:=by
 obtain ⟨H,g,D,E⟩:=Ky h
 exact fun a F=>Akb F D E H k
section
variable {a:Act} {dd:Option Tmp} {gg:Option (Nat × Bool)} {ty yt:TypeId} {k:IntKind} {i j:Int}
theorem Aen (F:Fits n a e) (h:ev e x=some v):(execOp a.eval ⟨dd,.move x,t,p,af,gg⟩).run P w=.ok (.value v) w:=Gi (F.ev h)
theorem x_as (F:Fits n a e) (h:ev e x=some v):(execOp a.eval ⟨dd,.assign x,t,p,af,gg⟩).run P w=.ok (.value v) w:=H4 (F.ev h)
theorem Aeo {s f b o A:Nat} {D:List (Nat × Nat × Nat)} (N:tk P s=.struct D) (I:Sa D f=some A) (F:Fits n a e) (h:ev e x=some (.pointer (some ⟨b,o,none⟩))) :
  (execOp a.eval ⟨dd,.fieldAddr s x f,t,p,af,gg⟩).run P w=.ok (.value (.pointer (some ⟨b,o+A,none⟩))) w:=by
 obtain ⟨O,S,E,H⟩:=Azu I
 exact Yx N E H (F.ev h)
theorem Yp {b:Bool} (F:Fits n a e) (D:ev e x=some (.bool b)) (A:b=false) (h:ev e z=some v):(execOp a.eval ⟨dd,.pick x y z,t,p,af,gg⟩).run P w=.ok (.value v) w:=My (F.ev D) A (F.ev h)
end
theorem Cd (h:evd n d e x=some v) (k:EV n ((d,v)::e) fun a=>rl P ops Q r a w):EV n e fun a=>rl P ops Q (⟨some d,.move x,t,p,af,none⟩::r) a w:=fun _ F=>Bo F (Gi (F.ev (Bu h).2)) (Bu h).1 k
theorem Dq (h:evd n d e x=some v) (k:EV n ((d,v)::e) fun a=>rl P ops Q r a w):EV n e fun a=>rl P ops Q (⟨some d,.assign x,t,p,af,none⟩::r) a w:=fun _ F=>Bo F (H4 (F.ev (Bu h).2)) (Bu h).1 k
theorem Io {s f b o A:Nat} {D:List (Nat × Nat × Nat)} (H:tk P s=.struct D) (E:Sa D f=some A) (h:evd n d e x=some (.pointer (some ⟨b,o,none⟩))) (k:EV n ((d,.pointer (some ⟨b,o+A,none⟩))::e) fun a=>rl P ops Q r a w) :
  EV n e fun a=>rl P ops Q (⟨some d,.fieldAddr s x f,t,p,af,none⟩::r) a w:=fun _ F=>Bo F (Aeo H E F (Bu h).2) (Bu h).1 k
theorem Ns {et:TypeId} {i:TI} {A b o:Nat} {cs:List Value} (H:TOK P et i) (M:Mem w0 G L w) (q:Nat) (D:i.k.agg=some false) (h:evd n d e x=some (.pointer (some ⟨b,o,none⟩))) (E:L[q]?=some (.blk b cs A)) (I:cs[o]?=some v)
  (k:EV n ((d,v)::e) fun a=>rl P ops Q r a w):EV n e fun a=>rl P ops Q (⟨some d,.load et x,t,p,af,none⟩::r) a w:=fun _ F=>Bo F (Cw (agf H D) (F.ev (Bu h).2) (M.cellL E I)) (Bu h).1 k
theorem Vv {et:TypeId} {i:TI} {b o z:Nat} {cs:List Value} (E:TOK P et i) (M:Mem w0 G L w) (A:At G b o cs) (q:Nat) (D:i.k.agg=some false) (h:evd n d e x=some (.pointer (some ⟨b,z,none⟩))) (I:z=o+q) (H:cs[q]?=some v)
  (k:EV n ((d,v)::e) fun a=>rl P ops Q r a w):EV n e fun a=>rl P ops Q (⟨some d,.load et x,t,p,af,none⟩::r) a w:=fun _ F=>Bo F (Cw (agf E D) (F.ev (Bu h).2) (M.cellA A q I H)) (Bu h).1 k
theorem Afi {et:TypeId} {i:TI} {b o z:Nat} {cs:List Value} (E:TOK P et i) (A:∀ (q:Nat) (v:Value),cs[q]?=some v→w.cell? ⟨b,o+q,none⟩=some v) (q:Nat) (D:i.k.agg=some false) (h:evd n d e x=some (.pointer (some ⟨b,z,none⟩))) (I:z=o+q) (H:cs[q]?=some v)
  (k:EV n ((d,v)::e) fun a=>rl P ops Q r a w):EV n e fun a=>rl P ops Q (⟨some d,.load et x,t,p,af,none⟩::r) a w:=fun _ F=>Bo F (Cw (agf E D) (F.ev (Bu h).2) (Yh A q I H)) (Bu h).1 k
theorem Aql {b:Bool} (D:ev e x=some (.bool b)) (A:b=true) (h:evd n d e y=some v) (k:EV n ((d,v)::e) fun a=>rl P ops Q r a w):EV n e fun a=>rl P ops Q (⟨some d,.pick x y z,t,p,af,none⟩::r) a w:=fun _ F=>Bo F (Qm (F.ev D) A (F.ev (Bu h).2)) (Bu h).1 k
theorem Ii {b:Bool} (D:ev e x=some (.bool b)) (A:b=false) (h:evd n d e z=some v) (k:EV n ((d,v)::e) fun a=>rl P ops Q r a w):EV n e fun a=>rl P ops Q (⟨some d,.pick x y z,t,p,af,none⟩::r) a w:=fun _ F=>Bo F (My (F.ev D) A (F.ev (Bu h).2)) (Bu h).1 k
theorem s_ex {i:Nat} {vs:Array Value} (h:evd n d e x=some (.tuple vs)) (A:vs.toList[i]?=some v) (k:EV n ((d,v)::e) fun a=>rl P ops Q r a w):EV n e fun a=>rl P ops Q (⟨some d,.extract x i,t,p,af,none⟩::r) a w:=fun _ F=>Bo F (F8 (F.ev (Bu h).2) (by rw [← Array.getElem?_toList];exact A)) (Bu h).1 k
theorem Afh {s et:TypeId} {ad:Option Addr} {m c:Nat} (A:tk P s=.slice et) (h:evd n d e x=some (.slice ad m c)) (k:EV n ((d,.int .i64 (m:Int))::e) fun a=>rl P ops Q r a w) :
  EV n e fun a=>rl P ops Q (⟨some d,.call ⟨.builtin .len,#[x],#[s]⟩,t,p,af,none⟩::r) a w:=fun _ F=>Bo F (Jb A (F.ev (Bu h).2)) (Bu h).1 k
section
variable {ty yt:TypeId} {kd:IntKind} {i j:Int}
theorem s_gt (D:ev e x=some (.int kd i)) (A:evd n d e y=some (.int kd j)) (k:EV n ((d,.bool (decide (j < i)))::e) fun a=>rl P ops Q r a w):EV n e fun a=>rl P ops Q (⟨some d,.binOp .gtr ty x y yt,t,p,af,none⟩::r) a w:=fun _ F=>Bo F (Acf (F.ev D) (F.ev (Bu A).2)) (Bu A).1 k
theorem Awj (D:ev e x=some (.int kd i)) (A:evd n d e y=some (.int kd j)) (k:EV n ((d,.bool (decide (i < j)))::e) fun a=>rl P ops Q r a w):EV n e fun a=>rl P ops Q (⟨some d,.binOp .lss ty x y yt,t,p,af,none⟩::r) a w:=fun _ F=>Bo F (Aml (F.ev D) (F.ev (Bu A).2)) (Bu A).1 k
theorem s_eq (D:ev e x=some (.int kd i)) (A:evd n d e y=some (.int kd j)) (k:EV n ((d,.bool (decide (i=j)))::e) fun a=>rl P ops Q r a w):EV n e fun a=>rl P ops Q (⟨some d,.binOp .eql ty x y yt,t,p,af,none⟩::r) a w:=fun _ F=>Bo F (Acg (F.ev D) (F.ev (Bu A).2)) (Bu A).1 k
theorem Awi (D:ev e x=some (.int kd i)) (A:evd n d e y=some (.int kd j)) (k:EV n ((d,.bool (!decide (i=j)))::e) fun a=>rl P ops Q r a w):EV n e fun a=>rl P ops Q (⟨some d,.binOp .neq ty x y yt,t,p,af,none⟩::r) a w:=fun _ F=>Bo F (Amj (F.ev D) (F.ev (Bu A).2)) (Bu A).1 k
theorem s_add (H:ev e x=some (.int .i64 i)) (A:evd n d e y=some (.int .i64 j)) (k:EV n ((d,.int .i64 (i+j))::e) fun a=>rl P ops Q r a w) (D:-9223372036854775808≤i+j:=by omega) (E:i+j≤9223372036854775807:=by omega) :
  EV n e fun a=>rl P ops Q (⟨some d,.binOp .add ty x y yt,t,p,af,none⟩::r) a w:=fun _ F=>Bo F (Fx (F.ev H) (F.ev (Bu A).2) (Bi D E)) (Bu A).1 k
theorem Amh (H:ev e x=some (.int .i64 i)) (A:evd n d e y=some (.int .i64 j)) (k:EV n ((d,.int .i64 (i - j))::e) fun a=>rl P ops Q r a w) (D:-9223372036854775808≤i - j:=by omega) (E:i - j≤9223372036854775807:=by omega) :
  EV n e fun a=>rl P ops Q (⟨some d,.binOp .sub ty x y yt,t,p,af,none⟩::r) a w:=fun _ F=>Bo F (Afk (F.ev H) (F.ev (Bu A).2) (Bi D E)) (Bu A).1 k
theorem Mx {s et:TypeId} {E:TI} {ad:Option Addr} {m c b o D:Nat} {z:Int} (H:tk P s=.slice et) (N:TOK P et E) (I:Ix ad m D E.size b o) (O:ev e x=some (.slice ad m c)) (A:evd n d e y=some (.int kd z))
  (k:EV n ((d,.pointer (some ⟨b,o,none⟩))::e) fun a=>rl P ops Q r a w) (S:z=(D:Int):=by omega):EV n e fun a=>rl P ops Q (⟨some d,.indexAddr s x y,t,p,af,none⟩::r) a w:=fun _ F=>Bo F (Fw H N (F.ev O) (F.ev (Bu A).2) S I) (Bu A).1 k
theorem s_sne {l D:List UInt8} (E:ev e x=some (.string (str l))) (A:evd n d e y=some (.string (str D))) (k:EV n ((d,.bool (!(decide (l=D))))::e) fun a=>rl P ops Q r a w):EV n e fun a=>rl P ops Q (⟨some d,.binOp .neq ty x y yt,t,p,af,none⟩::r) a w:=fun _ F=>Bo F (Sz (F.ev E) (F.ev (Bu A).2)) (Bu A).1 k
end
theorem D0 {et:TypeId} {i:TI} {A:Value} {b o:Nat} {cs:List Value} {D:TypeId} (T:TOK P et i) (M:Mem w0 G L w) (q:Nat) (N:i.size=1) (O:L[q]?=some (.blk b cs D)) (V:ev e x=some (.pointer (some ⟨b,o,none⟩))) (Y:ev e y=some v) (U:v.oneCell' = true) (S:cs[o]?=some A)
  (k:∀ w',Mem w0 G (L.set q (.blk b (cs.set o v) D)) w'→EV n e fun a=>rl P ops Q r a w'):EV n e fun a=>rl P ops Q (⟨none,.store et x y,t,p,af,none⟩::r) a w:=fun _ F=>Pd F M T N O V Y U S fun w' I H E=>k w' H I E
theorem B0 {et:TypeId} {i:TI} {cs:List Value} (M:Mem w0 G L w) (I:TOK P et i) (N:i.zero.cells=cs.toArray) (H:Nat.ble (d+1) n=true) (k:∀ b w',Mem w0 G (.blk b cs et::L) w'→EV n ((d,.pointer (some ⟨b,0,none⟩))::e) fun a=>rl P ops Q r a w') :
  EV n e fun a=>rl P ops Q (⟨some d,.alloc et,t,p,af,none⟩::r) a w:=fun _ F=>Oa F M I N H fun b w' E D A=>k b w' D E A
theorem Ch {et:TypeId} {cs:List Value} (M:Mem w0 G L w) (N:ev e x=some v) (H:v.cells=cs.toArray) (I:Nat.ble (d+1) n=true) (k:∀ b w',Mem w0 G (.blk b cs et::L) w'→EV n ((d,.pointer (some ⟨b,0,none⟩))::e) fun a=>rl P ops Q r a w') :
  EV n e fun a=>rl P ops Q (⟨some d,.box et x,t,p,af,none⟩::r) a w:=fun _ F=>rl_box F M N H I fun b w' E D A=>k b w' D E A
section
variable {f:FuncId} {args:List Operand} {ats:Array TypeId} {vs caps:List Value}
theorem A2 {Φ:Value→Prop} (H:Ent P f) (O:evs e args=some vs) (I:Nat.ble (d+1) n=true) (N:Calls P f vs.toArray w (B5 w0 G L Φ)) (k:∀ v w',Mem w0 G L w'→Φ v→EV n ((d,v)::e) fun a=>rl P ops Q r a w') :
  EV n e fun a=>rl P ops Q (⟨some d,.call ⟨.value (.func f),args.toArray,ats⟩,t,p,af,none⟩::r) a w:=fun _ F=>Afs F H O I N fun v w' E D h A=>k v w' D h E A
theorem C3 {Φ:Av→Value→Prop} (I:Ent P f) (T:evs e args=some vs) (N:Nat.ble (d+1) n=true) (S:Calls P f vs.toArray w (Ret w0 G L Φ)) (k:∀ v A w',Gle G A→Mem w0 A L w'→Φ A v→EV n ((d,v)::e) fun a=>rl P ops Q r a w') :
  EV n e fun a=>rl P ops Q (⟨some d,.call ⟨.value (.func f),args.toArray,ats⟩,t,p,af,none⟩::r) a w:=fun _ F=>Acl F I T N S fun v A w' H O E h D=>k v A w' O E h H D
theorem Sy {Φ:List Res→Value→Prop} (I:Ent P f) (S:evs e args=some vs) (N:Nat.ble (d+1) n=true) (O:Calls P f vs.toArray w (L4 w0 G Φ)) (k:∀ v A w',Mem w0 G A w'→Φ A v→EV n ((d,v)::e) fun a=>rl P ops Q r a w') :
  EV n e fun a=>rl P ops Q (⟨some d,.call ⟨.value (.func f),args.toArray,ats⟩,t,p,af,none⟩::r) a w:=fun _ F=>Aft F I S N O fun v A w' H E h D=>k v A w' E h H D
theorem Ajq {Φ:Value→Prop} (H:Ent P f) (I:ev e x=some (.func (.func f) #[] caps.toArray)) (S:evs e args=some vs) (N:Nat.ble (d+1) n=true) (O:Calls P f (vs++caps).toArray w (B5 w0 G L Φ)) (k:∀ v w',Mem w0 G L w'→Φ v→EV n ((d,v)::e) fun a=>rl P ops Q r a w') :
  EV n e fun a=>rl P ops Q (⟨some d,.call ⟨.value x,args.toArray,ats⟩,t,p,af,none⟩::r) a w:=fun _ F=>Aqv F H I S N O fun v w' E D h A=>k v w' D h E A
theorem s_vL {Φ:List Res→Value→Prop} (I:Ent P f) (N:ev e x=some (.func (.func f) #[] caps.toArray)) (T:evs e args=some vs) (O:Nat.ble (d+1) n=true) (S:Calls P f (vs++caps).toArray w (L4 w0 G Φ)) (k:∀ v A w',Mem w0 G A w'→Φ A v→EV n ((d,v)::e) fun a=>rl P ops Q r a w') :
  EV n e fun a=>rl P ops Q (⟨some d,.call ⟨.value x,args.toArray,ats⟩,t,p,af,none⟩::r) a w:=fun _ F=>Ta F I N T O S fun v A w' H E h D=>k v A w' E h H D
end
section
variable {C:World→Prop} {j:Nat} {want b:Bool}
section
variable {r:List (PK × Oper)}
theorem k_nil (h:EV n e fun a=>Q .normal a w):EV n e fun a=>pk P ops Q C [] a w:=h
theorem k_f (D:∀ a,Fits n a e→∀ w,True→(execOp a.eval ⟨some d,op,t,p,af,none⟩).run P w=.ok (.value v) w) (A:Nat.ble (d+1) n=true) (k:EV n ((d,v)::e) fun a=>pk P ops Q C r a w) :
  EV n e fun a=>pk P ops Q C ((.free,⟨some d,op,t,p,af,none⟩)::r) a w:=fun a F=>pk_free F (D a F) A k
theorem k_p (D:∀ a,Fits n a e→∀ w,C w→(execOp a.eval ⟨some d,op,t,p,af,none⟩).run P w=.ok (.value v) w) (A:Nat.ble (d+1) n=true) (k:EV n ((d,v)::e) fun a=>pk P ops Q C r a w) :
  EV n e fun a=>pk P ops Q C ((.pure,⟨some d,op,t,p,af,none⟩)::r) a w:=fun a F=>pk_pure F (D a F) A k
theorem Nu (h:gdv n d ops e j=some (.bool b)) (hw:b=want) (H:∀ a,Fits n a e→∀ w,True→(execOp a.eval ⟨some d,op,t,p,af,some (j,want)⟩).run P w=.ok (.value v) w) (k:EV n ((d,v)::e) fun a=>pk P ops Q C r a w) :
  EV n e fun a=>pk P ops Q C ((.free,⟨some d,op,t,p,af,some (j,want)⟩)::r) a w:=by
 obtain ⟨E,g,A,D⟩:=Ky h
 exact fun a F=>Arq F A D hw (H a F) E k
theorem k_pg (h:gdv n d ops e j=some (.bool b)) (hw:b=want) (H:∀ a,Fits n a e→∀ w,C w→(execOp a.eval ⟨some d,op,t,p,af,some (j,want)⟩).run P w=.ok (.value v) w) (k:EV n ((d,v)::e) fun a=>pk P ops Q C r a w) :
  EV n e fun a=>pk P ops Q C ((.pure,⟨some d,op,t,p,af,some (j,want)⟩)::r) a w:=by
 obtain ⟨E,g,A,D⟩:=Ky h
 exact fun a F=>Arp F A D hw (H a F) E k
theorem k_s {q:PK} (h:gdv n d ops e j=some (.bool b)) (hw:b = !want) (k:EV n ((d,undef)::e) fun a=>pk P ops Q C r a w):EV n e fun a=>pk P ops Q C ((q,⟨some d,op,t,p,af,some (j,want)⟩)::r) a w:=by
 obtain ⟨E,g,A,D⟩:=Ky h
 exact fun a F=>pk_skip F A D hw E k
theorem k_u {q:PK} (h:gdv n d ops e j=some undef) (k:EV n ((d,undef)::e) fun a=>pk P ops Q C r a w):EV n e fun a=>pk P ops Q C ((q,⟨some d,op,t,p,af,some (j,want)⟩)::r) a w:=by
 obtain ⟨E,g,A,D⟩:=Ky h
 exact fun a F=>Aro F A D E k
theorem k_k {o:Oper} (A:o.guard=none) (h:EV n e fun a=>rl P ops (fun e a w=>match e with | .normal=>∃ C':World→Prop,C' w∧(∀ w,C' w→C w)∧pk P ops Q C' r a w | e=>Q e a w) [o] a w):EV n e fun a=>pk P ops Q C ((.keep,o)::r) a w:=fun a F=>pk_keep (h a F) A
theorem k_c {o:Oper} (A:o.guard=none) (h:EV n e fun a=>rl P ops (fun e a w=>match e with | .normal=>∃ C':World→Prop,C' w∧pk P ops Q C' r a w | e=>Q e a w) [o] a w):EV n e fun a=>pk P ops Q C ((.chg,o)::r) a w:=fun a F=>pk_chg (h a F) A
end
section
variable {r:List (Bool × Oper)}
theorem Ayu (h:EV n e fun a=>Q .normal a w):EV n e fun a=>pl P ops Q C [] a w:=h
theorem l_r (D:∀ a,Fits n a e→∀ w,C w→(execOp a.eval ⟨some d,op,t,p,af,none⟩).run P w=.ok (.value v) w) (A:Nat.ble (d+1) n=true) (k:EV n ((d,v)::e) fun a=>pl P ops Q C r a w) :
  EV n e fun a=>pl P ops Q C ((true,⟨some d,op,t,p,af,none⟩)::r) a w:=fun a F=>pl_run F (D a F) A k
theorem l_g (h:gdv n d ops e j=some (.bool b)) (hw:b=want) (H:∀ a,Fits n a e→∀ w,C w→(execOp a.eval ⟨some d,op,t,p,af,some (j,want)⟩).run P w=.ok (.value v) w) (k:EV n ((d,v)::e) fun a=>pl P ops Q C r a w) :
  EV n e fun a=>pl P ops Q C ((true,⟨some d,op,t,p,af,some (j,want)⟩)::r) a w:=by
 obtain ⟨E,g,A,D⟩:=Ky h
 exact fun a F=>Acv F A D hw (H a F) E k
theorem l_s {b2:Bool} (h:gdv n d ops e j=some (.bool b)) (hw:b = !want) (k:EV n ((d,undef)::e) fun a=>pl P ops Q C r a w):EV n e fun a=>pl P ops Q C ((b2,⟨some d,op,t,p,af,some (j,want)⟩)::r) a w:=by
 obtain ⟨E,g,A,D⟩:=Ky h
 exact fun a F=>Y3 F A D hw E k
theorem l_a {o:Oper} (A:o.guard=none) (h:EV n e fun a=>rl P ops (fun e a w=>match e with | .normal=>∃ C':World→Prop,C' w∧(∀ w,C' w→C w)∧pl P ops Q C' r a w | e=>Q e a w) [o] a w):EV n e fun a=>pl P ops Q C ((false,o)::r) a w:=fun a F=>pl_act (h a F) A
end
section
variable {r alt:PO}
theorem Mc (h:EV n e fun a=>Q .normal a w):EV n e fun a=>ptl P ops Q C .fin a w:=h
theorem t_r (D:∀ a,Fits n a e→∀ w,C w→(execOp a.eval ⟨some d,op,t,p,af,none⟩).run P w=.ok (.value v) w) (A:Nat.ble (d+1) n=true) (k:EV n ((d,v)::e) fun a=>ptl P ops Q C r a w) :
  EV n e fun a=>ptl P ops Q C (.run ⟨some d,op,t,p,af,none⟩ r) a w:=fun a F=>pt_run F (D a F) A k
theorem t_g (h:gdv n d ops e j=some (.bool b)) (hw:b=want) (H:∀ a,Fits n a e→∀ w,C w→(execOp a.eval ⟨some d,op,t,p,af,some (j,want)⟩).run P w=.ok (.value v) w) (k:EV n ((d,v)::e) fun a=>ptl P ops Q C r a w) :
  EV n e fun a=>ptl P ops Q C (.run ⟨some d,op,t,p,af,some (j,want)⟩ r) a w:=by
 obtain ⟨E,g,A,D⟩:=Ky h
 exact fun a F=>Acu F A D hw (H a F) E k
theorem t_s (h:gdv n d ops e j=some (.bool b)) (hw:b = !want) (k:EV n ((d,undef)::e) fun a=>ptl P ops Q C r a w):EV n e fun a=>ptl P ops Q C (.run ⟨some d,op,t,p,af,some (j,want)⟩ r) a w:=by
 obtain ⟨E,g,A,D⟩:=Ky h
 exact fun a F=>Y2 F A D hw E k
end
section
variable {X:(World→Prop)→Act→Prop} {C':World→Prop}
theorem eQ {n:Nat} {e:Env} {w:World} {C:World→Prop} {X:(World→Prop)→Act→Prop} (A:C w) (h:EV n e fun a=>X C a):EV n e fun a=>∃ C':World→Prop,C' w∧(∀ w,C' w→C w)∧X C' a:=fun a F=>⟨C,A,fun _ h=>h,h a F⟩
theorem Bt {P:Program} {Q:Exit→Act→World→Prop} {n:Nat} {w:World} {e:Env} {id:Nat} {l:List Oper} {A:Code} (h:EV n e fun a=>rl P l.toArray (Exit.then (fun a w=>A.wp P Q a w) Q) l a w):EV n e fun a=>(Code.seq (Code.region id l.toArray false) A).wp P Q a w:=Ca (Hg h)
theorem e_cD {P:Program} {Q:Exit→Act→World→Prop} {n:Nat} {w:World} {e:Env} {x:Operand} {c A:Code} {p:Prop} [Decidable p] (D:ev e x=some (.bool (decide p))) (H:p→EV n e fun a=>c.wp P Q a w) (E:¬ p→EV n e fun a=>A.wp P Q a w):EV n e fun a=>(Code.cond x c A).wp P Q a w :=
  Ag D (fun h=>H (of_decide_eq_true h)) (fun h=>E (of_decide_eq_false h))
theorem Bf {P:Program} {D:Array Oper} {Q:Exit→Act→World→Prop} {n:Nat} {a:Act} {w w0:World} {e:Env} {G:Av} {L:List Res} {t:TypeId} {p:String} {af:Array Edge} {r:List Oper} {et I:TypeId} {i:TI} {x y:Operand} {v:Value} {b o:Nat} {cs us:List Value} (F:Fits n a e) (M:Mem w0 G L w) (T:TOK P et i) (k:Nat)
    {E:List Res} (kk:∀ w' H,Mem w0 G E w'→Fits n H e→rl P D Q r H w') (O:L[k]?=some (.blk b cs I):=by rfl) (Y:ev e x=some (.pointer (some ⟨b,o,none⟩)):=by rfl) (hy:ev e y=some v:=by rfl) (V:v.cells=us.toArray:=by rfl) (S:us.length=i.size:=by rfl)
    (U:∀ u∈us,u.oneCell' = true:=by simp [Value.oneCell']) (A:o+us.length≤cs.length:=by simp) (N:L.set k (.blk b (over cs o us) I)=E:=by dsimp only [over,List.set]):rl P D Q (⟨none,.store et x y,t,p,af,none⟩::r) a w:=Zt F M T O Y hy V S U A (by rw [N];exact kk)
theorem Ow {P:Program} {A:Array Oper} {Q:Exit→Act→World→Prop} {n:Nat} {a:Act} {w w0:World} {e:Env} {G:Av} {L:List Res} {t:TypeId} {p:String} {af:Array Edge} {r:List Oper} {et I:TypeId} {i:TI} {x y:Operand} {v D:Value} {b o:Nat} {cs:List Value} (F:Fits n a e) (M:Mem w0 G L w) (U:TOK P et i) (k:Nat)
    {E:List Res} (kk:∀ w' H,Mem w0 G E w'→Fits n H e→rl P A Q r H w') (S:L[k]?=some (.blk b cs I):=by rfl) (Y:ev e x=some (.pointer (some ⟨b,o,none⟩)):=by rfl) (hy:ev e y=some v:=by rfl) (T:cs[o]?=some D:=by rfl) (V:v.oneCell' = true:=by rfl) (N:i.size=1:=by rfl) (O:L.set k (.blk b (cs.set o v) I)=E:=by dsimp only [over,List.set]):rl P A Q (⟨none,.store et x y,t,p,af,none⟩::r) a w:=Pd F M U N S Y hy V T (by rw [O];exact kk)
theorem Aw {w0 w:World} {G:Av} {L Lr:List Res} (M:Mem w0 G L w) (h:∀ r∈Lr,r∈L:=by simp):Keep G Lr w:=M.keep (Gle.refl _) h
theorem cC {α:Type} {a:α} {l A:List α} (h:l.Sublist A):(a::l).Sublist (a::A):=.cons_cons _ h
theorem cN {α:Type} {a:α} {l A:List α} (h:l.Sublist A):l.Sublist (a::A):=.cons _ h
theorem Vw {P:Program} {A:Array Oper} {Q:Exit→Act→World→Prop} {n d:Nat} {w w0:World} {e:Env} {x:Operand} {G:Av} {L:List Res} {t:TypeId} {p:String} {af:Array Edge} {r:List Oper} {et E:TypeId} {i:TI} {b:Nat} {cs:List Value} (N:TOK P et i) (M:Mem w0 G L w) (q:Nat) (H:i.k.agg=some true) (h:evd n d e x=some (.pointer (some ⟨b,0,none⟩))) (I:L[q]?=some (.blk b cs E)) (D:cs.length=i.size)
    (k:EV n ((d,.agg cs.toArray)::e) fun a=>rl P A Q r a w):EV n e fun a=>rl P A Q (⟨some d,.load et x,t,p,af,none⟩::r) a w:=fun _ F=>Bo F (Cv N H (F.ev (Bu h).2) D (M.cellsL I (by rw [List.drop_zero,← D,List.take_length]))) (Bu h).1 k
theorem lMv {P:Program} {A:Array Oper} {Q:Exit→Act→World→Prop} {n d:Nat} {w:World} {e:Env} {x:Operand} {t:TypeId} {p:String} {af:Array Edge} {C:World→Prop} {r:List (Bool × Oper)} {v:Value} (h:evd n d e x=some v) (k:EV n ((d,v)::e) fun a=>pl P A Q C r a w):EV n e fun a=>pl P A Q C ((true,⟨some d,.move x,t,p,af,none⟩)::r) a w:=l_r (fun a F w M=>Aen F (Bu h).2) (Bu h).1 k
theorem lAs {P:Program} {A:Array Oper} {Q:Exit→Act→World→Prop} {n d:Nat} {w:World} {e:Env} {x:Operand} {t:TypeId} {p:String} {af:Array Edge} {C:World→Prop} {r:List (Bool × Oper)} {v:Value} (h:evd n d e x=some v) (k:EV n ((d,v)::e) fun a=>pl P A Q C r a w):EV n e fun a=>pl P A Q C ((true,⟨some d,.assign x,t,p,af,none⟩)::r) a w:=l_r (fun a F w M=>x_as F (Bu h).2) (Bu h).1 k
theorem lFa {P:Program} {D:Array Oper} {Q:Exit→Act→World→Prop} {n d:Nat} {w:World} {e:Env} {x:Operand} {t:TypeId} {p:String} {af:Array Edge} {C:World→Prop} {r:List (Bool × Oper)} {s f b o A:Nat} {E:List (Nat × Nat × Nat)} (I:tk P s=.struct E) (H:Sa E f=some A) (h:evd n d e x=some (.pointer (some ⟨b,o,none⟩))) (k:EV n ((d,.pointer (some ⟨b,o+A,none⟩))::e) fun a=>pl P D Q C r a w):EV n e fun a=>pl P D Q C ((true,⟨some d,.fieldAddr s x f,t,p,af,none⟩)::r) a w:=l_r (fun a F w M=>Aeo I H F (Bu h).2) (Bu h).1 k
theorem lLd {P:Program} {A:Array Oper} {Q:Exit→Act→World→Prop} {n d:Nat} {w:World} {e:Env} {x:Operand} {t:TypeId} {p:String} {af:Array Edge} {r:List (Bool × Oper)} {G:Av} {L:List Res} {et D:TypeId} {i:TI} {v:Value} {b o:Nat} {cs:List Value} (I:TOK P et i) (q:Nat) (E:i.k.agg=some false) (h:evd n d e x=some (.pointer (some ⟨b,o,none⟩))) (H:L[q]?=some (.blk b cs D)) (N:cs[o]?=some v) (k:EV n ((d,v)::e) fun a=>pl P A Q (Keep G L) r a w):EV n e fun a=>pl P A Q (Keep G L) ((true,⟨some d,.load et x,t,p,af,none⟩)::r) a w:=l_r (fun a F w M=>Cw (agf I E) (F.ev (Bu h).2) (M.cellL H N)) (Bu h).1 k
theorem lLb {P:Program} {A:Array Oper} {Q:Exit→Act→World→Prop} {n d:Nat} {w:World} {e:Env} {x:Operand} {t:TypeId} {p:String} {af:Array Edge} {r:List (Bool × Oper)} {G:Av} {L:List Res} {et E:TypeId} {i:TI} {b:Nat} {cs:List Value} (N:TOK P et i) (q:Nat) (H:i.k.agg=some true) (h:evd n d e x=some (.pointer (some ⟨b,0,none⟩))) (I:L[q]?=some (.blk b cs E)) (D:cs.length=i.size) (k:EV n ((d,.agg cs.toArray)::e) fun a=>pl P A Q (Keep G L) r a w):EV n e fun a=>pl P A Q (Keep G L) ((true,⟨some d,.load et x,t,p,af,none⟩)::r) a w:=l_r (fun a F w M=>Cv N H (F.ev (Bu h).2) D (M.cellsL I (by rw [List.drop_zero,← D,List.take_length]))) (Bu h).1 k
theorem fMv {P:Program} {A:Array Oper} {Q:Exit→Act→World→Prop} {n d:Nat} {w:World} {e:Env} {x:Operand} {t:TypeId} {p:String} {af:Array Edge} {C:World→Prop} {r:List (PK × Oper)} {v:Value} (h:evd n d e x=some v) (k:EV n ((d,v)::e) fun a=>pk P A Q C r a w):EV n e fun a=>pk P A Q C ((.free,⟨some d,.move x,t,p,af,none⟩)::r) a w:=k_f (fun a F w _=>Aen F (Bu h).2) (Bu h).1 k
theorem fAs {P:Program} {A:Array Oper} {Q:Exit→Act→World→Prop} {n d:Nat} {w:World} {e:Env} {x:Operand} {t:TypeId} {p:String} {af:Array Edge} {C:World→Prop} {r:List (PK × Oper)} {v:Value} (h:evd n d e x=some v) (k:EV n ((d,v)::e) fun a=>pk P A Q C r a w):EV n e fun a=>pk P A Q C ((.free,⟨some d,.assign x,t,p,af,none⟩)::r) a w:=k_f (fun a F w _=>x_as F (Bu h).2) (Bu h).1 k
theorem fFa {P:Program} {D:Array Oper} {Q:Exit→Act→World→Prop} {n d:Nat} {w:World} {e:Env} {x:Operand} {t:TypeId} {p:String} {af:Array Edge} {C:World→Prop} {r:List (PK × Oper)} {s f b o A:Nat} {E:List (Nat × Nat × Nat)} (I:tk P s=.struct E) (H:Sa E f=some A) (h:evd n d e x=some (.pointer (some ⟨b,o,none⟩))) (k:EV n ((d,.pointer (some ⟨b,o+A,none⟩))::e) fun a=>pk P D Q C r a w):EV n e fun a=>pk P D Q C ((.free,⟨some d,.fieldAddr s x f,t,p,af,none⟩)::r) a w:=k_f (fun a F w _=>Aeo I H F (Bu h).2) (Bu h).1 k
theorem pMv {P:Program} {A:Array Oper} {Q:Exit→Act→World→Prop} {n d:Nat} {w:World} {e:Env} {x:Operand} {t:TypeId} {p:String} {af:Array Edge} {C:World→Prop} {r:List (PK × Oper)} {v:Value} (h:evd n d e x=some v) (k:EV n ((d,v)::e) fun a=>pk P A Q C r a w):EV n e fun a=>pk P A Q C ((.pure,⟨some d,.move x,t,p,af,none⟩)::r) a w:=k_p (fun a F w M=>Aen F (Bu h).2) (Bu h).1 k
theorem pAs {P:Program} {A:Array Oper} {Q:Exit→Act→World→Prop} {n d:Nat} {w:World} {e:Env} {x:Operand} {t:TypeId} {p:String} {af:Array Edge} {C:World→Prop} {r:List (PK × Oper)} {v:Value} (h:evd n d e x=some v) (k:EV n ((d,v)::e) fun a=>pk P A Q C r a w):EV n e fun a=>pk P A Q C ((.pure,⟨some d,.assign x,t,p,af,none⟩)::r) a w:=k_p (fun a F w M=>x_as F (Bu h).2) (Bu h).1 k
theorem pFa {P:Program} {D:Array Oper} {Q:Exit→Act→World→Prop} {n d:Nat} {w:World} {e:Env} {x:Operand} {t:TypeId} {p:String} {af:Array Edge} {C:World→Prop} {r:List (PK × Oper)} {s f b o A:Nat} {E:List (Nat × Nat × Nat)} (I:tk P s=.struct E) (H:Sa E f=some A) (h:evd n d e x=some (.pointer (some ⟨b,o,none⟩))) (k:EV n ((d,.pointer (some ⟨b,o+A,none⟩))::e) fun a=>pk P D Q C r a w):EV n e fun a=>pk P D Q C ((.pure,⟨some d,.fieldAddr s x f,t,p,af,none⟩)::r) a w:=k_p (fun a F w M=>Aeo I H F (Bu h).2) (Bu h).1 k
theorem pLd {P:Program} {A:Array Oper} {Q:Exit→Act→World→Prop} {n d:Nat} {w:World} {e:Env} {x:Operand} {t:TypeId} {p:String} {af:Array Edge} {r:List (PK × Oper)} {G:Av} {L:List Res} {et D:TypeId} {i:TI} {v:Value} {b o:Nat} {cs:List Value} (I:TOK P et i) (q:Nat) (E:i.k.agg=some false) (h:evd n d e x=some (.pointer (some ⟨b,o,none⟩))) (H:L[q]?=some (.blk b cs D)) (N:cs[o]?=some v) (k:EV n ((d,v)::e) fun a=>pk P A Q (Keep G L) r a w):EV n e fun a=>pk P A Q (Keep G L) ((.pure,⟨some d,.load et x,t,p,af,none⟩)::r) a w:=k_p (fun a F w M=>Cw (agf I E) (F.ev (Bu h).2) (M.cellL H N)) (Bu h).1 k
theorem pLb {P:Program} {A:Array Oper} {Q:Exit→Act→World→Prop} {n d:Nat} {w:World} {e:Env} {x:Operand} {t:TypeId} {p:String} {af:Array Edge} {r:List (PK × Oper)} {G:Av} {L:List Res} {et E:TypeId} {i:TI} {b:Nat} {cs:List Value} (N:TOK P et i) (q:Nat) (H:i.k.agg=some true) (h:evd n d e x=some (.pointer (some ⟨b,0,none⟩))) (I:L[q]?=some (.blk b cs E)) (D:cs.length=i.size) (k:EV n ((d,.agg cs.toArray)::e) fun a=>pk P A Q (Keep G L) r a w):EV n e fun a=>pk P A Q (Keep G L) ((.pure,⟨some d,.load et x,t,p,af,none⟩)::r) a w:=k_p (fun a F w M=>Cv N H (F.ev (Bu h).2) D (M.cellsL I (by rw [List.drop_zero,← D,List.take_length]))) (Bu h).1 k
theorem tMv {P:Program} {A:Array Oper} {Q:Exit→Act→World→Prop} {n d:Nat} {w:World} {e:Env} {x:Operand} {t:TypeId} {p:String} {af:Array Edge} {C:World→Prop} {r:PO} {v:Value} (h:evd n d e x=some v) (k:EV n ((d,v)::e) fun a=>ptl P A Q C r a w):EV n e fun a=>ptl P A Q C (.run ⟨some d,.move x,t,p,af,none⟩ r) a w:=t_r (fun a F w M=>Aen F (Bu h).2) (Bu h).1 k
theorem tAs {P:Program} {A:Array Oper} {Q:Exit→Act→World→Prop} {n d:Nat} {w:World} {e:Env} {x:Operand} {t:TypeId} {p:String} {af:Array Edge} {C:World→Prop} {r:PO} {v:Value} (h:evd n d e x=some v) (k:EV n ((d,v)::e) fun a=>ptl P A Q C r a w):EV n e fun a=>ptl P A Q C (.run ⟨some d,.assign x,t,p,af,none⟩ r) a w:=t_r (fun a F w M=>x_as F (Bu h).2) (Bu h).1 k
theorem tFa {P:Program} {D:Array Oper} {Q:Exit→Act→World→Prop} {n d:Nat} {w:World} {e:Env} {x:Operand} {t:TypeId} {p:String} {af:Array Edge} {C:World→Prop} {r:PO} {s f b o A:Nat} {E:List (Nat × Nat × Nat)} (I:tk P s=.struct E) (H:Sa E f=some A) (h:evd n d e x=some (.pointer (some ⟨b,o,none⟩))) (k:EV n ((d,.pointer (some ⟨b,o+A,none⟩))::e) fun a=>ptl P D Q C r a w):EV n e fun a=>ptl P D Q C (.run ⟨some d,.fieldAddr s x f,t,p,af,none⟩ r) a w:=t_r (fun a F w M=>Aeo I H F (Bu h).2) (Bu h).1 k
theorem tLd {P:Program} {A:Array Oper} {Q:Exit→Act→World→Prop} {n d:Nat} {w:World} {e:Env} {x:Operand} {t:TypeId} {p:String} {af:Array Edge} {r:PO} {G:Av} {L:List Res} {et D:TypeId} {i:TI} {v:Value} {b o:Nat} {cs:List Value} (I:TOK P et i) (q:Nat) (E:i.k.agg=some false) (h:evd n d e x=some (.pointer (some ⟨b,o,none⟩))) (H:L[q]?=some (.blk b cs D)) (N:cs[o]?=some v) (k:EV n ((d,v)::e) fun a=>ptl P A Q (Keep G L) r a w):EV n e fun a=>ptl P A Q (Keep G L) (.run ⟨some d,.load et x,t,p,af,none⟩ r) a w:=t_r (fun a F w M=>Cw (agf I E) (F.ev (Bu h).2) (M.cellL H N)) (Bu h).1 k
theorem tLb {P:Program} {A:Array Oper} {Q:Exit→Act→World→Prop} {n d:Nat} {w:World} {e:Env} {x:Operand} {t:TypeId} {p:String} {af:Array Edge} {r:PO} {G:Av} {L:List Res} {et E:TypeId} {i:TI} {b:Nat} {cs:List Value} (N:TOK P et i) (q:Nat) (H:i.k.agg=some true) (h:evd n d e x=some (.pointer (some ⟨b,0,none⟩))) (I:L[q]?=some (.blk b cs E)) (D:cs.length=i.size) (k:EV n ((d,.agg cs.toArray)::e) fun a=>ptl P A Q (Keep G L) r a w):EV n e fun a=>ptl P A Q (Keep G L) (.run ⟨some d,.load et x,t,p,af,none⟩ r) a w:=t_r (fun a F w M=>Cv N H (F.ev (Bu h).2) D (M.cellsL I (by rw [List.drop_zero,← D,List.take_length]))) (Bu h).1 k
theorem qD {P:Program} {Q:Exit→Act→World→Prop} {n:Nat} {w:World} {e:Env} {x:Operand} {c A:Code} {q:Prop} [i:Decidable q] (H:ev e x=some (.bool (decide q))) (D:q→EV n e fun a=>c.wp P Q a w) (E:¬q→EV n e fun a=>A.wp P Q a w):EV n e fun a=>(Code.cond x c A).wp P Q a w:=Ag H (fun h=>D (of_decide_eq_true h)) (fun h=>E (of_decide_eq_false h))
theorem eK (A:C' w) (D:∀ w,C' w→C w) (h:EV n e fun a=>X C' a):EV n e fun a=>∃ C':World→Prop,C' w∧(∀ w,C' w→C w)∧X C' a:=fun a F=>⟨C',A,D,h a F⟩
end
end
end
end Go.Y
set_option linter.unusedVariables false
namespace Go.Y
open Go Go.RowKit
class CT (P:Program) (t:TypeId) (i:outParam TI):Prop where
 ok:TOK P t i
theorem CT.k {P:Program} {t:TypeId} {i:TI} (c:CT P t i):tk P t=i.k:=c.ok.k
section
variable {P:Program} {ops:Array Oper} {Q:Exit→Act→World→Prop} {K:Act→World→Prop} {n d:Nat} {w w0:World} {e:Env} {G:Av} {L:List Res} {op:Op} {t:TypeId} {p:String} {af:Array Edge} {r:List Oper} {v:Value} {x y z:Operand} {C:World→Prop} {dd:Option Tmp} {gg:Option (Nat × Bool)}
def RN (P:Program) (n:Nat) (e:Env) (C:World→Prop) (dd:Option Tmp) (op:Op) (t:TypeId) (p:String) (af:Array Edge) (gg:Option (Nat × Bool)) (v:Value):Prop :=
 ∀ a,Fits n a e→∀ w,C w→(execOp a.eval ⟨dd,op,t,p,af,gg⟩).run P w=.ok (.value v) w
def CL (C:World→Prop) (b o:Nat) (v:Value):Prop:=∀ w,C w→w.cell? ⟨b,o,none⟩=some v
def CS (C:World→Prop) (b o m:Nat) (us:List Value):Prop:=∀ w,C w→∀ j,j < m→w.cell? ⟨b,o+j,none⟩=us[j]?
theorem U3 {x:Res} (h:x∈L):∃ k:Nat,L[k]?=some x:=by obtain ⟨k,A⟩:=List.mem_iff_getElem?.1 h;exact ⟨k,A⟩
theorem c_m {b o:Nat} {cs:List Value} {A:TypeId} (M:Mem w0 G L w) (D:Res.blk b cs A∈L) (H:cs[o]?=some v):CL (fun w'=>w' = w) b o v:=fun w' hw=>by
 obtain ⟨k,E⟩:=U3 D;subst hw;exact M.cellL E H
theorem c_k {b o:Nat} {cs:List Value} {A:TypeId} (D:Res.blk b cs A∈L) (H:cs[o]?=some v):CL (Keep G L) b o v:=fun w' K=>by
 obtain ⟨k,E⟩:=U3 D;exact K.cellL E H
theorem c_ma {b o z:Nat} {cs:List Value} (M:Mem w0 G L w) (A:At G b o cs) {q:Nat} (E:z=o+q) (D:cs[q]?=some v):CL (fun w'=>w' = w) b z v:=fun w' hw=>by subst hw;exact M.cellA A q E D
theorem c_ka {b o z:Nat} {cs:List Value} (A:At G b o cs) {q:Nat} (E:z=o+q) (D:cs[q]?=some v):CL (Keep G L) b z v:=fun w' K=>K.cellA A q E D
theorem cs_m {b o m:Nat} {cs us:List Value} {A:TypeId} (M:Mem w0 G L w) (D:Res.blk b cs A∈L) (H:(cs.drop o).take m=us):CS (fun w'=>w' = w) b o m us:=fun w' hw=>by
 obtain ⟨k,E⟩:=U3 D;subst hw;exact M.cellsL E H
theorem cs_k {b o m:Nat} {cs us:List Value} {A:TypeId} (D:Res.blk b cs A∈L) (H:(cs.drop o).take m=us):CS (Keep G L) b o m us:=fun w' K=>by
 obtain ⟨k,E⟩:=U3 D;exact K.cellsL E H
theorem cs_ma {b o z m:Nat} {cs us:List Value} (M:Mem w0 G L w) (A:At G b o cs) {q:Nat} (H:z=o+q) (E:(cs.drop q).take m=us) (D:us.length=m):CS (fun w'=>w' = w) b z m us:=fun w' hw=>by subst hw;exact M.cellsA A q H E D
theorem cs_ka {b o z m:Nat} {cs us:List Value} (A:At G b o cs) {q:Nat} (H:z=o+q) (E:(cs.drop q).take m=us) (D:us.length=m):CS (Keep G L) b z m us:=fun w' K=>K.cellsA A q H E D
theorem cw_m {b m:Nat} {cs:List Value} {A:TypeId} (M:Mem w0 G L w) (D:Res.blk b cs A∈L) (E:cs.length=m):CS (fun w'=>w' = w) b 0 m cs:=cs_m M D (by rw [List.drop_zero,List.take_of_length_le (Nat.le_of_eq E)])
theorem cw_k {b m:Nat} {cs:List Value} {A:TypeId} (D:Res.blk b cs A∈L) (E:cs.length=m):CS (Keep G L) b 0 m cs:=cs_k D (by rw [List.drop_zero,List.take_of_length_le (Nat.le_of_eq E)])
theorem cw_ma {b o z m:Nat} {cs:List Value} (M:Mem w0 G L w) (D:At G b o cs) (E:z=o) (A:cs.length=m):CS (fun w'=>w' = w) b z m cs:=cs_ma (q:=0) M D E (by rw [List.drop_zero,List.take_of_length_le (Nat.le_of_eq A)]) A
theorem cw_ka {b o z m:Nat} {cs:List Value} (D:At G b o cs) (E:z=o) (A:cs.length=m):CS (Keep G L) b z m cs:=cs_ka (q:=0) D E (by rw [List.drop_zero,List.take_of_length_le (Nat.le_of_eq A)]) A
theorem Aqf {p:Prop} (h:p:=by first | ((repeat (first | exact List.mem_cons_self | refine List.mem_cons_of_mem _ ?_));done) | fail):p:=h
theorem z_n {α:Type} {x:α}:(some x).isNone=false:=rfl
theorem Sn {p:Prop} (h:p:=by
 first
 | with_reducible exact rfl
 | with_reducible exact decide_eq_true rfl
 | with_reducible exact Ge (decide_eq_true rfl)
 | with_reducible assumption
 | exact z_n
 | exact Agl z_n
 | exact decide_eq_true (by with_reducible assumption)
 | exact decide_eq_false (by with_reducible assumption)
 | exact Agl (by with_reducible assumption)
 | exact Ge (by with_reducible assumption)
 | exact Agl (decide_eq_false (by with_reducible assumption))
 | exact Ge (decide_eq_true (by with_reducible assumption))
 | decide
 | fail):p:=h
theorem z_us {p:Prop} (h:p:=by first | (dsimp only [List.drop,List.take,List.set];done) | (dsimp only [List.drop,List.take,List.set];exact rfl) | exact rfl | fail):p:=h
theorem z_pl {p:Prop} (h:p:=by first | with_reducible exact (Nat.add_zero _).symm | with_reducible exact rfl | exact rfl | omega | fail):p:=h
theorem z_cl {p:Prop} (h:p:=by
 first
 | (apply c_m M;exact Aqf;exact rfl)
 | (apply c_k;exact Aqf;exact rfl)
 | (apply c_ma M;(with_reducible assumption);exact z_pl;exact rfl)
 | (apply c_ka;(with_reducible assumption);exact z_pl;exact rfl)
 | fail):p:=h
theorem z_cs {p:Prop} (h:p:=by
 first
 | (apply cw_m M;exact Aqf;exact rfl)
 | (apply cw_k;exact Aqf;exact rfl)
 | (apply cw_ma M;(with_reducible assumption);exact rfl;exact rfl)
 | (apply cw_ka;(with_reducible assumption);exact rfl;exact rfl)
 | (apply cs_m M;exact Aqf;exact z_us)
 | (apply cs_k;exact Aqf;exact z_us)
 | (apply cs_ma M;(with_reducible assumption);exact z_pl;exact z_us;exact rfl)
 | (apply cs_ka;(with_reducible assumption);exact z_pl;exact z_us;exact rfl)
 | fail):p:=h
theorem n_mv (h:ev e x=some v):RN P n e C dd (.move x) t p af gg v:=fun _ F _ _=>Gi (F.ev h)
theorem n_as (h:ev e x=some v):RN P n e C dd (.assign x) t p af gg v:=fun _ F _ _=>H4 (F.ev h)
theorem n_nc {a:Addr} (h:ev e x=some (.pointer (some a))):RN P n e C dd (.nilCheck x) t p af gg (.pointer (some a)):=fun _ F _ _=>Ace (F.ev h)
theorem n_fa {s f b o A:Nat} {D:List (Nat × Nat × Nat)} {i:TI} [c:CT P s i] (H:i.k=.struct D) (E:Sa D f=some A) (h:ev e x=some (.pointer (some ⟨b,o,none⟩))) :
  RN P n e C dd (.fieldAddr s x f) t p af gg (.pointer (some ⟨b,o+A,none⟩)):=fun _ F _ _=>Aeo (c.k.trans H) E F h
theorem n_ld {et:TypeId} {i:TI} [c:CT P et i] {b o:Nat} (A:i.k.agg=some false) (h:ev e x=some (.pointer (some ⟨b,o,none⟩))) (D:CL C b o v):RN P n e C dd (.load et x) t p af gg v :=
 fun _ F w hw=>Cw (agf c.ok A) (F.ev h) (D w hw)
theorem n_lb {et:TypeId} {i:TI} [c:CT P et i] {b o:Nat} {us:List Value} (A:i.k.agg=some true) (h:ev e x=some (.pointer (some ⟨b,o,none⟩))) (D:CS C b o i.size us) (E:us.length=i.size):RN P n e C dd (.load et x) t p af gg (.agg us.toArray) :=
 fun _ F w hw=>Cv c.ok A (F.ev h) E (D w hw)
theorem n_pt {b:Bool} (D:ev e x=some (.bool b)) (A:b=true) (h:ev e y=some v):RN P n e C dd (.pick x y z) t p af gg v:=fun _ F _ _=>Qm (F.ev D) A (F.ev h)
theorem n_pf {b:Bool} (D:ev e x=some (.bool b)) (A:b=false) (h:ev e z=some v):RN P n e C dd (.pick x y z) t p af gg v:=fun _ F _ _=>My (F.ev D) A (F.ev h)
theorem n_not {ty:TypeId} {b:Bool} (h:ev e x=some (.bool b)):RN P n e C dd (.unOp .not ty x) t p af gg (.bool (!b)):=fun _ F _ _=>Rm (F.ev h)
theorem n_ex {i:Nat} {vs:Array Value} (h:ev e x=some (.tuple vs)) (A:vs.toList[i]?=some v):RN P n e C dd (.extract x i) t p af gg v:=fun _ F _ _=>F8 (F.ev h) (by rw [← Array.getElem?_toList];exact A)
theorem n_ls {s et:TypeId} {i:TI} [c:CT P s i] {ad:Option Addr} {m k:Nat} (A:i.k=.slice et) (h:ev e x=some (.slice ad m k)):RN P n e C dd (.call ⟨.builtin .len,#[x],#[s]⟩) t p af gg (.int .i64 (m:Int)):=fun _ F _ _=>Jb (c.k.trans A) (F.ev h)
theorem n_lS {s:TypeId} {i:TI} [c:CT P s i] {l:List UInt8} (A:i.k=.str) (h:ev e x=some (.string (str l))):RN P n e C dd (.call ⟨.builtin .len,#[x],#[s]⟩) t p af gg (.int .i64 (l.length:Nat)):=fun _ F _ _=>Mz (c.k.trans A) (F.ev h)
section
variable {ty yt:TypeId} {kd:IntKind} {i j:Int}
theorem n_gt (A:ev e x=some (.int kd i)) (D:ev e y=some (.int kd j)):RN P n e C dd (.binOp .gtr ty x y yt) t p af gg (.bool (decide (j < i))):=fun _ F _ _=>Acf (F.ev A) (F.ev D)
theorem n_lt (A:ev e x=some (.int kd i)) (D:ev e y=some (.int kd j)):RN P n e C dd (.binOp .lss ty x y yt) t p af gg (.bool (decide (i < j))):=fun _ F _ _=>Aml (F.ev A) (F.ev D)
theorem n_lq (A:ev e x=some (.int kd i)) (D:ev e y=some (.int kd j)):RN P n e C dd (.binOp .leq ty x y yt) t p af gg (.bool (decide (i≤j))):=fun _ F _ _=>run_leq (F.ev A) (F.ev D)
theorem n_gq (A:ev e x=some (.int kd i)) (D:ev e y=some (.int kd j)):RN P n e C dd (.binOp .geq ty x y yt) t p af gg (.bool (decide (j≤i))):=fun _ F _ _=>run_geq (F.ev A) (F.ev D)
theorem n_eq (A:ev e x=some (.int kd i)) (D:ev e y=some (.int kd j)):RN P n e C dd (.binOp .eql ty x y yt) t p af gg (.bool (decide (i=j))):=fun _ F _ _=>Acg (F.ev A) (F.ev D)
theorem n_ne (A:ev e x=some (.int kd i)) (D:ev e y=some (.int kd j)):RN P n e C dd (.binOp .neq ty x y yt) t p af gg (.bool (!decide (i=j))):=fun _ F _ _=>Amj (F.ev A) (F.ev D)
theorem n_seq {l A:List UInt8} (D:ev e x=some (.string (str l))) (E:ev e y=some (.string (str A))):RN P n e C dd (.binOp .eql ty x y yt) t p af gg (.bool (decide (l=A))):=fun _ F _ _=>Aqm (F.ev D) (F.ev E)
theorem n_sne {l A:List UInt8} (D:ev e x=some (.string (str l))) (E:ev e y=some (.string (str A))):RN P n e C dd (.binOp .neq ty x y yt) t p af gg (.bool (!(decide (l=A)))):=fun _ F _ _=>Sz (F.ev D) (F.ev E)
theorem n_add (D:ev e x=some (.int .i64 i)) (E:ev e y=some (.int .i64 j)) (A:-9223372036854775808≤i+j∧i+j≤9223372036854775807):RN P n e C dd (.binOp .add ty x y yt) t p af gg (.int .i64 (i+j)):=fun _ F _ _=>Fx (F.ev D) (F.ev E) (Bi A.1 A.2)
theorem n_sub (D:ev e x=some (.int .i64 i)) (E:ev e y=some (.int .i64 j)) (A:-9223372036854775808≤i - j∧i - j≤9223372036854775807):RN P n e C dd (.binOp .sub ty x y yt) t p af gg (.int .i64 (i - j)):=fun _ F _ _=>Afk (F.ev D) (F.ev E) (Bi A.1 A.2)
theorem n_ix {s et:TypeId} {D E:TI} [c:CT P s D] {ad:Option Addr} {m k b o A:Nat} {H:Int} (O:D.k=.slice et) (N:CT P et E) (S:ev e x=some (.slice ad m k)) (T:ev e y=some (.int kd H)) (I:Ix ad m A E.size b o) (U:H=(A:Int)) :
  RN P n e C dd (.indexAddr s x y) t p af gg (.pointer (some ⟨b,o,none⟩)):=fun _ F _ _=>Fw (c.k.trans O) N.ok (F.ev S) (F.ev T) U I
end
theorem Abj {p:Prop} (h:p:=by
 first
 | ((with_reducible apply n_mv);exact rfl)
 | ((with_reducible apply n_as);exact rfl)
 | ((with_reducible apply n_fa);exact rfl;exact rfl;exact rfl)
 | ((with_reducible apply n_ld);exact rfl;exact rfl;exact z_cl)
 | ((with_reducible apply n_lb);exact rfl;exact rfl;exact z_cs;exact rfl)
 | ((with_reducible apply n_pt);exact rfl;exact Sn;exact rfl)
 | ((with_reducible apply n_pf);exact rfl;exact Sn;exact rfl)
 | ((with_reducible apply n_ls);exact rfl;exact rfl)
 | ((with_reducible apply n_lS);exact rfl;exact rfl)
 | ((with_reducible apply n_eq);exact rfl;exact rfl)
 | ((with_reducible apply n_ne);exact rfl;exact rfl)
 | ((with_reducible apply n_lt);exact rfl;exact rfl)
 | ((with_reducible apply n_gt);exact rfl;exact rfl)
 | ((with_reducible apply n_lq);exact rfl;exact rfl)
 | ((with_reducible apply n_gq);exact rfl;exact rfl)
 | ((with_reducible apply n_seq);exact rfl;exact rfl)
 | ((with_reducible apply n_sne);exact rfl;exact rfl)
 | ((with_reducible apply n_ex);exact rfl;exact rfl)
 | ((with_reducible apply n_not);exact rfl)
 | ((with_reducible apply n_nc);exact rfl)
 | ((with_reducible apply n_add);exact rfl;exact rfl;omega)
 | ((with_reducible apply n_sub);exact rfl;exact rfl;omega)
 | ((with_reducible apply n_ix);exact rfl;exact inferInstance;exact rfl;exact rfl;(with_reducible assumption);omega)
 | fail):p:=h
theorem u_run (D:RN P n e (fun w'=>w' = w) (some d) op t p af none v) (A:Nat.ble (d+1) n=true) (k:EV n ((d,v)::e) fun a=>rl P ops Q r a w):EV n e fun a=>rl P ops Q (⟨some d,op,t,p,af,none⟩::r) a w :=
 Ak (fun a F=>D a F w rfl) A k
theorem EV.id {Φ:Act→Prop} (h:EV n e Φ):EV n e Φ:=h
theorem EV.out {Φ:Act→Prop} (h:EV n e Φ):∀ a,Fits n a e→Φ a:=h
theorem z_M {A:List Res} (M:Mem w0 G L w) (h:L=A:=by first | (dsimp only [List.set,List.eraseIdx,List.cons_append,List.nil_append,over];done) | exact rfl):Mem w0 G A w:=h ▸ M
section
variable {j:Nat} {want b:Bool}
theorem v_kf {r:List (PK × Oper)} (D:RN P n e (fun _=>True) (some d) op t p af none v) (A:Nat.ble (d+1) n=true) (k:EV n ((d,v)::e) fun a=>pk P ops Q C r a w):EV n e fun a=>pk P ops Q C ((.free,⟨some d,op,t,p,af,none⟩)::r) a w:=k_f D A k
theorem v_kp {r:List (PK × Oper)} (D:RN P n e C (some d) op t p af none v) (A:Nat.ble (d+1) n=true) (k:EV n ((d,v)::e) fun a=>pk P ops Q C r a w):EV n e fun a=>pk P ops Q C ((.pure,⟨some d,op,t,p,af,none⟩)::r) a w:=k_p D A k
theorem v_kfg {r:List (PK × Oper)} (h:gdv n d ops e j=some (.bool b)) (hw:b=want) (A:RN P n e (fun _=>True) (some d) op t p af (some (j,want)) v) (k:EV n ((d,v)::e) fun a=>pk P ops Q C r a w):EV n e fun a=>pk P ops Q C ((.free,⟨some d,op,t,p,af,some (j,want)⟩)::r) a w:=Nu h hw A k
theorem v_kpg {r:List (PK × Oper)} (h:gdv n d ops e j=some (.bool b)) (hw:b=want) (A:RN P n e C (some d) op t p af (some (j,want)) v) (k:EV n ((d,v)::e) fun a=>pk P ops Q C r a w):EV n e fun a=>pk P ops Q C ((.pure,⟨some d,op,t,p,af,some (j,want)⟩)::r) a w:=k_pg h hw A k
theorem v_lr {r:List (Bool × Oper)} (D:RN P n e C (some d) op t p af none v) (A:Nat.ble (d+1) n=true) (k:EV n ((d,v)::e) fun a=>pl P ops Q C r a w):EV n e fun a=>pl P ops Q C ((true,⟨some d,op,t,p,af,none⟩)::r) a w:=l_r D A k
theorem v_lg {r:List (Bool × Oper)} (h:gdv n d ops e j=some (.bool b)) (hw:b=want) (A:RN P n e C (some d) op t p af (some (j,want)) v) (k:EV n ((d,v)::e) fun a=>pl P ops Q C r a w):EV n e fun a=>pl P ops Q C ((true,⟨some d,op,t,p,af,some (j,want)⟩)::r) a w:=l_g h hw A k
theorem v_tr {r:PO} (D:RN P n e C (some d) op t p af none v) (A:Nat.ble (d+1) n=true) (k:EV n ((d,v)::e) fun a=>ptl P ops Q C r a w):EV n e fun a=>ptl P ops Q C (.run ⟨some d,op,t,p,af,none⟩ r) a w:=t_r D A k
theorem v_tg {r:PO} (h:gdv n d ops e j=some (.bool b)) (hw:b=want) (A:RN P n e C (some d) op t p af (some (j,want)) v) (k:EV n ((d,v)::e) fun a=>ptl P ops Q C r a w):EV n e fun a=>ptl P ops Q C (.run ⟨some d,op,t,p,af,some (j,want)⟩ r) a w:=t_g h hw A k
end
theorem z_pk {r:List (PK × Oper)} (h:EV n e fun a=>pk P ops Q C r a w):EV n e fun a=>pk P ops Q C r a w:=h
theorem z_lk {r:List (Bool × Oper)} (h:EV n e fun a=>pl P ops Q C r a w):EV n e fun a=>pl P ops Q C r a w:=h
theorem z_tk {r:PO} (h:EV n e fun a=>ptl P ops Q C r a w):EV n e fun a=>ptl P ops Q C r a w:=h
structure Bx (q:Prop):Prop where
 out:q
theorem wk {p q:Prop} (k:q) (h:Bx q→p:=by
  intro hq
  (first | (with_reducible refine EV.id ?_) | (with_reducible refine EV.out ?_) | (revert a;with_reducible refine EV.out ?_))
  repeat (first
    | (with_reducible apply Ca)
    | (with_reducible apply Hg)
    | ((with_reducible apply u_run);exact Abj;exact rfl)
    | (with_reducible apply Ao)
    | (with_reducible apply Gd)
    | ((with_reducible apply g_u);exact rfl)
    | ((with_reducible apply g_t);exact rfl;exact Sn)
    | ((with_reducible apply g_f);exact rfl;exact Sn)
    | ((with_reducible apply Aia);exact rfl;exact Sn)
    | ((with_reducible apply Sc);exact rfl;exact Sn)
    | (with_reducible apply D8)
    | (with_reducible apply H2)
    | (with_reducible apply X8)
    | (with_reducible apply Fl)
    | (with_reducible apply Fu)
    | (with_reducible apply Aee)
    | (with_reducible apply e_bn)
    | (with_reducible apply Iw)
    | (with_reducible apply A1p)
    | ((with_reducible apply e_be);exact rfl)
    | ((with_reducible refine z_pk ?_)
       first
       | (apply v_kf;exact Abj;exact rfl)
       | (apply v_kp;exact Abj;exact rfl)
       | (apply k_u;exact rfl)
       | (apply k_s;exact rfl;exact Sn)
       | (apply v_kfg;exact rfl;exact Sn;exact Abj)
       | (apply v_kpg;exact rfl;exact Sn;exact Abj)
       | apply k_nil)
    | ((with_reducible refine z_lk ?_)
       first
       | (apply v_lr;exact Abj;exact rfl)
       | (apply l_s;exact rfl;exact Sn)
       | (apply v_lg;exact rfl;exact Sn;exact Abj)
       | apply Ayu)
    | ((with_reducible refine z_tk ?_)
       first
       | (apply v_tr;exact Abj;exact rfl)
       | (apply t_s;exact rfl;exact Sn)
       | (apply v_tg;exact rfl;exact Sn;exact Abj)
       | apply Mc))
  exact hq.1):p:=h ⟨k⟩
end
abbrev pP (b:Nat):Value:=.pointer (some ⟨b,0,none⟩)
abbrev qT (l:List UInt8):Value:=.string (str l)
abbrev iI (i:Int):Value:=.int .i64 i
abbrev iB (i:Int):Value:=.int .u8 i
abbrev iU (i:Int):Value:=.int .u64 i
abbrev sN:Value:=.slice none 0 0
theorem sZ {w0:World} {G:Av} {L L':List Res} {n:Nat} {e:Env} {Φ:World→Act→Prop} (k:∀ w,Mem w0 G L' w→EV n e (fun a=>Φ w a)) (h:L=L':=by first | (dsimp only [List.set,List.eraseIdx,List.cons_append,List.nil_append,over];done) | exact rfl):∀ w a,Mem w0 G L w→Fits n a e→Φ w a:=fun w a M F=>k w (h ▸ M) a F
end Go.Y
