/- The generic core, first part: frames, memory, readings, rules. -/
import Derived.WalkKit
import Derived.ScopeJumps
import Derived.IntWalk
import Derived.KernelRfl
import Derived.Deep.QuietTactic
set_option linter.unusedSimpArgs false
set_option linter.unusedVariables false
namespace Go.Y
open Go
theorem dT {p:Prop} [Decidable p] (h:decide p=true):p:=of_decide_eq_true h
theorem dF {p:Prop} [Decidable p] (h:decide p=false):¬ p:=of_decide_eq_false h
theorem bE (b:Bool):b=true∨b=false:=Bool.eq_false_or_eq_true b
theorem sR {α:Type} (l:List α):List.Sublist l l:=List.Sublist.refl l
theorem tM {p:Prop} (h:p:=by omega):p:=h
theorem tD {p:Prop} (h:p:=by decide):p:=h
theorem tA {p:Prop} (h:p:=by assumption):p:=h
theorem kR {p:Prop} (h:p:=by kernel_rfl):p:=h
theorem kF {p:Prop} (h:p:=by intro c a d v w h;cases d <;> exact h):p:=h
theorem tO {p:Prop} (h:p:=by (try simp only [List.length_drop,List.length_take,List.length_append,List.length_cons,List.length_nil]);omega):p:=h
theorem tX {p:Prop} (h:p:=by show _*_≤_;(try simp only [List.length_drop,List.length_take,List.length_append,List.length_cons,List.length_nil]);omega):p:=h
theorem tR {p:Prop} (h:p:=by first | omega | rfl):p:=h
theorem tS {p:Prop} (h:p:=by simp [Value.oneCell']):p:=h
theorem tW {p:Prop} (h:p:=by repeat (first | with_reducible exact sR _ | refine .cons_cons _ ?_ | exact sR _ | refine .cons _ ?_)):p:=h
theorem dS1 {α:Type} {A:α} {l:List α}:l.Sublist (A::l):=.cons _ (List.Sublist.refl _)
theorem dS2 {α:Type} {A D:α} {l:List α}:l.Sublist (A::D::l):=.cons _ (.cons _ (List.Sublist.refl _))
theorem dS3 {α:Type} {A D E:α} {l:List α}:l.Sublist (A::D::E::l):=.cons _ (.cons _ (.cons _ (List.Sublist.refl _)))
theorem dS4 {α:Type} {A D E H:α} {l:List α}:l.Sublist (A::D::E::H::l):=.cons _ (.cons _ (.cons _ (.cons _ (List.Sublist.refl _))))
theorem dS5 {α:Type} {A D E H I:α} {l:List α}:l.Sublist (A::D::E::H::I::l):=.cons _ (.cons _ (.cons _ (.cons _ (.cons _ (List.Sublist.refl _)))))
theorem dS6 {α:Type} {A D E H I N:α} {l:List α}:l.Sublist (A::D::E::H::I::N::l):=.cons _ (.cons _ (.cons _ (.cons _ (.cons _ (.cons _ (List.Sublist.refl _))))))
theorem dS7 {α:Type} {A D E H I N O:α} {l:List α}:l.Sublist (A::D::E::H::I::N::O::l):=.cons _ (.cons _ (.cons _ (.cons _ (.cons _ (.cons _ (.cons _ (List.Sublist.refl _)))))))
theorem dS8 {α:Type} {A D E H I N O S:α} {l:List α}:l.Sublist (A::D::E::H::I::N::O::S::l):=.cons _ (.cons _ (.cons _ (.cons _ (.cons _ (.cons _ (.cons _ (.cons _ (List.Sublist.refl _))))))))
theorem dS9 {α:Type} {A D E H I N O S T:α} {l:List α}:l.Sublist (A::D::E::H::I::N::O::S::T::l):=.cons _ (.cons _ (.cons _ (.cons _ (.cons _ (.cons _ (.cons _ (.cons _ (.cons _ (List.Sublist.refl _)))))))))
theorem dS10 {α:Type} {A D E H I N O S T U:α} {l:List α}:l.Sublist (A::D::E::H::I::N::O::S::T::U::l):=.cons _ (.cons _ (.cons _ (.cons _ (.cons _ (.cons _ (.cons _ (.cons _ (.cons _ (.cons _ (List.Sublist.refl _))))))))))
theorem dS11 {α:Type} {D E H I N O S T U V A:α} {l:List α}:l.Sublist (D::E::H::I::N::O::S::T::U::V::A::l):=.cons _ (.cons _ (.cons _ (.cons _ (.cons _ (.cons _ (.cons _ (.cons _ (.cons _ (.cons _ (.cons _ (List.Sublist.refl _)))))))))))
theorem dS12 {α:Type} {E H I N O S T U V Y A D:α} {l:List α}:l.Sublist (E::H::I::N::O::S::T::U::V::Y::A::D::l):=.cons _ (.cons _ (.cons _ (.cons _ (.cons _ (.cons _ (.cons _ (.cons _ (.cons _ (.cons _ (.cons _ (.cons _ (List.Sublist.refl _))))))))))))
abbrev Env:=List (Nat × Value)
def look:Env→Nat→Option Value
 | [],_=>none
 | (i,v)::e,j=>match Nat.beq i j with
  | true=>some v
  | false=>look e j
structure Fits (n:Nat) (a:Act) (e:Env):Prop where
 size:a.tmps.size=n
 defers:a.defers=[]
 slot:∀ i v,look e i=some v→a.tmps[i]?=some v
def ev (e:Env):Operand→Option Value
 | .tmp i=>look e i
 | .const v=>some v
 | .global g=>some (.pointer (some ⟨g,0,none⟩))
 | .func f=>some (.func (.func f) #[] #[])
section
variable {n:Nat} {a:Act} {e:Env}
theorem Fits.ev (F:Fits n a e) {x:Operand} {v:Value} (h:ev e x=some v):a.eval x=v:=by
 cases x with
 | tmp i =>
  have:=F.slot i v h
  simp [Act.eval,Array.getD_eq_getD_getElem?,this]
 | const c=>simpa [Y.ev,Act.eval] using h
 | global g=>simpa [Y.ev,Act.eval] using h
 | func f=>simpa [Y.ev,Act.eval] using h
theorem Na {i j:Nat} {v:Value} (h:i≠j):look ((i,v)::e) j=look e j:=by
 have:Nat.beq i j=false:=by
  cases hb:Nat.beq i j with
  | false=>rfl
  | true=>exact absurd (Nat.eq_of_beq_eq_true hb) h
 simp [look,this]
theorem Nb {i:Nat} {v:Value}:look ((i,v)::e) i=some v:=by
 simp [look]
theorem Fits.put (F:Fits n a e) {d:Nat} {v:Value} (E:Nat.ble (d+1) n=true):Fits n (a.put (some d) v) ((d,v)::e):=by
 have D:d < n:=Nat.le_of_ble_eq_true E;refine ⟨by simp [Act.put,F.size],F.defers,?_⟩;intro i u A
 by_cases h:d=i
 ·subst h;rw [Nb] at A;simp only [Option.some.injEq] at A;subst A
  simp [Act.put,F.size,D]
 ·rw [Na h] at A;simp only [Act.put];rw [Array.getElem?_setIfInBounds_ne h]
  exact F.slot i u A
theorem Fits.sub (F:Fits n a e) {A:Env} (h:∀ i v,look A i=some v→look e i=some v):Fits n a A :=
 ⟨F.size,F.defers,fun i v D=>F.slot i v (h i v D)⟩
def Sub (e:Env):Env→Prop
 | []=>True
 | (i,v)::r=>look e i=some v∧Sub e r
theorem Sub.look {D:Env} (h:Sub e D):∀ i v,look D i=some v→look e i=some v:=by
 induction D with
 | nil=>intro i v h;simp [Y.look] at h
 | cons p r ih =>
  obtain ⟨j,u⟩:=p;intro i v A
  by_cases hji:j=i
  ·subst hji;rw [Nb] at A;simp only [Option.some.injEq] at A;subst A
   exact h.1
  ·rw [Na hji] at A
   exact ih h.2 i v A
theorem Fits.to (F:Fits n a e) {A:Env} (h:Sub e A):Fits n a A:=F.sub h.look
end
section
variable {P:Program} {ops:Array Oper} {Q:Exit→Act→World→Prop}
def rl (P:Program) (ops:Array Oper) (Q:Exit→Act→World→Prop):List Oper→Act→World→Prop
 | [],a,w=>Q .normal a w
 | o::r,a,w =>
  (Region.wanted o (yielded ops a.tmps)=true→o.wp P a w (rl P ops Q r) Q) ∧
  (Region.wanted o (yielded ops a.tmps)=false→rl P ops Q r (a.put o.dst undef) w)
theorem K8:∀ (l:List Nat) (a:Act) (w:World),rl P ops Q (l.filterMap (ops[·]?)) a w→wpOps P ops Q l a w
 | [],a,w,h=>h
 | i::l,a,w,h=>by
  cases ho:ops[i]? with
  | none =>
   simp only [wpOps,ho];simp only [List.filterMap_cons,ho] at h
   exact K8 l a w h
  | some o =>
   simp only [wpOps,ho];simp only [List.filterMap_cons,ho,rl] at h
   by_cases hw:Region.wanted o (yielded ops a.tmps)=true
   ·simp only [hw,if_true]
    exact .inl (Oper.wp_mono (fun a w=>K8 l a w) (h.1 hw))
   ·simp only [hw]
    exact K8 l _ _ (h.2 (by simpa using hw))
theorem Ju (A:Array Oper):(List.range A.size).filterMap (A[·]?)=A.toList:=by
 apply List.ext_getElem?
 intro i;have h:∀ m,m≤A.size→(List.range m).filterMap (A[·]?)=A.toList.take m:=by
  intro m
  induction m with
  | zero=>intro _;simp
  | succ m ih =>
   intro D;rw [List.range_succ,List.filterMap_append,ih (by omega)];have:A[m]?=some A[m]:=Array.getElem?_eq_getElem (by omega);simp only [List.filterMap_cons,this,List.filterMap_nil];rw [List.take_succ_eq_append_getElem (by simpa using (by omega:m < A.size))]
   simp
 rw [h _ (Nat.le_refl _),List.take_of_length_le (by simp)]
theorem Avm {id:Nat} {a:Act} {w:World} (h:rl P ops Q ops.toList a w):(Code.region id ops false).wp P Q a w :=
 wp_region (K8 _ a w (by rw [Ju];exact h))
theorem Avn {id:Nat} {l:List Oper} {a:Act} {w:World} (h:rl P l.toArray Q l a w):(Code.region id l.toArray false).wp P Q a w :=
 Avm (by simpa using h)
theorem Hb {a:Act} {w:World} (h:Q .normal a w):rl P ops Q [] a w:=h
theorem Bo {n:Nat} {a:Act} {w:World} {e:Env} {d:Nat} {op:Op} {t:TypeId} {p:String} {af:Array Edge} {r:List Oper} {v:Value} {w':World}
  (F:Fits n a e) (E:(execOp a.eval ⟨some d,op,t,p,af,none⟩).run P w=.ok (.value v) w') (D:Nat.ble (d+1) n=true)
  (k:∀ A,Fits n A ((d,v)::e)→rl P ops Q r A w'):rl P ops Q (⟨some d,op,t,p,af,none⟩::r) a w:=by
 refine ⟨fun _=>?_,fun h=>by simp [Region.wanted] at h⟩;unfold Oper.wp;rw [E]
 exact k _ (F.put D)
theorem Pe {n:Nat} {a:Act} {w:World} {e:Env} {op:Op} {t:TypeId} {p:String} {af:Array Edge} {r:List Oper} {w':World}
  (F:Fits n a e) (D:(execOp a.eval ⟨none,op,t,p,af,none⟩).run P w=.ok .skip w')
  (k:∀ A,Fits n A e→rl P ops Q r A w'):rl P ops Q (⟨none,op,t,p,af,none⟩::r) a w:=by
 refine ⟨fun _=>?_,fun h=>by simp [Region.wanted] at h⟩;unfold Oper.wp;rw [D]
 exact k _ F
theorem Afr {n:Nat} {a:Act} {w:World} {e:Env} {d:Nat} {op:Op} {t:TypeId} {p:String} {af:Array Edge} {r:List Oper} {j g:Nat} {want b:Bool}
  (F:Fits n a e) (N:(ops[j]?).bind (·.dst)=some g) (H:look e g=some (.bool b)) (I:Nat.ble (d+1) n=true)
  (A:b=want→rl P ops Q (⟨some d,op,t,p,af,none⟩::r) a w)
  (no:b = !want→∀ D,Fits n D ((d,undef)::e)→rl P ops Q r D w):rl P ops Q (⟨some d,op,t,p,af,some (j,want)⟩::r) a w:=by
 have E:yielded ops a.tmps j=some b:=by
  simp [yielded,N,F.slot _ _ H]
 refine ⟨fun h=>?_,fun h=>?_⟩
 ·have:b=want:=by simpa [Region.wanted,E] using h
  exact (A this).1 rfl
 ·have:b = !want:=by
   have O:¬ b=want:=by simpa [Region.wanted,E] using h
   cases b <;> cases want <;> simp_all
  exact no this _ (F.put I)
end
section
variable {P:Program} {Q:Exit→Act→World→Prop} {n:Nat} {a:Act} {w:World} {e:Env}
theorem w_cond {c:Operand} {x y:Code} {t:Bool} (F:Fits n a e) (A:ev e c=some (.bool t)) (E:t=true→x.wp P Q a w)
  (D:t=false→y.wp P Q a w):(Code.cond c x y).wp P Q a w:=wp_cond_split (F.ev A) E D
theorem Avp {c:Operand} {x y:Code} {t:Bool} (F:Fits n a e) (A:ev e c=some (.bool t)) (D:t=true) (k:x.wp P Q a w):(Code.cond c x y).wp P Q a w :=
 wp_cond_split (F.ev A) (fun _=>k) (fun h=>by rw [D] at h;cases h)
theorem Avq {c:Operand} {x y:Code} {t:Bool} (F:Fits n a e) (A:ev e c=some (.bool t)) (D:t=false) (k:y.wp P Q a w):(Code.cond c x y).wp P Q a w :=
 wp_cond_split (F.ev A) (fun h=>by rw [D] at h;cases h) (fun _=>k)
theorem I6 {c:Code} (R:Act→World→Prop) (h:c.wp P (fun e a w=>match e with | .normal=>R a w | e=>Q e a w) a w)
  (k:∀ a w,R a w→Q .normal a w):c.wp P Q a w :=
 wp_mono h fun e a w h=>by cases e <;> first | exact k _ _ h | exact h
theorem w_loop {σ:Type} {c:Code} (I:σ→Act→World→Prop) (U:σ→Nat) (s0:σ) (h0:I s0 a w)
  (H:∀ s a w,I s a w→c.wp P (Exit.then (fun N w'=>∃ T,U T < U s∧I T N w') Q) a w):(Code.loop c).wp P Q a w:=by
 intro b k cs;have key:∀ n s a w,U s=n→I s a w →
   ∃ e N w',Q e N w'∧Arrives P (lone (b.at a (.code c::.inLoop c::k)) cs w) b k cs e N w':=by
  intro n
  induction n using Nat.strongRecOn with
  | _ n ih =>
   intro s a w hn hI;obtain ⟨e,O,S,D,A⟩:=H s a w hI b (.inLoop c::k) cs
   cases e with
   | normal =>
    obtain ⟨T,Y,V⟩:=D;obtain ⟨e₂,a₂,w₂,aa,E⟩:=ih (U T) (hn ▸ Y) T O S rfl V
    exact ⟨e₂,a₂,w₂,aa,.of_steps (Steps.trans A (.one step_inLoop)) E⟩
   | exit id=>exact ⟨_,O,S,D,.pass (x:=.inLoop c) rfl (fun _ _=>.inl (by simp)) A⟩
   | goto l=>exact ⟨_,O,S,D,.pass (x:=.inLoop c) rfl (fun _ _=>.inl (by simp)) A⟩
   | ret=>exact ⟨_,O,S,D,.pass (x:=.inLoop c) rfl (fun _ _=>.inl (by simp)) A⟩
   | panic ch=>exact ⟨_,O,S,D,.pass (x:=.inLoop c) rfl (fun _ _=>.inl (by simp)) A⟩
   | outgrown=>exact ⟨_,O,S,D,.pass (x:=.inLoop c) rfl (fun _ _=>.inl (by simp)) A⟩
 obtain ⟨e,N,w',D,A⟩:=key _ s0 a w rfl h0
 exact ⟨e,N,w',D,.of_steps (.one step_loop) A⟩
theorem Afy {id:Nat} (h:Q .normal a w):Exit.inBlock id Q (.exit id) a w:=by simpa [Exit.inBlock] using h
theorem Acr {id j:Nat} (A:j≠id) (h:Q (.exit j) a w):Exit.inBlock id Q (.exit j) a w:=by simpa [Exit.inBlock,A] using h
end
section
variable {P:Program} {R:Ending→World→Prop} {w:World}
def Uu:Nat→List Value→Env
 | _,[]=>[]
 | i,v::vs=>(i,v)::Uu (i+1) vs
theorem Qw:∀ (vs:List Value) (k i:Nat) (v:Value),look (Uu k vs) i=some v→k≤i∧vs[i - k]?=some v
 | [],k,i,v,h=>by simp [Uu,look] at h
 | u::vs,k,i,v,h=>by
  by_cases hk:k=i
  ·subst hk;simp only [Uu] at h;rw [Nb] at h
   simpa using h
  ·simp only [Uu] at h;rw [Na hk] at h;obtain ⟨h1,h2⟩:=Qw vs (k+1) i v h;refine ⟨by omega,?_⟩;rw [show i - k=(i - (k+1))+1 by omega]
   simpa using h2
theorem Aii {f:FuncId} {A:Func} {c:Code} {vs:List Value} (N:P.funcs[f]?=some A) (I:A.body=some c) {n:Nat} (S:A.ntmps=n) (T:Nat.ble vs.length n=true)
  (h:∀ a,Fits n a (Uu 0 vs)→c.wp P (bodyPost P A R) a w):Calls P f vs.toArray w R:=by
 have U:=Nat.le_of_ble_eq_true T;refine calls_of_wp N I (h _ ⟨by simp [S];omega,rfl,?_⟩);intro i v O;obtain ⟨_,E⟩:=Qw vs 0 i v O;have H:i < vs.length:=by
  rcases Nat.lt_or_ge i vs.length with D | D
  ·exact D
  ·simp [List.getElem?_eq_none D] at E
 simp only [Nat.sub_zero] at E;rw [Array.getElem?_append_left (by simpa using H)]
 simpa using E
theorem Nh {A:Func} {n:Nat} {a:Act} {e:Env} (F:Fits n a e) {v:Value} (D:(results A a.tmps).run P w=.ok v w) (h:R (.returned v) w):bodyPost P A R .ret a w :=
 ⟨F.defers,v,D,h⟩
theorem fin0 {A:Func} {n:Nat} {a:Act} {e:Env} (F:Fits n a e) (D:A.results = #[]) (h:R (.returned (.tuple #[])) w):bodyPost P A R .ret a w :=
 Nh F (v:=.tuple #[]) (results_none D _ _ _) h
theorem Azy {A:Func} {n:Nat} {a:Act} {e:Env} (F:Fits n a e) (D:A.results = #[]) (h:R (.returned (.tuple #[])) w):bodyPost P A R .normal a w:=fin0 F D h
theorem Ps {a:Act} {n:Nat} {e:Env} (F:Fits n a e) {t:Nat} {v:Value} (h:look e t=some v):a.tmps.getD t undef=v:=by
 simp [Array.getD_eq_getD_getElem?,F.slot _ _ h]
theorem fin1 {A:Func} {n:Nat} {a:Act} {e:Env} (F:Fits n a e) {t:Nat} {v:Value} (D:A.results = #[.tmp t]) (E:look e t=some v) (h:R (.returned v) w):bodyPost P A R .ret a w :=
 Nh F (v:=v) (by rw [results_tmp D,Ps F E]) h
theorem fin2 {A:Func} {n:Nat} {a:Act} {e:Env} (F:Fits n a e) {t u:Nat} {v x:Value} (D:A.results = #[.tmp t,.tmp u]) (E:look e t=some v) (H:look e u=some x) (h:R (.returned (.tuple #[v,x])) w):bodyPost P A R .ret a w :=
 Nh F (v:=.tuple #[v,x]) (by rw [results_tmp2 D,Ps F E,Ps F H]) h
theorem fin3 {A:Func} {n:Nat} {a:Act} {e:Env} (F:Fits n a e) {t u s:Nat} {v x y:Value} (D:A.results = #[.tmp t,.tmp u,.tmp s]) (E:look e t=some v) (H:look e u=some x) (I:look e s=some y) (h:R (.returned (.tuple #[v,x,y])) w):bodyPost P A R .ret a w :=
 Nh F (v:=.tuple #[v,x,y]) (by rw [results_tmp3 D,Ps F E,Ps F H,Ps F I]) h
end
end Go.Y
namespace Go.Y
open Go
inductive TK where
 | int (k:IntKind) | bool | str | ptr (e:Nat) | slice (e:Nat) | struct (fs:List (Nat × Nat × Nat)) | array (n e:Nat)
 | map (k e:Nat) | func | iface | other
def tk (P:Program) (t:TypeId):TK:=match P.underlying t with
 | some (.int k)=>.int k
 | some .bool=>.bool
 | some .string=>.str
 | some (.pointer e)=>.ptr e
 | some (.slice e)=>.slice e
 | some (.struct fs)=>.struct (fs.toList.map fun f=>(f.offset,P.cellsOf f.type,f.type))
 | some (.array n e)=>.array n e
 | some (.map k e)=>.map k e
 | some (.func ..)=>.func
 | some (.interface _)=>.iface
 | _=>.other
structure TI where
 k:TK
 size:Nat
 bytes:Nat
 zero:Value
structure TOK (P:Program) (t:TypeId) (i:TI):Prop where
 k:tk P t=i.k
 sb:(P.info? t).map (fun x=>(x.size,x.bytes))=some (i.size,i.bytes)
 z:(P.info? t).bind (·.zero)=some i.zero
section
variable {P:Program} {t:TypeId} {i:TI} {w:World}
theorem TOK.info (h:TOK P t i):∃ x,P.info? t=some x∧x.size=i.size∧x.bytes=i.bytes∧x.zero=some i.zero:=by
 have A:=h.sb;have D:=h.z
 cases hx:P.info? t with
 | none=>rw [hx] at A;simp at A
 | some x =>
  rw [hx] at A D
  simp at A D
  exact ⟨x,rfl,A.1,A.2,D⟩
theorem TOK.typeInfo (h:TOK P t i):∃ x,(typeInfo t).run P w=.ok x w∧x.size=i.size∧x.bytes=i.bytes∧x.zero=some i.zero:=by
 obtain ⟨x,D,A⟩:=h.info;refine ⟨x,?_,A⟩
 simp [Go.typeInfo,program,Sem.run_bind,Sem.run,D]
theorem TOK.sizeOf (h:TOK P t i):(sizeOf t).run P w=.ok i.size w:=by
 obtain ⟨x,D,A,_⟩:=h.typeInfo (w:=w);simp only [Go.sizeOf,Sem.run_bind,D,Result.andThen_ok,Sem.run_pure,A]
theorem TOK.zeroValue (h:TOK P t i):(zeroValue t).run P w=.ok i.zero w:=by
 obtain ⟨x,D,E,H,A⟩:=h.typeInfo (w:=w);simp only [Go.zeroValue,Sem.run_bind,D,Result.andThen_ok,A,Sem.run_pure]
theorem Df {e:Nat} (h:tk P t=.slice e):P.underlying t=some (.slice e):=by
 unfold tk at h
 split at h <;> simp_all
theorem Ms {A:List (Nat × Nat × Nat)} (h:tk P t=.struct A):∃ f:Array Field,P.underlying t=some (.struct f)∧f.toList.map (fun f=>(f.offset,P.cellsOf f.type,f.type))=A:=by
 unfold tk at h
 split at h <;> simp_all
theorem F7 {n e:Nat} (h:tk P t=.array n e):P.underlying t=some (.array n e):=by
 unfold tk at h
 split at h <;> simp_all
theorem L6 (h:tk P t=.str):P.underlying t=some .string:=by
 unfold tk at h
 split at h <;> simp_all
theorem Be {k:IntKind} (h:tk P t=.int k):P.underlying t=some (.int k):=by
 unfold tk at h
 split at h <;> simp_all
theorem Vl (h:tk P t=.bool):P.underlying t=some .bool:=by
 unfold tk at h
 split at h <;> simp_all
theorem L7 {e:Nat} (h:tk P t=.ptr e):P.underlying t=some (.pointer e):=by
 unfold tk at h
 split at h <;> simp_all
def TK.agg:TK→Option Bool
 | .struct _ | .array ..=>some true
 | .other=>none
 | _=>some false
theorem B9 {d:TypeDesc} (h:P.underlying t=some d):(underlying t).run P w=.ok d w:=by
 simp [underlying,program,Sem.run_bind,Sem.run,h]
theorem Uf (h:(tk P t).agg=some false):(isAgg t).run P w=.ok false w:=by
 unfold tk at h
 split at h <;> simp [TK.agg] at h <;> (rename_i A;simp [isAgg,Sem.run_bind,B9 A])
theorem Ue (h:(tk P t).agg=some true):(isAgg t).run P w=.ok true w:=by
 unfold tk at h
 split at h <;> simp [TK.agg] at h <;> (rename_i A;simp [isAgg,Sem.run_bind,B9 A])
end
abbrev Av:=Nat→Option Obj
def Gle (G G':Av):Prop:=∀ r o,G r=some o→G' r=some o
theorem Gle.refl (G:Av):Gle G G:=fun _ _ h=>h
theorem Gle.trans {G D A:Av} (h:Gle G D) (E:Gle D A):Gle G A:=fun r o H=>E r o (h r o H)
def Ic (G:Av) (b o:Nat):Option Value:=match G b with
 | some (.cells c _ _)=>c[o]?
 | _=>none
theorem Nf {G D:Av} (h:Gle G D) {b o:Nat} {v:Value} (A:Ic G b o=some v):Ic D b o=some v:=by
 unfold Ic at *
 split at A
 ·rename_i c t f E;rw [h _ _ E];exact A
 ·cases A
inductive Res where
 | blk (b:Nat) (cs:List Value) (t:TypeId)
 | row (v:Value) (n:Nat) (cs:List Value) (t:TypeId) (sz:Nat)
 | obj (b:Nat) (o:Obj)
def Res.foot:Res→Option Nat
 | .blk b _ _=>some b
 | .obj b _=>some b
 | .row v _ _ _ _=>v.ownBlock
def rowIs (w:World) (v:Value) (n:Nat) (cs:List Value) (t:TypeId) (sz:Nat):Prop:=w.ownsRow 0 t sz v n cs∧∀ u∈cs,u.oneCell' = true
def Res.holds (w:World):Res→Prop
 | .blk b cs t=>w.heap[b]?=some (.cells cs.toArray t (0,0))
 | .obj b o=>w.heap[b]?=some o
 | .row v n cs t sz=>rowIs w v n cs t sz
structure Mem (w0:World) (G:Av) (L:List Res) (w:World):Prop where
 os:w.os=w0.os
 tape:w.tape=w0.tape
 output:w.output=w0.output
 grow:w0.heap.size≤w.heap.size
 pers:∀ r o,G r=some o→w.heap[r]?=some o
 own:∀ x∈L,x.holds w
 free:∀ x∈L,∀ b,x.foot=some b→G b=none
 apart:L.Pairwise (fun x y=>∀ b,x.foot=some b→y.foot≠some b)
theorem Jf {w:World} {b:Nat} {o:Obj} (h:w.heap[b]?=some o):b < w.heap.size:=by
 rcases Nat.lt_or_ge b w.heap.size with A | A
 ·exact A
 ·simp [Array.getElem?_eq_none A] at h
theorem Res.foot_lt {w:World} {x:Res} (h:x.holds w) {b:Nat} (A:x.foot=some b):b < w.heap.size:=by
 cases x with
 | blk b' cs t=>simp only [Res.foot,Option.some.injEq] at A;subst A;exact Jf h
 | obj b' o=>simp only [Res.foot,Option.some.injEq] at A;subst A;exact Jf h
 | row v n cs t sz=>exact (h.1.lt b A).2
theorem Res.holds_of {w w':World} {x:Res} (h:x.holds w) (H:∀ b,x.foot=some b→w'.heap[b]?=w.heap[b]?):x.holds w':=by
 cases x with
 | blk b' cs t=>simp only [Res.holds] at *;rw [H b' rfl];exact h
 | obj b' o=>simp only [Res.holds] at *;rw [H b' rfl];exact h
 | row v n cs t sz =>
  obtain ⟨⟨I,E⟩,N⟩:=h;refine ⟨⟨I,?_⟩,N⟩
  rcases E with E | ⟨g,A,D,rfl,O,S,T⟩
  ·exact Or.inl E
  ·exact Or.inr ⟨g,A,D,rfl,O,by rw [H g rfl];exact S,T⟩
section
variable {P:Program} {w0 w:World} {G:Av} {L:List Res}
theorem Mem.same (M:Mem w0 G L w) {w':World} (E:w'.os=w.os) (H:w'.tape=w.tape) (I:w'.output=w.output) (N:w.heap.size≤w'.heap.size)
    (A:∀ b,b < w.heap.size→w'.heap[b]?=w.heap[b]?):Mem w0 G L w' :=
  ⟨E.trans M.os,H.trans M.tape,I.trans M.output,Nat.le_trans M.grow N,
   fun r o S=>by have:=M.pers r o S;rw [A r (Jf this)];exact this,
   fun x D=>Res.holds_of (M.own x D) fun b O=>A b (Res.foot_lt (M.own x D) O),M.free,M.apart⟩
theorem Mem.drew (M:Mem w0 G L w) (k:Nat):Mem w0 G L { w with drawn:=k }:=M.same rfl rfl rfl (Nat.le_refl _) (fun _ _=>rfl)
theorem Mem.cell (M:Mem w0 G L w) {b o:Nat} {v:Value} (h:Ic G b o=some v):w.cell? ⟨b,o,none⟩=some v:=by
 unfold Ic at h
 split at h
 ·rename_i c t f A
  simp [World.cell?,M.pers _ _ A,h]
 ·cases h
theorem Mem.wn (M:Mem w0 G L w) {D:List Res} (h:D.Sublist L):Mem w0 G D w :=
 ⟨M.os,M.tape,M.output,M.grow,M.pers,fun x A=>M.own x (h.subset A),fun x A=>M.free x (h.subset A),M.apart.sublist h⟩
theorem Mem.perm (M:Mem w0 G L w) {E:List Res} (h:L.Perm E):Mem w0 G E w :=
  ⟨M.os,M.tape,M.output,M.grow,M.pers,fun x A=>M.own x (h.mem_iff.2 A),fun x A=>M.free x (h.mem_iff.2 A),
   h.pairwise M.apart (fun D b H I=>D b I H)⟩
theorem Mem.new (M:Mem w0 G L w) (o:Obj):Mem w0 G (.obj w.heap.size o::L) { w with heap:=w.heap.push o }:=by
 have A:Mem w0 G L { w with heap:=w.heap.push o }:=M.same rfl rfl rfl (by simp) (fun b D=>by
  show (w.heap.push o)[b]?=_
  rw [Array.getElem?_push,if_neg (by omega)])
 refine ⟨A.os,A.tape,A.output,A.grow,A.pers,?_,?_,?_⟩
 ·intro x E
  rcases List.mem_cons.1 E with rfl | E
  ·show (w.heap.push o)[w.heap.size]?=some o
   simp
  ·exact A.own x E
 ·intro x E b D
  rcases List.mem_cons.1 E with rfl | E
  ·simp only [Res.foot,Option.some.injEq] at D;subst D
   cases hg:G w.heap.size with
   | none=>rfl
   | some o'=>have:=Jf (M.pers _ _ hg);omega
  ·exact A.free x E b D
 ·refine List.pairwise_cons.2 ⟨fun y I b D H=>?_,M.apart⟩;simp only [Res.foot,Option.some.injEq] at D;subst D;have:=Res.foot_lt (M.own y I) H
  omega
theorem Mem.swap_head {x y:Res} (M:Mem w0 G (x::L) w) {w':World} (O:y.foot=x.foot) (Y:y.holds w')
  (S:w'.os=w.os) (T:w'.tape=w.tape) (U:w'.output=w.output) (V:w'.heap.size=w.heap.size)
  (N:∀ b,x.foot≠some b→w'.heap[b]?=w.heap[b]?):Mem w0 G (y::L) w':=by
 have D:=List.pairwise_cons.1 M.apart;refine ⟨S.trans M.os,T.trans M.tape,U.trans M.output,by rw [V];exact M.grow,?_,?_,?_,?_⟩
 ·intro r o I;rw [N r (fun H=>by have:=M.free x (by simp) r H;rw [this] at I;cases I)]
  exact M.pers r o I
 ·intro z A
  rcases List.mem_cons.1 A with rfl | A
  ·exact Y
  ·exact Res.holds_of (M.own z (by simp [A])) fun b E=>N b fun H=>D.1 z A b H E
 ·intro z A b E
  rcases List.mem_cons.1 A with rfl | A
  ·exact M.free x (by simp) b (O ▸ E)
  ·exact M.free z (by simp [A]) b E
 ·exact List.pairwise_cons.2 ⟨fun z A b E=>D.1 z A b (O ▸ E),D.2⟩
theorem Mem.grow_head {x y:Res} (M:Mem w0 G (x::L) w) {w':World} (S:∀ b,y.foot=some b→x.foot=some b∨w.heap.size≤b) (hy:y.holds w')
  (U:w'.os=w.os) (V:w'.tape=w.tape) (Y:w'.output=w.output) (h4:w.heap.size≤w'.heap.size)
  (O:∀ b,b < w.heap.size→x.foot≠some b→w'.heap[b]?=w.heap[b]?):Mem w0 G (y::L) w':=by
 have D:=List.pairwise_cons.1 M.apart;have hG:∀ r,w.heap.size≤r→G r=none:=fun r N=>by
  cases hg:G r with
  | none=>rfl
  | some o=>have:=Jf (M.pers _ _ hg);omega
 refine ⟨U.trans M.os,V.trans M.tape,Y.trans M.output,Nat.le_trans M.grow h4,?_,?_,?_,?_⟩
 ·intro r o N;have T:=M.pers r o N;rw [O r (Jf T) (fun H=>by have:=M.free x (by simp) r H;rw [this] at N;cases N)]
  exact T
 ·intro z A
  rcases List.mem_cons.1 A with rfl | A
  ·exact hy
  ·have I:=M.own z (by simp [A])
   exact Res.holds_of I fun b E=>O b (Res.foot_lt I E) fun H=>D.1 z A b H E
 ·intro z A b E
  rcases List.mem_cons.1 A with rfl | A
  ·rcases S b E with h | h
   ·exact M.free x (by simp) b h
   ·exact hG b h
  ·exact M.free z (by simp [A]) b E
 ·refine List.pairwise_cons.2 ⟨fun z A b E H=>?_,D.2⟩
  rcases S b E with h | h
  ·exact D.1 z A b h H
  ·have:=Res.foot_lt (M.own z (by simp [A])) H
   omega
theorem Ah:∀ (L:List Res) (k:Nat) (x:Res),L[k]?=some x→L.Perm (x::L.eraseIdx k)
 | [],k,x,h=>by simp at h
 | y::L,0,x,h=>by simp at h;subst h;simp
 | y::L,k+1,x,h=>by
  have h':L[k]?=some x:=by simpa using h
  have:=Ah L k x h';simp only [List.eraseIdx_cons_succ]
  exact ((this.cons y).trans (List.Perm.swap x y _))
theorem Wq:∀ (L:List Res) (k:Nat) (x y:Res),L[k]?=some x→(y::L.eraseIdx k).Perm (L.set k y)
 | [],k,x,y,h=>by simp at h
 | z::L,0,x,y,h=>by simp
 | z::L,k+1,x,y,h=>by
  have h':L[k]?=some x:=by simpa using h
  simp only [List.eraseIdx_cons_succ,List.set_cons_succ]
  exact (List.Perm.swap z y _).trans ((Wq L k x y h').cons z)
theorem Mem.swap_at (M:Mem w0 G L w) {k:Nat} {x y:Res} (A:L[k]?=some x) {w':World} (O:y.foot=x.foot) (S:y.holds w')
  (D:w'.os=w.os) (E:w'.tape=w.tape) (H:w'.output=w.output) (I:w'.heap.size=w.heap.size)
  (N:∀ b,x.foot≠some b→w'.heap[b]?=w.heap[b]?):Mem w0 G (L.set k y) w' :=
 ((M.perm (Ah L k x A)).swap_head O S D E H I N).perm (Wq L k x y A)
theorem Mem.grow_at (M:Mem w0 G L w) {k:Nat} {x y:Res} (A:L[k]?=some x) {w':World} (O:∀ b,y.foot=some b→x.foot=some b∨w.heap.size≤b) (S:y.holds w')
  (D:w'.os=w.os) (E:w'.tape=w.tape) (H:w'.output=w.output) (I:w.heap.size≤w'.heap.size)
  (N:∀ b,b < w.heap.size→x.foot≠some b→w'.heap[b]?=w.heap[b]?):Mem w0 G (L.set k y) w' :=
 ((M.perm (Ah L k x A)).grow_head O S D E H I N).perm (Wq L k x y A)
theorem Mem.freeze (M:Mem w0 G L w) {k:Nat} {b:Nat} {cs:List Value} {t:TypeId} (U:L[k]?=some (.blk b cs t)) :
  ∃ I,Gle G I∧I b=some (.cells cs.toArray t (0,0))∧Mem w0 I (L.eraseIdx k) w:=by
 have D:=M.perm (Ah L k _ U);have S:G b=none:=D.free (.blk b cs t) (by simp) b rfl;have E:=List.pairwise_cons.1 D.apart;have T:w.heap[b]?=some (.cells cs.toArray t (0,0)):=D.own (.blk b cs t) (by simp);refine ⟨fun r=>if r=b then some (.cells cs.toArray t (0,0)) else G r,?_,by simp,?_⟩
 ·intro r o A
  by_cases h:r=b
  ·subst h;rw [S] at A;cases A
  ·simp [h,A]
 ·refine ⟨M.os,M.tape,M.output,M.grow,?_,?_,?_,E.2⟩
  ·intro r o A
   by_cases h:r=b
   ·subst h;simp at A;subst A;exact T
   ·simp only [h,if_false] at A;exact M.pers r o A
  ·exact fun x H=>D.own x (by simp [H])
  ·intro x H c O;have N:c≠b:=fun e=>E.1 x H b rfl (e ▸ O);simp only [N,if_false]
   exact D.free x (by simp [H]) c O
theorem R9 {b o:Nat} {v:Value} {c:Array Value} {t:TypeId} {f:Nat × Nat} (h:w.heap[b]?=some (.cells c t f)) :
  (w.setCell ⟨b,o,none⟩ v).heap[b]?=some (.cells (c.setIfInBounds o v) t f):=by
 simp [World.setCell,Array.getElem?_modify,h]
theorem Ku {b o r:Nat} {v:Value} (h:r≠b):(w.setCell ⟨b,o,none⟩ v).heap[r]?=w.heap[r]?:=by
 simp only [World.setCell,Array.getElem?_modify];rw [if_neg (fun e=>h e.symm)]
theorem Mem.cellL (M:Mem w0 G L w) {k b:Nat} {cs:List Value} {t:TypeId} (D:L[k]?=some (.blk b cs t)) {o:Nat} {v:Value} (E:cs[o]?=some v) :
  w.cell? ⟨b,o,none⟩=some v:=by
 have A:w.heap[b]?=some (.cells cs.toArray t (0,0)):=M.own _ (List.mem_of_getElem? D)
 simp [World.cell?,A,E]
theorem Mem.frozenL (M:Mem w0 G L w) {k b:Nat} {cs:List Value} {t:TypeId} (D:L[k]?=some (.blk b cs t)) (o:Nat) :
  w.frozen? ⟨b,o,none⟩=false:=by
 have A:w.heap[b]?=some (.cells cs.toArray t (0,0)):=M.own _ (List.mem_of_getElem? D)
 simp [World.frozen?,A]
theorem Mem.set (M:Mem w0 G L w) {k b:Nat} {cs:List Value} {t:TypeId} (A:L[k]?=some (.blk b cs t)) (o:Nat) (v:Value) :
  Mem w0 G (L.set k (.blk b (cs.set o v) t)) (w.setCell ⟨b,o,none⟩ v):=by
 have D:w.heap[b]?=some (.cells cs.toArray t (0,0)):=M.own _ (List.mem_of_getElem? A);refine M.swap_at A rfl ?_ rfl rfl rfl (by simp [World.setCell]) ?_
 ·show (w.setCell _ _).heap[b]?=_
  rw [R9 D];simp
 ·intro r E
  exact Ku (fun e=>E (by simp [Res.foot,e]))
end
end Go.Y
namespace Go.Y
open Go
section
variable {P:Program} {w:World} {ρ:Operand→Value} {d:Option Tmp} {t:TypeId} {p:String} {af:Array Edge} {g:Option (Nat × Bool)}
theorem Gi {x:Operand} {v:Value} (A:ρ x=v):(execOp ρ ⟨d,.move x,t,p,af,g⟩).run P w=.ok (.value v) w:=by simp [execOp,A]
theorem H4 {x:Operand} {v:Value} (A:ρ x=v):(execOp ρ ⟨d,.assign x,t,p,af,g⟩).run P w=.ok (.value v) w:=by simp [execOp,A]
theorem Qm {c x y:Operand} {b:Bool} {v:Value} (D:ρ c=.bool b) (A:b=true) (E:ρ x=v):(execOp ρ ⟨d,.pick c x y,t,p,af,g⟩).run P w=.ok (.value v) w:=by
 subst A;simp [execOp,D,E,asBool]
theorem My {c x y:Operand} {b:Bool} {v:Value} (D:ρ c=.bool b) (A:b=false) (E:ρ y=v):(execOp ρ ⟨d,.pick c x y,t,p,af,g⟩).run P w=.ok (.value v) w:=by
 subst A;simp [execOp,D,E,asBool]
theorem Ace {x:Operand} {a:Addr} (A:ρ x=.pointer (some a)):(execOp ρ ⟨d,.nilCheck x,t,p,af,g⟩).run P w=.ok (.value (.pointer (some a))) w:=by
 simp [execOp,A]
theorem F8 {x:Operand} {i:Nat} {vs:Array Value} {v:Value} (D:ρ x=.tuple vs) (A:vs[i]?=some v):(execOp ρ ⟨d,.extract x i,t,p,af,g⟩).run P w=.ok (.value v) w:=by
 simp [execOp,D,Instr.extract,A]
theorem Rm {x:Operand} {ty:TypeId} {b:Bool} (A:ρ x=.bool b):(execOp ρ ⟨d,.unOp .not ty x,t,p,af,g⟩).run P w=.ok (.value (.bool (!b))) w:=by
 simp [execOp,A,Op.unary]
theorem Dh {A:Fn} {cs:Array Operand} {vs:Array Value} (D:cs.map ρ=vs):(execOp ρ ⟨d,.makeFunc A #[] cs,t,p,af,g⟩).run P w=.ok (.value (.func A #[] vs)) w:=by
 simp [execOp,Instr.makeFunc,D]
theorem Ld {x y:Operand} {ty yt:TypeId} {k:IntKind} {a b:Int} (A:ρ x=.int k a) (D:ρ y=.int k b) :
  (execOp ρ ⟨d,.binOp .add ty x y yt,t,p,af,g⟩).run P w=.ok (.value (.int k (k.wrap (a+b)))) w:=by
 simp [execOp,A,D,eqGuard,binOp,Op.intArith]
theorem Ami {x y:Operand} {ty yt:TypeId} {k:IntKind} {a b:Int} (A:ρ x=.int k a) (D:ρ y=.int k b) :
  (execOp ρ ⟨d,.binOp .sub ty x y yt,t,p,af,g⟩).run P w=.ok (.value (.int k (k.wrap (a - b)))) w:=by
 simp [execOp,A,D,eqGuard,binOp,Op.intArith]
theorem Amk {x y:Operand} {ty yt:TypeId} {k:IntKind} {a b:Int} (A:ρ x=.int k a) (D:ρ y=.int k b) :
  (execOp ρ ⟨d,.binOp .mul ty x y yt,t,p,af,g⟩).run P w=.ok (.value (.int k (k.wrap (a * b)))) w:=by
 simp [execOp,A,D,eqGuard,binOp,Op.intArith]
def Al (k:IntKind) (n:Int):Prop:=k.min≤n∧n≤k.max
theorem K7 {k:IntKind} {n:Int} (h:Al k n):k.wrap n=n:=by
 obtain ⟨A,D⟩:=h
 cases k <;> simp [IntKind.min,IntKind.max,IntKind.wrap,IntKind.signed,IntKind.bits] at * <;> omega
theorem Bi {n:Int} (A:-9223372036854775808≤n) (D:n≤9223372036854775807):Al .i64 n:=⟨A,D⟩
theorem Gn {n:Int} (A:0≤n) (D:n≤18446744073709551615):Al .u64 n:=⟨A,D⟩
theorem Ho {n:Int} (A:0≤n) (D:n≤255):Al .u8 n:=⟨A,D⟩
theorem Fx {x y:Operand} {ty yt:TypeId} {k:IntKind} {a b:Int} (A:ρ x=.int k a) (D:ρ y=.int k b) (h:Al k (a+b)) :
  (execOp ρ ⟨d,.binOp .add ty x y yt,t,p,af,g⟩).run P w=.ok (.value (.int k (a+b))) w:=by
 rw [Ld A D,K7 h]
theorem Afk {x y:Operand} {ty yt:TypeId} {k:IntKind} {a b:Int} (A:ρ x=.int k a) (D:ρ y=.int k b) (h:Al k (a - b)) :
  (execOp ρ ⟨d,.binOp .sub ty x y yt,t,p,af,g⟩).run P w=.ok (.value (.int k (a - b))) w:=by
 rw [Ami A D,K7 h]
theorem Hy {x y:Operand} {ty yt:TypeId} {k:IntKind} {a b:Int} (A:ρ x=.int k a) (D:ρ y=.int k b) (h:Al k (a * b)) :
  (execOp ρ ⟨d,.binOp .mul ty x y yt,t,p,af,g⟩).run P w=.ok (.value (.int k (a * b))) w:=by
 rw [Amk A D,K7 h]
theorem Aml {x y:Operand} {ty yt:TypeId} {k:IntKind} {a b:Int} (A:ρ x=.int k a) (D:ρ y=.int k b) :
  (execOp ρ ⟨d,.binOp .lss ty x y yt,t,p,af,g⟩).run P w=.ok (.value (.bool (decide (a < b)))) w:=by
 simp [execOp,A,D,eqGuard,binOp,Op.intCmp]
theorem run_leq {x y:Operand} {ty yt:TypeId} {k:IntKind} {a b:Int} (A:ρ x=.int k a) (D:ρ y=.int k b) :
  (execOp ρ ⟨d,.binOp .leq ty x y yt,t,p,af,g⟩).run P w=.ok (.value (.bool (decide (a≤b)))) w:=by
 simp [execOp,A,D,eqGuard,binOp,Op.intCmp]
theorem Acf {x y:Operand} {ty yt:TypeId} {k:IntKind} {a b:Int} (A:ρ x=.int k a) (D:ρ y=.int k b) :
  (execOp ρ ⟨d,.binOp .gtr ty x y yt,t,p,af,g⟩).run P w=.ok (.value (.bool (decide (b < a)))) w:=by
 simp [execOp,A,D,eqGuard,binOp,Op.intCmp]
theorem run_geq {x y:Operand} {ty yt:TypeId} {k:IntKind} {a b:Int} (A:ρ x=.int k a) (D:ρ y=.int k b) :
  (execOp ρ ⟨d,.binOp .geq ty x y yt,t,p,af,g⟩).run P w=.ok (.value (.bool (decide (b≤a)))) w:=by
 simp [execOp,A,D,eqGuard,binOp,Op.intCmp]
theorem Acg {x y:Operand} {ty yt:TypeId} {k:IntKind} {a b:Int} (A:ρ x=.int k a) (D:ρ y=.int k b) :
  (execOp ρ ⟨d,.binOp .eql ty x y yt,t,p,af,g⟩).run P w=.ok (.value (.bool (decide (a=b)))) w:=by
 simp [execOp,A,D,eqGuard,binOp,Op.intCmp]
 rfl
theorem Amj {x y:Operand} {ty yt:TypeId} {k:IntKind} {a b:Int} (A:ρ x=.int k a) (D:ρ y=.int k b) :
  (execOp ρ ⟨d,.binOp .neq ty x y yt,t,p,af,g⟩).run P w=.ok (.value (.bool (!decide (a=b)))) w:=by
 simp [execOp,A,D,eqGuard,binOp,Op.intCmp]
 rfl
theorem run_rem {x y:Operand} {ty yt:TypeId} {k:IntKind} {a b:Int} (D:ρ x=.int k a) (E:ρ y=.int k b) (A:b≠0) :
  (execOp ρ ⟨d,.binOp .rem ty x y yt,t,p,af,g⟩).run P w=.ok (.value (.int k (a.tmod b))) w:=by
 simp [execOp,D,E,eqGuard,binOp,Op.intDiv,A]
theorem C5 {x y:Operand} {ty yt:TypeId} {k:IntKind} {a b:Int} (D:ρ x=.int k a) (E:ρ y=.int k b) (A:0≤a) (H:0 < b) :
  (execOp ρ ⟨d,.binOp .rem ty x y yt,t,p,af,g⟩).run P w=.ok (.value (.int k (a % b))) w:=by
 rw [run_rem D E (by omega),Int.tmod_eq_emod_of_nonneg A]
theorem Iq {x y:Operand} {ty yt:TypeId} {k:IntKind} {a b:Int} (N:ρ x=.int k a) (O:ρ y=.int k b) (A:0≤a) (V:0 < b) (I:Al k a) :
  (execOp ρ ⟨d,.binOp .quo ty x y yt,t,p,af,g⟩).run P w=.ok (.value (.int k (a / b))) w:=by
 have D:b≠0:=by omega
 have E:a.tdiv b=a / b:=Int.tdiv_eq_ediv_of_nonneg A;have H:Al k (a / b):=by
  obtain ⟨l,r⟩:=I;have S:0≤a / b:=Int.ediv_nonneg A (by omega);have T:a / b≤a:=Int.ediv_le_self b A;have U:k.min≤0:=by cases k <;> simp [IntKind.min,IntKind.signed,IntKind.bits]
  exact ⟨by omega,by omega⟩
 simp [execOp,N,O,eqGuard,binOp,Op.intDiv,D,E,K7 H]
theorem Bb {D A:TypeId} {x:Operand} {k k':IntKind} {a:Int} (E:tk P A=.int k) (H:∃ u,P.underlying D=some u) (N:ρ x=.int k' a) (h:Al k a) :
  (execOp ρ ⟨d,.convert D A x,t,p,af,g⟩).run P w=.ok (.value (.int k a)) w:=by
 obtain ⟨u,I⟩:=H
 simp [execOp,N,convert,B9 I,B9 (Be E),Conv.intToInt,K7 h]
theorem S4 (n:Nat) {ty:TypeId} {a b:Bool} (A:tk P ty=.bool):(Op.equalIn (n+1) ty (.bool a) (.bool b)).run P w=.ok (a==b) w:=by
 simp only [Op.equalIn,Sem.run_bind,B9 (Vl A),Result.andThen_ok,Sem.run_pure]
theorem V5 {ty:TypeId} {a b:Bool} (A:tk P ty=.bool):(Op.equal ty (.bool a) (.bool b)).run P w=.ok (a==b) w:=S4 9999 A
theorem Uz (n:Nat) {ty e:TypeId} {a:Option Addr} (A:tk P ty=.ptr e):(Op.equalIn (n+1) ty (.pointer a) (.pointer none)).run P w=.ok a.isNone w:=by
 cases a <;> simp only [Op.equalIn,Sem.run_bind,B9 (L7 A),Result.andThen_ok,Sem.run_pure] <;> rfl
theorem Yy {ty e:TypeId} {a:Option Addr} (A:tk P ty=.ptr e):(Op.equal ty (.pointer a) (.pointer none)).run P w=.ok a.isNone w:=Uz 9999 A
theorem run_neb {x y:Operand} {ty yt:TypeId} {a b:Bool} (A:tk P ty=.bool) (D:ρ x=.bool a) (E:ρ y=.bool b) :
  (execOp ρ ⟨d,.binOp .neq ty x y yt,t,p,af,g⟩).run P w=.ok (.value (.bool (!(a==b)))) w:=by
 simp [execOp,D,E,eqGuard,binOp,V5 A]
theorem Zn {x y:Operand} {ty yt:TypeId} {e:TypeId} {a:Option Addr} (A:tk P ty=.ptr e) (D:ρ x=.pointer a) (E:ρ y=.pointer none) :
  (execOp ρ ⟨d,.binOp .eql ty x y yt,t,p,af,g⟩).run P w=.ok (.value (.bool a.isNone)) w:=by
 simp [execOp,D,E,eqGuard,binOp,Yy A]
theorem Aqo {e:TypeId} {i:TI} (A:TOK P e i):(execOp ρ ⟨d,.alloc e,t,p,af,g⟩).run P w =
  .ok (.value (.pointer (some ⟨w.heap.size,0,none⟩))) { w with heap:=w.heap.push (.cells i.zero.cells e (0,0)) }:=by
 simp [execOp,Instr.alloc,A.zeroValue,newVar,newRow,newObj,Sem.run]
theorem run_box {e:TypeId} {x:Operand} {v:Value} (A:ρ x=v):(execOp ρ ⟨d,.box e x,t,p,af,g⟩).run P w =
  .ok (.value (.pointer (some ⟨w.heap.size,0,none⟩))) { w with heap:=w.heap.push (.cells v.cells e (0,0)) }:=by
 simp [execOp,Instr.box,A,newVar,newRow,newObj,Sem.run]
theorem Hs {e:TypeId} {a:Addr} {v:Value} (D:(tk P e).agg=some false) (A:w.cell? a=some v):(loadVar e a).run P w=.ok v w:=by
 simp [loadVar,Uf D,A]
theorem Cw {e:TypeId} {x:Operand} {a:Addr} {v:Value} (D:(tk P e).agg=some false) (E:ρ x=.pointer (some a)) (A:w.cell? a=some v) :
  (execOp ρ ⟨d,.load e x,t,p,af,g⟩).run P w=.ok (.value v) w:=by
 simp [execOp,Instr.loadAt,Instr.sureAddr,E,Hs D A]
theorem Fv {b o k:Nat}:(⟨b,o,none⟩:Addr).add k=⟨b,o+k,none⟩:=by
 unfold Addr.add
 split
 ·rename_i h;subst h;rfl
 ·rfl
theorem Lb {b o:Nat}:∀ (n i:Nat) (acc:Array Value) (cs:List Value),cs.length=n→(∀ j,j < n→w.cell? ⟨b,o+(i+j),none⟩=cs[j]?) →
  (loadCellsFrom ⟨b,o,none⟩ i n acc).run P w=.ok (acc++cs.toArray) w
 | 0,i,acc,cs,hl,hc=>by
  have:cs=[]:=List.eq_nil_of_length_eq_zero hl;subst this
  simp [loadCellsFrom]
 | n+1,i,acc,cs,hl,hc=>by
  match cs,hl with
  | c::cs,hl =>
   have h0:=hc 0 (by omega);simp only [Nat.add_zero,List.getElem?_cons_zero] at h0;have ih:=Lb n (i+1) (acc.push c) cs (by simpa using hl) (fun j hj=>by
    have:=hc (j+1) (by omega);simp only [List.getElem?_cons_succ] at this;rw [← this];have e:o+(i+1+j)=o+(i+(j+1)):=by omega
    rw [e])
   simp only [loadCellsFrom,Sem.run_bind,Fv];have hl:(load (⟨b,o+i,none⟩:Addr)).run P w=.ok c w:=by simp [h0]
   rw [hl];simp only [Result.andThen_ok,ih]
   simp
theorem Hr {e:TypeId} {i:TI} {b o:Nat} {cs:List Value} (A:TOK P e i) (E:i.k.agg=some true) (N:cs.length=i.size)
  (H:∀ j,j < i.size→w.cell? ⟨b,o+j,none⟩=cs[j]?):(loadVar e ⟨b,o,none⟩).run P w=.ok (.agg cs.toArray) w:=by
 have D:=Lb (P:=P) (w:=w) (b:=b) (o:=o) i.size 0 #[] cs N (fun j I=>by rw [← H j I,Nat.zero_add]);simp only [loadVar,Sem.run_bind,Ue (by rw [A.k];exact E),Result.andThen_ok,if_true,A.sizeOf,loadCells,D,Sem.run_pure]
 simp
theorem Cv {e:TypeId} {i:TI} {x:Operand} {b o:Nat} {cs:List Value} (H:TOK P e i) (A:i.k.agg=some true) (I:ρ x=.pointer (some ⟨b,o,none⟩)) (E:cs.length=i.size)
  (D:∀ j,j < i.size→w.cell? ⟨b,o+j,none⟩=cs[j]?):(execOp ρ ⟨d,.load e x,t,p,af,g⟩).run P w=.ok (.value (.agg cs.toArray)) w:=by
 simp [execOp,Instr.loadAt,Instr.sureAddr,I,Hr H A E D]
theorem Yx {s:TypeId} {x:Operand} {f b o E sz ty:Nat} {S:List (Nat × Nat × Nat)} (hs:tk P s=.struct S) (V:S[f]?=some (E,sz,ty)) (hz:Nat.beq sz 0=false) (hx:ρ x=.pointer (some ⟨b,o,none⟩)) :
  (execOp ρ ⟨d,.fieldAddr s x f,t,p,af,g⟩).run P w=.ok (.value (.pointer (some ⟨b,o+E,none⟩))) w:=by
 obtain ⟨Y,hu,I⟩:=Ms hs;subst I;simp only [List.getElem?_map,Option.map_eq_some_iff] at V;obtain ⟨fd,H,U⟩:=V;simp only [Prod.mk.injEq] at U;obtain ⟨rfl,h1,rfl⟩:=U;have D:Y[f]?=some fd:=by simpa using H
 have A:P.cellsOf fd.type≠0:=by
  intro T;rw [h1] at T;subst T;simp at hz
 have hi:∃ i,P.info? fd.type=some i∧i.size≠0:=by
  unfold Program.cellsOf at A
  cases hii:P.info? fd.type with
  | none=>rw [hii] at A;simp at A
  | some i=>rw [hii] at A;exact ⟨i,rfl,by simpa using A⟩
 obtain ⟨i,N,O⟩:=hi
 simp [execOp,Instr.fieldAt,B9 hu,D,hx,Instr.sureAddr,fieldPlace,sizeOf,typeInfo,program,Sem.run,N,O,Fv]
theorem Yw {s e:TypeId} {i:TI} {x y:Operand} {b o n c:Nat} {k:IntKind} {j:Nat} (D:tk P s=.slice e) (E:TOK P e i) (H:ρ x=.slice (some ⟨b,o,none⟩) n c) (I:ρ y=.int k (j:Int)) (A:j < n) :
  (execOp ρ ⟨d,.indexAddr s x y,t,p,af,g⟩).run P w=.ok (.value (.pointer (some ⟨b,o+j * i.size,none⟩))) w:=by
 have N:(j:Int) < (n:Int):=by omega
 simp [execOp,Instr.indexAt,B9 (Df D),H,I,asIntOf,E.sizeOf,A,Fv]
theorem Jb {s e:TypeId} {x:Operand} {a:Option Addr} {n c:Nat} (A:tk P s=.slice e) (D:ρ x=.slice a n c) :
  (execOp ρ ⟨d,.call ⟨.builtin .len,#[x],#[s]⟩,t,p,af,g⟩).run P w=.ok (.value (.int .i64 n)) w:=by
 simp [execOp,resolve,invoke,builtin,Builtin.len_,B9 (Df A),D,goInt]
theorem Zp {s e:TypeId} {x:Operand} {a:Option Addr} {n c:Nat} (A:tk P s=.slice e) (D:ρ x=.slice a n c) :
  (execOp ρ ⟨d,.call ⟨.builtin .cap,#[x],#[s]⟩,t,p,af,g⟩).run P w=.ok (.value (.int .i64 c)) w:=by
 simp [execOp,resolve,invoke,builtin,Builtin.cap_,B9 (Df A),D,goInt]
theorem Ql {e:TypeId} {i:TI} {x y:Operand} {a:Addr} {v E:Value} (O:TOK P e i) (H:i.size=1) (T:ρ x=.pointer (some a)) (U:ρ y=v) (S:v.cells = #[v]) (I:∀ c,v≠.agg c) (N:∀ c,v≠.tuple c)
  (V:w.cell? a=some E) (Y:w.frozen? a=false) :
  (execOp ρ ⟨d,.store e x y,t,p,af,g⟩).run P w=.ok .skip (w.setCell a v):=by
 have A:a.add 0=a:=by simp [Addr.add]
 have D:(store a v).run P w=.ok () (w.setCell a v):=by
  unfold store
  cases v <;> simp_all [Sem.run]
 simp only [execOp,T,U,Instr.storeAt,Instr.sureAddr,storeVar,Sem.run_bind,Sem.run_pure,Result.andThen_ok,O.sizeOf,H,S]
 simp [storeCells,A,D]
end
end Go.Y
namespace Go.Y
open Go
structure Ent (P:Program) (f:FuncId):Prop where
 is:∃ fn,P.funcs[f]?=some fn∧(fn.name== "runtime.NumGoroutine")=false∧fn.body.isNone=false
theorem Ent.mk' {P:Program} {f:FuncId} {A:Func} (h:P.funcs[f]?=some A) (D:(A.name== "runtime.NumGoroutine")=false) (E:A.body.isNone=false):Ent P f:=⟨A,h,D,E⟩
def evs (e:Env):List Operand→Option (List Value)
 | []=>some []
 | x::xs=>match ev e x with
  | some v=>match evs e xs with
   | some vs=>some (v::vs)
   | none=>none
  | none=>none
def Ret (w0:World) (G:Av) (L:List Res) (Φ:Av→Value→Prop):Ending→World→Prop
 | .returned v,w'=>∃ G',Gle G G'∧Mem w0 G' L w'∧Φ G' v
 | _,_=>False
def I5 (w0:World) (G:Av) (Φ:Av→List Res→Value→Prop):Ending→World→Prop
 | .returned v,w'=>∃ G' L',Gle G G'∧Mem w0 G' L' w'∧Φ G' L' v
 | _,_=>False
section
variable {P:Program} {ops:Array Oper} {Q:Exit→Act→World→Prop} {n:Nat} {a:Act} {w w0:World} {e:Env} {G:Av} {L:List Res}
 {d:Nat} {t:TypeId} {p:String} {af:Array Edge} {r:List Oper}
theorem Fits.evs (F:Fits n a e):∀ {xs:List Operand} {vs:List Value},evs e xs=some vs→xs.map a.eval=vs
 | [],vs,h=>by simp [Y.evs] at h;subst h;rfl
 | x::xs,vs,h=>by
  simp only [Y.evs] at h
  cases hx:Y.ev e x with
  | none=>rw [hx] at h;simp at h
  | some v =>
   rw [hx] at h
   cases hxs:Y.evs e xs with
   | none=>rw [hxs] at h;simp at h
   | some us =>
    rw [hxs] at h
    simp at h
    subst h
    simp [F.ev hx,F.evs hxs]
theorem S7 {f:FuncId} {args:Array Value} (O:Ent P f):(callFunc f args).run P w=.ok (.enter f args) w:=by
 obtain ⟨E,I,N,H⟩:=O.is;have A:¬ E.name = "runtime.NumGoroutine":=by simpa using N
 have D:¬ E.body=none:=by intro S;rw [S] at H;simp at H
 simp [callFunc,program,Sem.run,I,A,D]
theorem Jo {f:FuncId} {A:Operand} {args:List Operand} {D:Array TypeId} {vs caps:List Value} {R:Ending→World→Prop}
  (F:Fits n a e) (N:Ent P f) (O:ev e A=some (.func (.func f) #[] caps.toArray)) (Y:evs e args=some vs) (S:Nat.ble (d+1) n=true)
  (V:Calls P f (vs++caps).toArray w R)
  (k:∀ x w',R x w'→∃ v,x=.returned v∧∀ E,Fits n E ((d,v)::e)→rl P ops Q r E w') :
  rl P ops Q (⟨some d,.call ⟨.value A,args.toArray,D⟩,t,p,af,none⟩::r) a w:=by
 refine ⟨fun _=>?_,fun h=>by simp [Region.wanted] at h⟩;unfold Oper.wp;have U:(execOp a.eval ⟨some d,.call ⟨.value A,args.toArray,D⟩,t,p,af,none⟩).run P w=.ok (.enter f (vs++caps).toArray) w:=by
  have H:=F.ev O;have I:=F.evs Y;simp only [execOp,resolve,H,Deferred.ofValue,Sem.run_bind,Sem.run_pure,Result.andThen_ok,invoke];rw [show (#[]++Array.map a.eval args.toArray++caps.toArray)=(vs++caps).toArray by simp [← I]]
  exact S7 N
 rw [U];refine Calls.mono V fun x w' hx=>?_;obtain ⟨v,rfl,T⟩:=k x w' hx
 exact T _ (F.put S)
theorem Acl {f:FuncId} {args:List Operand} {E:Array TypeId} {vs:List Value} {Φ:Av→Value→Prop}
  (F:Fits n a e) (T:Ent P f) (Y:evs e args=some vs) (U:Nat.ble (d+1) n=true)
  (V:Calls P f vs.toArray w (Ret w0 G L Φ))
  (k:∀ v A w' D,Gle G A→Mem w0 A L w'→Φ A v→Fits n D ((d,v)::e)→rl P ops Q r D w') :
  rl P ops Q (⟨some d,.call ⟨.value (.func f),args.toArray,E⟩,t,p,af,none⟩::r) a w:=by
 refine Jo (caps:=[]) F T rfl Y U (by rw [List.append_nil];exact V) fun x w' H=>?_
 cases x with
 | returned v=>obtain ⟨A,N,O,S⟩:=H;exact ⟨v,rfl,fun D I=>k v A w' D N O S I⟩
 | panicked c=>exact H.elim
 | outgrown=>exact H.elim
theorem Cs {f:FuncId} {args:List Operand} {H:Array TypeId} {vs:List Value} {Φ:Av→List Res→Value→Prop}
  (F:Fits n a e) (U:Ent P f) (hv:evs e args=some vs) (V:Nat.ble (d+1) n=true)
  (Y:Calls P f vs.toArray w (I5 w0 G Φ))
  (k:∀ v A D w' E,Gle G A→Mem w0 A D w'→Φ A D v→Fits n E ((d,v)::e)→rl P ops Q r E w') :
  rl P ops Q (⟨some d,.call ⟨.value (.func f),args.toArray,H⟩,t,p,af,none⟩::r) a w:=by
 refine Jo (caps:=[]) F U rfl hv V (by rw [List.append_nil];exact Y) fun x w' I=>?_
 cases x with
 | returned v=>obtain ⟨A,D,O,S,T⟩:=I;exact ⟨v,rfl,fun E N=>k v A D w' E O S T N⟩
 | panicked c=>exact I.elim
 | outgrown=>exact I.elim
end
def At (G:Av) (b o:Nat) (cs:List Value):Prop:=∀ (j:Nat) (v:Value),cs[j]?=some v→Ic G b (o+j)=some v
theorem At.mono {G A:Av} (h:Gle G A) {b o:Nat} {cs:List Value} (D:At G b o cs):At A b o cs:=fun j v E=>Nf h (D j v E)
abbrev Rd (α:Type):=Av→List Value→α→Prop
def Hx {α:Type} (rd:Rd α):Prop:=∀ G G' cs x,Gle G G'→rd G cs x→rd G' cs x
def Aj {α:Type} (rd:Rd α) (sz:Nat) (G:Av) (v:Value) (xs:List α):Prop :=
 ∃ a c,v=.slice a xs.length c∧xs.length≤c∧c≤9223372036854775807∧((c=0∧xs=[]) ∨
  ∃ b o,a=some ⟨b,o,none⟩∧∀ i x,xs[i]?=some x→∃ cs,cs.length=sz∧(∀ u∈cs,u.oneCell' = true)∧At G b (o+i * sz) cs∧rd G cs x)
theorem Aj.mono {α:Type} {rd:Rd α} {sz:Nat} {G E:Av} {v:Value} {xs:List α} (hm:Hx rd) (h:Gle G E) (Y:Aj rd sz G v xs):Aj rd sz E v xs:=by
 obtain ⟨a,c,H,I,N,D⟩:=Y;refine ⟨a,c,H,I,N,?_⟩
 rcases D with D | ⟨b,o,O,S⟩
 ·exact Or.inl D
 ·refine Or.inr ⟨b,o,O,fun i x hx=>?_⟩;obtain ⟨cs,T,A,U,V⟩:=S i x hx
  exact ⟨cs,T,A,U.mono h,hm _ _ _ _ h V⟩
theorem Aj.nil {α:Type} {rd:Rd α} {sz:Nat} {G:Av}:Aj rd sz G (.slice none 0 0) []:=⟨none,0,rfl,Nat.le_refl _,by omega,Or.inl ⟨rfl,rfl⟩⟩
theorem Aj.shape {α:Type} {rd:Rd α} {sz:Nat} {G:Av} {v:Value} {xs:List α} (H:Aj rd sz G v xs):∃ a c,v=.slice a xs.length c∧xs.length≤c∧c≤9223372036854775807:=by
 obtain ⟨a,c,A,D,E,_⟩:=H
 exact ⟨a,c,A,D,E⟩
theorem Aj.index {α:Type} {rd:Rd α} {sz:Nat} {G:Av} {a:Option Addr} {n c:Nat} {xs:List α} (T:Aj rd sz G (.slice a n c) xs) {i:Nat} {x:α} (D:xs[i]?=some x) :
  ∃ b o cs,a=some ⟨b,o,none⟩∧n=xs.length∧cs.length=sz∧At G b (o+i * sz) cs∧rd G cs x:=by
 obtain ⟨U,V,A,Y,h3,E⟩:=T;simp only [Value.slice.injEq] at A;obtain ⟨rfl,rfl,rfl⟩:=A
 rcases E with ⟨_,rfl⟩ | ⟨b,o,H,I⟩
 ·simp at D
 ·obtain ⟨cs,N,_,O,S⟩:=I i x D
  exact ⟨b,o,cs,H,rfl,N,O,S⟩
section
variable {P:Program} {ops:Array Oper} {Q:Exit→Act→World→Prop} {n:Nat} {a:Act} {w w0:World} {e:Env} {G:Av} {L:List Res}
 {d:Nat} {t:TypeId} {p:String} {af:Array Edge} {r:List Oper}
end
end Go.Y
namespace Go.Y
open Go Go.RowKit
def Els {α:Type} (rd:Rd α) (sz:Nat) (G:Av):List Value→List α→Prop
 | cs,[]=>cs=[]
 | cs,x::xs=>∃ c r,cs=c++r∧c.length=sz∧rd G c x∧Els rd sz G r xs
section
variable {α:Type} {rd:Rd α} {sz:Nat} {G G':Av} {cs cs':List Value} {xs ys:List α}
theorem Els.length:∀ {xs:List α} {cs:List Value},Els rd sz G cs xs→cs.length=xs.length * sz
 | [],cs,h=>by simp only [Els] at h;subst h;simp
 | x::xs,cs,h=>by
  obtain ⟨c,r,rfl,h1,_,h3⟩:=h;simp only [List.length_append,List.length_cons,h1,Els.length h3,Nat.add_mul,Nat.one_mul]
  omega
theorem Els.nil:Els rd sz G [] []:=rfl
theorem Els.one {x:α} (h:rd G cs x) (A:cs.length=sz):Els rd sz G cs [x]:=⟨cs,[],by simp,A,h,rfl⟩
theorem Els.append:∀ {xs:List α} {cs:List Value},Els rd sz G cs xs→Els rd sz G cs' ys→Els rd sz G (cs++cs') (xs++ys)
 | [],cs,h,h'=>by simp only [Els] at h;subst h;simpa using h'
 | x::xs,cs,h,h'=>by
  obtain ⟨c,r,rfl,h1,h2,h3⟩:=h
  exact ⟨c,r++cs',by simp,h1,h2,Els.append h3 h'⟩
theorem Els.mono (hm:Hx rd) (hg:Gle G G'):∀ {xs:List α} {cs:List Value},Els rd sz G cs xs→Els rd sz G' cs xs
 | [],cs,h=>h
 | x::xs,cs,h=>by
  obtain ⟨c,r,rfl,h1,h2,h3⟩:=h
  exact ⟨c,r,rfl,h1,hm _ _ _ _ hg h2,Els.mono hm hg h3⟩
theorem Els.get:∀ {xs:List α} {cs:List Value},Els rd sz G cs xs→∀ {i:Nat} {x:α},xs[i]?=some x→∃ l c r,cs=l++c++r∧l.length=i * sz∧c.length=sz∧rd G c x ∧
  ∀ c' x',c'.length=sz→rd G c' x'→Els rd sz G (l++c'++r) (xs.set i x')
 | [],cs,h,i,x,hx=>by simp at hx
 | y::xs,cs,h,i,x,hx=>by
  obtain ⟨c,r,rfl,h1,h2,h3⟩:=h
  cases i with
  | zero =>
   simp at hx
   subst hx
   exact ⟨[],c,r,by simp,by simp,h1,h2,fun c' x' hc hr=>⟨c',r,by simp,hc,hr,h3⟩⟩
  | succ i =>
   obtain ⟨l,c1,r1,rfl,h4,h5,h6,h7⟩:=Els.get h3 (i:=i) (x:=x) (by simpa using hx);refine ⟨c++l,c1,r1,by simp,by simp [h1,h4,Nat.add_mul];omega,h5,h6,fun c' x' hc hr=>?_⟩
   exact ⟨c,l++c'++r1,by simp,h1,h2,h7 c' x' hc hr⟩
end
theorem Aj.cells {α:Type} {rd:Rd α} {sz:Nat} {G:Av} {a:Option Addr} {n c:Nat} {xs:List α} (S:Aj rd sz G (.slice a n c) xs) :
    n=xs.length∧n≤c∧c≤9223372036854775807∧∃ news,Els rd sz G news xs∧(∀ u∈news,u.oneCell' = true) ∧
      ((c=0∧xs=[])∨∃ b o,a=some ⟨b,o,none⟩∧∀ (j:Nat) (u:Value),news[j]?=some u→Ic G b (o+j)=some u):=by
  obtain ⟨a',c',h1,h2,h3,h4⟩:=S;simp only [Value.slice.injEq] at h1;obtain ⟨rfl,rfl,rfl⟩:=h1;refine ⟨rfl,h2,h3,?_⟩
  rcases h4 with ⟨rfl,rfl⟩ | ⟨b,o,rfl,h6⟩
  · exact ⟨[],rfl,by simp,Or.inl ⟨rfl,rfl⟩⟩
  · have key : ∀ (m : Nat), m ≤ xs.length → ∃ news, Els rd sz G news (xs.drop (xs.length - m)) ∧ (∀ u ∈ news, u.oneCell' = true) ∧
        ∀ (j:Nat) (u:Value),news[j]?=some u→Ic G b (o+(xs.length - m) * sz+j)=some u:=by
      intro m
      induction m with
      | zero=>intro _;exact ⟨[],by simp [Els],by simp,by simp⟩
      | succ m ih =>
        intro hm;obtain ⟨news,I,Y,N⟩:=ih (by omega);have D:xs.length - (m+1) < xs.length:=by omega
        obtain ⟨cs,A,T,U,V⟩:=h6 (xs.length - (m+1)) xs[xs.length - (m+1)] (List.getElem?_eq_getElem D);refine ⟨cs++news,?_,?_,?_⟩
        · rw [List.drop_eq_getElem_cons D]
          refine ⟨cs,news,rfl,A,V,?_⟩;rw [show xs.length - (m+1)+1=xs.length - m by omega]
          exact I
        · intro u H
          rcases List.mem_append.1 H with H | H
          · exact T u H
          · exact Y u H
        · intro j u O
          rcases Nat.lt_or_ge j cs.length with E | aa
          · rw [List.getElem?_append_left E] at O
            exact U j u O
          · rw [List.getElem?_append_right aa] at O
            have:=N (j - cs.length) u O;rw [← this]
            congr 1
            have e1:xs.length - m=(xs.length - (m+1))+1:=by omega
            rw [e1,Nat.add_mul,Nat.one_mul,A]
            omega
    obtain ⟨news,I,Y,N⟩:=key xs.length (Nat.le_refl _);simp only [Nat.sub_self,List.drop_zero,Nat.zero_mul,Nat.add_zero] at I N
    exact ⟨news,I,Y,Or.inr ⟨b,o,rfl,N⟩⟩
theorem Aj.of_cells {α:Type} {rd:Rd α} {sz:Nat} {G:Av} {b o c:Nat} {xs:List α} {cs:List Value} (U:Els rd sz G cs xs) (N:∀ u∈cs,u.oneCell' = true)
  (V:∀ (j:Nat) (u:Value),cs[j]?=some u→Ic G b (o+j)=some u) (E:xs.length≤c) (Y:c≤9223372036854775807) :
  Aj rd sz G (.slice (some ⟨b,o,none⟩) xs.length c) xs:=by
 refine ⟨_,_,rfl,E,Y,Or.inr ⟨b,o,rfl,fun i x hx=>?_⟩⟩;obtain ⟨l,A,r,rfl,O,S,T,_⟩:=U.get hx;refine ⟨A,S,fun u hu=>N u (by simp [hu]),fun j v I=>?_,T⟩;have H:j < A.length:=by
  rcases Nat.lt_or_ge j A.length with D | D
  ·exact D
  ·simp [List.getElem?_eq_none D] at I
 have:=V (i * sz+j) v (by
  rw [List.append_assoc,List.getElem?_append_right (by omega),O,Nat.add_sub_cancel_left,List.getElem?_append_left H,I])
 rw [← this]
 congr 1
 omega
section
variable {P:Program} {w0 w:World} {G:Av} {L:List Res}
theorem Mem.nilrow (M:Mem w0 G L w) (t:TypeId) (sz:Nat):Mem w0 G (.row (.slice none 0 0) 0 [] t sz::L) w :=
 ⟨M.os,M.tape,M.output,M.grow,M.pers,
  fun x A=>by
   rcases List.mem_cons.1 A with rfl | A
   ·exact ⟨World.ownsRow_nil w 0 t sz,by simp⟩
   ·exact M.own x A,
  fun x A b D=>by
   rcases List.mem_cons.1 A with rfl | A
   ·simp [Res.foot,Value.ownBlock] at D
   ·exact M.free x A b D,
  List.pairwise_cons.2 ⟨fun y _ b D=>by simp [Res.foot,Value.ownBlock] at D,M.apart⟩⟩
theorem Mem.row_at (M:Mem w0 G L w) {k n:Nat} {v:Value} {cs:List Value} {t:TypeId} {sz:Nat} (A:L[k]?=some (.row v n cs t sz)) :
  w.ownsRow 0 t sz v n cs∧∀ u∈cs,u.oneCell' = true:=M.own _ (List.mem_of_getElem? A)
theorem Mem.newrow (M:Mem w0 G L w) {t:TypeId} {sz n c:Nat} {cs spare:List Value} (H:∀ u∈cs,u.oneCell' = true) (E:cs.length=n * sz) (N:(cs++spare).length=c * sz) (A:n≤c) (I:c≤maxLen) :
  Mem w0 G (.row (.slice (some ⟨w.heap.size,0,none⟩) n c) n cs t sz::L) { w with heap:=w.heap.push (.cells (cs++spare).toArray t (0,0)) }:=by
 have D:=M.new (.cells (cs++spare).toArray t (0,0));refine D.swap_head (x:=.obj w.heap.size _) rfl ?_ rfl rfl rfl rfl (fun _ _=>rfl);refine ⟨⟨E,Or.inr ⟨w.heap.size,c,(cs++spare).toArray,rfl,Nat.zero_le _,?_,A,I,by simpa using N,?_⟩⟩,H⟩
 ·exact D.own (.obj w.heap.size _) (by simp)
 ·rw [← E];simp
theorem Mem.append (M:Mem w0 G L w) {k n:Nat} {v:Value} {cs:List Value} {t ty e:TypeId} {i:TI} (hk:L[k]?=some (.row v n cs e i.size)) (ht:tk P t=.slice e) (hi:TOK P e i) (hz:i.zero.cells.size=i.size) (hs:0 < i.size)
  {ad:Addr} {m c:Nat} {news:List Value} (hl:news.length=m * i.size) (D:∀ j u,news[j]?=some u→w.cell? (ad.add j)=some u) (h1:∀ u∈news,u.oneCell' = true)
  (aa:n+m≤maxLen) (A:(n+m) * i.bytes≤140737488355328) :
  ∃ v' w',(Builtin.append_ #[t,t] ty #[v,.slice (some ad) m c]).run P w=.ok v' w'∧Mem w0 G (L.set k (.row v' (n+m) (cs++news) e i.size)) w':=by
 obtain ⟨x,O,S,U,V⟩:=hi.info;obtain ⟨E,h2⟩:=M.row_at hk;have N:=Df ht;obtain ⟨v',w',H,ho,hg,_⟩:=run_append_own (P:=P) w 0 t ty e x i.zero i.size i.bytes N O V S U hz hs v n cs E ad m c news hl D h1 aa A (Nat.zero_le _);refine ⟨v',w',H,M.grow_at hk ?_ ⟨ho,fun u N=>?_⟩ hg.os hg.tape hg.output hg.size (fun b Y ac=>hg.block b Y (fun e=>ac e.symm))⟩
 ·intro b Y;have ab:((n+m:Nat):Int)≤9223372036854775807:=by simp only [maxLen] at aa;omega
  rcases E.2 with ⟨rfl,rfl⟩ | ⟨g,T,ag,rfl,ah,ak,al,ai,aj,ae⟩
  ·by_cases hm:m=0
   ·subst hm;have hn:news=[]:=List.eq_nil_of_length_eq_zero (by simpa using hl);subst hn;have:(Builtin.append_ #[t,t] ty #[.slice none 0 0,.slice (some ad) 0 c]).run P w=.ok (.slice none 0 0) w:=by
     simp [Builtin.append_,run_underlying N,sizeOf,typeInfo,O,Builtin.lenOf,Builtin.firstCells,loadCells,loadCellsFrom]
    rw [this] at H;simp only [Result.ok.injEq] at H;obtain ⟨rfl,rfl⟩:=H
    simp [Res.foot,Value.ownBlock] at Y
   ·have I:=run_append_nil (P:=P) w t ty e x i.zero N O V ad m c news (by rw [S];exact hl) D (by omega) (by omega) (by rw [U];simp only [Nat.zero_add] at A;omega);rw [I] at H;simp only [Result.ok.injEq] at H;obtain ⟨rfl,rfl⟩:=H;simp only [Res.foot,Value.ownBlock,Option.some.injEq] at Y
    right;omega
  ·by_cases hroom:n+m≤T
   ·obtain ⟨w2,I,_⟩:=run_append_fits (P:=P) w 0 t ty e x i.size N O S g n T cs E ad m c news hl D h1 hroom;rw [I] at H;simp only [Result.ok.injEq] at H;obtain ⟨rfl,rfl⟩:=H
    left;exact Y
   ·have holds:=E.cells (g:=g) rfl;have I:=run_append_grow (P:=P) w t ty e x i.zero N O V ⟨g,0,none⟩ n T cs (by rw [S];exact E.1) holds ad m c news (by rw [S];exact hl) D (by omega) ab
     (by rw [U];exact growslice_fits (by omega) A)
    rw [I] at H;simp only [Result.ok.injEq] at H;obtain ⟨rfl,rfl⟩:=H;simp only [Res.foot,Value.ownBlock,Option.some.injEq] at Y
    right;omega
 ·rcases List.mem_append.1 N with N | N
  ·exact h2 u N
  ·exact h1 u N
theorem Mem.append_none (M:Mem w0 G L w) {k n:Nat} {v:Value} {cs:List Value} {t ty e:TypeId} {i:TI} (E:L[k]?=some (.row v n cs e i.size)) (H:tk P t=.slice e) (D:TOK P e i) :
  (Builtin.append_ #[t,t] ty #[v,.slice none 0 0]).run P w=.ok v w:=by
 obtain ⟨x,A,I,_⟩:=D.info
 exact run_append_owned_none (P:=P) (w:=w) 0 t ty e x i.size (Df H) A v n cs (M.row_at E).1
theorem Mem.fZ {α:Type} {rd:Rd α} (hm:Hx rd) (M:Mem w0 G L w) {k n:Nat} {v:Value} {cs:List Value} {t:TypeId} {sz:Nat} (hk:L[k]?=some (.row v n cs t sz)) {xs:List α} (hE:Els rd sz G cs xs) (hs:0 < sz) :
  n=xs.length∧∃ O a c,Gle G O∧v=.slice a xs.length c∧Aj rd sz O v xs∧Mem w0 O (L.eraseIdx k) w:=by
 obtain ⟨⟨hl,h2⟩,h1⟩:=M.row_at hk;have hn:n=xs.length:=by
  have:=hE.length;rw [hl] at this
  exact Nat.eq_of_mul_eq_mul_right hs this
 refine ⟨hn,?_⟩;subst hn;have I:=M.perm (Ah L k _ hk)
 rcases h2 with ⟨rfl,h0⟩ | ⟨g,E,S,rfl,_,hg,aa,U,ac,D⟩
 ·have:xs=[]:=List.eq_nil_of_length_eq_zero h0;subst this
  exact ⟨G,none,0,Gle.refl G,rfl,Aj.nil,M.wn (List.eraseIdx_sublist _ _)⟩
 ·have hb:G g=none:=I.free (.row (.slice (some ⟨g,0,none⟩) xs.length E) xs.length cs t sz) (by simp) g rfl;have H:=List.pairwise_cons.1 I.apart;refine ⟨fun r=>if r=g then some (.cells S t (0,0)) else G r,some ⟨g,0,none⟩,E,?_,rfl,?_,?_⟩
  ·intro r o A
   by_cases h:r=g
   ·subst h;rw [hb] at A;cases A
   ·simp [h,A]
  ·refine Aj.of_cells (cs:=cs) (hE.mono hm ?_) h1 ?_ aa (by simpa [maxLen] using U)
   ·intro r o A
    by_cases h:r=g
    ·subst h;rw [hb] at A;cases A
    ·simp [h,A]
   ·intro j u V;have Y:j < xs.length * sz:=by
     rw [← hl]
     rcases Nat.lt_or_ge j cs.length with T | T
     ·exact T
     ·simp [List.getElem?_eq_none T] at V
    rw [← D,List.getElem?_take,if_pos Y] at V;simp only [Ic,if_true,Nat.zero_add]
    simpa using V
  ·refine ⟨M.os,M.tape,M.output,M.grow,?_,?_,?_,H.2⟩
   ·intro r o A
    by_cases h:r=g
    ·subst h;simp at A;subst A;exact hg
    ·simp only [h,if_false] at A;exact M.pers r o A
   ·exact fun x N=>I.own x (by simp [N])
   ·intro x N c hc;have ab:c≠g:=fun e=>H.1 x N g rfl (e ▸ hc);simp only [ab,if_false]
    exact I.free x (by simp [N]) c hc
end
end Go.Y
namespace Go.Y
open Go Go.RowKit
section
variable {P:Program} {ops:Array Oper} {Q:Exit→Act→World→Prop} {n:Nat} {a:Act} {w w0:World} {e:Env} {G:Av} {L:List Res}
 {d:Nat} {t:TypeId} {p:String} {af:Array Edge} {r:List Oper}
theorem Oa {et:TypeId} {i:TI} {cs:List Value} (F:Fits n a e) (M:Mem w0 G L w) (H:TOK P et i) (I:i.zero.cells=cs.toArray) (E:Nat.ble (d+1) n=true)
  (k:∀ b w' A,Mem w0 G (.blk b cs et::L) w'→Fits n A ((d,.pointer (some ⟨b,0,none⟩))::e)→rl P ops Q r A w'):rl P ops Q (⟨some d,.alloc et,t,p,af,none⟩::r) a w:=by
 refine Bo F (Aqo H) E fun A D=>k w.heap.size _ A ?_ D;have:=M.new (.cells i.zero.cells et (0,0));rw [I] at this ⊢
 exact this.swap_head (x:=.obj _ _) rfl (this.own (.obj _ _) (by simp)) rfl rfl rfl rfl (fun _ _=>rfl)
theorem rl_box {et:TypeId} {x:Operand} {v:Value} {cs:List Value} (F:Fits n a e) (M:Mem w0 G L w) (I:ev e x=some v) (E:v.cells=cs.toArray) (H:Nat.ble (d+1) n=true)
  (k:∀ b w' A,Mem w0 G (.blk b cs et::L) w'→Fits n A ((d,.pointer (some ⟨b,0,none⟩))::e)→rl P ops Q r A w'):rl P ops Q (⟨some d,.box et x,t,p,af,none⟩::r) a w:=by
 refine Bo F (run_box (F.ev I)) H fun A D=>k w.heap.size _ A ?_ D;have:=M.new (.cells v.cells et (0,0));rw [E] at this ⊢
 exact this.swap_head (x:=.obj _ _) rfl (this.own (.obj _ _) (by simp)) rfl rfl rfl rfl (fun _ _=>rfl)
theorem Pd {et:TypeId} {i:TI} {x y:Operand} {v H:Value} {k b o:Nat} {cs:List Value} {I:TypeId} (F:Fits n a e) (M:Mem w0 G L w) (U:TOK P et i) (S:i.size=1)
  (E:L[k]?=some (.blk b cs I)) (V:ev e x=some (.pointer (some ⟨b,o,none⟩))) (Y:ev e y=some v) (N:v.oneCell' = true) (T:cs[o]?=some H)
  (kk:∀ w' A,Mem w0 G (L.set k (.blk b (cs.set o v) I)) w'→Fits n A e→rl P ops Q r A w'):rl P ops Q (⟨none,.store et x y,t,p,af,none⟩::r) a w:=by
 refine Pe F (Ql U S (F.ev V) (F.ev Y) ?_ ?_ ?_ (M.cellL E T) (M.frozenL E o)) fun A O=>kk _ A (M.set E o v) O
 ·cases v <;> simp_all [Value.cells,Value.oneCell']
 ·intro c D;subst D;simp [Value.oneCell'] at N
 ·intro c D;subst D;simp [Value.oneCell'] at N
theorem Acd {ρ:Operand→Value} {dd:Option Tmp} {g:Option (Nat × Bool)} {s et:TypeId} {i:TI} {x:Operand} {O H:Option Operand} {ad:Option Addr} {m c l h:Nat} {kl kh:IntKind} {zl zh:Int}
  (U:tk P s=.slice et) (I:TOK P et i) (N:ρ x=.slice ad m c)
  (E:match O with | none=>l=0 | some y=>ρ y=.int kl zl∧zl=(l:Int)) (A:match H with | none=>h=m | some y=>ρ y=.int kh zh∧zh=(h:Int)) (S:l≤h) (T:h≤c) :
  (execOp ρ ⟨dd,.slice s x O H none,t,p,af,g⟩).run P w=.ok (.value (.slice (if c=l then ad else ad.map (·.add (l * i.size))) (h - l) (c - l))) w:=by
 have D:=B9 (w:=w) (Df U);have V:(l:Int)≤(h:Int):=by omega
 have Y:(h:Int)≤(c:Int):=by omega
 cases O with
 | none =>
  simp only at E;subst E
  cases H with
  | none =>
   simp only at A;subst A
   simp [execOp,Instr.sliceAt,D,Instr.slice,N,Instr.sliceBounds,I.sizeOf]
  | some y =>
   obtain ⟨A,rfl⟩:=A
   simp [execOp,Instr.sliceAt,D,Instr.slice,N,Instr.sliceBounds,I.sizeOf,Instr.sliceBound,A,asIntOf,T]
 | some z =>
  obtain ⟨E,rfl⟩:=E
  cases H with
  | none =>
   simp only at A;subst A
   simp [execOp,Instr.sliceAt,D,Instr.slice,N,Instr.sliceBounds,I.sizeOf,Instr.sliceBound,E,asIntOf,S]
  | some y =>
   obtain ⟨A,rfl⟩:=A
   simp [execOp,Instr.sliceAt,D,Instr.slice,N,Instr.sliceBounds,I.sizeOf,Instr.sliceBound,E,A,asIntOf,S,T]
theorem Aj.sub {α:Type} {rd:Rd α} {sz:Nat} {ad:Option Addr} {m c l h:Nat} {xs:List α} (S:Aj rd sz G (.slice ad m c) xs) (h1:l≤h) (Y:h≤xs.length) :
  ∃ E,(if c=l then ad else ad.map (·.add (l * sz)))=E∧Aj rd sz G (.slice E (h - l) (c - l)) ((xs.take h).drop l):=by
 refine ⟨_,rfl,?_⟩;obtain ⟨E,c',H,e2,e3,N⟩:=S;simp only [Value.slice.injEq] at H;obtain ⟨rfl,rfl,rfl⟩:=H;have A:((xs.take h).drop l).length=h - l:=by simp;omega
 refine ⟨_,c - l,by rw [A],by rw [A];omega,by omega,?_⟩
 rcases N with ⟨rfl,rfl⟩ | ⟨b,o,rfl,O⟩
 ·left
  have:h=0:=by simpa using Y
  subst this;refine ⟨by omega,by simp⟩
 ·right
  by_cases hcl:c=l
  ·subst hcl;simp only [if_true];refine ⟨b,o,rfl,fun i x D=>?_⟩;have:((xs.take h).drop c)[i]?=none:=by
    rw [List.getElem?_eq_none]
    omega
   rw [this] at D
   cases D
  ·simp only [hcl,if_false,Option.map_some,Fv];refine ⟨b,o+l * sz,rfl,fun i x D=>?_⟩;rw [List.getElem?_drop,List.getElem?_take] at D
   split at D
   ·obtain ⟨cs,T,U,I,V⟩:=O (l+i) x D;refine ⟨cs,T,U,?_,V⟩;rw [Nat.add_mul] at I;rw [Nat.add_assoc]
    exact I
   ·cases D
theorem Gb {ρ:Operand→Value} {dd:Option Tmp} {g:Option (Nat × Bool)} {s:TypeId} {x y:Operand} {v u A:Value} {w':World} (D:ρ x=v) (E:ρ y=u)
  (h:(Builtin.append_ #[s,s] t #[v,u]).run P w=.ok A w'):(execOp ρ ⟨dd,.call ⟨.builtin .append,#[x,y],#[s,s]⟩,t,p,af,g⟩).run P w=.ok (.value A) w':=by
 simp [execOp,resolve,invoke,builtin,D,E,h]
theorem Kc {α:Type} {rd:Rd α} {sz:Nat} {s et:TypeId} {i:TI} {x y:Operand} {v:Value} {k m:Nat} {cs:List Value} {ad:Option Addr} {m' c:Nat} {xs:List α}
  (F:Fits n a e) (M:Mem w0 G L w) (E:L[k]?=some (.row v m cs et sz)) (hs:tk P s=.slice et) (ht:TOK P et i) (hz:i.zero.cells.size=i.size) (ab:i.size=sz) (D:0 < sz)
  (hx:ev e x=some v) (S:Aj rd sz G (.slice ad m' c) xs) (hy:ev e y=some (.slice ad m' c))
  (hb:(m+xs.length) * i.bytes≤140737488355328) (aa:m+xs.length≤9223372036854775807) (hd:Nat.ble (d+1) n=true)
  (kk:∀ H N w' A,Mem w0 G (L.set k (.row H (m+xs.length) (cs++N) et sz)) w'→Els rd sz G N xs→Fits n A ((d,H)::e)→rl P ops Q r A w') :
  rl P ops Q (⟨some d,.call ⟨.builtin .append,#[x,y],#[s,s]⟩,t,p,af,none⟩::r) a w:=by
 subst ab;obtain ⟨rfl,h2,h3,news,U,h5,Y⟩:=S.cells
 rcases Y with ⟨rfl,rfl⟩ | ⟨b,o,rfl,Y⟩
 ·simp only [Els] at U;subst U
  rcases ad with _ | ad
  rotate_left
  ·obtain ⟨H,w',O,V⟩:=M.append (P:=P) (ty:=t) (t:=s) E hs ht hz D (ad:=ad) (m:=0) (c:=0) (news:=[]) (by simp) (by simp) (by simp) (by simp only [maxLen];simpa using aa) (by simpa using hb)
   exact Bo F (Gb (F.ev hx) (F.ev hy) O) hd fun A I=>kk H [] w' A V rfl I
  have O:=M.append_none (P:=P) (t:=s) (ty:=t) E hs ht;refine Bo F (Gb (F.ev hx) (F.ev hy) O) hd fun A I=>kk v [] w A ?_ rfl I;have T:L.set k (.row v (m+([]:List α).length) (cs++[]) et i.size)=L:=by
   simp only [List.length_nil,Nat.add_zero,List.append_nil]
   apply List.ext_getElem?
   intro j;rw [List.getElem?_set]
   split
   ·rename_i hj;subst hj;split
    ·rw [E]
    ·rename_i ac;rw [List.getElem?_eq_none (by omega)] at E;cases E
   ·rfl
  rw [T];exact M
 ·obtain ⟨H,w',O,V⟩:=M.append (P:=P) (ty:=t) (t:=s) E hs ht hz D (ad:=⟨b,o,none⟩) (m:=xs.length) (c:=c) (news:=news) U.length
   (fun j u hj=>by rw [Fv];exact M.cell (Y j u hj)) h5 (by simp only [maxLen];omega) hb
  exact Bo F (Gb (F.ev hx) (F.ev hy) O) hd fun A I=>kk H news w' A V U I
theorem A4 {s et:TypeId} {i:TI} {x y:Operand} {v u:Value} {k k2 m N sz:Nat} {cs A:List Value}
  (F:Fits n a e) (M:Mem w0 G L w) (E:L[k]?=some (.row v m cs et sz)) (V:L[k2]?=some (.row u N A et sz)) (hs:tk P s=.slice et) (ht:TOK P et i) (hz:i.zero.cells.size=i.size) (aa:i.size=sz) (H:0 < sz)
  (hx:ev e x=some v) (hy:ev e y=some u)
  (hb:(m+N) * i.bytes≤140737488355328) (ae:m+N≤9223372036854775807) (hd:Nat.ble (d+1) n=true)
  (kk:∀ S w' D,Mem w0 G (L.set k (.row S (m+N) (cs++A) et sz)) w'→Fits n D ((d,S)::e)→rl P ops Q r D w') :
  rl P ops Q (⟨some d,.call ⟨.builtin .append,#[x,y],#[s,s]⟩,t,p,af,none⟩::r) a w:=by
 subst aa;obtain ⟨O,h1⟩:=M.row_at V
 rcases O.2 with ⟨rfl,rfl⟩ | ⟨g,U,ac,rfl,ag,aj,al,ah,ai,ab⟩
 ·have h0:A=[]:=List.eq_nil_of_length_eq_zero (by simpa using O.1);subst h0;have Y:=M.append_none (P:=P) (t:=s) (ty:=t) E hs ht;refine Bo F (Gb (F.ev hx) (F.ev hy) Y) hd fun D T=>kk v w D ?_ T;have I:L.set k (.row v (m+0) (cs++[]) et i.size)=L:=by
   simp only [Nat.add_zero,List.append_nil]
   apply List.ext_getElem?
   intro j;rw [List.getElem?_set]
   split
   ·rename_i hj;subst hj;split
    ·rw [E]
    ·rename_i ak;rw [List.getElem?_eq_none (by omega)] at E;cases E
   ·rfl
  rw [I];exact M
 ·obtain ⟨S,w',Y,M'⟩:=M.append (P:=P) (ty:=t) (t:=s) E hs ht hz H (ad:=⟨g,0,none⟩) (m:=N) (c:=U) (news:=A) O.1
   (O.cells (g:=g) rfl) h1 (by simp only [maxLen];omega) hb
  exact Bo F (Gb (F.ev hx) (F.ev hy) Y) hd fun D T=>kk S w' D M' T
theorem Kl {ρ:Operand→Value} {dd:Option Tmp} {g:Option (Nat × Bool)} {s et:TypeId} {i:TI} {D:Nat} {A:Array (Nat × Operand)} {cs:List Value}
  (U:tk P s=.slice et) (S:TOK P et i) (T:D * i.size≤16777216)
  (I:Instr.fill (fun j=>some (j * i.size,i.size)) ((Array.range (D * i.size)).map (i.zero.cells[· % i.zero.cells.size]!)) (A.map fun (j,x)=>(j,ρ x)).toList=some cs.toArray) :
  (execOp ρ ⟨dd,.buildSlice s D A,t,p,af,g⟩).run P w=.ok (.value (.slice (some ⟨w.heap.size,0,none⟩) D D)) { w with heap:=w.heap.push (.cells cs.toArray et (0,0)) }:=by
 have V:¬ (16777216 < D * i.size):=by omega
 by_cases h0:D * i.size=0
 ·have E:(Array.range 0).map (i.zero.cells[· % i.zero.cells.size]!) = #[]:=Array.eq_empty_of_size_eq_zero (by simp);have H:(Array.range 0).map (fun _=>(default:Value)) = #[]:=Array.eq_empty_of_size_eq_zero (by simp);have N:Instr.fill (fun j=>some (j * i.size,i.size)) #[] (A.map fun (j,x)=>(j,ρ x)).toList=some cs.toArray:=by
   rw [h0,E] at I
   exact I
  simp only [execOp,Instr.buildSlice,Sem.run_bind,B9 (Df U),Result.andThen_ok,S.sizeOf];simp only [show (2:Nat) ^ 24=16777216 from rfl,gt_iff_lt,h0,if_true,Sem.run_pure];have O:Instr.fill (fun j=>some (j * i.size,i.size)) (Array.map (fun _=>(default:Value)) (Array.range 0)) (List.map (fun x=>(x.fst,ρ x.snd)) A.toList)=some cs.toArray:=by
   rw [H];simpa using N
  simp [newRow,newObj,Sem.run,O]
 ·simp only [execOp,Instr.buildSlice,Sem.run_bind,B9 (Df U),Result.andThen_ok,S.sizeOf];simp only [show (2:Nat) ^ 24=16777216 from rfl,gt_iff_lt,V,if_false,h0,Sem.run_bind,S.zeroValue,Sem.run_pure,Result.andThen_ok,I]
  simp [newRow,newObj,Sem.run]
theorem Auq (l:List Value):∀ (k:Nat) (A:Array Value),k+l.length≤A.size→∀ j,((l.zipIdx k).foldl (fun (cs:Array Value) (E:Value × Nat)=>cs.setIfInBounds E.2 E.1) A)[j]?=if j < k then A[j]? else if j < k+l.length then l[j - k]? else A[j]?:=by
 induction l with
 | nil=>intro k A _ j;simp;intro D H;omega
 | cons c l ih =>
  intro k A S j;simp only [List.length_cons] at S;simp only [List.zipIdx_cons,List.foldl_cons];rw [ih (k+1) _ (by simp;omega)];simp only [List.length_cons,Array.getElem?_setIfInBounds]
  by_cases D:j < k
  ·simp [D,show j < k+1 by omega,show ¬ k=j by omega]
  ·by_cases H:j=k
   ·subst H
    simp [show j < A.size by omega]
   ·have I:¬ j < k+1:=by omega
    have N:¬ k=j:=by omega
    simp only [D,I,N,if_false];have O:j - k=(j - (k+1))+1:=by omega
    by_cases h6:j < k+1+l.length
    ·simp [h6,show j < k+(l.length+1) by omega,O]
    ·simp [h6,show ¬ j < k+(l.length+1) by omega]
theorem Azz {v:Value} {cs:List Value} {zs:Array Value} {sz:Nat} (E:v.cells=cs.toArray) (D:cs.length=sz) (H:zs.size=sz) :
  Instr.fill (fun j=>some (j * sz,sz)) zs [(0,v)]=some cs.toArray:=by
 have h:(cs.toArray.zipIdx.foldl (fun (cs:Array Value) (A:Value × Nat)=>cs.setIfInBounds (0 * sz+A.2) A.1) zs)=cs.toArray:=by
  apply Array.ext_getElem?
  intro j;have:=Auq cs 0 zs (by omega) j;rw [← Array.foldl_toList];simp only [Array.toList_zipIdx];simp only [Nat.zero_mul,Nat.zero_add] at *;simp only [Nat.not_lt_zero,if_false,Nat.sub_zero] at this;rw [this]
  by_cases hj:j < cs.length
  ·simp [hj]
  ·simp [hj,show ¬ j < zs.size by omega]
 simp only [Instr.fill,E,List.size_toArray,D,H];simp only [ne_eq,not_true_eq_false,decide_false,Nat.zero_mul,Nat.zero_add,gt_iff_lt,Nat.lt_irrefl,Bool.or_self,Bool.false_eq_true,if_false];simp only [Nat.zero_mul] at h
 exact congrArg some (by simpa using h)
theorem Wh {s et:TypeId} {i:TI} (F:Fits n a e) (M:Mem w0 G L w) (H:tk P s=.slice et) (I:TOK P et i) (E:Nat.ble (d+1) n=true)
  (k:∀ v w' A,Mem w0 G (.row v 0 [] et i.size::L) w'→Fits n A ((d,v)::e)→rl P ops Q r A w') :
  rl P ops Q (⟨some d,.buildSlice s 0 #[],t,p,af,none⟩::r) a w:=by
 refine Bo F (Kl (cs:=[]) H I (by omega) (by simp [Instr.fill])) E fun A D=>k _ _ A ?_ D
 exact M.newrow (cs:=[]) (spare:=[]) (n:=0) (c:=0) (by simp) (by simp) (by simp) (Nat.le_refl _) (by simp [maxLen])
theorem Ar {s et:TypeId} {i:TI} {x:Operand} {v:Value} {cs:List Value} (F:Fits n a e) (M:Mem w0 G L w) (N:tk P s=.slice et) (S:TOK P et i) (V:i.zero.cells.size=i.size) (U:ev e x=some v) (T:v.cells=cs.toArray)
  (D:cs.length=i.size) (H:∀ u∈cs,u.oneCell' = true) (O:i.size≤16777216) (I:Nat.ble (d+1) n=true)
  (k:∀ v w' A,Mem w0 G (.row v 1 cs et i.size::L) w'→Fits n A ((d,v)::e)→rl P ops Q r A w') :
  rl P ops Q (⟨some d,.buildSlice s 1 #[(0,x)],t,p,af,none⟩::r) a w:=by
 refine Bo F (Kl (cs:=cs) N S (by omega) ?_) I fun A E=>k _ _ A ?_ E
 ·simp only [List.map_toArray,List.map_cons,List.map_nil,F.ev U]
  exact Azz T D (by simp)
 ·have:=M.newrow (t:=et) (sz:=i.size) (cs:=cs) (spare:=[]) (n:=1) (c:=1) H (by simpa using D) (by simpa using D) (Nat.le_refl _) (by simp [maxLen]);rw [List.append_nil] at this
  exact this
end
end Go.Y
namespace Go.Y
open Go Go.RowKit
section
variable {P:Program} {w0 w:World} {G G':Av} {L:List Res}
theorem Mem.rS (M:Mem w0 G L w) {k n:Nat} {v:Value} {cs:List Value} {t:TypeId} {sz:Nat} (S:L[k]?=some (.row v n cs t sz)) :
  ∃ a c,v=.slice a n c∧n≤c∧c≤9223372036854775807∧cs.length=n * sz:=by
 obtain ⟨⟨H,O⟩,_⟩:=M.row_at S
 rcases O with ⟨rfl,N⟩ | ⟨g,A,I,rfl,_,_,E,D,_,_⟩
 ·subst N;exact ⟨none,0,rfl,Nat.le_refl _,by omega,H⟩
 ·exact ⟨_,A,rfl,E,by simpa [maxLen] using D,H⟩
theorem Mem.row_some (M:Mem w0 G L w) {k n c:Nat} {ad:Option Addr} {cs:List Value} {t:TypeId} {sz:Nat} (N:L[k]?=some (.row (.slice ad n c) n cs t sz)) (O:0 < n) :
  ∃ b,ad=some ⟨b,0,none⟩:=by
 obtain ⟨⟨S,I⟩,_⟩:=M.row_at N
 rcases I with ⟨_,H⟩ | ⟨g,D,E,A,_⟩
 ·omega
 ·simp only [Value.slice.injEq] at A
  exact ⟨g,A.1⟩
theorem Mem.row_cell (M:Mem w0 G L w) {k n c b:Nat} {cs:List Value} {t:TypeId} {sz:Nat} (I:L[k]?=some (.row (.slice (some ⟨b,0,none⟩) n c) n cs t sz)) {q:Nat} {v:Value} (H:cs[q]?=some v) :
  w.cell? ⟨b,q,none⟩=some v:=by
 obtain ⟨E,_⟩:=M.row_at I;have D:q < cs.length:=by
  rcases Nat.lt_or_ge q cs.length with A | A
  ·exact A
  ·simp [List.getElem?_eq_none A] at H
 rw [E.cellAt q (by rw [← E.1];exact D),H]
theorem Mem.set_row (M:Mem w0 G L w) {k n c b:Nat} {cs:List Value} {t:TypeId} {sz:Nat} (A:L[k]?=some (.row (.slice (some ⟨b,0,none⟩) n c) n cs t sz)) (q:Nat) {u:Value} (N:u.oneCell' = true) :
  Mem w0 G (L.set k (.row (.slice (some ⟨b,0,none⟩) n c) n (cs.set q u) t sz)) (w.setCell ⟨b,q,none⟩ u):=by
 obtain ⟨H,D⟩:=M.row_at A;obtain ⟨E,S⟩:=H.stored q u;refine M.swap_at A rfl ⟨E,fun v O=>?_⟩ rfl rfl rfl (by simp [World.setCell]) ?_
 ·rcases List.mem_or_eq_of_mem_set O with h | h
  ·exact D v h
  ·subst h;exact N
 ·intro r I
  exact Ku (fun e=>I (by simp [Res.foot,Value.ownBlock,e]))
def over:List Value→Nat→List Value→List Value
 | cs,_,[]=>cs
 | cs,q,u::us=>over (cs.set q u) (q+1) us
theorem Axk (us:List Value):∀ (l c r:List Value),c.length=us.length→over (l++c++r) l.length us=l++us++r:=by
 induction us with
 | nil=>intro l c r h;have:c=[]:=List.eq_nil_of_length_eq_zero (by simpa using h);subst this;simp [over]
 | cons u us ih =>
  intro l c r h
  match c,h with
  | x::c,h =>
   simp only [over];have A:(l++x::c++r).set l.length u=(l++[u])++c++r:=by
    simp
   rw [A,show l.length+1=(l++[u]).length by simp,ih (l++[u]) c r (by simpa using h)]
   simp
theorem Afe {α:Type} {L:List α} {k:Nat} {x:α} (A:L[k]?=some x):L.set k x=L:=by
 apply List.ext_getElem?
 intro j;rw [List.getElem?_set]
 split
 ·rename_i D
  subst D
  split
  ·rw [A]
  ·rename_i E
   rw [List.getElem?_eq_none (by omega)] at A
   cases A
 ·rfl
theorem N4 {a:Addr} {v A:Value} (H:v.oneCell' = true) (D:w.cell? a=some A) (E:w.frozen? a=false):(store a v).run P w=.ok () (w.setCell a v):=by
 unfold store
 cases v <;> simp_all [Sem.run,Value.oneCell']
theorem Mem.store_row {us:List Value}:∀ {w:World} {L:List Res},(M:Mem w0 G L w)→∀ {k n c b:Nat} {cs:List Value} {t:TypeId} {sz:Nat} (_:L[k]?=some (.row (.slice (some ⟨b,0,none⟩) n c) n cs t sz)) (o i:Nat)
  (_:∀ u∈us,u.oneCell' = true) (_:o+i+us.length≤cs.length),
  ∃ w',(storeCells ⟨b,o,none⟩ us i).run P w=.ok () w'∧Mem w0 G (L.set k (.row (.slice (some ⟨b,0,none⟩) n c) n (over cs (o+i) us) t sz)) w':=by
 induction us with
 | nil =>
  intro w L M k n c b cs t sz D o i H A;refine ⟨w,by simp [storeCells],?_⟩;simp only [over];rw [Afe D]
  exact M
 | cons u us ih =>
  intro w L M k n c b cs t sz D o i H A;simp only [List.length_cons] at A;have N:w.frozen? ⟨b,o+i,none⟩=false:=(M.row_at D).1.frozenAt _;have U:w.cell? ⟨b,o+i,none⟩=some cs[o+i]:=M.row_cell D (List.getElem?_eq_getElem (by omega));have T:=M.set_row D (o+i) (H u (by simp));have O:(L.set k (.row (.slice (some ⟨b,0,none⟩) n c) n (cs.set (o+i) u) t sz))[k]?=some (.row (.slice (some ⟨b,0,none⟩) n c) n (cs.set (o+i) u) t sz):=by
   rw [List.getElem?_set];have S:k < L.length:=by
    rcases Nat.lt_or_ge k L.length with I | I
    ·exact I
    ·simp [List.getElem?_eq_none I] at D
   simp [S]
  obtain ⟨w',V,E⟩:=ih T O o (i+1) (fun v Y=>H v (by simp [Y])) (by simp;omega);refine ⟨w',?_,?_⟩
  ·simp only [storeCells,Sem.run_bind,Fv,N4 (H u (by simp)) U N,Result.andThen_ok]
   exact V
  ·rw [List.set_set] at E
   exact E
end
section
variable {P:Program} {ops:Array Oper} {Q:Exit→Act→World→Prop} {n:Nat} {a:Act} {w w0:World} {e:Env} {G:Av} {L:List Res}
 {d:Nat} {t:TypeId} {p:String} {af:Array Edge} {r:List Oper}
theorem Afq {et D:TypeId} {i:TI} {x y:Operand} {v:Value} {k m c b o sz:Nat} {cs us:List Value} (F:Fits n a e) (M:Mem w0 G L w) (T:TOK P et i)
  (N:L[k]?=some (.row (.slice (some ⟨b,0,none⟩) m c) m cs D sz)) (Y:ev e x=some (.pointer (some ⟨b,o,none⟩))) (hy:ev e y=some v) (V:v.cells=us.toArray) (O:us.length=i.size)
  (U:∀ u∈us,u.oneCell' = true) (E:o+us.length≤cs.length)
  (kk:∀ w' A,Mem w0 G (L.set k (.row (.slice (some ⟨b,0,none⟩) m c) m (over cs o us) D sz)) w'→Fits n A e→rl P ops Q r A w'):rl P ops Q (⟨none,.store et x y,t,p,af,none⟩::r) a w:=by
 obtain ⟨w',S,I⟩:=M.store_row (P:=P) (us:=us) N o 0 U (by omega);refine Pe F (w':=w') ?_ fun A H=>kk w' A (by simpa using I) H;simp only [execOp,F.ev Y,F.ev hy,Instr.storeAt,Instr.sureAddr,storeVar,Sem.run_bind,Sem.run_pure,Result.andThen_ok,T.sizeOf,V]
 simp [O,S]
theorem Ajr (A:List Field):(∀ f∈A,P.cellsOf f.type≠0)→(A.mapM fun f=>do pure (f.offset,← sizeOf f.type):Sem (List (Nat × Nat))).run P w=.ok (A.map fun f=>(f.offset,P.cellsOf f.type)) w:=by
 induction A with
 | nil=>intro _;simp
 | cons f A ih =>
  intro h;have H:=h f (by simp);have S:∃ i,P.info? f.type=some i∧i.size=P.cellsOf f.type:=by
   unfold Program.cellsOf at *
   cases hii:P.info? f.type with
   | none=>rw [hii] at H;simp at H
   | some i=>exact ⟨i,rfl,by simp⟩
  obtain ⟨i,I,N⟩:=S;have E:=ih (fun g O=>h g (by simp [O]));have D:(sizeOf f.type).run P w=.ok (P.cellsOf f.type) w:=by simp [sizeOf,typeInfo,program,Sem.run,I,N]
  simp only [List.mapM_cons,Sem.run_bind,D,Result.andThen_ok,Sem.run_pure,E,List.map_cons]
theorem Am {ρ:Operand→Value} {dd:Option Tmp} {g:Option (Nat × Bool)} {s:TypeId} {i:TI} {A:Array (Nat × Operand)} {ps:List (Nat × Value)} {fs:List (Nat × Nat × Nat)} {cs:List Value}
  (hs:tk P s=.struct fs) (T:fs.all (fun x=>!Nat.beq x.2.1 0)=true) (ht:TOK P s i) (hp:(A.map fun (j,x)=>(j,ρ x)).toList=ps)
  (N:Instr.fill (fun j=>(fs.map fun x=>(x.1,x.2.1))[j]?) i.zero.cells ps=some cs.toArray) :
  (execOp ρ ⟨dd,.build s A,t,p,af,g⟩).run P w=.ok (.value (.agg cs.toArray)) w:=by
 obtain ⟨E,hu,H⟩:=Ms hs;have S:∀ f∈E.toList,P.cellsOf f.type≠0:=by
  intro f N;have hm:(f.offset,P.cellsOf f.type,f.type)∈fs:=by rw [← H];exact List.mem_map.2 ⟨f,N,rfl⟩
  have:=(List.all_eq_true.1 T) _ hm;intro V
  simp [V] at this
 have U:=Ajr (P:=P) (w:=w) E.toList S;have I:(E.mapM fun f=>do pure (f.offset,← sizeOf f.type):Sem (Array (Nat × Nat))).run P w=.ok (E.toList.map fun f=>(f.offset,P.cellsOf f.type)).toArray w:=by
  have Y:(E.mapM fun f=>do pure (f.offset,← sizeOf f.type):Sem (Array (Nat × Nat)))=List.toArray <$> (E.toList.mapM fun f=>do pure (f.offset,← sizeOf f.type)):=by
   rw [Array.mapM_eq_mapM_toList]
  rw [Y,Sem.run_map,U]
  rfl
 have O:(fs.map fun x=>(x.1,x.2.1))=E.toList.map fun f=>(f.offset,P.cellsOf f.type):=by
  rw [← H,List.map_map];rfl
 have D:(fun (j:Nat)=>(E.toList.map fun f=>(f.offset,P.cellsOf f.type)).toArray[j]?)=fun (j:Nat)=>(fs.map fun x=>(x.1,x.2.1))[j]?:=by
  funext j;rw [O];simp
 simp only [execOp,Instr.build,Sem.run_bind,ht.zeroValue,Result.andThen_ok,B9 hu,I,Sem.run_pure];rw [D,hp,N]
 simp
variable {C:World→Prop} {K:Act→Prop}
end
end Go.Y
namespace Go.Y
open Go Go.RowKit
theorem Agl {b:Bool} (h:b=false):(!b)=true:=by simp [h]
theorem Ge {b:Bool} (h:b=true):(!b)=false:=by simp [h]
theorem Ad {b:Bool} (h:(!b)=true):b=false:=by simpa using h
theorem Ae {b:Bool} (h:(!b)=false):b=true:=by simpa using h
theorem Aq {α:Type} {xs:List α} {i:Nat} (h:i < xs.length):∃ x,xs[i]?=some x:=⟨_,List.getElem?_eq_getElem h⟩
theorem A3 {α:Type} {xs:List α} {i:Nat} {x:α} (h:xs[i]?=some x):i < xs.length:=by
 rcases Nat.lt_or_ge i xs.length with A | A
 ·exact A
 ·simp [List.getElem?_eq_none A] at h
section
variable {P:Program} {ops:Array Oper} {Q K:Exit→Act→World→Prop} {N:Act→World→Prop} {n:Nat} {a:Act} {w w0:World} {e:Env} {G:Av} {L:List Res}
 {d:Nat} {t:TypeId} {p:String} {af:Array Edge} {r:List Oper}
theorem Qo {op:Op} {j g:Nat} {A b:Bool} (F:Fits n a e) (H:(ops[j]?).bind (·.dst)=some g) (D:look e g=some (.bool b)) (E:Nat.ble (d+1) n=true) (hw:b=A)
  (k:rl P ops Q (⟨some d,op,t,p,af,none⟩::r) a w):rl P ops Q (⟨some d,op,t,p,af,some (j,A)⟩::r) a w :=
 Afr F H D E (fun _=>k) (fun h=>by subst hw;cases b <;> cases h)
theorem Wf {op:Op} {j g:Nat} {A b:Bool} (F:Fits n a e) (I:(ops[j]?).bind (·.dst)=some g) (E:look e g=some (.bool b)) (H:Nat.ble (d+1) n=true) (hw:b = !A)
  (k:∀ D,Fits n D ((d,undef)::e)→rl P ops Q r D w):rl P ops Q (⟨some d,op,t,p,af,some (j,A)⟩::r) a w :=
 Afr F I E H (fun h=>by subst h;cases b <;> cases hw) (fun _=>k)
def evp (e:Env):List (Nat × Operand)→Option (List (Nat × Value))
 | []=>some []
 | x::xs=>match ev e x.2 with
  | some v=>match evp e xs with
   | some vs=>some ((x.1,v)::vs)
   | none=>none
  | none=>none
theorem Fits.evp (F:Fits n a e):∀ {xs:List (Nat × Operand)} {vs:List (Nat × Value)},Y.evp e xs=some vs→(xs.toArray.map fun (j,x)=>(j,a.eval x)).toList=vs
 | [],vs,h=>by simp [Y.evp] at h;subst h;simp
 | (j,x)::xs,vs,h=>by
  simp only [Y.evp] at h
  cases hx:Y.ev e x with
  | none=>rw [hx] at h;simp at h
  | some v =>
   rw [hx] at h
   cases hxs:Y.evp e xs with
   | none=>rw [hxs] at h;simp at h
   | some us =>
    rw [hxs] at h
    simp at h
    subst h;have ih:=Fits.evp F hxs;simp only [List.map_toArray] at ih ⊢;simp only [List.map_cons,F.ev hx];rw [ih]
theorem Jv (h:N a w):Exit.then N Q .normal a w:=h
theorem q_te {id:Nat} (h:Q (.exit id) a w):Exit.then N Q (.exit id) a w:=h
theorem Akl (h:Q .ret a w):Exit.then N Q .ret a w:=h
theorem q_bn {id:Nat} (h:Q .normal a w):Exit.inBlock id Q .normal a w:=h
theorem q_bh {id:Nat} (h:Q .normal a w):Exit.inBlock id Q (.exit id) a w:=Afy h
theorem q_be {id j:Nat} (A:Nat.beq j id=false) (h:Q (.exit j) a w):Exit.inBlock id Q (.exit j) a w :=
 Acr (fun e=>by subst e;simp at A) h
theorem Arl {id:Nat} (h:Q .ret a w):Exit.inBlock id Q .ret a w:=h
theorem Bd {c:Code} (I:Nat→Act→World→Prop) (E:Nat) (N:I E a w)
  (A:∀ m a w,I m a w→c.wp P (Exit.then (fun H w'=>∃ D,D < m∧I D H w') Q) a w):(Code.loop c).wp P Q a w :=
 w_loop (σ:=Nat) I (fun m=>m) E N A
def B5 (w0:World) (G:Av) (L:List Res) (Φ:Value→Prop):Ending→World→Prop
 | .returned v,w'=>Mem w0 G L w'∧Φ v
 | _,_=>False
theorem Afs {f:FuncId} {args:List Operand} {D:Array TypeId} {vs:List Value} {Φ:Value→Prop}
  (F:Fits n a e) (O:Ent P f) (U:evs e args=some vs) (S:Nat.ble (d+1) n=true)
  (T:Calls P f vs.toArray w (B5 w0 G L Φ))
  (k:∀ v w' A,Mem w0 G L w'→Φ v→Fits n A ((d,v)::e)→rl P ops Q r A w') :
  rl P ops Q (⟨some d,.call ⟨.value (.func f),args.toArray,D⟩,t,p,af,none⟩::r) a w:=by
 refine Jo (caps:=[]) F O rfl U S (by rw [List.append_nil];exact T) fun x w' E=>?_
 cases x with
 | returned v=>obtain ⟨I,N⟩:=E;exact ⟨v,rfl,fun A H=>k v w' A I N H⟩
 | panicked c=>exact E.elim
 | outgrown=>exact E.elim
theorem Mem.ghost {A:Av} (E:Gle G A) (M:Mem w0 A L w) (D:∀ x∈L,∀ b,x.foot=some b→G b=none):Mem w0 G L w :=
 ⟨M.os,M.tape,M.output,M.grow,fun r o h=>M.pers r o (E r o h),M.own,D,M.apart⟩
theorem Ret.plain {f:FuncId} {vs:Array Value} {Φ:Value→Prop} (M:Mem w0 G L w) (h:Calls P f vs w (Ret w0 G L fun _ v=>Φ v)):Calls P f vs w (B5 w0 G L Φ) :=
 h.mono fun x w' A=>by
  cases x with
  | returned v=>obtain ⟨I,D,E,H⟩:=A;exact ⟨E.ghost D M.free,H⟩
  | panicked c=>exact A
  | outgrown=>exact A
theorem Mem.store_blk {us:List Value}:∀ {w:World} {L:List Res},(M:Mem w0 G L w)→∀ {k b:Nat} {cs:List Value} {t:TypeId} (_:L[k]?=some (.blk b cs t)) (o i:Nat)
  (_:∀ u∈us,u.oneCell' = true) (_:o+i+us.length≤cs.length),
  ∃ w',(storeCells ⟨b,o,none⟩ us i).run P w=.ok () w'∧Mem w0 G (L.set k (.blk b (over cs (o+i) us) t)) w':=by
 induction us with
 | nil =>
  intro w L M k b cs t D o i N A;refine ⟨w,by simp [storeCells],?_⟩;simp only [over];rw [Afe D]
  exact M
 | cons u us ih =>
  intro w L M k b cs t D o i N A;simp only [List.length_cons] at A;have H:w.frozen? ⟨b,o+i,none⟩=false:=M.frozenL D _;have S:w.cell? ⟨b,o+i,none⟩=some cs[o+i]:=M.cellL D (List.getElem?_eq_getElem (by omega));have O:=M.set D (o+i) u;have I:(L.set k (.blk b (cs.set (o+i) u) t))[k]?=some (.blk b (cs.set (o+i) u) t):=by
   rw [List.getElem?_set]
   simp [A3 D]
  obtain ⟨w',T,E⟩:=ih O I o (i+1) (fun v U=>N v (by simp [U])) (by simp;omega);refine ⟨w',?_,?_⟩
  ·simp only [storeCells,Sem.run_bind,Fv,N4 (N u (by simp)) S H,Result.andThen_ok]
   exact T
  ·rw [List.set_set] at E
   exact E
theorem Zt {et D:TypeId} {i:TI} {x y:Operand} {v:Value} {k b o:Nat} {cs us:List Value} (F:Fits n a e) (M:Mem w0 G L w) (T:TOK P et i)
  (N:L[k]?=some (.blk b cs D)) (Y:ev e x=some (.pointer (some ⟨b,o,none⟩))) (hy:ev e y=some v) (V:v.cells=us.toArray) (O:us.length=i.size)
  (U:∀ u∈us,u.oneCell' = true) (E:o+us.length≤cs.length)
  (kk:∀ w' A,Mem w0 G (L.set k (.blk b (over cs o us) D)) w'→Fits n A e→rl P ops Q r A w'):rl P ops Q (⟨none,.store et x y,t,p,af,none⟩::r) a w:=by
 obtain ⟨w',S,I⟩:=M.store_blk (P:=P) (us:=us) N o 0 U (by omega);refine Pe F (w':=w') ?_ fun A H=>kk w' A (by simpa using I) H;simp only [execOp,F.ev Y,F.ev hy,Instr.storeAt,Instr.sureAddr,storeVar,Sem.run_bind,Sem.run_pure,Result.andThen_ok,T.sizeOf,V]
 simp [O,S]
end
end Go.Y
namespace Go.Y
open Go Go.RowKit
section
variable {P:Program} {ops:Array Oper} {Q:Exit→Act→World→Prop} {C:World→Prop}
def Fm (P:Program) (ops:Array Oper) (C:World→Prop) (o:Oper) (v:Value) (a:Act):Prop :=
 (Region.wanted o (yielded ops a.tmps)=true∧∀ w,C w→(execOp a.eval o).run P w=.ok (.value v) w) ∨
 (Region.wanted o (yielded ops a.tmps)=false∧v=undef)
def Aip (P:Program) (ops:Array Oper) (Q:Exit→Act→World→Prop):(World→Prop)→Nat→Array Bool→Act→World→Prop
 | _,0,listed,a,w=>Region.ready .any ops listed=[]∧Q .normal a w
 | C,fuel+1,listed,a,w =>
  (Region.ready .any ops listed=[]→Q .normal a w) ∧
  ∀ i∈Region.ready .any ops listed,wpOp P ops Q i (fun a' w'=>∃ C':World→Prop,C' w'∧(∀ w,C' w→C w)∧Aip P ops Q C' fuel (listed.setIfInBounds i true) a' w') a w
theorem O1:∀ (fuel:Nat) (C:World→Prop) (listed:Array Bool) (a:Act) (w:World),Aip P ops Q C fuel listed a w→wpAny P .any ops Q fuel listed a w
 | 0,_,_,_,_,h=>h
 | fuel+1,_,_,_,_,h=>⟨h.1,fun i hi=>wpOp_mono (fun a' w' hk=>by obtain ⟨C',_,_,h'⟩:=hk;exact O1 fuel C' _ a' w' h') (h.2 i hi)⟩
theorem Fm.mono {o:Oper} {v:Value} {a:Act} {C':World→Prop} (h:∀ w,C' w→C w) (H:Fm P ops C o v a):Fm P ops C' o v a:=by
 rcases H with ⟨A,D⟩ | E
 ·exact Or.inl ⟨A,fun w hw=>D w (h w hw)⟩
 ·exact Or.inr E
theorem Fm.op {i:Nat} {o:Oper} {v:Value} {a:Act} (H:ops[i]?=some o) (I:Fm P ops C o v a) {K:Act→World→Prop} {w:World} (E:C w) (h:K (a.put o.dst v) w):wpOp P ops Q i K a w:=by
 unfold wpOp;simp only [H]
 rcases I with ⟨A,D⟩ | ⟨A,rfl⟩
 ·rw [if_pos A];left;unfold Oper.wp;rw [D w E];exact h
 ·rw [if_neg (by simp [A])];exact h
theorem Wt {j:Nat} {A D:Oper} {v:Value} (hj:ops[j]?=some D) (S:A.apart ops D=true) (T:∀ cs b,A.op≠.select cs b) (U:∀ cs b,D.op≠.select cs b)
  (hQ:∀ c a w,Q (.panic c) (a.put A.dst v) w→Q (.panic c) a w) {K:Act→World→Prop} {a:Act} {w:World} (I:Fm P ops C A v a) (h:wpOp P ops Q j K (a.put A.dst v) w) :
  wpOp P ops Q j (fun Y w'=>Fm P ops C A v Y∧K (Y.put A.dst v) w') a w:=by
 obtain ⟨h1,E,h3⟩:=Oper.apart_spec S;have H:∀ (a:Act) (u:Value),Fm P ops C A v a→Fm P ops C A v (a.put D.dst u):=fun a u hg=>by
  unfold Fm at *;rw [execOp_put A T a D.dst u h3,wanted_put A a D.dst u h3]
  exact hg
 have he:=execOp_put D U a A.dst v h1;have hw:=wanted_put D a A.dst v h1;unfold wpOp at h ⊢;simp only [hj] at h ⊢;rw [hw] at h
 by_cases hwt:Region.wanted D (yielded ops a.tmps)=true
 ·rw [if_pos hwt] at h ⊢
  rcases h with h | ⟨O,hl⟩
  ·left
   unfold Oper.wp at h ⊢;rw [he] at h
   cases hr:(execOp a.eval D).run P w with
   | halt x w' =>
    rw [hr] at h
    cases x <;> simp only [Oper.upon] at h ⊢
    exact hQ _ _ _ h
   | ok nx w' =>
    rw [hr] at h
    cases nx <;> simp only [Oper.upon] at h ⊢
    case value u=>exact ⟨H a u I,by rw [← Act.put_comm a v u E];exact h⟩
    case skip=>exact ⟨H a _ I,by rw [← Act.put_comm a v undef E];exact h⟩
    case defer d=>exact ⟨H { a with defers:=d::a.defers } _ I,by rw [← Act.put_comm _ v undef E,← Act.put_defers];exact h⟩
    case enter f args =>
     refine h.mono fun e V N=>?_
     cases e with
     | returned u=>exact ⟨H a u I,by rw [← Act.put_comm a v u E];exact N⟩
     | panicked c=>exact hQ _ _ _ N
     | outgrown=>exact N
    case row row args=>exact Rows.mono h fun u V N=>⟨H a u I,by rw [← Act.put_comm a v u E];exact N⟩
  ·right
   refine ⟨?_,hl⟩;unfold Oper.asks at O ⊢;rw [he] at O
   exact O
 ·rw [if_neg hwt] at h ⊢
  exact ⟨H a undef I,by rw [← Act.put_comm a v undef E];exact h⟩
theorem Yn {i:Nat} {S:Oper} {v:Value} (hi:ops[i]?=some S) (E:∀ (j:Nat) (o:Oper) cs b,ops[j]?=some o→o.op≠.select cs b) (hQ:∀ c a w,Q (.panic c) (a.put S.dst v) w→Q (.panic c) a w) :
  ∀ (D:Nat) (C:World→Prop) (A:Array Bool) (a:Act) (w:World),C w →
   (∀ j O,ops[j]?=some O→j≠i→A.getD j true=false→(∀ e∈O.after,Region.binds .any e=true→e.on≠i)→S.apart ops O=true) →
   i∈Region.ready .any ops A→Fm P ops C S v a→Aip P ops Q C D (A.setIfInBounds i true) (a.put S.dst v) w→Aip P ops Q C (D+1) A a w:=by
 intro D
 induction D with
 | zero =>
  intro C A a w U _ N hy H;refine ⟨fun h=>(by rw [h] at N;cases N),fun j hj=>?_⟩
  by_cases hji:j=i
  ·subst hji;exact hy.op hi U ⟨C,U,fun _ h=>h,H⟩
  ·have:=ready_mono hj hji;rw [H.1] at this
   cases this
 | succ D ih =>
  intro C A a w U hf N hy H;refine ⟨fun h=>(by rw [h] at N;cases N),fun j hj=>?_⟩
  by_cases hji:j=i
  ·subst hji;exact hy.op hi U ⟨C,U,fun _ h=>h,H⟩
  ·obtain ⟨Y,O,I,V⟩:=mem_ready.1 hj;have ag:∀ e∈O.after,Region.binds .any e=true→e.on≠i:=by
    intro e he hb ac;have T:=V e he hb;have h0:=(mem_ready.1 N).1;rw [ac] at T
    by_cases hlt:i < A.size
    ·simp [hlt] at h0 T;rw [h0] at T;cases T
    ·simp [Array.getElem?_eq_none (Nat.le_of_not_lt hlt)] at T
   have h2:=Wt I (hf j O I hji Y ag) (E i S · · hi) (E j O · · I) hQ hy (H.2 j (ready_mono hj hji));refine wpOp_mono (fun a' w' h3=>?_) h2;obtain ⟨h4,C',h5,h7,h6⟩:=h3;refine ⟨C',h5,h7,ih C' _ a' w' h5 ?_ (ready_mono N (Ne.symm hji)) (h4.mono h7) ?_⟩
   ·intro k ok hk ae ab aa;refine hf k ok hk ae ?_ aa
    by_cases hjk:j=k
    ·subst hjk;exact Y
    ·rw [getD_set_ne true hjk] at ab;exact ab
   ·rw [Array.setIfInBounds_comm _ _ hji]
    exact h6
def pl (P:Program) (ops:Array Oper) (Q:Exit→Act→World→Prop):(World→Prop)→List (Bool × Oper)→Act→World→Prop
 | _,[],a,w=>Q .normal a w
 | C,(true,o)::r,a,w=>∃ v,Fm P ops C o v a∧pl P ops Q C r (a.put o.dst v) w
 | C,(false,o)::r,a,w =>
  (Region.wanted o (yielded ops a.tmps)=true→o.wp P a w (fun a' w'=>∃ C':World→Prop,C' w'∧(∀ w,C' w→C w)∧pl P ops Q C' r a' w') Q) ∧
  (Region.wanted o (yielded ops a.tmps)=false→pl P ops Q C r (a.put o.dst undef) w)
def Apf (ops:Array Oper) (i:Nat) (listed:Array Bool):Bool :=
 match ops[i]? with
 | none=>false
 | some oi=>(List.range ops.size).all fun j=>match ops[j]? with
  | none=>true
  | some oj=>Nat.beq j i || listed.getD j true || oj.after.any (fun e=>Region.binds .any e && Nat.beq e.on i) || oi.apart ops oj
def Qr (ops:Array Oper):List (Bool × Nat)→Array Bool→Bool
 | [],listed=>(Region.ready .any ops listed).isEmpty
 | (true,i)::r,listed=>(Region.ready .any ops listed).any (Nat.beq i) && Apf ops i listed && Qr ops r (listed.setIfInBounds i true)
 | (false,i)::r,listed=>(match Region.ready .any ops listed with | [j]=>Nat.beq i j | _=>false) && Qr ops r (listed.setIfInBounds i true)
theorem Nl (hsel:∀ (j:Nat) (o:Oper) cs b,ops[j]?=some o→o.op≠.select cs b) (hQ:∀ c a d v w,Q (.panic c) (a.put d v) w→Q (.panic c) a w) :
  ∀ (order:List (Bool × Nat)) (C:World→Prop) (listed:Array Bool) (plan:List (Bool × Oper)) (a:Act) (w:World),order.map (fun x=>(x.1,ops[x.2]?))=plan.map (fun x=>(x.1,some x.2))→Qr ops order listed=true→C w →
   pl P ops Q C plan a w→Aip P ops Q C order.length listed a w
 | [],C,listed,plan,a,w,hp,hok,_,h=>by
  cases plan with
  | nil=>exact ⟨by simpa [Qr] using hok,h⟩
  | cons x y=>simp at hp
 | (true,i)::order,C,listed,plan,a,w,hp,hok,hC,h=>by
  cases plan with
  | nil=>simp at hp
  | cons x plan =>
   obtain ⟨b,o⟩:=x;simp only [List.map_cons,List.cons.injEq,Prod.mk.injEq] at hp;obtain ⟨⟨rfl,hi⟩,hp⟩:=hp;simp only [Qr,Bool.and_eq_true] at hok;obtain ⟨⟨hr,hf⟩,hok⟩:=hok;obtain ⟨v,hy,h'⟩:=h;have hr':i∈Region.ready .any ops listed:=by
    obtain ⟨j,hj,hb⟩:=List.any_eq_true.1 hr;rw [Nat.eq_of_beq_eq_true hb];exact hj
   refine Yn hi hsel (fun c a w=>hQ c a o.dst v w) _ C listed a w hC ?_ hr' hy (Nl hsel hQ order C _ plan _ w hp hok hC h');intro j oj hj hji hun hno;unfold Apf at hf;simp only [hi] at hf;have hlt:j < ops.size:=by
    rcases Nat.lt_or_ge j ops.size with h' | h'
    ·exact h'
    ·rw [Array.getElem?_eq_none h'] at hj;cases hj
   have:=List.all_eq_true.1 hf j (List.mem_range.2 hlt);simp only [hj,Bool.or_eq_true] at this
   rcases this with ((h1 | h1) | h1) | h1
   ·exact absurd (Nat.eq_of_beq_eq_true h1) hji
   ·rw [h1] at hun;cases hun
   ·obtain ⟨e,he,hb⟩:=Array.any_eq_true'.1 h1;simp only [Bool.and_eq_true] at hb
    exact absurd (Nat.eq_of_beq_eq_true hb.2) (hno e he hb.1)
   ·exact h1
 | (false,i)::order,C,listed,plan,a,w,hp,hok,hC,h=>by
  cases plan with
  | nil=>simp at hp
  | cons x plan =>
   obtain ⟨b,o⟩:=x;simp only [List.map_cons,List.cons.injEq,Prod.mk.injEq] at hp;obtain ⟨⟨rfl,hi⟩,hp⟩:=hp;simp only [Qr,Bool.and_eq_true] at hok;obtain ⟨hr,hok⟩:=hok;have hready:Region.ready .any ops listed=[i]:=by
    split at hr
    ·rename_i j hj;rw [hj,Nat.eq_of_beq_eq_true hr]
    ·cases hr
   refine ⟨fun h0=>(by rw [hready] at h0;cases h0),fun j hj=>?_⟩;rw [hready] at hj;have hji:j=i:=by simpa using hj
   subst hji;obtain ⟨h1,h2⟩:=h;unfold wpOp;simp only [hi]
   by_cases hw:Region.wanted o (yielded ops a.tmps)=true
   ·rw [if_pos hw]
    left
    exact Oper.wp_mono (fun a' w' hk=>by
     obtain ⟨C',h3,h4,h5⟩:=hk
     exact ⟨C',h3,h4,Nl hsel hQ order C' _ plan a' w' hp hok h3 h5⟩) (h1 hw)
   ·rw [if_neg hw]
    exact ⟨C,hC,fun _ h=>h,Nl hsel hQ order C _ plan _ w hp hok hC (h2 (by simpa using hw))⟩
def Wn (ops:Array Oper):List (Bool × Nat)→List (Bool × Oper)
 | []=>[]
 | x::r=>match ops[x.2]? with
  | some o=>(x.1,o)::Wn ops r
  | none=>Wn ops r
theorem Wm:∀ (order:List (Bool × Nat)),order.all (fun x=>Nat.ble (x.2+1) ops.size)=true→order.map (fun x=>(x.1,ops[x.2]?))=(Wn ops order).map (fun x=>(x.1,some x.2))
 | [],_=>rfl
 | x::r,h=>by
  simp only [List.all_cons,Bool.and_eq_true] at h;have hlt:x.2 < ops.size:=Nat.le_of_ble_eq_true h.1;simp only [Wn,Array.getElem?_eq_getElem hlt,List.map_cons,Wm r h.2]
def Zz (l:List Oper) (order:List (Bool × Nat)):Bool :=
 Region.noSelect l.toArray && order.all (fun x=>Nat.ble (x.2+1) l.length) && Nat.beq order.length l.length && Qr l.toArray order (Array.replicate l.length false)
theorem Dv {id:Nat} {l:List Oper} {a:Act} {w:World} (A:List (Bool × Nat)) (C:World→Prop) (O:P.follows .mixedOrders=true) (H:Zz l A=true)
  (N:∀ c a d v w,Q (.panic c) (a.put d v) w→Q (.panic c) a w) (I:C { w with drawn:=w.drawn+1 }) (h:pl P l.toArray Q C (Wn l.toArray A) a { w with drawn:=w.drawn+1 }):(Code.region id l.toArray true).wp P Q a w:=by
 simp only [Zz,Bool.and_eq_true] at H;obtain ⟨⟨⟨U,T⟩,S⟩,E⟩:=H;refine wp_region_any O (O1 _ C _ _ _ ?_);have D:=Nat.eq_of_beq_eq_true S;have:=Nl (P:=P) (Region.noSelect_spec U) N A C (Array.replicate l.length false) _ a _ (Wm A (by simpa using T)) E I h;rw [D] at this
 simpa using this
end
structure Keep (G:Av) (L:List Res) (w:World):Prop where
 pers:∀ r o,G r=some o→w.heap[r]?=some o
 own:∀ x∈L,x.holds w
section
variable {P:Program} {ops:Array Oper} {Q:Exit→Act→World→Prop} {C:World→Prop} {n:Nat} {a:Act} {w w0:World} {e:Env} {G G':Av} {L L':List Res}
 {d:Nat} {t:TypeId} {p:String} {af:Array Edge} {r:List (Bool × Oper)}
theorem Mem.keep (M:Mem w0 G' L' w) (D:Gle G G') (A:∀ x∈L,x∈L'):Keep G L w:=⟨fun r o h=>M.pers r o (D r o h),fun x E=>M.own x (A x E)⟩
theorem Keep.mono {A:Av} (H:Gle G A) (E:∀ x∈L,x∈L') (h:Keep A L' w):Keep G L w:=⟨fun r o D=>h.pers r o (H r o D),fun x I=>h.own x (E x I)⟩
theorem Keep.cell (M:Keep G L w) {b o:Nat} {v:Value} (h:Ic G b o=some v):w.cell? ⟨b,o,none⟩=some v:=by
 unfold Ic at h
 split at h
 ·rename_i c t f A
  simp [World.cell?,M.pers _ _ A,h]
 ·cases h
theorem Keep.cellL (M:Keep G L w) {k b:Nat} {cs:List Value} {t:TypeId} (D:L[k]?=some (.blk b cs t)) {o:Nat} {v:Value} (E:cs[o]?=some v):w.cell? ⟨b,o,none⟩=some v:=by
 have A:w.heap[b]?=some (.cells cs.toArray t (0,0)):=M.own _ (List.mem_of_getElem? D)
 simp [World.cell?,A,E]
theorem pl_run {op:Op} {v:Value} (F:Fits n a e) (E:∀ w,C w→(execOp a.eval ⟨some d,op,t,p,af,none⟩).run P w=.ok (.value v) w) (D:Nat.ble (d+1) n=true)
  (k:∀ A,Fits n A ((d,v)::e)→pl P ops Q C r A w):pl P ops Q C ((true,⟨some d,op,t,p,af,none⟩)::r) a w :=
 ⟨v,Or.inl ⟨rfl,E⟩,k _ (F.put D)⟩
theorem Acv {op:Op} {v:Value} {j g:Nat} {A b:Bool} (F:Fits n a e) (I:(ops[j]?).bind (·.dst)=some g) (E:look e g=some (.bool b)) (hw:b=A)
  (N:∀ w,C w→(execOp a.eval ⟨some d,op,t,p,af,some (j,A)⟩).run P w=.ok (.value v) w) (H:Nat.ble (d+1) n=true)
  (k:∀ D,Fits n D ((d,v)::e)→pl P ops Q C r D w):pl P ops Q C ((true,⟨some d,op,t,p,af,some (j,A)⟩)::r) a w:=by
 have O:yielded ops a.tmps j=some b:=by simp [yielded,I,F.slot _ _ E]
 subst hw
 exact ⟨v,Or.inl ⟨by simp [Region.wanted,O],N⟩,k _ (F.put H)⟩
theorem Y3 {b2:Bool} {op:Op} {j g:Nat} {A b:Bool} (F:Fits n a e) (N:(ops[j]?).bind (·.dst)=some g) (I:look e g=some (.bool b)) (hw:b = !A) (H:Nat.ble (d+1) n=true)
  (k:∀ E,Fits n E ((d,undef)::e)→pl P ops Q C r E w):pl P ops Q C ((b2,⟨some d,op,t,p,af,some (j,A)⟩)::r) a w:=by
 have O:yielded ops a.tmps j=some b:=by simp [yielded,N,F.slot _ _ I]
 have D:Region.wanted ⟨some d,op,t,p,af,some (j,A)⟩ (yielded ops a.tmps)=false:=by
  subst hw;cases A <;> simp [Region.wanted,O]
 cases b2 with
 | true=>exact ⟨undef,Or.inr ⟨D,rfl⟩,k _ (F.put H)⟩
 | false=>exact ⟨fun h=>(by rw [D] at h;cases h),fun _=>k _ (F.put H)⟩
theorem pl_act {o:Oper} (h:rl P ops (fun e a w=>match e with | .normal=>∃ C':World→Prop,C' w∧(∀ w,C' w→C w)∧pl P ops Q C' r a w | e=>Q e a w) [o] a w) (N:o.guard=none):pl P ops Q C ((false,o)::r) a w:=by
 obtain ⟨I,S⟩:=h;have hw:Region.wanted o (yielded ops a.tmps)=true:=by simp [Region.wanted,N]
 refine ⟨fun _=>?_,fun h=>by rw [hw] at h;cases h⟩;have A:=I hw;unfold Oper.wp at *
 generalize (execOp a.eval o).run P w=x at *
 cases x with
 | ok nx w' =>
  cases nx <;> simp only [Oper.upon] at A ⊢
  case value u=>exact A
  case skip=>exact A
  case defer d=>exact A
  case enter f args =>
   refine Calls.mono A fun e O D=>?_
   cases e with
   | returned u=>exact D
   | panicked c=>exact D
   | outgrown=>obtain ⟨E,w0,H⟩:=D;exact ⟨E,w0,H⟩
  case row row args=>exact A
 | halt x w'=>cases x <;> simp only [Oper.upon] at A ⊢ <;> exact A
theorem agf {s:TypeId} {i:TI} (h:TOK P s i) (A:i.k.agg=some false):(tk P s).agg=some false:=by rw [h.k];exact A
theorem Mem.cellsL (M:Mem w0 G L w) {k b:Nat} {cs:List Value} {t:TypeId} (E:L[k]?=some (.blk b cs t)) {o m:Nat} {us:List Value} (H:(cs.drop o).take m=us):∀ j,j < m→w.cell? ⟨b,o+j,none⟩=us[j]?:=by
 intro j D;have A:w.heap[b]?=some (.cells cs.toArray t (0,0)):=M.own _ (List.mem_of_getElem? E);subst H
 simp [World.cell?,A,D]
theorem Mem.cellsA (M:Mem w0 G L w) {b o z:Nat} {cs:List Value} (D:At G b o cs) (q:Nat) (I:z=o+q) {m:Nat} {us:List Value} (H:(cs.drop q).take m=us) (N:us.length=m:=by rfl):∀ j,j < m→w.cell? ⟨b,z+j,none⟩=us[j]?:=by
 intro j E;subst H I;obtain ⟨v,A⟩:=Aq (xs:=(cs.drop q).take m) (i:=j) (by omega);rw [A];rw [List.getElem?_take,if_pos E,List.getElem?_drop] at A;have:=M.cell (D (q+j) v A);rw [Nat.add_assoc]
 exact this
theorem Keep.cellsL (M:Keep G L w) {k b:Nat} {cs:List Value} {t:TypeId} (E:L[k]?=some (.blk b cs t)) {o m:Nat} {us:List Value} (H:(cs.drop o).take m=us):∀ j,j < m→w.cell? ⟨b,o+j,none⟩=us[j]?:=by
 intro j D;have A:w.heap[b]?=some (.cells cs.toArray t (0,0)):=M.own _ (List.mem_of_getElem? E);subst H
 simp [World.cell?,A,D]
theorem Keep.cellsA (M:Keep G L w) {b o z:Nat} {cs:List Value} (D:At G b o cs) (q:Nat) (I:z=o+q) {m:Nat} {us:List Value} (H:(cs.drop q).take m=us) (N:us.length=m:=by rfl):∀ j,j < m→w.cell? ⟨b,z+j,none⟩=us[j]?:=by
 intro j E;subst H I;obtain ⟨v,A⟩:=Aq (xs:=(cs.drop q).take m) (i:=j) (by omega);rw [A];rw [List.getElem?_take,if_pos E,List.getElem?_drop] at A;have:=M.cell (D (q+j) v A);rw [Nat.add_assoc]
 exact this
def Ix (ad:Option Addr) (m j sz b o:Nat):Prop:=∃ o0,ad=some ⟨b,o0,none⟩∧o=o0+j * sz∧j < m
theorem Aj.at {α:Type} {rd:Rd α} {sz:Nat} {ad:Option Addr} {m c:Nat} {xs:List α} (S:Aj rd sz G (.slice ad m c) xs) {j:Nat} {X:α} (A:xs[j]?=some X) :
  ∃ b o cs,Ix ad m j sz b o∧cs.length=sz∧At G b o cs∧rd G cs X:=by
 obtain ⟨b,o,cs,D,E,H,I,N⟩:=S.index A
 exact ⟨b,_,cs,⟨o,D,rfl,by rw [E];exact A3 A⟩,H,I,N⟩
theorem Fw {ρ:Operand→Value} {dd:Option Tmp} {g:Option (Nat × Bool)} {s et:TypeId} {i:TI} {x y:Operand} {ad:Option Addr} {m c:Nat} {k:IntKind} {z:Int} {j b o:Nat}
  (E:tk P s=.slice et) (H:TOK P et i) (N:ρ x=.slice ad m c) (O:ρ y=.int k z) (D:z=(j:Int)) (I:Ix ad m j i.size b o) :
  (execOp ρ ⟨dd,.indexAddr s x y,t,p,af,g⟩).run P w=.ok (.value (.pointer (some ⟨b,o,none⟩))) w:=by
 obtain ⟨S,rfl,rfl,A⟩:=I;subst D
 exact Yw E H N O A
def Sx (ad:Option Addr) (c l sz:Nat) (a1:Option Addr) (c1:Nat):Prop:=(if c=l then ad else ad.map (·.add (l * sz)))=a1∧c - l=c1
theorem Aj.part {α:Type} {rd:Rd α} {sz:Nat} {ad:Option Addr} {m c:Nat} {xs:List α} (S:Aj rd sz G (.slice ad m c) xs) (l h:Nat) (O:l≤h) (T:h≤xs.length) :
  ∃ A D,Sx ad c l sz A D∧m=xs.length∧m≤c∧Aj rd sz G (.slice A (h - l) D) ((xs.take h).drop l):=by
 obtain ⟨E,H,_⟩:=S.cells;obtain ⟨A,I,N⟩:=S.sub O T
 exact ⟨A,_,⟨I,rfl⟩,E,H,N⟩
theorem Aj.partT {α:Type} {rd:Rd α} {sz:Nat} {ad:Option Addr} {m c:Nat} {xs:List α} (S:Aj rd sz G (.slice ad m c) xs) (h:Nat) (E:h≤xs.length) :
  ∃ A D,Sx ad c 0 sz A D∧m=xs.length∧m≤c∧Aj rd sz G (.slice A (h - 0) D) (xs.take h):=by
 have:=S.part 0 h (Nat.zero_le _) E
 simpa using this
theorem Aj.partD {α:Type} {rd:Rd α} {sz:Nat} {ad:Option Addr} {m c:Nat} {xs:List α} (S:Aj rd sz G (.slice ad m c) xs) (l:Nat) (E:l≤xs.length) :
  ∃ A D,Sx ad c l sz A D∧m=xs.length∧m≤c∧Aj rd sz G (.slice A (xs.length - l) D) (xs.drop l):=by
 have:=S.part l xs.length E (Nat.le_refl _);rw [List.take_of_length_le (Nat.le_refl _)] at this
 exact this
theorem Gu {ρ:Operand→Value} {dd:Option Tmp} {g:Option (Nat × Bool)} {s et:TypeId} {i:TI} {x:Operand} {H E:Option Operand} {ad A:Option Addr} {m c l h D:Nat} {kl kh:IntKind} {zl zh:Int}
  (U:tk P s=.slice et) (V:TOK P et i) (I:Sx ad c l i.size A D) (Y:ρ x=.slice ad m c)
  (T:match H with | none=>l=0 | some y=>ρ y=.int kl zl∧zl=(l:Int)) (S:match E with | none=>h=m | some y=>ρ y=.int kh zh∧zh=(h:Int)) (N:l≤h) (O:h≤c) :
  (execOp ρ ⟨dd,.slice s x H E none,t,p,af,g⟩).run P w=.ok (.value (.slice A (h - l) D)) w:=by
 obtain ⟨rfl,rfl⟩:=I
 exact Acd U V Y T S N O
theorem Afl {ρ:Operand→Value} {dd:Option Tmp} {g:Option (Nat × Bool)} {A:Array TypeId} {x y:Operand} {k:IntKind} {b c:Int} (E:ρ x=.int k b) (H:ρ y=.int k c) :
  (execOp ρ ⟨dd,.call ⟨.builtin .max,#[x,y],A⟩,t,p,af,g⟩).run P w=.ok (.value (.int k (max b c))) w:=by
 have D:(if b < c then c else b)=max b c:=by rw [Int.max_def];split <;> split <;> omega
 simp [execOp,resolve,invoke,builtin,Builtin.max_,Builtin.max2,E,H,D]
theorem Awp {ρ:Operand→Value} {dd:Option Tmp} {g:Option (Nat × Bool)} {A:Array TypeId} {x y:Operand} {k:IntKind} {b c:Int} (E:ρ x=.int k b) (H:ρ y=.int k c) :
  (execOp ρ ⟨dd,.call ⟨.builtin .min,#[x,y],A⟩,t,p,af,g⟩).run P w=.ok (.value (.int k (min b c))) w:=by
 have D:(if c < b then c else b)=min b c:=by rw [Int.min_def];split <;> split <;> omega
 simp [execOp,resolve,invoke,builtin,Builtin.min_,Builtin.min2,E,H,D]
theorem Mem.atRow {α:Type} {rd:Rd α} {sz:Nat} (M:Mem w0 G L w) {k m c:Nat} {ad:Option Addr} {cs:List Value} {O:TypeId} {xs:List α} (D:L[k]?=some (.row (.slice ad m c) m cs O sz)) (A:0 < sz) (E:Els rd sz G cs xs)
  {j:Nat} {X:α} (I:xs[j]?=some X) :
  ∃ b ch,Ix ad m j sz b (j * sz)∧m=xs.length∧ch.length=sz∧(∀ (q:Nat) (v:Value),ch[q]?=some v→w.cell? ⟨b,j * sz+q,none⟩=some v)∧rd G ch X:=by
 obtain ⟨l,ch,rr,S,T,U,V,h5⟩:=E.get I;have hm:m=xs.length:=by
  have H:=E.length;rw [(M.row_at D).1.1] at H
  exact Nat.eq_of_mul_eq_mul_right A H
 have Y:=A3 I;obtain ⟨b,rfl⟩:=M.row_some D (by omega);refine ⟨b,ch,⟨0,rfl,(Nat.zero_add _).symm,by omega⟩,hm,U,fun q v N=>M.row_cell D ?_,V⟩;rw [S,List.append_assoc,List.getElem?_append_right (by omega),T,Nat.add_sub_cancel_left,List.getElem?_append_left (A3 N),N]
theorem Yh {b o z:Nat} {cs:List Value} {v:Value} (A:∀ (q:Nat) (v:Value),cs[q]?=some v→w.cell? ⟨b,o+q,none⟩=some v) (q:Nat) (E:z=o+q) (D:cs[q]?=some v):w.cell? ⟨b,z,none⟩=some v:=by
 subst E;exact A q v D
theorem Mem.cellA (M:Mem w0 G L w) {b o z:Nat} {cs:List Value} {v:Value} (A:At G b o cs) (q:Nat) (E:z=o+q) (D:cs[q]?=some v):w.cell? ⟨b,z,none⟩=some v:=by
 subst E;exact M.cell (A q v D)
theorem Keep.cellA (M:Keep G L w) {b o z:Nat} {cs:List Value} {v:Value} (A:At G b o cs) (q:Nat) (E:z=o+q) (D:cs[q]?=some v):w.cell? ⟨b,z,none⟩=some v:=by
 subst E;exact M.cell (A q v D)
theorem Yg {b o z:Nat} {cs:List Value} (D:∀ (q:Nat) (v:Value),cs[q]?=some v→w.cell? ⟨b,o+q,none⟩=some v) (q:Nat) (I:z=o+q) {m:Nat} {us:List Value} (H:(cs.drop q).take m=us) (N:us.length=m:=by rfl):∀ j,j < m→w.cell? ⟨b,z+j,none⟩=us[j]?:=by
 intro j E;subst H I;obtain ⟨v,A⟩:=Aq (xs:=(cs.drop q).take m) (i:=j) (by omega);rw [A];rw [List.getElem?_take,if_pos E,List.getElem?_drop] at A;rw [Nat.add_assoc]
 exact D (q+j) v A
theorem M7 {α:Type} {rd:Rd α} {sz:Nat} {et O:TypeId} {i:TI} {x y:Operand} {v:Value} {k m c b o j:Nat} {ad:Option Addr} {cs us:List Value} {xs:List α} {X':α} {r:List Oper}
  (F:Fits n a e) (M:Mem w0 G L w) (ht:TOK P et i) (U:L[k]?=some (.row (.slice ad m c) m cs O sz)) (N:i.size=sz) (E:Els rd sz G cs xs) (I:Ix ad m j sz b o) (hj:j < xs.length)
  (hx:ev e x=some (.pointer (some ⟨b,o,none⟩))) (hy:ev e y=some v) (hv:v.cells=us.toArray) (V:us.length=sz) (hu:∀ u∈us,u.oneCell' = true) (hr:rd G us X')
  (kk:∀ A w' D,Mem w0 G (L.set k (.row (.slice ad m c) m A O sz)) w'→Els rd sz G A (xs.set j X')→Fits n D e→rl P ops Q r D w'):rl P ops Q (⟨none,.store et x y,t,p,af,none⟩::r) a w:=by
 obtain ⟨X,hX⟩:=Aq hj;obtain ⟨l,ch,rr,S,h2,h3,h4,h5⟩:=E.get hX;obtain ⟨b',T⟩:=M.row_some U (by obtain ⟨_,_,_,h⟩:=I;omega);obtain ⟨o0,H,ho,aa⟩:=I;rw [T] at H;simp only [Option.some.injEq,Addr.mk.injEq,and_true] at H;obtain ⟨rfl,rfl⟩:=H;subst T;subst N;refine Afq F M ht U hx hy hv V hu ?_ ?_
 ·rw [S];simp only [List.length_append];omega
 ·intro w' D M' Y;refine kk _ w' D M' ?_ Y;rw [S,ho,Nat.zero_add,← h2,Axk us l ch rr (by omega)]
  exact h5 us X' V hr
theorem Jn {α:Type} {rd:Rd α} {sz:Nat} {et T:TypeId} {i:TI} {x y:Operand} {v:Value} {k m c b o j f z:Nat} {ad:Option Addr} {cs:List Value} {xs:List α} {X X':α} {r:List Oper}
  (F:Fits n a e) (M:Mem w0 G L w) (ht:TOK P et i) (h1:i.size=1) (H:L[k]?=some (.row (.slice ad m c) m cs T sz)) (E:Els rd sz G cs xs) (I:Ix ad m j sz b o) (hX:xs[j]?=some X) (hf:f < sz)
  (hx:ev e x=some (.pointer (some ⟨b,z,none⟩))) (hz:z=o+f) (hy:ev e y=some v) (S:v.oneCell' = true) (hr:∀ ch,ch.length=sz→rd G ch X→rd G (ch.set f v) X')
  (kk:∀ A w' D,Mem w0 G (L.set k (.row (.slice ad m c) m A T sz)) w'→Els rd sz G A (xs.set j X')→Fits n D e→rl P ops Q r D w'):rl P ops Q (⟨none,.store et x y,t,p,af,none⟩::r) a w:=by
 subst hz;obtain ⟨l,ch,rr,U,V,Y,e4,e5⟩:=E.get hX;obtain ⟨b',hb⟩:=M.row_some H (by obtain ⟨_,_,_,h⟩:=I;omega);obtain ⟨o0,O,ho,aa⟩:=I;rw [hb] at O;simp only [Option.some.injEq,Addr.mk.injEq,and_true] at O;obtain ⟨rfl,rfl⟩:=O;subst hb;have hq:cs[o+f]?=some ch[f]:=by
  rw [U,List.append_assoc,List.getElem?_append_right (by omega),V,ho,Nat.zero_add,Nat.add_sub_cancel_left,List.getElem?_append_left (by omega),List.getElem?_eq_getElem]
 refine Pe F (Ql ht h1 (F.ev hx) (F.ev hy) ?_ ?_ ?_ (M.row_cell H hq) ((M.row_at H).1.frozenAt _)) fun D F'=>kk _ _ D (M.set_row H (o+f) S) ?_ F'
 ·cases v <;> simp_all [Value.cells,Value.oneCell']
 ·intro c N;subst N;simp [Value.oneCell'] at S
 ·intro c N;subst N;simp [Value.oneCell'] at S
 ·have:cs.set (o+f) v=l++ch.set f v++rr:=by
   rw [U,ho,Nat.zero_add,← V,List.append_assoc,List.append_assoc,List.set_append_right _ _ (by omega),Nat.add_sub_cancel_left,List.set_append_left _ _ (by omega)]
  rw [this]
  exact e5 _ X' (by simpa using Y) (hr ch Y e4)
end
theorem Els.replicate {α:Type} {rd:Rd α} {sz:Nat} {G:Av} {z:List Value} {x:α} (hz:z.length=sz) (hr:rd G z x):∀ n:Nat,Els rd sz G (List.replicate n z).flatten (List.replicate n x)
 | 0=>rfl
 | n+1=>⟨z,(List.replicate n z).flatten,by simp [List.replicate_succ],hz,hr,Els.replicate hz hr n⟩
theorem Va (z:Array Value):∀ n:Nat,(madeCells z (n * z.size)).toList=(List.replicate n z.toList).flatten:=by
 intro n
 apply List.ext_getElem?
 intro j;have A:∀ m:Nat,(List.replicate m z.toList).flatten.length=m * z.size:=by
  intro m;induction m with
  | zero=>simp
  | succ m ih=>simp [List.replicate_succ,ih,Nat.add_mul];omega
 have key:∀ (m j:Nat),(List.replicate m z.toList).flatten[j]?=if j < m * z.size then some z[j % z.size]! else none:=by
  intro m
  induction m with
  | zero=>intro j;simp
  | succ m ih =>
   intro j;rw [List.replicate_succ,List.flatten_cons]
   by_cases hj:j < z.size
   ·rw [List.getElem?_append_left (by simpa using hj),if_pos (by rw [Nat.add_mul];omega),Nat.mod_eq_of_lt hj]
    simp [hj]
   ·rw [List.getElem?_append_right (by simpa using Nat.le_of_not_lt hj),ih];simp only [Array.length_toList];have D:j % z.size=(j - z.size) % z.size:=Nat.mod_eq_sub_mod (Nat.le_of_not_lt hj);rw [D]
    by_cases h3:j - z.size < m * z.size
    ·rw [if_pos h3,if_pos (by rw [Nat.add_mul];omega)]
    ·rw [if_neg h3,if_neg (by rw [Nat.add_mul];omega)]
 rw [key]
 by_cases hj:j < n * z.size
 ·rw [if_pos hj]
  simp [madeCells,hj]
 ·rw [if_neg hj]
  simp [madeCells]
  omega
section
variable {P:Program} {ops:Array Oper} {Q:Exit→Act→World→Prop} {n:Nat} {a:Act} {w w0:World} {e:Env} {G:Av} {L:List Res}
 {d:Nat} {t:TypeId} {p:String} {af:Array Edge} {r:List Oper}
theorem N6 {ρ:Operand→Value} {dd:Option Tmp} {g:Option (Nat × Bool)} {s et:TypeId} {i:TI} {x y:Operand} {kl H:IntKind} {l c:Nat} {zl I:Int} (hs:tk P s=.slice et) (ht:TOK P et i)
  (hx:ρ x=.int kl zl) (D:zl=(l:Int)) (hy:ρ y=.int H I) (A:I=(c:Int)) (Y:l≤c) (V:i.bytes * c≤281474976710656) (U:c≤9223372036854775807) :
  (execOp ρ ⟨dd,.makeSlice s x y,t,p,af,g⟩).run P w=.ok (.value (.slice (some ⟨w.heap.size,0,none⟩) l c)) { w with heap:=w.heap.push (.cells (madeCells i.zero.cells (c * i.size)) et (0,0)) }:=by
 obtain ⟨q,N,O,S,T⟩:=ht.info;subst D A;have hr:=run_make (P:=P) w s et q i.zero (Df hs) N T kl H l c (by omega) (by omega) (by
  rw [S];have E:((i.bytes * c:Nat):Int)≤((281474976710656:Nat):Int):=Int.ofNat_le.2 V;rw [Int.natCast_mul] at E
  exact E) (by omega)
 simp only [execOp,hx,hy,Sem.run_bind,hr,Result.andThen_ok,Sem.run_pure,O]
 rfl
theorem rl_make {α:Type} {rd:Rd α} {sz:Nat} {s et:TypeId} {i:TI} {x y:Operand} {kl kc:IntKind} {l:Nat} {zl V:Int} {Z:α} (F:Fits n a e) (M:Mem w0 G L w) (hs:tk P s=.slice et) (ht:TOK P et i) (I:i.size=sz) (U:0 < sz) (N:i.zero.cells.size=i.size)
  (hx:ev e x=some (.int kl zl)) (S:zl=(l:Int)) (hy:ev e y=some (.int kc V)) (O:V=(l:Int)) (hb:i.bytes * l≤281474976710656) (A:l≤9223372036854775807)
  (h1:∀ u∈i.zero.cells.toList,u.oneCell' = true) (hr:rd G i.zero.cells.toList Z) (hd:Nat.ble (d+1) n=true)
  (k:∀ v cs w' E,Mem w0 G (.row v l cs et sz::L) w'→Els rd sz G cs (List.replicate l Z)→Fits n E ((d,v)::e)→rl P ops Q r E w') :
  rl P ops Q (⟨some d,.makeSlice s x y,t,p,af,none⟩::r) a w:=by
 subst I;refine Bo F (N6 hs ht (F.ev hx) S (F.ev hy) O (Nat.le_refl _) hb A) hd fun E Y=>k _ (List.replicate l i.zero.cells.toList).flatten _ E ?_ (Els.replicate (by simpa using N) hr l) Y;have hm:(madeCells i.zero.cells (l * i.size))=((List.replicate l i.zero.cells.toList).flatten++[]).toArray:=by
  rw [List.append_nil,← Va _,N]
 rw [hm];have T:(List.replicate l i.zero.cells.toList).flatten.length=l * i.size:=by
  rw [← Va _,Array.length_toList,size_madeCells,N]
 have D:l≤maxLen:=A;refine M.newrow (spare:=[]) ?_ T (by rw [List.append_nil];exact T) (Nat.le_refl _) D;intro u H;obtain ⟨q,hq,H⟩:=List.mem_flatten.1 H;rw [(List.mem_replicate.1 hq).2] at H
 exact h1 u H
theorem Aww {sz:Nat} {s et:TypeId} {i:TI} {x y:Operand} {kl kc:IntKind} {c:Nat} {zl O:Int} (F:Fits n a e) (M:Mem w0 G L w) (Y:tk P s=.slice et) (ht:TOK P et i) (H:i.size=sz)
  (hx:ev e x=some (.int kl zl)) (N:zl=((0:Nat):Int)) (hy:ev e y=some (.int kc O)) (I:O=(c:Int)) (T:i.bytes * c≤281474976710656) (A:c≤9223372036854775807) (U:Nat.ble (d+1) n=true)
  (k:∀ b w' E,Mem w0 G (.row (.slice (some ⟨b,0,none⟩) 0 c) 0 [] et sz::L) w'→Fits n E ((d,.slice (some ⟨b,0,none⟩) 0 c)::e)→rl P ops Q r E w') :
  rl P ops Q (⟨some d,.makeSlice s x y,t,p,af,none⟩::r) a w:=by
 subst H;refine Bo F (N6 Y ht (F.ev hx) N (F.ev hy) I (Nat.zero_le _) T A) U fun E S=>k _ _ E ?_ S;have V:madeCells i.zero.cells (c * i.size)=([]++(madeCells i.zero.cells (c * i.size)).toList).toArray:=by simp
 rw [V];have D:c≤maxLen:=A
 exact M.newrow (cs:=[]) (n:=0) (by simp) (by simp) (by simp [size_madeCells]) (Nat.zero_le _) D
def L4 (w0:World) (G:Av) (Φ:List Res→Value→Prop):Ending→World→Prop
 | .returned v,w'=>∃ L',Mem w0 G L' w'∧Φ L' v
 | _,_=>False
theorem Aft {f:FuncId} {args:List Operand} {E:Array TypeId} {vs:List Value} {Φ:List Res→Value→Prop}
  (F:Fits n a e) (S:Ent P f) (V:evs e args=some vs) (T:Nat.ble (d+1) n=true) (U:Calls P f vs.toArray w (L4 w0 G Φ))
  (k:∀ v A w' D,Mem w0 G A w'→Φ A v→Fits n D ((d,v)::e)→rl P ops Q r D w') :
  rl P ops Q (⟨some d,.call ⟨.value (.func f),args.toArray,E⟩,t,p,af,none⟩::r) a w:=by
 refine Jo (caps:=[]) F S rfl V T (by rw [List.append_nil];exact U) fun x w' H=>?_
 cases x with
 | returned v=>obtain ⟨A,N,O⟩:=H;exact ⟨v,rfl,fun D I=>k v A w' D N O I⟩
 | panicked c=>exact H.elim
 | outgrown=>exact H.elim
end
end Go.Y
