/- The generic core, first part: frames, memory, readings, rules. -/
import Derived.WalkKit
import Derived.ScopeJumps
import Derived.IntWalk
import Derived.KernelRfl
import Derived.Deep.QuietTactic
set_option linter.unusedSimpArgs false
set_option linter.unusedVariables false
namespace Go.Y
open Go
theorem dT {p:Prop} [Decidable p] (h:decide p=true):p:=of_decide_eq_true h
theorem dF {p:Prop} [Decidable p] (h:decide p=false):¬ p:=of_decide_eq_false h
theorem bE (b:Bool):b=true∨b=false:=Bool.eq_false_or_eq_true b
theorem sR {α:Type} (l:List α):List.Sublist l l:=List.Sublist.refl l
theorem dS1 {α:Type} {a0:α} {l:List α}:l.Sublist (a0::l):=.cons _ (List.Sublist.refl _)
theorem dS2 {α:Type} {a0 a1:α} {l:List α}:l.Sublist (a0::a1::l):=.cons _ (.cons _ (List.Sublist.refl _))
theorem dS3 {α:Type} {a0 a1 a2:α} {l:List α}:l.Sublist (a0::a1::a2::l):=.cons _ (.cons _ (.cons _ (List.Sublist.refl _)))
theorem dS4 {α:Type} {a0 a1 a2 a3:α} {l:List α}:l.Sublist (a0::a1::a2::a3::l):=.cons _ (.cons _ (.cons _ (.cons _ (List.Sublist.refl _))))
theorem dS5 {α:Type} {a0 a1 a2 a3 a4:α} {l:List α}:l.Sublist (a0::a1::a2::a3::a4::l):=.cons _ (.cons _ (.cons _ (.cons _ (.cons _ (List.Sublist.refl _)))))
theorem dS6 {α:Type} {a0 a1 a2 a3 a4 a5:α} {l:List α}:l.Sublist (a0::a1::a2::a3::a4::a5::l):=.cons _ (.cons _ (.cons _ (.cons _ (.cons _ (.cons _ (List.Sublist.refl _))))))
theorem dS7 {α:Type} {a0 a1 a2 a3 a4 a5 a6:α} {l:List α}:l.Sublist (a0::a1::a2::a3::a4::a5::a6::l):=.cons _ (.cons _ (.cons _ (.cons _ (.cons _ (.cons _ (.cons _ (List.Sublist.refl _)))))))
theorem dS8 {α:Type} {a0 a1 a2 a3 a4 a5 a6 a7:α} {l:List α}:l.Sublist (a0::a1::a2::a3::a4::a5::a6::a7::l):=.cons _ (.cons _ (.cons _ (.cons _ (.cons _ (.cons _ (.cons _ (.cons _ (List.Sublist.refl _))))))))
theorem dS9 {α:Type} {a0 a1 a2 a3 a4 a5 a6 a7 a8:α} {l:List α}:l.Sublist (a0::a1::a2::a3::a4::a5::a6::a7::a8::l):=.cons _ (.cons _ (.cons _ (.cons _ (.cons _ (.cons _ (.cons _ (.cons _ (.cons _ (List.Sublist.refl _)))))))))
theorem dS10 {α:Type} {a0 a1 a2 a3 a4 a5 a6 a7 a8 a9:α} {l:List α}:l.Sublist (a0::a1::a2::a3::a4::a5::a6::a7::a8::a9::l):=.cons _ (.cons _ (.cons _ (.cons _ (.cons _ (.cons _ (.cons _ (.cons _ (.cons _ (.cons _ (List.Sublist.refl _))))))))))
theorem dS11 {α:Type} {a0 a1 a2 a3 a4 a5 a6 a7 a8 a9 a10:α} {l:List α}:l.Sublist (a0::a1::a2::a3::a4::a5::a6::a7::a8::a9::a10::l):=.cons _ (.cons _ (.cons _ (.cons _ (.cons _ (.cons _ (.cons _ (.cons _ (.cons _ (.cons _ (.cons _ (List.Sublist.refl _)))))))))))
theorem dS12 {α:Type} {a0 a1 a2 a3 a4 a5 a6 a7 a8 a9 a10 a11:α} {l:List α}:l.Sublist (a0::a1::a2::a3::a4::a5::a6::a7::a8::a9::a10::a11::l):=.cons _ (.cons _ (.cons _ (.cons _ (.cons _ (.cons _ (.cons _ (.cons _ (.cons _ (.cons _ (.cons _ (.cons _ (List.Sublist.refl _))))))))))))
abbrev Env:=List (Nat × Value)
def look:Env→Nat→Option Value
 | [],_=>none
 | (i,v)::e,j=>match Nat.beq i j with
  | true=>some v
  | false=>look e j
structure Fits (n:Nat) (a:Act) (e:Env):Prop where
 size:a.tmps.size=n
 defers:a.defers=[]
 slot:∀ i v,look e i=some v→a.tmps[i]?=some v
def ev (e:Env):Operand→Option Value
 | .tmp i=>look e i
 | .const v=>some v
 | .global g=>some (.pointer (some ⟨g,0,none⟩))
 | .func f=>some (.func (.func f) #[] #[])
section
variable {n:Nat} {a:Act} {e:Env}
theorem Fits.ev (F:Fits n a e) {x:Operand} {v:Value} (h:ev e x=some v):a.eval x=v:=by
 cases x with
 | tmp i =>
  have:=F.slot i v h
  simp [Act.eval,Array.getD_eq_getD_getElem?,this]
 | const c=>simpa [Y.ev,Act.eval] using h
 | global g=>simpa [Y.ev,Act.eval] using h
 | func f=>simpa [Y.ev,Act.eval] using h
theorem K1 {i j:Nat} {v:Value} (h:i≠j):look ((i,v)::e) j=look e j:=by
 have:Nat.beq i j=false:=by
  cases hb:Nat.beq i j with
  | false=>rfl
  | true=>exact absurd (Nat.eq_of_beq_eq_true hb) h
 simp [look,this]
theorem K2 {i:Nat} {v:Value}:look ((i,v)::e) i=some v:=by
 simp [look]
theorem Fits.put (F:Fits n a e) {d:Nat} {v:Value} (hd:Nat.ble (d+1) n=true):Fits n (a.put (some d) v) ((d,v)::e):=by
 have hd':d < n:=Nat.le_of_ble_eq_true hd;refine ⟨by simp [Act.put,F.size],F.defers,?_⟩;intro i u hi
 by_cases h:d=i
 ·subst h;rw [K2] at hi;simp only [Option.some.injEq] at hi;subst hi
  simp [Act.put,F.size,hd']
 ·rw [K1 h] at hi;simp only [Act.put];rw [Array.getElem?_setIfInBounds_ne h]
  exact F.slot i u hi
theorem Fits.sub (F:Fits n a e) {e':Env} (h:∀ i v,look e' i=some v→look e i=some v):Fits n a e' :=
 ⟨F.size,F.defers,fun i v hi=>F.slot i v (h i v hi)⟩
def Sub (e:Env):Env→Prop
 | []=>True
 | (i,v)::r=>look e i=some v∧Sub e r
theorem Sub.look {e':Env} (h:Sub e e'):∀ i v,look e' i=some v→look e i=some v:=by
 induction e' with
 | nil=>intro i v h;simp [Y.look] at h
 | cons p r ih =>
  obtain ⟨j,u⟩:=p;intro i v hi
  by_cases hji:j=i
  ·subst hji;rw [K2] at hi;simp only [Option.some.injEq] at hi;subst hi
   exact h.1
  ·rw [K1 hji] at hi
   exact ih h.2 i v hi
theorem Fits.to (F:Fits n a e) {e':Env} (h:Sub e e'):Fits n a e':=F.sub h.look
end
section
variable {P:Program} {ops:Array Oper} {Q:Exit→Act→World→Prop}
def rl (P:Program) (ops:Array Oper) (Q:Exit→Act→World→Prop):List Oper→Act→World→Prop
 | [],a,w=>Q .normal a w
 | o::r,a,w =>
  (Region.wanted o (yielded ops a.tmps)=true→o.wp P a w (rl P ops Q r) Q) ∧
  (Region.wanted o (yielded ops a.tmps)=false→rl P ops Q r (a.put o.dst undef) w)
theorem Jn:∀ (l:List Nat) (a:Act) (w:World),rl P ops Q (l.filterMap (ops[·]?)) a w→wpOps P ops Q l a w
 | [],a,w,h=>h
 | i::l,a,w,h=>by
  cases ho:ops[i]? with
  | none =>
   simp only [wpOps,ho];simp only [List.filterMap_cons,ho] at h
   exact Jn l a w h
  | some o =>
   simp only [wpOps,ho];simp only [List.filterMap_cons,ho,rl] at h
   by_cases hw:Region.wanted o (yielded ops a.tmps)=true
   ·simp only [hw,if_true]
    exact .inl (Oper.wp_mono (fun a w=>Jn l a w) (h.1 hw))
   ·simp only [hw]
    exact Jn l _ _ (h.2 (by simpa using hw))
theorem Ih (ops:Array Oper):(List.range ops.size).filterMap (ops[·]?)=ops.toList:=by
 apply List.ext_getElem?
 intro i;have h:∀ m,m≤ops.size→(List.range m).filterMap (ops[·]?)=ops.toList.take m:=by
  intro m
  induction m with
  | zero=>intro _;simp
  | succ m ih =>
   intro hm;rw [List.range_succ,List.filterMap_append,ih (by omega)];have:ops[m]?=some ops[m]:=Array.getElem?_eq_getElem (by omega);simp only [List.filterMap_cons,this,List.filterMap_nil];rw [List.take_succ_eq_append_getElem (by simpa using (by omega:m < ops.size))]
   simp
 rw [h _ (Nat.le_refl _),List.take_of_length_le (by simp)]
theorem Amh {id:Nat} {a:Act} {w:World} (h:rl P ops Q ops.toList a w):(Code.region id ops false).wp P Q a w :=
 wp_region (Jn _ a w (by rw [Ih];exact h))
theorem Ami {id:Nat} {l:List Oper} {a:Act} {w:World} (h:rl P l.toArray Q l a w):(Code.region id l.toArray false).wp P Q a w :=
 Amh (by simpa using h)
theorem F0 {a:Act} {w:World} (h:Q .normal a w):rl P ops Q [] a w:=h
theorem Bf {n:Nat} {a:Act} {w:World} {e:Env} {d:Nat} {op:Op} {t:TypeId} {p:String} {af:Array Edge} {r:List Oper} {v:Value} {w':World}
  (F:Fits n a e) (hr:(execOp a.eval ⟨some d,op,t,p,af,none⟩).run P w=.ok (.value v) w') (hd:Nat.ble (d+1) n=true)
  (k:∀ a',Fits n a' ((d,v)::e)→rl P ops Q r a' w'):rl P ops Q (⟨some d,op,t,p,af,none⟩::r) a w:=by
 refine ⟨fun _=>?_,fun h=>by simp [Region.wanted] at h⟩;unfold Oper.wp;rw [hr]
 exact k _ (F.put hd)
theorem Ow {n:Nat} {a:Act} {w:World} {e:Env} {op:Op} {t:TypeId} {p:String} {af:Array Edge} {r:List Oper} {w':World}
  (F:Fits n a e) (hr:(execOp a.eval ⟨none,op,t,p,af,none⟩).run P w=.ok .skip w')
  (k:∀ a',Fits n a' e→rl P ops Q r a' w'):rl P ops Q (⟨none,op,t,p,af,none⟩::r) a w:=by
 refine ⟨fun _=>?_,fun h=>by simp [Region.wanted] at h⟩;unfold Oper.wp;rw [hr]
 exact k _ F
theorem Aaj {n:Nat} {a:Act} {w:World} {e:Env} {d:Nat} {op:Op} {t:TypeId} {p:String} {af:Array Edge} {r:List Oper} {j g:Nat} {want b:Bool}
  (F:Fits n a e) (hj:(ops[j]?).bind (·.dst)=some g) (hb:look e g=some (.bool b)) (hd:Nat.ble (d+1) n=true)
  (yes:b=want→rl P ops Q (⟨some d,op,t,p,af,none⟩::r) a w)
  (no:b = !want→∀ a',Fits n a' ((d,undef)::e)→rl P ops Q r a' w):rl P ops Q (⟨some d,op,t,p,af,some (j,want)⟩::r) a w:=by
 have hy:yielded ops a.tmps j=some b:=by
  simp [yielded,hj,F.slot _ _ hb]
 refine ⟨fun h=>?_,fun h=>?_⟩
 ·have:b=want:=by simpa [Region.wanted,hy] using h
  exact (yes this).1 rfl
 ·have:b = !want:=by
   have h':¬ b=want:=by simpa [Region.wanted,hy] using h
   cases b <;> cases want <;> simp_all
  exact no this _ (F.put hd)
end
section
variable {P:Program} {Q:Exit→Act→World→Prop} {n:Nat} {a:Act} {w:World} {e:Env}
theorem w_cond {c:Operand} {x y:Code} {t:Bool} (F:Fits n a e) (hc:ev e c=some (.bool t)) (ht:t=true→x.wp P Q a w)
  (hf:t=false→y.wp P Q a w):(Code.cond c x y).wp P Q a w:=wp_cond_split (F.ev hc) ht hf
theorem Amk {c:Operand} {x y:Code} {t:Bool} (F:Fits n a e) (hc:ev e c=some (.bool t)) (ht:t=true) (k:x.wp P Q a w):(Code.cond c x y).wp P Q a w :=
 wp_cond_split (F.ev hc) (fun _=>k) (fun h=>by rw [ht] at h;cases h)
theorem Aml {c:Operand} {x y:Code} {t:Bool} (F:Fits n a e) (hc:ev e c=some (.bool t)) (ht:t=false) (k:y.wp P Q a w):(Code.cond c x y).wp P Q a w :=
 wp_cond_split (F.ev hc) (fun h=>by rw [ht] at h;cases h) (fun _=>k)
theorem Jo {c:Code} (R:Act→World→Prop) (h:c.wp P (fun e a w=>match e with | .normal=>R a w | e=>Q e a w) a w)
  (k:∀ a w,R a w→Q .normal a w):c.wp P Q a w :=
 wp_mono h fun e a w h=>by cases e <;> first | exact k _ _ h | exact h
theorem w_loop {σ:Type} {c:Code} (I:σ→Act→World→Prop) (rk:σ→Nat) (s0:σ) (h0:I s0 a w)
  (round:∀ s a w,I s a w→c.wp P (Exit.then (fun a' w'=>∃ s',rk s' < rk s∧I s' a' w') Q) a w):(Code.loop c).wp P Q a w:=by
 intro b k cs;have key:∀ n s a w,rk s=n→I s a w →
   ∃ e a' w',Q e a' w'∧Arrives P (lone (b.at a (.code c::.inLoop c::k)) cs w) b k cs e a' w':=by
  intro n
  induction n using Nat.strongRecOn with
  | _ n ih =>
   intro s a w hn hI;obtain ⟨e,a₁,w₁,hq,harr⟩:=round s a w hI b (.inLoop c::k) cs
   cases e with
   | normal =>
    obtain ⟨s',hlt,hI₁⟩:=hq;obtain ⟨e₂,a₂,w₂,hq₂,harr₂⟩:=ih (rk s') (hn ▸ hlt) s' a₁ w₁ rfl hI₁
    exact ⟨e₂,a₂,w₂,hq₂,.of_steps (Steps.trans harr (.one step_inLoop)) harr₂⟩
   | exit id=>exact ⟨_,a₁,w₁,hq,.pass (x:=.inLoop c) rfl (fun _ _=>.inl (by simp)) harr⟩
   | goto l=>exact ⟨_,a₁,w₁,hq,.pass (x:=.inLoop c) rfl (fun _ _=>.inl (by simp)) harr⟩
   | ret=>exact ⟨_,a₁,w₁,hq,.pass (x:=.inLoop c) rfl (fun _ _=>.inl (by simp)) harr⟩
   | panic ch=>exact ⟨_,a₁,w₁,hq,.pass (x:=.inLoop c) rfl (fun _ _=>.inl (by simp)) harr⟩
   | outgrown=>exact ⟨_,a₁,w₁,hq,.pass (x:=.inLoop c) rfl (fun _ _=>.inl (by simp)) harr⟩
 obtain ⟨e,a',w',hq,harr⟩:=key _ s0 a w rfl h0
 exact ⟨e,a',w',hq,.of_steps (.one step_loop) harr⟩
theorem Aas {id:Nat} (h:Q .normal a w):Exit.inBlock id Q (.exit id) a w:=by simpa [Exit.inBlock] using h
theorem Yq {id j:Nat} (hj:j≠id) (h:Q (.exit j) a w):Exit.inBlock id Q (.exit j) a w:=by simpa [Exit.inBlock,hj] using h
end
section
variable {P:Program} {R:Ending→World→Prop} {w:World}
def Rt:Nat→List Value→Env
 | _,[]=>[]
 | i,v::vs=>(i,v)::Rt (i+1) vs
theorem N2:∀ (vs:List Value) (k i:Nat) (v:Value),look (Rt k vs) i=some v→k≤i∧vs[i - k]?=some v
 | [],k,i,v,h=>by simp [Rt,look] at h
 | u::vs,k,i,v,h=>by
  by_cases hk:k=i
  ·subst hk;simp only [Rt] at h;rw [K2] at h
   simpa using h
  ·simp only [Rt] at h;rw [K1 hk] at h;obtain ⟨h1,h2⟩:=N2 vs (k+1) i v h;refine ⟨by omega,?_⟩;rw [show i - k=(i - (k+1))+1 by omega]
   simpa using h2
theorem Ada {f:FuncId} {fn:Func} {c:Code} {vs:List Value} (hf:P.funcs[f]?=some fn) (hb:fn.body=some c) {n:Nat} (hn:fn.ntmps=n) (hs:Nat.ble vs.length n=true)
  (h:∀ a,Fits n a (Rt 0 vs)→c.wp P (bodyPost P fn R) a w):Calls P f vs.toArray w R:=by
 have hs':=Nat.le_of_ble_eq_true hs;refine calls_of_wp hf hb (h _ ⟨by simp [hn];omega,rfl,?_⟩);intro i v hi;obtain ⟨_,h2⟩:=N2 vs 0 i v hi;have hlt:i < vs.length:=by
  rcases Nat.lt_or_ge i vs.length with h' | h'
  ·exact h'
  ·simp [List.getElem?_eq_none h'] at h2
 simp only [Nat.sub_zero] at h2;rw [Array.getElem?_append_left (by simpa using hlt)]
 simpa using h2
theorem K6 {fn:Func} {n:Nat} {a:Act} {e:Env} (F:Fits n a e) {v:Value} (hr:(results fn a.tmps).run P w=.ok v w) (h:R (.returned v) w):bodyPost P fn R .ret a w :=
 ⟨F.defers,v,hr,h⟩
theorem fin0 {fn:Func} {n:Nat} {a:Act} {e:Env} (F:Fits n a e) (hf:fn.results = #[]) (h:R (.returned (.tuple #[])) w):bodyPost P fn R .ret a w :=
 K6 F (v:=.tuple #[]) (results_none hf _ _ _) h
theorem Aqs {fn:Func} {n:Nat} {a:Act} {e:Env} (F:Fits n a e) (hf:fn.results = #[]) (h:R (.returned (.tuple #[])) w):bodyPost P fn R .normal a w:=fin0 F hf h
theorem Mw {a:Act} {n:Nat} {e:Env} (F:Fits n a e) {t:Nat} {v:Value} (h:look e t=some v):a.tmps.getD t undef=v:=by
 simp [Array.getD_eq_getD_getElem?,F.slot _ _ h]
theorem fin1 {fn:Func} {n:Nat} {a:Act} {e:Env} (F:Fits n a e) {t:Nat} {v:Value} (hf:fn.results = #[.tmp t]) (hv:look e t=some v) (h:R (.returned v) w):bodyPost P fn R .ret a w :=
 K6 F (v:=v) (by rw [results_tmp hf,Mw F hv]) h
theorem fin2 {fn:Func} {n:Nat} {a:Act} {e:Env} (F:Fits n a e) {t u:Nat} {v x:Value} (hf:fn.results = #[.tmp t,.tmp u]) (hv:look e t=some v) (hx:look e u=some x) (h:R (.returned (.tuple #[v,x])) w):bodyPost P fn R .ret a w :=
 K6 F (v:=.tuple #[v,x]) (by rw [results_tmp2 hf,Mw F hv,Mw F hx]) h
theorem fin3 {fn:Func} {n:Nat} {a:Act} {e:Env} (F:Fits n a e) {t u s:Nat} {v x y:Value} (hf:fn.results = #[.tmp t,.tmp u,.tmp s]) (hv:look e t=some v) (hx:look e u=some x) (hy:look e s=some y) (h:R (.returned (.tuple #[v,x,y])) w):bodyPost P fn R .ret a w :=
 K6 F (v:=.tuple #[v,x,y]) (by rw [results_tmp3 hf,Mw F hv,Mw F hx,Mw F hy]) h
end
end Go.Y
namespace Go.Y
open Go
inductive TK where
 | int (k:IntKind) | bool | str | ptr (e:Nat) | slice (e:Nat) | struct (fs:List (Nat × Nat × Nat)) | array (n e:Nat)
 | map (k e:Nat) | func | iface | other
def tk (P:Program) (t:TypeId):TK:=match P.underlying t with
 | some (.int k)=>.int k
 | some .bool=>.bool
 | some .string=>.str
 | some (.pointer e)=>.ptr e
 | some (.slice e)=>.slice e
 | some (.struct fs)=>.struct (fs.toList.map fun f=>(f.offset,P.cellsOf f.type,f.type))
 | some (.array n e)=>.array n e
 | some (.map k e)=>.map k e
 | some (.func ..)=>.func
 | some (.interface _)=>.iface
 | _=>.other
structure TI where
 k:TK
 size:Nat
 bytes:Nat
 zero:Value
structure TOK (P:Program) (t:TypeId) (i:TI):Prop where
 k:tk P t=i.k
 sb:(P.info? t).map (fun x=>(x.size,x.bytes))=some (i.size,i.bytes)
 z:(P.info? t).bind (·.zero)=some i.zero
section
variable {P:Program} {t:TypeId} {i:TI} {w:World}
theorem TOK.info (h:TOK P t i):∃ x,P.info? t=some x∧x.size=i.size∧x.bytes=i.bytes∧x.zero=some i.zero:=by
 have h1:=h.sb;have h2:=h.z
 cases hx:P.info? t with
 | none=>rw [hx] at h1;simp at h1
 | some x =>
  rw [hx] at h1 h2
  simp at h1 h2
  exact ⟨x,rfl,h1.1,h1.2,h2⟩
theorem TOK.typeInfo (h:TOK P t i):∃ x,(typeInfo t).run P w=.ok x w∧x.size=i.size∧x.bytes=i.bytes∧x.zero=some i.zero:=by
 obtain ⟨x,hx,h1⟩:=h.info;refine ⟨x,?_,h1⟩
 simp [Go.typeInfo,program,Sem.run_bind,Sem.run,hx]
theorem TOK.sizeOf (h:TOK P t i):(sizeOf t).run P w=.ok i.size w:=by
 obtain ⟨x,hx,h1,_⟩:=h.typeInfo (w:=w);simp only [Go.sizeOf,Sem.run_bind,hx,Result.andThen_ok,Sem.run_pure,h1]
theorem TOK.zeroValue (h:TOK P t i):(zeroValue t).run P w=.ok i.zero w:=by
 obtain ⟨x,hx,h1,h2,h3⟩:=h.typeInfo (w:=w);simp only [Go.zeroValue,Sem.run_bind,hx,Result.andThen_ok,h3,Sem.run_pure]
theorem C9 {e:Nat} (h:tk P t=.slice e):P.underlying t=some (.slice e):=by
 unfold tk at h
 split at h <;> simp_all
theorem Hg {fs:List (Nat × Nat × Nat)} (h:tk P t=.struct fs):∃ f:Array Field,P.underlying t=some (.struct f)∧f.toList.map (fun f=>(f.offset,P.cellsOf f.type,f.type))=fs:=by
 unfold tk at h
 split at h <;> simp_all
theorem Dz {n e:Nat} (h:tk P t=.array n e):P.underlying t=some (.array n e):=by
 unfold tk at h
 split at h <;> simp_all
theorem Kf (h:tk P t=.str):P.underlying t=some .string:=by
 unfold tk at h
 split at h <;> simp_all
theorem Bo {k:IntKind} (h:tk P t=.int k):P.underlying t=some (.int k):=by
 unfold tk at h
 split at h <;> simp_all
theorem Si (h:tk P t=.bool):P.underlying t=some .bool:=by
 unfold tk at h
 split at h <;> simp_all
theorem Kg {e:Nat} (h:tk P t=.ptr e):P.underlying t=some (.pointer e):=by
 unfold tk at h
 split at h <;> simp_all
def TK.agg:TK→Option Bool
 | .struct _ | .array ..=>some true
 | .other=>none
 | _=>some false
theorem B0 {d:TypeDesc} (h:P.underlying t=some d):(underlying t).run P w=.ok d w:=by
 simp [underlying,program,Sem.run_bind,Sem.run,h]
theorem Q7 (h:(tk P t).agg=some false):(isAgg t).run P w=.ok false w:=by
 unfold tk at h
 split at h <;> simp [TK.agg] at h <;> (rename_i hu;simp [isAgg,Sem.run_bind,B0 hu])
theorem Q6 (h:(tk P t).agg=some true):(isAgg t).run P w=.ok true w:=by
 unfold tk at h
 split at h <;> simp [TK.agg] at h <;> (rename_i hu;simp [isAgg,Sem.run_bind,B0 hu])
end
abbrev Aq:=Nat→Option Obj
def Gle (G G':Aq):Prop:=∀ r o,G r=some o→G' r=some o
theorem Gle.refl (G:Aq):Gle G G:=fun _ _ h=>h
theorem Gle.trans {G G' G'':Aq} (h:Gle G G') (h':Gle G' G''):Gle G G'':=fun r o hr=>h' r o (h r o hr)
def Hc (G:Aq) (b o:Nat):Option Value:=match G b with
 | some (.cells c _ _)=>c[o]?
 | _=>none
theorem K4 {G G':Aq} (h:Gle G G') {b o:Nat} {v:Value} (hv:Hc G b o=some v):Hc G' b o=some v:=by
 unfold Hc at *
 split at hv
 ·rename_i c t f hb;rw [h _ _ hb];exact hv
 ·cases hv
inductive Res where
 | blk (b:Nat) (cs:List Value) (t:TypeId)
 | row (v:Value) (n:Nat) (cs:List Value) (t:TypeId) (sz:Nat)
 | obj (b:Nat) (o:Obj)
def Res.foot:Res→Option Nat
 | .blk b _ _=>some b
 | .obj b _=>some b
 | .row v _ _ _ _=>v.ownBlock
def rowIs (w:World) (v:Value) (n:Nat) (cs:List Value) (t:TypeId) (sz:Nat):Prop:=w.ownsRow 0 t sz v n cs∧∀ u∈cs,u.oneCell' = true
def Res.holds (w:World):Res→Prop
 | .blk b cs t=>w.heap[b]?=some (.cells cs.toArray t (0,0))
 | .obj b o=>w.heap[b]?=some o
 | .row v n cs t sz=>rowIs w v n cs t sz
structure Mem (w0:World) (G:Aq) (L:List Res) (w:World):Prop where
 os:w.os=w0.os
 tape:w.tape=w0.tape
 output:w.output=w0.output
 grow:w0.heap.size≤w.heap.size
 pers:∀ r o,G r=some o→w.heap[r]?=some o
 own:∀ x∈L,x.holds w
 free:∀ x∈L,∀ b,x.foot=some b→G b=none
 apart:L.Pairwise (fun x y=>∀ b,x.foot=some b→y.foot≠some b)
theorem Hy {w:World} {b:Nat} {o:Obj} (h:w.heap[b]?=some o):b < w.heap.size:=by
 rcases Nat.lt_or_ge b w.heap.size with h' | h'
 ·exact h'
 ·simp [Array.getElem?_eq_none h'] at h
theorem Res.foot_lt {w:World} {x:Res} (h:x.holds w) {b:Nat} (hb:x.foot=some b):b < w.heap.size:=by
 cases x with
 | blk b' cs t=>simp only [Res.foot,Option.some.injEq] at hb;subst hb;exact Hy h
 | obj b' o=>simp only [Res.foot,Option.some.injEq] at hb;subst hb;exact Hy h
 | row v n cs t sz=>exact (h.1.lt b hb).2
theorem Res.holds_of {w w':World} {x:Res} (h:x.holds w) (hs:∀ b,x.foot=some b→w'.heap[b]?=w.heap[b]?):x.holds w':=by
 cases x with
 | blk b' cs t=>simp only [Res.holds] at *;rw [hs b' rfl];exact h
 | obj b' o=>simp only [Res.holds] at *;rw [hs b' rfl];exact h
 | row v n cs t sz =>
  obtain ⟨⟨h1,h2⟩,h3⟩:=h;refine ⟨⟨h1,?_⟩,h3⟩
  rcases h2 with h2 | ⟨g,cap,cur,rfl,h4,h5,h6⟩
  ·exact Or.inl h2
  ·exact Or.inr ⟨g,cap,cur,rfl,h4,by rw [hs g rfl];exact h5,h6⟩
section
variable {P:Program} {w0 w:World} {G:Aq} {L:List Res}
theorem Mem.same (M:Mem w0 G L w) {w':World} (h1:w'.os=w.os) (h2:w'.tape=w.tape) (h3:w'.output=w.output) (h4:w.heap.size≤w'.heap.size)
    (h5:∀ b,b < w.heap.size→w'.heap[b]?=w.heap[b]?):Mem w0 G L w' :=
  ⟨h1.trans M.os,h2.trans M.tape,h3.trans M.output,Nat.le_trans M.grow h4,
   fun r o hr=>by have:=M.pers r o hr;rw [h5 r (Hy this)];exact this,
   fun x hx=>Res.holds_of (M.own x hx) fun b hb=>h5 b (Res.foot_lt (M.own x hx) hb),M.free,M.apart⟩
theorem Mem.drew (M:Mem w0 G L w) (k:Nat):Mem w0 G L { w with drawn:=k }:=M.same rfl rfl rfl (Nat.le_refl _) (fun _ _=>rfl)
theorem Mem.cell (M:Mem w0 G L w) {b o:Nat} {v:Value} (h:Hc G b o=some v):w.cell? ⟨b,o,none⟩=some v:=by
 unfold Hc at h
 split at h
 ·rename_i c t f hb
  simp [World.cell?,M.pers _ _ hb,h]
 ·cases h
theorem Mem.weaken (M:Mem w0 G L w) {L':List Res} (h:L'.Sublist L):Mem w0 G L' w :=
 ⟨M.os,M.tape,M.output,M.grow,M.pers,fun x hx=>M.own x (h.subset hx),fun x hx=>M.free x (h.subset hx),M.apart.sublist h⟩
theorem Mem.perm (M:Mem w0 G L w) {L':List Res} (h:L.Perm L'):Mem w0 G L' w :=
  ⟨M.os,M.tape,M.output,M.grow,M.pers,fun x hx=>M.own x (h.mem_iff.2 hx),fun x hx=>M.free x (h.mem_iff.2 hx),
   h.pairwise M.apart (fun hxy b hb hc=>hxy b hc hb)⟩
theorem Mem.new (M:Mem w0 G L w) (o:Obj):Mem w0 G (.obj w.heap.size o::L) { w with heap:=w.heap.push o }:=by
 have M':Mem w0 G L { w with heap:=w.heap.push o }:=M.same rfl rfl rfl (by simp) (fun b hb=>by
  show (w.heap.push o)[b]?=_
  rw [Array.getElem?_push,if_neg (by omega)])
 refine ⟨M'.os,M'.tape,M'.output,M'.grow,M'.pers,?_,?_,?_⟩
 ·intro x hx
  rcases List.mem_cons.1 hx with rfl | hx
  ·show (w.heap.push o)[w.heap.size]?=some o
   simp
  ·exact M'.own x hx
 ·intro x hx b hb
  rcases List.mem_cons.1 hx with rfl | hx
  ·simp only [Res.foot,Option.some.injEq] at hb;subst hb
   cases hg:G w.heap.size with
   | none=>rfl
   | some o'=>have:=Hy (M.pers _ _ hg);omega
  ·exact M'.free x hx b hb
 ·refine List.pairwise_cons.2 ⟨fun y hy b hb hc=>?_,M.apart⟩;simp only [Res.foot,Option.some.injEq] at hb;subst hb;have:=Res.foot_lt (M.own y hy) hc
  omega
theorem Mem.swap_head {x y:Res} (M:Mem w0 G (x::L) w) {w':World} (hf:y.foot=x.foot) (hy:y.holds w')
  (h1:w'.os=w.os) (h2:w'.tape=w.tape) (h3:w'.output=w.output) (h4:w'.heap.size=w.heap.size)
  (h5:∀ b,x.foot≠some b→w'.heap[b]?=w.heap[b]?):Mem w0 G (y::L) w':=by
 have hap:=List.pairwise_cons.1 M.apart;refine ⟨h1.trans M.os,h2.trans M.tape,h3.trans M.output,by rw [h4];exact M.grow,?_,?_,?_,?_⟩
 ·intro r o hr;rw [h5 r (fun hc=>by have:=M.free x (by simp) r hc;rw [this] at hr;cases hr)]
  exact M.pers r o hr
 ·intro z hz
  rcases List.mem_cons.1 hz with rfl | hz
  ·exact hy
  ·exact Res.holds_of (M.own z (by simp [hz])) fun b hb=>h5 b fun hc=>hap.1 z hz b hc hb
 ·intro z hz b hb
  rcases List.mem_cons.1 hz with rfl | hz
  ·exact M.free x (by simp) b (hf ▸ hb)
  ·exact M.free z (by simp [hz]) b hb
 ·exact List.pairwise_cons.2 ⟨fun z hz b hb=>hap.1 z hz b (hf ▸ hb),hap.2⟩
theorem Mem.grow_head {x y:Res} (M:Mem w0 G (x::L) w) {w':World} (hf:∀ b,y.foot=some b→x.foot=some b∨w.heap.size≤b) (hy:y.holds w')
  (h1:w'.os=w.os) (h2:w'.tape=w.tape) (h3:w'.output=w.output) (h4:w.heap.size≤w'.heap.size)
  (h5:∀ b,b < w.heap.size→x.foot≠some b→w'.heap[b]?=w.heap[b]?):Mem w0 G (y::L) w':=by
 have hap:=List.pairwise_cons.1 M.apart;have hG:∀ r,w.heap.size≤r→G r=none:=fun r hr=>by
  cases hg:G r with
  | none=>rfl
  | some o=>have:=Hy (M.pers _ _ hg);omega
 refine ⟨h1.trans M.os,h2.trans M.tape,h3.trans M.output,Nat.le_trans M.grow h4,?_,?_,?_,?_⟩
 ·intro r o hr;have hp:=M.pers r o hr;rw [h5 r (Hy hp) (fun hc=>by have:=M.free x (by simp) r hc;rw [this] at hr;cases hr)]
  exact hp
 ·intro z hz
  rcases List.mem_cons.1 hz with rfl | hz
  ·exact hy
  ·have hz':=M.own z (by simp [hz])
   exact Res.holds_of hz' fun b hb=>h5 b (Res.foot_lt hz' hb) fun hc=>hap.1 z hz b hc hb
 ·intro z hz b hb
  rcases List.mem_cons.1 hz with rfl | hz
  ·rcases hf b hb with h | h
   ·exact M.free x (by simp) b h
   ·exact hG b h
  ·exact M.free z (by simp [hz]) b hb
 ·refine List.pairwise_cons.2 ⟨fun z hz b hb hc=>?_,hap.2⟩
  rcases hf b hb with h | h
  ·exact hap.1 z hz b h hc
  ·have:=Res.foot_lt (M.own z (by simp [hz])) hc
   omega
theorem Af:∀ (L:List Res) (k:Nat) (x:Res),L[k]?=some x→L.Perm (x::L.eraseIdx k)
 | [],k,x,h=>by simp at h
 | y::L,0,x,h=>by simp at h;subst h;simp
 | y::L,k+1,x,h=>by
  have h':L[k]?=some x:=by simpa using h
  have:=Af L k x h';simp only [List.eraseIdx_cons_succ]
  exact ((this.cons y).trans (List.Perm.swap x y _))
theorem To:∀ (L:List Res) (k:Nat) (x y:Res),L[k]?=some x→(y::L.eraseIdx k).Perm (L.set k y)
 | [],k,x,y,h=>by simp at h
 | z::L,0,x,y,h=>by simp
 | z::L,k+1,x,y,h=>by
  have h':L[k]?=some x:=by simpa using h
  simp only [List.eraseIdx_cons_succ,List.set_cons_succ]
  exact (List.Perm.swap z y _).trans ((To L k x y h').cons z)
theorem Mem.swap_at (M:Mem w0 G L w) {k:Nat} {x y:Res} (hk:L[k]?=some x) {w':World} (hf:y.foot=x.foot) (hy:y.holds w')
  (h1:w'.os=w.os) (h2:w'.tape=w.tape) (h3:w'.output=w.output) (h4:w'.heap.size=w.heap.size)
  (h5:∀ b,x.foot≠some b→w'.heap[b]?=w.heap[b]?):Mem w0 G (L.set k y) w' :=
 ((M.perm (Af L k x hk)).swap_head hf hy h1 h2 h3 h4 h5).perm (To L k x y hk)
theorem Mem.grow_at (M:Mem w0 G L w) {k:Nat} {x y:Res} (hk:L[k]?=some x) {w':World} (hf:∀ b,y.foot=some b→x.foot=some b∨w.heap.size≤b) (hy:y.holds w')
  (h1:w'.os=w.os) (h2:w'.tape=w.tape) (h3:w'.output=w.output) (h4:w.heap.size≤w'.heap.size)
  (h5:∀ b,b < w.heap.size→x.foot≠some b→w'.heap[b]?=w.heap[b]?):Mem w0 G (L.set k y) w' :=
 ((M.perm (Af L k x hk)).grow_head hf hy h1 h2 h3 h4 h5).perm (To L k x y hk)
theorem Mem.freeze (M:Mem w0 G L w) {k:Nat} {b:Nat} {cs:List Value} {t:TypeId} (hk:L[k]?=some (.blk b cs t)) :
  ∃ G',Gle G G'∧G' b=some (.cells cs.toArray t (0,0))∧Mem w0 G' (L.eraseIdx k) w:=by
 have M':=M.perm (Af L k _ hk);have hb:G b=none:=M'.free (.blk b cs t) (by simp) b rfl;have hap:=List.pairwise_cons.1 M'.apart;have hh:w.heap[b]?=some (.cells cs.toArray t (0,0)):=M'.own (.blk b cs t) (by simp);refine ⟨fun r=>if r=b then some (.cells cs.toArray t (0,0)) else G r,?_,by simp,?_⟩
 ·intro r o hr
  by_cases h:r=b
  ·subst h;rw [hb] at hr;cases hr
  ·simp [h,hr]
 ·refine ⟨M.os,M.tape,M.output,M.grow,?_,?_,?_,hap.2⟩
  ·intro r o hr
   by_cases h:r=b
   ·subst h;simp at hr;subst hr;exact hh
   ·simp only [h,if_false] at hr;exact M.pers r o hr
  ·exact fun x hx=>M'.own x (by simp [hx])
  ·intro x hx c hc;have hne:c≠b:=fun e=>hap.1 x hx b rfl (e ▸ hc);simp only [hne,if_false]
   exact M'.free x (by simp [hx]) c hc
theorem Pb {b o:Nat} {v:Value} {c:Array Value} {t:TypeId} {f:Nat × Nat} (h:w.heap[b]?=some (.cells c t f)) :
  (w.setCell ⟨b,o,none⟩ v).heap[b]?=some (.cells (c.setIfInBounds o v) t f):=by
 simp [World.setCell,Array.getElem?_modify,h]
theorem Jd {b o r:Nat} {v:Value} (h:r≠b):(w.setCell ⟨b,o,none⟩ v).heap[r]?=w.heap[r]?:=by
 simp only [World.setCell,Array.getElem?_modify];rw [if_neg (fun e=>h e.symm)]
theorem Mem.cellL (M:Mem w0 G L w) {k b:Nat} {cs:List Value} {t:TypeId} (hk:L[k]?=some (.blk b cs t)) {o:Nat} {v:Value} (hv:cs[o]?=some v) :
  w.cell? ⟨b,o,none⟩=some v:=by
 have hh:w.heap[b]?=some (.cells cs.toArray t (0,0)):=M.own _ (List.mem_of_getElem? hk)
 simp [World.cell?,hh,hv]
theorem Mem.frozenL (M:Mem w0 G L w) {k b:Nat} {cs:List Value} {t:TypeId} (hk:L[k]?=some (.blk b cs t)) (o:Nat) :
  w.frozen? ⟨b,o,none⟩=false:=by
 have hh:w.heap[b]?=some (.cells cs.toArray t (0,0)):=M.own _ (List.mem_of_getElem? hk)
 simp [World.frozen?,hh]
theorem Mem.set (M:Mem w0 G L w) {k b:Nat} {cs:List Value} {t:TypeId} (hk:L[k]?=some (.blk b cs t)) (o:Nat) (v:Value) :
  Mem w0 G (L.set k (.blk b (cs.set o v) t)) (w.setCell ⟨b,o,none⟩ v):=by
 have hh:w.heap[b]?=some (.cells cs.toArray t (0,0)):=M.own _ (List.mem_of_getElem? hk);refine M.swap_at hk rfl ?_ rfl rfl rfl (by simp [World.setCell]) ?_
 ·show (w.setCell _ _).heap[b]?=_
  rw [Pb hh];simp
 ·intro r hr
  exact Jd (fun e=>hr (by simp [Res.foot,e]))
end
end Go.Y
namespace Go.Y
open Go
section
variable {P:Program} {w:World} {ρ:Operand→Value} {d:Option Tmp} {t:TypeId} {p:String} {af:Array Edge} {g:Option (Nat × Bool)}
theorem Fi {x:Operand} {v:Value} (hx:ρ x=v):(execOp ρ ⟨d,.move x,t,p,af,g⟩).run P w=.ok (.value v) w:=by simp [execOp,hx]
theorem Gy {x:Operand} {v:Value} (hx:ρ x=v):(execOp ρ ⟨d,.assign x,t,p,af,g⟩).run P w=.ok (.value v) w:=by simp [execOp,hx]
theorem Nu {c x y:Operand} {b:Bool} {v:Value} (hc:ρ c=.bool b) (hb:b=true) (hx:ρ x=v):(execOp ρ ⟨d,.pick c x y,t,p,af,g⟩).run P w=.ok (.value v) w:=by
 subst hb;simp [execOp,hc,hx,asBool]
theorem Kv {c x y:Operand} {b:Bool} {v:Value} (hc:ρ c=.bool b) (hb:b=false) (hy:ρ y=v):(execOp ρ ⟨d,.pick c x y,t,p,af,g⟩).run P w=.ok (.value v) w:=by
 subst hb;simp [execOp,hc,hy,asBool]
theorem Yb {x:Operand} {a:Addr} (hx:ρ x=.pointer (some a)):(execOp ρ ⟨d,.nilCheck x,t,p,af,g⟩).run P w=.ok (.value (.pointer (some a))) w:=by
 simp [execOp,hx]
theorem Gh {x:Operand} {i:Nat} {vs:Array Value} {v:Value} (hx:ρ x=.tuple vs) (hi:vs[i]?=some v):(execOp ρ ⟨d,.extract x i,t,p,af,g⟩).run P w=.ok (.value v) w:=by
 simp [execOp,hx,Instr.extract,hi]
theorem Ot {x:Operand} {ty:TypeId} {b:Bool} (hx:ρ x=.bool b):(execOp ρ ⟨d,.unOp .not ty x,t,p,af,g⟩).run P w=.ok (.value (.bool (!b))) w:=by
 simp [execOp,hx,Op.unary]
theorem Ct {fn:Fn} {cs:Array Operand} {vs:Array Value} (hv:cs.map ρ=vs):(execOp ρ ⟨d,.makeFunc fn #[] cs,t,p,af,g⟩).run P w=.ok (.value (.func fn #[] vs)) w:=by
 simp [execOp,Instr.makeFunc,hv]
theorem Mm {x y:Operand} {ty yt:TypeId} {k:IntKind} {a b:Int} (hx:ρ x=.int k a) (hy:ρ y=.int k b) :
  (execOp ρ ⟨d,.binOp .add ty x y yt,t,p,af,g⟩).run P w=.ok (.value (.int k (k.wrap (a+b)))) w:=by
 simp [execOp,hx,hy,eqGuard,binOp,Op.intArith]
theorem run_sub {x y:Operand} {ty yt:TypeId} {k:IntKind} {a b:Int} (hx:ρ x=.int k a) (hy:ρ y=.int k b) :
  (execOp ρ ⟨d,.binOp .sub ty x y yt,t,p,af,g⟩).run P w=.ok (.value (.int k (k.wrap (a - b)))) w:=by
 simp [execOp,hx,hy,eqGuard,binOp,Op.intArith]
theorem run_mul {x y:Operand} {ty yt:TypeId} {k:IntKind} {a b:Int} (hx:ρ x=.int k a) (hy:ρ y=.int k b) :
  (execOp ρ ⟨d,.binOp .mul ty x y yt,t,p,af,g⟩).run P w=.ok (.value (.int k (k.wrap (a * b)))) w:=by
 simp [execOp,hx,hy,eqGuard,binOp,Op.intArith]
def Au (k:IntKind) (n:Int):Prop:=k.min≤n∧n≤k.max
theorem Mj {k:IntKind} {n:Int} (h:Au k n):k.wrap n=n:=by
 obtain ⟨h1,h2⟩:=h
 cases k <;> simp [IntKind.min,IntKind.max,IntKind.wrap,IntKind.signed,IntKind.bits] at * <;> omega
theorem Br {n:Int} (h1:-9223372036854775808≤n) (h2:n≤9223372036854775807):Au .i64 n:=⟨h1,h2⟩
theorem Jc {n:Int} (h1:0≤n) (h2:n≤18446744073709551615):Au .u64 n:=⟨h1,h2⟩
theorem Rl {n:Int} (h1:0≤n) (h2:n≤255):Au .u8 n:=⟨h1,h2⟩
theorem Gi {x y:Operand} {ty yt:TypeId} {k:IntKind} {a b:Int} (hx:ρ x=.int k a) (hy:ρ y=.int k b) (h:Au k (a+b)) :
  (execOp ρ ⟨d,.binOp .add ty x y yt,t,p,af,g⟩).run P w=.ok (.value (.int k (a+b))) w:=by
 rw [Mm hx hy,Mj h]
theorem Aaf {x y:Operand} {ty yt:TypeId} {k:IntKind} {a b:Int} (hx:ρ x=.int k a) (hy:ρ y=.int k b) (h:Au k (a - b)) :
  (execOp ρ ⟨d,.binOp .sub ty x y yt,t,p,af,g⟩).run P w=.ok (.value (.int k (a - b))) w:=by
 rw [run_sub hx hy,Mj h]
theorem Lw {x y:Operand} {ty yt:TypeId} {k:IntKind} {a b:Int} (hx:ρ x=.int k a) (hy:ρ y=.int k b) (h:Au k (a * b)) :
  (execOp ρ ⟨d,.binOp .mul ty x y yt,t,p,af,g⟩).run P w=.ok (.value (.int k (a * b))) w:=by
 rw [run_mul hx hy,Mj h]
theorem Agq {x y:Operand} {ty yt:TypeId} {k:IntKind} {a b:Int} (hx:ρ x=.int k a) (hy:ρ y=.int k b) :
  (execOp ρ ⟨d,.binOp .lss ty x y yt,t,p,af,g⟩).run P w=.ok (.value (.bool (decide (a < b)))) w:=by
 simp [execOp,hx,hy,eqGuard,binOp,Op.intCmp]
theorem run_leq {x y:Operand} {ty yt:TypeId} {k:IntKind} {a b:Int} (hx:ρ x=.int k a) (hy:ρ y=.int k b) :
  (execOp ρ ⟨d,.binOp .leq ty x y yt,t,p,af,g⟩).run P w=.ok (.value (.bool (decide (a≤b)))) w:=by
 simp [execOp,hx,hy,eqGuard,binOp,Op.intCmp]
theorem Yc {x y:Operand} {ty yt:TypeId} {k:IntKind} {a b:Int} (hx:ρ x=.int k a) (hy:ρ y=.int k b) :
  (execOp ρ ⟨d,.binOp .gtr ty x y yt,t,p,af,g⟩).run P w=.ok (.value (.bool (decide (b < a)))) w:=by
 simp [execOp,hx,hy,eqGuard,binOp,Op.intCmp]
theorem run_geq {x y:Operand} {ty yt:TypeId} {k:IntKind} {a b:Int} (hx:ρ x=.int k a) (hy:ρ y=.int k b) :
  (execOp ρ ⟨d,.binOp .geq ty x y yt,t,p,af,g⟩).run P w=.ok (.value (.bool (decide (b≤a)))) w:=by
 simp [execOp,hx,hy,eqGuard,binOp,Op.intCmp]
theorem Yd {x y:Operand} {ty yt:TypeId} {k:IntKind} {a b:Int} (hx:ρ x=.int k a) (hy:ρ y=.int k b) :
  (execOp ρ ⟨d,.binOp .eql ty x y yt,t,p,af,g⟩).run P w=.ok (.value (.bool (decide (a=b)))) w:=by
 simp [execOp,hx,hy,eqGuard,binOp,Op.intCmp]
 rfl
theorem Agp {x y:Operand} {ty yt:TypeId} {k:IntKind} {a b:Int} (hx:ρ x=.int k a) (hy:ρ y=.int k b) :
  (execOp ρ ⟨d,.binOp .neq ty x y yt,t,p,af,g⟩).run P w=.ok (.value (.bool (!decide (a=b)))) w:=by
 simp [execOp,hx,hy,eqGuard,binOp,Op.intCmp]
 rfl
theorem run_rem {x y:Operand} {ty yt:TypeId} {k:IntKind} {a b:Int} (hx:ρ x=.int k a) (hy:ρ y=.int k b) (hb:b≠0) :
  (execOp ρ ⟨d,.binOp .rem ty x y yt,t,p,af,g⟩).run P w=.ok (.value (.int k (a.tmod b))) w:=by
 simp [execOp,hx,hy,eqGuard,binOp,Op.intDiv,hb]
theorem C2 {x y:Operand} {ty yt:TypeId} {k:IntKind} {a b:Int} (hx:ρ x=.int k a) (hy:ρ y=.int k b) (ha:0≤a) (hb:0 < b) :
  (execOp ρ ⟨d,.binOp .rem ty x y yt,t,p,af,g⟩).run P w=.ok (.value (.int k (a % b))) w:=by
 rw [run_rem hx hy (by omega),Int.tmod_eq_emod_of_nonneg ha]
theorem Kj {x y:Operand} {ty yt:TypeId} {k:IntKind} {a b:Int} (hx:ρ x=.int k a) (hy:ρ y=.int k b) (ha:0≤a) (hb:0 < b) (hk:Au k a) :
  (execOp ρ ⟨d,.binOp .quo ty x y yt,t,p,af,g⟩).run P w=.ok (.value (.int k (a / b))) w:=by
 have hb':b≠0:=by omega
 have h1:a.tdiv b=a / b:=Int.tdiv_eq_ediv_of_nonneg ha;have h2:Au k (a / b):=by
  obtain ⟨l,r⟩:=hk;have h0:0≤a / b:=Int.ediv_nonneg ha (by omega);have h3:a / b≤a:=Int.ediv_le_self b ha;have h4:k.min≤0:=by cases k <;> simp [IntKind.min,IntKind.signed,IntKind.bits]
  exact ⟨by omega,by omega⟩
 simp [execOp,hx,hy,eqGuard,binOp,Op.intDiv,hb',h1,Mj h2]
theorem Bh {src dst:TypeId} {x:Operand} {k k':IntKind} {a:Int} (hd:tk P dst=.int k) (hs:∃ u,P.underlying src=some u) (hx:ρ x=.int k' a) (h:Au k a) :
  (execOp ρ ⟨d,.convert src dst x,t,p,af,g⟩).run P w=.ok (.value (.int k a)) w:=by
 obtain ⟨u,hu⟩:=hs
 simp [execOp,hx,convert,B0 hu,B0 (Bo hd),Conv.intToInt,Mj h]
theorem P3 (n:Nat) {ty:TypeId} {a b:Bool} (ht:tk P ty=.bool):(Op.equalIn (n+1) ty (.bool a) (.bool b)).run P w=.ok (a==b) w:=by
 simp only [Op.equalIn,Sem.run_bind,B0 (Si ht),Result.andThen_ok,Sem.run_pure]
theorem S7 {ty:TypeId} {a b:Bool} (ht:tk P ty=.bool):(Op.equal ty (.bool a) (.bool b)).run P w=.ok (a==b) w:=P3 9999 ht
theorem Rx (n:Nat) {ty e:TypeId} {a:Option Addr} (ht:tk P ty=.ptr e):(Op.equalIn (n+1) ty (.pointer a) (.pointer none)).run P w=.ok a.isNone w:=by
 cases a <;> simp only [Op.equalIn,Sem.run_bind,B0 (Kg ht),Result.andThen_ok,Sem.run_pure] <;> rfl
theorem Vb {ty e:TypeId} {a:Option Addr} (ht:tk P ty=.ptr e):(Op.equal ty (.pointer a) (.pointer none)).run P w=.ok a.isNone w:=Rx 9999 ht
theorem run_neb {x y:Operand} {ty yt:TypeId} {a b:Bool} (ht:tk P ty=.bool) (hx:ρ x=.bool a) (hy:ρ y=.bool b) :
  (execOp ρ ⟨d,.binOp .neq ty x y yt,t,p,af,g⟩).run P w=.ok (.value (.bool (!(a==b)))) w:=by
 simp [execOp,hx,hy,eqGuard,binOp,S7 ht]
theorem Vz {x y:Operand} {ty yt:TypeId} {e:TypeId} {a:Option Addr} (ht:tk P ty=.ptr e) (hx:ρ x=.pointer a) (hy:ρ y=.pointer none) :
  (execOp ρ ⟨d,.binOp .eql ty x y yt,t,p,af,g⟩).run P w=.ok (.value (.bool a.isNone)) w:=by
 simp [execOp,hx,hy,eqGuard,binOp,Vb ht]
theorem Ajn {e:TypeId} {i:TI} (ht:TOK P e i):(execOp ρ ⟨d,.alloc e,t,p,af,g⟩).run P w =
  .ok (.value (.pointer (some ⟨w.heap.size,0,none⟩))) { w with heap:=w.heap.push (.cells i.zero.cells e (0,0)) }:=by
 simp [execOp,Instr.alloc,ht.zeroValue,newVar,newRow,newObj,Sem.run]
theorem run_box {e:TypeId} {x:Operand} {v:Value} (hx:ρ x=v):(execOp ρ ⟨d,.box e x,t,p,af,g⟩).run P w =
  .ok (.value (.pointer (some ⟨w.heap.size,0,none⟩))) { w with heap:=w.heap.push (.cells v.cells e (0,0)) }:=by
 simp [execOp,Instr.box,hx,newVar,newRow,newObj,Sem.run]
theorem Gm {e:TypeId} {a:Addr} {v:Value} (ht:(tk P e).agg=some false) (hc:w.cell? a=some v):(loadVar e a).run P w=.ok v w:=by
 simp [loadVar,Q7 ht,hc]
theorem Cs {e:TypeId} {x:Operand} {a:Addr} {v:Value} (ht:(tk P e).agg=some false) (hx:ρ x=.pointer (some a)) (hc:w.cell? a=some v) :
  (execOp ρ ⟨d,.load e x,t,p,af,g⟩).run P w=.ok (.value v) w:=by
 simp [execOp,Instr.loadAt,Instr.sureAddr,hx,Gm ht hc]
theorem D9 {b o k:Nat}:(⟨b,o,none⟩:Addr).add k=⟨b,o+k,none⟩:=by
 unfold Addr.add
 split
 ·rename_i h;subst h;rfl
 ·rfl
theorem Js {b o:Nat}:∀ (n i:Nat) (acc:Array Value) (cs:List Value),cs.length=n→(∀ j,j < n→w.cell? ⟨b,o+(i+j),none⟩=cs[j]?) →
  (loadCellsFrom ⟨b,o,none⟩ i n acc).run P w=.ok (acc++cs.toArray) w
 | 0,i,acc,cs,hl,hc=>by
  have:cs=[]:=List.eq_nil_of_length_eq_zero hl;subst this
  simp [loadCellsFrom]
 | n+1,i,acc,cs,hl,hc=>by
  match cs,hl with
  | c::cs,hl =>
   have h0:=hc 0 (by omega);simp only [Nat.add_zero,List.getElem?_cons_zero] at h0;have ih:=Js n (i+1) (acc.push c) cs (by simpa using hl) (fun j hj=>by
    have:=hc (j+1) (by omega);simp only [List.getElem?_cons_succ] at this;rw [← this];have e:o+(i+1+j)=o+(i+(j+1)):=by omega
    rw [e])
   simp only [loadCellsFrom,Sem.run_bind,D9];have hl:(load (⟨b,o+i,none⟩:Addr)).run P w=.ok c w:=by simp [h0]
   rw [hl];simp only [Result.andThen_ok,ih]
   simp
theorem Gl {e:TypeId} {i:TI} {b o:Nat} {cs:List Value} (ht:TOK P e i) (ha:i.k.agg=some true) (hl:cs.length=i.size)
  (hc:∀ j,j < i.size→w.cell? ⟨b,o+j,none⟩=cs[j]?):(loadVar e ⟨b,o,none⟩).run P w=.ok (.agg cs.toArray) w:=by
 have h1:=Js (P:=P) (w:=w) (b:=b) (o:=o) i.size 0 #[] cs hl (fun j hj=>by rw [← hc j hj,Nat.zero_add]);simp only [loadVar,Sem.run_bind,Q6 (by rw [ht.k];exact ha),Result.andThen_ok,if_true,ht.sizeOf,loadCells,h1,Sem.run_pure]
 simp
theorem Da {e:TypeId} {i:TI} {x:Operand} {b o:Nat} {cs:List Value} (ht:TOK P e i) (ha:i.k.agg=some true) (hx:ρ x=.pointer (some ⟨b,o,none⟩)) (hl:cs.length=i.size)
  (hc:∀ j,j < i.size→w.cell? ⟨b,o+j,none⟩=cs[j]?):(execOp ρ ⟨d,.load e x,t,p,af,g⟩).run P w=.ok (.value (.agg cs.toArray)) w:=by
 simp [execOp,Instr.loadAt,Instr.sureAddr,hx,Gl ht ha hl hc]
theorem Va {s:TypeId} {x:Operand} {f b o off sz ty:Nat} {fs:List (Nat × Nat × Nat)} (hs:tk P s=.struct fs) (hf:fs[f]?=some (off,sz,ty)) (hz:Nat.beq sz 0=false) (hx:ρ x=.pointer (some ⟨b,o,none⟩)) :
  (execOp ρ ⟨d,.fieldAddr s x f,t,p,af,g⟩).run P w=.ok (.value (.pointer (some ⟨b,o+off,none⟩))) w:=by
 obtain ⟨ff,hu,hff⟩:=Hg hs;subst hff;simp only [List.getElem?_map,Option.map_eq_some_iff] at hf;obtain ⟨fd,hfd,he⟩:=hf;simp only [Prod.mk.injEq] at he;obtain ⟨rfl,h1,rfl⟩:=he;have hfd':ff[f]?=some fd:=by simpa using hfd
 have hsz:P.cellsOf fd.type≠0:=by
  intro h0;rw [h1] at h0;subst h0;simp at hz
 have hi:∃ i,P.info? fd.type=some i∧i.size≠0:=by
  unfold Program.cellsOf at hsz
  cases hii:P.info? fd.type with
  | none=>rw [hii] at hsz;simp at hsz
  | some i=>rw [hii] at hsz;exact ⟨i,rfl,by simpa using hsz⟩
 obtain ⟨i,hi1,hi2⟩:=hi
 simp [execOp,Instr.fieldAt,B0 hu,hfd',hx,Instr.sureAddr,fieldPlace,sizeOf,typeInfo,program,Sem.run,hi1,hi2,D9]
theorem U9 {s e:TypeId} {i:TI} {x y:Operand} {b o n c:Nat} {k:IntKind} {j:Nat} (hs:tk P s=.slice e) (ht:TOK P e i) (hx:ρ x=.slice (some ⟨b,o,none⟩) n c) (hy:ρ y=.int k (j:Int)) (hj:j < n) :
  (execOp ρ ⟨d,.indexAddr s x y,t,p,af,g⟩).run P w=.ok (.value (.pointer (some ⟨b,o+j * i.size,none⟩))) w:=by
 have h2:(j:Int) < (n:Int):=by omega
 simp [execOp,Instr.indexAt,B0 (C9 hs),hx,hy,asIntOf,ht.sizeOf,hj,D9]
theorem Iw {s e:TypeId} {x:Operand} {a:Option Addr} {n c:Nat} (hs:tk P s=.slice e) (hx:ρ x=.slice a n c) :
  (execOp ρ ⟨d,.call ⟨.builtin .len,#[x],#[s]⟩,t,p,af,g⟩).run P w=.ok (.value (.int .i64 n)) w:=by
 simp [execOp,resolve,invoke,builtin,Builtin.len_,B0 (C9 hs),hx,goInt]
theorem Sv {e:TypeId} {i:TI} {x y:Operand} {a:Addr} {v old:Value} (ht:TOK P e i) (h1:i.size=1) (hx:ρ x=.pointer (some a)) (hy:ρ y=v) (hv:v.cells = #[v]) (hna:∀ c,v≠.agg c) (hnt:∀ c,v≠.tuple c)
  (hc:w.cell? a=some old) (hf:w.frozen? a=false) :
  (execOp ρ ⟨d,.store e x y,t,p,af,g⟩).run P w=.ok .skip (w.setCell a v):=by
 have hadd:a.add 0=a:=by simp [Addr.add]
 have hst:(store a v).run P w=.ok () (w.setCell a v):=by
  unfold store
  cases v <;> simp_all [Sem.run]
 simp only [execOp,hx,hy,Instr.storeAt,Instr.sureAddr,storeVar,Sem.run_bind,Sem.run_pure,Result.andThen_ok,ht.sizeOf,h1,hv]
 simp [storeCells,hadd,hst]
end
end Go.Y
namespace Go.Y
open Go
structure Ent (P:Program) (f:FuncId):Prop where
 is:∃ fn,P.funcs[f]?=some fn∧(fn.name== "runtime.NumGoroutine")=false∧fn.body.isNone=false
theorem Ent.mk' {P:Program} {f:FuncId} {fn:Func} (h:P.funcs[f]?=some fn) (h1:(fn.name== "runtime.NumGoroutine")=false) (h2:fn.body.isNone=false):Ent P f:=⟨fn,h,h1,h2⟩
def evs (e:Env):List Operand→Option (List Value)
 | []=>some []
 | x::xs=>match ev e x with
  | some v=>match evs e xs with
   | some vs=>some (v::vs)
   | none=>none
  | none=>none
def Ret (w0:World) (G:Aq) (L:List Res) (Φ:Aq→Value→Prop):Ending→World→Prop
 | .returned v,w'=>∃ G',Gle G G'∧Mem w0 G' L w'∧Φ G' v
 | _,_=>False
def Ht (w0:World) (G:Aq) (Φ:Aq→List Res→Value→Prop):Ending→World→Prop
 | .returned v,w'=>∃ G' L',Gle G G'∧Mem w0 G' L' w'∧Φ G' L' v
 | _,_=>False
section
variable {P:Program} {ops:Array Oper} {Q:Exit→Act→World→Prop} {n:Nat} {a:Act} {w w0:World} {e:Env} {G:Aq} {L:List Res}
 {d:Nat} {t:TypeId} {p:String} {af:Array Edge} {r:List Oper}
theorem Fits.evs (F:Fits n a e):∀ {xs:List Operand} {vs:List Value},evs e xs=some vs→xs.map a.eval=vs
 | [],vs,h=>by simp [Y.evs] at h;subst h;rfl
 | x::xs,vs,h=>by
  simp only [Y.evs] at h
  cases hx:Y.ev e x with
  | none=>rw [hx] at h;simp at h
  | some v =>
   rw [hx] at h
   cases hxs:Y.evs e xs with
   | none=>rw [hxs] at h;simp at h
   | some us =>
    rw [hxs] at h
    simp at h
    subst h
    simp [F.ev hx,F.evs hxs]
theorem P4 {f:FuncId} {args:Array Value} (hE:Ent P f):(callFunc f args).run P w=.ok (.enter f args) w:=by
 obtain ⟨fn,h1,h2,h3⟩:=hE.is;have h2':¬ fn.name = "runtime.NumGoroutine":=by simpa using h2
 have h3':¬ fn.body=none:=by intro hh;rw [hh] at h3;simp at h3
 simp [callFunc,program,Sem.run,h1,h2',h3']
theorem H7 {f:FuncId} {cal:Operand} {args:List Operand} {ats:Array TypeId} {vs caps:List Value} {R:Ending→World→Prop}
  (F:Fits n a e) (hE:Ent P f) (hc:ev e cal=some (.func (.func f) #[] caps.toArray)) (hv:evs e args=some vs) (hd:Nat.ble (d+1) n=true)
  (hs:Calls P f (vs++caps).toArray w R)
  (k:∀ x w',R x w'→∃ v,x=.returned v∧∀ a',Fits n a' ((d,v)::e)→rl P ops Q r a' w') :
  rl P ops Q (⟨some d,.call ⟨.value cal,args.toArray,ats⟩,t,p,af,none⟩::r) a w:=by
 refine ⟨fun _=>?_,fun h=>by simp [Region.wanted] at h⟩;unfold Oper.wp;have hr:(execOp a.eval ⟨some d,.call ⟨.value cal,args.toArray,ats⟩,t,p,af,none⟩).run P w=.ok (.enter f (vs++caps).toArray) w:=by
  have h1:=F.ev hc;have h2:=F.evs hv;simp only [execOp,resolve,h1,Deferred.ofValue,Sem.run_bind,Sem.run_pure,Result.andThen_ok,invoke];rw [show (#[]++Array.map a.eval args.toArray++caps.toArray)=(vs++caps).toArray by simp [← h2]]
  exact P4 hE
 rw [hr];refine Calls.mono hs fun x w' hx=>?_;obtain ⟨v,rfl,hk⟩:=k x w' hx
 exact hk _ (F.put hd)
theorem Yh {f:FuncId} {args:List Operand} {ats:Array TypeId} {vs:List Value} {Φ:Aq→Value→Prop}
  (F:Fits n a e) (hE:Ent P f) (hv:evs e args=some vs) (hd:Nat.ble (d+1) n=true)
  (hs:Calls P f vs.toArray w (Ret w0 G L Φ))
  (k:∀ v G' w' a',Gle G G'→Mem w0 G' L w'→Φ G' v→Fits n a' ((d,v)::e)→rl P ops Q r a' w') :
  rl P ops Q (⟨some d,.call ⟨.value (.func f),args.toArray,ats⟩,t,p,af,none⟩::r) a w:=by
 refine H7 (caps:=[]) F hE rfl hv hd (by rw [List.append_nil];exact hs) fun x w' hx=>?_
 cases x with
 | returned v=>obtain ⟨G',h1,h2,h3⟩:=hx;exact ⟨v,rfl,fun a' F'=>k v G' w' a' h1 h2 h3 F'⟩
 | panicked c=>exact hx.elim
 | outgrown=>exact hx.elim
theorem Ch {f:FuncId} {args:List Operand} {ats:Array TypeId} {vs:List Value} {Φ:Aq→List Res→Value→Prop}
  (F:Fits n a e) (hE:Ent P f) (hv:evs e args=some vs) (hd:Nat.ble (d+1) n=true)
  (hs:Calls P f vs.toArray w (Ht w0 G Φ))
  (k:∀ v G' L' w' a',Gle G G'→Mem w0 G' L' w'→Φ G' L' v→Fits n a' ((d,v)::e)→rl P ops Q r a' w') :
  rl P ops Q (⟨some d,.call ⟨.value (.func f),args.toArray,ats⟩,t,p,af,none⟩::r) a w:=by
 refine H7 (caps:=[]) F hE rfl hv hd (by rw [List.append_nil];exact hs) fun x w' hx=>?_
 cases x with
 | returned v=>obtain ⟨G',L',h1,h2,h3⟩:=hx;exact ⟨v,rfl,fun a' F'=>k v G' L' w' a' h1 h2 h3 F'⟩
 | panicked c=>exact hx.elim
 | outgrown=>exact hx.elim
end
def At (G:Aq) (b o:Nat) (cs:List Value):Prop:=∀ (j:Nat) (v:Value),cs[j]?=some v→Hc G b (o+j)=some v
theorem At.mono {G G':Aq} (h:Gle G G') {b o:Nat} {cs:List Value} (hA:At G b o cs):At G' b o cs:=fun j v hj=>K4 h (hA j v hj)
abbrev Rd (α:Type):=Aq→List Value→α→Prop
def Ho {α:Type} (rd:Rd α):Prop:=∀ G G' cs x,Gle G G'→rd G cs x→rd G' cs x
def Ag {α:Type} (rd:Rd α) (sz:Nat) (G:Aq) (v:Value) (xs:List α):Prop :=
 ∃ a c,v=.slice a xs.length c∧xs.length≤c∧c≤9223372036854775807∧((c=0∧xs=[]) ∨
  ∃ b o,a=some ⟨b,o,none⟩∧∀ i x,xs[i]?=some x→∃ cs,cs.length=sz∧(∀ u∈cs,u.oneCell' = true)∧At G b (o+i * sz) cs∧rd G cs x)
theorem Ag.mono {α:Type} {rd:Rd α} {sz:Nat} {G G':Aq} {v:Value} {xs:List α} (hm:Ho rd) (h:Gle G G') (hS:Ag rd sz G v xs):Ag rd sz G' v xs:=by
 obtain ⟨a,c,h1,h2,h3,h4⟩:=hS;refine ⟨a,c,h1,h2,h3,?_⟩
 rcases h4 with h4 | ⟨b,o,h5,h6⟩
 ·exact Or.inl h4
 ·refine Or.inr ⟨b,o,h5,fun i x hx=>?_⟩;obtain ⟨cs,h7,h10,h8,h9⟩:=h6 i x hx
  exact ⟨cs,h7,h10,h8.mono h,hm _ _ _ _ h h9⟩
theorem Ag.nil {α:Type} {rd:Rd α} {sz:Nat} {G:Aq}:Ag rd sz G (.slice none 0 0) []:=⟨none,0,rfl,Nat.le_refl _,by omega,Or.inl ⟨rfl,rfl⟩⟩
theorem Ag.shape {α:Type} {rd:Rd α} {sz:Nat} {G:Aq} {v:Value} {xs:List α} (hS:Ag rd sz G v xs):∃ a c,v=.slice a xs.length c∧xs.length≤c∧c≤9223372036854775807:=by
 obtain ⟨a,c,h1,h2,h3,_⟩:=hS
 exact ⟨a,c,h1,h2,h3⟩
theorem Ag.index {α:Type} {rd:Rd α} {sz:Nat} {G:Aq} {a:Option Addr} {n c:Nat} {xs:List α} (hS:Ag rd sz G (.slice a n c) xs) {i:Nat} {x:α} (hx:xs[i]?=some x) :
  ∃ b o cs,a=some ⟨b,o,none⟩∧n=xs.length∧cs.length=sz∧At G b (o+i * sz) cs∧rd G cs x:=by
 obtain ⟨a',c',h1,h2,h3,h4⟩:=hS;simp only [Value.slice.injEq] at h1;obtain ⟨rfl,rfl,rfl⟩:=h1
 rcases h4 with ⟨_,rfl⟩ | ⟨b,o,h5,h6⟩
 ·simp at hx
 ·obtain ⟨cs,h7,_,h8,h9⟩:=h6 i x hx
  exact ⟨b,o,cs,h5,rfl,h7,h8,h9⟩
section
variable {P:Program} {ops:Array Oper} {Q:Exit→Act→World→Prop} {n:Nat} {a:Act} {w w0:World} {e:Env} {G:Aq} {L:List Res}
 {d:Nat} {t:TypeId} {p:String} {af:Array Edge} {r:List Oper}
end
end Go.Y
namespace Go.Y
open Go Go.RowKit
def Els {α:Type} (rd:Rd α) (sz:Nat) (G:Aq):List Value→List α→Prop
 | cs,[]=>cs=[]
 | cs,x::xs=>∃ c r,cs=c++r∧c.length=sz∧rd G c x∧Els rd sz G r xs
section
variable {α:Type} {rd:Rd α} {sz:Nat} {G G':Aq} {cs cs':List Value} {xs ys:List α}
theorem Els.length:∀ {xs:List α} {cs:List Value},Els rd sz G cs xs→cs.length=xs.length * sz
 | [],cs,h=>by simp only [Els] at h;subst h;simp
 | x::xs,cs,h=>by
  obtain ⟨c,r,rfl,h1,_,h3⟩:=h;simp only [List.length_append,List.length_cons,h1,Els.length h3,Nat.add_mul,Nat.one_mul]
  omega
theorem Els.nil:Els rd sz G [] []:=rfl
theorem Els.one {x:α} (h:rd G cs x) (hl:cs.length=sz):Els rd sz G cs [x]:=⟨cs,[],by simp,hl,h,rfl⟩
theorem Els.append:∀ {xs:List α} {cs:List Value},Els rd sz G cs xs→Els rd sz G cs' ys→Els rd sz G (cs++cs') (xs++ys)
 | [],cs,h,h'=>by simp only [Els] at h;subst h;simpa using h'
 | x::xs,cs,h,h'=>by
  obtain ⟨c,r,rfl,h1,h2,h3⟩:=h
  exact ⟨c,r++cs',by simp,h1,h2,Els.append h3 h'⟩
theorem Els.mono (hm:Ho rd) (hg:Gle G G'):∀ {xs:List α} {cs:List Value},Els rd sz G cs xs→Els rd sz G' cs xs
 | [],cs,h=>h
 | x::xs,cs,h=>by
  obtain ⟨c,r,rfl,h1,h2,h3⟩:=h
  exact ⟨c,r,rfl,h1,hm _ _ _ _ hg h2,Els.mono hm hg h3⟩
theorem Els.get:∀ {xs:List α} {cs:List Value},Els rd sz G cs xs→∀ {i:Nat} {x:α},xs[i]?=some x→∃ l c r,cs=l++c++r∧l.length=i * sz∧c.length=sz∧rd G c x ∧
  ∀ c' x',c'.length=sz→rd G c' x'→Els rd sz G (l++c'++r) (xs.set i x')
 | [],cs,h,i,x,hx=>by simp at hx
 | y::xs,cs,h,i,x,hx=>by
  obtain ⟨c,r,rfl,h1,h2,h3⟩:=h
  cases i with
  | zero =>
   simp at hx
   subst hx
   exact ⟨[],c,r,by simp,by simp,h1,h2,fun c' x' hc hr=>⟨c',r,by simp,hc,hr,h3⟩⟩
  | succ i =>
   obtain ⟨l,c1,r1,rfl,h4,h5,h6,h7⟩:=Els.get h3 (i:=i) (x:=x) (by simpa using hx);refine ⟨c++l,c1,r1,by simp,by simp [h1,h4,Nat.add_mul];omega,h5,h6,fun c' x' hc hr=>?_⟩
   exact ⟨c,l++c'++r1,by simp,h1,h2,h7 c' x' hc hr⟩
end
theorem Ag.cells {α:Type} {rd:Rd α} {sz:Nat} {G:Aq} {a:Option Addr} {n c:Nat} {xs:List α} (S:Ag rd sz G (.slice a n c) xs) :
    n=xs.length∧n≤c∧c≤9223372036854775807∧∃ news,Els rd sz G news xs∧(∀ u∈news,u.oneCell' = true) ∧
      ((c=0∧xs=[])∨∃ b o,a=some ⟨b,o,none⟩∧∀ (j:Nat) (u:Value),news[j]?=some u→Hc G b (o+j)=some u):=by
  obtain ⟨a',c',h1,h2,h3,h4⟩:=S;simp only [Value.slice.injEq] at h1;obtain ⟨rfl,rfl,rfl⟩:=h1;refine ⟨rfl,h2,h3,?_⟩
  rcases h4 with ⟨rfl,rfl⟩ | ⟨b,o,rfl,h6⟩
  · exact ⟨[],rfl,by simp,Or.inl ⟨rfl,rfl⟩⟩
  · have key : ∀ (m : Nat), m ≤ xs.length → ∃ news, Els rd sz G news (xs.drop (xs.length - m)) ∧ (∀ u ∈ news, u.oneCell' = true) ∧
        ∀ (j:Nat) (u:Value),news[j]?=some u→Hc G b (o+(xs.length - m) * sz+j)=some u:=by
      intro m
      induction m with
      | zero=>intro _;exact ⟨[],by simp [Els],by simp,by simp⟩
      | succ m ih =>
        intro hm;obtain ⟨news,h7,h8,h9⟩:=ih (by omega);have hlt:xs.length - (m+1) < xs.length:=by omega
        obtain ⟨cs,h10,h11,h12,h13⟩:=h6 (xs.length - (m+1)) xs[xs.length - (m+1)] (List.getElem?_eq_getElem hlt);refine ⟨cs++news,?_,?_,?_⟩
        · rw [List.drop_eq_getElem_cons hlt]
          refine ⟨cs,news,rfl,h10,h13,?_⟩;rw [show xs.length - (m+1)+1=xs.length - m by omega]
          exact h7
        · intro u hu
          rcases List.mem_append.1 hu with hu | hu
          · exact h11 u hu
          · exact h8 u hu
        · intro j u hj
          rcases Nat.lt_or_ge j cs.length with hlt' | hge
          · rw [List.getElem?_append_left hlt'] at hj
            exact h12 j u hj
          · rw [List.getElem?_append_right hge] at hj
            have:=h9 (j - cs.length) u hj;rw [← this]
            congr 1
            have e1:xs.length - m=(xs.length - (m+1))+1:=by omega
            rw [e1,Nat.add_mul,Nat.one_mul,h10]
            omega
    obtain ⟨news,h7,h8,h9⟩:=key xs.length (Nat.le_refl _);simp only [Nat.sub_self,List.drop_zero,Nat.zero_mul,Nat.add_zero] at h7 h9
    exact ⟨news,h7,h8,Or.inr ⟨b,o,rfl,h9⟩⟩
theorem Ag.of_cells {α:Type} {rd:Rd α} {sz:Nat} {G:Aq} {b o c:Nat} {xs:List α} {cs:List Value} (hE:Els rd sz G cs xs) (h1:∀ u∈cs,u.oneCell' = true)
  (hc:∀ (j:Nat) (u:Value),cs[j]?=some u→Hc G b (o+j)=some u) (hle:xs.length≤c) (hm:c≤9223372036854775807) :
  Ag rd sz G (.slice (some ⟨b,o,none⟩) xs.length c) xs:=by
 refine ⟨_,_,rfl,hle,hm,Or.inr ⟨b,o,rfl,fun i x hx=>?_⟩⟩;obtain ⟨l,c1,r,rfl,h3,h4,h5,_⟩:=hE.get hx;refine ⟨c1,h4,fun u hu=>h1 u (by simp [hu]),fun j v hj=>?_,h5⟩;have hlt:j < c1.length:=by
  rcases Nat.lt_or_ge j c1.length with h' | h'
  ·exact h'
  ·simp [List.getElem?_eq_none h'] at hj
 have:=hc (i * sz+j) v (by
  rw [List.append_assoc,List.getElem?_append_right (by omega),h3,Nat.add_sub_cancel_left,List.getElem?_append_left hlt,hj])
 rw [← this]
 congr 1
 omega
section
variable {P:Program} {w0 w:World} {G:Aq} {L:List Res}
theorem Mem.nilrow (M:Mem w0 G L w) (t:TypeId) (sz:Nat):Mem w0 G (.row (.slice none 0 0) 0 [] t sz::L) w :=
 ⟨M.os,M.tape,M.output,M.grow,M.pers,
  fun x hx=>by
   rcases List.mem_cons.1 hx with rfl | hx
   ·exact ⟨World.ownsRow_nil w 0 t sz,by simp⟩
   ·exact M.own x hx,
  fun x hx b hb=>by
   rcases List.mem_cons.1 hx with rfl | hx
   ·simp [Res.foot,Value.ownBlock] at hb
   ·exact M.free x hx b hb,
  List.pairwise_cons.2 ⟨fun y _ b hb=>by simp [Res.foot,Value.ownBlock] at hb,M.apart⟩⟩
theorem Mem.row_at (M:Mem w0 G L w) {k n:Nat} {v:Value} {cs:List Value} {t:TypeId} {sz:Nat} (hk:L[k]?=some (.row v n cs t sz)) :
  w.ownsRow 0 t sz v n cs∧∀ u∈cs,u.oneCell' = true:=M.own _ (List.mem_of_getElem? hk)
theorem Mem.newrow (M:Mem w0 G L w) {t:TypeId} {sz n c:Nat} {cs spare:List Value} (h1:∀ u∈cs,u.oneCell' = true) (hl:cs.length=n * sz) (hs:(cs++spare).length=c * sz) (hnc:n≤c) (hc:c≤maxLen) :
  Mem w0 G (.row (.slice (some ⟨w.heap.size,0,none⟩) n c) n cs t sz::L) { w with heap:=w.heap.push (.cells (cs++spare).toArray t (0,0)) }:=by
 have M':=M.new (.cells (cs++spare).toArray t (0,0));refine M'.swap_head (x:=.obj w.heap.size _) rfl ?_ rfl rfl rfl rfl (fun _ _=>rfl);refine ⟨⟨hl,Or.inr ⟨w.heap.size,c,(cs++spare).toArray,rfl,Nat.zero_le _,?_,hnc,hc,by simpa using hs,?_⟩⟩,h1⟩
 ·exact M'.own (.obj w.heap.size _) (by simp)
 ·rw [← hl];simp
theorem Mem.append (M:Mem w0 G L w) {k n:Nat} {v:Value} {cs:List Value} {t ty e:TypeId} {i:TI} (hk:L[k]?=some (.row v n cs e i.size)) (ht:tk P t=.slice e) (hi:TOK P e i) (hz:i.zero.cells.size=i.size) (hs:0 < i.size)
  {ad:Addr} {m c:Nat} {news:List Value} (hl:news.length=m * i.size) (hnews:∀ j u,news[j]?=some u→w.cell? (ad.add j)=some u) (h1:∀ u∈news,u.oneCell' = true)
  (h63:n+m≤maxLen) (hbytes:(n+m) * i.bytes≤140737488355328) :
  ∃ v' w',(Builtin.append_ #[t,t] ty #[v,.slice (some ad) m c]).run P w=.ok v' w'∧Mem w0 G (L.set k (.row v' (n+m) (cs++news) e i.size)) w':=by
 obtain ⟨x,hx1,hx2,hx3,hx4⟩:=hi.info;obtain ⟨hown,h2⟩:=M.row_at hk;have hu:=C9 ht;obtain ⟨v',w',hr,ho,hg,_⟩:=run_append_own (P:=P) w 0 t ty e x i.zero i.size i.bytes hu hx1 hx4 hx2 hx3 hz hs v n cs hown ad m c news hl hnews h1 h63 hbytes (Nat.zero_le _);refine ⟨v',w',hr,M.grow_at hk ?_ ⟨ho,fun u hu=>?_⟩ hg.os hg.tape hg.output hg.size (fun b hb hne=>hg.block b hb (fun e=>hne e.symm))⟩
 ·intro b hb;have h63':((n+m:Nat):Int)≤9223372036854775807:=by simp only [maxLen] at h63;omega
  rcases hown.2 with ⟨rfl,rfl⟩ | ⟨g,cap,cur,rfl,hbg,hgg,hnc,hcm,hcs,htake⟩
  ·by_cases hm:m=0
   ·subst hm;have hn:news=[]:=List.eq_nil_of_length_eq_zero (by simpa using hl);subst hn;have:(Builtin.append_ #[t,t] ty #[.slice none 0 0,.slice (some ad) 0 c]).run P w=.ok (.slice none 0 0) w:=by
     simp [Builtin.append_,run_underlying hu,sizeOf,typeInfo,hx1,Builtin.lenOf,Builtin.firstCells,loadCells,loadCellsFrom]
    rw [this] at hr;simp only [Result.ok.injEq] at hr;obtain ⟨rfl,rfl⟩:=hr
    simp [Res.foot,Value.ownBlock] at hb
   ·have hr':=run_append_nil (P:=P) w t ty e x i.zero hu hx1 hx4 ad m c news (by rw [hx2];exact hl) hnews (by omega) (by omega) (by rw [hx3];simp only [Nat.zero_add] at hbytes;omega);rw [hr'] at hr;simp only [Result.ok.injEq] at hr;obtain ⟨rfl,rfl⟩:=hr;simp only [Res.foot,Value.ownBlock,Option.some.injEq] at hb
    right;omega
  ·by_cases hroom:n+m≤cap
   ·obtain ⟨w2,hr',_⟩:=run_append_fits (P:=P) w 0 t ty e x i.size hu hx1 hx2 g n cap cs hown ad m c news hl hnews h1 hroom;rw [hr'] at hr;simp only [Result.ok.injEq] at hr;obtain ⟨rfl,rfl⟩:=hr
    left;exact hb
   ·have holds:=hown.cells (g:=g) rfl;have hr':=run_append_grow (P:=P) w t ty e x i.zero hu hx1 hx4 ⟨g,0,none⟩ n cap cs (by rw [hx2];exact hown.1) holds ad m c news (by rw [hx2];exact hl) hnews (by omega) h63'
     (by rw [hx3];exact growslice_fits (by omega) hbytes)
    rw [hr'] at hr;simp only [Result.ok.injEq] at hr;obtain ⟨rfl,rfl⟩:=hr;simp only [Res.foot,Value.ownBlock,Option.some.injEq] at hb
    right;omega
 ·rcases List.mem_append.1 hu with hu | hu
  ·exact h2 u hu
  ·exact h1 u hu
theorem Mem.append_none (M:Mem w0 G L w) {k n:Nat} {v:Value} {cs:List Value} {t ty e:TypeId} {i:TI} (hk:L[k]?=some (.row v n cs e i.size)) (ht:tk P t=.slice e) (hi:TOK P e i) :
  (Builtin.append_ #[t,t] ty #[v,.slice none 0 0]).run P w=.ok v w:=by
 obtain ⟨x,hx1,hx2,_⟩:=hi.info
 exact run_append_owned_none (P:=P) (w:=w) 0 t ty e x i.size (C9 ht) hx1 v n cs (M.row_at hk).1
theorem Mem.freeze_row {α:Type} {rd:Rd α} (hm:Ho rd) (M:Mem w0 G L w) {k n:Nat} {v:Value} {cs:List Value} {t:TypeId} {sz:Nat} (hk:L[k]?=some (.row v n cs t sz)) {xs:List α} (hE:Els rd sz G cs xs) (hs:0 < sz) :
  n=xs.length∧∃ G' a c,Gle G G'∧v=.slice a xs.length c∧Ag rd sz G' v xs∧Mem w0 G' (L.eraseIdx k) w:=by
 obtain ⟨⟨hl,h2⟩,h1⟩:=M.row_at hk;have hn:n=xs.length:=by
  have:=hE.length;rw [hl] at this
  exact Nat.eq_of_mul_eq_mul_right hs this
 refine ⟨hn,?_⟩;subst hn;have M':=M.perm (Af L k _ hk)
 rcases h2 with ⟨rfl,h0⟩ | ⟨g,cap,cur,rfl,_,hg,hnc,hcm,hcs,htake⟩
 ·have:xs=[]:=List.eq_nil_of_length_eq_zero h0;subst this
  exact ⟨G,none,0,Gle.refl G,rfl,Ag.nil,M.weaken (List.eraseIdx_sublist _ _)⟩
 ·have hb:G g=none:=M'.free (.row (.slice (some ⟨g,0,none⟩) xs.length cap) xs.length cs t sz) (by simp) g rfl;have hap:=List.pairwise_cons.1 M'.apart;refine ⟨fun r=>if r=g then some (.cells cur t (0,0)) else G r,some ⟨g,0,none⟩,cap,?_,rfl,?_,?_⟩
  ·intro r o hr
   by_cases h:r=g
   ·subst h;rw [hb] at hr;cases hr
   ·simp [h,hr]
  ·refine Ag.of_cells (cs:=cs) (hE.mono hm ?_) h1 ?_ hnc (by simpa [maxLen] using hcm)
   ·intro r o hr
    by_cases h:r=g
    ·subst h;rw [hb] at hr;cases hr
    ·simp [h,hr]
   ·intro j u hj;have hj':j < xs.length * sz:=by
     rw [← hl]
     rcases Nat.lt_or_ge j cs.length with h' | h'
     ·exact h'
     ·simp [List.getElem?_eq_none h'] at hj
    rw [← htake,List.getElem?_take,if_pos hj'] at hj;simp only [Hc,if_true,Nat.zero_add]
    simpa using hj
  ·refine ⟨M.os,M.tape,M.output,M.grow,?_,?_,?_,hap.2⟩
   ·intro r o hr
    by_cases h:r=g
    ·subst h;simp at hr;subst hr;exact hg
    ·simp only [h,if_false] at hr;exact M.pers r o hr
   ·exact fun x hx=>M'.own x (by simp [hx])
   ·intro x hx c hc;have hne:c≠g:=fun e=>hap.1 x hx g rfl (e ▸ hc);simp only [hne,if_false]
    exact M'.free x (by simp [hx]) c hc
end
end Go.Y
namespace Go.Y
open Go Go.RowKit
section
variable {P:Program} {ops:Array Oper} {Q:Exit→Act→World→Prop} {n:Nat} {a:Act} {w w0:World} {e:Env} {G:Aq} {L:List Res}
 {d:Nat} {t:TypeId} {p:String} {af:Array Edge} {r:List Oper}
theorem Lz {et:TypeId} {i:TI} {cs:List Value} (F:Fits n a e) (M:Mem w0 G L w) (ht:TOK P et i) (hz:i.zero.cells=cs.toArray) (hd:Nat.ble (d+1) n=true)
  (k:∀ b w' a',Mem w0 G (.blk b cs et::L) w'→Fits n a' ((d,.pointer (some ⟨b,0,none⟩))::e)→rl P ops Q r a' w'):rl P ops Q (⟨some d,.alloc et,t,p,af,none⟩::r) a w:=by
 refine Bf F (Ajn ht) hd fun a' F'=>k w.heap.size _ a' ?_ F';have:=M.new (.cells i.zero.cells et (0,0));rw [hz] at this ⊢
 exact this.swap_head (x:=.obj _ _) rfl (this.own (.obj _ _) (by simp)) rfl rfl rfl rfl (fun _ _=>rfl)
theorem rl_box {et:TypeId} {x:Operand} {v:Value} {cs:List Value} (F:Fits n a e) (M:Mem w0 G L w) (hx:ev e x=some v) (hc:v.cells=cs.toArray) (hd:Nat.ble (d+1) n=true)
  (k:∀ b w' a',Mem w0 G (.blk b cs et::L) w'→Fits n a' ((d,.pointer (some ⟨b,0,none⟩))::e)→rl P ops Q r a' w'):rl P ops Q (⟨some d,.box et x,t,p,af,none⟩::r) a w:=by
 refine Bf F (run_box (F.ev hx)) hd fun a' F'=>k w.heap.size _ a' ?_ F';have:=M.new (.cells v.cells et (0,0));rw [hc] at this ⊢
 exact this.swap_head (x:=.obj _ _) rfl (this.own (.obj _ _) (by simp)) rfl rfl rfl rfl (fun _ _=>rfl)
theorem P5 {et:TypeId} {i:TI} {x y:Operand} {v old:Value} {k b o:Nat} {cs:List Value} {bt:TypeId} (F:Fits n a e) (M:Mem w0 G L w) (ht:TOK P et i) (h1:i.size=1)
  (hk:L[k]?=some (.blk b cs bt)) (hx:ev e x=some (.pointer (some ⟨b,o,none⟩))) (hy:ev e y=some v) (hv:v.oneCell' = true) (ho:cs[o]?=some old)
  (kk:∀ w' a',Mem w0 G (L.set k (.blk b (cs.set o v) bt)) w'→Fits n a' e→rl P ops Q r a' w'):rl P ops Q (⟨none,.store et x y,t,p,af,none⟩::r) a w:=by
 refine Ow F (Sv ht h1 (F.ev hx) (F.ev hy) ?_ ?_ ?_ (M.cellL hk ho) (M.frozenL hk o)) fun a' F'=>kk _ a' (M.set hk o v) F'
 ·cases v <;> simp_all [Value.cells,Value.oneCell']
 ·intro c hc;subst hc;simp [Value.oneCell'] at hv
 ·intro c hc;subst hc;simp [Value.oneCell'] at hv
theorem Ya {ρ:Operand→Value} {dd:Option Tmp} {g:Option (Nat × Bool)} {s et:TypeId} {i:TI} {x:Operand} {lo hi:Option Operand} {ad:Option Addr} {m c l h:Nat} {kl kh:IntKind} {zl zh:Int}
  (hs:tk P s=.slice et) (ht:TOK P et i) (hx:ρ x=.slice ad m c)
  (hl:match lo with | none=>l=0 | some y=>ρ y=.int kl zl∧zl=(l:Int)) (hh:match hi with | none=>h=m | some y=>ρ y=.int kh zh∧zh=(h:Int)) (h1:l≤h) (h2:h≤c) :
  (execOp ρ ⟨dd,.slice s x lo hi none,t,p,af,g⟩).run P w=.ok (.value (.slice (if c=l then ad else ad.map (·.add (l * i.size))) (h - l) (c - l))) w:=by
 have hs':=B0 (w:=w) (C9 hs);have c1:(l:Int)≤(h:Int):=by omega
 have c2:(h:Int)≤(c:Int):=by omega
 cases lo with
 | none =>
  simp only at hl;subst hl
  cases hi with
  | none =>
   simp only at hh;subst hh
   simp [execOp,Instr.sliceAt,hs',Instr.slice,hx,Instr.sliceBounds,ht.sizeOf]
  | some y =>
   obtain ⟨hh,rfl⟩:=hh
   simp [execOp,Instr.sliceAt,hs',Instr.slice,hx,Instr.sliceBounds,ht.sizeOf,Instr.sliceBound,hh,asIntOf,h2]
 | some z =>
  obtain ⟨hl,rfl⟩:=hl
  cases hi with
  | none =>
   simp only at hh;subst hh
   simp [execOp,Instr.sliceAt,hs',Instr.slice,hx,Instr.sliceBounds,ht.sizeOf,Instr.sliceBound,hl,asIntOf,h1]
  | some y =>
   obtain ⟨hh,rfl⟩:=hh
   simp [execOp,Instr.sliceAt,hs',Instr.slice,hx,Instr.sliceBounds,ht.sizeOf,Instr.sliceBound,hl,hh,asIntOf,h1,h2]
theorem Ag.sub {α:Type} {rd:Rd α} {sz:Nat} {ad:Option Addr} {m c l h:Nat} {xs:List α} (S:Ag rd sz G (.slice ad m c) xs) (h1:l≤h) (h2:h≤xs.length) :
  ∃ a',(if c=l then ad else ad.map (·.add (l * sz)))=a'∧Ag rd sz G (.slice a' (h - l) (c - l)) ((xs.take h).drop l):=by
 refine ⟨_,rfl,?_⟩;obtain ⟨a',c',e1,e2,e3,e4⟩:=S;simp only [Value.slice.injEq] at e1;obtain ⟨rfl,rfl,rfl⟩:=e1;have hlen:((xs.take h).drop l).length=h - l:=by simp;omega
 refine ⟨_,c - l,by rw [hlen],by rw [hlen];omega,by omega,?_⟩
 rcases e4 with ⟨rfl,rfl⟩ | ⟨b,o,rfl,e5⟩
 ·left
  have:h=0:=by simpa using h2
  subst this;refine ⟨by omega,by simp⟩
 ·right
  by_cases hcl:c=l
  ·subst hcl;simp only [if_true];refine ⟨b,o,rfl,fun i x hx=>?_⟩;have:((xs.take h).drop c)[i]?=none:=by
    rw [List.getElem?_eq_none]
    omega
   rw [this] at hx
   cases hx
  ·simp only [hcl,if_false,Option.map_some,D9];refine ⟨b,o+l * sz,rfl,fun i x hx=>?_⟩;rw [List.getElem?_drop,List.getElem?_take] at hx
   split at hx
   ·obtain ⟨cs,f1,f2,f3,f4⟩:=e5 (l+i) x hx;refine ⟨cs,f1,f2,?_,f4⟩;rw [Nat.add_mul] at f3;rw [Nat.add_assoc]
    exact f3
   ·cases hx
theorem Gt {ρ:Operand→Value} {dd:Option Tmp} {g:Option (Nat × Bool)} {s:TypeId} {x y:Operand} {v u v':Value} {w':World} (hx:ρ x=v) (hy:ρ y=u)
  (h:(Builtin.append_ #[s,s] t #[v,u]).run P w=.ok v' w'):(execOp ρ ⟨dd,.call ⟨.builtin .append,#[x,y],#[s,s]⟩,t,p,af,g⟩).run P w=.ok (.value v') w':=by
 simp [execOp,resolve,invoke,builtin,hx,hy,h]
theorem Iy {α:Type} {rd:Rd α} {sz:Nat} {s et:TypeId} {i:TI} {x y:Operand} {v:Value} {k m:Nat} {cs:List Value} {ad:Option Addr} {m' c:Nat} {xs:List α}
  (F:Fits n a e) (M:Mem w0 G L w) (hk:L[k]?=some (.row v m cs et sz)) (hs:tk P s=.slice et) (ht:TOK P et i) (hz:i.zero.cells.size=i.size) (hsz:i.size=sz) (hpos:0 < sz)
  (hx:ev e x=some v) (S:Ag rd sz G (.slice ad m' c) xs) (hy:ev e y=some (.slice ad m' c))
  (hb:(m+xs.length) * i.bytes≤140737488355328) (hb2:m+xs.length≤9223372036854775807) (hd:Nat.ble (d+1) n=true)
  (kk:∀ v' cs' w' a',Mem w0 G (L.set k (.row v' (m+xs.length) (cs++cs') et sz)) w'→Els rd sz G cs' xs→Fits n a' ((d,v')::e)→rl P ops Q r a' w') :
  rl P ops Q (⟨some d,.call ⟨.builtin .append,#[x,y],#[s,s]⟩,t,p,af,none⟩::r) a w:=by
 subst hsz;obtain ⟨rfl,h2,h3,news,h4,h5,h6⟩:=S.cells
 rcases h6 with ⟨rfl,rfl⟩ | ⟨b,o,rfl,h6⟩
 ·simp only [Els] at h4;subst h4
  rcases ad with _ | ad
  rotate_left
  ·obtain ⟨v',w',hr,M'⟩:=M.append (P:=P) (ty:=t) (t:=s) hk hs ht hz hpos (ad:=ad) (m:=0) (c:=0) (news:=[]) (by simp) (by simp) (by simp) (by simp only [maxLen];simpa using hb2) (by simpa using hb)
   exact Bf F (Gt (F.ev hx) (F.ev hy) hr) hd fun a' F'=>kk v' [] w' a' M' rfl F'
  have hr:=M.append_none (P:=P) (t:=s) (ty:=t) hk hs ht;refine Bf F (Gt (F.ev hx) (F.ev hy) hr) hd fun a' F'=>kk v [] w a' ?_ rfl F';have hset:L.set k (.row v (m+([]:List α).length) (cs++[]) et i.size)=L:=by
   simp only [List.length_nil,Nat.add_zero,List.append_nil]
   apply List.ext_getElem?
   intro j;rw [List.getElem?_set]
   split
   ·rename_i hj;subst hj;split
    ·rw [hk]
    ·rename_i hlt;rw [List.getElem?_eq_none (by omega)] at hk;cases hk
   ·rfl
  rw [hset];exact M
 ·obtain ⟨v',w',hr,M'⟩:=M.append (P:=P) (ty:=t) (t:=s) hk hs ht hz hpos (ad:=⟨b,o,none⟩) (m:=xs.length) (c:=c) (news:=news) h4.length
   (fun j u hj=>by rw [D9];exact M.cell (h6 j u hj)) h5 (by simp only [maxLen];omega) hb
  exact Bf F (Gt (F.ev hx) (F.ev hy) hr) hd fun a' F'=>kk v' news w' a' M' h4 F'
theorem A3 {s et:TypeId} {i:TI} {x y:Operand} {v u:Value} {k k2 m m2 sz:Nat} {cs cs2:List Value}
  (F:Fits n a e) (M:Mem w0 G L w) (hk:L[k]?=some (.row v m cs et sz)) (hk2:L[k2]?=some (.row u m2 cs2 et sz)) (hs:tk P s=.slice et) (ht:TOK P et i) (hz:i.zero.cells.size=i.size) (hsz:i.size=sz) (hpos:0 < sz)
  (hx:ev e x=some v) (hy:ev e y=some u)
  (hb:(m+m2) * i.bytes≤140737488355328) (hb2:m+m2≤9223372036854775807) (hd:Nat.ble (d+1) n=true)
  (kk:∀ v' w' a',Mem w0 G (L.set k (.row v' (m+m2) (cs++cs2) et sz)) w'→Fits n a' ((d,v')::e)→rl P ops Q r a' w') :
  rl P ops Q (⟨some d,.call ⟨.builtin .append,#[x,y],#[s,s]⟩,t,p,af,none⟩::r) a w:=by
 subst hsz;obtain ⟨ho,h1⟩:=M.row_at hk2
 rcases ho.2 with ⟨rfl,rfl⟩ | ⟨g,cap,cur,rfl,hbg,hgg,hnc,hcm,hcs,htake⟩
 ·have h0:cs2=[]:=List.eq_nil_of_length_eq_zero (by simpa using ho.1);subst h0;have hr:=M.append_none (P:=P) (t:=s) (ty:=t) hk hs ht;refine Bf F (Gt (F.ev hx) (F.ev hy) hr) hd fun a' F'=>kk v w a' ?_ F';have hset:L.set k (.row v (m+0) (cs++[]) et i.size)=L:=by
   simp only [Nat.add_zero,List.append_nil]
   apply List.ext_getElem?
   intro j;rw [List.getElem?_set]
   split
   ·rename_i hj;subst hj;split
    ·rw [hk]
    ·rename_i hlt;rw [List.getElem?_eq_none (by omega)] at hk;cases hk
   ·rfl
  rw [hset];exact M
 ·obtain ⟨v',w',hr,M'⟩:=M.append (P:=P) (ty:=t) (t:=s) hk hs ht hz hpos (ad:=⟨g,0,none⟩) (m:=m2) (c:=cap) (news:=cs2) ho.1
   (ho.cells (g:=g) rfl) h1 (by simp only [maxLen];omega) hb
  exact Bf F (Gt (F.ev hx) (F.ev hy) hr) hd fun a' F'=>kk v' w' a' M' F'
theorem I7 {ρ:Operand→Value} {dd:Option Tmp} {g:Option (Nat × Bool)} {s et:TypeId} {i:TI} {len:Nat} {parts:Array (Nat × Operand)} {cs:List Value}
  (hs:tk P s=.slice et) (ht:TOK P et i) (hlen:len * i.size≤16777216)
  (hf:Instr.fill (fun j=>some (j * i.size,i.size)) ((Array.range (len * i.size)).map (i.zero.cells[· % i.zero.cells.size]!)) (parts.map fun (j,x)=>(j,ρ x)).toList=some cs.toArray) :
  (execOp ρ ⟨dd,.buildSlice s len parts,t,p,af,g⟩).run P w=.ok (.value (.slice (some ⟨w.heap.size,0,none⟩) len len)) { w with heap:=w.heap.push (.cells cs.toArray et (0,0)) }:=by
 have hn:¬ (16777216 < len * i.size):=by omega
 by_cases h0:len * i.size=0
 ·have h00:(Array.range 0).map (i.zero.cells[· % i.zero.cells.size]!) = #[]:=Array.eq_empty_of_size_eq_zero (by simp);have h01:(Array.range 0).map (fun _=>(default:Value)) = #[]:=Array.eq_empty_of_size_eq_zero (by simp);have hf':Instr.fill (fun j=>some (j * i.size,i.size)) #[] (parts.map fun (j,x)=>(j,ρ x)).toList=some cs.toArray:=by
   rw [h0,h00] at hf
   exact hf
  simp only [execOp,Instr.buildSlice,Sem.run_bind,B0 (C9 hs),Result.andThen_ok,ht.sizeOf];simp only [show (2:Nat) ^ 24=16777216 from rfl,gt_iff_lt,h0,if_true,Sem.run_pure];have hf2:Instr.fill (fun j=>some (j * i.size,i.size)) (Array.map (fun _=>(default:Value)) (Array.range 0)) (List.map (fun x=>(x.fst,ρ x.snd)) parts.toList)=some cs.toArray:=by
   rw [h01];simpa using hf'
  simp [newRow,newObj,Sem.run,hf2]
 ·simp only [execOp,Instr.buildSlice,Sem.run_bind,B0 (C9 hs),Result.andThen_ok,ht.sizeOf];simp only [show (2:Nat) ^ 24=16777216 from rfl,gt_iff_lt,hn,if_false,h0,Sem.run_bind,ht.zeroValue,Sem.run_pure,Result.andThen_ok,hf]
  simp [newRow,newObj,Sem.run]
theorem Alk (l:List Value):∀ (k:Nat) (acc:Array Value),k+l.length≤acc.size→∀ j,((l.zipIdx k).foldl (fun (cs:Array Value) (cj:Value × Nat)=>cs.setIfInBounds cj.2 cj.1) acc)[j]?=if j < k then acc[j]? else if j < k+l.length then l[j - k]? else acc[j]?:=by
 induction l with
 | nil=>intro k acc _ j;simp;intro h1 h2;omega
 | cons c l ih =>
  intro k acc hk j;simp only [List.length_cons] at hk;simp only [List.zipIdx_cons,List.foldl_cons];rw [ih (k+1) _ (by simp;omega)];simp only [List.length_cons,Array.getElem?_setIfInBounds]
  by_cases h1:j < k
  ·simp [h1,show j < k+1 by omega,show ¬ k=j by omega]
  ·by_cases h2:j=k
   ·subst h2
    simp [show j < acc.size by omega]
   ·have h3:¬ j < k+1:=by omega
    have h4:¬ k=j:=by omega
    simp only [h1,h3,h4,if_false];have h5:j - k=(j - (k+1))+1:=by omega
    by_cases h6:j < k+1+l.length
    ·simp [h6,show j < k+(l.length+1) by omega,h5]
    ·simp [h6,show ¬ j < k+(l.length+1) by omega]
theorem Aqt {v:Value} {cs:List Value} {zs:Array Value} {sz:Nat} (hv:v.cells=cs.toArray) (hl:cs.length=sz) (hz:zs.size=sz) :
  Instr.fill (fun j=>some (j * sz,sz)) zs [(0,v)]=some cs.toArray:=by
 have h:(cs.toArray.zipIdx.foldl (fun (cs:Array Value) (cj:Value × Nat)=>cs.setIfInBounds (0 * sz+cj.2) cj.1) zs)=cs.toArray:=by
  apply Array.ext_getElem?
  intro j;have:=Alk cs 0 zs (by omega) j;rw [← Array.foldl_toList];simp only [Array.toList_zipIdx];simp only [Nat.zero_mul,Nat.zero_add] at *;simp only [Nat.not_lt_zero,if_false,Nat.sub_zero] at this;rw [this]
  by_cases hj:j < cs.length
  ·simp [hj]
  ·simp [hj,show ¬ j < zs.size by omega]
 simp only [Instr.fill,hv,List.size_toArray,hl,hz];simp only [ne_eq,not_true_eq_false,decide_false,Nat.zero_mul,Nat.zero_add,gt_iff_lt,Nat.lt_irrefl,Bool.or_self,Bool.false_eq_true,if_false];simp only [Nat.zero_mul] at h
 exact congrArg some (by simpa using h)
theorem Th {s et:TypeId} {i:TI} (F:Fits n a e) (M:Mem w0 G L w) (hs:tk P s=.slice et) (ht:TOK P et i) (hd:Nat.ble (d+1) n=true)
  (k:∀ v w' a',Mem w0 G (.row v 0 [] et i.size::L) w'→Fits n a' ((d,v)::e)→rl P ops Q r a' w') :
  rl P ops Q (⟨some d,.buildSlice s 0 #[],t,p,af,none⟩::r) a w:=by
 refine Bf F (I7 (cs:=[]) hs ht (by omega) (by simp [Instr.fill])) hd fun a' F'=>k _ _ a' ?_ F'
 exact M.newrow (cs:=[]) (spare:=[]) (n:=0) (c:=0) (by simp) (by simp) (by simp) (Nat.le_refl _) (by simp [maxLen])
theorem Ar {s et:TypeId} {i:TI} {x:Operand} {v:Value} {cs:List Value} (F:Fits n a e) (M:Mem w0 G L w) (hs:tk P s=.slice et) (ht:TOK P et i) (hz:i.zero.cells.size=i.size) (hx:ev e x=some v) (hv:v.cells=cs.toArray)
  (hl:cs.length=i.size) (h1:∀ u∈cs,u.oneCell' = true) (hsm:i.size≤16777216) (hd:Nat.ble (d+1) n=true)
  (k:∀ v w' a',Mem w0 G (.row v 1 cs et i.size::L) w'→Fits n a' ((d,v)::e)→rl P ops Q r a' w') :
  rl P ops Q (⟨some d,.buildSlice s 1 #[(0,x)],t,p,af,none⟩::r) a w:=by
 refine Bf F (I7 (cs:=cs) hs ht (by omega) ?_) hd fun a' F'=>k _ _ a' ?_ F'
 ·simp only [List.map_toArray,List.map_cons,List.map_nil,F.ev hx]
  exact Aqt hv hl (by simp)
 ·have:=M.newrow (t:=et) (sz:=i.size) (cs:=cs) (spare:=[]) (n:=1) (c:=1) h1 (by simpa using hl) (by simpa using hl) (Nat.le_refl _) (by simp [maxLen]);rw [List.append_nil] at this
  exact this
end
end Go.Y
namespace Go.Y
open Go Go.RowKit
section
variable {P:Program} {w0 w:World} {G G':Aq} {L:List Res}
theorem Mem.row_shape (M:Mem w0 G L w) {k n:Nat} {v:Value} {cs:List Value} {t:TypeId} {sz:Nat} (hk:L[k]?=some (.row v n cs t sz)) :
  ∃ a c,v=.slice a n c∧n≤c∧c≤9223372036854775807∧cs.length=n * sz:=by
 obtain ⟨⟨hl,h2⟩,_⟩:=M.row_at hk
 rcases h2 with ⟨rfl,h0⟩ | ⟨g,cap,cur,rfl,_,_,hnc,hcm,_,_⟩
 ·subst h0;exact ⟨none,0,rfl,Nat.le_refl _,by omega,hl⟩
 ·exact ⟨_,cap,rfl,hnc,by simpa [maxLen] using hcm,hl⟩
theorem Mem.row_some (M:Mem w0 G L w) {k n c:Nat} {ad:Option Addr} {cs:List Value} {t:TypeId} {sz:Nat} (hk:L[k]?=some (.row (.slice ad n c) n cs t sz)) (h0:0 < n) :
  ∃ b,ad=some ⟨b,0,none⟩:=by
 obtain ⟨⟨hl,h2⟩,_⟩:=M.row_at hk
 rcases h2 with ⟨_,h0'⟩ | ⟨g,cap,cur,he,_⟩
 ·omega
 ·simp only [Value.slice.injEq] at he
  exact ⟨g,he.1⟩
theorem Mem.row_cell (M:Mem w0 G L w) {k n c b:Nat} {cs:List Value} {t:TypeId} {sz:Nat} (hk:L[k]?=some (.row (.slice (some ⟨b,0,none⟩) n c) n cs t sz)) {q:Nat} {v:Value} (hq:cs[q]?=some v) :
  w.cell? ⟨b,q,none⟩=some v:=by
 obtain ⟨ho,_⟩:=M.row_at hk;have hlt:q < cs.length:=by
  rcases Nat.lt_or_ge q cs.length with h' | h'
  ·exact h'
  ·simp [List.getElem?_eq_none h'] at hq
 rw [ho.cellAt q (by rw [← ho.1];exact hlt),hq]
theorem Mem.set_row (M:Mem w0 G L w) {k n c b:Nat} {cs:List Value} {t:TypeId} {sz:Nat} (hk:L[k]?=some (.row (.slice (some ⟨b,0,none⟩) n c) n cs t sz)) (q:Nat) {u:Value} (hu:u.oneCell' = true) :
  Mem w0 G (L.set k (.row (.slice (some ⟨b,0,none⟩) n c) n (cs.set q u) t sz)) (w.setCell ⟨b,q,none⟩ u):=by
 obtain ⟨ho,h1⟩:=M.row_at hk;obtain ⟨h2,h3⟩:=ho.stored q u;refine M.swap_at hk rfl ⟨h2,fun v hv=>?_⟩ rfl rfl rfl (by simp [World.setCell]) ?_
 ·rcases List.mem_or_eq_of_mem_set hv with h | h
  ·exact h1 v h
  ·subst h;exact hu
 ·intro r hr
  exact Jd (fun e=>hr (by simp [Res.foot,Value.ownBlock,e]))
def over:List Value→Nat→List Value→List Value
 | cs,_,[]=>cs
 | cs,q,u::us=>over (cs.set q u) (q+1) us
theorem Aoy (us:List Value):∀ (l c r:List Value),c.length=us.length→over (l++c++r) l.length us=l++us++r:=by
 induction us with
 | nil=>intro l c r h;have:c=[]:=List.eq_nil_of_length_eq_zero (by simpa using h);subst this;simp [over]
 | cons u us ih =>
  intro l c r h
  match c,h with
  | x::c,h =>
   simp only [over];have e1:(l++x::c++r).set l.length u=(l++[u])++c++r:=by
    simp
   rw [e1,show l.length+1=(l++[u]).length by simp,ih (l++[u]) c r (by simpa using h)]
   simp
theorem Aac {α:Type} {L:List α} {k:Nat} {x:α} (hk:L[k]?=some x):L.set k x=L:=by
 apply List.ext_getElem?
 intro j;rw [List.getElem?_set]
 split
 ·rename_i hj
  subst hj
  split
  ·rw [hk]
  ·rename_i hlt
   rw [List.getElem?_eq_none (by omega)] at hk
   cases hk
 ·rfl
theorem Lu {a:Addr} {v old:Value} (hv:v.oneCell' = true) (hc:w.cell? a=some old) (hf:w.frozen? a=false):(store a v).run P w=.ok () (w.setCell a v):=by
 unfold store
 cases v <;> simp_all [Sem.run,Value.oneCell']
theorem Mem.store_row {us:List Value}:∀ {w:World} {L:List Res},(M:Mem w0 G L w)→∀ {k n c b:Nat} {cs:List Value} {t:TypeId} {sz:Nat} (_:L[k]?=some (.row (.slice (some ⟨b,0,none⟩) n c) n cs t sz)) (o i:Nat)
  (_:∀ u∈us,u.oneCell' = true) (_:o+i+us.length≤cs.length),
  ∃ w',(storeCells ⟨b,o,none⟩ us i).run P w=.ok () w'∧Mem w0 G (L.set k (.row (.slice (some ⟨b,0,none⟩) n c) n (over cs (o+i) us) t sz)) w':=by
 induction us with
 | nil =>
  intro w L M k n c b cs t sz hk o i hu hfit;refine ⟨w,by simp [storeCells],?_⟩;simp only [over];rw [Aac hk]
  exact M
 | cons u us ih =>
  intro w L M k n c b cs t sz hk o i hu hfit;simp only [List.length_cons] at hfit;have hfz:w.frozen? ⟨b,o+i,none⟩=false:=(M.row_at hk).1.frozenAt _;have hc:w.cell? ⟨b,o+i,none⟩=some cs[o+i]:=M.row_cell hk (List.getElem?_eq_getElem (by omega));have M':=M.set_row hk (o+i) (hu u (by simp));have hk':(L.set k (.row (.slice (some ⟨b,0,none⟩) n c) n (cs.set (o+i) u) t sz))[k]?=some (.row (.slice (some ⟨b,0,none⟩) n c) n (cs.set (o+i) u) t sz):=by
   rw [List.getElem?_set];have hlt:k < L.length:=by
    rcases Nat.lt_or_ge k L.length with h' | h'
    ·exact h'
    ·simp [List.getElem?_eq_none h'] at hk
   simp [hlt]
  obtain ⟨w',hr,M''⟩:=ih M' hk' o (i+1) (fun v hv=>hu v (by simp [hv])) (by simp;omega);refine ⟨w',?_,?_⟩
  ·simp only [storeCells,Sem.run_bind,D9,Lu (hu u (by simp)) hc hfz,Result.andThen_ok]
   exact hr
  ·rw [List.set_set] at M''
   exact M''
end
section
variable {P:Program} {ops:Array Oper} {Q:Exit→Act→World→Prop} {n:Nat} {a:Act} {w w0:World} {e:Env} {G:Aq} {L:List Res}
 {d:Nat} {t:TypeId} {p:String} {af:Array Edge} {r:List Oper}
theorem Aai {et bt:TypeId} {i:TI} {x y:Operand} {v:Value} {k m c b o sz:Nat} {cs us:List Value} (F:Fits n a e) (M:Mem w0 G L w) (ht:TOK P et i)
  (hk:L[k]?=some (.row (.slice (some ⟨b,0,none⟩) m c) m cs bt sz)) (hx:ev e x=some (.pointer (some ⟨b,o,none⟩))) (hy:ev e y=some v) (hv:v.cells=us.toArray) (hl:us.length=i.size)
  (hu:∀ u∈us,u.oneCell' = true) (hfit:o+us.length≤cs.length)
  (kk:∀ w' a',Mem w0 G (L.set k (.row (.slice (some ⟨b,0,none⟩) m c) m (over cs o us) bt sz)) w'→Fits n a' e→rl P ops Q r a' w'):rl P ops Q (⟨none,.store et x y,t,p,af,none⟩::r) a w:=by
 obtain ⟨w',hr,M'⟩:=M.store_row (P:=P) (us:=us) hk o 0 hu (by omega);refine Ow F (w':=w') ?_ fun a' F'=>kk w' a' (by simpa using M') F';simp only [execOp,F.ev hx,F.ev hy,Instr.storeAt,Instr.sureAddr,storeVar,Sem.run_bind,Sem.run_pure,Result.andThen_ok,ht.sizeOf,hv]
 simp [hl,hr]
theorem Aei (fs:List Field):(∀ f∈fs,P.cellsOf f.type≠0)→(fs.mapM fun f=>do pure (f.offset,← sizeOf f.type):Sem (List (Nat × Nat))).run P w=.ok (fs.map fun f=>(f.offset,P.cellsOf f.type)) w:=by
 induction fs with
 | nil=>intro _;simp
 | cons f fs ih =>
  intro h;have h0:=h f (by simp);have hi:∃ i,P.info? f.type=some i∧i.size=P.cellsOf f.type:=by
   unfold Program.cellsOf at *
   cases hii:P.info? f.type with
   | none=>rw [hii] at h0;simp at h0
   | some i=>exact ⟨i,rfl,by simp⟩
  obtain ⟨i,h1,h2⟩:=hi;have ih':=ih (fun g hg=>h g (by simp [hg]));have hsz:(sizeOf f.type).run P w=.ok (P.cellsOf f.type) w:=by simp [sizeOf,typeInfo,program,Sem.run,h1,h2]
  simp only [List.mapM_cons,Sem.run_bind,hsz,Result.andThen_ok,Sem.run_pure,ih',List.map_cons]
theorem Ah {ρ:Operand→Value} {dd:Option Tmp} {g:Option (Nat × Bool)} {s:TypeId} {i:TI} {parts:Array (Nat × Operand)} {ps:List (Nat × Value)} {fs:List (Nat × Nat × Nat)} {cs:List Value}
  (hs:tk P s=.struct fs) (hnz:fs.all (fun x=>!Nat.beq x.2.1 0)=true) (ht:TOK P s i) (hp:(parts.map fun (j,x)=>(j,ρ x)).toList=ps)
  (hf:Instr.fill (fun j=>(fs.map fun x=>(x.1,x.2.1))[j]?) i.zero.cells ps=some cs.toArray) :
  (execOp ρ ⟨dd,.build s parts,t,p,af,g⟩).run P w=.ok (.value (.agg cs.toArray)) w:=by
 obtain ⟨ff,hu,hff⟩:=Hg hs;have hne:∀ f∈ff.toList,P.cellsOf f.type≠0:=by
  intro f hf;have hm:(f.offset,P.cellsOf f.type,f.type)∈fs:=by rw [← hff];exact List.mem_map.2 ⟨f,hf,rfl⟩
  have:=(List.all_eq_true.1 hnz) _ hm;intro h0
  simp [h0] at this
 have hpl:=Aei (P:=P) (w:=w) ff.toList hne;have hpl':(ff.mapM fun f=>do pure (f.offset,← sizeOf f.type):Sem (Array (Nat × Nat))).run P w=.ok (ff.toList.map fun f=>(f.offset,P.cellsOf f.type)).toArray w:=by
  have h1:(ff.mapM fun f=>do pure (f.offset,← sizeOf f.type):Sem (Array (Nat × Nat)))=List.toArray <$> (ff.toList.mapM fun f=>do pure (f.offset,← sizeOf f.type)):=by
   rw [Array.mapM_eq_mapM_toList]
  rw [h1,Sem.run_map,hpl]
  rfl
 have hfs:(fs.map fun x=>(x.1,x.2.1))=ff.toList.map fun f=>(f.offset,P.cellsOf f.type):=by
  rw [← hff,List.map_map];rfl
 have hplace:(fun (j:Nat)=>(ff.toList.map fun f=>(f.offset,P.cellsOf f.type)).toArray[j]?)=fun (j:Nat)=>(fs.map fun x=>(x.1,x.2.1))[j]?:=by
  funext j;rw [hfs];simp
 simp only [execOp,Instr.build,Sem.run_bind,ht.zeroValue,Result.andThen_ok,B0 hu,hpl',Sem.run_pure];rw [hplace,hp,hf]
 simp
variable {C:World→Prop} {K:Act→Prop}
end
end Go.Y
namespace Go.Y
open Go Go.RowKit
theorem Abe {b:Bool} (h:b=false):(!b)=true:=by simp [h]
theorem F4 {b:Bool} (h:b=true):(!b)=false:=by simp [h]
theorem Ab {b:Bool} (h:(!b)=true):b=false:=by simpa using h
theorem Ac {b:Bool} (h:(!b)=false):b=true:=by simpa using h
theorem Ap {α:Type} {xs:List α} {i:Nat} (h:i < xs.length):∃ x,xs[i]?=some x:=⟨_,List.getElem?_eq_getElem h⟩
theorem A0 {α:Type} {xs:List α} {i:Nat} {x:α} (h:xs[i]?=some x):i < xs.length:=by
 rcases Nat.lt_or_ge i xs.length with h' | h'
 ·exact h'
 ·simp [List.getElem?_eq_none h'] at h
section
variable {P:Program} {ops:Array Oper} {Q K:Exit→Act→World→Prop} {N:Act→World→Prop} {n:Nat} {a:Act} {w w0:World} {e:Env} {G:Aq} {L:List Res}
 {d:Nat} {t:TypeId} {p:String} {af:Array Edge} {r:List Oper}
theorem Nv {op:Op} {j g:Nat} {want b:Bool} (F:Fits n a e) (hj:(ops[j]?).bind (·.dst)=some g) (hb:look e g=some (.bool b)) (hd:Nat.ble (d+1) n=true) (hw:b=want)
  (k:rl P ops Q (⟨some d,op,t,p,af,none⟩::r) a w):rl P ops Q (⟨some d,op,t,p,af,some (j,want)⟩::r) a w :=
 Aaj F hj hb hd (fun _=>k) (fun h=>by subst hw;cases b <;> cases h)
theorem Tf {op:Op} {j g:Nat} {want b:Bool} (F:Fits n a e) (hj:(ops[j]?).bind (·.dst)=some g) (hb:look e g=some (.bool b)) (hd:Nat.ble (d+1) n=true) (hw:b = !want)
  (k:∀ a',Fits n a' ((d,undef)::e)→rl P ops Q r a' w):rl P ops Q (⟨some d,op,t,p,af,some (j,want)⟩::r) a w :=
 Aaj F hj hb hd (fun h=>by subst h;cases b <;> cases hw) (fun _=>k)
def evp (e:Env):List (Nat × Operand)→Option (List (Nat × Value))
 | []=>some []
 | x::xs=>match ev e x.2 with
  | some v=>match evp e xs with
   | some vs=>some ((x.1,v)::vs)
   | none=>none
  | none=>none
theorem Fits.evp (F:Fits n a e):∀ {xs:List (Nat × Operand)} {vs:List (Nat × Value)},Y.evp e xs=some vs→(xs.toArray.map fun (j,x)=>(j,a.eval x)).toList=vs
 | [],vs,h=>by simp [Y.evp] at h;subst h;simp
 | (j,x)::xs,vs,h=>by
  simp only [Y.evp] at h
  cases hx:Y.ev e x with
  | none=>rw [hx] at h;simp at h
  | some v =>
   rw [hx] at h
   cases hxs:Y.evp e xs with
   | none=>rw [hxs] at h;simp at h
   | some us =>
    rw [hxs] at h
    simp at h
    subst h;have ih:=Fits.evp F hxs;simp only [List.map_toArray] at ih ⊢;simp only [List.map_cons,F.ev hx];rw [ih]
theorem Ii (h:N a w):Exit.then N Q .normal a w:=h
theorem q_te {id:Nat} (h:Q (.exit id) a w):Exit.then N Q (.exit id) a w:=h
theorem Aex (h:Q .ret a w):Exit.then N Q .ret a w:=h
theorem q_bn {id:Nat} (h:Q .normal a w):Exit.inBlock id Q .normal a w:=h
theorem q_bh {id:Nat} (h:Q .normal a w):Exit.inBlock id Q (.exit id) a w:=Aas h
theorem q_be {id j:Nat} (hj:Nat.beq j id=false) (h:Q (.exit j) a w):Exit.inBlock id Q (.exit j) a w :=
 Yq (fun e=>by subst e;simp at hj) h
theorem Akh {id:Nat} (h:Q .ret a w):Exit.inBlock id Q .ret a w:=h
theorem Ba {c:Code} (I:Nat→Act→World→Prop) (m0:Nat) (h0:I m0 a w)
  (round:∀ m a w,I m a w→c.wp P (Exit.then (fun a' w'=>∃ m',m' < m∧I m' a' w') Q) a w):(Code.loop c).wp P Q a w :=
 w_loop (σ:=Nat) I (fun m=>m) m0 h0 round
def Bu (w0:World) (G:Aq) (L:List Res) (Φ:Value→Prop):Ending→World→Prop
 | .returned v,w'=>Mem w0 G L w'∧Φ v
 | _,_=>False
theorem Aak {f:FuncId} {args:List Operand} {ats:Array TypeId} {vs:List Value} {Φ:Value→Prop}
  (F:Fits n a e) (hE:Ent P f) (hv:evs e args=some vs) (hd:Nat.ble (d+1) n=true)
  (hs:Calls P f vs.toArray w (Bu w0 G L Φ))
  (k:∀ v w' a',Mem w0 G L w'→Φ v→Fits n a' ((d,v)::e)→rl P ops Q r a' w') :
  rl P ops Q (⟨some d,.call ⟨.value (.func f),args.toArray,ats⟩,t,p,af,none⟩::r) a w:=by
 refine H7 (caps:=[]) F hE rfl hv hd (by rw [List.append_nil];exact hs) fun x w' hx=>?_
 cases x with
 | returned v=>obtain ⟨h1,h2⟩:=hx;exact ⟨v,rfl,fun a' F'=>k v w' a' h1 h2 F'⟩
 | panicked c=>exact hx.elim
 | outgrown=>exact hx.elim
theorem Mem.ghost {G':Aq} (hg:Gle G G') (M:Mem w0 G' L w) (hf:∀ x∈L,∀ b,x.foot=some b→G b=none):Mem w0 G L w :=
 ⟨M.os,M.tape,M.output,M.grow,fun r o h=>M.pers r o (hg r o h),M.own,hf,M.apart⟩
theorem Ret.plain {f:FuncId} {vs:Array Value} {Φ:Value→Prop} (M:Mem w0 G L w) (h:Calls P f vs w (Ret w0 G L fun _ v=>Φ v)):Calls P f vs w (Bu w0 G L Φ) :=
 h.mono fun x w' hx=>by
  cases x with
  | returned v=>obtain ⟨G',h1,h2,h3⟩:=hx;exact ⟨h2.ghost h1 M.free,h3⟩
  | panicked c=>exact hx
  | outgrown=>exact hx
theorem Mem.store_blk {us:List Value}:∀ {w:World} {L:List Res},(M:Mem w0 G L w)→∀ {k b:Nat} {cs:List Value} {t:TypeId} (_:L[k]?=some (.blk b cs t)) (o i:Nat)
  (_:∀ u∈us,u.oneCell' = true) (_:o+i+us.length≤cs.length),
  ∃ w',(storeCells ⟨b,o,none⟩ us i).run P w=.ok () w'∧Mem w0 G (L.set k (.blk b (over cs (o+i) us) t)) w':=by
 induction us with
 | nil =>
  intro w L M k b cs t hk o i hu hfit;refine ⟨w,by simp [storeCells],?_⟩;simp only [over];rw [Aac hk]
  exact M
 | cons u us ih =>
  intro w L M k b cs t hk o i hu hfit;simp only [List.length_cons] at hfit;have hfz:w.frozen? ⟨b,o+i,none⟩=false:=M.frozenL hk _;have hc:w.cell? ⟨b,o+i,none⟩=some cs[o+i]:=M.cellL hk (List.getElem?_eq_getElem (by omega));have M':=M.set hk (o+i) u;have hk':(L.set k (.blk b (cs.set (o+i) u) t))[k]?=some (.blk b (cs.set (o+i) u) t):=by
   rw [List.getElem?_set]
   simp [A0 hk]
  obtain ⟨w',hr,M''⟩:=ih M' hk' o (i+1) (fun v hv=>hu v (by simp [hv])) (by simp;omega);refine ⟨w',?_,?_⟩
  ·simp only [storeCells,Sem.run_bind,D9,Lu (hu u (by simp)) hc hfz,Result.andThen_ok]
   exact hr
  ·rw [List.set_set] at M''
   exact M''
theorem V3 {et bt:TypeId} {i:TI} {x y:Operand} {v:Value} {k b o:Nat} {cs us:List Value} (F:Fits n a e) (M:Mem w0 G L w) (ht:TOK P et i)
  (hk:L[k]?=some (.blk b cs bt)) (hx:ev e x=some (.pointer (some ⟨b,o,none⟩))) (hy:ev e y=some v) (hv:v.cells=us.toArray) (hl:us.length=i.size)
  (hu:∀ u∈us,u.oneCell' = true) (hfit:o+us.length≤cs.length)
  (kk:∀ w' a',Mem w0 G (L.set k (.blk b (over cs o us) bt)) w'→Fits n a' e→rl P ops Q r a' w'):rl P ops Q (⟨none,.store et x y,t,p,af,none⟩::r) a w:=by
 obtain ⟨w',hr,M'⟩:=M.store_blk (P:=P) (us:=us) hk o 0 hu (by omega);refine Ow F (w':=w') ?_ fun a' F'=>kk w' a' (by simpa using M') F';simp only [execOp,F.ev hx,F.ev hy,Instr.storeAt,Instr.sureAddr,storeVar,Sem.run_bind,Sem.run_pure,Result.andThen_ok,ht.sizeOf,hv]
 simp [hl,hr]
end
end Go.Y
namespace Go.Y
open Go Go.RowKit
section
variable {P:Program} {ops:Array Oper} {Q:Exit→Act→World→Prop} {C:World→Prop}
def E2 (P:Program) (ops:Array Oper) (C:World→Prop) (o:Oper) (v:Value) (a:Act):Prop :=
 (Region.wanted o (yielded ops a.tmps)=true∧∀ w,C w→(execOp a.eval o).run P w=.ok (.value v) w) ∨
 (Region.wanted o (yielded ops a.tmps)=false∧v=undef)
def Adh (P:Program) (ops:Array Oper) (Q:Exit→Act→World→Prop):(World→Prop)→Nat→Array Bool→Act→World→Prop
 | _,0,listed,a,w=>Region.ready .any ops listed=[]∧Q .normal a w
 | C,fuel+1,listed,a,w =>
  (Region.ready .any ops listed=[]→Q .normal a w) ∧
  ∀ i∈Region.ready .any ops listed,wpOp P ops Q i (fun a' w'=>∃ C':World→Prop,C' w'∧(∀ w,C' w→C w)∧Adh P ops Q C' fuel (listed.setIfInBounds i true) a' w') a w
theorem Mg:∀ (fuel:Nat) (C:World→Prop) (listed:Array Bool) (a:Act) (w:World),Adh P ops Q C fuel listed a w→wpAny P .any ops Q fuel listed a w
 | 0,_,_,_,_,h=>h
 | fuel+1,_,_,_,_,h=>⟨h.1,fun i hi=>wpOp_mono (fun a' w' hk=>by obtain ⟨C',_,_,h'⟩:=hk;exact Mg fuel C' _ a' w' h') (h.2 i hi)⟩
theorem E2.mono {o:Oper} {v:Value} {a:Act} {C':World→Prop} (h:∀ w,C' w→C w) (hy:E2 P ops C o v a):E2 P ops C' o v a:=by
 rcases hy with ⟨h1,h2⟩ | h3
 ·exact Or.inl ⟨h1,fun w hw=>h2 w (h w hw)⟩
 ·exact Or.inr h3
theorem E2.op {i:Nat} {o:Oper} {v:Value} {a:Act} (hi:ops[i]?=some o) (hy:E2 P ops C o v a) {K:Act→World→Prop} {w:World} (hC:C w) (h:K (a.put o.dst v) w):wpOp P ops Q i K a w:=by
 unfold wpOp;simp only [hi]
 rcases hy with ⟨h1,h2⟩ | ⟨h1,rfl⟩
 ·rw [if_pos h1];left;unfold Oper.wp;rw [h2 w hC];exact h
 ·rw [if_neg (by simp [h1])];exact h
theorem Tq {j:Nat} {oi oj:Oper} {v:Value} (hj:ops[j]?=some oj) (hap:oi.apart ops oj=true) (hsi:∀ cs b,oi.op≠.select cs b) (hsj:∀ cs b,oj.op≠.select cs b)
  (hQ:∀ c a w,Q (.panic c) (a.put oi.dst v) w→Q (.panic c) a w) {K:Act→World→Prop} {a:Act} {w:World} (hy:E2 P ops C oi v a) (h:wpOp P ops Q j K (a.put oi.dst v) w) :
  wpOp P ops Q j (fun a' w'=>E2 P ops C oi v a'∧K (a'.put oi.dst v) w') a w:=by
 obtain ⟨h1,h2,h3⟩:=Oper.apart_spec hap;have hk:∀ (a:Act) (u:Value),E2 P ops C oi v a→E2 P ops C oi v (a.put oj.dst u):=fun a u hg=>by
  unfold E2 at *;rw [execOp_put oi hsi a oj.dst u h3,wanted_put oi a oj.dst u h3]
  exact hg
 have he:=execOp_put oj hsj a oi.dst v h1;have hw:=wanted_put oj a oi.dst v h1;unfold wpOp at h ⊢;simp only [hj] at h ⊢;rw [hw] at h
 by_cases hwt:Region.wanted oj (yielded ops a.tmps)=true
 ·rw [if_pos hwt] at h ⊢
  rcases h with h | ⟨ha,hl⟩
  ·left
   unfold Oper.wp at h ⊢;rw [he] at h
   cases hr:(execOp a.eval oj).run P w with
   | halt x w' =>
    rw [hr] at h
    cases x <;> simp only [Oper.upon] at h ⊢
    exact hQ _ _ _ h
   | ok nx w' =>
    rw [hr] at h
    cases nx <;> simp only [Oper.upon] at h ⊢
    case value u=>exact ⟨hk a u hy,by rw [← Act.put_comm a v u h2];exact h⟩
    case skip=>exact ⟨hk a _ hy,by rw [← Act.put_comm a v undef h2];exact h⟩
    case defer d=>exact ⟨hk { a with defers:=d::a.defers } _ hy,by rw [← Act.put_comm _ v undef h2,← Act.put_defers];exact h⟩
    case enter f args =>
     refine h.mono fun e w'' hh=>?_
     cases e with
     | returned u=>exact ⟨hk a u hy,by rw [← Act.put_comm a v u h2];exact hh⟩
     | panicked c=>exact hQ _ _ _ hh
     | outgrown=>exact hh
    case row row args=>exact Rows.mono h fun u w'' hh=>⟨hk a u hy,by rw [← Act.put_comm a v u h2];exact hh⟩
  ·right
   refine ⟨?_,hl⟩;unfold Oper.asks at ha ⊢;rw [he] at ha
   exact ha
 ·rw [if_neg hwt] at h ⊢
  exact ⟨hk a undef hy,by rw [← Act.put_comm a v undef h2];exact h⟩
theorem U0 {i:Nat} {oi:Oper} {v:Value} (hi:ops[i]?=some oi) (hsel:∀ (j:Nat) (o:Oper) cs b,ops[j]?=some o→o.op≠.select cs b) (hQ:∀ c a w,Q (.panic c) (a.put oi.dst v) w→Q (.panic c) a w) :
  ∀ (fuel:Nat) (C:World→Prop) (listed:Array Bool) (a:Act) (w:World),C w →
   (∀ j oj,ops[j]?=some oj→j≠i→listed.getD j true=false→(∀ e∈oj.after,Region.binds .any e=true→e.on≠i)→oi.apart ops oj=true) →
   i∈Region.ready .any ops listed→E2 P ops C oi v a→Adh P ops Q C fuel (listed.setIfInBounds i true) (a.put oi.dst v) w→Adh P ops Q C (fuel+1) listed a w:=by
 intro fuel
 induction fuel with
 | zero =>
  intro C listed a w hC _ hr hy H;refine ⟨fun h=>(by rw [h] at hr;cases hr),fun j hj=>?_⟩
  by_cases hji:j=i
  ·subst hji;exact hy.op hi hC ⟨C,hC,fun _ h=>h,H⟩
  ·have:=ready_mono hj hji;rw [H.1] at this
   cases this
 | succ fuel ih =>
  intro C listed a w hC hf hr hy H;refine ⟨fun h=>(by rw [h] at hr;cases hr),fun j hj=>?_⟩
  by_cases hji:j=i
  ·subst hji;exact hy.op hi hC ⟨C,hC,fun _ h=>h,H⟩
  ·obtain ⟨hju,oj,hoj,hall⟩:=mem_ready.1 hj;have hno:∀ e∈oj.after,Region.binds .any e=true→e.on≠i:=by
    intro e he hb heq;have h1:=hall e he hb;have h0:=(mem_ready.1 hr).1;rw [heq] at h1
    by_cases hlt:i < listed.size
    ·simp [hlt] at h0 h1;rw [h0] at h1;cases h1
    ·simp [Array.getElem?_eq_none (Nat.le_of_not_lt hlt)] at h1
   have h2:=Tq hoj (hf j oj hoj hji hju hno) (hsel i oi · · hi) (hsel j oj · · hoj) hQ hy (H.2 j (ready_mono hj hji));refine wpOp_mono (fun a' w' h3=>?_) h2;obtain ⟨h4,C',h5,h7,h6⟩:=h3;refine ⟨C',h5,h7,ih C' _ a' w' h5 ?_ (ready_mono hr (Ne.symm hji)) (h4.mono h7) ?_⟩
   ·intro k ok hk hki hun hno';refine hf k ok hk hki ?_ hno'
    by_cases hjk:j=k
    ·subst hjk;exact hju
    ·rw [getD_set_ne true hjk] at hun;exact hun
   ·rw [Array.setIfInBounds_comm _ _ hji]
    exact h6
def pl (P:Program) (ops:Array Oper) (Q:Exit→Act→World→Prop):(World→Prop)→List (Bool × Oper)→Act→World→Prop
 | _,[],a,w=>Q .normal a w
 | C,(true,o)::r,a,w=>∃ v,E2 P ops C o v a∧pl P ops Q C r (a.put o.dst v) w
 | C,(false,o)::r,a,w =>
  (Region.wanted o (yielded ops a.tmps)=true→o.wp P a w (fun a' w'=>∃ C':World→Prop,C' w'∧(∀ w,C' w→C w)∧pl P ops Q C' r a' w') Q) ∧
  (Region.wanted o (yielded ops a.tmps)=false→pl P ops Q C r (a.put o.dst undef) w)
def Aig (ops:Array Oper) (i:Nat) (listed:Array Bool):Bool :=
 match ops[i]? with
 | none=>false
 | some oi=>(List.range ops.size).all fun j=>match ops[j]? with
  | none=>true
  | some oj=>Nat.beq j i || listed.getD j true || oj.after.any (fun e=>Region.binds .any e && Nat.beq e.on i) || oi.apart ops oj
def Ny (ops:Array Oper):List (Bool × Nat)→Array Bool→Bool
 | [],listed=>(Region.ready .any ops listed).isEmpty
 | (true,i)::r,listed=>(Region.ready .any ops listed).any (Nat.beq i) && Aig ops i listed && Ny ops r (listed.setIfInBounds i true)
 | (false,i)::r,listed=>(match Region.ready .any ops listed with | [j]=>Nat.beq i j | _=>false) && Ny ops r (listed.setIfInBounds i true)
theorem K8 (hsel:∀ (j:Nat) (o:Oper) cs b,ops[j]?=some o→o.op≠.select cs b) (hQ:∀ c a d v w,Q (.panic c) (a.put d v) w→Q (.panic c) a w) :
  ∀ (order:List (Bool × Nat)) (C:World→Prop) (listed:Array Bool) (plan:List (Bool × Oper)) (a:Act) (w:World),order.map (fun x=>(x.1,ops[x.2]?))=plan.map (fun x=>(x.1,some x.2))→Ny ops order listed=true→C w →
   pl P ops Q C plan a w→Adh P ops Q C order.length listed a w
 | [],C,listed,plan,a,w,hp,hok,_,h=>by
  cases plan with
  | nil=>exact ⟨by simpa [Ny] using hok,h⟩
  | cons x y=>simp at hp
 | (true,i)::order,C,listed,plan,a,w,hp,hok,hC,h=>by
  cases plan with
  | nil=>simp at hp
  | cons x plan =>
   obtain ⟨b,o⟩:=x;simp only [List.map_cons,List.cons.injEq,Prod.mk.injEq] at hp;obtain ⟨⟨rfl,hi⟩,hp⟩:=hp;simp only [Ny,Bool.and_eq_true] at hok;obtain ⟨⟨hr,hf⟩,hok⟩:=hok;obtain ⟨v,hy,h'⟩:=h;have hr':i∈Region.ready .any ops listed:=by
    obtain ⟨j,hj,hb⟩:=List.any_eq_true.1 hr;rw [Nat.eq_of_beq_eq_true hb];exact hj
   refine U0 hi hsel (fun c a w=>hQ c a o.dst v w) _ C listed a w hC ?_ hr' hy (K8 hsel hQ order C _ plan _ w hp hok hC h');intro j oj hj hji hun hno;unfold Aig at hf;simp only [hi] at hf;have hlt:j < ops.size:=by
    rcases Nat.lt_or_ge j ops.size with h' | h'
    ·exact h'
    ·rw [Array.getElem?_eq_none h'] at hj;cases hj
   have:=List.all_eq_true.1 hf j (List.mem_range.2 hlt);simp only [hj,Bool.or_eq_true] at this
   rcases this with ((h1 | h1) | h1) | h1
   ·exact absurd (Nat.eq_of_beq_eq_true h1) hji
   ·rw [h1] at hun;cases hun
   ·obtain ⟨e,he,hb⟩:=Array.any_eq_true'.1 h1;simp only [Bool.and_eq_true] at hb
    exact absurd (Nat.eq_of_beq_eq_true hb.2) (hno e he hb.1)
   ·exact h1
 | (false,i)::order,C,listed,plan,a,w,hp,hok,hC,h=>by
  cases plan with
  | nil=>simp at hp
  | cons x plan =>
   obtain ⟨b,o⟩:=x;simp only [List.map_cons,List.cons.injEq,Prod.mk.injEq] at hp;obtain ⟨⟨rfl,hi⟩,hp⟩:=hp;simp only [Ny,Bool.and_eq_true] at hok;obtain ⟨hr,hok⟩:=hok;have hready:Region.ready .any ops listed=[i]:=by
    split at hr
    ·rename_i j hj;rw [hj,Nat.eq_of_beq_eq_true hr]
    ·cases hr
   refine ⟨fun h0=>(by rw [hready] at h0;cases h0),fun j hj=>?_⟩;rw [hready] at hj;have hji:j=i:=by simpa using hj
   subst hji;obtain ⟨h1,h2⟩:=h;unfold wpOp;simp only [hi]
   by_cases hw:Region.wanted o (yielded ops a.tmps)=true
   ·rw [if_pos hw]
    left
    exact Oper.wp_mono (fun a' w' hk=>by
     obtain ⟨C',h3,h4,h5⟩:=hk
     exact ⟨C',h3,h4,K8 hsel hQ order C' _ plan a' w' hp hok h3 h5⟩) (h1 hw)
   ·rw [if_neg hw]
    exact ⟨C,hC,fun _ h=>h,K8 hsel hQ order C _ plan _ w hp hok hC (h2 (by simpa using hw))⟩
def Tl (ops:Array Oper):List (Bool × Nat)→List (Bool × Oper)
 | []=>[]
 | x::r=>match ops[x.2]? with
  | some o=>(x.1,o)::Tl ops r
  | none=>Tl ops r
theorem Tk:∀ (order:List (Bool × Nat)),order.all (fun x=>Nat.ble (x.2+1) ops.size)=true→order.map (fun x=>(x.1,ops[x.2]?))=(Tl ops order).map (fun x=>(x.1,some x.2))
 | [],_=>rfl
 | x::r,h=>by
  simp only [List.all_cons,Bool.and_eq_true] at h;have hlt:x.2 < ops.size:=Nat.le_of_ble_eq_true h.1;simp only [Tl,Array.getElem?_eq_getElem hlt,List.map_cons,Tk r h.2]
def V8 (l:List Oper) (order:List (Bool × Nat)):Bool :=
 Region.noSelect l.toArray && order.all (fun x=>Nat.ble (x.2+1) l.length) && Nat.beq order.length l.length && Ny l.toArray order (Array.replicate l.length false)
theorem E3 {id:Nat} {l:List Oper} {a:Act} {w:World} (order:List (Bool × Nat)) (C:World→Prop) (hm:P.follows .mixedOrders=true) (hk:V8 l order=true)
  (hQ:∀ c a d v w,Q (.panic c) (a.put d v) w→Q (.panic c) a w) (hC:C { w with drawn:=w.drawn+1 }) (h:pl P l.toArray Q C (Tl l.toArray order) a { w with drawn:=w.drawn+1 }):(Code.region id l.toArray true).wp P Q a w:=by
 simp only [V8,Bool.and_eq_true] at hk;obtain ⟨⟨⟨hs,hr⟩,hn⟩,hok⟩:=hk;refine wp_region_any hm (Mg _ C _ _ _ ?_);have hn':=Nat.eq_of_beq_eq_true hn;have:=K8 (P:=P) (Region.noSelect_spec hs) hQ order C (Array.replicate l.length false) _ a _ (Tk order (by simpa using hr)) hok hC h;rw [hn'] at this
 simpa using this
end
structure Keep (G:Aq) (L:List Res) (w:World):Prop where
 pers:∀ r o,G r=some o→w.heap[r]?=some o
 own:∀ x∈L,x.holds w
section
variable {P:Program} {ops:Array Oper} {Q:Exit→Act→World→Prop} {C:World→Prop} {n:Nat} {a:Act} {w w0:World} {e:Env} {G G':Aq} {L L':List Res}
 {d:Nat} {t:TypeId} {p:String} {af:Array Edge} {r:List (Bool × Oper)}
theorem Mem.keep (M:Mem w0 G' L' w) (hg:Gle G G') (hL:∀ x∈L,x∈L'):Keep G L w:=⟨fun r o h=>M.pers r o (hg r o h),fun x hx=>M.own x (hL x hx)⟩
theorem Keep.mono {G':Aq} (hg:Gle G G') (hL:∀ x∈L,x∈L') (h:Keep G' L' w):Keep G L w:=⟨fun r o h1=>h.pers r o (hg r o h1),fun x hx=>h.own x (hL x hx)⟩
theorem Keep.cell (M:Keep G L w) {b o:Nat} {v:Value} (h:Hc G b o=some v):w.cell? ⟨b,o,none⟩=some v:=by
 unfold Hc at h
 split at h
 ·rename_i c t f hb
  simp [World.cell?,M.pers _ _ hb,h]
 ·cases h
theorem Keep.cellL (M:Keep G L w) {k b:Nat} {cs:List Value} {t:TypeId} (hk:L[k]?=some (.blk b cs t)) {o:Nat} {v:Value} (hv:cs[o]?=some v):w.cell? ⟨b,o,none⟩=some v:=by
 have hh:w.heap[b]?=some (.cells cs.toArray t (0,0)):=M.own _ (List.mem_of_getElem? hk)
 simp [World.cell?,hh,hv]
theorem pl_run {op:Op} {v:Value} (F:Fits n a e) (hr:∀ w,C w→(execOp a.eval ⟨some d,op,t,p,af,none⟩).run P w=.ok (.value v) w) (hd:Nat.ble (d+1) n=true)
  (k:∀ a',Fits n a' ((d,v)::e)→pl P ops Q C r a' w):pl P ops Q C ((true,⟨some d,op,t,p,af,none⟩)::r) a w :=
 ⟨v,Or.inl ⟨rfl,hr⟩,k _ (F.put hd)⟩
theorem Yt {op:Op} {v:Value} {j g:Nat} {want b:Bool} (F:Fits n a e) (hj:(ops[j]?).bind (·.dst)=some g) (hb:look e g=some (.bool b)) (hw:b=want)
  (hr:∀ w,C w→(execOp a.eval ⟨some d,op,t,p,af,some (j,want)⟩).run P w=.ok (.value v) w) (hd:Nat.ble (d+1) n=true)
  (k:∀ a',Fits n a' ((d,v)::e)→pl P ops Q C r a' w):pl P ops Q C ((true,⟨some d,op,t,p,af,some (j,want)⟩)::r) a w:=by
 have hy:yielded ops a.tmps j=some b:=by simp [yielded,hj,F.slot _ _ hb]
 subst hw
 exact ⟨v,Or.inl ⟨by simp [Region.wanted,hy],hr⟩,k _ (F.put hd)⟩
theorem Vg {b2:Bool} {op:Op} {j g:Nat} {want b:Bool} (F:Fits n a e) (hj:(ops[j]?).bind (·.dst)=some g) (hb:look e g=some (.bool b)) (hw:b = !want) (hd:Nat.ble (d+1) n=true)
  (k:∀ a',Fits n a' ((d,undef)::e)→pl P ops Q C r a' w):pl P ops Q C ((b2,⟨some d,op,t,p,af,some (j,want)⟩)::r) a w:=by
 have hy:yielded ops a.tmps j=some b:=by simp [yielded,hj,F.slot _ _ hb]
 have hne:Region.wanted ⟨some d,op,t,p,af,some (j,want)⟩ (yielded ops a.tmps)=false:=by
  subst hw;cases want <;> simp [Region.wanted,hy]
 cases b2 with
 | true=>exact ⟨undef,Or.inr ⟨hne,rfl⟩,k _ (F.put hd)⟩
 | false=>exact ⟨fun h=>(by rw [hne] at h;cases h),fun _=>k _ (F.put hd)⟩
theorem pl_act {o:Oper} (h:rl P ops (fun e a w=>match e with | .normal=>∃ C':World→Prop,C' w∧(∀ w,C' w→C w)∧pl P ops Q C' r a w | e=>Q e a w) [o] a w) (hg:o.guard=none):pl P ops Q C ((false,o)::r) a w:=by
 obtain ⟨h1,h2⟩:=h;have hw:Region.wanted o (yielded ops a.tmps)=true:=by simp [Region.wanted,hg]
 refine ⟨fun _=>?_,fun h=>by rw [hw] at h;cases h⟩;have h3:=h1 hw;unfold Oper.wp at *
 generalize (execOp a.eval o).run P w=x at *
 cases x with
 | ok nx w' =>
  cases nx <;> simp only [Oper.upon] at h3 ⊢
  case value u=>exact h3
  case skip=>exact h3
  case defer d=>exact h3
  case enter f args =>
   refine Calls.mono h3 fun e w'' he=>?_
   cases e with
   | returned u=>exact he
   | panicked c=>exact he
   | outgrown=>obtain ⟨a0,w0,h0⟩:=he;exact ⟨a0,w0,h0⟩
  case row row args=>exact h3
 | halt x w'=>cases x <;> simp only [Oper.upon] at h3 ⊢ <;> exact h3
theorem agf {s:TypeId} {i:TI} (h:TOK P s i) (ha:i.k.agg=some false):(tk P s).agg=some false:=by rw [h.k];exact ha
theorem Mem.cellsL (M:Mem w0 G L w) {k b:Nat} {cs:List Value} {t:TypeId} (hk:L[k]?=some (.blk b cs t)) {o m:Nat} {us:List Value} (hu:(cs.drop o).take m=us):∀ j,j < m→w.cell? ⟨b,o+j,none⟩=us[j]?:=by
 intro j hj;have hh:w.heap[b]?=some (.cells cs.toArray t (0,0)):=M.own _ (List.mem_of_getElem? hk);subst hu
 simp [World.cell?,hh,hj]
theorem Mem.cellsA (M:Mem w0 G L w) {b o z:Nat} {cs:List Value} (hA:At G b o cs) (q:Nat) (hz:z=o+q) {m:Nat} {us:List Value} (hu:(cs.drop q).take m=us) (hl:us.length=m:=by rfl):∀ j,j < m→w.cell? ⟨b,z+j,none⟩=us[j]?:=by
 intro j hj;subst hu hz;obtain ⟨v,hv⟩:=Ap (xs:=(cs.drop q).take m) (i:=j) (by omega);rw [hv];rw [List.getElem?_take,if_pos hj,List.getElem?_drop] at hv;have:=M.cell (hA (q+j) v hv);rw [Nat.add_assoc]
 exact this
theorem Keep.cellsL (M:Keep G L w) {k b:Nat} {cs:List Value} {t:TypeId} (hk:L[k]?=some (.blk b cs t)) {o m:Nat} {us:List Value} (hu:(cs.drop o).take m=us):∀ j,j < m→w.cell? ⟨b,o+j,none⟩=us[j]?:=by
 intro j hj;have hh:w.heap[b]?=some (.cells cs.toArray t (0,0)):=M.own _ (List.mem_of_getElem? hk);subst hu
 simp [World.cell?,hh,hj]
theorem Keep.cellsA (M:Keep G L w) {b o z:Nat} {cs:List Value} (hA:At G b o cs) (q:Nat) (hz:z=o+q) {m:Nat} {us:List Value} (hu:(cs.drop q).take m=us) (hl:us.length=m:=by rfl):∀ j,j < m→w.cell? ⟨b,z+j,none⟩=us[j]?:=by
 intro j hj;subst hu hz;obtain ⟨v,hv⟩:=Ap (xs:=(cs.drop q).take m) (i:=j) (by omega);rw [hv];rw [List.getElem?_take,if_pos hj,List.getElem?_drop] at hv;have:=M.cell (hA (q+j) v hv);rw [Nat.add_assoc]
 exact this
def Ix (ad:Option Addr) (m j sz b o:Nat):Prop:=∃ o0,ad=some ⟨b,o0,none⟩∧o=o0+j * sz∧j < m
theorem Ag.at {α:Type} {rd:Rd α} {sz:Nat} {ad:Option Addr} {m c:Nat} {xs:List α} (S:Ag rd sz G (.slice ad m c) xs) {j:Nat} {X:α} (hX:xs[j]?=some X) :
  ∃ b o cs,Ix ad m j sz b o∧cs.length=sz∧At G b o cs∧rd G cs X:=by
 obtain ⟨b,o,cs,h1,h2,h3,h4,h5⟩:=S.index hX
 exact ⟨b,_,cs,⟨o,h1,rfl,by rw [h2];exact A0 hX⟩,h3,h4,h5⟩
theorem Gf {ρ:Operand→Value} {dd:Option Tmp} {g:Option (Nat × Bool)} {s et:TypeId} {i:TI} {x y:Operand} {ad:Option Addr} {m c:Nat} {k:IntKind} {z:Int} {j b o:Nat}
  (hs:tk P s=.slice et) (ht:TOK P et i) (hx:ρ x=.slice ad m c) (hy:ρ y=.int k z) (hzj:z=(j:Int)) (I:Ix ad m j i.size b o) :
  (execOp ρ ⟨dd,.indexAddr s x y,t,p,af,g⟩).run P w=.ok (.value (.pointer (some ⟨b,o,none⟩))) w:=by
 obtain ⟨o0,rfl,rfl,hlt⟩:=I;subst hzj
 exact U9 hs ht hx hy hlt
def Sx (ad:Option Addr) (c l sz:Nat) (a1:Option Addr) (c1:Nat):Prop:=(if c=l then ad else ad.map (·.add (l * sz)))=a1∧c - l=c1
theorem Ag.part {α:Type} {rd:Rd α} {sz:Nat} {ad:Option Addr} {m c:Nat} {xs:List α} (S:Ag rd sz G (.slice ad m c) xs) (l h:Nat) (h1:l≤h) (h2:h≤xs.length) :
  ∃ a1 c1,Sx ad c l sz a1 c1∧m=xs.length∧m≤c∧Ag rd sz G (.slice a1 (h - l) c1) ((xs.take h).drop l):=by
 obtain ⟨e1,e2,_⟩:=S.cells;obtain ⟨a1,e3,e4⟩:=S.sub h1 h2
 exact ⟨a1,_,⟨e3,rfl⟩,e1,e2,e4⟩
theorem Ag.partT {α:Type} {rd:Rd α} {sz:Nat} {ad:Option Addr} {m c:Nat} {xs:List α} (S:Ag rd sz G (.slice ad m c) xs) (h:Nat) (h2:h≤xs.length) :
  ∃ a1 c1,Sx ad c 0 sz a1 c1∧m=xs.length∧m≤c∧Ag rd sz G (.slice a1 (h - 0) c1) (xs.take h):=by
 have:=S.part 0 h (Nat.zero_le _) h2
 simpa using this
theorem Ag.partD {α:Type} {rd:Rd α} {sz:Nat} {ad:Option Addr} {m c:Nat} {xs:List α} (S:Ag rd sz G (.slice ad m c) xs) (l:Nat) (h2:l≤xs.length) :
  ∃ a1 c1,Sx ad c l sz a1 c1∧m=xs.length∧m≤c∧Ag rd sz G (.slice a1 (xs.length - l) c1) (xs.drop l):=by
 have:=S.part l xs.length h2 (Nat.le_refl _);rw [List.take_of_length_le (Nat.le_refl _)] at this
 exact this
theorem Ge {ρ:Operand→Value} {dd:Option Tmp} {g:Option (Nat × Bool)} {s et:TypeId} {i:TI} {x:Operand} {lo hi:Option Operand} {ad a1:Option Addr} {m c l h c1:Nat} {kl kh:IntKind} {zl zh:Int}
  (hs:tk P s=.slice et) (ht:TOK P et i) (I:Sx ad c l i.size a1 c1) (hx:ρ x=.slice ad m c)
  (hl:match lo with | none=>l=0 | some y=>ρ y=.int kl zl∧zl=(l:Int)) (hh:match hi with | none=>h=m | some y=>ρ y=.int kh zh∧zh=(h:Int)) (h1:l≤h) (h2:h≤c) :
  (execOp ρ ⟨dd,.slice s x lo hi none,t,p,af,g⟩).run P w=.ok (.value (.slice a1 (h - l) c1)) w:=by
 obtain ⟨rfl,rfl⟩:=I
 exact Ya hs ht hx hl hh h1 h2
theorem Aag {ρ:Operand→Value} {dd:Option Tmp} {g:Option (Nat × Bool)} {ats:Array TypeId} {x y:Operand} {k:IntKind} {b c:Int} (hx:ρ x=.int k b) (hy:ρ y=.int k c) :
  (execOp ρ ⟨dd,.call ⟨.builtin .max,#[x,y],ats⟩,t,p,af,g⟩).run P w=.ok (.value (.int k (max b c))) w:=by
 have h0:(if b < c then c else b)=max b c:=by rw [Int.max_def];split <;> split <;> omega
 simp [execOp,resolve,invoke,builtin,Builtin.max_,Builtin.max2,hx,hy,h0]
theorem Aoi {ρ:Operand→Value} {dd:Option Tmp} {g:Option (Nat × Bool)} {ats:Array TypeId} {x y:Operand} {k:IntKind} {b c:Int} (hx:ρ x=.int k b) (hy:ρ y=.int k c) :
  (execOp ρ ⟨dd,.call ⟨.builtin .min,#[x,y],ats⟩,t,p,af,g⟩).run P w=.ok (.value (.int k (min b c))) w:=by
 have h0:(if c < b then c else b)=min b c:=by rw [Int.min_def];split <;> split <;> omega
 simp [execOp,resolve,invoke,builtin,Builtin.min_,Builtin.min2,hx,hy,h0]
theorem Mem.atRow {α:Type} {rd:Rd α} {sz:Nat} (M:Mem w0 G L w) {k m c:Nat} {ad:Option Addr} {cs:List Value} {bt:TypeId} {xs:List α} (hk:L[k]?=some (.row (.slice ad m c) m cs bt sz)) (hpos:0 < sz) (E:Els rd sz G cs xs)
  {j:Nat} {X:α} (hX:xs[j]?=some X) :
  ∃ b ch,Ix ad m j sz b (j * sz)∧m=xs.length∧ch.length=sz∧(∀ (q:Nat) (v:Value),ch[q]?=some v→w.cell? ⟨b,j * sz+q,none⟩=some v)∧rd G ch X:=by
 obtain ⟨l,ch,rr,h1,h2,h3,h4,h5⟩:=E.get hX;have hm:m=xs.length:=by
  have h6:=E.length;rw [(M.row_at hk).1.1] at h6
  exact Nat.eq_of_mul_eq_mul_right hpos h6
 have hlt:=A0 hX;obtain ⟨b,rfl⟩:=M.row_some hk (by omega);refine ⟨b,ch,⟨0,rfl,(Nat.zero_add _).symm,by omega⟩,hm,h3,fun q v hq=>M.row_cell hk ?_,h4⟩;rw [h1,List.append_assoc,List.getElem?_append_right (by omega),h2,Nat.add_sub_cancel_left,List.getElem?_append_left (A0 hq),hq]
theorem Acz {b o z:Nat} {cs:List Value} {v:Value} (hA:∀ (q:Nat) (v:Value),cs[q]?=some v→w.cell? ⟨b,o+q,none⟩=some v) (q:Nat) (hz:z=o+q) (hv:cs[q]?=some v):w.cell? ⟨b,z,none⟩=some v:=by
 subst hz;exact hA q v hv
theorem Mem.cellA (M:Mem w0 G L w) {b o z:Nat} {cs:List Value} {v:Value} (hA:At G b o cs) (q:Nat) (hz:z=o+q) (hv:cs[q]?=some v):w.cell? ⟨b,z,none⟩=some v:=by
 subst hz;exact M.cell (hA q v hv)
theorem Keep.cellA (M:Keep G L w) {b o z:Nat} {cs:List Value} {v:Value} (hA:At G b o cs) (q:Nat) (hz:z=o+q) (hv:cs[q]?=some v):w.cell? ⟨b,z,none⟩=some v:=by
 subst hz;exact M.cell (hA q v hv)
theorem Aut {b o z:Nat} {cs:List Value} (hA:∀ (q:Nat) (v:Value),cs[q]?=some v→w.cell? ⟨b,o+q,none⟩=some v) (q:Nat) (hz:z=o+q) {m:Nat} {us:List Value} (hu:(cs.drop q).take m=us) (hl:us.length=m:=by rfl):∀ j,j < m→w.cell? ⟨b,z+j,none⟩=us[j]?:=by
 intro j hj;subst hu hz;obtain ⟨v,hv⟩:=Ap (xs:=(cs.drop q).take m) (i:=j) (by omega);rw [hv];rw [List.getElem?_take,if_pos hj,List.getElem?_drop] at hv;rw [Nat.add_assoc]
 exact hA (q+j) v hv
theorem Kx {α:Type} {rd:Rd α} {sz:Nat} {et bt:TypeId} {i:TI} {x y:Operand} {v:Value} {k m c b o j:Nat} {ad:Option Addr} {cs us:List Value} {xs:List α} {X':α} {r:List Oper}
  (F:Fits n a e) (M:Mem w0 G L w) (ht:TOK P et i) (hk:L[k]?=some (.row (.slice ad m c) m cs bt sz)) (hsz:i.size=sz) (E:Els rd sz G cs xs) (I:Ix ad m j sz b o) (hj:j < xs.length)
  (hx:ev e x=some (.pointer (some ⟨b,o,none⟩))) (hy:ev e y=some v) (hv:v.cells=us.toArray) (hl:us.length=sz) (hu:∀ u∈us,u.oneCell' = true) (hr:rd G us X')
  (kk:∀ cs' w' a',Mem w0 G (L.set k (.row (.slice ad m c) m cs' bt sz)) w'→Els rd sz G cs' (xs.set j X')→Fits n a' e→rl P ops Q r a' w'):rl P ops Q (⟨none,.store et x y,t,p,af,none⟩::r) a w:=by
 obtain ⟨X,hX⟩:=Ap hj;obtain ⟨l,ch,rr,h1,h2,h3,h4,h5⟩:=E.get hX;obtain ⟨b',hb⟩:=M.row_some hk (by obtain ⟨_,_,_,h⟩:=I;omega);obtain ⟨o0,he,ho,hlt⟩:=I;rw [hb] at he;simp only [Option.some.injEq,Addr.mk.injEq,and_true] at he;obtain ⟨rfl,rfl⟩:=he;subst hb;subst hsz;refine Aai F M ht hk hx hy hv hl hu ?_ ?_
 ·rw [h1];simp only [List.length_append];omega
 ·intro w' a' M' F';refine kk _ w' a' M' ?_ F';rw [h1,ho,Nat.zero_add,← h2,Aoy us l ch rr (by omega)]
  exact h5 us X' hl hr
theorem Q8 {α:Type} {rd:Rd α} {sz:Nat} {et bt:TypeId} {i:TI} {x y:Operand} {v:Value} {k m c b o j f z:Nat} {ad:Option Addr} {cs:List Value} {xs:List α} {X X':α} {r:List Oper}
  (F:Fits n a e) (M:Mem w0 G L w) (ht:TOK P et i) (h1:i.size=1) (hk:L[k]?=some (.row (.slice ad m c) m cs bt sz)) (E:Els rd sz G cs xs) (I:Ix ad m j sz b o) (hX:xs[j]?=some X) (hf:f < sz)
  (hx:ev e x=some (.pointer (some ⟨b,z,none⟩))) (hz:z=o+f) (hy:ev e y=some v) (hv:v.oneCell' = true) (hr:∀ ch,ch.length=sz→rd G ch X→rd G (ch.set f v) X')
  (kk:∀ cs' w' a',Mem w0 G (L.set k (.row (.slice ad m c) m cs' bt sz)) w'→Els rd sz G cs' (xs.set j X')→Fits n a' e→rl P ops Q r a' w'):rl P ops Q (⟨none,.store et x y,t,p,af,none⟩::r) a w:=by
 subst hz;obtain ⟨l,ch,rr,e1,e2,e3,e4,e5⟩:=E.get hX;obtain ⟨b',hb⟩:=M.row_some hk (by obtain ⟨_,_,_,h⟩:=I;omega);obtain ⟨o0,he,ho,hlt⟩:=I;rw [hb] at he;simp only [Option.some.injEq,Addr.mk.injEq,and_true] at he;obtain ⟨rfl,rfl⟩:=he;subst hb;have hq:cs[o+f]?=some ch[f]:=by
  rw [e1,List.append_assoc,List.getElem?_append_right (by omega),e2,ho,Nat.zero_add,Nat.add_sub_cancel_left,List.getElem?_append_left (by omega),List.getElem?_eq_getElem]
 refine Ow F (Sv ht h1 (F.ev hx) (F.ev hy) ?_ ?_ ?_ (M.row_cell hk hq) ((M.row_at hk).1.frozenAt _)) fun a' F'=>kk _ _ a' (M.set_row hk (o+f) hv) ?_ F'
 ·cases v <;> simp_all [Value.cells,Value.oneCell']
 ·intro c hc;subst hc;simp [Value.oneCell'] at hv
 ·intro c hc;subst hc;simp [Value.oneCell'] at hv
 ·have:cs.set (o+f) v=l++ch.set f v++rr:=by
   rw [e1,ho,Nat.zero_add,← e2,List.append_assoc,List.append_assoc,List.set_append_right _ _ (by omega),Nat.add_sub_cancel_left,List.set_append_left _ _ (by omega)]
  rw [this]
  exact e5 _ X' (by simpa using e3) (hr ch e3 e4)
end
theorem Els.replicate {α:Type} {rd:Rd α} {sz:Nat} {G:Aq} {z:List Value} {x:α} (hz:z.length=sz) (hr:rd G z x):∀ n:Nat,Els rd sz G (List.replicate n z).flatten (List.replicate n x)
 | 0=>rfl
 | n+1=>⟨z,(List.replicate n z).flatten,by simp [List.replicate_succ],hz,hr,Els.replicate hz hr n⟩
theorem R6 (z:Array Value):∀ n:Nat,(madeCells z (n * z.size)).toList=(List.replicate n z.toList).flatten:=by
 intro n
 apply List.ext_getElem?
 intro j;have hlen:∀ m:Nat,(List.replicate m z.toList).flatten.length=m * z.size:=by
  intro m;induction m with
  | zero=>simp
  | succ m ih=>simp [List.replicate_succ,ih,Nat.add_mul];omega
 have key:∀ (m j:Nat),(List.replicate m z.toList).flatten[j]?=if j < m * z.size then some z[j % z.size]! else none:=by
  intro m
  induction m with
  | zero=>intro j;simp
  | succ m ih =>
   intro j;rw [List.replicate_succ,List.flatten_cons]
   by_cases hj:j < z.size
   ·rw [List.getElem?_append_left (by simpa using hj),if_pos (by rw [Nat.add_mul];omega),Nat.mod_eq_of_lt hj]
    simp [hj]
   ·rw [List.getElem?_append_right (by simpa using Nat.le_of_not_lt hj),ih];simp only [Array.length_toList];have h2:j % z.size=(j - z.size) % z.size:=Nat.mod_eq_sub_mod (Nat.le_of_not_lt hj);rw [h2]
    by_cases h3:j - z.size < m * z.size
    ·rw [if_pos h3,if_pos (by rw [Nat.add_mul];omega)]
    ·rw [if_neg h3,if_neg (by rw [Nat.add_mul];omega)]
 rw [key]
 by_cases hj:j < n * z.size
 ·rw [if_pos hj]
  simp [madeCells,hj]
 ·rw [if_neg hj]
  simp [madeCells]
  omega
section
variable {P:Program} {ops:Array Oper} {Q:Exit→Act→World→Prop} {n:Nat} {a:Act} {w w0:World} {e:Env} {G:Aq} {L:List Res}
 {d:Nat} {t:TypeId} {p:String} {af:Array Edge} {r:List Oper}
theorem Lx {ρ:Operand→Value} {dd:Option Tmp} {g:Option (Nat × Bool)} {s et:TypeId} {i:TI} {x y:Operand} {kl kc:IntKind} {l c:Nat} {zl zc:Int} (hs:tk P s=.slice et) (ht:TOK P et i)
  (hx:ρ x=.int kl zl) (hzl:zl=(l:Int)) (hy:ρ y=.int kc zc) (hzc:zc=(c:Int)) (hlc:l≤c) (hb:i.bytes * c≤281474976710656) (h63:c≤9223372036854775807) :
  (execOp ρ ⟨dd,.makeSlice s x y,t,p,af,g⟩).run P w=.ok (.value (.slice (some ⟨w.heap.size,0,none⟩) l c)) { w with heap:=w.heap.push (.cells (madeCells i.zero.cells (c * i.size)) et (0,0)) }:=by
 obtain ⟨q,h1,h2,h3,h4⟩:=ht.info;subst hzl hzc;have hr:=run_make (P:=P) w s et q i.zero (C9 hs) h1 h4 kl kc l c (by omega) (by omega) (by
  rw [h3];have h5:((i.bytes * c:Nat):Int)≤((281474976710656:Nat):Int):=Int.ofNat_le.2 hb;rw [Int.natCast_mul] at h5
  exact h5) (by omega)
 simp only [execOp,hx,hy,Sem.run_bind,hr,Result.andThen_ok,Sem.run_pure,h2]
 rfl
theorem rl_make {α:Type} {rd:Rd α} {sz:Nat} {s et:TypeId} {i:TI} {x y:Operand} {kl kc:IntKind} {l:Nat} {zl zc:Int} {Z:α} (F:Fits n a e) (M:Mem w0 G L w) (hs:tk P s=.slice et) (ht:TOK P et i) (hsz:i.size=sz) (hpos:0 < sz) (hz:i.zero.cells.size=i.size)
  (hx:ev e x=some (.int kl zl)) (hzl:zl=(l:Int)) (hy:ev e y=some (.int kc zc)) (hzc:zc=(l:Int)) (hb:i.bytes * l≤281474976710656) (h63:l≤9223372036854775807)
  (h1:∀ u∈i.zero.cells.toList,u.oneCell' = true) (hr:rd G i.zero.cells.toList Z) (hd:Nat.ble (d+1) n=true)
  (k:∀ v cs w' a',Mem w0 G (.row v l cs et sz::L) w'→Els rd sz G cs (List.replicate l Z)→Fits n a' ((d,v)::e)→rl P ops Q r a' w') :
  rl P ops Q (⟨some d,.makeSlice s x y,t,p,af,none⟩::r) a w:=by
 subst hsz;refine Bf F (Lx hs ht (F.ev hx) hzl (F.ev hy) hzc (Nat.le_refl _) hb h63) hd fun a' F'=>k _ (List.replicate l i.zero.cells.toList).flatten _ a' ?_ (Els.replicate (by simpa using hz) hr l) F';have hm:(madeCells i.zero.cells (l * i.size))=((List.replicate l i.zero.cells.toList).flatten++[]).toArray:=by
  rw [List.append_nil,← R6 _,hz]
 rw [hm];have hl:(List.replicate l i.zero.cells.toList).flatten.length=l * i.size:=by
  rw [← R6 _,Array.length_toList,size_madeCells,hz]
 have h63':l≤maxLen:=h63;refine M.newrow (spare:=[]) ?_ hl (by rw [List.append_nil];exact hl) (Nat.le_refl _) h63';intro u hu;obtain ⟨q,hq,hu⟩:=List.mem_flatten.1 hu;rw [(List.mem_replicate.1 hq).2] at hu
 exact h1 u hu
theorem Aom {sz:Nat} {s et:TypeId} {i:TI} {x y:Operand} {kl kc:IntKind} {c:Nat} {zl zc:Int} (F:Fits n a e) (M:Mem w0 G L w) (hs:tk P s=.slice et) (ht:TOK P et i) (hsz:i.size=sz)
  (hx:ev e x=some (.int kl zl)) (hzl:zl=((0:Nat):Int)) (hy:ev e y=some (.int kc zc)) (hzc:zc=(c:Int)) (hb:i.bytes * c≤281474976710656) (h63:c≤9223372036854775807) (hd:Nat.ble (d+1) n=true)
  (k:∀ b w' a',Mem w0 G (.row (.slice (some ⟨b,0,none⟩) 0 c) 0 [] et sz::L) w'→Fits n a' ((d,.slice (some ⟨b,0,none⟩) 0 c)::e)→rl P ops Q r a' w') :
  rl P ops Q (⟨some d,.makeSlice s x y,t,p,af,none⟩::r) a w:=by
 subst hsz;refine Bf F (Lx hs ht (F.ev hx) hzl (F.ev hy) hzc (Nat.zero_le _) hb h63) hd fun a' F'=>k _ _ a' ?_ F';have hm:madeCells i.zero.cells (c * i.size)=([]++(madeCells i.zero.cells (c * i.size)).toList).toArray:=by simp
 rw [hm];have h63':c≤maxLen:=h63
 exact M.newrow (cs:=[]) (n:=0) (by simp) (by simp) (by simp [size_madeCells]) (Nat.zero_le _) h63'
def Ke (w0:World) (G:Aq) (Φ:List Res→Value→Prop):Ending→World→Prop
 | .returned v,w'=>∃ L',Mem w0 G L' w'∧Φ L' v
 | _,_=>False
theorem Aal {f:FuncId} {args:List Operand} {ats:Array TypeId} {vs:List Value} {Φ:List Res→Value→Prop}
  (F:Fits n a e) (hE:Ent P f) (hv:evs e args=some vs) (hd:Nat.ble (d+1) n=true) (hs:Calls P f vs.toArray w (Ke w0 G Φ))
  (k:∀ v L' w' a',Mem w0 G L' w'→Φ L' v→Fits n a' ((d,v)::e)→rl P ops Q r a' w') :
  rl P ops Q (⟨some d,.call ⟨.value (.func f),args.toArray,ats⟩,t,p,af,none⟩::r) a w:=by
 refine H7 (caps:=[]) F hE rfl hv hd (by rw [List.append_nil];exact hs) fun x w' hx=>?_
 cases x with
 | returned v=>obtain ⟨L',h1,h2⟩:=hx;exact ⟨v,rfl,fun a' F'=>k v L' w' a' h1 h2 F'⟩
 | panicked c=>exact hx.elim
 | outgrown=>exact hx.elim
end
end Go.Y
