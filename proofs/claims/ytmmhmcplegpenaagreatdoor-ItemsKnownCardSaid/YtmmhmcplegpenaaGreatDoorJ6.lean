/- Rules: a range over a function: the loop's record and the block for its rounds' deferred calls are resources like any other. · The walks, part R. · The walks, part V. · The walks, part L. · The walks, part W. · More of the types and functions that the walks name. · The walks, part LA. · The walks, part LB. · Lists: what the operations hand back. · The walks, part LC. · The walks, part LD. · Any number of owned things lent for a while, and taken back. -/
import Derived.Test.YtmmhmcplegpenaaGreatDoorJ5
import Derived.RangeFuncLeaves
import Derived.RangeFuncSeq
import Derived.RangeFuncCalls
import Derived.Test.YtmmhmcplegpenaaGreatDoorJ1
import Derived.Test.YtmmhmcplegpenaaGreatDoorJ2
import Derived.Test.YtmmhmcplegpenaaGreatDoorJ3
set_option linter.unusedSimpArgs false
set_option linter.unusedVariables false
set_option maxRecDepth 10000
namespace Go.Y
open Go
section
variable {P:Program} {ops:Array Oper} {Q:Exit→Act→World→Prop} {w0 w:World} {G:Av} {L:List Res} {n d:Nat} {a:Act} {e:Env} {t:TypeId} {p:String} {af:Array Edge} {r:List Oper}
abbrev Rnd (l:Nat):Fence:=Fence.wide.inRound l
def L1 (o:Oper):Bool:=match o.op with | .defer _=>false | _=>true
theorem S2 {l m:Nat} {o:Oper} {next next':Act→World→Prop} (hnd:L1 o=true) (h:o.wp P a w next Q) (hn:∀ a w,next a w→next' a w):o.wpIn (Rnd l) m P a w next' Q:=by
 refine ⟨fun _ _=>trivial,?_⟩;have hnd':∀ c,o.op≠.defer c:=fun c hc=>by simp [L1,hc] at hnd
 rw [show (Rnd l).round=some l from rfl,Oper.semAt_some l _ _ hnd'];unfold Oper.wp at h;have hdep:(Rnd l).depth.isSome=true→1≤m:=fun h=>by cases h
 generalize (execOp a.eval o).run P w=res at h
 cases res with
 | ok nx w' =>
  cases nx with
  | value v=>exact hn _ _ h
  | skip=>exact hn _ _ h
  | defer d=>exact hn _ _ h
  | enter f args =>
   refine ⟨hdep,CallsIn.inRound l (callsIn_wide.2 (Calls.mono h fun x w'' hx=>?_))⟩
   cases x with
   | returned v=>exact hn _ _ hx
   | panicked c=>exact hx
   | outgrown=>exact hx
  | row row args =>
   exact ⟨hdep,fun c cs _=>let ⟨v,w'',r',s⟩:=h c cs;⟨v,w'',hn _ _ r',stepsIn_wide.2 s⟩⟩
  | _=>exact h.elim
 | halt x w' =>
  cases x with
  | panic v=>exact h
  | _=>exact h.elim
theorem Fx {l m:Nat}:∀ (is:List Nat) (a:Act) (w:World),(∀ (i:Nat) (o:Oper),ops[i]?=some o→L1 o=true)→rl P ops Q (is.filterMap (ops[·]?)) a w→wpOpsIn (Rnd l) m P ops Q is a w
 | [],a,w,_,h=>h
 | i::is,a,w,hnd,h=>by
  cases ho:ops[i]? with
  | none =>
   simp only [wpOpsIn,ho];simp only [List.filterMap_cons,ho] at h
   exact Fx is a w hnd h
  | some o =>
   simp only [wpOpsIn,ho];simp only [List.filterMap_cons,ho,rl] at h
   by_cases hw:Region.wanted o (yielded ops a.tmps)=true
   ·simp only [hw,if_true]
    exact S2 (hnd i o ho) (h.1 hw) (fun a w=>Fx is a w hnd)
   ·simp only [hw]
    exact ⟨fun _ _=>trivial,Fx is _ _ hnd (h.2 (by simpa using hw))⟩
theorem Gg {l m id:Nat} {os:List Oper} (hnd:os.all L1=true) (h:rl P os.toArray Q os a w):(Code.region id os.toArray false).wpIn (Rnd l) m P Q a w :=
 wpIn_region (Fx _ a w (fun i o ho=>List.all_eq_true.1 hnd o (by simpa using List.mem_of_getElem? (by simpa using ho))) (by rw [F9];simpa using h))
theorem J7 {Fe:Fence} {m:Nat} {c:Operand} {x y:Code} {t:Bool} (F:Fits n a e) (hc:ev e c=some (.bool t)) (ht:t=true→x.wpIn Fe m P Q a w) (hf:t=false→y.wpIn Fe m P Q a w):(Code.cond c x y).wpIn Fe m P Q a w :=
 wpIn_cond_split (F.ev hc) ht hf
theorem Mb {Fe:Fence} {m:Nat} {c:Operand} {x y:Code} {t:Bool} (F:Fits n a e) (hc:ev e c=some (.bool t)) (ht:t=true) (k:x.wpIn Fe m P Q a w):(Code.cond c x y).wpIn Fe m P Q a w :=
 wpIn_cond_split (F.ev hc) (fun _=>k) (fun h=>by rw [ht] at h;cases h)
theorem R7 {Fe:Fence} {m:Nat} {c:Operand} {x y:Code} {t:Bool} (F:Fits n a e) (hc:ev e c=some (.bool t)) (ht:t=false) (k:y.wpIn Fe m P Q a w):(Code.cond c x y).wpIn Fe m P Q a w :=
 wpIn_cond_split (F.ev hc) (fun h=>by rw [ht] at h;cases h) (fun _=>k)
theorem Wn {Fe:Fence} {m:Nat} {c:Code} (I:Nat→Act→World→Prop) (m0:Nat) (h0:I m0 a w)
  (round:∀ k a w,I k a w→c.wpIn Fe m P (Exit.then (fun a' w'=>∃ k',k' < k∧I k' a' w') Q) a w):(Code.loop c).wpIn Fe m P Q a w:=by
 classical
 have ex:∀ a w,(∃ k,I k a w)→∃ k,I k a w∧∀ j,I j a w→k≤j:=by
  intro a w ⟨k,hk⟩
  induction k using Nat.strongRecOn with
  | _ k ih =>
   by_cases h:∃ j,j < k∧I j a w
   ·obtain ⟨j,h1,h2⟩:=h;exact ih j h1 h2
   ·exact ⟨k,hk,fun j hj=>Nat.le_of_not_lt fun hlt=>h ⟨j,hlt,hj⟩⟩
 refine wpIn_loop (fun a w=>∃ k,I k a w) (fun a w=>if h:∃ k,I k a w then Classical.choose (ex a w h) else 0) ⟨m0,h0⟩ fun a w hI=>?_;have hc:=Classical.choose_spec (ex a w hI);refine wpIn_mono (round _ a w hc.1) fun x a' w' hq=>?_
 cases x with
 | normal =>
  obtain ⟨k',hk',hI'⟩:=hq;have hex:∃ k,I k a' w':=⟨k',hI'⟩;refine ⟨hex,?_⟩;rw [dif_pos hI,dif_pos hex]
  exact Nat.lt_of_le_of_lt ((Classical.choose_spec (ex a' w' hex)).2 k' hI') hk'
 | _=>exact hq
def rlW (P:Program) (m:Nat) (ops:Array Oper) (Q:Exit→Act→World→Prop):List Oper→Act→World→Prop
 | [],a,w=>Q .normal a w
 | o::r,a,w =>
  (Region.wanted o (yielded ops a.tmps)=true→o.wpIn Fence.wide m P a w (rlW P m ops Q r) Q) ∧
  (Region.wanted o (yielded ops a.tmps)=false→rlW P m ops Q r (a.put o.dst undef) w)
theorem Cv {m:Nat}:∀ (is:List Nat) (a:Act) (w:World),rlW P m ops Q (is.filterMap (ops[·]?)) a w→wpOpsIn Fence.wide m P ops Q is a w
 | [],a,w,h=>h
 | i::is,a,w,h=>by
  cases ho:ops[i]? with
  | none =>
   simp only [wpOpsIn,ho];simp only [List.filterMap_cons,ho] at h
   exact Cv is a w h
  | some o =>
   simp only [wpOpsIn,ho];simp only [List.filterMap_cons,ho,rlW] at h
   by_cases hw:Region.wanted o (yielded ops a.tmps)=true
   ·simp only [hw,if_true];have h1:=h.1 hw;refine ⟨h1.1,?_⟩;have h2:=h1.2
    generalize (Oper.semAt Fence.wide.round a.eval o).run P w=res at h2 ⊢
    cases res with
    | ok nx w' =>
     cases nx with
     | value v=>exact Cv is _ _ h2
     | skip=>exact Cv is _ _ h2
     | defer d=>exact Cv is _ _ h2
     | enter f args =>
      refine ⟨h2.1,CallsIn.mono h2.2 fun x w'' hx=>?_⟩
      cases x with
      | returned v=>exact Cv is _ _ hx
      | panicked c=>exact hx
      | outgrown=>exact hx
     | row row args=>exact ⟨h2.1,RowsIn.mono h2.2 fun v w'' hx=>Cv is _ _ hx⟩
     | round l f tmps assign body =>
      refine ⟨h2.1,RoundIn.mono h2.2 fun x w'' hx=>?_⟩
      cases x with
      | returned v=>exact Cv is _ _ hx
      | panicked c=>exact hx
      | outgrown=>exact hx
     | _=>exact h2
    | halt x w' =>
     cases x with
     | panic v=>exact h2
     | _=>exact h2
   ·simp only [hw]
    exact ⟨fun _ _=>trivial,Cv is _ _ (h.2 (by simpa using hw))⟩
theorem w_regW {m id:Nat} {os:List Oper} (h:rlW P m os.toArray Q os a w):(Code.region id os.toArray false).wpIn Fence.wide m P Q a w :=
 wpIn_region (Cv _ a w (by rw [F9];simpa using h))
theorem Pr {m:Nat} {op:Op} {v:Value} {w':World} (F:Fits n a e) (hr:(execOp a.eval ⟨some d,op,t,p,af,none⟩).run P w=.ok (.value v) w') (hd:Nat.ble (d+1) n=true)
  (k:∀ a',Fits n a' ((d,v)::e)→rlW P m ops Q r a' w'):rlW P m ops Q (⟨some d,op,t,p,af,none⟩::r) a w:=by
 refine ⟨fun _=>⟨fun _ _=>trivial,?_⟩,fun h=>by simp [Region.wanted] at h⟩
 show Oper.uponIn _ _ _ _ _ _ _ ((execOp a.eval ⟨some d,op,t,p,af,none⟩).run P w)
 rw [hr]
 exact k _ (F.put hd)
theorem U4 {m l:Nat} {cal:Operand} {args:List Operand} {ats:Array TypeId} {vs:List Value} {R:Ending→World→Prop} (F:Fits n a e) (hc:ev e cal=some (.func (.yield l) #[] #[])) (hv:evs e args=some vs) (hd:Nat.ble (d+1) n=true)
  (hy:YieldAt Fence.wide (m - 1) P l vs.toArray w R) (k:∀ x w',R x w'→∃ b,x=.returned (.bool b)∧∀ a',Fits n a' ((d,.bool b)::e)→rlW P m ops Q r a' w') :
  rlW P m ops Q (⟨some d,.call ⟨.value cal,args.toArray,ats⟩,t,p,af,none⟩::r) a w:=by
 refine ⟨fun _=>⟨fun _ _=>trivial,?_⟩,fun h=>by simp [Region.wanted] at h⟩;obtain ⟨fn,tmps,assign,body,h1,h2⟩:=hy;have hr:(execOp a.eval ⟨some d,.call ⟨.value cal,args.toArray,ats⟩,t,p,af,none⟩).run P w=.ok (.round l fn tmps assign body) w:=by
  have h3:=F.ev hc;have h4:=F.evs hv;simp only [execOp,resolve,h3,Deferred.ofValue,Sem.run_bind,Sem.run_pure,Result.andThen_ok,invoke];rw [show (#[]++Array.map a.eval args.toArray)=vs.toArray by simp [← h4]]
  exact h1
 show Oper.uponIn _ _ _ _ _ _ _ ((execOp a.eval ⟨some d,.call ⟨.value cal,args.toArray,ats⟩,t,p,af,none⟩).run P w)
 rw [hr];refine ⟨(fun h=>by cases h),RoundIn.mono h2 fun x w' hx=>?_⟩;obtain ⟨b,rfl,hk⟩:=k x w' hx
 exact hk _ (F.put hd)
def Hv (ds:List Deferred) (a:Act):Act:={ a with defers:=a.defers++ds }
theorem Nm (ds:List Deferred) (a:Act) (d:Option Tmp) (v:Value):(Hv ds a).put d v=Hv ds (a.put d v):=by cases d <;> rfl
theorem Pq {Q:Exit→Act→World→Prop} {ds:List Deferred}:∀ (l:List Oper) (a:Act) (w:World),rl P ops (fun e a w=>Q e (Hv ds a) w) l a w→rl P ops Q l (Hv ds a) w
 | [],a,w,h=>h
 | o::l,a,w,h=>by
  refine ⟨fun hw=>?_,fun hw=>?_⟩
  ·have h1:=Oper.wp_mono (fun a w=>Pq (Q:=Q) (ds:=ds) l a w) (h.1 hw);unfold Oper.wp at h1 ⊢;rw [show (Hv ds a).eval=a.eval from rfl]
   generalize (execOp a.eval o).run P w=r at h1 ⊢
   cases r with
   | ok nx w' =>
    cases nx <;> simp only [Oper.upon,Nm] at h1 ⊢
    case value u=>exact h1
    case skip=>exact h1
    case defer d=>rw [show ({ tmps:=(Hv ds a).tmps,defers:=d::(Hv ds a).defers }:Act)=Hv ds { tmps:=a.tmps,defers:=d::a.defers } from rfl,Nm];exact h1
    case enter f args =>
     refine Calls.mono h1 fun e w'' he=>?_
     cases e with
     | returned u=>exact he
     | panicked c=>exact he
     | outgrown=>obtain ⟨a0,w0,h0⟩:=he;exact ⟨_,w0,h0⟩
    case row row args=>exact h1
   | halt x w'=>cases x <;> simp only [Oper.upon] at h1 ⊢ <;> exact h1
  ·rw [Nm];exact Pq l _ _ (h.2 hw)
abbrev W0:Fence:=Fence.wide
theorem Jl {m id:Nat} {os:List Oper} (h:rl P os.toArray Q os a w):(Code.region id os.toArray false).wpIn W0 m P Q a w:=wpIn_wide.2 (Wm h)
theorem w_regXD {m id:Nat} {ds:List Deferred} {os:List Oper} (h:rl P os.toArray (fun e a w=>Q e (Hv ds a) w) os a w):(Code.region id os.toArray false).wpIn W0 m P Q (Hv ds a) w:=wpIn_wide.2 (Wm (Pq _ _ _ h))
theorem Kt {R:Ending→World→Prop} {f:FuncId} {fn:Func} {c:Code} {vs:List Value} (hf:P.funcs[f]?=some fn) (hb:fn.body=some c) {n:Nat} (hn:fn.ntmps=n) (hs:Nat.ble vs.length n=true)
  (h:∀ a,Fits n a (Lu 0 vs)→c.wpIn W0 0 P (bodyPostM W0 0 P fn R) a w):Calls P f vs.toArray w R:=by
 have hs':=Nat.le_of_ble_eq_true hs;refine (callsIn_wide (n:=0)).1 (callsIn_of_wp_marks hf hb trivial (h _ ⟨by simp [hn];omega,rfl,?_⟩));intro i v hi;obtain ⟨_,h2⟩:=Jv vs 0 i v hi;have hlt:i < vs.length:=by
  rcases Nat.lt_or_ge i vs.length with h' | h'
  ·exact h'
  simp [List.getElem?_eq_none h'] at h2
 simp only [Nat.sub_zero] at h2;rw [Array.getElem?_append_left (by simpa using hlt)]
 simpa using h2
def Ig (a:Act) (ps:Array Tmp) (assign body:Code) (fn D:Nat) (st:LoopState) (pe:Option Code):Loop:={ state:=st,pending:=pe,fn,tmps:=a.tmps,params:=ps,assign,body,defers:=D }
def Jg (D:Nat):Deferred:={ target:=.collected D,args:=#[] }
theorem L3 {b:Nat} {o o':Obj} {w':World} (M:Mem w0 G (.obj b o::L) w) (h:w' = w.putObj b o'):Mem w0 G (.obj b o'::L) w':=by
 subst h;have hb:w.heap[b]?=some o:=M.own (.obj b o) (by simp)
 exact M.swap_head (y:=.obj b o') rfl (World.putObj_heap_same (Array.getElem?_eq_some_iff.1 hb).1) rfl rfl rfl (by simp) (fun b' hne=>World.putObj_heap_other (fun e=>hne (by rw [e];rfl)))
theorem Pa {g:Operand} {ps:Array Tmp} {assign body:Code} {gf m:Nat} {lb:List Value} (F:Fits n a e) (M:Mem w0 G L w) (hg:ev e g=some (.func (.func gf) #[] lb.toArray)) (hE:Ent P gf)
  (h:∀ fn l D W,Mem w0 G (.obj l (.loop (Ig a ps assign body fn D .ready none))::.obj D (.deferred (some []))::L) W →
   Calls P gf (#[.func (.yield l) #[] #[]]++lb.toArray) W fun x W'=>∃ v pe G2 L2 st,x=.returned v∧st≠LoopState.busy∧Gle G G2∧Mem w0 G2 (.obj l (.loop (Ig a ps assign body fn D st pe))::.obj D (.deferred (some []))::L2) W' ∧
    ∀ W'',Mem w0 G2 (.obj D (.deferred (some []))::L2) W''→match pe with
     | none=>Q .normal (Hv [Jg D] a) W''
     | some c=>c.wpIn W0 m P Q (Hv [Jg D] a) W'') :
  (Code.rangeFunc g ps assign body).wpIn W0 m P Q a w:=by
 refine wpIn_rangeFunc ?_;intro fn _;have hd:Hv [Jg w.heap.size] a = { a with defers:=[{ target:=.collected w.heap.size,args:=#[] }]++a.defers }:=by unfold Hv Jg;rw [F.defers];rfl
 have M1:=(M.new (.deferred (some [])));have M2:=M1.new (.loop (Ig a ps assign body fn w.heap.size .ready none));have hsz:(({ w with heap:=w.heap.push (.deferred (some [])) }:World)).heap.size=w.heap.size+1:=by simp
 rw [hsz] at M2;have hen:=run_enterLoop_outer (P:=P) (w:=w) fn a.tmps ps assign body;have hg':=F.ev hg;obtain ⟨W1,hW1⟩:∃ W1,(w.alloc (.deferred (some []))).alloc (.loop (Ig a ps assign body fn w.heap.size .ready none))=W1:=⟨_,rfl⟩;have hen':(Instr.enterLoop fn a.tmps ps assign body none).run P w=.ok (w.heap.size+1,[{ target:=.collected w.heap.size,args:=#[] }]) W1:=by rw [hen,← hW1];rfl
 have M3:Mem w0 G (.obj (w.heap.size+1) (.loop (Ig a ps assign body fn w.heap.size .ready none))::.obj w.heap.size (.deferred (some []))::L) W1:=by rw [← hW1];exact M2
 clear hen M1 M2 hsz hW1;have hin:=Ob (P:=P) (w:=W1) (args:=#[.func (.yield (w.heap.size+1)) #[] #[]]++lb.toArray) hE;refine ⟨w.heap.size+1,[{ target:=.collected w.heap.size,args:=#[] }],W1,{ target:=.fn (.func gf) lb.toArray,args:=#[.func (.yield (w.heap.size+1)) #[] #[]] },W1,gf,#[.func (.yield (w.heap.size+1)) #[] #[]]++lb.toArray,W1,hen',?_,fun _ _=>trivial,?_,(fun h=>by cases h),?_⟩
 ·simp only [resolve,rangeCall,hg']
  simp [go_sem]
 ·simp only [invoke]
  exact hin
 ·refine callsIn_wide.2 (Calls.mono (h fn _ _ _ M3) ?_);rintro x W' ⟨v,pe,G2,L2,st,rfl,hst,hG,M4,hk⟩;have hb:W'.heap[w.heap.size+1]?=some (.loop (Ig a ps assign body fn w.heap.size st pe)):=M4.own (.obj (w.heap.size+1) (.loop (Ig a ps assign body fn w.heap.size st pe))) (by simp);have M5:=(L3 (o':=.loop { Ig a ps assign body fn w.heap.size st pe with state:=.exhausted }) M4 rfl).weaken (List.sublist_cons_self _ _);have hk2:=hk _ M5;rw [hd] at hk2
  exact ⟨pe,_,run_endLoop hb hst,by cases pe with
   | none=>exact hk2
   | some c=>exact hk2⟩
theorem yield2 {l m fn D i j:Nat} {v1 v2:Value} {assign body:Code} {e0:Env} {a0:Act} {R:Ending→World→Prop} (F:Fits n a0 e0) (hi:Nat.ble (i+1) n=true) (hj:Nat.ble (j+1) n=true)
  (M:Mem w0 G (.obj l (.loop (Ig a0 #[i,j] assign body fn D .ready none))::L) w)
  (h:∀ a1,Fits n a1 ((j,v2)::(i,v1)::e0)→assign.wpIn (Rnd l) m P (Exit.then (fun a2 w2=>∀ W2,Mem w0 G (.obj l (.loop (Ig a0 #[i,j] assign body fn D .busy none))::L) W2→w2=w∧body.wpIn (Rnd l) m P (roundPost P l R) a2 W2) (fun _ _ _=>False)) a1 w) :
  YieldAt W0 m P l #[v1,v2] w R:=by
 have hb:w.heap[l]?=some (.loop (Ig a0 #[i,j] assign body fn D .ready none)):=M.own (.obj l (.loop (Ig a0 #[i,j] assign body fn D .ready none))) (by simp);have hz:((#[i,j]:Array Tmp).zip #[v1,v2]).foldl (fun t (x:Tmp × Value)=>t.setIfInBounds x.1 x.2) a0.tmps=(a0.tmps.setIfInBounds i v1).setIfInBounds j v2:=by simp
 have hy:=run_yield (P:=P) (args:=#[v1,v2]) hb rfl;have hy2:(Instr.yield l #[v1,v2]).run P w=.ok (.round l fn ((a0.tmps.setIfInBounds i v1).setIfInBounds j v2) assign body) w:=by rw [← hz];exact hy
 refine ⟨fn,_,assign,body,hy2,roundIn_of_wpIn trivial (wpIn_mono (h _ ?_) ?_)⟩
 ·have F2:=(F.put (v:=v1) hi).put (v:=v2) hj
  exact ⟨F2.size,rfl,F2.slot⟩
 ·intro x a2 w2 hq
  cases x with
  | normal =>
   have M2:=L3 (o':=.loop (Ig a0 #[i,j] assign body fn D .busy none)) M rfl;obtain ⟨rfl,hq2⟩:=hq _ M2
   exact ⟨_,run_beginRound hb rfl,hq2⟩
  | _=>exact hq
theorem I4 {l fn D:Nat} {ps:Array Tmp} {assign body:Code} {a0:Act} (jump:Option Code) (M:Mem w0 G (.obj l (.loop (Ig a0 ps assign body fn D .busy none))::L) w) :
  ∃ w',(Instr.endRound l jump).run P w=.ok (.bool jump.isNone) w'∧Mem w0 G (.obj l (.loop (Ig a0 ps assign body fn D (if jump.isNone then .ready else .done) jump))::L) w' :=
 ⟨_,run_endRound jump (M.own (.obj l (.loop (Ig a0 ps assign body fn D .busy none))) (by simp)),L3 M rfl⟩
theorem Ps {fn:Func} {e0:Env} {t u s ty1 ty2 ty3 k1 k2 k3 b1 b2 b3:Nat} {x y z:Value} (F:Fits n a e0) (M:Mem w0 G L w) (hk1:L[k1]?=some (.blk b1 [x] ty1)) (hk2:L[k2]?=some (.blk b2 [y] ty2)) (hk3:L[k3]?=some (.blk b3 [z] ty3))
  (hf:fn.results = #[.cell t ty1,.cell u ty2,.cell s ty3]) (h1:(tk P ty1).agg=some false) (h2:(tk P ty2).agg=some false) (h3:(tk P ty3).agg=some false)
  (hv1:look e0 t=some (.pointer (some ⟨b1,0,none⟩))) (hv2:look e0 u=some (.pointer (some ⟨b2,0,none⟩))) (hv3:look e0 s=some (.pointer (some ⟨b3,0,none⟩))) :
  (results fn a.tmps).run P w=.ok (.tuple #[x,y,z]) w:=by
 have l1:(loadVar ty1 ⟨b1,0,none⟩).run P w=.ok x w:=D9 h1 (M.cellL hk1 rfl);have l2:(loadVar ty2 ⟨b2,0,none⟩).run P w=.ok y w:=D9 h2 (M.cellL hk2 rfl);have l3:(loadVar ty3 ⟨b3,0,none⟩).run P w=.ok z w:=D9 h3 (M.cellL hk3 rfl)
 simp [results,hf,F.slot _ _ hv1,F.slot _ _ hv2,F.slot _ _ hv3,asAddr,l1,l2,l3]
theorem finM {fn:Func} {R:Ending→World→Prop} {e0:Env} {v:Value} (F:Fits n a e0) (hr:(results fn a.tmps).run P w=.ok v w) (h:R (.returned v) w):bodyPostM W0 0 P fn R .ret a w:=by
 show LeavesInM _ _ _ _ _ _ a.defers _ _
 rw [F.defers]
 exact ⟨v,hr,h⟩
theorem finMD {fn:Func} {R:Ending→World→Prop} {e0:Env} {v:Value} {D:Nat} (F:Fits n a e0) (M:Mem w0 G (.obj D (.deferred (some []))::L) w) (hr:∀ w',Mem w0 G L w'→(results fn a.tmps).run P w' = .ok v w') (h:∀ w',Mem w0 G L w'→R (.returned v) w'):bodyPostM W0 0 P fn R .ret (Hv [Jg D] a) w:=by
 show LeavesInM _ _ _ _ _ _ (Hv [Jg D] a).defers _ _
 rw [show (Hv [Jg D] a).defers=[Jg D] by unfold Hv;rw [F.defers];rfl];have M2:=(L3 (o':=.deferred none) M rfl).weaken (List.sublist_cons_self _ _)
 exact ⟨by simp,Or.inl ⟨D,_,rfl,run_takeDeferred (M.own (.obj D (.deferred (some []))) (by simp)),v,hr _ M2,h _ M2⟩⟩
theorem finMn {fn:Func} {R:Ending→World→Prop} {e0:Env} {v:Value} (F:Fits n a e0) (hr:(results fn a.tmps).run P w=.ok v w) (h:R (.returned v) w):bodyPostM W0 0 P fn R .normal a w:=finM F hr h
theorem Tz {m:Nat} (h:Q .normal a w):rlW P m ops Q [] a w:=h
theorem O9 {g:Operand} {ps:Array Tmp} {assign body:Code} {gf m:Nat} {lb:List Value} (F:Fits n a e) (M:Mem w0 G L w) (hg:ev e g=some (.func (.func gf) #[] lb.toArray)) (hE:Ent P gf)
  (h:∀ fn l D (Rc:LoopState→Option Code→Res) W,(∀ st pe,Rc st pe=.obj l (.loop (Ig a ps assign body fn D st pe)))→Mem w0 G (Rc .ready none::.obj D (.deferred (some []))::L) W →
   Calls P gf (#[.func (.yield l) #[] #[]]++lb.toArray) W fun x W'=>∃ v pe G2 L2 st,x=.returned v∧st≠LoopState.busy∧Gle G G2∧Mem w0 G2 (Rc st pe::.obj D (.deferred (some []))::L2) W' ∧
    ∀ W'',Mem w0 G2 (.obj D (.deferred (some []))::L2) W''→match pe with
     | none=>Q .normal (Hv [Jg D] a) W''
     | some c=>c.wpIn W0 m P Q (Hv [Jg D] a) W'') :
  (Code.rangeFunc g ps assign body).wpIn W0 m P Q a w :=
 Pa F M hg hE fun fn l D W M'=>h fn l D (fun st pe=>.obj l (.loop (Ig a ps assign body fn D st pe))) W (fun _ _=>rfl) M'
end
end Go.Y
namespace Go.Proofs.YtmmhmcplegpenaaGreatDoor
open Go Go.Y Go.Proofs
variable {w0 w:World} {G:Av} {L:List Res}
theorem cut_lt9 {s:List UInt8} (h:¬ s=[]):(Lib.cut s [10]).2.1.length < s.length:=by
 have h0:=List.length_pos_iff.2 h;rw [Iy]
 split
 ·simp only [List.length_drop];omega
 simpa using h0
theorem Q9 {w0:World} {Rc:LoopState→Option Code→Res} {DD:Res} {l sb:Nat} {J:List UInt8→Av→List Res→Prop} {Jx:Code→Av→List Res→Prop}
  (hy:∀ (c:List UInt8) (G:Av) (L:List Res) (W:World),Globs 0 1 2 3 G→¬ c=[]→c.length≤1048576→J c G L→Mem w0 G (Rc .ready none::DD::.blk sb [.string (str c)] 9::L) W →
   YieldAt W0 0 Tryz.prog l #[.string (str (Lib.cut c [10]).1),.bool (Lib.cut c [10]).2.2] W fun x W' =>
    (x=.returned (.bool true)∧∃ G2 L2,Gle G G2∧Mem w0 G2 (Rc .ready none::DD::.blk sb [.string (str c)] 9::L2) W'∧J (Lib.cut c [10]).2.1 G2 L2) ∨
    (x=.returned (.bool false)∧∃ pe G2 L2,Gle G G2∧Mem w0 G2 (Rc .done (some pe)::DD::.blk sb [.string (str c)] 9::L2) W'∧Jx pe G2 L2))
  {w:World} {G:Av} {L:List Res} {c0:List UInt8} (HG:Globs 0 1 2 3 G) (hc:c0.length≤1048576) (hJ0:J c0 G L) (M:Mem w0 G (Rc .ready none::DD::.blk sb [.string (str c0)] 9::L) w) :
  Calls Tryz.prog 99 #[.func (.yield l) #[] #[],.pointer (some ⟨sb,0,none⟩)] w fun x W'=>∃ v,x=.returned v ∧
   ((∃ G2 L2 c2,Gle G G2∧Mem w0 G2 (Rc .ready none::DD::.blk sb [.string (str c2)] 9::L2) W'∧J [] G2 L2)∨(∃ pe G2 L2 c2,Gle G G2∧Mem w0 G2 (Rc .done (some pe)::DD::.blk sb [.string (str c2)] 9::L2) W'∧Jx pe G2 L2)):=by
 refine Kt (vs:=[_,_]) Tryz.func99 rfl (n:=20) rfl rfl ?_;intro a F;refine wpIn_block<|Wn (fun m a' w'=>∃ (c:List UInt8),∃ (Lq:List Res),m=c.length∧∃ G1,Gle G G1∧Fits 20 a' [(0,.func (.yield l) #[] #[]),(1,.pointer (some ⟨sb,0,none⟩))]∧Mem w0 G1 ((Rc .ready none)::DD::.blk sb [.string (str c)] 9::Lq) w'∧(c.length≤1048576)∧(J c G1 Lq)) _ ⟨c0,L,rfl,G,Gle.refl _,F.to ⟨rfl,rfl,trivial⟩,M,hc,hJ0⟩ ?_
 clear F M;rintro m a w ⟨c,Lq,rfl,G1,hG1,F,M,hcl,hJ⟩;replace HG:=HG.mono hG1
 iterate 2 (refine wpIn_seq ?_)
 refine Jl<|A4 F (Bk (agf A6 rfl) (F.ev rfl) (M.cellL (k:=2) rfl rfl)) rfl ?_;clear F a;intro a F
 refine A4 F (I3 (F.ev rfl) (F.ev rfl)) rfl ?_;clear F a;intro a F;refine Dr<|Ga<|J7 F rfl ?_ ?_
 ·intro h2b;have h2:=dF (Ag h2b);have h2c:(decide (c=([]:List UInt8)))=false:=(Ag h2b);refine wpIn_skip<|Ga<|wpIn_block<|wpIn_seq<|Jl<|A4 F (Bk (agf A6 rfl) (F.ev rfl) (M.cellL (k:=2) rfl rfl)) rfl ?_;clear F a;intro a F
  refine Qu F Qc rfl rfl (Kr (s:=c) (sep:=([10]:List UInt8)) M HG (by omega)) ?_;clear F M a;rintro _ w a M rfl F;have hclc3:=D6 10 c;refine A4 F (Dp (F.ev rfl)) rfl ?_;clear F a;intro a F;refine A4 F (Ez (v:=.string (str ((Lib.cut c [10]).1))) (F.ev rfl) rfl) rfl ?_;clear F a;intro a F;refine A4 F (Ez (v:=.string (str ((Lib.cut c [10]).2.1))) (F.ev rfl) rfl) rfl ?_;clear F a;intro a F;refine A4 F (Ez (v:=.bool ((Lib.cut c [10]).2.2)) (F.ev rfl) rfl) rfl ?_;clear F a;intro a F
  iterate 3 (refine A4 F (Ft (F.ev rfl)) rfl ?_;clear F a;intro a F)
  refine Dr<|Ga ?_
  iterate 2 (refine wpIn_seq ?_)
  refine w_regW ?_
  iterate 3 (refine Pr F (Dp (F.ev rfl)) rfl ?_;clear F a;intro a F)
  refine U4 (m:=0) (vs:=[.string (str ((Lib.cut c [10]).1)),.bool ((Lib.cut c [10]).2.2)]) F rfl rfl rfl (hy _ _ _ _ HG (by assumption) hcl hJ M) ?_;clear F M a;rintro x w (⟨rfl,G9,L9,hG9,M,hJ9⟩ | ⟨rfl,pe9,G9,L9,hG9,M,hJx9⟩)
  ·skip
   refine ⟨true,rfl,fun a F=>?_⟩;replace HG:=HG.mono hG9;refine Pr F (Hb (F.ev rfl)) rfl ?_;clear F a;intro a F;refine Tz<|Ga<|R7 F rfl rfl ?_
   refine wpIn_skip<|Ga<|Jl<|A4 F (Dp (F.ev rfl)) rfl ?_;clear F a;intro a F
   refine Iw F M A6 2 ?_;clear F M a;intro w a M F;refine Dr<|q_bn<|Ga ?_
   exact ⟨_,(by have h9_:=cut_lt9 (s:=c) (by assumption);omega),_,L9,rfl,G9,(hG1.trans hG9),F.to ⟨rfl,rfl,trivial⟩,M,by omega,hJ9⟩
  refine ⟨false,rfl,fun a F=>?_⟩;replace HG:=HG.mono hG9;refine Pr F (Hb (F.ev rfl)) rfl ?_;clear F a;intro a F;refine Tz<|Ga<|Mb F rfl rfl ?_
  refine wpIn_ret<|Sv<|Va<|Sv<|Va<|finM F (v:=.tuple #[]) (results_none rfl _ _ _) ?_
  exact ⟨_,rfl,Or.inr ⟨_,_,_,_,(hG1.trans hG9),M,hJx9⟩⟩
 intro h4b;have h4:=dT (Ah h4b);have h4c:(decide (c=([]:List UInt8)))=true:=(Ah h4b);refine wpIn_exit ?_
 iterate 2 (refine q_te ?_)
 refine q_bh<|finMn F (v:=.tuple #[]) (results_none rfl _ _ _) ?_
 exact ⟨_,rfl,Or.inl ⟨_,_,_,hG1,M,by rw [← (show c=[] by assumption)];exact hJ⟩⟩
theorem S6 (M:Mem w0 G L w) {s:List UInt8}:Calls Tryz.prog 44 #[.string (str s)] w (Lf w0 G fun L' v=>∃ b:Nat,v=.func (.func 99) #[] #[.pointer (some ⟨b,0,none⟩)]∧L' = (.blk b [.string (str s)] 9::L)):=by
 refine Az (vs:=[_]) Tryz.func44 rfl (n:=4) rfl rfl<|Ad<|G4 M rfl rfl rfl<|?_;clear M;intro b1 w M
 refine Ab rfl<|Ad<|Aq (fun a F=>D8 (vs:=#[.pointer (some ⟨b1,0,none⟩)]) (by simp only [List.map_toArray,List.map_cons,List.map_nil,F.ev (x:=.tmp 1) rfl])) rfl<|Ab rfl<|Al<|Ak rfl rfl<|?_
 exact ⟨_,M,_,rfl,rfl⟩
theorem Et (M:Mem w0 G L w) (HG:Globs 0 1 2 3 G) {s:List UInt8} (hs:s.length≤9223372036854775807):Calls Tryz.prog 12 #[.string (str s)] w (Ret w0 G L fun G' v=>∃ a:Option Addr,v=.tuple #[.slice a (Be s).1.length (Be s).1.length,.int .i64 (((Be s).2.1:Nat):Int),.int .i64 (Be s).2.2]∧A8 B1 4 G' (.slice a (Be s).1.length (Be s).1.length) (Be s).1):=by
 refine Kt (vs:=[_]) Tryz.func12 rfl (n:=42) rfl rfl ?_;intro a F;refine wpIn_seq<|Jl<|Ip F M A3 rfl rfl ?_;clear F M a;intro b1 w a M F
 refine Ip F M Ct rfl rfl ?_;clear F M a;intro b3 w a M F;refine Ip F M Ka rfl rfl ?_;clear F M a;intro b5 w a M F;refine Dr<|Ga ?_
 iterate 2 (refine wpIn_seq ?_)
 refine Jl<|A4 F (Dp (F.ev rfl)) rfl ?_;clear F a;intro a F
 refine A4 F (Bp A6.k (F.ev rfl)) rfl ?_;clear F a;intro a F;refine A4 F (Pm (F.ev rfl) (F.ev rfl)) rfl ?_;clear F a;intro a F;refine Dr<|Ga<|J7 F rfl ?_ ?_
 ·intro h7b;have h7:=dT h7b;refine wpIn_seq<|Jl<|Iw F M A3 2 ?_;clear F M a;intro w a M F
  refine Iw F M Ct 1 ?_;clear F M a;intro w a M F;refine Iw F M Ka 0 ?_;clear F M a;intro w a M F;refine Dr<|Ga<|wpIn_ret<|Sv<|finM F (Ps F M (k1:=2) (k2:=1) (k3:=0) rfl rfl rfl rfl (agf A3 rfl) (agf Ct rfl) (agf Ka rfl) rfl rfl rfl) ?_
  exact ⟨_,(Gle.refl _),M.weaken dS3,by rw [Ht (by omega)];exact ⟨none,rfl,A8.nil⟩⟩
 intro h8b;have h8:=dF h8b;refine wpIn_skip<|Ga ?_
 iterate 2 (refine wpIn_seq ?_)
 refine Jl<|A4 F (Dp (F.ev rfl)) rfl ?_;clear F a;intro a F
 refine Qv F ent44 rfl rfl (S6 (s:=s) M) ?_;clear F M a;rintro _ _ w a M ⟨bs9,rfl,rfl⟩ F;refine Dr<|Ga<|wpIn_block ?_
 replace M:=M.perm (Am _ 3 _ rfl);change Mem w0 G (_::_::_::_::L) _ at M;have M:=(M.nilrow 26 4).perm (List.Perm.swap _ _ _);replace M:=M.perm (Am _ 1 _ rfl);replace M:=M.perm (Am _ 3 _ rfl);replace M:=M.perm (Am _ 4 _ rfl);replace M:=M.perm (Am _ 3 _ rfl);replace M:=M.perm (Am _ 4 _ rfl);change Mem w0 G (_::_::_::_::_::L) _ at M;change Mem w0 G (.blk bs9 [.string (str s)] 9::.blk b1 [.slice none 0 0] 22::.blk b3 [.int .i64 0] 3::.blk b5 [.int .i64 0] 27::.row (.slice none 0 0) 0 ([]) 26 4::L) _ at M;refine O9 F M rfl ent99 (fun fn l D Rc W hRc M2=>?_);clear M;refine Calls.mono (Q9 (Rc:=Rc) (DD:=.obj D (.deferred (some []))) (l:=l) (sb:=bs9) (J:=(fun c G' L'=>Gle G G'∧∃ (ar:Option Addr) (nr cr:Nat) (csr:List Value) (xs:List ItemD),L' = (.blk b1 [.slice ar nr cr] 22::.blk b3 [.int .i64 0] 3::.blk b5 [.int .i64 0] 27::.row (.slice ar nr cr) nr csr 26 4::L)∧Els B1 4 G' csr xs∧nr=xs.length∧Gd s xs c)) (Jx:=(fun pe G' L'=>Gle G G'∧pe=Code.ret∧∃ (n:Nat) (e:Int),L' = (.blk b1 [.slice none 0 0] 22::.blk b3 [.int .i64 ((n:Nat):Int)] 3::.blk b5 [.int .i64 e] 27::L)∧Be s=([],n,e))) ?_ HG (by omega) ⟨Gle.refl _,_,_,_,_,_,rfl,Els.nil,rfl,Gd.start (by omega)⟩ M2) ?_
 ·intro c Gc Lc Wc HGc hne hcl hJ M;obtain ⟨hGc,ar,nr,cr,csr,xs,rfl,Er,hnr,hP⟩:=hJ;subst hnr;obtain ⟨f9,hf9,hp9,hx9,hok9⟩:=id hP;rw [hRc] at M;clear HG M2;have HG:=HGc;have hcl9:=D6 10 c;refine yield2 F rfl rfl M (fun a F=>?_);refine wpIn_seq<|Gg (by kernel_rfl) ?_
  refine A4 F (Ft (F.ev rfl)) rfl ?_;clear F;intro a F;refine Dr<|Ga<|Gg (by kernel_rfl) ?_
  refine A4 F (Ft (F.ev rfl)) rfl ?_;clear F;intro a F;refine Dr<|Ga ?_
  intro W2 M3;refine ⟨rfl,?_⟩;clear M;have M:=M3;clear M3;refine wpIn_block<|wpIn_seq<|Gg (by kernel_rfl) ?_
  refine A4 F (Dp (F.ev rfl)) rfl ?_;clear F;intro a F;refine Po F ent45 rfl rfl (Vw (s:=(Lib.cut c [10]).1) M HG (by omega)) ?_;clear F M;rintro _ Gk10 w a hGk10 M ⟨xk10,mak10,mck10,bk10,rfl,hIk10,SMk10,hyk10,hnk10⟩ F;replace HG:=HG.mono hGk10;replace Er:=Er.mono Ae hGk10;refine A4 F (Dp (F.ev rfl)) rfl ?_;clear F;intro a F;refine A4 F (Ez (v:=.agg #[.int .u64 ((xk10.key:Nat):Int),.int .u8 ((xk10.typ:Nat):Int),.string (str xk10.text),.slice mak10 xk10.marks.length mck10]) (F.ev rfl) rfl) rfl ?_;clear F;intro a F;refine A4 F (Ez (v:=.bool bk10) (F.ev rfl) rfl) rfl ?_;clear F;intro a F;refine Ip F M Af rfl rfl ?_;clear F M;intro b11 w a M F;refine Di F M Af 0 ?_;clear F M;intro w a M F;change Mem w0 Gk10 (.blk b11 [.int .u64 ((xk10.key:Nat):Int),.int .u8 ((xk10.typ:Nat):Int),.string (str xk10.text),.slice mak10 xk10.marks.length mck10] 26::_::_::_::_::_::_::_::L) _ at M;refine A4 F (Ft (F.ev rfl)) rfl ?_;clear F;intro a F;refine Dr<|Ga ?_
  iterate 2 (refine wpIn_seq ?_)
  refine Gg (by kernel_rfl) ?_;refine A4 F (Dp (F.ev rfl)) rfl ?_;clear F;intro a F;refine A4 F (Hb (F.ev rfl)) rfl ?_;clear F;intro a F;refine A4 F (Dp (F.ev rfl)) rfl ?_;clear F;intro a F
  rcases bE (!((Lib.cut c [10]).2.2)) with h13b | h14b
  ·skip
   have h13:=Ag h13b;have h13c:((Lib.cut c [10]).2.2)=false:=(Ag h13b)
   iterate 2 (refine Mq F rfl rfl rfl (Aj h13c) ?_;clear F;intro a F)
   refine A4 F (Jo (F.ev rfl) (Aj h13c) (F.ev rfl)) rfl ?_;clear F;intro a F;refine Dr<|Ga<|Mb F rfl rfl ?_
   refine wpIn_seq<|Gg (by kernel_rfl) ?_
   refine A4 F (Bk (agf A3 rfl) (F.ev rfl) (M.cellL (k:=4) rfl rfl)) rfl ?_;clear F;intro a F;refine A4 F (Ec A3.k (F.ev rfl)) rfl ?_;clear F;intro a F;refine A4 F (Fa (F.ev rfl) (F.ev rfl) (Cl (by omega) (by omega))) rfl ?_;clear F;intro a F;refine Iw F M A3 4 ?_;clear F M;intro w a M F;refine Iw F M Ct 5 ?_;clear F M;intro w a M F;refine Iw F M Ka 6 ?_;clear F M;intro w a M F;refine Dr<|Ga<|wpIn_ret<|Sv<|Va ?_
   replace M:=M.perm (Am _ 6 _ rfl);replace M:=M.perm (Am _ 6 _ rfl);replace M:=M.perm (Am _ 6 _ rfl);replace M:=M.perm (Am _ 6 _ rfl);replace M:=M.perm (Am _ 6 _ rfl);replace M:=M.perm (Am _ 6 _ rfl);change Mem w0 Gk10 (_::_::_::.blk b1 [.slice none 0 0] 22::.blk b3 [.int .i64 (((xs.length:Nat):Int)+1)] 3::.blk b5 [.int .i64 5] 27::.blk b11 [.int .u64 ((xk10.key:Nat):Int),.int .u8 ((xk10.typ:Nat):Int),.string (str xk10.text),.slice mak10 xk10.marks.length mck10] 26::_::L) _ at M;rw [show (((xs.length:Nat):Int)+1)=(((xs.length+1:Nat)):Int) by omega] at M;obtain ⟨w',hend,M⟩:=I4 (some .ret) (M.weaken (cC (.cons_cons _ (cC (.cons_cons _ (cC (.cons_cons _ (cN (.cons _ (sR _))))))))))
   exact ⟨_,w',hend,Or.inr ⟨rfl,.ret,_,_,hGk10,by rw [hRc];exact M,hGc.trans hGk10,rfl,_,_,rfl,by first | exact hP.bad hne (Or.inl (fun h_=>absurd (show true=false from h_.symm.trans (by assumption)) (by decide))) | exact hP.bad hne (Or.inr (hnk10 (by assumption)))⟩⟩
  have h14:=Ah h14b;have h14c:((Lib.cut c [10]).2.2)=true:=(Ah h14b);refine Js F rfl rfl rfl (Ac h14c) ?_;refine A4 F (Dp (F.ev rfl)) rfl ?_;clear F;intro a F;refine Js F rfl rfl rfl (Ac h14c) ?_;refine A4 F (Hb (F.ev rfl)) rfl ?_;clear F;intro a F;refine A4 F (Jp (F.ev rfl) (Ac h14c) (F.ev rfl)) rfl ?_;clear F;intro a F;refine Dr<|Ga<|J7 F rfl ?_ ?_
  ·intro h15b;have h15:=Ag h15b;have h15c:(bk10)=false:=(Ag h15b);refine wpIn_seq<|Gg (by kernel_rfl) ?_
   refine A4 F (Bk (agf A3 rfl) (F.ev rfl) (M.cellL (k:=4) rfl rfl)) rfl ?_;clear F;intro a F;refine A4 F (Ec A3.k (F.ev rfl)) rfl ?_;clear F;intro a F;refine A4 F (Fa (F.ev rfl) (F.ev rfl) (Cl (by omega) (by omega))) rfl ?_;clear F;intro a F;refine Iw F M A3 4 ?_;clear F M;intro w a M F;refine Iw F M Ct 5 ?_;clear F M;intro w a M F;refine Iw F M Ka 6 ?_;clear F M;intro w a M F;refine Dr<|Ga<|wpIn_ret<|Sv<|Va ?_
   replace M:=M.perm (Am _ 6 _ rfl);replace M:=M.perm (Am _ 6 _ rfl);replace M:=M.perm (Am _ 6 _ rfl);replace M:=M.perm (Am _ 6 _ rfl);replace M:=M.perm (Am _ 6 _ rfl);replace M:=M.perm (Am _ 6 _ rfl);change Mem w0 Gk10 (_::_::_::.blk b1 [.slice none 0 0] 22::.blk b3 [.int .i64 (((xs.length:Nat):Int)+1)] 3::.blk b5 [.int .i64 5] 27::.blk b11 [.int .u64 ((xk10.key:Nat):Int),.int .u8 ((xk10.typ:Nat):Int),.string (str xk10.text),.slice mak10 xk10.marks.length mck10] 26::_::L) _ at M;rw [show (((xs.length:Nat):Int)+1)=(((xs.length+1:Nat)):Int) by omega] at M;obtain ⟨w',hend,M⟩:=I4 (some .ret) (M.weaken (cC (.cons_cons _ (cC (.cons_cons _ (cC (.cons_cons _ (cN (.cons _ (sR _))))))))))
   exact ⟨_,w',hend,Or.inr ⟨rfl,.ret,_,_,hGk10,by rw [hRc];exact M,hGc.trans hGk10,rfl,_,_,rfl,by first | exact hP.bad hne (Or.inl (fun h_=>absurd (show true=false from h_.symm.trans (by assumption)) (by decide))) | exact hP.bad hne (Or.inr (hnk10 (by assumption)))⟩⟩
  intro h16b;have h16:=Ah h16b;have h16c:(bk10)=true:=(Ah h16b);refine wpIn_skip<|Ga ?_
  iterate 2 (refine wpIn_seq ?_)
  refine Gg (by kernel_rfl) ?_;refine A4 F (Bk (agf A3 rfl) (F.ev rfl) (M.cellL (k:=4) rfl rfl)) rfl ?_;clear F;intro a F;refine A4 F (Ec A3.k (F.ev rfl)) rfl ?_;clear F;intro a F;refine A4 F (Kg (F.ev rfl) (F.ev rfl)) rfl ?_;clear F;intro a F;refine Dr<|Ga<|J7 F rfl ?_ ?_
  ·intro h17b;have h17:=dT h17b;refine wpIn_seq<|Gg (by kernel_rfl) ?_
   refine A4 F (Bk (agf A3 rfl) (F.ev rfl) (M.cellL (k:=4) rfl rfl)) rfl ?_;clear F;intro a F;refine A4 F (Ec A3.k (F.ev rfl)) rfl ?_;clear F;intro a F;refine A4 F (Fa (F.ev rfl) (F.ev rfl) (Cl (by omega) (by omega))) rfl ?_;clear F;intro a F;refine Iw F M A3 4 ?_;clear F M;intro w a M F;refine Iw F M Ct 5 ?_;clear F M;intro w a M F;refine Iw F M Ka 6 ?_;clear F M;intro w a M F;refine Dr<|Ga<|wpIn_ret<|Sv<|Va ?_
   replace M:=M.perm (Am _ 6 _ rfl);replace M:=M.perm (Am _ 6 _ rfl);replace M:=M.perm (Am _ 6 _ rfl);replace M:=M.perm (Am _ 6 _ rfl);replace M:=M.perm (Am _ 6 _ rfl);replace M:=M.perm (Am _ 6 _ rfl);change Mem w0 Gk10 (_::_::_::.blk b1 [.slice none 0 0] 22::.blk b3 [.int .i64 (((xs.length:Nat):Int)+1)] 3::.blk b5 [.int .i64 3] 27::.blk b11 [.int .u64 ((xk10.key:Nat):Int),.int .u8 ((xk10.typ:Nat):Int),.string (str xk10.text),.slice mak10 xk10.marks.length mck10] 26::_::L) _ at M;rw [show (((xs.length:Nat):Int)+1)=(((xs.length+1:Nat)):Int) by omega] at M;obtain ⟨w',hend,M⟩:=I4 (some .ret) (M.weaken (cC (.cons_cons _ (cC (.cons_cons _ (cC (.cons_cons _ (cN (.cons _ (sR _))))))))))
   exact ⟨_,w',hend,Or.inr ⟨rfl,.ret,_,_,hGk10,by rw [hRc];exact M,hGc.trans hGk10,rfl,_,_,rfl,by exact hP.full hne (by assumption) (hyk10 (by assumption)) (by omega)⟩⟩
  intro h18b;have h18:=dF h18b;refine wpIn_skip<|Ga<|Gg (by kernel_rfl) ?_
  refine A4 F (Bk (agf A3 rfl) (F.ev rfl) (M.cellL (k:=4) rfl rfl)) rfl ?_;clear F;intro a F;refine A4 F (Bj Af rfl (F.ev rfl) (cs:=[.int .u64 ((xk10.key:Nat):Int),.int .u8 ((xk10.typ:Nat):Int),.string (str xk10.text),.slice mak10 xk10.marks.length mck10]) rfl (M.cellsL (k:=0) rfl rfl)) rfl ?_;clear F;intro a F;refine Ce F M A3.k Af rfl rfl (cs:=[.int .u64 ((xk10.key:Nat):Int),.int .u8 ((xk10.typ:Nat):Int),.string (str xk10.text),.slice mak10 xk10.marks.length mck10]) rfl rfl (by simp [Value.oneCell']) (by decide) rfl ?_;clear F M;intro v19 w a M F;obtain ⟨av19,cv19,rfl,hlev19,hcmv19,hlv19⟩:=M.row_shape (k:=0) rfl;have Eb:Els B1 4 Gk10 [.int .u64 ((xk10.key:Nat):Int),.int .u8 ((xk10.typ:Nat):Int),.string (str xk10.text),.slice mak10 xk10.marks.length mck10] [xk10]:=⟨[.int .u64 ((xk10.key:Nat):Int),.int .u8 ((xk10.typ:Nat):Int),.string (str xk10.text),.slice mak10 xk10.marks.length mck10],[],rfl,rfl,⟨mak10,mck10,rfl,hIk10.1,hIk10.2.1,hIk10.2.2,(by have h_:=SMk10.bound;omega),SMk10⟩,rfl⟩;refine Cp F M (k:=8) (k2:=0) rfl rfl A3.k Af rfl rfl (by decide) rfl rfl (by show _ * 56≤_;(try simp only [List.length_drop,List.length_take,List.length_append,List.length_cons,List.length_nil]);omega) (by (try simp only [List.length_drop,List.length_take,List.length_append,List.length_cons,List.length_nil]);omega) rfl ?_;clear F M;intro v20 w a M F;have Ev20:=Els.append Er Eb;obtain ⟨av20,cv20,rfl,hlev20,hcmv20,hlv20⟩:=M.row_shape (k:=8) rfl;refine Iw F M A3 5 ?_;clear F M;intro w a M F;refine Dr<|q_bn ?_
  replace M:=M.perm (Am _ 8 _ rfl);replace M:=M.perm (Am _ 8 _ rfl);replace M:=M.perm (Am _ 8 _ rfl);replace M:=M.perm (Am _ 8 _ rfl);replace M:=M.perm (Am _ 8 _ rfl);replace M:=M.perm (Am _ 8 _ rfl);replace M:=M.perm (Am _ 8 _ rfl);change Mem w0 Gk10 (_::_::_::.blk b1 [.slice av20 (xs.length+1) (cv20)] 22::_::_::_::_::.blk b11 [.int .u64 ((xk10.key:Nat):Int),.int .u8 ((xk10.typ:Nat):Int),.string (str xk10.text),.slice mak10 xk10.marks.length mck10] 26::L) _ at M;obtain ⟨w',hend,M⟩:=I4 none (M.weaken (cC (.cons_cons _ (cC (.cons_cons _ (cC (.cons_cons _ (cC (cN (.cons _ (sR _)))))))))))
  exact ⟨_,w',hend,Or.inl ⟨rfl,_,_,hGk10,by rw [hRc];exact M,hGc.trans hGk10,_,_,_,_,_,rfl,Ev20,by simp,hP.next hne (by assumption) (hyk10 (by assumption)) (by omega)⟩⟩
 rintro x W' ⟨v,rfl,(⟨G2,L2,c2,hG2,M,hJ⟩ | ⟨pe,G2,L2,c2,hG2,M,hJ⟩)⟩
 ·skip
  obtain ⟨hG9,ar,nr,cr,csr,xs,rfl,Er,hnr,hP⟩:=hJ;subst hnr;have hp:=hP.fin;obtain ⟨f9,hf9,hp9,hx9,hok9⟩:=id hP;refine ⟨v,none,G2,_,.ready,rfl,(fun h=>by cases h),hG2,M,fun w M=>?_⟩;clear hRc M2;replace HG:=HG.mono hG2;refine q_bn<|Ga<|wpIn_seq ?_
  obtain ⟨hnz21,Gz21,az21,cz21,hGz21,hez21,Sz21,M⟩:=M.freeze_row Ae (k:=5) rfl Er (by decide);clear hez21 az21 cz21;replace HG:=HG.mono hGz21;change Mem w0 Gz21 ((.obj D (.deferred (some [])))::.blk bs9 [.string (str c2)] 9::.blk b1 [.slice ar xs.length cr] 22::.blk b3 [.int .i64 0] 3::.blk b5 [.int .i64 0] 27::L) _ at M;refine w_regXD<|A4 F (Bk (agf A3 rfl) (F.ev rfl) (M.cellL (k:=2) rfl rfl)) rfl ?_;clear F a;intro a F
  refine Po F ent15 rfl rfl (V5 (xs:=xs) M Sz21 (by omega) (fun x hx=>by have:=(hok9 x hx).2.2.2.1;omega)) ?_;clear F M a;rintro _ Gq22 w a hGq22 M ⟨aq22,rfl,Sq22⟩ F;replace HG:=HG.mono hGq22;replace Sz21:=Sz21.mono Ae hGq22;refine Iw F M A3 2 ?_;clear F M a;intro w a M F;refine Iw F M Ct 3 ?_;clear F M a;intro w a M F;refine Iw F M Ka 4 ?_;clear F M a;intro w a M F;refine Dr<|Ga<|wpIn_ret ?_
  change Mem w0 Gq22 (_::_::.blk b1 [.slice aq22 xs.length xs.length] 22::.blk b3 [.int .i64 0] 3::.blk b5 [.int .i64 0] 27::L) _ at M;refine finMD F M (v:=.tuple #[.slice aq22 xs.length xs.length,.int .i64 0,.int .i64 0]) (fun w_ M_=>Ps F M_ (k1:=1) (k2:=2) (k3:=3) rfl rfl rfl rfl (agf A3 rfl) (agf Ct rfl) (agf Ka rfl) rfl rfl rfl) (fun w_ M_=>?_)
  exact ⟨_,((hG2.trans hGz21).trans hGq22),M_.weaken dS4,by rw [hp];exact ⟨aq22,rfl,Sq22⟩⟩
 obtain ⟨hG9,rfl,n9,e9,rfl,hp⟩:=hJ;refine ⟨v,some .ret,G2,_,.done,rfl,(fun h=>by cases h),hG2,M,fun w M=>?_⟩;clear hRc M2;replace HG:=HG.mono hG2;refine wpIn_ret<|Va<|Sv ?_
 change Mem w0 G2 (_::_::_::_::_::L) _ at M;refine finMD F M (v:=.tuple #[.slice none 0 0,.int .i64 ((n9:Nat):Int),.int .i64 e9]) (fun w_ M_=>Ps F M_ (k1:=1) (k2:=2) (k3:=3) rfl rfl rfl rfl (agf A3 rfl) (agf Ct rfl) (agf Ka rfl) rfl rfl rfl) (fun w_ M_=>?_)
 exact ⟨_,hG2,M_.weaken dS4,by rw [hp];exact ⟨none,rfl,A8.nil⟩⟩
theorem Qr (M:Mem w0 G L w) {s:List UInt8} (hs:s.length≤9223372036854775807):Calls Tryz.prog 58 #[.string (str s)] w (Ret w0 G L fun G' v=>∃ (a:Option Addr) (c:Nat),v=.tuple #[.slice a (Be s).1.length c,.int .i64 (((Be s).2.1:Nat):Int),.int .i64 (Be s).2.2]∧A8 B1 4 G' (.slice a (Be s).1.length c) (Be s).1):=by
 refine Az (vs:=[_]) Tryz.func58 rfl (n:=44) rfl rfl<|Ad<|Ab rfl<|Ab rfl<|Ab rfl<|Ai<|Ad<|Aa rfl<|Aq (fun a F=>Bp A6.k (F.ev rfl)) rfl<|C5 rfl rfl<|qD rfl ?_ ?_
 ·intro h1;refine Ad<|Ab rfl<|Ab rfl<|Ab rfl<|Al<|Ld rfl rfl rfl rfl<|?_
  exact ⟨_,(Gle.refl _),M.weaken (sR _),by rw [Ht (by omega)];exact ⟨none,0,rfl,A8.nil⟩⟩
 intro h2;refine Ao<|Ad<|Ab rfl<|Ai<|Ar<|?_
 have M:=M.nilrow 26 4;change Mem w0 G (.row (.slice none 0 0) 0 ([]) 26 4::L) _ at M;intro a F;refine Bi (fun m a' w'=>∃ (ar:Option Addr),∃ (nr:Nat),∃ (cr:Nat),∃ (csr:List Value),∃ (xs:List ItemD),∃ (c:List UInt8),m=c.length∧∃ G3,Gle G G3∧Fits 44 a' [(0,.string (str c)),(5,.slice ar nr cr)]∧Mem w0 G3 (.row (.slice ar nr cr) (nr) (csr) 26 4::L) w'∧(Els B1 4 G3 csr xs)∧(nr=xs.length)∧(c.length≤1048576)∧(Gd s xs c)) _ ⟨none,0,0,[],[],s,rfl,G,Gle.refl _,F.to ⟨rfl,rfl,trivial⟩,M,Els.nil,rfl,by omega,Gd.start (by omega)⟩ ?_;clear F M;rintro m a w ⟨ar,nr,cr,csr,xs,c,rfl,G3,hG3,F,M,Er,hnr,hcl,hP⟩;revert a;refine Ai<|Ad<|Aa rfl<|F1 rfl rfl<|Ap rfl ?_ ?_
 ·intro h4b;have h4:=dF (Ag h4b);have h4c:(decide (c=([]:List UInt8)))=false:=(Ag h4b);refine Ao<|Ar<|Ai<|?_
  obtain ⟨f9,hf9,hp9,hx9,hok9⟩:=id hP;refine Aw<|Aa rfl<|Bc Oz rfl rfl (Gq (s:=c) (c:=(10:UInt8)) M (by omega))<|?_;clear M;rintro _ w M rfl
  have hclc5:=D6 (10:UInt8) c;refine Aa rfl<|Cd rfl rfl<|Cd rfl rfl<|Cd rfl rfl<|Ab rfl<|Ab rfl<|Ab rfl<|Ad<|Aa rfl<|Aq (fun a F=>Bb (F.ev rfl) (F.ev rfl) (by (simp only [List.length_cons,List.length_nil];omega))) rfl<|Ik ent90 rfl rfl (U6 (s:=((Lib.cut c [(10:UInt8)]).1)++([10]:List UInt8)) M (by (simp only [List.length_append,List.length_cons,List.length_nil];omega)))<|?_;clear M;rintro _ Gk6 w hGk6 M ⟨xk6,mak6,mck6,bk6,rfl,hIk6,SMk6,hyk6,hnk6⟩
  replace Er:=Er.mono Ae hGk6;refine Aa rfl<|Cd rfl rfl<|Cd rfl rfl<|Dy M Af rfl rfl<|?_;clear M;intro b7 w M
  intro a F;refine Di F M Af 0 ?_;clear F M a;intro w a M F;revert a;refine Ab rfl<|Ai<|Ad<|Aa rfl<|Aa rfl<|Aq (fun a F=>Gt (F.ev rfl) (F.ev rfl) (Cl (by ((repeat' split) <;> omega)) (by ((repeat' split) <;> omega)))) rfl<|C2 rfl rfl<|qD rfl ?_ ?_
  ·intro h9;refine Ad<|Aa rfl<|Cf A3.k rfl<|Bw rfl rfl<|Ab rfl<|Ab rfl<|Ab rfl<|Al<|Ld rfl rfl rfl rfl<|?_
   have hp:Be s=([],xs.length+1,5):=hP.bad (by assumption) (by
    rcases bE (Lib.cut c [10]).2.2 with q1 | q1
    ·right;intro y hy_;rcases bE bk6 with q2 | q2
     ·exact absurd (show ((if (Lib.cut c [(10:UInt8)]).2.2=true then (1:Int) else 0)) * ((if bk6=true then (1:Int) else 0))=0 by assumption) (by rw [if_pos q1,if_pos q2];decide)
     exact hnk6 q2 y hy_.ten
    left;rw [q1];simp)
   have hN:(((nr:Nat):Int)+1:Int)=(((xs.length+1:Nat)):Int):=by omega
   exact ⟨_,(hG3.trans hGk6),M.weaken dS2,by rw [hp,hN];exact ⟨none,0,rfl,A8.nil⟩⟩
  intro h10;refine Ao<|Ai<|Ai<|?_
  have hq1:(Lib.cut c [10]).2.2=true:=Classical.byContradiction fun h_=>absurd (show ((if (Lib.cut c [(10:UInt8)]).2.2=true then (1:Int) else 0)) * ((if bk6=true then (1:Int) else 0))=0 by rw [if_neg h_,Int.zero_mul]) (by assumption);have hq2:bk6=true:=Classical.byContradiction fun h_=>absurd (show ((if (Lib.cut c [(10:UInt8)]).2.2=true then (1:Int) else 0)) * ((if bk6=true then (1:Int) else 0))=0 by rw [if_neg (show ¬ bk6=true from h_),Int.mul_zero]) (by assumption);refine Aw<|Aa rfl<|Cf A3.k rfl<|C2 rfl rfl<|qD rfl ?_ ?_
  ·intro h11;refine Ad<|Ab rfl<|Ab rfl<|Ab rfl<|Al<|Ld rfl rfl rfl rfl<|?_
   have hp:Be s=([],xs.length+1,3):=hP.full (by assumption) hq1 (Lz.one (hyk6 hq2)) (by omega);have hN:(1025:Int)=(((xs.length+1:Nat)):Int):=by omega
   exact ⟨_,(hG3.trans hGk6),M.weaken dS2,by rw [hp,hN];exact ⟨none,0,rfl,A8.nil⟩⟩
  intro h12;refine Ao<|Ad<|Aa rfl<|F8 Af M 0 rfl rfl rfl rfl<|fun a F=>?_
  refine Ce F M A3.k Af rfl rfl (cs:=[.int .u64 ((xk6.key:Nat):Int),.int .u8 ((xk6.typ:Nat):Int),.string (str xk6.text),.slice mak6 xk6.marks.length mck6]) rfl rfl (by simp [Value.oneCell']) (by decide) rfl ?_;clear F M a;intro v13 w a M F;obtain ⟨av13,cv13,rfl,hlev13,hcmv13,hlv13⟩:=M.row_shape (k:=0) rfl;have Eb:Els B1 4 Gk6 [.int .u64 ((xk6.key:Nat):Int),.int .u8 ((xk6.typ:Nat):Int),.string (str xk6.text),.slice mak6 xk6.marks.length mck6] [xk6]:=⟨[.int .u64 ((xk6.key:Nat):Int),.int .u8 ((xk6.typ:Nat):Int),.string (str xk6.text),.slice mak6 xk6.marks.length mck6],[],rfl,rfl,⟨mak6,mck6,rfl,hIk6.1,hIk6.2.1,hIk6.2.2,(by have h_:=SMk6.bound;omega),SMk6⟩,rfl⟩;refine Cp F M (k:=2) (k2:=0) rfl rfl A3.k Af rfl rfl (by decide) rfl rfl (by show _ * 56≤_;(try simp only [List.length_drop,List.length_take,List.length_append,List.length_cons,List.length_nil]);omega) (by (try simp only [List.length_drop,List.length_take,List.length_append,List.length_cons,List.length_nil]);omega) rfl ?_;clear F M a;intro v14 w a M F;have Ev14:=Els.append Er Eb;obtain ⟨av14,cv14,rfl,hlev14,hcmv14,hlv14⟩:=M.row_shape (k:=2) rfl;revert a;refine Ab rfl<|Aw<|Aa rfl<|Ab rfl<|Au<|e_bn<|Ch<|fun a F=>?_
  exact ⟨_,(by have h9_:=Nd (s:=c) (by assumption);omega),(av14),(nr+1),(cv14),csr++([.int .u64 ((xk6.key:Nat):Int),.int .u8 ((xk6.typ:Nat):Int),.string (str xk6.text),.slice mak6 xk6.marks.length mck6]),xs++([xk6]),(Lib.cut c [(10:UInt8)]).2.1,rfl,Gk6,(hG3.trans hGk6),F.to ⟨rfl,rfl,trivial⟩,(M.weaken (cN (.cons _ (cC (sR _))))),Ev14,by simp only [List.length_append,List.length_cons,List.length_nil];omega,by omega,hP.next (by assumption) hq1 (Lz.one (hyk6 hq2)) (by omega)⟩
 intro h15b;have h15:=dT (Ah h15b);have h15c:(decide (c=([]:List UInt8)))=true:=(Ah h15b);refine Br<|Bu<|Bu<|C6<|Ad<|Aa rfl<|Ab rfl<|Ab rfl<|Ab rfl<|Al<|Ld rfl rfl rfl rfl<|?_
 obtain ⟨hnz16,Gz16,az16,cz16,hGz16,hez16,Sz16,M⟩:=M.freeze_row Ae (k:=0) rfl Er (by decide);clear hez16 az16 cz16;have hp:Be s=(xs,0,0):=Gd.fin (by rw [← (show c=[] by assumption)];exact hP);subst hnr
 exact ⟨Gz16,hG3.trans hGz16,M.weaken (sR _),by rw [hp];exact ⟨_,_,rfl,Sz16⟩⟩
def Gv:List ItemD:=[⟨7,2,[104,105,32,116,104,101,114,101],[[97],[98]]⟩,⟨8,0,[],[]⟩]
theorem K2 (M:Mem w0 G L w):Calls Tryz.prog 62 #[] w (Ret w0 G L fun G' v=>∃ (a:Option Addr) (c:Nat),v=.slice a Gv.length c∧A8 B1 4 G' (.slice a Gv.length c) Gv):=by
 refine Az (vs:=[]) Tryz.func62 rfl (n:=5) rfl rfl<|Ad<|Ab rfl<|Ad<|fun a F=>?_
 refine Ca F M A5.k A6 (ps:=[(0,.string (str [97])),(1,.string (str [98]))]) (cs:=[[.string (str [97])],[.string (str [98])]]) (fl:=[.string (str [97]),.string (str [98])]) rfl rfl (by simp [Gf,Value.cells]) (by simp [ti9]) rfl (by simp [Value.oneCell']) (by decide) (by decide) rfl ?_;clear F M a;intro v1 w a M F;obtain ⟨av1,cv1,rfl,hlev1,hcmv1,hlv1⟩:=M.row_shape (k:=0) rfl;have E1:Els Cj 1 G [.string (str [97]),.string (str [98])] [[97],[98]]:=⟨[.string (str [97])],_,rfl,rfl,⟨rfl,by decide⟩,⟨[.string (str [98])],_,rfl,rfl,⟨rfl,by decide⟩,rfl⟩⟩;obtain ⟨hnz2,Gz2,az2,cz2,hGz2,hez2,Sz2,M⟩:=M.freeze_row Ax (k:=0) rfl E1 (by decide);clear hez2 az2 cz2;revert a;refine Aq (fun a F=>Bf (cs:=[.int .u64 7,.int .u8 2,.string (str [104,105,32,116,104,101,114,101]),.slice av1 2 (cv1)]) (ps:=[(0,.int .u64 7),(1,.int .u8 2),(2,.string (str [104,105,32,116,104,101,114,101])),(3,.slice av1 2 (cv1))]) Af.k rfl Af (F.evp rfl) rfl) rfl<|Aq (fun a F=>Bf (cs:=[.int .u64 8,.int .u8 0,.string (str []),.slice none 0 0]) (ps:=[(0,.int .u64 8)]) Af.k rfl Af (F.evp rfl) rfl) rfl<|fun a F=>?_
 refine Ca F M A3.k Af (ps:=[(0,.agg #[.int .u64 7,.int .u8 2,.string (str [104,105,32,116,104,101,114,101]),.slice av1 2 (cv1)]),(1,.agg #[.int .u64 8,.int .u8 0,.string (str []),.slice none 0 0])]) (cs:=[[.int .u64 7,.int .u8 2,.string (str [104,105,32,116,104,101,114,101]),.slice av1 2 (cv1)],[.int .u64 8,.int .u8 0,.string (str []),.slice none 0 0]]) (fl:=[.int .u64 7,.int .u8 2,.string (str [104,105,32,116,104,101,114,101]),.slice av1 2 (cv1),.int .u64 8,.int .u8 0,.string (str []),.slice none 0 0]) rfl rfl (by simp [Gf,Value.cells]) (by simp [ti26]) rfl (by simp [Value.oneCell']) (by decide) (by decide) rfl ?_;clear F M a;intro v3 w a M F;obtain ⟨av3,cv3,rfl,hlev3,hcmv3,hlv3⟩:=M.row_shape (k:=0) rfl;revert a;refine Ab rfl<|Al<|Ak rfl rfl<|?_
 have E2:Els B1 4 Gz2 [.int .u64 7,.int .u8 2,.string (str [104,105,32,116,104,101,114,101]),.slice av1 2 (cv1),.int .u64 8,.int .u8 0,.string (str []),.slice none 0 0] Gv:=⟨[.int .u64 7,.int .u8 2,.string (str [104,105,32,116,104,101,114,101]),.slice av1 2 (cv1)],_,rfl,rfl,⟨av1,cv1,rfl,by decide,by decide,by decide,by decide,Sz2⟩,⟨[.int .u64 8,.int .u8 0,.string (str []),.slice none 0 0],_,rfl,rfl,⟨none,0,rfl,by decide,by decide,by decide,by decide,A8.nil⟩,rfl⟩⟩;obtain ⟨hnz4,Gz4,az4,cz4,hGz4,hez4,Sz4,M⟩:=M.freeze_row Ae (k:=0) rfl E2 (by decide);clear hez4 az4 cz4
 exact ⟨Gz4,hGz2.trans hGz4,M.weaken (sR _),_,_,rfl,Sz4⟩
def x0F:ItemD:=⟨7,2,[104,105,32,116,104,101,114,101],[[97],[98]]⟩
theorem pair0:Gv[0]?=some x0F:=rfl
theorem S0:Dl Gv:=by decide
theorem tE:Dj Gv=0:=(G8 (by decide) S0).1
theorem d7:Lib.decDigits 7=[55]:=by rw [Lib.decDigits,dif_pos (by decide)];rfl
theorem d2:Lib.decDigits 2=[50]:=by rw [Lib.decDigits,dif_pos (by decide)];rfl
theorem d8:Lib.decDigits 8=[56]:=by rw [Lib.decDigits,dif_pos (by decide)];rfl
theorem d0:Lib.decDigits 0=[48]:=by rw [Lib.decDigits,dif_pos (by decide)];rfl
theorem tF:Bd Gv=([55,32,50,32,97,44,98,32,104,105,32,116,104,101,114,101,10,56,32,48,32,45,32,10]:List UInt8):=by
 unfold Bd Gv;simp only [List.map_cons,List.map_nil,B7,d7,d2,d8,d0]
 rfl
theorem tR:Eh Gv=([55,32,50,32,97,44,98,32,104,105,32,116,104,101,114,101,10,56,32,48,32,45,32,10]:List UInt8):=by rw [(G8 (by decide) S0).2,tF]
theorem pL:Be ([55,32,50,32,97,44,98,32,104,105,32,116,104,101,114,101,10,56,32,48,32,45,32,10]:List UInt8)=(Gv,0,0):=by
 rw [← tF];exact Ir S0 (by decide) (by decide) (by rw [tF];decide)
def badL:List (List UInt8):=[[56,32,48,32,45,10],[48,56,32,48,32,45,32,120,10],[56,32,48,32,97,44,32,120,10],[56,32,48,32,45,32,120]]
theorem bad1:Be [56,32,48,32,45,10]=([],1,5):=(Gd.start (by decide)).bad (by decide) (Or.inr fun y hy=>absurd (rd_flag hy) (by decide))
theorem bad2:Be [48,56,32,48,32,45,32,120,10]=([],1,5):=(Gd.start (by decide)).bad (by decide) (Or.inr fun y hy=>by
 obtain ⟨h1,h2⟩:=rd_head hy;refine absurd ?_ (Yr y.key (by omega));rw [← h1];decide)
theorem bad3:Be [56,32,48,32,97,44,32,120,10]=([],1,5):=(Gd.start (by decide)).bad (by decide) (Or.inr fun y hy=>absurd (W9 hy) (by decide))
theorem bad4:Be [56,32,48,32,45,32,120]=([],1,5):=(Gd.start (by decide)).bad (by decide) (Or.inl (by decide))
theorem Un:∀ x∈badL,Be x=([],1,5):=by
 intro x hx;simp only [badL,List.mem_cons,List.not_mem_nil,or_false] at hx
 rcases hx with rfl | rfl | rfl | rfl
 ·exact bad1
 ·exact bad2
 ·exact bad3
 exact bad4
def k4F:List ItemD:=[⟨3,0,[],[]⟩,⟨4,0,[],[]⟩,⟨3,0,[],[]⟩,⟨4,0,[],[]⟩]
theorem k4_tw:TwR k4F 2 true:=by
 refine Or.inr ⟨rfl,⟨⟨3,0,[],[]⟩,rfl,0,⟨3,0,[],[]⟩,by decide,rfl,rfl⟩,?_⟩;intro m y hm hy k z hk hz;have hk0:k=0:=by omega
 have hm1:m=1:=by omega
 subst hk0 hm1;simp only [k4F,List.getElem?_cons_zero,List.getElem?_cons_succ,Option.some.injEq] at hy hz;subst hy hz
 decide
theorem k4_fd:Ff k4F 4 1:=by
 refine Ff.some (i:=1) (x:=⟨4,0,[],[]⟩) ?_ rfl rfl;intro m y hm hy;have hm0:m=0:=by omega
 subst hm0;simp only [k4F,List.getElem?_cons_zero,Option.some.injEq] at hy;subst hy
 decide
theorem Vr (M:Mem w0 G L w) (HG:Globs 0 1 2 3 G):Calls Tryz.prog 20 #[] w (Ret w0 G L fun _ v=>v=.bool true):=by
 refine Az (vs:=[]) Tryz.func20 rfl (n:=111) rfl rfl<|Ad<|Ab rfl<|Ad<|Ik Yc rfl rfl (K2 M)<|?_;clear M;rintro _ Gq1 w hGq1 M ⟨aq1,cq1,rfl,Sq1⟩
 replace HG:=HG.mono hGq1;obtain ⟨be2,oe2,_,Ie2,_,Ae2,hTe2⟩:=Sq1.at pair0;obtain ⟨mae2,mce2,rfl,hke2,hte2,hxe2,hne2,SMe2⟩:=hTe2;have hIe2:(x0F.key < 18446744073709551616∧x0F.typ < 256∧x0F.text.length≤9223372036854775807):=⟨hke2,hte2,hxe2⟩;refine Db A3.k Af Ie2 rfl rfl<|Aq (fun a F=>Bj Af rfl (F.ev rfl) (cs:=[.int .u64 ((x0F.key:Nat):Int),.int .u8 ((x0F.typ:Nat):Int),.string (str x0F.text),.slice mae2 x0F.marks.length mce2]) rfl (M.cellsA Ae2 0 (by omega) rfl)) rfl<|Dy M Af rfl rfl<|?_;clear M;intro b3 w M
 intro a F;refine Di F M Af 0 ?_;clear F M a;intro w a M F;revert a;refine Ad<|Ik Yc rfl rfl (K2 M)<|?_;clear M;rintro _ Gq5 w hGq5 M ⟨aq5,cq5,rfl,Sq5⟩
 replace HG:=HG.mono hGq5;replace Sq1:=Sq1.mono Ae hGq5;replace Ae2:=Ae2.mono hGq5;replace SMe2:=SMe2.mono Ax hGq5;refine Bc Nc rfl rfl (Fo (xs:=Gv) M HG Sq5)<|?_;clear M;rintro _ w M rfl
 refine Aa rfl<|Cd rfl rfl<|Cd rfl rfl<|Ab rfl<|Ab rfl<|Ad<|Ik Nb rfl rfl (Et (s:=([55,32,50,32,97,44,98,32,104,105,32,116,104,101,114,101,10,56,32,48,32,45,32,10]:List UInt8)) M HG (by (first | decide | omega)))<|?_;clear M;rintro _ Gq6 w hGq6 M ⟨aq6,rfl,Sq6⟩
 replace HG:=HG.mono hGq6;replace Sq1:=Sq1.mono Ae hGq6;replace Ae2:=Ae2.mono hGq6;replace SMe2:=SMe2.mono Ax hGq6;replace Sq5:=Sq5.mono Ae hGq6;refine Aa rfl<|Cd rfl rfl<|Cd rfl rfl<|Cd rfl rfl<|Ab rfl<|Ab rfl<|Ab rfl<|Ai<|Ad<|F8 Af M 0 rfl rfl rfl rfl<|Bc Hg rfl rfl (Cw (x:=x0F) (t:=3) M hIe2 SMe2)<|?_;clear M;rintro _ w M rfl
 refine Df rfl rfl<|Aa rfl<|?_
 have hg7:(!(decide (Dh 3 x0F=0)))=false:=(Ac (decide_eq_true (by exact Cs (by decide))));refine g_t rfl hg7<|F8 Af M 0 rfl rfl rfl rfl<|g_t rfl hg7<|Bc Hg rfl rfl (Cw (x:=x0F) (t:=2) M hIe2 SMe2)<|?_;clear M;rintro _ w M rfl
 refine g_t rfl hg7<|Df rfl rfl<|A1 rfl hg7 rfl<|Aa rfl<|?_
 have hg8:(!(decide (Dh 2 x0F=6)))=false:=(Ac (decide_eq_true (by exact Ek (by decide))));refine g_t rfl hg8<|Aq (fun a F=>Bf (cs:=[.int .u64 0,.int .u8 0,.string (str []),.slice none 0 0]) (ps:=[]) Af.k rfl Af (F.evp rfl) rfl) rfl<|g_t rfl hg8<|Bc Hg rfl rfl (Cw (x:=(⟨0,0,[],[]⟩:ItemD)) (t:=8) M ⟨by decide,by decide,by decide⟩ A8.nil)<|?_;clear M;rintro _ w M rfl
 refine g_t rfl hg8<|Df rfl rfl<|A1 rfl hg8 rfl<|Aa rfl<|?_
 have hg9:(!(decide (Dh 8 (⟨0,0,[],[]⟩:ItemD)=6)))=false:=(Ac (decide_eq_true (by exact Ek (by decide))));refine g_t rfl hg9<|Aa rfl<|g_t rfl hg9<|Df rfl rfl<|A1 rfl hg9 rfl<|Aa rfl<|?_
 have hg10:(!(decide (Dj Gv=0)))=false:=(Ac (decide_eq_true (by exact tE)));refine g_t rfl hg10<|Aa rfl<|g_t rfl hg10<|F1 rfl rfl<|A1 rfl hg10 rfl<|Aa rfl<|?_
 have hg11:(!(decide ((Eh Gv)=([55,32,50,32,97,44,98,32,104,105,32,116,104,101,114,101,10,56,32,48,32,45,32,10]:List UInt8))))=false:=(Ac (decide_eq_true (by exact tR)));refine g_t rfl hg11<|Aa rfl<|g_t rfl hg11<|Df rfl rfl<|A1 rfl hg11 rfl<|Aa rfl<|?_
 have hg12:(!(decide ((Be ([55,32,50,32,97,44,98,32,104,105,32,116,104,101,114,101,10,56,32,48,32,45,32,10]:List UInt8)).2.2=0)))=false:=(Ac (decide_eq_true (by rw [pL])));refine g_t rfl hg12<|Aa rfl<|g_t rfl hg12<|Df rfl rfl<|A1 rfl hg12 rfl<|Aa rfl<|?_
 have hg13:(!(decide ((((Be ([55,32,50,32,97,44,98,32,104,105,32,116,104,101,114,101,10,56,32,48,32,45,32,10]:List UInt8)).2.1:Nat):Int)=0)))=false:=(Ac (decide_eq_true (by (rw [pL];rfl))));refine g_t rfl hg13<|Aa rfl<|g_t rfl hg13<|Ik Yc rfl rfl (K2 M)<|?_;clear M;rintro _ Gq14 w hGq14 M ⟨aq14,cq14,rfl,Sq14⟩
 replace HG:=HG.mono hGq14;replace Sq1:=Sq1.mono Ae hGq14;replace Ae2:=Ae2.mono hGq14;replace SMe2:=SMe2.mono Ax hGq14;replace Sq5:=Sq5.mono Ae hGq14;replace Sq6:=Sq6.mono Ae hGq14;refine g_t rfl hg13<|Bc Uk rfl rfl (Fy (xs:=(Be ([55,32,50,32,97,44,98,32,104,105,32,116,104,101,114,101,10,56,32,48,32,45,32,10]:List UInt8)).1) (ys:=Gv) M Sq6 Sq14)<|?_;clear M;rintro _ w M rfl
 refine g_t rfl hg13<|C2 rfl rfl<|A1 rfl hg13 rfl<|Cq rfl (decide_eq_false (by (rw [pL,if_pos rfl];decide)))<|Ao<|Ai<|Ad<|fun a F=>?_
 refine Ca F M A5.k A6 (ps:=[(0,.string (str [56,32,48,32,45,10])),(1,.string (str [48,56,32,48,32,45,32,120,10])),(2,.string (str [56,32,48,32,97,44,32,120,10])),(3,.string (str [56,32,48,32,45,32,120]))]) (cs:=[[.string (str [56,32,48,32,45,10])],[.string (str [48,56,32,48,32,45,32,120,10])],[.string (str [56,32,48,32,97,44,32,120,10])],[.string (str [56,32,48,32,45,32,120])]]) (fl:=[.string (str [56,32,48,32,45,10]),.string (str [48,56,32,48,32,45,32,120,10]),.string (str [56,32,48,32,97,44,32,120,10]),.string (str [56,32,48,32,45,32,120])]) rfl rfl (by simp [Gf,Value.cells]) (by simp [ti9]) rfl (by simp [Value.oneCell']) (by decide) (by decide) rfl ?_;clear F M a;intro v15 w a M F;obtain ⟨av15,cv15,rfl,hlev15,hcmv15,hlv15⟩:=M.row_shape (k:=0) rfl;have Ef:Els Cj 1 Gq14 [.string (str [56,32,48,32,45,10]),.string (str [48,56,32,48,32,45,32,120,10]),.string (str [56,32,48,32,97,44,32,120,10]),.string (str [56,32,48,32,45,32,120])] badL:=⟨[.string (str [56,32,48,32,45,10])],_,rfl,rfl,⟨rfl,by decide⟩,⟨[.string (str [48,56,32,48,32,45,32,120,10])],_,rfl,rfl,⟨rfl,by decide⟩,⟨[.string (str [56,32,48,32,97,44,32,120,10])],_,rfl,rfl,⟨rfl,by decide⟩,⟨[.string (str [56,32,48,32,45,32,120])],_,rfl,rfl,⟨rfl,by decide⟩,rfl⟩⟩⟩⟩;obtain ⟨hnz16,Gz16,az16,cz16,hGz16,hez16,Sz16,M⟩:=M.freeze_row Ax (k:=0) rfl Ef (by decide);clear hez16 az16 cz16;replace HG:=HG.mono hGz16;replace Sq1:=Sq1.mono Ae hGz16;replace Ae2:=Ae2.mono hGz16;replace SMe2:=SMe2.mono Ax hGz16;replace Sq5:=Sq5.mono Ae hGz16;replace Sq6:=Sq6.mono Ae hGz16
 replace Sq14:=Sq14.mono Ae hGz16;clear Ef;revert a;refine Cf A5.k rfl<|Aa rfl<|Ar<|fun a F=>Bi (fun m a' w'=>∃ (i:Nat),m=4 - i∧∃ G17,Gle Gz16 G17∧Fits 111 a' [(0,.bool false),(65,.slice av15 4 (cv15)),(66,.int .i64 ((4:Nat):Int)),(67,.int .i64 ((i:Nat):Int))]∧Mem w0 G17 (.blk b3 [.int .u64 ((x0F.key:Nat):Int),.int .u8 ((x0F.typ:Nat):Int),.string (str x0F.text),.slice mae2 x0F.marks.length mce2] 26::L) w'∧(i≤4)) _ ⟨0,rfl,Gz16,Gle.refl _,F.to ⟨rfl,rfl,rfl,rfl,trivial⟩,M,by omega⟩ ?_
 clear F M;rintro m a w ⟨i,rfl,G17,hG17,F,M,hi⟩;replace HG:=HG.mono hG17;replace Sq1:=Sq1.mono Ae hG17;replace Ae2:=Ae2.mono hG17;replace SMe2:=SMe2.mono Ax hG17;replace Sq5:=Sq5.mono Ae hG17;replace Sq6:=Sq6.mono Ae hG17;replace Sq14:=Sq14.mono Ae hG17;replace Sz16:=Sz16.mono Ax hG17;revert a;refine Ad<|Co rfl rfl<|Ai<|qD rfl ?_ ?_
 ·intro h18;refine Ao<|Ai<|Ar<|Ad<|?_
  obtain ⟨Xe19,hXe19⟩:=A0 (xs:=badL) (i:=i) (by (show i < 4;omega));obtain ⟨be19,oe19,_,Ie19,_,Ae19,⟨rfl,hsle19⟩⟩:=Sz16.at hXe19;refine Db A5.k A6 Ie19 rfl rfl<|Dm A6 M Ae19 0 rfl rfl (by omega) rfl<|Ab rfl<|Ad<|Aa rfl<|Ik Nb rfl rfl (Et (s:=(Xe19)) M HG (by (first | decide | omega)))<|?_;clear M;rintro _ Gq20 w hGq20 M ⟨aq20,rfl,Sq20⟩
  replace HG:=HG.mono hGq20;replace Sq1:=Sq1.mono Ae hGq20;replace Ae2:=Ae2.mono hGq20;replace SMe2:=SMe2.mono Ax hGq20;replace Sq5:=Sq5.mono Ae hGq20;replace Sq6:=Sq6.mono Ae hGq20;replace Sq14:=Sq14.mono Ae hGq20;replace Sz16:=Sz16.mono Ax hGq20;replace Ae19:=Ae19.mono hGq20;refine Aa rfl<|Cd rfl rfl<|Cd rfl rfl<|Cd rfl rfl<|Ab rfl<|Ab rfl<|Ab rfl<|Ad<|Aa rfl<|Df rfl rfl<|Aa rfl<|?_
  have hg21:(!(decide ((((Be Xe19).2.1:Nat):Int)=1)))=false:=(Ac (decide_eq_true (by exact (congrArg (fun q:List ItemD × Nat × Int=>((q.2.1:Nat):Int)) (Un _ (List.mem_of_getElem? hXe19))))));refine g_t rfl hg21<|Aa rfl<|g_t rfl hg21<|Df rfl rfl<|A1 rfl hg21 rfl<|Cq rfl (Ac (decide_eq_true (by exact (congrArg (fun q:List ItemD × Nat × Int=>q.2.2) (Un _ (List.mem_of_getElem? hXe19))))))<|Ao<|Aw<|Bw rfl rfl<|Aa rfl<|Au<|Ch<|fun a F=>?_
  exact ⟨_,by omega,i+1,rfl,Gq20,(hG17.trans hGq20),F.to ⟨rfl,rfl,rfl,rfl,trivial⟩,M,by omega⟩
 intro h22;refine Br<|Bu<|Bu<|C6<|Ad<|Aq (fun a F=>Bf (cs:=[.int .u64 3,.int .u8 0,.string (str []),.slice none 0 0]) (ps:=[(0,.int .u64 3)]) Af.k rfl Af (F.evp rfl) rfl) rfl<|Aq (fun a F=>Bf (cs:=[.int .u64 4,.int .u8 0,.string (str []),.slice none 0 0]) (ps:=[(0,.int .u64 4)]) Af.k rfl Af (F.evp rfl) rfl) rfl<|Aq (fun a F=>Bf (cs:=[.int .u64 3,.int .u8 0,.string (str []),.slice none 0 0]) (ps:=[(0,.int .u64 3)]) Af.k rfl Af (F.evp rfl) rfl) rfl<|Aq (fun a F=>Bf (cs:=[.int .u64 4,.int .u8 0,.string (str []),.slice none 0 0]) (ps:=[(0,.int .u64 4)]) Af.k rfl Af (F.evp rfl) rfl) rfl<|fun a F=>?_
 refine Ca F M A3.k Af (ps:=[(0,.agg #[.int .u64 3,.int .u8 0,.string (str []),.slice none 0 0]),(1,.agg #[.int .u64 4,.int .u8 0,.string (str []),.slice none 0 0]),(2,.agg #[.int .u64 3,.int .u8 0,.string (str []),.slice none 0 0]),(3,.agg #[.int .u64 4,.int .u8 0,.string (str []),.slice none 0 0])]) (cs:=[[.int .u64 3,.int .u8 0,.string (str []),.slice none 0 0],[.int .u64 4,.int .u8 0,.string (str []),.slice none 0 0],[.int .u64 3,.int .u8 0,.string (str []),.slice none 0 0],[.int .u64 4,.int .u8 0,.string (str []),.slice none 0 0]]) (fl:=[.int .u64 3,.int .u8 0,.string (str []),.slice none 0 0,.int .u64 4,.int .u8 0,.string (str []),.slice none 0 0,.int .u64 3,.int .u8 0,.string (str []),.slice none 0 0,.int .u64 4,.int .u8 0,.string (str []),.slice none 0 0]) rfl rfl (by simp [Gf,Value.cells]) (by simp [ti26]) rfl (by simp [Value.oneCell']) (by decide) (by decide) rfl ?_;clear F M a;intro v23 w a M F;obtain ⟨av23,cv23,rfl,hlev23,hcmv23,hlv23⟩:=M.row_shape (k:=0) rfl;have Ef:Els B1 4 G17 [.int .u64 3,.int .u8 0,.string (str []),.slice none 0 0,.int .u64 4,.int .u8 0,.string (str []),.slice none 0 0,.int .u64 3,.int .u8 0,.string (str []),.slice none 0 0,.int .u64 4,.int .u8 0,.string (str []),.slice none 0 0] k4F:=⟨[.int .u64 3,.int .u8 0,.string (str []),.slice none 0 0],_,rfl,rfl,⟨none,0,rfl,by decide,by decide,by decide,by decide,A8.nil⟩,⟨[.int .u64 4,.int .u8 0,.string (str []),.slice none 0 0],_,rfl,rfl,⟨none,0,rfl,by decide,by decide,by decide,by decide,A8.nil⟩,⟨[.int .u64 3,.int .u8 0,.string (str []),.slice none 0 0],_,rfl,rfl,⟨none,0,rfl,by decide,by decide,by decide,by decide,A8.nil⟩,⟨[.int .u64 4,.int .u8 0,.string (str []),.slice none 0 0],_,rfl,rfl,⟨none,0,rfl,by decide,by decide,by decide,by decide,A8.nil⟩,rfl⟩⟩⟩⟩
 obtain ⟨hnz24,Gz24,az24,cz24,hGz24,hez24,Sz24,M⟩:=M.freeze_row Ae (k:=0) rfl Ef (by decide);clear hez24 az24 cz24;replace HG:=HG.mono hGz24;replace Sq1:=Sq1.mono Ae hGz24;replace Ae2:=Ae2.mono hGz24;replace SMe2:=SMe2.mono Ax hGz24;replace Sq5:=Sq5.mono Ae hGz24;replace Sq6:=Sq6.mono Ae hGz24;replace Sq14:=Sq14.mono Ae hGz24;replace Sz16:=Sz16.mono Ax hGz24;clear Ef;revert a;refine Ab rfl<|Ad<|Aa rfl<|Bc ent63 rfl rfl (R9 (xs:=k4F) M Sz24)<|?_;clear M;rintro _ w M ⟨t25,bt25,rfl,ht25⟩
 refine Aa rfl<|Cd rfl rfl<|Cd rfl rfl<|Ab rfl<|Ab rfl<|Ad<|Aa rfl<|Bc ent64 rfl rfl (V1 (xs:=k4F) (k:=4) M Sz24)<|?_;clear M;rintro _ w M ⟨z26,rfl,hz26⟩
 refine Aa rfl<|Cd rfl rfl<|Cd rfl rfl<|Ab rfl<|Ab rfl<|Ai<|?_
 obtain ⟨q1,q2⟩:=ht25.uniq k4_tw;have q3:=hz26.uniq k4_fd;refine Aw<|Aa rfl<|C2 rfl rfl<|Aa rfl<|?_
 have hg27:(decide (((t25:Nat):Int)=2))=true:=(decide_eq_true (by omega));refine g_t rfl hg27<|Aa rfl<|A7 rfl hg27 rfl<|Aa rfl<|?_
 have hg28:(bt25)=true:=(by exact q2);refine g_t rfl hg28<|Aa rfl<|g_t rfl hg28<|C2 rfl rfl<|A7 rfl hg28 rfl<|Aa rfl<|?_
 have hg29:(decide (max z26 0=1))=true:=(decide_eq_true (by omega));refine g_t rfl hg29<|Aa rfl<|A7 rfl hg29 rfl<|Ab rfl<|Al<|Ak rfl rfl<|?_
 exact ⟨_,((((((hGq1.trans hGq5).trans hGq6).trans hGq14).trans hGz16).trans hG17).trans hGz24),M.weaken dS1,by rw [decide_eq_true (by omega)]⟩
theorem Dg (M:Mem w0 G L w) (HG:Globs 0 1 2 3 G):Calls Tryz.prog 20 #[] w (B5 w0 G L fun v=>v=.bool true):=Ret.plain M (Vr M HG)
theorem L6 {G:Av} {a:Option Addr} {c:Nat} {xs:List ItemD} (S:A8 B1 4 G (.slice a xs.length c) xs):∀ x∈xs,x.key < 18446744073709551616∧x.typ < 256:=by
 intro x hx;obtain ⟨i,hi⟩:=List.mem_iff_getElem?.1 hx;obtain ⟨b,o,cs,_,_,_,_,hr⟩:=S.index hi;obtain ⟨a',c',_,h1,h2,_⟩:=hr
 exact ⟨h1,h2⟩
def Fk (l:List ItemD):Int:=if Dl l then 0 else 6
theorem Wk:Fk []=0:=by unfold Fk;rw [if_pos (show Dl [] from fun x hx=>by simp at hx)]
theorem Ur {l:List ItemD} (h:Fk l=0):Dl l:=by
 unfold Fk at h;split at h
 ·assumption
 cases h
theorem Qh {l:List ItemD} (h:¬ Fk l=0):¬ Dl l∧Fk l=6:=by
 unfold Fk at h ⊢;split at h
 ·exact absurd rfl h
 rename_i h1;exact ⟨h1,by rw [if_neg h1]⟩
theorem Dw {xs:List ItemD} {i:Nat} {x:ItemD} (hx:xs[i]?=some x) (h:Fk (xs.take i)=0):Dh 8 x=Fk (xs.take (i+1)):=by
 have h1:=Ur h;rw [List.take_add_one,hx];unfold Fk Dh
 by_cases hk:Bv 8 x
 ·rw [if_pos hk,if_pos];intro y hy;simp only [Option.toList_some,List.mem_append,List.mem_singleton] at hy
  rcases hy with hy | rfl
  ·exact h1 y hy
  exact hk
 rw [if_neg hk,if_neg (fun h2=>hk (h2 x (by simp)))]
theorem Dv {xs:List ItemD} {i:Nat} {x:ItemD} (hx:xs[i]?=some x) (h:¬ Fk (xs.take i)=0):Fk (xs.take i)=Fk (xs.take (i+1)):=by
 obtain ⟨h1,h2⟩:=Qh h;rw [h2,List.take_add_one,hx];unfold Fk;rw [if_neg (fun h3=>h1 (fun y hy=>h3 y (by simp [hy])))]
theorem Us {xs:List ItemD} (h:xs.length≤1024):Dj xs=Fk xs:=by unfold Dj Fk;rw [if_neg (by omega)]
theorem ok_mono {t:Int} {x:ItemD} (h:Bv t x) (ht:x.typ < 256):Bv (max t 256) x:=⟨h.1,by omega,h.2.2⟩
theorem Vg (M:Mem w0 G L w) (HG:Globs 0 1 2 3 G) {s:List UInt8} (hs:s.length≤9223372036854775807):Calls Tryz.prog 17 #[.string (str s)] w (Ret w0 G L fun _ v=>v=.bool true):=by
 refine Az (vs:=[_]) Tryz.func17 rfl (n:=64) rfl rfl<|Ad<|Ab rfl<|Ai<|Ad<|Aa rfl<|Aq (fun a F=>Bp A6.k (F.ev rfl)) rfl<|C5 rfl rfl<|qD rfl ?_ ?_
 ·intro h1;refine Ad<|Bc Jj rfl rfl (Dg M HG)<|?_;clear M;rintro _ w M rfl
  refine Ab rfl<|Al<|Ak rfl rfl<|?_
  exact ⟨_,(Gle.refl _),M.weaken (sR _),rfl⟩
 intro h2;refine Ao<|Ad<|Aa rfl<|Ik ent58 rfl rfl (Qr (s:=(s)) M (by omega))<|?_;clear M;rintro _ Gq3 w hGq3 M ⟨aq3,cq3,rfl,Sq3⟩
 replace HG:=HG.mono hGq3;refine Aa rfl<|Cd rfl rfl<|Cd rfl rfl<|Cd rfl rfl<|Ab rfl<|Ab rfl<|Ab rfl<|Ad<|Aa rfl<|Ik Nb rfl rfl (Et (s:=(s)) M HG (by omega))<|?_;clear M;rintro _ Gq4 w hGq4 M ⟨aq4,rfl,Sq4⟩
 replace HG:=HG.mono hGq4;replace Sq3:=Sq3.mono Ae hGq4;refine Aa rfl<|Cd rfl rfl<|Cd rfl rfl<|Cd rfl rfl<|Ab rfl<|Ab rfl<|Ab rfl<|Ai<|Ad<|Aa rfl<|Aa rfl<|Df rfl rfl<|Aa rfl<|g_t rfl (Ac (decide_eq_true rfl))<|Aa rfl<|g_t rfl (Ac (decide_eq_true rfl))<|Aa rfl<|g_t rfl (Ac (decide_eq_true rfl))<|Df rfl rfl<|A1 rfl (Ac (decide_eq_true rfl)) rfl<|Aa rfl<|?_
 refine g_t rfl (Ac (decide_eq_true rfl))<|Aa rfl<|g_t rfl (Ac (decide_eq_true rfl))<|Aa rfl<|g_t rfl (Ac (decide_eq_true rfl))<|Bc Uk rfl rfl (Fy (xs:=(Be s).1) (ys:=(Be s).1) M Sq4 Sq3)<|?_;clear M;rintro _ w M rfl
 refine g_t rfl (Ac (decide_eq_true rfl))<|C2 rfl rfl<|A1 rfl (Ac (decide_eq_true rfl)) rfl<|Cq rfl (decide_eq_false (by (rw [if_pos rfl];decide)))<|Ao<|Ai<|Ad<|Aa rfl<|Df rfl rfl<|Ap rfl ?_ ?_
 ·intro h5b;have h5:=dF (Ag h5b);have h5c:(decide ((Be s).2.2=0))=false:=(Ag h5b);refine Ad<|Aa rfl<|Cf A3.k rfl<|C2 rfl rfl<|Aa rfl<|?_
  have hg6:(decide ((((Be s).1.length:Nat):Int)=0))=true:=(decide_eq_true (by (rw [Vh (by assumption)];rfl)));refine g_t rfl hg6<|Bc Jj rfl rfl (Dg M HG)<|?_;clear M;rintro _ w M rfl
  refine A7 rfl hg6 rfl<|Ab rfl<|Al<|Ak rfl rfl<|?_
  exact ⟨_,(hGq3.trans hGq4),M.weaken (sR _),rfl⟩
 intro h7b;have h7:=dT (Ah h7b);have h7c:(decide ((Be s).2.2=0))=true:=(Ah h7b);refine Ao<|Ad<|Aa rfl<|Bc Nc rfl rfl (Fo (xs:=(Be s).1) M HG Sq4)<|?_;clear M;rintro _ w M rfl
 refine Aa rfl<|Cd rfl rfl<|Cd rfl rfl<|Ab rfl<|Ab rfl<|Ad<|Aa rfl<|C2 rfl rfl<|Aa rfl<|?_
 have hg8:(decide (Dj ((Be s).1)=0))=true:=(decide_eq_true (by exact (Of (by omega)).1));refine g_t rfl hg8<|Aa rfl<|g_t rfl hg8<|Aa rfl<|g_t rfl hg8<|Kd rfl rfl<|A7 rfl hg8 rfl<|Aa rfl<|?_
 have hg9:(decide ((Eh ((Be s).1))=s))=true:=(decide_eq_true (by exact (Of (by omega)).2));refine g_t rfl hg9<|Bc Jj rfl rfl (Dg M HG)<|?_;clear M;rintro _ w M rfl
 refine A7 rfl hg9 rfl<|Ab rfl<|Al<|Ak rfl rfl<|?_
 exact ⟨_,(hGq3.trans hGq4),M.weaken (sR _),rfl⟩
theorem Vi (M:Mem w0 G L w) (HG:Globs 0 1 2 3 G) {s:List UInt8} (hs:s.length≤9223372036854775807):Calls Tryz.prog 17 #[.string (str s)] w (B5 w0 G L fun v=>v=.bool true):=Ret.plain M (Vg M HG hs)
theorem Ww (M:Mem w0 G L w) (HG:Globs 0 1 2 3 G) {a1:Option Addr} {c1:Nat} {xs:List ItemD} (S:A8 B1 4 G (.slice a1 xs.length c1) xs):Calls Tryz.prog 18 #[.slice a1 xs.length c1] w (Ret w0 G L fun _ v=>v=.bool true):=by
 have bS:=S.bound;refine Az (vs:=[_]) Tryz.func18 rfl (n:=76) rfl rfl<|Ad<|Ab rfl<|Ai<|Ad<|Aa rfl<|Bc ent56 rfl rfl (Rp (xs:=xs) M S)<|?_;clear M;rintro _ w M rfl
 refine C2 rfl rfl<|qD rfl ?_ ?_
 ·intro h1;refine Ad<|Bc Jj rfl rfl (Dg M HG)<|?_;clear M;rintro _ w M rfl
  refine Ab rfl<|Al<|Ak rfl rfl<|?_
  exact ⟨_,(Gle.refl _),M.weaken (sR _),rfl⟩
 intro h2;refine Ao<|Ai<|?_
 have hFw:Few xs:=Classical.byContradiction fun h_=>by rw [if_neg h_] at *;omega
 have hF30:=hFw.1;refine Aw<|Ab rfl<|Ai<|Ad<|Ab rfl<|Ar<|fun a F=>Bi (fun m a' w'=>∃ (i:Nat),m=xs.length - i∧Fits 76 a' [(0,.slice a1 xs.length c1),(3,.string (str (Bd (xs.take i)))),(4,.int .i64 ((i:Nat):Int))]∧Mem w0 G (L) w'∧(i≤xs.length)∧((Bd (xs.take i)).length≤301 * i)∧(∀ (m:Nat) (x:ItemD),m < i→xs[m]?=some x→Bv 8 x)) _ ⟨0,rfl,F.to ⟨rfl,rfl,rfl,trivial⟩,M,by omega,by simp [Bd],fun m x h=>by omega⟩ ?_
 clear F M;rintro m a w ⟨i,rfl,F,M,hi,hlen,hA⟩;revert a;refine Ai<|Ad<|Aa rfl<|Aa rfl<|Cf A3.k rfl<|Co rfl rfl<|qD rfl ?_ ?_
 ·intro h3;refine Ao<|Ai<|Ar<|Ai<|Ad<|Aa rfl<|Aa rfl<|?_
  obtain ⟨Xe4,hXe4⟩:=A0 (xs:=xs) (i:=i) (by omega);obtain ⟨be4,oe4,_,Ie4,_,Ae4,hTe4⟩:=S.at hXe4;obtain ⟨mae4,mce4,rfl,hke4,hte4,hxe4,hne4,SMe4⟩:=hTe4;have hIe4:(Xe4.key < 18446744073709551616∧Xe4.typ < 256∧Xe4.text.length≤9223372036854775807):=⟨hke4,hte4,hxe4⟩;refine Db A3.k Af Ie4 rfl rfl<|Aq (fun a F=>Bj Af rfl (F.ev rfl) (cs:=[.int .u64 ((Xe4.key:Nat):Int),.int .u8 ((Xe4.typ:Nat):Int),.string (str Xe4.text),.slice mae4 Xe4.marks.length mce4]) rfl (M.cellsA Ae4 0 (by omega) rfl)) rfl<|Bc O0 rfl rfl (D1 (x:=Xe4) (t:=8) M hIe4 SMe4)<|?_;clear M;rintro _ w M rfl
  refine C5 rfl rfl<|qD rfl ?_ ?_
  ·intro h5;refine Ad<|Bc Jj rfl rfl (Dg M HG)<|?_;clear M;rintro _ w M rfl
   refine Ab rfl<|Al<|Ak rfl rfl<|?_
   exact ⟨_,(Gle.refl _),M.weaken (sR _),rfl⟩
  intro h6;refine Ao<|Ch<|?_
  have hokX:Bv 8 Xe4:=H6 (by assumption);refine Aw<|Aa rfl<|Aa rfl<|Aa rfl<|?_
  obtain ⟨be7,oe7,_,Ie7,_,Ae7,hTe7⟩:=S.at hXe4;obtain ⟨mae7,mce7,rfl,hke7,hte7,hxe7,hne7,SMe7⟩:=hTe7;have hIe7:(Xe4.key < 18446744073709551616∧Xe4.typ < 256∧Xe4.text.length≤9223372036854775807):=⟨hke7,hte7,hxe7⟩;refine Db A3.k Af Ie7 rfl rfl<|Aq (fun a F=>Bj Af rfl (F.ev rfl) (cs:=[.int .u64 ((Xe4.key:Nat):Int),.int .u8 ((Xe4.typ:Nat):Int),.string (str Xe4.text),.slice mae7 Xe4.marks.length mce7]) rfl (M.cellsA Ae7 0 (by omega) rfl)) rfl<|Bc Yd rfl rfl (Jr (x:=Xe4) M hIe7 SMe7 hokX)<|?_;clear M;rintro _ w M rfl
  have hlll8:=Gw (x:=Xe4) hokX hIe7.1 hIe7.2.1;refine Aq (fun a F=>Bb (F.ev rfl) (F.ev rfl) (by (first | omega | (simp only [List.length_append,List.length_cons,List.length_nil];omega)))) rfl<|Ab rfl<|Aw<|Aa rfl<|Bw rfl rfl<|Ab rfl<|Au<|Ch<|fun a F=>?_
  rw [← Jm hXe4] at F
  exact ⟨_,by omega,i+1,rfl,F.to ⟨rfl,rfl,rfl,trivial⟩,M,by omega,by rw [Jm hXe4];simp only [List.length_append,List.length_cons,List.length_nil];omega,Cx hA hXe4 hokX⟩
 intro h9;refine Br<|Bu<|Bu<|C6<|Ai<|?_
 have hT:Bd (xs.take i)=Bd xs:=by rw [List.take_of_length_le (by omega)]
 intro a F;rw [hT] at F hlen;have hAll:Dl xs:=C4 hA (by omega);have hto:=G8 (by omega) hAll;have hpp:=Ir hAll (fun x hx=>(L6 S x hx).1) (by omega) (by omega);revert a;refine Aw<|Aa rfl<|Bc Nc rfl rfl (Fo (xs:=xs) M HG S)<|?_;clear M;rintro _ w M rfl
 refine Aa rfl<|Cd rfl rfl<|Cd rfl rfl<|Ab rfl<|Ab rfl<|Ad<|Aa rfl<|Ik Nb rfl rfl (Et (s:=(Bd xs)) M HG (by omega))<|?_;clear M;rintro _ Gq10 w hGq10 M ⟨aq10,rfl,Sq10⟩
 replace S:=S.mono Ae hGq10;replace HG:=HG.mono hGq10;refine Aa rfl<|Cd rfl rfl<|Cd rfl rfl<|Cd rfl rfl<|Ab rfl<|Ab rfl<|Ab rfl<|Ad<|Aa rfl<|C2 rfl rfl<|Aa rfl<|?_
 have hg11:(decide (Dj xs=0))=true:=(decide_eq_true (by exact hto.1));refine g_t rfl hg11<|Aa rfl<|g_t rfl hg11<|Aa rfl<|g_t rfl hg11<|Kd rfl rfl<|A7 rfl hg11 rfl<|Aa rfl<|?_
 have hg12:(decide ((Eh xs)=(Bd xs)))=true:=(decide_eq_true (by exact hto.2));refine g_t rfl hg12<|Aa rfl<|g_t rfl hg12<|C2 rfl rfl<|A7 rfl hg12 rfl<|Aa rfl<|?_
 have hg13:(decide ((Be (Bd xs)).2.2=0))=true:=(decide_eq_true (by rw [hpp]));refine g_t rfl hg13<|Aa rfl<|g_t rfl hg13<|C2 rfl rfl<|A7 rfl hg13 rfl<|Aa rfl<|?_
 have hg14:(decide ((((Be (Bd xs)).2.1:Nat):Int)=0))=true:=(decide_eq_true (by (rw [hpp];rfl)));refine g_t rfl hg14<|Aa rfl<|g_t rfl hg14<|Aa rfl<|g_t rfl hg14<|Bc Uk rfl rfl (Fy (xs:=(Be (Bd xs)).1) (ys:=xs) M Sq10 S)<|?_;clear M;rintro _ w M rfl
 refine g_t rfl hg14<|C2 rfl rfl<|A7 rfl hg14 rfl<|Aa rfl<|?_
 have hg15:(decide ((if ((Be (Bd xs)).1)=xs then (1:Int) else 0)=1))=true:=(decide_eq_true (by (rw [hpp,if_pos rfl])));refine g_t rfl hg15<|Aa rfl<|g_t rfl hg15<|Aq (fun a F=>Uw A3.k (F.ev rfl)) rfl<|g_t rfl hg15<|Aa rfl<|g_t rfl hg15<|Cf A3.k rfl<|g_t rfl hg15<|C2 rfl rfl<|A7 rfl hg15 rfl<|Aa rfl<|g_t rfl (decide_eq_true rfl)<|Bc Jj rfl rfl (Dg M HG)<|?_;clear M;rintro _ w M rfl
 refine A7 rfl (decide_eq_true rfl) rfl<|Ab rfl<|Al<|Ak rfl rfl<|?_
 exact ⟨_,hGq10,M.weaken (sR _),rfl⟩
theorem Wy (M:Mem w0 G L w) (HG:Globs 0 1 2 3 G) {a1:Option Addr} {c1:Nat} {xs:List ItemD} (S:A8 B1 4 G (.slice a1 xs.length c1) xs):Calls Tryz.prog 18 #[.slice a1 xs.length c1] w (B5 w0 G L fun v=>v=.bool true):=Ret.plain M (Ww M HG S)
theorem V9 (M:Mem w0 G L w) (HG:Globs 0 1 2 3 G) {a1:Option Addr} {c1:Nat} {xs:List ItemD} (S:A8 B1 4 G (.slice a1 xs.length c1) xs) {t:Int}:Calls Tryz.prog 16 #[.slice a1 xs.length c1,.int .i64 t] w (Ret w0 G L fun _ v=>v=.bool true):=by
 have bS:=S.bound;refine Az (vs:=[_,_]) Tryz.func16 rfl (n:=82) rfl rfl<|Ad<|Ab rfl<|Ai<|Ad<|Aa rfl<|Bc ent56 rfl rfl (Rp (xs:=xs) M S)<|?_;clear M;rintro _ w M rfl
 refine C2 rfl rfl<|qD rfl ?_ ?_
 ·intro h1;refine Ad<|Bc Jj rfl rfl (Dg M HG)<|?_;clear M;rintro _ w M rfl
  refine Ab rfl<|Al<|Ak rfl rfl<|?_
  exact ⟨_,(Gle.refl _),M.weaken (sR _),rfl⟩
 intro h2;refine Ao<|Ai<|?_
 have hFw:Few xs:=Classical.byContradiction fun h_=>by rw [if_neg h_] at *;omega
 have hF30:=hFw.1;refine Aw<|Ab rfl<|Ai<|Ad<|Ab rfl<|Ar<|fun a F=>Bi (fun m a' w'=>∃ (i:Nat),∃ (wt:Int),m=xs.length - i∧Fits 82 a' [(0,.slice a1 xs.length c1),(1,.int .i64 t),(5,.int .i64 wt),(6,.int .i64 ((i:Nat):Int))]∧Mem w0 G (L) w'∧(i≤xs.length)∧(wt=Fk (xs.take i))) _ ⟨0,0,rfl,F.to ⟨rfl,rfl,rfl,rfl,trivial⟩,M,by omega,by rw [List.take_zero,Wk]⟩ ?_
 clear F M;rintro m a w ⟨i,wt,rfl,F,M,hi,hw⟩;revert a;refine Ai<|Ad<|Aa rfl<|Aa rfl<|Cf A3.k rfl<|Co rfl rfl<|qD rfl ?_ ?_
 ·intro h3;refine Ao<|Ai<|Ar<|Ad<|Aa rfl<|Aa rfl<|?_
  obtain ⟨Xe4,hXe4⟩:=A0 (xs:=xs) (i:=i) (by omega);obtain ⟨be4,oe4,_,Ie4,_,Ae4,hTe4⟩:=S.at hXe4;obtain ⟨mae4,mce4,rfl,hke4,hte4,hxe4,hne4,SMe4⟩:=hTe4;have hIe4:(Xe4.key < 18446744073709551616∧Xe4.typ < 256∧Xe4.text.length≤9223372036854775807):=⟨hke4,hte4,hxe4⟩;refine Db A3.k Af Ie4 rfl rfl<|Aq (fun a F=>Bj Af rfl (F.ev rfl) (cs:=[.int .u64 ((Xe4.key:Nat):Int),.int .u8 ((Xe4.typ:Nat):Int),.string (str Xe4.text),.slice mae4 Xe4.marks.length mce4]) rfl (M.cellsA Ae4 0 (by omega) rfl)) rfl<|Aa rfl<|Bc Hg rfl rfl (Cw (x:=Xe4) (t:=t) M hIe4 SMe4)<|?_;clear M;rintro _ w M rfl
  refine Ab rfl<|Ai<|Ad<|Aa rfl<|Aa rfl<|Aa rfl<|?_
  obtain ⟨be5,oe5,_,Ie5,_,Ae5,hTe5⟩:=S.at hXe4;obtain ⟨mae5,mce5,rfl,hke5,hte5,hxe5,hne5,SMe5⟩:=hTe5;have hIe5:(Xe4.key < 18446744073709551616∧Xe4.typ < 256∧Xe4.text.length≤9223372036854775807):=⟨hke5,hte5,hxe5⟩;refine Db A3.k Af Ie5 rfl rfl<|Aq (fun a F=>Bj Af rfl (F.ev rfl) (cs:=[.int .u64 ((Xe4.key:Nat):Int),.int .u8 ((Xe4.typ:Nat):Int),.string (str Xe4.text),.slice mae5 Xe4.marks.length mce5]) rfl (M.cellsA Ae5 0 (by omega) rfl)) rfl<|Aa rfl<|Bc O0 rfl rfl (D1 (x:=Xe4) (t:=t) M hIe5 SMe5)<|?_;clear M;rintro _ w M rfl
  refine Df rfl rfl<|Aa rfl<|g_t rfl (Ac (decide_eq_true rfl))<|Aa rfl<|g_t rfl (Ac (decide_eq_true rfl))<|C2 rfl rfl<|g_t rfl (Ac (decide_eq_true rfl))<|Aa rfl<|?_
  rcases bE (decide (Dh t Xe4=0)) with h6b | h13b
  ·skip
   have h6:=dT h6b;refine g_t rfl h6b<|Aa rfl<|g_t rfl h6b<|Aa rfl<|g_t rfl h6b<|?_
   obtain ⟨be7,oe7,_,Ie7,_,Ae7,hTe7⟩:=S.at hXe4;obtain ⟨mae7,mce7,rfl,hke7,hte7,hxe7,hne7,SMe7⟩:=hTe7;have hIe7:(Xe4.key < 18446744073709551616∧Xe4.typ < 256∧Xe4.text.length≤9223372036854775807):=⟨hke7,hte7,hxe7⟩;refine Db A3.k Af Ie7 rfl rfl<|g_t rfl h6b<|Aq (fun a F=>Bj Af rfl (F.ev rfl) (cs:=[.int .u64 ((Xe4.key:Nat):Int),.int .u8 ((Xe4.typ:Nat):Int),.string (str Xe4.text),.slice mae7 Xe4.marks.length mce7]) rfl (M.cellsA Ae7 0 (by omega) rfl)) rfl<|g_t rfl h6b<|Aa rfl<|g_t rfl h6b<|Aq (fun a F=>Mm (F.ev rfl) (F.ev rfl)) rfl<|g_t rfl h6b<|Bc Hg rfl rfl (Cw (x:=Xe4) (t:=max (t) 256) M hIe7 SMe7)<|?_;clear M;rintro _ w M rfl
   refine g_t rfl h6b<|Df rfl rfl<|g_t rfl (Ac (decide_eq_true rfl))<|A7 rfl h6b rfl<|A1 rfl (Ac (decide_eq_true rfl)) rfl<|Aa rfl<|?_
   have hg8:(!(decide (Dh (max (t) 256) Xe4=0)))=false:=(Ac (decide_eq_true (by exact Cs (ok_mono (Cr.1 (by assumption)) (L6 S _ (List.mem_of_getElem? hXe4)).2))));refine g_t rfl hg8<|Aa rfl<|g_t rfl hg8<|Aa rfl<|g_t rfl hg8<|?_
   obtain ⟨be9,oe9,_,Ie9,_,Ae9,hTe9⟩:=S.at hXe4;obtain ⟨mae9,mce9,rfl,hke9,hte9,hxe9,hne9,SMe9⟩:=hTe9;have hIe9:(Xe4.key < 18446744073709551616∧Xe4.typ < 256∧Xe4.text.length≤9223372036854775807):=⟨hke9,hte9,hxe9⟩;refine Db A3.k Af Ie9 rfl rfl<|g_t rfl hg8<|Aq (fun a F=>Bj Af rfl (F.ev rfl) (cs:=[.int .u64 ((Xe4.key:Nat):Int),.int .u8 ((Xe4.typ:Nat):Int),.string (str Xe4.text),.slice mae9 Xe4.marks.length mce9]) rfl (M.cellsA Ae9 0 (by omega) rfl)) rfl<|g_t rfl hg8<|Bc Hg rfl rfl (Cw (x:=Xe4) (t:=0) M hIe9 SMe9)<|?_;clear M;rintro _ w M rfl
   refine g_t rfl hg8<|C2 rfl rfl<|A1 rfl hg8 rfl<|Cq rfl (decide_eq_false (by (intro h_;have h9_:=(Cr.1 h_).2.1;omega)))<|Ao<|Ad<|Aa rfl<|C2 rfl rfl<|qD rfl ?_ ?_
   ·intro h10;refine Aw<|Aa rfl<|Aa rfl<|?_
    obtain ⟨be11,oe11,_,Ie11,_,Ae11,hTe11⟩:=S.at hXe4;obtain ⟨mae11,mce11,rfl,hke11,hte11,hxe11,hne11,SMe11⟩:=hTe11;have hIe11:(Xe4.key < 18446744073709551616∧Xe4.typ < 256∧Xe4.text.length≤9223372036854775807):=⟨hke11,hte11,hxe11⟩;refine Db A3.k Af Ie11 rfl rfl<|Aq (fun a F=>Bj Af rfl (F.ev rfl) (cs:=[.int .u64 ((Xe4.key:Nat):Int),.int .u8 ((Xe4.typ:Nat):Int),.string (str Xe4.text),.slice mae11 Xe4.marks.length mce11]) rfl (M.cellsA Ae11 0 (by omega) rfl)) rfl<|Bc O0 rfl rfl (D1 (x:=Xe4) (t:=8) M hIe11 SMe11)<|?_;clear M;rintro _ w M rfl
    refine Ab rfl<|Aw<|Aa rfl<|Bw rfl rfl<|Ab rfl<|Au<|Ch<|fun a F=>?_
    exact ⟨_,by omega,i+1,Dh 8 Xe4,rfl,F.to ⟨rfl,rfl,rfl,rfl,trivial⟩,M,by omega,by first | (rw [hw] at *;exact Dw hXe4 (by assumption)) | (rw [hw] at *;exact Dv hXe4 (by assumption)) | exact Dw hXe4 (by omega) | (rw [hw];exact Dv hXe4 (by omega))⟩
   intro h12;refine Ao<|Aw<|Aa rfl<|Bw rfl rfl<|Ab rfl<|Au<|Ch<|fun a F=>?_
   exact ⟨_,by omega,i+1,wt,rfl,F.to ⟨rfl,rfl,rfl,rfl,trivial⟩,M,by omega,by first | (rw [hw] at *;exact Dw hXe4 (by assumption)) | (rw [hw] at *;exact Dv hXe4 (by assumption)) | exact Dw hXe4 (by omega) | (rw [hw];exact Dv hXe4 (by omega))⟩
  have h13:=dF h13b;refine g_f rfl h13b<|g_f rfl h13b<|g_f rfl h13b<|g_f rfl h13b<|g_f rfl h13b<|g_f rfl h13b<|g_f rfl h13b<|g_f rfl h13b<|g_t rfl (Ac (decide_eq_true rfl))<|A1 rfl h13b rfl<|A1 rfl (Ac (decide_eq_true rfl)) rfl<|Aa rfl<|g_t rfl rfl<|Aa rfl<|g_t rfl rfl<|Aa rfl<|g_t rfl rfl<|?_
  obtain ⟨be14,oe14,_,Ie14,_,Ae14,hTe14⟩:=S.at hXe4;obtain ⟨mae14,mce14,rfl,hke14,hte14,hxe14,hne14,SMe14⟩:=hTe14;have hIe14:(Xe4.key < 18446744073709551616∧Xe4.typ < 256∧Xe4.text.length≤9223372036854775807):=⟨hke14,hte14,hxe14⟩;refine Db A3.k Af Ie14 rfl rfl<|g_t rfl rfl<|Aq (fun a F=>Bj Af rfl (F.ev rfl) (cs:=[.int .u64 ((Xe4.key:Nat):Int),.int .u8 ((Xe4.typ:Nat):Int),.string (str Xe4.text),.slice mae14 Xe4.marks.length mce14]) rfl (M.cellsA Ae14 0 (by omega) rfl)) rfl<|g_t rfl rfl<|Bc Hg rfl rfl (Cw (x:=Xe4) (t:=0) M hIe14 SMe14)<|?_;clear M;rintro _ w M rfl
  refine g_t rfl rfl<|C2 rfl rfl<|A1 rfl rfl rfl<|Cq rfl (decide_eq_false (by (intro h_;have h9_:=(Cr.1 h_).2.1;omega)))<|Ao<|Ad<|Aa rfl<|C2 rfl rfl<|qD rfl ?_ ?_
  ·intro h15;refine Aw<|Aa rfl<|Aa rfl<|?_
   obtain ⟨be16,oe16,_,Ie16,_,Ae16,hTe16⟩:=S.at hXe4;obtain ⟨mae16,mce16,rfl,hke16,hte16,hxe16,hne16,SMe16⟩:=hTe16;have hIe16:(Xe4.key < 18446744073709551616∧Xe4.typ < 256∧Xe4.text.length≤9223372036854775807):=⟨hke16,hte16,hxe16⟩;refine Db A3.k Af Ie16 rfl rfl<|Aq (fun a F=>Bj Af rfl (F.ev rfl) (cs:=[.int .u64 ((Xe4.key:Nat):Int),.int .u8 ((Xe4.typ:Nat):Int),.string (str Xe4.text),.slice mae16 Xe4.marks.length mce16]) rfl (M.cellsA Ae16 0 (by omega) rfl)) rfl<|Bc O0 rfl rfl (D1 (x:=Xe4) (t:=8) M hIe16 SMe16)<|?_;clear M;rintro _ w M rfl
   refine Ab rfl<|Aw<|Aa rfl<|Bw rfl rfl<|Ab rfl<|Au<|Ch<|fun a F=>?_
   exact ⟨_,by omega,i+1,Dh 8 Xe4,rfl,F.to ⟨rfl,rfl,rfl,rfl,trivial⟩,M,by omega,by first | (rw [hw] at *;exact Dw hXe4 (by assumption)) | (rw [hw] at *;exact Dv hXe4 (by assumption)) | exact Dw hXe4 (by omega) | (rw [hw];exact Dv hXe4 (by omega))⟩
  intro h17;refine Ao<|Aw<|Aa rfl<|Bw rfl rfl<|Ab rfl<|Au<|Ch<|fun a F=>?_
  exact ⟨_,by omega,i+1,wt,rfl,F.to ⟨rfl,rfl,rfl,rfl,trivial⟩,M,by omega,by first | (rw [hw] at *;exact Dw hXe4 (by assumption)) | (rw [hw] at *;exact Dv hXe4 (by assumption)) | exact Dw hXe4 (by omega) | (rw [hw];exact Dv hXe4 (by omega))⟩
 intro h18;refine Br<|Bu<|Bu<|C6<|Ai<|?_
 have hwt:wt=Fk xs:=by rw [hw,List.take_of_length_le (by omega)]
 have hte:=Us (xs:=xs) (by omega);refine Aw<|Aa rfl<|Bc Nc rfl rfl (Fo (xs:=xs) M HG S)<|?_;clear M;rintro _ w M rfl
 refine Aa rfl<|Cd rfl rfl<|Cd rfl rfl<|Ab rfl<|Ab rfl<|Ad<|Aa rfl<|Aa rfl<|C2 rfl rfl<|Aa rfl<|?_
 have hg19:(decide (Dj xs=wt))=true:=(decide_eq_true (by omega));refine g_t rfl hg19<|Aa rfl<|g_t rfl hg19<|C2 rfl rfl<|g_t rfl hg19<|Aa rfl<|?_
 rcases bE (decide (wt=0)) with h20b | h21b
 ·skip
  have h20:=dT h20b;refine g_f rfl h20b<|g_f rfl h20b<|g_t rfl hg19<|A7 rfl h20b rfl<|A7 rfl hg19 rfl<|Aa rfl<|g_t rfl rfl<|Bc Jj rfl rfl (Dg M HG)<|?_;clear M;rintro _ w M rfl
  refine A7 rfl rfl rfl<|Ab rfl<|Al<|Ak rfl rfl<|?_
  exact ⟨_,(Gle.refl _),M.weaken (sR _),rfl⟩
 have h21:=dF h21b;refine g_t rfl h21b<|Aa rfl<|g_t rfl h21b<|Kd rfl rfl<|g_t rfl hg19<|A1 rfl h21b rfl<|A7 rfl hg19 rfl<|Aa rfl<|?_
 have hg22:(decide ((Eh xs)=([]:List UInt8)))=true:=(decide_eq_true (by exact (Kc (by omega) (Qh (by omega)).1).2));refine g_t rfl hg22<|Bc Jj rfl rfl (Dg M HG)<|?_;clear M;rintro _ w M rfl
 refine A7 rfl hg22 rfl<|Ab rfl<|Al<|Ak rfl rfl<|?_
 exact ⟨_,(Gle.refl _),M.weaken (sR _),rfl⟩
theorem Wa (M:Mem w0 G L w) (HG:Globs 0 1 2 3 G) {a1:Option Addr} {c1:Nat} {xs:List ItemD} (S:A8 B1 4 G (.slice a1 xs.length c1) xs) {t:Int}:Calls Tryz.prog 16 #[.slice a1 xs.length c1,.int .i64 t] w (B5 w0 G L fun v=>v=.bool true):=Ret.plain M (V9 M HG S)
theorem ent61:Ent Tryz.prog 61:=.mk' Tryz.func61 (by kernel_rfl) (by kernel_rfl)
open Go Go.Y
def Uq (a n m:Int):Prop:=(0≤a∧a≤m)∧(0≤n∧n≤m - a)
instance (a n m:Int):Decidable (Uq a n m):=by unfold Uq;infer_instance
def hasI (xs:List ItemD) (k:Nat):Prop:=∃ y∈xs,y.key=k
theorem Ff.has {xs:List ItemD} {k:Nat} {z:Int} (h:Ff xs k z):0≤z↔hasI xs k:=by
 rcases h with ⟨rfl,h⟩ | ⟨i,x,rfl,h1,h2,h3⟩
 ·exact ⟨fun h2=>by omega,fun ⟨y,hy,hk⟩=>absurd hk (h y hy)⟩
 exact ⟨fun _=>⟨x,List.mem_of_getElem? h1,h2⟩,fun _=>by omega⟩
section
variable {c:RulesD} {l:List EntD} {a:Int} {xs:List ItemD} {p:Nat}
end
section
variable {c:RulesD} {x:ItemD} {other:Prop}
end
section
variable {c:RulesD} {l:List EntD} {a:Int} {xs:List ItemD} {i:Nat} {x:ItemD}
end
section
variable {c:RulesD} {x:ItemD}
end
end Go.Proofs.YtmmhmcplegpenaaGreatDoor
namespace Go.Y
open Go
section
variable {w0 w:World} {G:Av} {L Ls:List Res}
open Classical in
noncomputable def Ly (G:Av) (Ls:List Res) (w:World):Av:=fun r=>if ∃ x∈Ls,x.foot=some r then w.heap[r]? else G r
theorem T7 {x:Res} (hx:x∈Ls) {b:Nat} (hb:x.foot=some b):Ly G Ls w b=w.heap[b]?:=by
 unfold Ly;rw [if_pos ⟨x,hx,hb⟩]
theorem Mem.lend (M:Mem w0 G (Ls++L) w):Gle G (Ly G Ls w)∧Mem w0 (Ly G Ls w) L w:=by
 have hfree:∀ r,(∃ x∈Ls,x.foot=some r)→G r=none:=fun r ⟨x,hx,hb⟩=>M.free x (List.mem_append_left _ hx) r hb;refine ⟨fun r o hr=>?_,⟨M.os,M.tape,M.output,M.grow,fun r o hr=>?_,fun x hx=>M.own x (List.mem_append_right _ hx),fun x hx b hb=>?_,(List.pairwise_append.1 M.apart).2.1⟩⟩
 ·unfold Ly
  by_cases h:∃ x∈Ls,x.foot=some r
  ·rw [hfree r h] at hr;cases hr
  rw [if_neg h];exact hr
 ·unfold Ly at hr
  by_cases h:∃ x∈Ls,x.foot=some r
  ·rw [if_pos h] at hr;exact hr
  rw [if_neg h] at hr;exact M.pers r o hr
 unfold Ly;rw [if_neg]
 ·exact M.free x (List.mem_append_right _ hx) b hb
 rintro ⟨y,hy,hyb⟩
 exact (List.pairwise_append.1 M.apart).2.2 y hy x hx b hyb hb
theorem Mem.back {w':World} (M:Mem w0 G (Ls++L) w) (M':Mem w0 (Ly G Ls w) L w'):Mem w0 G (Ls++L) w':=by
 have hle:=M.lend.1;refine ⟨M'.os,M'.tape,M'.output,M'.grow,fun r o hr=>M'.pers r o (hle r o hr),fun x hx=>?_,M.free,M.apart⟩
 rcases List.mem_append.1 hx with hx | hx
 ·refine Res.holds_of (M.own x (List.mem_append_left _ hx)) fun b hb=>?_;have hlt:=Res.foot_lt (M.own x (List.mem_append_left _ hx)) hb;have h1:Ly G Ls w b=some w.heap[b]:=by rw [T7 hx hb];exact Array.getElem?_eq_getElem hlt
  rw [M'.pers b _ h1,Array.getElem?_eq_getElem hlt]
 exact M'.own x hx
theorem Ra {α:Type} {rd:Rd α} {sz:Nat} {a:Option Addr} {c:Nat} {cs:List Value} {t:TypeId} {xs:List α} (M:Mem w0 G (Ls++L) w) (hx:Res.row (.slice a xs.length c) xs.length cs t sz∈Ls) (hE:Els rd sz (Ly G Ls w) cs xs) (hs:0 < sz) :
  A8 rd sz (Ly G Ls w) (.slice a xs.length c) xs:=by
 obtain ⟨⟨hl,h2⟩,h1⟩:=M.own _ (List.mem_append_left L hx)
 rcases h2 with ⟨h,h0⟩ | ⟨g,cap,cur,hv,_,hg,hnc,hcm,hcs,htake⟩
 ·have:xs=[]:=List.eq_nil_of_length_eq_zero h0;subst this;simp only [Value.slice.injEq] at h;obtain ⟨rfl,_,rfl⟩:=h
  exact A8.nil
 simp only [Value.slice.injEq,true_and] at hv;obtain ⟨rfl,rfl⟩:=hv;refine A8.of_cells (cs:=cs) hE h1 ?_ hnc (by simpa [maxLen] using hcm);intro j u hj;have hj':j < xs.length * sz:=by
  rw [← hl]
  rcases Nat.lt_or_ge j cs.length with h' | h'
  ·exact h'
  simp [List.getElem?_eq_none h'] at hj
 rw [← htake,List.getElem?_take,if_pos hj'] at hj;have h9:Ly G Ls w g=some (.cells cur t (0,0)):=by rw [T7 hx rfl];exact hg
 simp only [E7,h9,Nat.zero_add]
 simpa using hj
end
end Go.Y
