/- Rules: a range over a function: the loop's record and the block for its rounds' deferred calls are resources like any other. · The walks, part R. · The walks, part V. · The walks, part L. · The walks, part W. · More of the types and functions that the walks name. · The walks, part LA. · The walks, part LB. · Lists: what the operations hand back. · The walks, part LC. · The walks, part LD. · Any number of owned things lent for a while, and taken back. -/
import Derived.Test.YtmmhmcplegpenaaGreatDoorJ7
import Derived.RangeFuncLeaves
import Derived.RangeFuncSeq
import Derived.RangeFuncCalls
import Derived.Test.YtmmhmcplegpenaaGreatDoorJ1
import Derived.Test.YtmmhmcplegpenaaGreatDoorJ4
namespace Go.Y
open Go
set_option linter.unusedSimpArgs false
set_option linter.unusedVariables false
section
variable {P:Program} {ops:Array Oper} {Q:Exit→Act→World→Prop} {w0 w:World} {G:A4} {L:List Res} {n d:Nat} {a:Act} {e:Env} {t:TypeId} {p:String} {af:Array Edge} {r:List Oper}
abbrev Rnd (l:Nat):Fence:=Fence.wide.inRound l
def Q9 (o:Oper):Bool:=match o.op with | .defer _=>false | _=>true
theorem Abx {l m:Nat} {o:Oper} {next next':Act→World→Prop} (hnd:Q9 o=true) (h:o.wp P a w next Q) (hn:∀ a w,next a w→next' a w):o.wpIn (Rnd l) m P a w next' Q:=by
 refine ⟨fun _ _=>trivial,?_⟩
 have hnd':∀ c,o.op≠.defer c:=fun c hc=>by simp [Q9,hc] at hnd
 rw [show (Rnd l).round=some l from rfl,Oper.semAt_some l _ _ hnd']
 unfold Oper.wp at h
 have hdep:(Rnd l).depth.isSome=true→1≤m:=fun h=>by cases h
 generalize (execOp a.eval o).run P w=res at h
 cases res with
 | ok nx w' =>
  cases nx with
  | value v=>exact hn _ _ h
  | skip=>exact hn _ _ h
  | defer d=>exact hn _ _ h
  | enter f args =>
   refine ⟨hdep,CallsIn.inRound l (callsIn_wide.2 (Calls.mono h fun x w'' hx=>?_))⟩
   cases x with
   | returned v=>exact hn _ _ hx
   | panicked c=>exact hx
   | outgrown=>exact hx
  | row row args =>
   exact ⟨hdep,fun c cs _=>let ⟨v,w'',r',s⟩:=h c cs;⟨v,w'',hn _ _ r',stepsIn_wide.2 s⟩⟩
  | _=>exact h.elim
 | halt x w' =>
  cases x with
  | panic v=>exact h
  | _=>exact h.elim
theorem Ik {l m:Nat}:∀ (is:List Nat) (a:Act) (w:World),(∀ (i:Nat) (o:Oper),ops[i]?=some o→Q9 o=true)→rl P ops Q (is.filterMap (ops[·]?)) a w→wpOpsIn (Rnd l) m P ops Q is a w
 | [],a,w,_,h=>h
 | i::is,a,w,hnd,h=>by
  cases ho:ops[i]? with
  | none =>
   simp only [wpOpsIn,ho]
   simp only [List.filterMap_cons,ho] at h
   exact Ik is a w hnd h
  | some o =>
   simp only [wpOpsIn,ho]
   simp only [List.filterMap_cons,ho,rl] at h
   by_cases hw:Region.wanted o (yielded ops a.tmps)=true
   ·simp only [hw,if_true]
    exact Abx (hnd i o ho) (h.1 hw) (fun a w=>Ik is a w hnd)
   ·simp only [hw]
    exact ⟨fun _ _=>trivial,Ik is _ _ hnd (h.2 (by simpa using hw))⟩
/-- A region in a round. -/
theorem I4 {l m id:Nat} {os:List Oper} (hnd:os.all Q9=true) (h:rl P os.toArray Q os a w):(Code.region id os.toArray false).wpIn (Rnd l) m P Q a w :=
 wpIn_region (Ik _ a w (fun i o ho=>List.all_eq_true.1 hnd o (by simpa using List.mem_of_getElem? (by simpa using ho))) (by rw [Iz];simpa using h))
theorem Og {Fe:Fence} {m:Nat} {c:Operand} {x y:Code} {t:Bool} (F:Fits n a e) (hc:ev e c=some (.bool t)) (ht:t=true→x.wpIn Fe m P Q a w) (hf:t=false→y.wpIn Fe m P Q a w):(Code.cond c x y).wpIn Fe m P Q a w :=
 wpIn_cond_split (F.ev hc) ht hf
theorem Ri {Fe:Fence} {m:Nat} {c:Operand} {x y:Code} {t:Bool} (F:Fits n a e) (hc:ev e c=some (.bool t)) (ht:t=true) (k:x.wpIn Fe m P Q a w):(Code.cond c x y).wpIn Fe m P Q a w :=
 wpIn_cond_split (F.ev hc) (fun _=>k) (fun h=>by rw [ht] at h;cases h)
theorem Aal {Fe:Fence} {m:Nat} {c:Operand} {x y:Code} {t:Bool} (F:Fits n a e) (hc:ev e c=some (.bool t)) (ht:t=false) (k:y.wpIn Fe m P Q a w):(Code.cond c x y).wpIn Fe m P Q a w :=
 wpIn_cond_split (F.ev hc) (fun h=>by rw [ht] at h;cases h) (fun _=>k)
theorem Aid {Fe:Fence} {m:Nat} {c:Code} (I:Nat→Act→World→Prop) (m0:Nat) (h0:I m0 a w)
  (round:∀ k a w,I k a w→c.wpIn Fe m P (Exit.then (fun a' w'=>∃ k',k' < k∧I k' a' w') Q) a w):(Code.loop c).wpIn Fe m P Q a w:=by
 classical
 have ex:∀ a w,(∃ k,I k a w)→∃ k,I k a w∧∀ j,I j a w→k≤j:=by
  intro a w ⟨k,hk⟩
  induction k using Nat.strongRecOn with
  | _ k ih =>
   by_cases h:∃ j,j < k∧I j a w
   ·obtain ⟨j,h1,h2⟩:=h;exact ih j h1 h2
   ·exact ⟨k,hk,fun j hj=>Nat.le_of_not_lt fun hlt=>h ⟨j,hlt,hj⟩⟩
 refine wpIn_loop (fun a w=>∃ k,I k a w) (fun a w=>if h:∃ k,I k a w then Classical.choose (ex a w h) else 0) ⟨m0,h0⟩ fun a w hI=>?_
 have hc:=Classical.choose_spec (ex a w hI)
 refine wpIn_mono (round _ a w hc.1) fun x a' w' hq=>?_
 cases x with
 | normal =>
  obtain ⟨k',hk',hI'⟩:=hq
  have hex:∃ k,I k a' w':=⟨k',hI'⟩
  refine ⟨hex,?_⟩
  rw [dif_pos hI,dif_pos hex]
  exact Nat.lt_of_le_of_lt ((Classical.choose_spec (ex a' w' hex)).2 k' hI') hk'
 | _=>exact hq
/-! ### The iterator's side: a region that calls yield -/
def rlW (P:Program) (m:Nat) (ops:Array Oper) (Q:Exit→Act→World→Prop):List Oper→Act→World→Prop
 | [],a,w=>Q .normal a w
 | o::r,a,w =>
  (Region.wanted o (yielded ops a.tmps)=true→o.wpIn Fence.wide m P a w (rlW P m ops Q r) Q) ∧
  (Region.wanted o (yielded ops a.tmps)=false→rlW P m ops Q r (a.put o.dst undef) w)
theorem Ed {m:Nat}:∀ (is:List Nat) (a:Act) (w:World),rlW P m ops Q (is.filterMap (ops[·]?)) a w→wpOpsIn Fence.wide m P ops Q is a w
 | [],a,w,h=>h
 | i::is,a,w,h=>by
  cases ho:ops[i]? with
  | none =>
   simp only [wpOpsIn,ho]
   simp only [List.filterMap_cons,ho] at h
   exact Ed is a w h
  | some o =>
   simp only [wpOpsIn,ho]
   simp only [List.filterMap_cons,ho,rlW] at h
   by_cases hw:Region.wanted o (yielded ops a.tmps)=true
   ·simp only [hw,if_true]
    have h1:=h.1 hw
    refine ⟨h1.1,?_⟩
    have h2:=h1.2
    generalize (Oper.semAt Fence.wide.round a.eval o).run P w=res at h2 ⊢
    cases res with
    | ok nx w' =>
     cases nx with
     | value v=>exact Ed is _ _ h2
     | skip=>exact Ed is _ _ h2
     | defer d=>exact Ed is _ _ h2
     | enter f args =>
      refine ⟨h2.1,CallsIn.mono h2.2 fun x w'' hx=>?_⟩
      cases x with
      | returned v=>exact Ed is _ _ hx
      | panicked c=>exact hx
      | outgrown=>exact hx
     | row row args=>exact ⟨h2.1,RowsIn.mono h2.2 fun v w'' hx=>Ed is _ _ hx⟩
     | round l f tmps assign body =>
      refine ⟨h2.1,RoundIn.mono h2.2 fun x w'' hx=>?_⟩
      cases x with
      | returned v=>exact Ed is _ _ hx
      | panicked c=>exact hx
      | outgrown=>exact hx
     | _=>exact h2
    | halt x w' =>
     cases x with
     | panic v=>exact h2
     | _=>exact h2
   ·simp only [hw]
    exact ⟨fun _ _=>trivial,Ed is _ _ (h.2 (by simpa using hw))⟩
theorem w_regW {m id:Nat} {os:List Oper} (h:rlW P m os.toArray Q os a w):(Code.region id os.toArray false).wpIn Fence.wide m P Q a w :=
 wpIn_region (Ed _ a w (by rw [Iz];simpa using h))
theorem W3 {m:Nat} {op:Op} {v:Value} {w':World} (F:Fits n a e) (hr:(execOp a.eval ⟨some d,op,t,p,af,none⟩).run P w=.ok (.value v) w') (hd:Nat.ble (d+1) n=true)
  (k:∀ a',Fits n a' ((d,v)::e)→rlW P m ops Q r a' w'):rlW P m ops Q (⟨some d,op,t,p,af,none⟩::r) a w:=by
 refine ⟨fun _=>⟨fun _ _=>trivial,?_⟩,fun h=>by simp [Region.wanted] at h⟩
 show Oper.uponIn _ _ _ _ _ _ _ ((execOp a.eval ⟨some d,op,t,p,af,none⟩).run P w)
 rw [hr]
 exact k _ (F.put hd)
theorem Afp {m l:Nat} {cal:Operand} {args:List Operand} {ats:Array TypeId} {vs:List Value} {R:Ending→World→Prop} (F:Fits n a e) (hc:ev e cal=some (.func (.yield l) #[] #[])) (hv:evs e args=some vs) (hd:Nat.ble (d+1) n=true)
  (hy:YieldAt Fence.wide (m - 1) P l vs.toArray w R) (k:∀ x w',R x w'→∃ b,x=.returned (.bool b)∧∀ a',Fits n a' ((d,.bool b)::e)→rlW P m ops Q r a' w') :
  rlW P m ops Q (⟨some d,.call ⟨.value cal,args.toArray,ats⟩,t,p,af,none⟩::r) a w:=by
 refine ⟨fun _=>⟨fun _ _=>trivial,?_⟩,fun h=>by simp [Region.wanted] at h⟩
 obtain ⟨fn,tmps,assign,body,h1,h2⟩:=hy
 have hr:(execOp a.eval ⟨some d,.call ⟨.value cal,args.toArray,ats⟩,t,p,af,none⟩).run P w=.ok (.round l fn tmps assign body) w:=by
  have h3:=F.ev hc
  have h4:=F.evs hv
  simp only [execOp,resolve,h3,Deferred.ofValue,Sem.run_bind,Sem.run_pure,Result.andThen_ok,invoke]
  rw [show (#[]++Array.map a.eval args.toArray)=vs.toArray by simp [← h4]]
  exact h1
 show Oper.uponIn _ _ _ _ _ _ _ ((execOp a.eval ⟨some d,.call ⟨.value cal,args.toArray,ats⟩,t,p,af,none⟩).run P w)
 rw [hr]
 refine ⟨(fun h=>by cases h),RoundIn.mono h2 fun x w' hx=>?_⟩
 obtain ⟨b,rfl,hk⟩:=k x w' hx
 exact hk _ (F.put hd)
/-- The same frame, with deferred calls. -/
def Ko (ds:List Deferred) (a:Act):Act:={ a with defers:=a.defers++ds }
theorem T4 (ds:List Deferred) (a:Act) (d:Option Tmp) (v:Value):(Ko ds a).put d v=Ko ds (a.put d v):=by cases d <;> rfl
theorem Wz {Q:Exit→Act→World→Prop} {ds:List Deferred}:∀ (l:List Oper) (a:Act) (w:World),rl P ops (fun e a w=>Q e (Ko ds a) w) l a w→rl P ops Q l (Ko ds a) w
 | [],a,w,h=>h
 | o::l,a,w,h=>by
  refine ⟨fun hw=>?_,fun hw=>?_⟩
  ·have h1:=Oper.wp_mono (fun a w=>Wz (Q:=Q) (ds:=ds) l a w) (h.1 hw)
   unfold Oper.wp at h1 ⊢
   rw [show (Ko ds a).eval=a.eval from rfl]
   generalize (execOp a.eval o).run P w=r at h1 ⊢
   cases r with
   | ok nx w' =>
    cases nx <;> simp only [Oper.upon,T4] at h1 ⊢
    case value u=>exact h1
    case skip=>exact h1
    case defer d=>rw [show ({ tmps:=(Ko ds a).tmps,defers:=d::(Ko ds a).defers }:Act)=Ko ds { tmps:=a.tmps,defers:=d::a.defers } from rfl,T4];exact h1
    case enter f args =>
     refine Calls.mono h1 fun e w'' he=>?_
     cases e with
     | returned u=>exact he
     | panicked c=>exact he
     | outgrown=>obtain ⟨a0,w0,h0⟩:=he;exact ⟨_,w0,h0⟩
    case row row args=>exact h1
   | halt x w'=>cases x <;> simp only [Oper.upon] at h1 ⊢ <;> exact h1
  ·rw [T4];exact Wz l _ _ (h.2 hw)
/-! ### The statement -/
abbrev W0:Fence:=Fence.wide
theorem Nn {m id:Nat} {os:List Oper} (h:rl P os.toArray Q os a w):(Code.region id os.toArray false).wpIn W0 m P Q a w:=wpIn_wide.2 (Aic h)
theorem w_regXD {m id:Nat} {ds:List Deferred} {os:List Oper} (h:rl P os.toArray (fun e a w=>Q e (Ko ds a) w) os a w):(Code.region id os.toArray false).wpIn W0 m P Q (Ko ds a) w:=wpIn_wide.2 (Aic (Wz _ _ _ h))
theorem Pa {R:Ending→World→Prop} {f:FuncId} {fn:Func} {c:Code} {vs:List Value} (hf:P.funcs[f]?=some fn) (hb:fn.body=some c) {n:Nat} (hn:fn.ntmps=n) (hs:Nat.ble vs.length n=true)
  (h:∀ a,Fits n a (Qx 0 vs)→c.wpIn W0 0 P (bodyPostM W0 0 P fn R) a w):Calls P f vs.toArray w R:=by
 have hs':=Nat.le_of_ble_eq_true hs
 refine (callsIn_wide (n:=0)).1 (callsIn_of_wp_marks hf hb trivial (h _ ⟨by simp [hn];omega,rfl,?_⟩))
 intro i v hi
 obtain ⟨_,h2⟩:=N1 vs 0 i v hi
 have hlt:i < vs.length:=by
  rcases Nat.lt_or_ge i vs.length with h' | h'
  ·exact h'
  ·simp [List.getElem?_eq_none h'] at h2
 simp only [Nat.sub_zero] at h2
 rw [Array.getElem?_append_left (by simpa using hlt)]
 simpa using h2
/-- The record of a loop. -/
def Lj (a:Act) (ps:Array Tmp) (assign body:Code) (fn D:Nat) (st:LoopState) (pe:Option Code):Loop:={ state:=st,pending:=pe,fn,tmps:=a.tmps,params:=ps,assign,body,defers:=D }
def Nk (D:Nat):Deferred:={ target:=.collected D,args:=#[] }
theorem Rb {b:Nat} {o o':Obj} {w':World} (M:Mem w0 G (.obj b o::L) w) (h:w' = w.putObj b o'):Mem w0 G (.obj b o'::L) w':=by
 subst h
 have hb:w.heap[b]?=some o:=M.own (.obj b o) (by simp)
 exact M.swap_head (y:=.obj b o') rfl (World.putObj_heap_same (Array.getElem?_eq_some_iff.1 hb).1) rfl rfl rfl (by simp) (fun b' hne=>World.putObj_heap_other (fun e=>hne (by rw [e];rfl)))
theorem Wh {g:Operand} {ps:Array Tmp} {assign body:Code} {gf m:Nat} {lb:List Value} (F:Fits n a e) (M:Mem w0 G L w) (hg:ev e g=some (.func (.func gf) #[] lb.toArray)) (hE:Ent P gf)
  (h:∀ fn l D W,Mem w0 G (.obj l (.loop (Lj a ps assign body fn D .ready none))::.obj D (.deferred (some []))::L) W →
   Calls P gf (#[.func (.yield l) #[] #[]]++lb.toArray) W fun x W'=>∃ v pe G2 L2 st,x=.returned v∧st≠LoopState.busy∧Gle G G2∧Mem w0 G2 (.obj l (.loop (Lj a ps assign body fn D st pe))::.obj D (.deferred (some []))::L2) W' ∧
    ∀ W'',Mem w0 G2 (.obj D (.deferred (some []))::L2) W''→match pe with
     | none=>Q .normal (Ko [Nk D] a) W''
     | some c=>c.wpIn W0 m P Q (Ko [Nk D] a) W'') :
  (Code.rangeFunc g ps assign body).wpIn W0 m P Q a w:=by
 refine wpIn_rangeFunc ?_
 intro fn _
 have hd:Ko [Nk w.heap.size] a = { a with defers:=[{ target:=.collected w.heap.size,args:=#[] }]++a.defers }:=by unfold Ko Nk;rw [F.defers];rfl
 have M1:=(M.new (.deferred (some [])))
 have M2:=M1.new (.loop (Lj a ps assign body fn w.heap.size .ready none))
 have hsz:(({ w with heap:=w.heap.push (.deferred (some [])) }:World)).heap.size=w.heap.size+1:=by simp
 rw [hsz] at M2
 have hen:=run_enterLoop_outer (P:=P) (w:=w) fn a.tmps ps assign body
 have hg':=F.ev hg
 obtain ⟨W1,hW1⟩:∃ W1,(w.alloc (.deferred (some []))).alloc (.loop (Lj a ps assign body fn w.heap.size .ready none))=W1:=⟨_,rfl⟩
 have hen':(Instr.enterLoop fn a.tmps ps assign body none).run P w=.ok (w.heap.size+1,[{ target:=.collected w.heap.size,args:=#[] }]) W1:=by rw [hen,← hW1];rfl
 have M3:Mem w0 G (.obj (w.heap.size+1) (.loop (Lj a ps assign body fn w.heap.size .ready none))::.obj w.heap.size (.deferred (some []))::L) W1:=by rw [← hW1];exact M2
 clear hen M1 M2 hsz hW1
 have hin:=Pl (P:=P) (w:=W1) (args:=#[.func (.yield (w.heap.size+1)) #[] #[]]++lb.toArray) hE
 refine ⟨w.heap.size+1,[{ target:=.collected w.heap.size,args:=#[] }],W1,{ target:=.fn (.func gf) lb.toArray,args:=#[.func (.yield (w.heap.size+1)) #[] #[]] },W1,gf,#[.func (.yield (w.heap.size+1)) #[] #[]]++lb.toArray,W1,hen',?_,fun _ _=>trivial,?_,(fun h=>by cases h),?_⟩
 ·simp only [resolve,rangeCall,hg']
  simp [go_sem]
 ·simp only [invoke]
  exact hin
 ·refine callsIn_wide.2 (Calls.mono (h fn _ _ _ M3) ?_)
  rintro x W' ⟨v,pe,G2,L2,st,rfl,hst,hG,M4,hk⟩
  have hb:W'.heap[w.heap.size+1]?=some (.loop (Lj a ps assign body fn w.heap.size st pe)):=M4.own (.obj (w.heap.size+1) (.loop (Lj a ps assign body fn w.heap.size st pe))) (by simp)
  have M5:=(Rb (o':=.loop { Lj a ps assign body fn w.heap.size st pe with state:=.exhausted }) M4 rfl).weaken (List.sublist_cons_self _ _)
  have hk2:=hk _ M5
  rw [hd] at hk2
  exact ⟨pe,_,run_endLoop hb hst,by cases pe with
   | none=>exact hk2
   | some c=>exact hk2⟩
/-- A round of a loop with two variables. -/
theorem yield2 {l m fn D i j:Nat} {v1 v2:Value} {assign body:Code} {e0:Env} {a0:Act} {R:Ending→World→Prop} (F:Fits n a0 e0) (hi:Nat.ble (i+1) n=true) (hj:Nat.ble (j+1) n=true)
  (M:Mem w0 G (.obj l (.loop (Lj a0 #[i,j] assign body fn D .ready none))::L) w)
  (h:∀ a1,Fits n a1 ((j,v2)::(i,v1)::e0)→assign.wpIn (Rnd l) m P (Exit.then (fun a2 w2=>∀ W2,Mem w0 G (.obj l (.loop (Lj a0 #[i,j] assign body fn D .busy none))::L) W2→w2=w∧body.wpIn (Rnd l) m P (roundPost P l R) a2 W2) (fun _ _ _=>False)) a1 w) :
  YieldAt W0 m P l #[v1,v2] w R:=by
 have hb:w.heap[l]?=some (.loop (Lj a0 #[i,j] assign body fn D .ready none)):=M.own (.obj l (.loop (Lj a0 #[i,j] assign body fn D .ready none))) (by simp)
 have hz:((#[i,j]:Array Tmp).zip #[v1,v2]).foldl (fun t (x:Tmp × Value)=>t.setIfInBounds x.1 x.2) a0.tmps=(a0.tmps.setIfInBounds i v1).setIfInBounds j v2:=by simp
 have hy:=run_yield (P:=P) (args:=#[v1,v2]) hb rfl
 have hy2:(Instr.yield l #[v1,v2]).run P w=.ok (.round l fn ((a0.tmps.setIfInBounds i v1).setIfInBounds j v2) assign body) w:=by rw [← hz];exact hy
 refine ⟨fn,_,assign,body,hy2,roundIn_of_wpIn trivial (wpIn_mono (h _ ?_) ?_)⟩
 ·have F2:=(F.put (v:=v1) hi).put (v:=v2) hj
  exact ⟨F2.size,rfl,F2.slot⟩
 ·intro x a2 w2 hq
  cases x with
  | normal =>
   have M2:=Rb (o':=.loop (Lj a0 #[i,j] assign body fn D .busy none)) M rfl
   obtain ⟨rfl,hq2⟩:=hq _ M2
   exact ⟨_,run_beginRound hb rfl,hq2⟩
  | _=>exact hq
theorem Mp {l fn D:Nat} {ps:Array Tmp} {assign body:Code} {a0:Act} (jump:Option Code) (M:Mem w0 G (.obj l (.loop (Lj a0 ps assign body fn D .busy none))::L) w) :
  ∃ w',(Instr.endRound l jump).run P w=.ok (.bool jump.isNone) w'∧Mem w0 G (.obj l (.loop (Lj a0 ps assign body fn D (if jump.isNone then .ready else .done) jump))::L) w' :=
 ⟨_,run_endRound jump (M.own (.obj l (.loop (Lj a0 ps assign body fn D .busy none))) (by simp)),Rb M rfl⟩
/-- Three results, each in a cell; behind a range over a function, and without one. -/
theorem W4 {fn:Func} {e0:Env} {t u s ty1 ty2 ty3 k1 k2 k3 b1 b2 b3:Nat} {x y z:Value} (F:Fits n a e0) (M:Mem w0 G L w) (hk1:L[k1]?=some (.blk b1 [x] ty1)) (hk2:L[k2]?=some (.blk b2 [y] ty2)) (hk3:L[k3]?=some (.blk b3 [z] ty3))
  (hf:fn.results = #[.cell t ty1,.cell u ty2,.cell s ty3]) (h1:(tk P ty1).agg=some false) (h2:(tk P ty2).agg=some false) (h3:(tk P ty3).agg=some false)
  (hv1:look e0 t=some (.pointer (some ⟨b1,0,none⟩))) (hv2:look e0 u=some (.pointer (some ⟨b2,0,none⟩))) (hv3:look e0 s=some (.pointer (some ⟨b3,0,none⟩))) :
  (results fn a.tmps).run P w=.ok (.tuple #[x,y,z]) w:=by
 have l1:(loadVar ty1 ⟨b1,0,none⟩).run P w=.ok x w:=Gq h1 (M.cellL hk1 rfl)
 have l2:(loadVar ty2 ⟨b2,0,none⟩).run P w=.ok y w:=Gq h2 (M.cellL hk2 rfl)
 have l3:(loadVar ty3 ⟨b3,0,none⟩).run P w=.ok z w:=Gq h3 (M.cellL hk3 rfl)
 simp [results,hf,F.slot _ _ hv1,F.slot _ _ hv2,F.slot _ _ hv3,asAddr,l1,l2,l3]
theorem finM {fn:Func} {R:Ending→World→Prop} {e0:Env} {v:Value} (F:Fits n a e0) (hr:(results fn a.tmps).run P w=.ok v w) (h:R (.returned v) w):bodyPostM W0 0 P fn R .ret a w:=by
 show LeavesInM _ _ _ _ _ _ a.defers _ _
 rw [F.defers]
 exact ⟨v,hr,h⟩
theorem finMD {fn:Func} {R:Ending→World→Prop} {e0:Env} {v:Value} {D:Nat} (F:Fits n a e0) (M:Mem w0 G (.obj D (.deferred (some []))::L) w) (hr:∀ w',Mem w0 G L w'→(results fn a.tmps).run P w' = .ok v w') (h:∀ w',Mem w0 G L w'→R (.returned v) w'):bodyPostM W0 0 P fn R .ret (Ko [Nk D] a) w:=by
 show LeavesInM _ _ _ _ _ _ (Ko [Nk D] a).defers _ _
 rw [show (Ko [Nk D] a).defers=[Nk D] by unfold Ko;rw [F.defers];rfl]
 have M2:=(Rb (o':=.deferred none) M rfl).weaken (List.sublist_cons_self _ _)
 exact ⟨by simp,Or.inl ⟨D,_,rfl,run_takeDeferred (M.own (.obj D (.deferred (some []))) (by simp)),v,hr _ M2,h _ M2⟩⟩
theorem finMn {fn:Func} {R:Ending→World→Prop} {e0:Env} {v:Value} (F:Fits n a e0) (hr:(results fn a.tmps).run P w=.ok v w) (h:R (.returned v) w):bodyPostM W0 0 P fn R .normal a w:=finM F hr h
theorem Adk {m:Nat} (h:Q .normal a w):rlW P m ops Q [] a w:=h
theorem Wg {g:Operand} {ps:Array Tmp} {assign body:Code} {gf m:Nat} {lb:List Value} (F:Fits n a e) (M:Mem w0 G L w) (hg:ev e g=some (.func (.func gf) #[] lb.toArray)) (hE:Ent P gf)
  (h:∀ fn l D (Rc:LoopState→Option Code→Res) W,(∀ st pe,Rc st pe=.obj l (.loop (Lj a ps assign body fn D st pe)))→Mem w0 G (Rc .ready none::.obj D (.deferred (some []))::L) W →
   Calls P gf (#[.func (.yield l) #[] #[]]++lb.toArray) W fun x W'=>∃ v pe G2 L2 st,x=.returned v∧st≠LoopState.busy∧Gle G G2∧Mem w0 G2 (Rc st pe::.obj D (.deferred (some []))::L2) W' ∧
    ∀ W'',Mem w0 G2 (.obj D (.deferred (some []))::L2) W''→match pe with
     | none=>Q .normal (Ko [Nk D] a) W''
     | some c=>c.wpIn W0 m P Q (Ko [Nk D] a) W'') :
  (Code.rangeFunc g ps assign body).wpIn W0 m P Q a w :=
 Wh F M hg hE fun fn l D W M'=>h fn l D (fun st pe=>.obj l (.loop (Lj a ps assign body fn D st pe))) W (fun _ _=>rfl) M'
end
end Go.Y
namespace Go.Proofs.YtmmhmcplegpenaaGreatDoor
open Go Go.Y Go.Proofs
variable {w0 w:World} {G:A4} {L:List Res}
set_option linter.unusedSimpArgs false
set_option linter.unusedVariables false
theorem cut_lt9 {s:List UInt8} (h:¬ s=[]):(Lib.cut s [10]).2.1.length < s.length:=by
 have h0:=List.length_pos_iff.2 h
 rw [K9]
 split
 ·simp only [List.length_drop];omega
 ·simpa using h0
theorem Zk {w0:World} {Rc:LoopState→Option Code→Res} {DD:Res} {l sb:Nat} {J:List UInt8→A4→List Res→Prop} {Jx:Code→A4→List Res→Prop}
  (hy:∀ (c:List UInt8) (G:A4) (L:List Res) (W:World),Globs 0 1 2 3 G→¬ c=[]→c.length≤1048576→J c G L→Mem w0 G (Rc .ready none::DD::.blk sb [.string (str c)] 9::L) W →
   YieldAt W0 0 Tryz.prog l #[.string (str (Lib.cut c [10]).1),.bool (Lib.cut c [10]).2.2] W fun x W' =>
    (x=.returned (.bool true)∧∃ G2 L2,Gle G G2∧Mem w0 G2 (Rc .ready none::DD::.blk sb [.string (str c)] 9::L2) W'∧J (Lib.cut c [10]).2.1 G2 L2) ∨
    (x=.returned (.bool false)∧∃ pe G2 L2,Gle G G2∧Mem w0 G2 (Rc .done (some pe)::DD::.blk sb [.string (str c)] 9::L2) W'∧Jx pe G2 L2))
  {w:World} {G:A4} {L:List Res} {c0:List UInt8} (HG:Globs 0 1 2 3 G) (hc:c0.length≤1048576) (hJ0:J c0 G L) (M:Mem w0 G (Rc .ready none::DD::.blk sb [.string (str c0)] 9::L) w) :
  Calls Tryz.prog 99 #[.func (.yield l) #[] #[],.pointer (some ⟨sb,0,none⟩)] w fun x W'=>∃ v,x=.returned v ∧
   ((∃ G2 L2 c2,Gle G G2∧Mem w0 G2 (Rc .ready none::DD::.blk sb [.string (str c2)] 9::L2) W'∧J [] G2 L2)∨(∃ pe G2 L2 c2,Gle G G2∧Mem w0 G2 (Rc .done (some pe)::DD::.blk sb [.string (str c2)] 9::L2) W'∧Jx pe G2 L2)):=by
 refine Pa (vs:=[_,_]) Tryz.func99 rfl (n:=20) rfl rfl ?_
 intro a F
 refine wpIn_block<|Aid (fun m a' w'=>∃ (c:List UInt8),∃ (Lq:List Res),m=c.length∧∃ G1,Gle G G1∧Fits 20 a' [(0,.func (.yield l) #[] #[]),(1,.pointer (some ⟨sb,0,none⟩))]∧Mem w0 G1 ((Rc .ready none)::DD::.blk sb [.string (str c)] 9::Lq) w'∧(c.length≤1048576)∧(J c G1 Lq)) _ ⟨c0,L,rfl,G,Gle.refl _,F.to ⟨rfl,rfl,trivial⟩,M,hc,hJ0⟩ ?_
 clear F M
 rintro m a w ⟨c,Lq,rfl,G1,hG1,F,M,hcl,hJ⟩
 replace HG:=HG.mono hG1
 iterate 2 (refine wpIn_seq ?_)
 refine Nn<|Bs F (Aq (agf Bq rfl) (F.ev rfl) (M.cellL (k:=2) rfl rfl)) rfl ?_;clear F a;intro a F
 refine Bs F (Jd (F.ev rfl) (F.ev rfl)) rfl ?_;clear F a;intro a F
 refine Gd<|I0<|Og F rfl ?_ ?_
 ·intro h2b
  have h2:=dF (Ag h2b)
  have h2c:(decide (c=([]:List UInt8)))=false:=(Ag h2b)
  refine wpIn_skip<|I0<|wpIn_block<|wpIn_seq<|Nn<|Bs F (Aq (agf Bq rfl) (F.ev rfl) (M.cellL (k:=2) rfl rfl)) rfl ?_;clear F a;intro a F
  refine Yp F Ts rfl rfl (Mg (s:=c) (sep:=([10]:List UInt8)) M HG (by omega)) ?_;clear F M a;rintro _ w a M rfl F
  have hclc3:=El 10 c
  refine Bs F (F9 (F.ev rfl)) rfl ?_;clear F a;intro a F
  refine Bs F (Cs (v:=.string (str ((Lib.cut c ([10]:List UInt8)).1))) (F.ev rfl) rfl) rfl ?_;clear F a;intro a F
  refine Bs F (Cs (v:=.string (str ((Lib.cut c ([10]:List UInt8)).2.1))) (F.ev rfl) rfl) rfl ?_;clear F a;intro a F
  refine Bs F (Cs (v:=.bool ((Lib.cut c ([10]:List UInt8)).2.2)) (F.ev rfl) rfl) rfl ?_;clear F a;intro a F
  iterate 3 (refine Bs F (H9 (F.ev rfl)) rfl ?_;clear F a;intro a F)
  refine Gd<|I0 ?_
  iterate 2 (refine wpIn_seq ?_)
  refine w_regW ?_
  iterate 3 (refine W3 F (F9 (F.ev rfl)) rfl ?_;clear F a;intro a F)
  refine Afp (m:=0) (vs:=[.string (str ((Lib.cut c ([10]:List UInt8)).1)),.bool ((Lib.cut c ([10]:List UInt8)).2.2)]) F rfl rfl rfl (hy _ _ _ _ HG (by assumption) hcl hJ M) ?_;clear F M a
  rintro x w (⟨rfl,G9,L9,hG9,M,hJ9⟩ | ⟨rfl,pe9,G9,L9,hG9,M,hJx9⟩)
  ·skip
   refine ⟨true,rfl,fun a F=>?_⟩
   replace HG:=HG.mono hG9
   refine W3 F (Gn (F.ev rfl)) rfl ?_;clear F a;intro a F
   refine Adk<|I0<|Aal F rfl rfl ?_
   refine wpIn_skip<|I0<|Nn<|Bs F (F9 (F.ev rfl)) rfl ?_;clear F a;intro a F
   refine Dm F M Bq rfl (k:=2) rfl rfl rfl rfl rfl ?_;clear F M a;intro w a M F
   refine Gd<|q_bn<|I0 ?_
   exact ⟨_,(by have h9_:=cut_lt9 (s:=c) (by assumption);omega),_,L9,rfl,G9,(hG1.trans hG9),F.to ⟨rfl,rfl,trivial⟩,M,by omega,hJ9⟩
  ·skip
   refine ⟨false,rfl,fun a F=>?_⟩
   replace HG:=HG.mono hG9
   refine W3 F (Gn (F.ev rfl)) rfl ?_;clear F a;intro a F
   refine Adk<|I0<|Ri F rfl rfl ?_
   refine wpIn_ret<|Abu<|Aga<|Abu<|Aga<|finM F (v:=.tuple #[]) (results_none rfl _ _ _) ?_
   exact ⟨_,rfl,Or.inr ⟨_,_,_,_,(hG1.trans hG9),M,hJx9⟩⟩
 ·intro h4b
  have h4:=dT (Ah h4b)
  have h4c:(decide (c=([]:List UInt8)))=true:=(Ah h4b)
  refine wpIn_exit ?_
  iterate 2 (refine q_te ?_)
  refine q_bh<|finMn F (v:=.tuple #[]) (results_none rfl _ _ _) ?_
  exact ⟨_,rfl,Or.inl ⟨_,_,_,hG1,M,by rw [← (show c=[] by assumption)];exact hJ⟩⟩
theorem Acg (M:Mem w0 G L w) {s:List UInt8}:Calls Tryz.prog 44 #[.string (str s)] w (J7 w0 G fun L' v=>∃ b:Nat,v=.func (.func 99) #[] #[.pointer (some ⟨b,0,none⟩)]∧L' = (.blk b [.string (str s)] 9::L)):=by
 refine Az (vs:=[_]) Tryz.func44 rfl (n:=4) rfl rfl<|Ab<|Ac<|C4 M rfl rfl rfl<|?_;clear M;intro b1 w M
 refine Af rfl<|Aa<|Ad<|Ab<|Ac<|Ap (fun a F=>Dk (vs:=#[.pointer (some ⟨b1,0,none⟩)]) (by simp only [List.map_toArray,List.map_cons,List.map_nil,F.ev (x:=.tmp 1) rfl])) rfl<|Af rfl<|Aa<|Ad<|Aj<|Al rfl rfl<|?_
 exact ⟨_,M,_,rfl,rfl⟩
theorem Abw (M:Mem w0 G L w) (HG:Globs 0 1 2 3 G) {s:List UInt8} (hs:s.length≤9223372036854775807):Calls Tryz.prog 12 #[.string (str s)] w (Ret w0 G L fun G' v=>∃ a:Option Addr,v=.tuple #[.slice a (D8 s).1.length (D8 s).1.length,.int .i64 (((D8 s).2.1:Nat):Int),.int .i64 (D8 s).2.2]∧Ay Cn 4 G' (.slice a (D8 s).1.length (D8 s).1.length) (D8 s).1):=by
 refine Pa (vs:=[_]) Tryz.func12 rfl (n:=42) rfl rfl ?_
 intro a F
 refine wpIn_seq<|Nn<|Lz F M B5 rfl rfl ?_;clear F M a;intro b1 w a M F
 refine Lz F M B7 rfl rfl ?_;clear F M a;intro b3 w a M F
 refine Lz F M Oi rfl rfl ?_;clear F M a;intro b5 w a M F
 refine Gd<|I0 ?_
 iterate 2 (refine wpIn_seq ?_)
 refine Nn<|Bs F (F9 (F.ev rfl)) rfl ?_;clear F a;intro a F
 refine Bs F (Cq Bq.k (F.ev rfl)) rfl ?_;clear F a;intro a F
 refine Bs F (Ky (F.ev rfl) (F.ev rfl)) rfl ?_;clear F a;intro a F
 refine Gd<|I0<|Og F rfl ?_ ?_
 ·intro h7b
  have h7:=dT h7b
  refine wpIn_seq<|Nn<|Dm F M B5 rfl (k:=2) rfl rfl rfl rfl rfl ?_;clear F M a;intro w a M F
  refine Dm F M B7 rfl (k:=1) rfl rfl rfl rfl rfl ?_;clear F M a;intro w a M F
  refine Dm F M Oi rfl (k:=0) rfl rfl rfl rfl rfl ?_;clear F M a;intro w a M F
  refine Gd<|I0<|wpIn_ret<|Abu<|finM F (W4 F M (k1:=2) (k2:=1) (k3:=0) rfl rfl rfl rfl (agf B5 rfl) (agf B7 rfl) (agf Oi rfl) rfl rfl rfl) ?_
  exact ⟨_,(Gle.refl _),M.weaken (.cons _ (.cons _ (.cons _ (sR _)))),by rw [Agg (by omega)];exact ⟨none,rfl,Ay.nil⟩⟩
 ·intro h8b
  have h8:=dF h8b
  refine wpIn_skip<|I0 ?_
  iterate 2 (refine wpIn_seq ?_)
  refine Nn<|Bs F (F9 (F.ev rfl)) rfl ?_;clear F a;intro a F
  refine Yq F ent44 rfl rfl (Acg (s:=s) M) ?_;clear F M a;rintro _ _ w a M ⟨bs9,rfl,rfl⟩ F
  refine Gd<|I0<|wpIn_block ?_
  replace M:=M.perm (Ao _ 3 _ rfl)
  change Mem w0 G (_::_::_::_::L) _ at M
  have M:=(M.nilrow 26 4).perm (List.Perm.swap _ _ _)
  replace M:=M.perm (Ao _ 1 _ rfl)
  replace M:=M.perm (Ao _ 3 _ rfl)
  replace M:=M.perm (Ao _ 4 _ rfl)
  replace M:=M.perm (Ao _ 3 _ rfl)
  replace M:=M.perm (Ao _ 4 _ rfl)
  change Mem w0 G (_::_::_::_::_::L) _ at M
  change Mem w0 G (.blk bs9 [.string (str s)] 9::.blk b1 [.slice none 0 0] 22::.blk b3 [.int .i64 0] 3::.blk b5 [.int .i64 0] 27::.row (.slice none 0 0) 0 ([]) 26 4::L) _ at M
  refine Wg F M rfl ent99 (fun fn l D Rc W hRc M2=>?_)
  clear M
  refine Calls.mono (Zk (Rc:=Rc) (DD:=.obj D (.deferred (some []))) (l:=l) (sb:=bs9) (J:=(fun c G' L'=>Gle G G'∧∃ (ar:Option Addr) (nr cr:Nat) (csr:List Value) (xs:List ItemD),L' = (.blk b1 [.slice ar nr cr] 22::.blk b3 [.int .i64 0] 3::.blk b5 [.int .i64 0] 27::.row (.slice ar nr cr) nr csr 26 4::L)∧Els Cn 4 G' csr xs∧nr=xs.length∧Qa s xs c)) (Jx:=(fun pe G' L'=>Gle G G'∧pe=Code.ret∧∃ (n:Nat) (e:Int),L' = (.blk b1 [.slice none 0 0] 22::.blk b3 [.int .i64 ((n:Nat):Int)] 3::.blk b5 [.int .i64 e] 27::L)∧D8 s=([],n,e))) ?_ HG (by omega) ⟨Gle.refl _,_,_,_,_,_,rfl,Els.nil,rfl,Qa.start (by omega)⟩ M2) ?_
  ·intro c Gc Lc Wc HGc hne hcl hJ M
   obtain ⟨hGc,ar,nr,cr,csr,xs,rfl,Er,hnr,hP⟩:=hJ
   subst hnr
   obtain ⟨f9,hf9,hp9,hx9,hok9⟩:=id hP
   rw [hRc] at M
   clear HG M2
   have HG:=HGc
   have hcl9:=El 10 c
   refine yield2 F rfl rfl M (fun a F=>?_)
   refine wpIn_seq<|I4 (by kernel_rfl) ?_
   refine Bs F (H9 (F.ev rfl)) rfl ?_;clear F;intro a F
   refine Gd<|I0<|I4 (by kernel_rfl) ?_
   refine Bs F (H9 (F.ev rfl)) rfl ?_;clear F;intro a F
   refine Gd<|I0 ?_
   intro W2 M3
   refine ⟨rfl,?_⟩
   clear M;have M:=M3;clear M3
   refine wpIn_block<|wpIn_seq<|I4 (by kernel_rfl) ?_
   refine Bs F (F9 (F.ev rfl)) rfl ?_;clear F;intro a F
   refine Wx F ent45 rfl rfl (Aha (s:=(Lib.cut c [10]).1) M HG (by omega)) ?_;clear F M;rintro _ Gk10 w a hGk10 M ⟨xk10,mak10,mck10,bk10,rfl,hIk10,SMk10,hyk10,hnk10⟩ F
   replace HG:=HG.mono hGk10
   replace Er:=Er.mono A0 hGk10
   refine Bs F (F9 (F.ev rfl)) rfl ?_;clear F;intro a F
   refine Bs F (Cs (v:=.agg #[.int .u64 ((xk10.key:Nat):Int),.int .u8 ((xk10.typ:Nat):Int),.string (str xk10.text),.slice mak10 xk10.marks.length mck10]) (F.ev rfl) rfl) rfl ?_;clear F;intro a F
   refine Bs F (Cs (v:=.bool bk10) (F.ev rfl) rfl) rfl ?_;clear F;intro a F
   refine Lz F M A1 rfl rfl ?_;clear F M;intro b11 w a M F
   refine Ar F M A1 (k:=0) rfl rfl rfl (us:=[.int .u64 ((xk10.key:Nat):Int),.int .u8 ((xk10.typ:Nat):Int),.string (str xk10.text),.slice mak10 xk10.marks.length mck10]) rfl rfl (by simp [Value.oneCell']) (by simp) ?_;clear F M;intro w a M F
   change Mem w0 Gk10 (.blk b11 [.int .u64 ((xk10.key:Nat):Int),.int .u8 ((xk10.typ:Nat):Int),.string (str xk10.text),.slice mak10 xk10.marks.length mck10] 26::_::_::_::_::_::_::_::L) _ at M
   refine Bs F (H9 (F.ev rfl)) rfl ?_;clear F;intro a F
   refine Gd<|I0 ?_
   iterate 2 (refine wpIn_seq ?_)
   refine I4 (by kernel_rfl) ?_
   refine Bs F (F9 (F.ev rfl)) rfl ?_;clear F;intro a F
   refine Bs F (Gn (F.ev rfl)) rfl ?_;clear F;intro a F
   refine Bs F (F9 (F.ev rfl)) rfl ?_;clear F;intro a F
   rcases bE (!((Lib.cut c [10]).2.2)) with h13b | h14b
   ·skip
    have h13:=Ag h13b
    have h13c:((Lib.cut c [10]).2.2)=false:=(Ag h13b)
    iterate 2 (refine Sd F rfl rfl rfl (Ak h13c) ?_;clear F;intro a F)
    refine Bs F (Nt (F.ev rfl) (Ak h13c) (F.ev rfl)) rfl ?_;clear F;intro a F
    refine Gd<|I0<|Ri F rfl rfl ?_
    refine wpIn_seq<|I4 (by kernel_rfl) ?_
    refine Bs F (Aq (agf B5 rfl) (F.ev rfl) (M.cellL (k:=4) rfl rfl)) rfl ?_;clear F;intro a F
    refine Bs F (Dx B5.k (F.ev rfl)) rfl ?_;clear F;intro a F
    refine Bs F (Fj (F.ev rfl) (F.ev rfl) (Cr (by omega) (by omega))) rfl ?_;clear F;intro a F
    refine Dm F M B5 rfl (k:=4) rfl rfl rfl rfl rfl ?_;clear F M;intro w a M F
    refine Dm F M B7 rfl (k:=5) rfl rfl rfl rfl rfl ?_;clear F M;intro w a M F
    refine Dm F M Oi rfl (k:=6) rfl rfl rfl rfl rfl ?_;clear F M;intro w a M F
    refine Gd<|I0<|wpIn_ret<|Abu<|Aga ?_
    replace M:=M.perm (Ao _ 6 _ rfl)
    replace M:=M.perm (Ao _ 6 _ rfl)
    replace M:=M.perm (Ao _ 6 _ rfl)
    replace M:=M.perm (Ao _ 6 _ rfl)
    replace M:=M.perm (Ao _ 6 _ rfl)
    replace M:=M.perm (Ao _ 6 _ rfl)
    change Mem w0 Gk10 (_::_::_::.blk b1 [.slice none 0 0] 22::.blk b3 [.int .i64 (((xs.length:Nat):Int)+1)] 3::.blk b5 [.int .i64 5] 27::.blk b11 [.int .u64 ((xk10.key:Nat):Int),.int .u8 ((xk10.typ:Nat):Int),.string (str xk10.text),.slice mak10 xk10.marks.length mck10] 26::_::L) _ at M
    rw [show (((xs.length:Nat):Int)+1)=(((xs.length+1:Nat)):Int) by omega] at M
    obtain ⟨w',hend,M⟩:=Mp (some .ret) (M.weaken (.cons_cons _ (.cons_cons _ (.cons_cons _ (.cons_cons _ (.cons_cons _ (.cons_cons _ (.cons _ (.cons _ (sR _))))))))))
    exact ⟨_,w',hend,Or.inr ⟨rfl,.ret,_,_,hGk10,by rw [hRc];exact M,hGc.trans hGk10,rfl,_,_,rfl,by first | exact hP.bad hne (Or.inl (fun h_=>absurd (show true=false from h_.symm.trans (by assumption)) (by decide))) | exact hP.bad hne (Or.inr (hnk10 (by assumption)))⟩⟩
   ·skip
    have h14:=Ah h14b
    have h14c:((Lib.cut c [10]).2.2)=true:=(Ah h14b)
    refine Nw F rfl rfl rfl (Ai h14c) ?_
    refine Bs F (F9 (F.ev rfl)) rfl ?_;clear F;intro a F
    refine Nw F rfl rfl rfl (Ai h14c) ?_
    refine Bs F (Gn (F.ev rfl)) rfl ?_;clear F;intro a F
    refine Bs F (Nu (F.ev rfl) (Ai h14c) (F.ev rfl)) rfl ?_;clear F;intro a F
    refine Gd<|I0<|Og F rfl ?_ ?_
    ·intro h15b
     have h15:=Ag h15b
     have h15c:(bk10)=false:=(Ag h15b)
     refine wpIn_seq<|I4 (by kernel_rfl) ?_
     refine Bs F (Aq (agf B5 rfl) (F.ev rfl) (M.cellL (k:=4) rfl rfl)) rfl ?_;clear F;intro a F
     refine Bs F (Dx B5.k (F.ev rfl)) rfl ?_;clear F;intro a F
     refine Bs F (Fj (F.ev rfl) (F.ev rfl) (Cr (by omega) (by omega))) rfl ?_;clear F;intro a F
     refine Dm F M B5 rfl (k:=4) rfl rfl rfl rfl rfl ?_;clear F M;intro w a M F
     refine Dm F M B7 rfl (k:=5) rfl rfl rfl rfl rfl ?_;clear F M;intro w a M F
     refine Dm F M Oi rfl (k:=6) rfl rfl rfl rfl rfl ?_;clear F M;intro w a M F
     refine Gd<|I0<|wpIn_ret<|Abu<|Aga ?_
     replace M:=M.perm (Ao _ 6 _ rfl)
     replace M:=M.perm (Ao _ 6 _ rfl)
     replace M:=M.perm (Ao _ 6 _ rfl)
     replace M:=M.perm (Ao _ 6 _ rfl)
     replace M:=M.perm (Ao _ 6 _ rfl)
     replace M:=M.perm (Ao _ 6 _ rfl)
     change Mem w0 Gk10 (_::_::_::.blk b1 [.slice none 0 0] 22::.blk b3 [.int .i64 (((xs.length:Nat):Int)+1)] 3::.blk b5 [.int .i64 5] 27::.blk b11 [.int .u64 ((xk10.key:Nat):Int),.int .u8 ((xk10.typ:Nat):Int),.string (str xk10.text),.slice mak10 xk10.marks.length mck10] 26::_::L) _ at M
     rw [show (((xs.length:Nat):Int)+1)=(((xs.length+1:Nat)):Int) by omega] at M
     obtain ⟨w',hend,M⟩:=Mp (some .ret) (M.weaken (.cons_cons _ (.cons_cons _ (.cons_cons _ (.cons_cons _ (.cons_cons _ (.cons_cons _ (.cons _ (.cons _ (sR _))))))))))
     exact ⟨_,w',hend,Or.inr ⟨rfl,.ret,_,_,hGk10,by rw [hRc];exact M,hGc.trans hGk10,rfl,_,_,rfl,by first | exact hP.bad hne (Or.inl (fun h_=>absurd (show true=false from h_.symm.trans (by assumption)) (by decide))) | exact hP.bad hne (Or.inr (hnk10 (by assumption)))⟩⟩
    ·intro h16b
     have h16:=Ah h16b
     have h16c:(bk10)=true:=(Ah h16b)
     refine wpIn_skip<|I0 ?_
     iterate 2 (refine wpIn_seq ?_)
     refine I4 (by kernel_rfl) ?_
     refine Bs F (Aq (agf B5 rfl) (F.ev rfl) (M.cellL (k:=4) rfl rfl)) rfl ?_;clear F;intro a F
     refine Bs F (Dx B5.k (F.ev rfl)) rfl ?_;clear F;intro a F
     refine Bs F (Mo (F.ev rfl) (F.ev rfl)) rfl ?_;clear F;intro a F
     refine Gd<|I0<|Og F rfl ?_ ?_
     ·intro h17b
      have h17:=dT h17b
      refine wpIn_seq<|I4 (by kernel_rfl) ?_
      refine Bs F (Aq (agf B5 rfl) (F.ev rfl) (M.cellL (k:=4) rfl rfl)) rfl ?_;clear F;intro a F
      refine Bs F (Dx B5.k (F.ev rfl)) rfl ?_;clear F;intro a F
      refine Bs F (Fj (F.ev rfl) (F.ev rfl) (Cr (by omega) (by omega))) rfl ?_;clear F;intro a F
      refine Dm F M B5 rfl (k:=4) rfl rfl rfl rfl rfl ?_;clear F M;intro w a M F
      refine Dm F M B7 rfl (k:=5) rfl rfl rfl rfl rfl ?_;clear F M;intro w a M F
      refine Dm F M Oi rfl (k:=6) rfl rfl rfl rfl rfl ?_;clear F M;intro w a M F
      refine Gd<|I0<|wpIn_ret<|Abu<|Aga ?_
      replace M:=M.perm (Ao _ 6 _ rfl)
      replace M:=M.perm (Ao _ 6 _ rfl)
      replace M:=M.perm (Ao _ 6 _ rfl)
      replace M:=M.perm (Ao _ 6 _ rfl)
      replace M:=M.perm (Ao _ 6 _ rfl)
      replace M:=M.perm (Ao _ 6 _ rfl)
      change Mem w0 Gk10 (_::_::_::.blk b1 [.slice none 0 0] 22::.blk b3 [.int .i64 (((xs.length:Nat):Int)+1)] 3::.blk b5 [.int .i64 3] 27::.blk b11 [.int .u64 ((xk10.key:Nat):Int),.int .u8 ((xk10.typ:Nat):Int),.string (str xk10.text),.slice mak10 xk10.marks.length mck10] 26::_::L) _ at M
      rw [show (((xs.length:Nat):Int)+1)=(((xs.length+1:Nat)):Int) by omega] at M
      obtain ⟨w',hend,M⟩:=Mp (some .ret) (M.weaken (.cons_cons _ (.cons_cons _ (.cons_cons _ (.cons_cons _ (.cons_cons _ (.cons_cons _ (.cons _ (.cons _ (sR _))))))))))
      exact ⟨_,w',hend,Or.inr ⟨rfl,.ret,_,_,hGk10,by rw [hRc];exact M,hGc.trans hGk10,rfl,_,_,rfl,by exact hP.full hne (by assumption) (hyk10 (by assumption)) (by omega)⟩⟩
     ·intro h18b
      have h18:=dF h18b
      refine wpIn_skip<|I0<|I4 (by kernel_rfl) ?_
      refine Bs F (Aq (agf B5 rfl) (F.ev rfl) (M.cellL (k:=4) rfl rfl)) rfl ?_;clear F;intro a F
      refine Bs F (Am A1 rfl (F.ev rfl) (cs:=[.int .u64 ((xk10.key:Nat):Int),.int .u8 ((xk10.typ:Nat):Int),.string (str xk10.text),.slice mak10 xk10.marks.length mck10]) rfl (M.cellsL (k:=0) rfl rfl)) rfl ?_;clear F;intro a F
      refine Ci F M B5.k A1 rfl rfl (cs:=[.int .u64 ((xk10.key:Nat):Int),.int .u8 ((xk10.typ:Nat):Int),.string (str xk10.text),.slice mak10 xk10.marks.length mck10]) rfl rfl (by simp [Value.oneCell']) (by decide) rfl ?_;clear F M;intro v19 w a M F
      obtain ⟨av19,cv19,rfl,hlev19,hcmv19,hlv19⟩:=M.row_shape (k:=0) rfl
      have Eb:Els Cn 4 Gk10 [.int .u64 ((xk10.key:Nat):Int),.int .u8 ((xk10.typ:Nat):Int),.string (str xk10.text),.slice mak10 xk10.marks.length mck10] [xk10]:=⟨[.int .u64 ((xk10.key:Nat):Int),.int .u8 ((xk10.typ:Nat):Int),.string (str xk10.text),.slice mak10 xk10.marks.length mck10],[],rfl,rfl,⟨mak10,mck10,rfl,hIk10.1,hIk10.2.1,hIk10.2.2,(by have h_:=SMk10.bound;omega),SMk10⟩,rfl⟩
      refine Dh F M (k:=8) (k2:=0) rfl rfl B5.k A1 rfl rfl (by decide) rfl rfl (by show _ * 56≤_;(try simp only [List.length_drop,List.length_take,List.length_append,List.length_cons,List.length_nil]);omega) (by (try simp only [List.length_drop,List.length_take,List.length_append,List.length_cons,List.length_nil]);omega) rfl ?_;clear F M;intro v20 w a M F
      have Ev20:=Els.append Er Eb
      obtain ⟨av20,cv20,rfl,hlev20,hcmv20,hlv20⟩:=M.row_shape (k:=8) rfl
      refine Dm F M B5 rfl (k:=5) rfl rfl rfl rfl rfl ?_;clear F M;intro w a M F
      refine Gd<|q_bn ?_
      replace M:=M.perm (Ao _ 8 _ rfl)
      replace M:=M.perm (Ao _ 8 _ rfl)
      replace M:=M.perm (Ao _ 8 _ rfl)
      replace M:=M.perm (Ao _ 8 _ rfl)
      replace M:=M.perm (Ao _ 8 _ rfl)
      replace M:=M.perm (Ao _ 8 _ rfl)
      replace M:=M.perm (Ao _ 8 _ rfl)
      change Mem w0 Gk10 (_::_::_::.blk b1 [.slice av20 (xs.length+1) (cv20)] 22::_::_::_::_::.blk b11 [.int .u64 ((xk10.key:Nat):Int),.int .u8 ((xk10.typ:Nat):Int),.string (str xk10.text),.slice mak10 xk10.marks.length mck10] 26::L) _ at M
      obtain ⟨w',hend,M⟩:=Mp none (M.weaken (.cons_cons _ (.cons_cons _ (.cons_cons _ (.cons_cons _ (.cons_cons _ (.cons_cons _ (.cons_cons _ (.cons _ (.cons _ (sR _)))))))))))
      exact ⟨_,w',hend,Or.inl ⟨rfl,_,_,hGk10,by rw [hRc];exact M,hGc.trans hGk10,_,_,_,_,_,rfl,Ev20,by simp,hP.next hne (by assumption) (hyk10 (by assumption)) (by omega)⟩⟩
  ·rintro x W' ⟨v,rfl,(⟨G2,L2,c2,hG2,M,hJ⟩ | ⟨pe,G2,L2,c2,hG2,M,hJ⟩)⟩
   ·skip
    obtain ⟨hG9,ar,nr,cr,csr,xs,rfl,Er,hnr,hP⟩:=hJ
    subst hnr
    have hp:=hP.fin
    obtain ⟨f9,hf9,hp9,hx9,hok9⟩:=id hP
    refine ⟨v,none,G2,_,.ready,rfl,(fun h=>by cases h),hG2,M,fun w M=>?_⟩
    clear hRc M2
    replace HG:=HG.mono hG2
    refine q_bn<|I0<|wpIn_seq ?_
    obtain ⟨hnz21,Gz21,az21,cz21,hGz21,hez21,Sz21,M⟩:=M.freeze_row A0 (k:=5) rfl Er (by decide)
    clear hez21 az21 cz21
    replace HG:=HG.mono hGz21
    change Mem w0 Gz21 ((.obj D (.deferred (some [])))::.blk bs9 [.string (str c2)] 9::.blk b1 [.slice ar xs.length cr] 22::.blk b3 [.int .i64 0] 3::.blk b5 [.int .i64 0] 27::L) _ at M
    refine w_regXD<|Bs F (Aq (agf B5 rfl) (F.ev rfl) (M.cellL (k:=2) rfl rfl)) rfl ?_;clear F a;intro a F
    refine Wx F Amc rfl rfl (V7 (xs:=xs) M Sz21 (by omega) (fun x hx=>by have:=(hok9 x hx).2.2.2.1;omega)) ?_;clear F M a;rintro _ Gq22 w a hGq22 M ⟨aq22,rfl,Sq22⟩ F
    replace HG:=HG.mono hGq22
    replace Sz21:=Sz21.mono A0 hGq22
    refine Dm F M B5 rfl (k:=2) rfl rfl rfl rfl rfl ?_;clear F M a;intro w a M F
    refine Dm F M B7 rfl (k:=3) rfl rfl rfl rfl rfl ?_;clear F M a;intro w a M F
    refine Dm F M Oi rfl (k:=4) rfl rfl rfl rfl rfl ?_;clear F M a;intro w a M F
    refine Gd<|I0<|wpIn_ret ?_
    change Mem w0 Gq22 (_::_::.blk b1 [.slice aq22 xs.length xs.length] 22::.blk b3 [.int .i64 0] 3::.blk b5 [.int .i64 0] 27::L) _ at M
    refine finMD F M (v:=.tuple #[.slice aq22 xs.length xs.length,.int .i64 0,.int .i64 0]) (fun w_ M_=>W4 F M_ (k1:=1) (k2:=2) (k3:=3) rfl rfl rfl rfl (agf B5 rfl) (agf B7 rfl) (agf Oi rfl) rfl rfl rfl) (fun w_ M_=>?_)
    exact ⟨_,((hG2.trans hGz21).trans hGq22),M_.weaken (.cons _ (.cons _ (.cons _ (.cons _ (sR _))))),by rw [hp];exact ⟨aq22,rfl,Sq22⟩⟩
   ·skip
    obtain ⟨hG9,rfl,n9,e9,rfl,hp⟩:=hJ
    refine ⟨v,some .ret,G2,_,.done,rfl,(fun h=>by cases h),hG2,M,fun w M=>?_⟩
    clear hRc M2
    replace HG:=HG.mono hG2
    refine wpIn_ret<|Aga<|Abu ?_
    change Mem w0 G2 (_::_::_::_::_::L) _ at M
    refine finMD F M (v:=.tuple #[.slice none 0 0,.int .i64 ((n9:Nat):Int),.int .i64 e9]) (fun w_ M_=>W4 F M_ (k1:=1) (k2:=2) (k3:=3) rfl rfl rfl rfl (agf B5 rfl) (agf B7 rfl) (agf Oi rfl) rfl rfl rfl) (fun w_ M_=>?_)
    exact ⟨_,hG2,M_.weaken (.cons _ (.cons _ (.cons _ (.cons _ (sR _))))),by rw [hp];exact ⟨none,rfl,Ay.nil⟩⟩
open Go Go.Y Go.Proofs
set_option linter.unusedSimpArgs false
set_option linter.unusedVariables false
open Go Go.Y Go.Proofs
set_option linter.unusedSimpArgs false
set_option linter.unusedVariables false
theorem d0:Lib.decDigits 0=[48]:=by rw [Lib.decDigits,dif_pos (by decide)];rfl
open Go Go.Y Go.Proofs
set_option linter.unusedSimpArgs false
set_option linter.unusedVariables false
theorem Aed {G:A4} {a:Option Addr} {c:Nat} {xs:List ItemD} (S:Ay Cn 4 G (.slice a xs.length c) xs):∀ x∈xs,x.key < 18446744073709551616∧x.typ < 256:=by
 intro x hx
 obtain ⟨i,hi⟩:=List.mem_iff_getElem?.1 hx
 obtain ⟨b,o,cs,_,_,_,_,hr⟩:=S.index hi
 obtain ⟨a',c',_,h1,h2,_⟩:=hr
 exact ⟨h1,h2⟩
open Go Go.Y Go.Proofs
set_option linter.unusedVariables false
def ti2:TI:=⟨.int .i64,1,8,.int .i64 0⟩
theorem T7:TOK Tryz.prog 2 ti2:=⟨by kernel_rfl,by kernel_rfl,by kernel_rfl⟩
def ti49:TI:=⟨.slice 81,1,24,.slice none 0 0⟩
theorem H5:TOK Tryz.prog 49 ti49:=⟨by kernel_rfl,by kernel_rfl,by kernel_rfl⟩
def ti51:TI:=⟨.struct [(0,1,49),(1,1,3)],2,32,.agg #[.slice none 0 0,.int .i64 0]⟩
theorem Dv:TOK Tryz.prog 51 ti51:=⟨by kernel_rfl,by kernel_rfl,by kernel_rfl⟩
def ti52:TI:=⟨.slice 69,1,24,.slice none 0 0⟩
theorem C3:TOK Tryz.prog 52 ti52:=⟨by kernel_rfl,by kernel_rfl,by kernel_rfl⟩
def ti54:TI:=⟨.struct [(0,1,52)],1,24,.agg #[.slice none 0 0]⟩
theorem Bb:TOK Tryz.prog 54 ti54:=⟨by kernel_rfl,by kernel_rfl,by kernel_rfl⟩
def ti69:TI:=⟨.struct [(0,4,26),(4,1,2),(5,1,4)],6,72,.agg #[.int .u64 0,.int .u8 0,.string ⟨#[]⟩,.slice none 0 0,.int .i64 0,.bool false]⟩
theorem De:TOK Tryz.prog 69 ti69:=⟨by kernel_rfl,by kernel_rfl,by kernel_rfl⟩
def ti81:TI:=⟨.struct [(0,6,79),(6,1,2),(7,1,4),(8,1,3)],9,128,.agg #[.int .u8 0,.string ⟨#[]⟩,.string ⟨#[]⟩,.slice none 0 0,.string ⟨#[]⟩,.slice none 0 0,.int .i64 0,.bool false,.int .i64 0]⟩
theorem Kb:TOK Tryz.prog 81 ti81:=⟨by kernel_rfl,by kernel_rfl,by kernel_rfl⟩
def ti204:TI:=⟨.func,1,8,.nilFunc⟩
theorem tok204:TOK Tryz.prog 204 ti204:=⟨by kernel_rfl,by kernel_rfl,by kernel_rfl⟩
def ti205:TI:=⟨.func,1,8,.nilFunc⟩
theorem tok205:TOK Tryz.prog 205 ti205:=⟨by kernel_rfl,by kernel_rfl,by kernel_rfl⟩
def ti207:TI:=⟨.struct [(0,1,4),(1,1,3),(2,1,22),(3,1,205),(4,1,204)],5,56,.agg #[.bool false,.int .i64 0,.slice none 0 0,.nilFunc,.nilFunc]⟩
theorem Gb:TOK Tryz.prog 207 ti207:=⟨by kernel_rfl,by kernel_rfl,by kernel_rfl⟩
theorem Alm:Ent Tryz.prog 68:=.mk' Tryz.func68 (by kernel_rfl) (by kernel_rfl)
theorem ent112:Ent Tryz.prog 112:=.mk' Tryz.func112 (by kernel_rfl) (by kernel_rfl)
theorem Amg:Ent Tryz.prog 113:=.mk' Tryz.func113 (by kernel_rfl) (by kernel_rfl)
theorem Amf:Ent Tryz.prog 114:=.mk' Tryz.func114 (by kernel_rfl) (by kernel_rfl)
theorem Tq:Ent Tryz.prog 115:=.mk' Tryz.func115 (by kernel_rfl) (by kernel_rfl)
theorem P6:Ent Tryz.prog 116:=.mk' Tryz.func116 (by kernel_rfl) (by kernel_rfl)
theorem Tp:Ent Tryz.prog 117:=.mk' Tryz.func117 (by kernel_rfl) (by kernel_rfl)
theorem ent118:Ent Tryz.prog 118:=.mk' Tryz.func118 (by kernel_rfl) (by kernel_rfl)
theorem To:Ent Tryz.prog 119:=.mk' Tryz.func119 (by kernel_rfl) (by kernel_rfl)
theorem Amd:Ent Tryz.prog 139:=.mk' Tryz.func139 (by kernel_rfl) (by kernel_rfl)
theorem ent140:Ent Tryz.prog 140:=.mk' Tryz.func140 (by kernel_rfl) (by kernel_rfl)
theorem ent154:Ent Tryz.prog 154:=.mk' Tryz.func154 (by kernel_rfl) (by kernel_rfl)
theorem ent156:Ent Tryz.prog 156:=.mk' Tryz.func156 (by kernel_rfl) (by kernel_rfl)
theorem ent157:Ent Tryz.prog 157:=.mk' Tryz.func157 (by kernel_rfl) (by kernel_rfl)
theorem ent158:Ent Tryz.prog 158:=.mk' Tryz.func158 (by kernel_rfl) (by kernel_rfl)
theorem Xq:Ent Tryz.prog 159:=.mk' Tryz.func159 (by kernel_rfl) (by kernel_rfl)
theorem Ama:Ent Tryz.prog 160:=.mk' Tryz.func160 (by kernel_rfl) (by kernel_rfl)
theorem ent161:Ent Tryz.prog 161:=.mk' Tryz.func161 (by kernel_rfl) (by kernel_rfl)
theorem ent162:Ent Tryz.prog 162:=.mk' Tryz.func162 (by kernel_rfl) (by kernel_rfl)
theorem ent163:Ent Tryz.prog 163:=.mk' Tryz.func163 (by kernel_rfl) (by kernel_rfl)
theorem ent164:Ent Tryz.prog 164:=.mk' Tryz.func164 (by kernel_rfl) (by kernel_rfl)
theorem Aly:Ent Tryz.prog 168:=.mk' Tryz.func168 (by kernel_rfl) (by kernel_rfl)
theorem ent190:Ent Tryz.prog 190:=.mk' Tryz.func190 (by kernel_rfl) (by kernel_rfl)
open Go Go.Y Go.Proofs
variable {w0 w:World} {G:A4} {L:List Res}
set_option linter.unusedSimpArgs false
set_option linter.unusedVariables false
theorem Qu (M:Mem w0 G L w) {n:Int}:Calls Tryz.prog 114 #[.int .i64 n] w (Cl w0 G L fun v=>v=.bool (decide (1≤n∧n≤2305843009213693952))):=by
 refine Az (vs:=[_]) Tryz.func114 rfl (n:=9) rfl rfl<|Ab<|Ac<|Af rfl<|Aa<|Ad<|Ab<|Ac<|Ae rfl<|Li rfl rfl<|Ae rfl<|?_
 rcases bE (decide (1≤n)) with h1b | h2b
 ·skip
  have h1:=dT h1b
  refine g_t rfl h1b<|Ae rfl<|g_t rfl h1b<|Lv rfl rfl<|Bi rfl h1b rfl<|Af rfl<|Aa<|Ad<|Aj<|Al rfl rfl<|?_
  exact ⟨M,by rw [show (decide (1≤n∧n≤2305843009213693952))=(decide (n≤2305843009213693952)) by rw [Bool.eq_iff_iff];simp only [decide_eq_true_eq];first | omega | (constructor <;> intro h_ <;> first | omega | cases h_ | rfl)]⟩
 ·skip
  have h2:=dF h2b
  refine g_f rfl h2b<|g_f rfl h2b<|Bh rfl h2b rfl<|Af rfl<|Aa<|Ad<|Aj<|Al rfl rfl<|?_
  exact ⟨M,by rw [show (decide (1≤n∧n≤2305843009213693952))=false by rw [Bool.eq_iff_iff];simp only [decide_eq_true_eq];first | omega | (constructor <;> intro h_ <;> first | omega | cases h_ | rfl)]⟩
theorem X3 (M:Mem w0 G L w) {k:KindD} {ta ka:Option Addr} {tc kc:Nat} (hk:A2 .u8 k.part.kind) (hl:(k.part.tag.length≤9223372036854775807∧k.part.key.length≤9223372036854775807∧k.part.text.length≤9223372036854775807)) (SA:Ay T.rdSlot 3 G (.slice ta k.part.as.length tc) k.part.as) (SK:Ay T.rdP 6 G (.slice ka k.part.kids.length kc) k.part.kids):Calls Tryz.prog 154 #[.agg #[.int .u8 k.part.kind,.string (str k.part.tag),.string (str k.part.key),.slice ta k.part.as.length tc,.string (str k.part.text),.slice ka k.part.kids.length kc,.int .i64 k.base,.bool k.sticky,.int .i64 k.pool]] w (Cl w0 G L fun v=>∃ b:Bool,v=.bool b∧(b=true↔¬ Ld k)):=by
 refine Az (vs:=[_]) Tryz.func154 rfl (n:=13) rfl rfl<|Ab<|Ac<|C4 M rfl rfl rfl<|?_;clear M;intro b1 w M
 refine Af rfl<|Aa<|Ad<|Ab<|Ac<|Bc Kb.k rfl rfl<|Bl T7 M 0 rfl rfl rfl rfl<|Br Amf rfl rfl (Qu (n:=k.base) M)<|?_;clear M;rintro _ w M rfl
 refine C9 rfl<|Ae rfl<|?_
 rcases bE (!(decide (1≤k.base∧k.base≤2305843009213693952))) with h2b | h3b
 ·skip
  have h2:=dF (Ag h2b)
  have h2c:(decide (1≤k.base∧k.base≤2305843009213693952))=false:=(Ag h2b)
  refine g_f rfl (Ak h2c)<|g_f rfl (Ak h2c)<|g_f rfl (Ak h2c)<|g_f rfl (Ak h2c)<|Bi rfl (Ak h2c) rfl<|Af rfl<|Aa<|Ad<|Aj<|Al rfl rfl<|?_
  exact ⟨M.weaken (.cons _ (sR _)),_,rfl,(by unfold Ld;rw [← T.chkP_zero];simp only [Bool.not_eq_true',decide_eq_true_eq,decide_eq_false_iff_not];first | (constructor <;> intro h_ <;> omega) | (simp only [true_iff];omega))⟩
 ·skip
  have h3:=dT (Ah h3b)
  have h3c:(decide (1≤k.base∧k.base≤2305843009213693952))=true:=(Ah h3b)
  refine g_t rfl (Ai h3c)<|Bc Kb.k rfl rfl<|g_t rfl (Ai h3c)<|Ap (fun a F=>Am Cf rfl (F.ev rfl) (cs:=[.int .u8 k.part.kind,.string (str k.part.tag),.string (str k.part.key),.slice ta k.part.as.length tc,.string (str k.part.text),.slice ka k.part.kids.length kc]) rfl (M.cellsL (k:=0) rfl rfl)) rfl<|g_t rfl (Ai h3c)<|Br Amb rfl rfl (T.tcheck_spec (x:=k.part) M hk hl SA SK)<|?_;clear M;rintro _ w M rfl
  refine g_t rfl (Ai h3c)<|D9 rfl rfl<|Bh rfl (Ai h3c) rfl<|Af rfl<|Aa<|Ad<|Aj<|Al rfl rfl<|?_
  exact ⟨M.weaken (.cons _ (sR _)),_,rfl,(by unfold Ld;rw [← T.chkP_zero];simp only [Bool.not_eq_true',decide_eq_true_eq,decide_eq_false_iff_not];first | (constructor <;> intro h_ <;> omega) | (simp only [true_iff];omega))⟩
theorem Ahc (M:Mem w0 G L w) {ad:Option Addr} {cd:Nat} {xs:List KindD} (S:Ay Du 9 G (.slice ad xs.length cd) xs):Calls Tryz.prog 190 #[.slice ad xs.length cd,.func (.func 154) #[] #[]] w (Cl w0 G L fun v=>∃ z:Int,v=.int .i64 z∧(0≤z↔¬ ∀ k∈xs,Ld k)):=by
 have bS:=S.bound
 refine Az (vs:=[_,_]) Tryz.func190 rfl (n:=19) rfl rfl<|Ab<|Ac<|Af rfl<|Aa<|Ad<|Ab<|Ab<|Ac<|Ae rfl<|Cg H5.k rfl<|Ae rfl<|Aa<|Ad<|A3<|fun a F=>B8 (fun m a' w'=>∃ (i:Nat),m=xs.length - i∧Fits 19 a' [(0,.slice ad xs.length cd),(1,.func (.func 154) #[] #[]),(7,.int .i64 ((xs.length:Nat):Int)),(8,.int .i64 ((i:Nat):Int))]∧Mem w0 G (L) w'∧(i≤xs.length)∧(∀ (m:Nat) (k:KindD),m < i→xs[m]?=some k→Ld k)) _ ⟨0,rfl,F.to ⟨rfl,rfl,rfl,rfl,trivial⟩,M,Nat.zero_le _,fun m d h=>by omega⟩ ?_
 clear F M
 rintro m a w ⟨i,rfl,F,M,hi,hA⟩
 revert a
 refine Ab<|Ac<|Df rfl rfl<|Aa<|Ad<|Ab<|Av rfl ?_ ?_
 ·intro h1b
  have h1:=dT h1b
  refine Au<|Ad<|Ab<|A3<|Ab<|Ac<|Ae rfl<|Af rfl<|Aa<|Ad<|Ab<|Ac<|Ae rfl<|Ae rfl<|Ae rfl<|?_
  obtain ⟨Xe2,hXe2⟩:=Be (xs:=xs) (i:=i) (by omega)
  obtain ⟨be2,oe2,_,Ie2,_,Ae2,hTe2⟩:=S.at hXe2
  obtain ⟨c1e2,hcse2,hPe2,hBe2⟩:=hTe2
  obtain ⟨tae2,tce2,kae2,kce2,rfl,hke2,hle2,SAe2,SKe2⟩:=F1 hPe2
  subst hcse2
  have hQe2:-9223372036854775808≤Xe2.base∧Xe2.base≤9223372036854775807:=hBe2
  refine Fp H5.k Kb Ie2 rfl rfl<|Ap (fun a F=>Am Kb rfl (F.ev rfl) (cs:=[.int .u8 Xe2.part.kind,.string (str Xe2.part.tag),.string (str Xe2.part.key),.slice tae2 Xe2.part.as.length tce2,.string (str Xe2.part.text),.slice kae2 Xe2.part.kids.length kce2,.int .i64 Xe2.base,.bool Xe2.sticky,.int .i64 Xe2.pool]) rfl (M.cellsA Ae2 0 (by omega) rfl)) rfl<|Abg ent154 (caps:=[]) rfl rfl rfl (X3 (k:=Xe2) M hke2 hle2 SAe2 SKe2)<|?_;clear M;rintro _ w M ⟨b3,rfl,hb3⟩
  refine Aa<|Ad<|Av rfl ?_ ?_
  ·intro h4b
   have h4:(b3)=true:=h4b
   refine Ab<|Ac<|Ae rfl<|Af rfl<|Aa<|Ad<|Aj<|Bo<|Aw<|Aw<|Bo<|Aw<|Al rfl rfl<|?_
   exact ⟨M,_,rfl,⟨fun _ h_=>(hb3.1 (by assumption)) (h_ _ (List.mem_of_getElem? hXe2)),fun _=>by omega⟩⟩
  ·intro h5b
   have h5:(b3)=false:=h5b
   refine Au<|C0<|Ad<|Ac<|B9 rfl rfl<|Ae rfl<|Aa<|Ad<|fun a F=>?_
   exact ⟨_,by omega,i+1,rfl,F.to ⟨rfl,rfl,rfl,rfl,trivial⟩,M,by omega,Fl hA hXe2 (Classical.byContradiction fun h_=>by have:=hb3.2 h_;simp_all)⟩
 ·intro h6b
  have h6:=dF h6b
  refine B1<|Bx<|Bx<|Dj<|Ad<|Ab<|Ac<|Af rfl<|Aa<|Ad<|Aj<|Al rfl rfl<|?_
  exact ⟨M,_,rfl,⟨fun h=>by omega,fun h=>absurd (E6 hA (by omega)) h⟩⟩
theorem Acz (M:Mem w0 G L w) {ad:Option Addr} {cd:Nat} {xs:List KindD} (S:Ay Du 9 G (.slice ad xs.length cd) xs):Calls Tryz.prog 156 #[.slice ad xs.length cd,.func (.func 154) #[] #[]] w (Cl w0 G L fun v=>∃ b:Bool,v=.bool b∧(b=true↔¬ ∀ k∈xs,Ld k)):=by
 refine Az (vs:=[_,_]) Tryz.func156 rfl (n:=9) rfl rfl<|Ab<|Ac<|Af rfl<|Aa<|Ad<|Ab<|Ac<|Ae rfl<|Ae rfl<|Br ent190 rfl rfl (Ahc (xs:=xs) M S)<|?_;clear M;rintro _ w M ⟨z1,rfl,hz1⟩
 refine Li rfl rfl<|Af rfl<|Aa<|Ad<|Aj<|Al rfl rfl<|?_
 exact ⟨M,_,rfl,decide_eq_true_iff.trans hz1⟩
theorem vc_yes {c:RulesD} {b:Bool} (h:(1≤c.kinds.length∧c.kinds.length≤8)∧1≤c.cap∧c.cap≤64) (hb:b=true↔¬ ∀ k∈c.kinds,Ld k) (h2:b=false):E4 c :=
 ⟨⟨h.1,h.2⟩,Classical.byContradiction fun h3=>by rw [hb.2 h3] at h2;cases h2⟩
theorem X1 {c:RulesD} {b:Bool} (hb:b=true↔¬ ∀ k∈c.kinds,Ld k) (h2:b=true):¬ E4 c:=fun h=>hb.1 h2 h.2
theorem Aam (M:Mem w0 G L w) {c:RulesD} {kca:Option Addr} {kcc:Nat} (SC:Ay Du 9 G (.slice kca c.kinds.length kcc) c.kinds):Calls Tryz.prog 112 #[.agg #[.slice kca c.kinds.length kcc,.int .i64 c.cap]] w (Cl w0 G L fun v=>v=.int .i64 (Ks c)):=by
 refine Az (vs:=[_]) Tryz.func112 rfl (n:=30) rfl rfl<|Ab<|Ac<|C4 M rfl rfl rfl<|?_;clear M;intro b1 w M
 refine Af rfl<|Aa<|Ad<|Ab<|Ac<|Af rfl<|Aa<|Ad<|Ab<|Ab<|Ac<|Bc Dv.k rfl rfl<|Bl H5 M 0 rfl rfl rfl rfl<|Cg H5.k rfl<|Df rfl rfl<|Ae rfl<|?_
 rcases bE (decide (((c.kinds.length:Nat):Int) < 1)) with h2b | h3b
 ·skip
  have h2:=dT h2b
  refine g_f rfl h2b<|g_f rfl h2b<|g_f rfl h2b<|g_f rfl h2b<|Bi rfl h2b rfl<|Ae rfl<|g_f rfl rfl<|g_f rfl rfl<|g_f rfl rfl<|Bi rfl rfl rfl<|Ae rfl<|g_f rfl rfl<|g_f rfl rfl<|g_f rfl rfl<|Bi rfl rfl rfl<|Ae rfl<|g_f rfl rfl<|g_f rfl rfl<|g_f rfl rfl<|g_f rfl rfl<|Bi rfl rfl rfl<|Aa<|Ad<|Bk rfl rfl<|?_
  refine Ab<|Ac<|Af rfl<|Aa<|Ad<|Aj<|Aw<|Al rfl rfl<|?_
  exact ⟨(M.weaken (.cons _ (sR _))),by rw [Jb (by first | exact X1 h0 (by assumption) | exact fun h_=>absurd h_.1 (by omega))]⟩
 ·skip
  have h3:=dF h3b
  refine g_t rfl h3b<|Bc Dv.k rfl rfl<|g_t rfl h3b<|Bl H5 M 0 rfl rfl rfl rfl<|g_t rfl h3b<|Cg H5.k rfl<|g_t rfl h3b<|Dn rfl rfl<|Bh rfl h3b rfl<|Ae rfl<|?_
  rcases bE (decide (8 < ((c.kinds.length:Nat):Int))) with h4b | h5b
  ·skip
   have h4:=dT h4b
   refine g_f rfl h4b<|g_f rfl h4b<|g_f rfl h4b<|Bi rfl h4b rfl<|Ae rfl<|g_f rfl rfl<|g_f rfl rfl<|g_f rfl rfl<|Bi rfl rfl rfl<|Ae rfl<|g_f rfl rfl<|g_f rfl rfl<|g_f rfl rfl<|g_f rfl rfl<|Bi rfl rfl rfl<|Aa<|Ad<|Bk rfl rfl<|Ab<|Ac<|Af rfl<|Aa<|Ad<|Aj<|?_
   refine Aw<|Al rfl rfl<|?_
   exact ⟨(M.weaken (.cons _ (sR _))),by rw [Jb (by first | exact X1 h0 (by assumption) | exact fun h_=>absurd h_.1 (by omega))]⟩
  ·skip
   have h5:=dF h5b
   refine g_t rfl h5b<|Bc Dv.k rfl rfl<|g_t rfl h5b<|Bl B7 M 0 rfl rfl rfl rfl<|g_t rfl h5b<|Df rfl rfl<|Bh rfl h5b rfl<|Ae rfl<|?_
   rcases bE (decide (c.cap < 1)) with h6b | h7b
   ·skip
    have h6:=dT h6b
    refine g_f rfl h6b<|g_f rfl h6b<|g_f rfl h6b<|Bi rfl h6b rfl<|Ae rfl<|g_f rfl rfl<|g_f rfl rfl<|g_f rfl rfl<|g_f rfl rfl<|Bi rfl rfl rfl<|Aa<|Ad<|Bk rfl rfl<|Ab<|Ac<|Af rfl<|Aa<|Ad<|Aj<|Aw<|Al rfl rfl<|?_
    exact ⟨(M.weaken (.cons _ (sR _))),by rw [Jb (by first | exact X1 h0 (by assumption) | exact fun h_=>absurd h_.1 (by omega))]⟩
   ·skip
    have h7:=dF h7b
    refine g_t rfl h7b<|Bc Dv.k rfl rfl<|g_t rfl h7b<|Bl B7 M 0 rfl rfl rfl rfl<|g_t rfl h7b<|Dn rfl rfl<|Bh rfl h7b rfl<|Ae rfl<|?_
    rcases bE (decide (64 < c.cap)) with h8b | h9b
    ·skip
     have h8:=dT h8b
     refine g_f rfl h8b<|g_f rfl h8b<|g_f rfl h8b<|g_f rfl h8b<|Bi rfl h8b rfl<|Aa<|Ad<|Bk rfl rfl<|Ab<|Ac<|Af rfl<|Aa<|Ad<|Aj<|Aw<|Al rfl rfl<|?_
     exact ⟨(M.weaken (.cons _ (sR _))),by rw [Jb (by first | exact X1 h0 (by assumption) | exact fun h_=>absurd h_.1 (by omega))]⟩
    ·skip
     have h9:=dF h9b
     refine g_t rfl h9b<|Bc Dv.k rfl rfl<|g_t rfl h9b<|Bl H5 M 0 rfl rfl rfl rfl<|g_t rfl h9b<|Ae rfl<|g_t rfl h9b<|Br ent156 rfl rfl (Acz (xs:=c.kinds) M SC)<|?_;clear M;rintro _ w M ⟨b10,rfl,hb10⟩
     refine Bh rfl h9b rfl<|Aa<|Ad<|Av rfl ?_ ?_
     ·intro h11b
      have h11:(b10)=true:=h11b
      refine Ab<|Ac<|Af rfl<|Aa<|Ad<|Aj<|Aw<|Al rfl rfl<|?_
      exact ⟨(M.weaken (.cons _ (sR _))),by rw [Jb (by first | exact X1 hb10 (by assumption) | exact fun h_=>absurd h_.1 (by omega))]⟩
     ·intro h12b
      have h12:(b10)=false:=h12b
      refine Au<|Ad<|Ab<|Ac<|Af rfl<|Aa<|Ad<|Aj<|Al rfl rfl<|?_
      exact ⟨(M.weaken (.cons _ (sR _))),by rw [Np (by first | exact vc_yes (by omega) hb10 (by assumption) | exact ⟨⟨⟨by omega,by omega⟩,by omega,by omega⟩,E6 hA (by omega)⟩)]⟩
open Go Go.Y Go.Proofs
variable {w0 w:World} {G:A4} {L:List Res}
set_option linter.unusedSimpArgs false
set_option linter.unusedVariables false
theorem tren_s (M:Mem w0 G L w) {k:KindD} {ta ka:Option Addr} {tc kc:Nat} (hk:A2 .u8 k.part.kind) (hl:(k.part.tag.length≤9223372036854775807∧k.part.key.length≤9223372036854775807∧k.part.text.length≤9223372036854775807)) (SA:Ay T.rdSlot 3 G (.slice ta k.part.as.length tc) k.part.as) (SK:Ay T.rdP 6 G (.slice ka k.part.kids.length kc) k.part.kids) {x:ItemD} {ma:Option Addr} {mc:Nat} (hI:(x.key < 18446744073709551616∧x.typ < 256∧x.text.length≤9223372036854775807)) (SM:Ay Dw 1 G (.slice ma x.marks.length mc) x.marks) {most:Int}:Calls Tryz.prog 157 #[.agg #[.int .u8 k.part.kind,.string (str k.part.tag),.string (str k.part.key),.slice ta k.part.as.length tc,.string (str k.part.text),.slice ka k.part.kids.length kc],.agg #[.int .u64 ((x.key:Nat):Int),.int .u8 ((x.typ:Nat):Int),.string (str x.text),.slice ma x.marks.length mc],.int .i64 most] w (Cl w0 G L fun v=>∃ (n1:Int) (s1 s2 s3:ByteArray) (a1 a2:Option Addr) (l1 c1 l2 c2:Nat),v=.tuple #[.agg #[.int .u8 n1,.string s1,.string s2,.slice a1 l1 c1,.string s3,.slice a2 l2 c2],.int .i64 (T.rendE k.part (tI x) most)]):=by
 refine Ret.plain M ((T.trender_spec (x:=tI x) (most:=most) M hk hl SA SK hI.2.2 SM (tI_key hI.1)).mono ?_)
 intro e w' h
 cases e with
 | returned v=>obtain ⟨G',h1,h2,⟨_,_,rfl,_⟩⟩:=h;exact ⟨G',h1,h2,_,_,_,_,_,_,_,_,_,_,rfl⟩
 | panicked c=>exact h
 | outgrown=>exact h
theorem Qn (M:Mem w0 G L w) {c:RulesD} {kca:Option Addr} {kcc:Nat} (SC:Ay Du 9 G (.slice kca c.kinds.length kcc) c.kinds) {x:ItemD} {ma:Option Addr} {mc:Nat} (hI:(x.key < 18446744073709551616∧x.typ < 256∧x.text.length≤9223372036854775807)) (SM:Ay Dw 1 G (.slice ma x.marks.length mc) x.marks) {k:KindD} (hK:c.kinds[x.typ]?=some k):Calls Tryz.prog 113 #[.agg #[.slice kca c.kinds.length kcc,.int .i64 c.cap],.agg #[.int .u64 ((x.key:Nat):Int),.int .u8 ((x.typ:Nat):Int),.string (str x.text),.slice ma x.marks.length mc]] w (Cl w0 G L fun v=>∃ (n1:Int) (s1 s2 s3:ByteArray) (a1 a2:Option Addr) (l1 c1 l2 c2:Nat),v=.tuple #[.agg #[.int .u8 n1,.string s1,.string s2,.slice a1 l1 c1,.string s3,.slice a2 l2 c2],.int .i64 (Iu c x)]):=by
 refine Az (vs:=[_,_]) Tryz.func113 rfl (n:=19) rfl rfl<|Ab<|Ac<|C4 M rfl rfl rfl<|?_;clear M;intro b1 w M
 refine C4 M rfl rfl rfl<|?_;clear M;intro b2 w M
 refine Cz M Bd rfl rfl<|?_;clear M;intro b3 w M
 refine Af rfl<|Aa<|Ad<|Ab<|fun a F=>Fm [(.free,0),(.pure,1),(.free,2),(.pure,3),(.free,4),(.free,5),(.pure,6),(.pure,7),(.free,8),(.pure,9),(.keep,10),(.free,11),(.free,12),(.chg,13),(.free,14)] [13] (Keep G [.blk b2 [.int .u64 ((x.key:Nat):Int),.int .u8 ((x.typ:Nat):Int),.string (str x.text),.slice ma x.marks.length mc] 26,.blk b1 [.slice kca c.kinds.length kcc,.int .i64 c.cap] 51]) rfl (by kernel_rfl) (fun c a d v w h=>by cases d <;> exact h) ((M.drew _).keep (Gle.refl _) (by simp)) ?_
 replace M:=M.drew (w.drawn+1)
 revert a
 refine k_f (fun a F w _=>Co Dv.k rfl F rfl) rfl<|k_p (fun a F w M=>Aq (agf H5 rfl) (F.ev rfl) (M.cellL (k:=1) rfl rfl)) rfl<|k_f (fun a F w _=>Co A1.k rfl F rfl) rfl<|k_p (fun a F w M=>Aq (agf Ew rfl) (F.ev rfl) (M.cellL (k:=0) rfl rfl)) rfl<|?_
 obtain ⟨be5,oe5,_,Ie5,_,Ae5,hTe5⟩:=SC.at hK
 obtain ⟨c1e5,hcse5,hPe5,hBe5⟩:=hTe5
 obtain ⟨tae5,tce5,kae5,kce5,rfl,hke5,hle5,SAe5,SKe5⟩:=F1 hPe5
 subst hcse5
 have hQe5:-9223372036854775808≤k.base∧k.base≤9223372036854775807:=hBe5
 refine k_f (fun a F w _=>Ca H5.k Kb (F.ev rfl) (F.ev rfl) (by omega) Ie5) rfl<|k_f (fun a F w _=>Co Kb.k rfl F rfl) rfl<|k_p (fun a F w M=>Am Cf rfl (F.ev rfl) (cs:=[.int .u8 k.part.kind,.string (str k.part.tag),.string (str k.part.key),.slice tae5 k.part.as.length tce5,.string (str k.part.text),.slice kae5 k.part.kids.length kce5]) rfl (M.cellsA Ae5 0 rfl rfl)) rfl<|k_p (fun a F w M=>Am A1 rfl (F.ev rfl) (cs:=[.int .u64 ((x.key:Nat):Int),.int .u8 ((x.typ:Nat):Int),.string (str x.text),.slice ma x.marks.length mc]) rfl (M.cellsL (k:=0) rfl rfl)) rfl<|k_f (fun a F w _=>Co Dv.k rfl F rfl) rfl<|k_p (fun a F w M=>Aq (agf B7 rfl) (F.ev rfl) (M.cellL (k:=1) rfl rfl)) rfl<|k_k rfl<|Br ent157 rfl rfl (tren_s (k:=k) (x:=x) (most:=c.cap) M hke5 hle5 SAe5 SKe5 hI SM)<|?_;clear M;rintro _ w M ⟨n1n6,s1n6,s2n6,s3n6,a1n6,a2n6,l1n6,c1n6,l2n6,c2n6,rfl⟩
 refine Aa<|eK (C':=Keep G [.blk b2 [.int .u64 ((x.key:Nat):Int),.int .u8 ((x.typ:Nat):Int),.string (str x.text),.slice ma x.marks.length mc] 26,.blk b1 [.slice kca c.kinds.length kcc,.int .i64 c.cap] 51]) (M.keep (Gle.refl _) (by simp)) (fun w h=>h.mono (Gle.refl _) (by simp))<|k_f (fun a F w _=>Cs (v:=.agg #[.int .u8 n1n6,.string s1n6,.string s2n6,.slice a1n6 l1n6 c1n6,.string s3n6,.slice a2n6 l2n6 c2n6]) (F.ev rfl) rfl) rfl<|k_f (fun a F w _=>Cs (v:=.int .i64 (T.rendE k.part (tI x) c.cap)) (F.ev rfl) rfl) rfl<|k_c rfl<|fun a F=>?_
 refine Ar F M Bd (k:=0) rfl rfl rfl (us:=[.int .u8 n1n6,.string s1n6,.string s2n6,.slice a1n6 l1n6 c1n6,.string s3n6,.slice a2n6 l2n6 c2n6]) rfl rfl (by simp [Value.oneCell']) (by simp) ?_;clear F M a;intro w a M F
 change Mem w0 G (.blk b3 [.int .u8 n1n6,.string s1n6,.string s2n6,.slice a1n6 l1n6 c1n6,.string s3n6,.slice a2n6 l2n6 c2n6] 193::_::_::L) _ at M
 revert a
 refine Aa<|fun a F=>⟨Keep G [.blk b3 [.int .u8 n1n6,.string s1n6,.string s2n6,.slice a1n6 l1n6 c1n6,.string s3n6,.slice a2n6 l2n6 c2n6] 193,.blk b2 [.int .u64 ((x.key:Nat):Int),.int .u8 ((x.typ:Nat):Int),.string (str x.text),.slice ma x.marks.length mc] 26,.blk b1 [.slice kca c.kinds.length kcc,.int .i64 c.cap] 51],M.keep (Gle.refl _) (by simp),?_⟩
 revert a
 refine k_f (fun a F w _=>Gm F rfl) rfl<|D1<|Ad<|Aj<|fun a F=>Cb F M (k:=0) rfl rfl Bd rfl rfl rfl rfl ?_
 exact ⟨M.weaken (.cons _ (.cons _ (.cons _ (sR _)))),_,_,_,_,_,_,_,_,_,_,by rw [Abq hK]⟩
theorem Aap (M:Mem w0 G L w) {a1:Option Addr} {c1:Nat} {l:List EntD} (S:Ay C2 6 G (.slice a1 l.length c1) l):Calls Tryz.prog 158 #[.agg #[.slice a1 l.length c1]] w (Cl w0 G L fun v=>v=.int .i64 (Wk l)):=by
 have bS:=S.bound
 refine Az (vs:=[_]) Tryz.func158 rfl (n:=26) rfl rfl<|Ab<|Ac<|C4 M rfl rfl rfl<|?_;clear M;intro b1 w M
 refine Af rfl<|Aa<|Ad<|Ab<|Ac<|Af rfl<|Aa<|Ad<|Ab<|Ab<|Ac<|Bc Bb.k rfl rfl<|Bl C3 M 0 rfl rfl rfl rfl<|Cg C3.k rfl<|Ae rfl<|Aa<|Ad<|A3<|fun a F=>B8 (fun m a' w'=>∃ (i:Nat),∃ (z:Int),m=l.length - i∧Fits 26 a' [(1,.pointer (some ⟨b1,0,none⟩)),(8,.slice a1 l.length c1),(9,.int .i64 ((l.length:Nat):Int)),(3,.int .i64 z),(10,.int .i64 ((i:Nat):Int))]∧Mem w0 G (.blk b1 [.slice a1 l.length c1] 54::L) w'∧(i≤l.length)∧(z=Hd (l.take i))∧(z≤4611686018427387904)) _ ⟨0,0,rfl,F.to ⟨rfl,rfl,rfl,rfl,rfl,trivial⟩,M,Nat.zero_le _,rfl,by omega⟩ ?_
 clear F M
 rintro m a w ⟨i,z,rfl,F,M,hi,hz,hz2⟩
 revert a
 refine Ab<|Ac<|Df rfl rfl<|Aa<|Ad<|Ab<|Av rfl ?_ ?_
 ·intro h2b
  have h2:=dT h2b
  refine Au<|Ad<|Ab<|A3<|Ab<|?_
  have hnn:=Q5 (l.take i)
  refine Ac<|?_
  obtain ⟨Xe3,hXe3⟩:=Be (xs:=l) (i:=i) (by omega)
  obtain ⟨be3,oe3,_,Ie3,_,Ae3,hTe3⟩:=S.at hXe3
  obtain ⟨c1e3,hcse3,hPe3,hBe3⟩:=hTe3
  obtain ⟨mae3,mce3,rfl,hke3,hte3,hxe3,hne3,SMe3⟩:=hPe3
  subst hcse3
  have hIe3:(Xe3.item.key < 18446744073709551616∧Xe3.item.typ < 256∧Xe3.item.text.length≤9223372036854775807):=⟨hke3,hte3,hxe3⟩
  have hQe3:-9223372036854775808≤Xe3.size∧Xe3.size≤9223372036854775807:=hBe3
  refine Fp C3.k De Ie3 rfl rfl<|Ap (fun a F=>Am De rfl (F.ev rfl) (cs:=[.int .u64 ((Xe3.item.key:Nat):Int),.int .u8 ((Xe3.item.typ:Nat):Int),.string (str Xe3.item.text),.slice mae3 Xe3.item.marks.length mce3,.int .i64 Xe3.size,.bool Xe3.known]) rfl (M.cellsA Ae3 0 (by omega) rfl)) rfl<|Cz M De rfl rfl<|?_;clear M;intro b4 w M
  intro a F
  refine Ar F M De (k:=0) rfl rfl rfl (us:=[.int .u64 ((Xe3.item.key:Nat):Int),.int .u8 ((Xe3.item.typ:Nat):Int),.string (str Xe3.item.text),.slice mae3 Xe3.item.marks.length mce3,.int .i64 Xe3.size,.bool Xe3.known]) rfl rfl (by simp [Value.oneCell']) (by simp) ?_;clear F M a;intro w a M F
  change Mem w0 G (.blk b4 [.int .u64 ((Xe3.item.key:Nat):Int),.int .u8 ((Xe3.item.typ:Nat):Int),.string (str Xe3.item.text),.slice mae3 Xe3.item.marks.length mce3,.int .i64 Xe3.size,.bool Xe3.known] 69::_::L) _ at M
  revert a
  refine Aa<|Ad<|Ab<|Ac<|Bc De.k rfl rfl<|Bl T7 M 0 rfl rfl rfl rfl<|Ap (fun a F=>Yi (F.ev rfl) (F.ev rfl)) rfl<|Af rfl<|Aa<|Ad<|Ab<|Ab<|Ac<|Ae rfl<|Ae rfl<|Lu rfl rfl<|Dn rfl rfl<|Aa<|Ad<|Av rfl ?_ ?_
  ·intro h6b
   have h6:=dT h6b
   refine Ab<|Ac<|Af rfl<|Aa<|Ad<|Aj<|Aw<|Bo<|Aw<|Aw<|Bo<|Aw<|Al rfl rfl<|?_
   exact ⟨M.weaken (.cons _ (.cons _ (sR _))),by rw [tot_big (i:=i+1) (by rw [Ux hXe3];omega)]⟩
  ·intro h7b
   have h7:=dF h7b
   refine Au<|Ad<|Ac<|Ae rfl<|Ae rfl<|B9 rfl rfl<|Af rfl<|Aa<|C0<|Ad<|Ac<|B9 rfl rfl<|Ae rfl<|Aa<|Ad<|fun a F=>?_
   exact ⟨_,by omega,i+1,z+(max (Xe3.size) 0),rfl,F.to ⟨rfl,rfl,rfl,rfl,rfl,trivial⟩,(M.weaken (.cons _ (.cons_cons _ (sR _)))),by omega,by rw [Ux hXe3];omega,by omega⟩
 ·intro h8b
  have h8:=dF h8b
  refine B1<|Bx<|Bx<|Dj<|Ad<|Ab<|Ac<|Ae rfl<|Af rfl<|Aa<|Ad<|Aj<|Al rfl rfl<|?_
  exact ⟨M.weaken (.cons _ (sR _)),by rw [tot_fit hz (by omega) (by omega)]⟩
theorem Vf (M:Mem w0 G L w) {a1:Option Addr} {c1:Nat} {l:List EntD} (S:Ay C2 6 G (.slice a1 l.length c1) l):Calls Tryz.prog 115 #[.agg #[.slice a1 l.length c1]] w (Cl w0 G L fun v=>v=.int .i64 (Ej l)):=by
 refine Az (vs:=[_]) Tryz.func115 rfl (n:=6) rfl rfl<|Ab<|Ac<|C4 M rfl rfl rfl<|?_;clear M;intro b1 w M
 refine Af rfl<|Aa<|Ad<|Ab<|Ab<|Ac<|Ap (fun a F=>Am Bb rfl (F.ev rfl) (cs:=[.slice a1 l.length c1]) rfl (M.cellsL (k:=0) rfl rfl)) rfl<|Br ent158 rfl rfl (Aap (l:=l) M S)<|?_;clear M;rintro _ w M rfl
 refine Dn rfl rfl<|Aa<|Ad<|Av rfl ?_ ?_
 ·intro h2b
  have h2:=dT h2b
  refine Ab<|Ac<|Af rfl<|Aa<|Ad<|Aj<|Aw<|Al rfl rfl<|?_
  exact ⟨M.weaken (.cons _ (sR _)),by rw [over_no (by assumption)]⟩
 ·intro h3b
  have h3:=dF h3b
  refine Au<|Ad<|Ab<|Ac<|Af rfl<|Aa<|Ad<|Aj<|Al rfl rfl<|?_
  exact ⟨M.weaken (.cons _ (sR _)),by rw [Ajk (by assumption)]⟩
theorem L8 (M:Mem w0 G L w) {c:RulesD} {kca:Option Addr} {kcc:Nat} (SC:Ay Du 9 G (.slice kca c.kinds.length kcc) c.kinds) {a1:Option Addr} {c1:Nat} {l:List EntD} (S:Ay C2 6 G (.slice a1 l.length c1) l):Calls Tryz.prog 68 #[.agg #[.slice kca c.kinds.length kcc,.int .i64 c.cap],.agg #[.slice a1 l.length c1]] w (Cl w0 G L fun v=>v=.int .i64 (Bw c l)):=by
 have bS:=S.bound
 refine Az (vs:=[_,_]) Tryz.func68 rfl (n:=81) rfl rfl<|Ab<|Ac<|C4 M rfl rfl rfl<|?_;clear M;intro b1 w M
 refine C4 M rfl rfl rfl<|?_;clear M;intro b2 w M
 refine Af rfl<|Aa<|Ad<|Ab<|Ab<|Ac<|Ap (fun a F=>Am Dv rfl (F.ev rfl) (cs:=[.slice kca c.kinds.length kcc,.int .i64 c.cap]) rfl (M.cellsL (k:=1) rfl rfl)) rfl<|Br ent112 rfl rfl (Aam (c:=c) M SC)<|?_;clear M;rintro _ w M rfl
 refine Af rfl<|Aa<|Ad<|Ab<|Ac<|Ae rfl<|D9 rfl rfl<|Aa<|Ad<|Av rfl ?_ ?_
 ·intro h3b
  have h3:=dF (Ag h3b)
  have h3c:(decide (Ks c=0))=false:=(Ag h3b)
  refine Ab<|Ac<|Ae rfl<|Af rfl<|Aa<|Ad<|Aj<|Aw<|Al rfl rfl<|?_
  exact ⟨M.weaken (.cons _ (.cons _ (sR _))),by rw [Afa (fun h_=>by have h9_:=Np h_;omega),Jb (fun h_=>by have h9_:=Np h_;omega)]⟩
 ·intro h4b
  have h4:=dT (Ah h4b)
  have h4c:(decide (Ks c=0))=true:=(Ah h4b)
  refine Au<|Ad<|Ab<|Ab<|Ac<|Bc Bb.k rfl rfl<|Bl C3 M 0 rfl rfl rfl rfl<|Cg C3.k rfl<|Dn rfl rfl<|Aa<|Ad<|Av rfl ?_ ?_
  ·intro h5b
   have h5:=dT h5b
   refine Ab<|Ac<|Af rfl<|Aa<|Ad<|Aj<|Aw<|Al rfl rfl<|?_
   exact ⟨M.weaken (.cons _ (.cons _ (sR _))),by rw [Afb (Qe.1 (by omega)) (by omega)]⟩
  ·intro h6b
   have h6:=dF h6b
   refine Au<|Ad<|Ab<|Ac<|fun a F=>?_
   refine Sb (kt:=23) (et:=4) F M rfl ?_;clear F M a;intro bm7 w a M F
   revert a
   refine Af rfl<|Aa<|Ad<|Ab<|Ab<|Ac<|Bc Bb.k rfl rfl<|Bl C3 M 1 rfl rfl rfl rfl<|Cg C3.k rfl<|Ae rfl<|Aa<|Ad<|A3<|?_
   have hv:E4 c:=Qe.1 (Classical.byContradiction fun h_=>by first | omega | simp_all)
   intro a F
   refine B8 (fun m a' w'=>∃ (i:Nat),∃ (es:Array MapEntry),∃ (cl:Nat),∃ (ks:List Nat),m=l.length - i∧Fits 81 a' [(2,.pointer (some ⟨b1,0,none⟩)),(3,.pointer (some ⟨b2,0,none⟩)),(6,.map (some bm7)),(23,.slice a1 l.length c1),(24,.int .i64 ((l.length:Nat):Int)),(25,.int .i64 ((i:Nat):Int))]∧Mem w0 G (.obj bm7 (.map es cl)::.blk b2 [.slice a1 l.length c1] 54::.blk b1 [.slice kca c.kinds.length kcc,.int .i64 c.cap] 51::L) w'∧(i≤l.length)∧(I3 es ks)∧(Ft l i ks)∧(Ce (Hs c l) i=0)) _ ⟨0,#[],0,([]:List Nat),rfl,F.to ⟨rfl,rfl,rfl,rfl,rfl,rfl,trivial⟩,M,Nat.zero_le _,I3.nil,Ft.zero l,rfl⟩ ?_
   clear F M
   rintro m a w ⟨i,es,cl,ks,rfl,F,M,hi,Es,hks,hS⟩
   revert a
   refine Ab<|Ac<|Df rfl rfl<|Aa<|Ad<|Ab<|Av rfl ?_ ?_
   ·intro h8b
    have h8:=dT h8b
    refine Au<|Ad<|Ab<|A3<|Ab<|Ac<|?_
    obtain ⟨Xe9,hXe9⟩:=Be (xs:=l) (i:=i) (by omega)
    obtain ⟨be9,oe9,_,Ie9,_,Ae9,hTe9⟩:=S.at hXe9
    obtain ⟨c1e9,hcse9,hPe9,hBe9⟩:=hTe9
    obtain ⟨mae9,mce9,rfl,hke9,hte9,hxe9,hne9,SMe9⟩:=hPe9
    subst hcse9
    have hIe9:(Xe9.item.key < 18446744073709551616∧Xe9.item.typ < 256∧Xe9.item.text.length≤9223372036854775807):=⟨hke9,hte9,hxe9⟩
    have hQe9:-9223372036854775808≤Xe9.size∧Xe9.size≤9223372036854775807:=hBe9
    refine Fp C3.k De Ie9 rfl rfl<|Ap (fun a F=>Am De rfl (F.ev rfl) (cs:=[.int .u64 ((Xe9.item.key:Nat):Int),.int .u8 ((Xe9.item.typ:Nat):Int),.string (str Xe9.item.text),.slice mae9 Xe9.item.marks.length mce9,.int .i64 Xe9.size,.bool Xe9.known]) rfl (M.cellsA Ae9 0 (by omega) rfl)) rfl<|Cz M De rfl rfl<|?_;clear M;intro b10 w M
    intro a F
    refine Ar F M De (k:=0) rfl rfl rfl (us:=[.int .u64 ((Xe9.item.key:Nat):Int),.int .u8 ((Xe9.item.typ:Nat):Int),.string (str Xe9.item.text),.slice mae9 Xe9.item.marks.length mce9,.int .i64 Xe9.size,.bool Xe9.known]) rfl rfl (by simp [Value.oneCell']) (by simp) ?_;clear F M a;intro w a M F
    change Mem w0 G (.blk b10 [.int .u64 ((Xe9.item.key:Nat):Int),.int .u8 ((Xe9.item.typ:Nat):Int),.string (str Xe9.item.text),.slice mae9 Xe9.item.marks.length mce9,.int .i64 Xe9.size,.bool Xe9.known] 69::_::_::_::L) _ at M
    revert a
    refine Aa<|Ad<|Ab<|Ab<|Ac<|Bc De.k rfl rfl<|Ap (fun a F=>Am A1 rfl (F.ev rfl) (cs:=[.int .u64 ((Xe9.item.key:Nat):Int),.int .u8 ((Xe9.item.typ:Nat):Int),.string (str Xe9.item.text),.slice mae9 Xe9.item.marks.length mce9]) rfl (M.cellsL (k:=0) rfl rfl)) rfl<|Bc Dv.k rfl rfl<|Bl H5 M 3 rfl rfl rfl rfl<|Cg H5.k rfl<|Br Zz rfl rfl (Jn (x:=Xe9.item) (t:=((c.kinds.length:Nat):Int)) M hIe9 SMe9)<|?_;clear M;rintro _ w M rfl
    refine Af rfl<|Aa<|Ad<|Ab<|Ac<|Ae rfl<|D9 rfl rfl<|Aa<|Ad<|Av rfl ?_ ?_
    ·intro h12b
     have h12:=dF (Ag h12b)
     have h12c:(decide (Gt ((c.kinds.length:Nat):Int) Xe9.item=0))=false:=(Ag h12b)
     refine Ab<|Ac<|Ae rfl<|Af rfl<|Aa<|Ad<|Aj<|Aw<|Bo<|Aw<|Aw<|Bo<|Aw<|Al rfl rfl<|?_
     exact ⟨M.weaken (.cons _ (.cons _ (.cons _ (.cons _ (sR _))))),by rw [ck6 hv (by omega) hS hXe9 (fun h_=>by have h9_:=Dp h_;omega),Fv (fun h_=>by have h9_:=Dp h_;omega)]⟩
    ·intro h13b
     have h13:=dT (Ah h13b)
     have h13c:(decide (Gt ((c.kinds.length:Nat):Int) Xe9.item=0))=true:=(Ah h13b)
     refine Au<|Ad<|Ab<|Ab<|?_
     have hok:ItemOk (c.kinds.length:Int) Xe9.item:=Dy.1 (by omega)
     obtain ⟨k,hK⟩:=O2 hok
     refine Ac<|Ae rfl<|Bc De.k rfl rfl<|Bc A1.k rfl rfl<|Bl Eh M 0 rfl rfl rfl rfl<|fun a F=>Sc F M (k:=1) rfl Es J3.k Eh.k I6 rfl rfl rfl rfl ?_;clear F a;intro a F
     revert a
     refine Aa<|Ad<|Av rfl ?_ ?_
     ·intro h14b
      have h14:=dT h14b
      refine Ab<|Ac<|Af rfl<|Aa<|Ad<|Aj<|Aw<|Bo<|Aw<|Aw<|Bo<|Aw<|Al rfl rfl<|?_
      exact ⟨M.weaken (.cons _ (.cons _ (.cons _ (.cons _ (sR _))))),by rw [ck8 hv (by omega) hS hXe9 hok ((hks _).1 (by assumption))]⟩
     ·intro h15b
      have h15:=dF h15b
      refine Au<|Ad<|Ab<|Ac<|Ae rfl<|Bc De.k rfl rfl<|Bc A1.k rfl rfl<|Bl Eh M 0 rfl rfl rfl rfl<|fun a F=>?_
      refine Pm (z:=Xe9.item.key) F M (k:=1) rfl Es J3.k Eh.k rfl rfl rfl (by assumption) ?_;clear F M a;intro esm16 clm16 w a Em16 M F
      revert a
      refine Aa<|Ad<|Ab<|Ab<|Ac<|Ap (fun a F=>Am Dv rfl (F.ev rfl) (cs:=[.slice kca c.kinds.length kcc,.int .i64 c.cap]) rfl (M.cellsL (k:=3) rfl rfl)) rfl<|Bc De.k rfl rfl<|Ap (fun a F=>Am A1 rfl (F.ev rfl) (cs:=[.int .u64 ((Xe9.item.key:Nat):Int),.int .u8 ((Xe9.item.typ:Nat):Int),.string (str Xe9.item.text),.slice mae9 Xe9.item.marks.length mce9]) rfl (M.cellsL (k:=0) rfl rfl)) rfl<|Br Amg rfl rfl (Qn (c:=c) (x:=Xe9.item) M SC hIe9 SMe9 hK)<|?_;clear M;rintro _ w M ⟨n1n17,s1n17,s2n17,s3n17,a1n17,a2n17,l1n17,c1n17,l2n17,c2n17,rfl⟩
      refine Ae rfl<|Ch rfl rfl<|Ch rfl rfl<|Cz M Bd rfl rfl<|?_;clear M;intro b18 w M
      intro a F
      refine Ar F M Bd (k:=0) rfl rfl rfl (us:=[.int .u8 n1n17,.string s1n17,.string s2n17,.slice a1n17 l1n17 c1n17,.string s3n17,.slice a2n17 l2n17 c2n17]) rfl rfl (by simp [Value.oneCell']) (by simp) ?_;clear F M a;intro w a M F
      change Mem w0 G (.blk b18 [.int .u8 n1n17,.string s1n17,.string s2n17,.slice a1n17 l1n17 c1n17,.string s3n17,.slice a2n17 l2n17 c2n17] 193::.blk b10 [.int .u64 ((Xe9.item.key:Nat):Int),.int .u8 ((Xe9.item.typ:Nat):Int),.string (str Xe9.item.text),.slice mae9 Xe9.item.marks.length mce9,.int .i64 Xe9.size,.bool Xe9.known] 69::_::_::_::L) _ at M
      revert a
      refine Af rfl<|Aa<|Ad<|Ab<|Ac<|Ae rfl<|D9 rfl rfl<|Aa<|Ad<|Av rfl ?_ ?_
      ·intro h20b
       have h20:=dF (Ag h20b)
       have h20c:(decide (Iu c Xe9.item=0))=false:=(Ag h20b)
       refine Ab<|Ac<|Af rfl<|Aa<|Ad<|Aj<|Aw<|Bo<|Aw<|Aw<|Bo<|Aw<|Al rfl rfl<|?_
       exact ⟨M.weaken (.cons _ (.cons _ (.cons _ (.cons _ (.cons _ (sR _)))))),by rw [ck14 hv (by omega) hS hXe9 hok (fun h_=>absurd ((hks _).2 h_) (by assumption)) (by omega)]⟩
      ·intro h21b
       have h21:=dT (Ah h21b)
       have h21c:(decide (Iu c Xe9.item=0))=true:=(Ah h21b)
       refine Au<|Ad<|Ab<|fun a F=>Fm [(.free,0),(.pure,1),(.keep,2),(.free,3),(.free,4),(.free,5),(.pure,6),(.free,7),(.free,8),(.free,9),(.pure,10),(.free,11),(.pure,12),(.free,13),(.free,14),(.pure,15),(.free,16),(.free,17),(.pure,18),(.free,19),(.free,20),(.free,21)] [] (Keep G [.blk b18 [.int .u8 n1n17,.string s1n17,.string s2n17,.slice a1n17 l1n17 c1n17,.string s3n17,.slice a2n17 l2n17 c2n17] 193,.blk b10 [.int .u64 ((Xe9.item.key:Nat):Int),.int .u8 ((Xe9.item.typ:Nat):Int),.string (str Xe9.item.text),.slice mae9 Xe9.item.marks.length mce9,.int .i64 Xe9.size,.bool Xe9.known] 69,.obj bm7 (.map esm16 clm16),.blk b2 [.slice a1 l.length c1] 54,.blk b1 [.slice kca c.kinds.length kcc,.int .i64 c.cap] 51]) rfl (by kernel_rfl) (fun c a d v w h=>by cases d <;> exact h) ((M.drew _).keep (Gle.refl _) (by simp)) ?_
       replace M:=M.drew (w.drawn+1)
       revert a
       refine k_f (fun a F w _=>Co De.k rfl F rfl) rfl<|k_p (fun a F w M=>Aq (agf T7 rfl) (F.ev rfl) (M.cellL (k:=1) rfl rfl)) rfl<|k_k rfl<|Br Amf rfl rfl (Qu (n:=Xe9.size) M)<|?_;clear M;rintro _ w M rfl
       refine Aa<|eK (C':=Keep G [.blk b18 [.int .u8 n1n17,.string s1n17,.string s2n17,.slice a1n17 l1n17 c1n17,.string s3n17,.slice a2n17 l2n17 c2n17] 193,.blk b10 [.int .u64 ((Xe9.item.key:Nat):Int),.int .u8 ((Xe9.item.typ:Nat):Int),.string (str Xe9.item.text),.slice mae9 Xe9.item.marks.length mce9,.int .i64 Xe9.size,.bool Xe9.known] 69,.obj bm7 (.map esm16 clm16),.blk b2 [.slice a1 l.length c1] 54,.blk b1 [.slice kca c.kinds.length kcc,.int .i64 c.cap] 51]) (M.keep (Gle.refl _) (by simp)) (fun w h=>h.mono (Gle.refl _) (by simp))<|k_f (fun a F w _=>Gn (F.ev rfl)) rfl<|k_f (fun a F w _=>Cj F rfl) rfl<|?_
       rcases bE (!(decide (1≤Xe9.size∧Xe9.size≤2305843009213693952))) with h22b | h23b
       ·skip
        have h22:=dF (Ag h22b)
        have h22c:(decide (1≤Xe9.size∧Xe9.size≤2305843009213693952))=false:=(Ag h22b)
        refine k_s rfl (Ak h22c)<|k_s rfl (Ak h22c)<|k_s rfl (Ak h22c)<|k_s rfl (Ak h22c)<|k_u rfl<|k_u rfl<|k_u rfl<|k_u rfl<|k_u rfl<|k_u rfl<|k_u rfl<|k_u rfl<|k_u rfl<|k_u rfl<|k_u rfl<|k_s rfl (Ak h22c)<|k_f (fun a F w _=>H4 F rfl (Ak h22c) rfl) rfl<|D1<|Ad<|Bk rfl rfl<|Ab<|Ac<|Af rfl<|Aa<|?_
        refine Ad<|Aj<|Bo<|Aw<|Aw<|Bo<|Aw<|Al rfl rfl<|?_
        exact ⟨M.weaken (.cons _ (.cons _ (.cons _ (.cons _ (.cons _ (sR _)))))),by rw [ck12 hv (by omega) hS hXe9 hok (fun h_=>absurd ((hks _).2 h_) (by assumption)) (by omega) (by unfold I1;rw [J1 hK];clear M;grind)]⟩
       ·skip
        have h23:=dT (Ah h23b)
        have h23c:(decide (1≤Xe9.size∧Xe9.size≤2305843009213693952))=true:=(Ah h23b)
        refine Db rfl (Ai h23c) (fun a F w _=>Co De.k rfl F rfl)<|Ig rfl (Ai h23c) (fun a F w M=>Aq (agf I6 rfl) (F.ev rfl) (M.cellL (k:=1) rfl rfl))<|Db rfl (Ai h23c) (fun a F w _=>Gn (F.ev rfl))<|Db rfl (Ai h23c) (fun a F w _=>Cj F rfl)<|?_
        rcases bE (!(Xe9.known)) with h24b | h28b
        ·skip
         have h24:=Ag h24b
         have h24c:(Xe9.known)=false:=(Ag h24b)
         refine Db rfl (Ak h24c) (fun a F w _=>Co De.k rfl F rfl)<|Ig rfl (Ak h24c) (fun a F w M=>Aq (agf T7 rfl) (F.ev rfl) (M.cellL (k:=1) rfl rfl))<|Db rfl (Ak h24c) (fun a F w _=>Co Dv.k rfl F rfl)<|Ig rfl (Ak h24c) (fun a F w M=>Aq (agf H5 rfl) (F.ev rfl) (M.cellL (k:=4) rfl rfl))<|Db rfl (Ak h24c) (fun a F w _=>Co De.k rfl F rfl)<|Db rfl (Ak h24c) (fun a F w _=>Co A1.k rfl F rfl)<|Ig rfl (Ak h24c) (fun a F w M=>Aq (agf Ew rfl) (F.ev rfl) (M.cellL (k:=1) rfl rfl))<|?_
         obtain ⟨be25,oe25,_,Ie25,_,Ae25,hTe25⟩:=SC.at hK
         obtain ⟨c1e25,hcse25,hPe25,hBe25⟩:=hTe25
         obtain ⟨tae25,tce25,kae25,kce25,rfl,hke25,hle25,SAe25,SKe25⟩:=F1 hPe25
         subst hcse25
         have hQe25:-9223372036854775808≤k.base∧k.base≤9223372036854775807:=hBe25
         refine Db rfl (Ak h24c) (fun a F w _=>Ca H5.k Kb (F.ev rfl) (F.ev rfl) (by omega) Ie25)<|Db rfl (Ak h24c) (fun a F w _=>Co Kb.k rfl F rfl)<|Ig rfl (Ak h24c) (fun a F w M=>Aq (agf T7 rfl) (F.ev rfl) (M.cellA Ae25 6 rfl rfl))<|Db rfl (Ak h24c) (fun a F w _=>Wt (F.ev rfl) (F.ev rfl))<|Db rfl (Ai h23c) (fun a F w _=>H4 F rfl (Ak h24c) rfl)<|k_f (fun a F w _=>Gy F rfl (Ai h23c) rfl) rfl<|D1<|Ad<|Av rfl ?_ ?_
         ·intro h26b
          have h26:=dF (Ag h26b)
          have h26c:(decide (Xe9.size=k.base))=false:=(Ag h26b)
          refine Ab<|Ac<|Af rfl<|Aa<|Ad<|Aj<|Bo<|Aw<|Aw<|Bo<|Aw<|Al rfl rfl<|?_
          exact ⟨M.weaken (.cons _ (.cons _ (.cons _ (.cons _ (.cons _ (sR _)))))),by rw [ck12 hv (by omega) hS hXe9 hok (fun h_=>absurd ((hks _).2 h_) (by assumption)) (by omega) (by unfold I1;rw [J1 hK];clear M;grind)]⟩
         ·intro h27b
          have h27:=dT (Ah h27b)
          have h27c:(decide (Xe9.size=k.base))=true:=(Ah h27b)
          refine Au<|C0<|Ad<|Ac<|B9 rfl rfl<|Ae rfl<|Aa<|Ad<|fun a F=>?_
          exact ⟨_,by omega,i+1,esm16,clm16,(Xe9.item.key::ks),rfl,F.to ⟨rfl,rfl,rfl,rfl,rfl,rfl,trivial⟩,(M.weaken (.cons _ (.cons _ (.cons_cons _ (.cons_cons _ (.cons_cons _ (sR _))))))),by omega,Em16,hks.step hXe9,ck0 hS hXe9 hok (fun h_=>absurd ((hks _).2 h_) (by assumption)) (by omega) (by unfold I1;rw [J1 hK];clear F M;grind)⟩
        ·skip
         have h28:=Ah h28b
         have h28c:(Xe9.known)=true:=(Ah h28b)
         refine k_s rfl (Ai h28c)<|k_s rfl (Ai h28c)<|k_s rfl (Ai h28c)<|k_s rfl (Ai h28c)<|k_s rfl (Ai h28c)<|k_s rfl (Ai h28c)<|k_s rfl (Ai h28c)<|k_s rfl (Ai h28c)<|k_s rfl (Ai h28c)<|k_s rfl (Ai h28c)<|k_s rfl (Ai h28c)<|Db rfl (Ai h23c) (fun a F w _=>Gy F rfl (Ai h28c) rfl)<|k_f (fun a F w _=>Gy F rfl (Ai h23c) rfl) rfl<|D1<|Ad<|D2 rfl rfl<|Au<|C0<|Ad<|Ac<|B9 rfl rfl<|Ae rfl<|Aa<|Ad<|?_
         intro a F
         exact ⟨_,by omega,i+1,esm16,clm16,(Xe9.item.key::ks),rfl,F.to ⟨rfl,rfl,rfl,rfl,rfl,rfl,trivial⟩,(M.weaken (.cons _ (.cons _ (.cons_cons _ (.cons_cons _ (.cons_cons _ (sR _))))))),by omega,Em16,hks.step hXe9,ck0 hS hXe9 hok (fun h_=>absurd ((hks _).2 h_) (by assumption)) (by omega) (by unfold I1;rw [J1 hK];clear F M;grind)⟩
   ·intro h29b
    have h29:=dF h29b
    refine B1<|Bx<|Bx<|Dj<|Ad<|Ab<|Ac<|Ap (fun a F=>Am Bb rfl (F.ev rfl) (cs:=[.slice a1 l.length c1]) rfl (M.cellsL (k:=1) rfl rfl)) rfl<|Br Tq rfl rfl (Vf (l:=l) M S)<|?_;clear M;rintro _ w M rfl
    refine Af rfl<|Aa<|Ad<|Aj<|Al rfl rfl<|?_
    exact ⟨M.weaken (.cons _ (.cons _ (.cons _ (sR _)))),by rw [Jh hv (by omega) hS (by omega)]⟩
open Go Go.Y
set_option linter.unusedSimpArgs false
set_option linter.unusedVariables false
def C8 (c:RulesD) (x:ItemD):EntD:=⟨x,Ob c x,false⟩
def Bp (a n m:Int):Prop:=(0≤a∧a≤m)∧(0≤n∧n≤m - a)
instance (a n m:Int):Decidable (Bp a n m):=by unfold Bp;infer_instance
def Mc (xs:List ItemD) (k:Nat):Prop:=∃ y∈xs,y.key=k
theorem Pe.has {xs:List ItemD} {k:Nat} {z:Int} (h:Pe xs k z):0≤z↔Mc xs k:=by
 rcases h with ⟨rfl,h⟩ | ⟨i,x,rfl,h1,h2,h3⟩
 ·exact ⟨fun h2=>by omega,fun ⟨y,hy,hk⟩=>absurd hk (h y hy)⟩
 ·exact ⟨fun _=>⟨x,List.mem_of_getElem? h1,h2⟩,fun _=>by omega⟩
/-- The error of the item at a place of those that come. -/
noncomputable def Zp (c:RulesD) (l:List EntD) (xs:List ItemD) (i:Nat):Int:=match xs[i]? with
 | some x=>Hl c x (Dr l x.key∨Mc (xs.take i) x.key)
 | none=>0
theorem Ach {c:RulesD} {l:List EntD} {xs:List ItemD} {i:Nat} {x:ItemD} (h:xs[i]?=some x):Zp c l xs i=Hl c x (Dr l x.key∨Mc (xs.take i) x.key):=by unfold Zp;rw [h]
noncomputable def Tf (c:RulesD) (l:List EntD) (xs:List ItemD):Int:=Ce (Zp c l xs) xs.length
def Ea (l:List EntD) (p n:Nat) (fr:List EntD):List EntD:=l.take p++fr++l.drop (p+n)
open Classical in
noncomputable def Eg (c:RulesD) (l:List EntD) (a:Int) (xs:List ItemD):List EntD × Int :=
 if ¬ Bp a 0 l.length then ([],4) else if 1024 < l.length+xs.length then ([],3) else if Tf c l xs≠0 then ([],Tf c l xs)
 else if Ej (Ea l a.toNat 0 (xs.map (C8 c)))≠0 then ([],13) else (Ea l a.toNat 0 (xs.map (C8 c)),0)
section
variable {c:RulesD} {l:List EntD} {a:Int} {xs:List ItemD} {p:Nat}
theorem ins_4 (h:¬ Bp a 0 l.length):Eg c l a xs=([],4):=by unfold Eg;rw [if_pos h]
theorem ins_3 (h:Bp a 0 l.length) (h2:1024 < l.length+xs.length):Eg c l a xs=([],3):=by unfold Eg;rw [if_neg (not_not_intro h),if_pos h2]
theorem ins_e (h:Bp a 0 l.length) (h2:¬ 1024 < l.length+xs.length) (h3:Tf c l xs≠0):Eg c l a xs=([],Tf c l xs):=by unfold Eg;rw [if_neg (not_not_intro h),if_neg h2,if_pos h3]
theorem Akw (h:Bp a 0 l.length) (h2:¬ 1024 < l.length+xs.length) (h3:Tf c l xs=0) (h4:Ej (Ea l a.toNat 0 (xs.map (C8 c)))≠0):Eg c l a xs=([],13):=by
 unfold Eg;rw [if_neg (not_not_intro h),if_neg h2,if_neg (not_not_intro h3),if_pos h4]
theorem Aee (h:Bp a 0 l.length) (h2:¬ 1024 < l.length+xs.length) (h3:Tf c l xs=0) (h4:Ej (Ea l a.toNat 0 (xs.map (C8 c)))=0):Eg c l a xs=(Ea l a.toNat 0 (xs.map (C8 c)),0):=by
 unfold Eg;rw [if_neg (not_not_intro h),if_neg h2,if_neg (not_not_intro h3),if_neg (not_not_intro h4)]
end
def Hu (l:List EntD) (a n:Int):List EntD × Int:=if Bp a n l.length then (Ea l a.toNat n.toNat [],0) else ([],4)
theorem rem_4 {l:List EntD} {a n:Int} (h:¬ Bp a n l.length):Hu l a n=([],4):=by unfold Hu;rw [if_neg h]
theorem Ajc {l:List EntD} {a n:Int} (h:Bp a n l.length):Hu l a n=(Ea l a.toNat n.toNat [],0):=by unfold Hu;rw [if_pos h]
def Pv (l:List EntD) (p n q:Nat):List EntD:=Ea (Ea l p n []) q 0 ((l.drop p).take n)
def Fy (l:List EntD) (a n b:Int):List EntD × Int:=if Bp a n l.length∧Bp b 0 (l.length - n) then (Pv l a.toNat n.toNat b.toNat,0) else ([],4)
theorem mov_4 {l:List EntD} {a n b:Int} (h:¬ (Bp a n l.length∧Bp b 0 (l.length - n))):Fy l a n b=([],4):=by unfold Fy;rw [if_neg h]
theorem mov_0 {l:List EntD} {a n b:Int} (h:Bp a n l.length∧Bp b 0 (l.length - n)):Fy l a n b=(Pv l a.toNat n.toNat b.toNat,0):=by unfold Fy;rw [if_pos h]
open Classical in
noncomputable def Q2 (c:RulesD) (x:ItemD) (other:Prop):Int:=if ¬ ItemOk (c.kinds.length:Int) x then 6 else if other then 9 else if Iu c x=0 then 0 else 14
section
variable {c:RulesD} {x:ItemD} {other:Prop}
theorem chgE_6 (h:¬ ItemOk (c.kinds.length:Int) x):Q2 c x other=6:=by unfold Q2;rw [if_pos h]
theorem chgE_9 (h:ItemOk (c.kinds.length:Int) x) (h2:other):Q2 c x other=9:=by unfold Q2;rw [if_neg (not_not_intro h),if_pos h2]
theorem chgE_14 (h:ItemOk (c.kinds.length:Int) x) (h2:¬ other) (h3:¬ Iu c x=0):Q2 c x other=14:=by unfold Q2;rw [if_neg (not_not_intro h),if_neg h2,if_neg h3]
theorem chgE_0 (h:ItemOk (c.kinds.length:Int) x) (h2:¬ other) (h3:Iu c x=0):Q2 c x other=0:=by unfold Q2;rw [if_neg (not_not_intro h),if_neg h2,if_pos h3]
theorem Ahp:Q2 c x other=0↔ItemOk (c.kinds.length:Int) x∧¬ other∧Iu c x=0:=by
 unfold Q2
 split
 ·rename_i h;exact ⟨fun h2=>(by cases h2),fun h2=>absurd h2.1 h⟩
 ·rename_i h
  split
  ·rename_i h1;exact ⟨fun h2=>(by cases h2),fun h2=>absurd h1 h2.2.1⟩
  ·rename_i h1
   split
   ·rename_i h2;exact ⟨fun _=>⟨Classical.byContradiction h,h1,h2⟩,fun _=>rfl⟩
   ·rename_i h2;exact ⟨fun h3=>(by cases h3),fun h3=>absurd h3.2.2 h2⟩
end
def Sp (l:List EntD) (p:Nat) (k:Nat):Prop:=∀ y,l[p]?=some y→y.item.key≠k
noncomputable def Mh (c:RulesD) (l:List EntD) (p:Nat) (xs:List ItemD) (i:Nat):Int:=match xs[i]? with
 | some x=>Q2 c x (Sp l (p+i) x.key)
 | none=>0
theorem Amv {c:RulesD} {l:List EntD} {p:Nat} {xs:List ItemD} {i:Nat} {x:ItemD} (h:xs[i]?=some x):Mh c l p xs i=Q2 c x (Sp l (p+i) x.key):=by unfold Mh;rw [h]
open Classical in
noncomputable def Ha (c:RulesD) (l:List EntD) (a:Int) (xs:List ItemD):List EntD × Int :=
 if ¬ Bp a xs.length l.length then ([],4) else if Ce (Mh c l a.toNat xs) xs.length≠0 then ([],Ce (Mh c l a.toNat xs) xs.length)
 else if Ej (Ea l a.toNat xs.length (xs.map (C8 c)))≠0 then ([],13) else (Ea l a.toNat xs.length (xs.map (C8 c)),0)
section
variable {c:RulesD} {l:List EntD} {a:Int} {xs:List ItemD} {i:Nat} {x:ItemD}
theorem chg_4 (h:¬ Bp a xs.length l.length):Ha c l a xs=([],4):=by unfold Ha;rw [if_pos h]
theorem Amw (h:Bp a xs.length l.length) (h2:Ce (Mh c l a.toNat xs) xs.length=0) (h4:Ej (Ea l a.toNat xs.length (xs.map (C8 c)))≠0):Ha c l a xs=([],13):=by
 unfold Ha;rw [if_neg (not_not_intro h),if_neg (not_not_intro h2),if_pos h4]
theorem chg_0 (h:Bp a xs.length l.length) (h2:Ce (Mh c l a.toNat xs) xs.length=0) (h4:Ej (Ea l a.toNat xs.length (xs.map (C8 c)))=0):Ha c l a xs=(Ea l a.toNat xs.length (xs.map (C8 c)),0):=by
 unfold Ha;rw [if_neg (not_not_intro h),if_neg (not_not_intro h2),if_neg (not_not_intro h4)]
end
/-! ### How they are put together, step by step -/
theorem Kh {l:List EntD} {p n:Nat} {fr:List EntD} (h:p+n≤l.length):(Ea l p n fr).length=l.length - n+fr.length:=by
 unfold Ea;simp;omega
theorem Mu {l:List EntD} {p n:Nat} (h:p+n≤l.length):(Ea l p n []).length=l.length - n:=by rw [Kh h];simp
open Go Go.Y Go.Proofs
set_option linter.unusedSimpArgs false
set_option linter.unusedVariables false
theorem Aiz {c:RulesD} {G:A4} {a:Option Addr} {n:Nat} (S:Ay Du 9 G (.slice a c.kinds.length n) c.kinds) {x:ItemD} {k:KindD} (h:c.kinds[x.typ]?=some k):A2 .i64 (Ob c x):=by
 rw [J1 h]
 obtain ⟨b,o,cs,_,_,_,_,hr⟩:=S.index h
 obtain ⟨_,_,_,h3⟩:=hr
 exact h3
open Go Go.Y Go.Proofs
set_option linter.unusedSimpArgs false
set_option linter.unusedVariables false
section
variable {c:RulesD} {x:ItemD}
theorem Sn {l:List EntD} {q k:Nat} {y:EntD} (h:l[q]?=some y):Sp l q k↔y.item.key≠k:=⟨fun h2=>h2 y h,fun h2 z hz=>by rw [h] at hz;simp only [Option.some.injEq] at hz;subst hz;exact h2⟩
end
end Go.Proofs.YtmmhmcplegpenaaGreatDoor
namespace Go.Y
open Go
set_option linter.unusedSimpArgs false
set_option linter.unusedVariables false
section
variable {w0 w:World} {G:A4} {L Ls:List Res}
open Classical in
/-- The ghost with the blocks of these resources in it, as they are now. -/
noncomputable def O1 (G:A4) (Ls:List Res) (w:World):A4:=fun r=>if ∃ x∈Ls,x.foot=some r then w.heap[r]? else G r
theorem Aeb {x:Res} (hx:x∈Ls) {b:Nat} (hb:x.foot=some b):O1 G Ls w b=w.heap[b]?:=by
 unfold O1;rw [if_pos ⟨x,hx,hb⟩]
theorem Mem.lend (M:Mem w0 G (Ls++L) w):Gle G (O1 G Ls w)∧Mem w0 (O1 G Ls w) L w:=by
 have hfree:∀ r,(∃ x∈Ls,x.foot=some r)→G r=none:=fun r ⟨x,hx,hb⟩=>M.free x (List.mem_append_left _ hx) r hb
 refine ⟨fun r o hr=>?_,⟨M.os,M.tape,M.output,M.grow,fun r o hr=>?_,fun x hx=>M.own x (List.mem_append_right _ hx),fun x hx b hb=>?_,(List.pairwise_append.1 M.apart).2.1⟩⟩
 ·unfold O1
  by_cases h:∃ x∈Ls,x.foot=some r
  ·rw [hfree r h] at hr;cases hr
  ·rw [if_neg h];exact hr
 ·unfold O1 at hr
  by_cases h:∃ x∈Ls,x.foot=some r
  ·rw [if_pos h] at hr;exact hr
  ·rw [if_neg h] at hr;exact M.pers r o hr
 ·unfold O1
  rw [if_neg]
  ·exact M.free x (List.mem_append_right _ hx) b hb
  ·rintro ⟨y,hy,hyb⟩
   exact (List.pairwise_append.1 M.apart).2.2 y hy x hx b hyb hb
/-- What was lent is owned again. -/
theorem Mem.back {w':World} (M:Mem w0 G (Ls++L) w) (M':Mem w0 (O1 G Ls w) L w'):Mem w0 G (Ls++L) w':=by
 have hle:=M.lend.1
 refine ⟨M'.os,M'.tape,M'.output,M'.grow,fun r o hr=>M'.pers r o (hle r o hr),fun x hx=>?_,M.free,M.apart⟩
 rcases List.mem_append.1 hx with hx | hx
 ·refine Res.holds_of (M.own x (List.mem_append_left _ hx)) fun b hb=>?_
  have hlt:=Res.foot_lt (M.own x (List.mem_append_left _ hx)) hb
  have h1:O1 G Ls w b=some w.heap[b]:=by rw [Aeb hx hb];exact Array.getElem?_eq_getElem hlt
  rw [M'.pers b _ h1,Array.getElem?_eq_getElem hlt]
 ·exact M'.own x hx
/-- A row that is lent reads as a slice. -/
theorem Zl {α:Type} {rd:Rd α} {sz:Nat} {a:Option Addr} {c:Nat} {cs:List Value} {t:TypeId} {xs:List α} (M:Mem w0 G (Ls++L) w) (hx:Res.row (.slice a xs.length c) xs.length cs t sz∈Ls) (hE:Els rd sz (O1 G Ls w) cs xs) (hs:0 < sz) :
  Ay rd sz (O1 G Ls w) (.slice a xs.length c) xs:=by
 obtain ⟨⟨hl,h2⟩,h1⟩:=M.own _ (List.mem_append_left L hx)
 rcases h2 with ⟨h,h0⟩ | ⟨g,cap,cur,hv,_,hg,hnc,hcm,hcs,htake⟩
 ·have:xs=[]:=List.eq_nil_of_length_eq_zero h0
  subst this
  simp only [Value.slice.injEq] at h
  obtain ⟨rfl,_,rfl⟩:=h
  exact Ay.nil
 ·simp only [Value.slice.injEq,true_and] at hv
  obtain ⟨rfl,rfl⟩:=hv
  refine Ay.of_cells (cs:=cs) hE h1 ?_ hnc (by simpa [maxLen] using hcm)
  intro j u hj
  have hj':j < xs.length * sz:=by
   rw [← hl]
   rcases Nat.lt_or_ge j cs.length with h' | h'
   ·exact h'
   ·simp [List.getElem?_eq_none h'] at hj
  rw [← htake,List.getElem?_take,if_pos hj'] at hj
  have h9:O1 G Ls w g=some (.cells cur t (0,0)):=by rw [Aeb hx rfl];exact hg
  simp only [Hm,h9,Nat.zero_add]
  simpa using hj
end
end Go.Y
