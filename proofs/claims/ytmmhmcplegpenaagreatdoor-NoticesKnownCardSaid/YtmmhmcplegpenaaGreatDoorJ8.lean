/- Own lemmas and walks. -/
import Derived.Test.YtmmhmcplegpenaaGreatDoorJ7
import Derived.RangeFuncLeaves
import Derived.RangeFuncSeq
import Derived.RangeFuncCalls
import Derived.Test.YtmmhmcplegpenaaGreatDoorJ1
import Derived.Test.YtmmhmcplegpenaaGreatDoorJ5
set_option linter.unusedSimpArgs false
set_option linter.unusedVariables false
set_option maxRecDepth 10000
set_option maxHeartbeats 1600000
open Go.Value renaming slice→vS,string→vT,int→vI,bool→vB,pointer→vP
open Go.IntKind renaming i64→kI,u64→kU
open Go.Lib renaming cut→xC
open Go.Proofs.Tryz renaming prog→pG
open Go.Y.Res renaming blk→rB,row→rR
open Go.Y (pP qT iI iB iU sN)
open List renaming length_append→lA,length_cons→lC,length_nil→lN,length_take→lT,length_drop→lD,mem_of_getElem?→mG,mem_cons→mC,length_map→lM
namespace Go.Y
open Go
section
variable {P:Program} {ops:Array Oper} {Q:Exit→Act→World→Prop} {w0 w:World} {G:Av} {L:List Res} {n d:Nat} {a:Act} {e:Env} {t:TypeId} {p:String} {af:Array Edge} {r:List Oper}
abbrev Rnd (l:Nat):Fence:=Fence.wide.inRound l
def U7 (o:Oper):Bool:=match o.op with | .defer _=>false | _=>true
theorem Akp {l m:Nat} {o:Oper} {next A:Act→World→Prop} (N:U7 o=true) (h:o.wp P a w next Q) (E:∀ a w,next a w→A a w):o.wpIn (Rnd l) m P a w A Q:=by
 refine ⟨fun _ _=>trivial,?_⟩;have H:∀ c,o.op≠.defer c:=fun c S=>by simp [U7,S] at N
 rw [show (Rnd l).round=some l from rfl,Oper.semAt_some l _ _ H];unfold Oper.wp at h;have D:(Rnd l).depth.isSome=true→1≤m:=fun h=>by cases h
 generalize (execOp a.eval o).run P w=res at h
 cases res with
 | ok nx w' =>
  cases nx with
  | value v=>exact E _ _ h
  | skip=>exact E _ _ h
  | defer d=>exact E _ _ h
  | enter f args =>
   refine ⟨D,CallsIn.inRound l (callsIn_wide.2 (Calls.mono h fun x I O=>?_))⟩
   cases x with
   | returned v=>exact E _ _ O
   | panicked c=>exact O
   | outgrown=>exact O
  | row row args =>
   exact ⟨D,fun c cs _=>let ⟨v,I,r',s⟩:=h c cs;⟨v,I,E _ _ r',stepsIn_wide.2 s⟩⟩
  | _=>exact h.elim
 | halt x w' =>
  cases x with
  | panic v=>exact h
  | _=>exact h.elim
theorem Ji {l m:Nat}:∀ (is:List Nat) (a:Act) (w:World),(∀ (i:Nat) (o:Oper),ops[i]?=some o→U7 o=true)→rl P ops Q (is.filterMap (ops[·]?)) a w→wpOpsIn (Rnd l) m P ops Q is a w
 | [],a,w,_,h=>h
 | i::is,a,w,hnd,h=>by
  cases ho:ops[i]? with
  | none =>
   simp only [wpOpsIn,ho];simp only [List.filterMap_cons,ho] at h
   exact Ji is a w hnd h
  | some o =>
   simp only [wpOpsIn,ho];simp only [List.filterMap_cons,ho,rl] at h
   by_cases hw:Region.wanted o (yielded ops a.tmps)=true
   ·simp only [hw,if_true]
    exact Akp (hnd i o ho) (h.1 hw) (fun a w=>Ji is a w hnd)
   ·simp only [hw]
    exact ⟨fun _ _=>trivial,Ji is _ _ hnd (h.2 (by simpa using hw))⟩
theorem J0 {l m id:Nat} {os:List Oper} (A:os.all U7=true) (h:rl P os.toArray Q os a w):(Code.region id os.toArray false).wpIn (Rnd l) m P Q a w :=
 wpIn_region (Ji _ a w (fun i o D=>List.all_eq_true.1 A o (by simpa using mG (by simpa using D))) (by rw [Ju];simpa using h))
theorem Rf {A:Fence} {m:Nat} {c:Operand} {x y:Code} {t:Bool} (F:Fits n a e) (D:ev e c=some (vB t)) (H:t=true→x.wpIn A m P Q a w) (E:t=false→y.wpIn A m P Q a w):(Code.cond c x y).wpIn A m P Q a w :=
 wpIn_cond_split (F.ev D) H E
theorem Vj {A:Fence} {m:Nat} {c:Operand} {x y:Code} {t:Bool} (F:Fits n a e) (D:ev e c=some (vB t)) (E:t=true) (k:x.wpIn A m P Q a w):(Code.cond c x y).wpIn A m P Q a w :=
 wpIn_cond_split (F.ev D) (fun _=>k) (fun h=>by rw [E] at h;cases h)
theorem Aiv {A:Fence} {m:Nat} {c:Operand} {x y:Code} {t:Bool} (F:Fits n a e) (D:ev e c=some (vB t)) (E:t=false) (k:y.wpIn A m P Q a w):(Code.cond c x y).wpIn A m P Q a w :=
 wpIn_cond_split (F.ev D) (fun h=>by rw [E] at h;cases h) (fun _=>k)
theorem Avo {T:Fence} {m:Nat} {c:Code} (I:Nat→Act→World→Prop) (Y:Nat) (h0:I Y a w)
  (D:∀ k a w,I k a w→c.wpIn T m P (Exit.then (fun H w'=>∃ k',k' < k∧I k' H w') Q) a w):(Code.loop c).wpIn T m P Q a w:=by
 classical
 have N:∀ a w,(∃ k,I k a w)→∃ k,I k a w∧∀ j,I j a w→k≤j:=by
  intro a w ⟨k,hk⟩
  induction k using Nat.strongRecOn with
  | _ k ih =>
   by_cases h:∃ j,j < k∧I j a w
   ·obtain ⟨j,h1,h2⟩:=h;exact ih j h1 h2
   ·exact ⟨k,hk,fun j hj=>Nat.le_of_not_lt fun S=>h ⟨j,S,hj⟩⟩
 refine wpIn_loop (fun a w=>∃ k,I k a w) (fun a w=>if h:∃ k,I k a w then Classical.choose (N a w h) else 0) ⟨Y,h0⟩ fun a w U=>?_;have hc:=Classical.choose_spec (N a w U);refine wpIn_mono (D _ a w hc.1) fun x H w' V=>?_
 cases x with
 | normal =>
  obtain ⟨k',O,E⟩:=V;have A:∃ k,I k H w':=⟨k',E⟩;refine ⟨A,?_⟩;rw [dif_pos U,dif_pos A]
  exact Nat.lt_of_le_of_lt ((Classical.choose_spec (N H w' A)).2 k' E) O
 | _=>exact V
def rlW (P:Program) (m:Nat) (ops:Array Oper) (Q:Exit→Act→World→Prop):List Oper→Act→World→Prop
 | [],a,w=>Q .normal a w
 | o::r,a,w =>
  (Region.wanted o (yielded ops a.tmps)=true→o.wpIn Fence.wide m P a w (rlW P m ops Q r) Q) ∧
  (Region.wanted o (yielded ops a.tmps)=false→rlW P m ops Q r (a.put o.dst undef) w)
theorem D4 {m:Nat}:∀ (is:List Nat) (a:Act) (w:World),rlW P m ops Q (is.filterMap (ops[·]?)) a w→wpOpsIn Fence.wide m P ops Q is a w
 | [],a,w,h=>h
 | i::is,a,w,h=>by
  cases ho:ops[i]? with
  | none =>
   simp only [wpOpsIn,ho];simp only [List.filterMap_cons,ho] at h
   exact D4 is a w h
  | some o =>
   simp only [wpOpsIn,ho];simp only [List.filterMap_cons,ho,rlW] at h
   by_cases hw:Region.wanted o (yielded ops a.tmps)=true
   ·simp only [hw,if_true];have h1:=h.1 hw;refine ⟨h1.1,?_⟩;have h2:=h1.2
    generalize (Oper.semAt Fence.wide.round a.eval o).run P w=res at h2 ⊢
    cases res with
    | ok nx w' =>
     cases nx with
     | value v=>exact D4 is _ _ h2
     | skip=>exact D4 is _ _ h2
     | defer d=>exact D4 is _ _ h2
     | enter f args =>
      refine ⟨h2.1,CallsIn.mono h2.2 fun x w'' hx=>?_⟩
      cases x with
      | returned v=>exact D4 is _ _ hx
      | panicked c=>exact hx
      | outgrown=>exact hx
     | row row args=>exact ⟨h2.1,RowsIn.mono h2.2 fun v w'' hx=>D4 is _ _ hx⟩
     | round l f tmps assign body =>
      refine ⟨h2.1,RoundIn.mono h2.2 fun x w'' hx=>?_⟩
      cases x with
      | returned v=>exact D4 is _ _ hx
      | panicked c=>exact hx
      | outgrown=>exact hx
     | _=>exact h2
    | halt x w' =>
     cases x with
     | panic v=>exact h2
     | _=>exact h2
   ·simp only [hw]
    exact ⟨fun _ _=>trivial,D4 is _ _ (h.2 (by simpa using hw))⟩
theorem w_regW {m id:Nat} {os:List Oper} (h:rlW P m os.toArray Q os a w):(Code.region id os.toArray false).wpIn Fence.wide m P Q a w :=
 wpIn_region (D4 _ a w (by rw [Ju];simpa using h))
theorem Aco {m:Nat} {op:Op} {v:Value} {w':World} (F:Fits n a e) (E:(execOp a.eval ⟨some d,op,t,p,af,none⟩).run P w=.ok (.value v) w') (D:Nat.ble (d+1) n=true)
  (k:∀ A,Fits n A ((d,v)::e)→rlW P m ops Q r A w'):rlW P m ops Q (⟨some d,op,t,p,af,none⟩::r) a w:=by
 refine ⟨fun _=>⟨fun _ _=>trivial,?_⟩,fun h=>by simp [Region.wanted] at h⟩
 show Oper.uponIn _ _ _ _ _ _ _ ((execOp a.eval ⟨some d,op,t,p,af,none⟩).run P w)
 rw [E]
 exact k _ (F.put D)
theorem Aqx {m l:Nat} {D:Operand} {args:List Operand} {E:Array TypeId} {vs:List Value} {R:Ending→World→Prop} (F:Fits n a e) (Y:ev e D=some (.func (.yield l) #[] #[])) (hv:evs e args=some vs) (hd:Nat.ble (d+1) n=true)
  (hy:YieldAt Fence.wide (m - 1) P l vs.toArray w R) (k:∀ x w',R x w'→∃ b,x=.returned (vB b)∧∀ N,Fits n N ((d,vB b)::e)→rlW P m ops Q r N w') :
  rlW P m ops Q (⟨some d,.call ⟨.value D,args.toArray,E⟩,t,p,af,none⟩::r) a w:=by
 refine ⟨fun _=>⟨fun _ _=>trivial,?_⟩,fun h=>by simp [Region.wanted] at h⟩;obtain ⟨O,I,A,H,S,T⟩:=hy;have hr:(execOp a.eval ⟨some d,.call ⟨.value D,args.toArray,E⟩,t,p,af,none⟩).run P w=.ok (.round l O I A H) w:=by
  have U:=F.ev Y;have V:=F.evs hv;simp only [execOp,resolve,U,Deferred.ofValue,Sem.run_bind,Sem.run_pure,Result.andThen_ok,invoke];rw [show (#[]++Array.map a.eval args.toArray)=vs.toArray by simp [← V]]
  exact S
 show Oper.uponIn _ _ _ _ _ _ _ ((execOp a.eval ⟨some d,.call ⟨.value D,args.toArray,E⟩,t,p,af,none⟩).run P w)
 rw [hr];refine ⟨(fun h=>by cases h),RoundIn.mono T fun x w' hx=>?_⟩;obtain ⟨b,rfl,hk⟩:=k x w' hx
 exact hk _ (F.put hd)
def Mn (ds:List Deferred) (a:Act):Act:={ a with defers:=a.defers++ds }
theorem Yo (ds:List Deferred) (a:Act) (d:Option Tmp) (v:Value):(Mn ds a).put d v=Mn ds (a.put d v):=by cases d <;> rfl
theorem Acn {Q:Exit→Act→World→Prop} {ds:List Deferred}:∀ (l:List Oper) (a:Act) (w:World),rl P ops (fun e a w=>Q e (Mn ds a) w) l a w→rl P ops Q l (Mn ds a) w
 | [],a,w,h=>h
 | o::l,a,w,h=>by
  refine ⟨fun hw=>?_,fun hw=>?_⟩
  ·have h1:=Oper.wp_mono (fun a w=>Acn (Q:=Q) (ds:=ds) l a w) (h.1 hw);unfold Oper.wp at h1 ⊢;rw [show (Mn ds a).eval=a.eval from rfl]
   generalize (execOp a.eval o).run P w=r at h1 ⊢
   cases r with
   | ok nx w' =>
    cases nx <;> simp only [Oper.upon,Yo] at h1 ⊢
    case value u=>exact h1
    case skip=>exact h1
    case defer d=>rw [show ({ tmps:=(Mn ds a).tmps,defers:=d::(Mn ds a).defers }:Act)=Mn ds { tmps:=a.tmps,defers:=d::a.defers } from rfl,Yo];exact h1
    case enter f args =>
     refine Calls.mono h1 fun e w'' he=>?_
     cases e with
     | returned u=>exact he
     | panicked c=>exact he
     | outgrown=>obtain ⟨a0,w0,h0⟩:=he;exact ⟨_,w0,h0⟩
    case row row args=>exact h1
   | halt x w'=>cases x <;> simp only [Oper.upon] at h1 ⊢ <;> exact h1
  ·rw [Yo];exact Acn l _ _ (h.2 hw)
abbrev W0:Fence:=Fence.wide
theorem Qf {m id:Nat} {os:List Oper} (h:rl P os.toArray Q os a w):(Code.region id os.toArray false).wpIn W0 m P Q a w:=wpIn_wide.2 (Avn h)
theorem w_regXD {m id:Nat} {ds:List Deferred} {os:List Oper} (h:rl P os.toArray (fun e a w=>Q e (Mn ds a) w) os a w):(Code.region id os.toArray false).wpIn W0 m P Q (Mn ds a) w:=wpIn_wide.2 (Avn (Acn _ _ _ h))
theorem Si {R:Ending→World→Prop} {f:FuncId} {A:Func} {c:Code} {vs:List Value} (N:P.funcs[f]?=some A) (I:A.body=some c) {n:Nat} (S:A.ntmps=n) (T:Nat.ble vs.length n=true)
  (h:∀ a,Fits n a (Uu 0 vs)→c.wpIn W0 0 P (bodyPostM W0 0 P A R) a w):Calls P f vs.toArray w R:=by
 have U:=Nat.le_of_ble_eq_true T;refine (callsIn_wide (n:=0)).1 (callsIn_of_wp_marks N I trivial (h _ ⟨by simp [S];omega,rfl,?_⟩));intro i v O;obtain ⟨_,E⟩:=Qw vs 0 i v O;have H:i < vs.length:=by
  rcases Nat.lt_or_ge i vs.length with D | D
  ·exact D
  simp [List.getElem?_eq_none D] at E
 simp only [Nat.sub_zero] at E;rw [Array.getElem?_append_left (by simpa using H)]
 simpa using E
def Nw (a:Act) (ps:Array Tmp) (assign body:Code) (fn D:Nat) (st:LoopState) (pe:Option Code):Loop:={ state:=st,pending:=pe,fn,tmps:=a.tmps,params:=ps,assign,body,defers:=D }
def Qa (D:Nat):Deferred:={ target:=.collected D,args:=#[] }
theorem U9 {b:Nat} {o o':Obj} {w':World} (M:Mem w0 G (.obj b o::L) w) (h:w' = w.putObj b o'):Mem w0 G (.obj b o'::L) w':=by
 subst h;have D:w.heap[b]?=some o:=M.own (.obj b o) (by simp)
 exact M.swap_head (y:=.obj b o') rfl (World.putObj_heap_same (Array.getElem?_eq_some_iff.1 D).1) rfl rfl rfl (by simp) (fun E A=>World.putObj_heap_other (fun e=>A (by rw [e];rfl)))
theorem Abl {g:Operand} {ps:Array Tmp} {A E:Code} {U m:Nat} {lb:List Value} (F:Fits n a e) (M:Mem w0 G L w) (hg:ev e g=some (.func (.func U) #[] lb.toArray)) (hE:Ent P U)
  (h:∀ H l D W,Mem w0 G (.obj l (.loop (Nw a ps A E H D .ready none))::.obj D (.deferred (some []))::L) W →
   Calls P U (#[.func (.yield l) #[] #[]]++lb.toArray) W fun x W'=>∃ v I G2 L2 T,x=.returned v∧T≠LoopState.busy∧Gle G G2∧Mem w0 G2 (.obj l (.loop (Nw a ps A E H D T I))::.obj D (.deferred (some []))::L2) W' ∧
    ∀ N,Mem w0 G2 (.obj D (.deferred (some []))::L2) N→match I with
     | none=>Q .normal (Mn [Qa D] a) N
     | some c=>c.wpIn W0 m P Q (Mn [Qa D] a) N) :
  (Code.rangeFunc g ps A E).wpIn W0 m P Q a w:=by
 refine wpIn_rangeFunc ?_;intro H _;have hd:Mn [Qa w.heap.size] a = { a with defers:=[{ target:=.collected w.heap.size,args:=#[] }]++a.defers }:=by unfold Mn Qa;rw [F.defers];rfl
 have M1:=(M.new (.deferred (some [])));have M2:=M1.new (.loop (Nw a ps A E H w.heap.size .ready none));have aa:(({ w with heap:=w.heap.push (.deferred (some [])) }:World)).heap.size=w.heap.size+1:=by simp
 rw [aa] at M2;have V:=run_enterLoop_outer (P:=P) (w:=w) H a.tmps ps A E;have ab:=F.ev hg;obtain ⟨W1,O⟩:∃ W1,(w.alloc (.deferred (some []))).alloc (.loop (Nw a ps A E H w.heap.size .ready none))=W1:=⟨_,rfl⟩;have Y:(Instr.enterLoop H a.tmps ps A E none).run P w=.ok (w.heap.size+1,[{ target:=.collected w.heap.size,args:=#[] }]) W1:=by rw [V,← O];rfl
 have M3:Mem w0 G (.obj (w.heap.size+1) (.loop (Nw a ps A E H w.heap.size .ready none))::.obj w.heap.size (.deferred (some []))::L) W1:=by rw [← O];exact M2
 clear V M1 M2 aa O;have ac:=S7 (P:=P) (w:=W1) (args:=#[.func (.yield (w.heap.size+1)) #[] #[]]++lb.toArray) hE;refine ⟨w.heap.size+1,[{ target:=.collected w.heap.size,args:=#[] }],W1,{ target:=.fn (.func U) lb.toArray,args:=#[.func (.yield (w.heap.size+1)) #[] #[]] },W1,U,#[.func (.yield (w.heap.size+1)) #[] #[]]++lb.toArray,W1,Y,?_,fun _ _=>trivial,?_,(fun h=>by cases h),?_⟩
 ·simp only [resolve,rangeCall,ab]
  simp [go_sem]
 ·simp only [invoke]
  exact ac
 ·refine callsIn_wide.2 (Calls.mono (h H _ _ _ M3) ?_);rintro x W' ⟨v,I,G2,L2,T,rfl,ae,hG,M4,hk⟩;have hb:W'.heap[w.heap.size+1]?=some (.loop (Nw a ps A E H w.heap.size T I)):=M4.own (.obj (w.heap.size+1) (.loop (Nw a ps A E H w.heap.size T I))) (by simp);have M5:=(U9 (o':=.loop { Nw a ps A E H w.heap.size T I with state:=.exhausted }) M4 rfl).wn (List.sublist_cons_self _ _);have S:=hk _ M5;rw [hd] at S
  exact ⟨I,_,run_endLoop hb ae,by cases I with
   | none=>exact S
   | some c=>exact S⟩
theorem yield2 {l m N D i j:Nat} {I v2:Value} {A E:Code} {e0:Env} {H:Act} {R:Ending→World→Prop} (F:Fits n H e0) (hi:Nat.ble (i+1) n=true) (hj:Nat.ble (j+1) n=true)
  (M:Mem w0 G (.obj l (.loop (Nw H #[i,j] A E N D .ready none))::L) w)
  (h:∀ V,Fits n V ((j,v2)::(i,I)::e0)→A.wpIn (Rnd l) m P (Exit.then (fun Y w2=>∀ U,Mem w0 G (.obj l (.loop (Nw H #[i,j] A E N D .busy none))::L) U→w2=w∧E.wpIn (Rnd l) m P (roundPost P l R) Y U) (fun _ _ _=>False)) V w) :
  YieldAt W0 m P l #[I,v2] w R:=by
 have hb:w.heap[l]?=some (.loop (Nw H #[i,j] A E N D .ready none)):=M.own (.obj l (.loop (Nw H #[i,j] A E N D .ready none))) (by simp);have hz:((#[i,j]:Array Tmp).zip #[I,v2]).foldl (fun t (x:Tmp × Value)=>t.setIfInBounds x.1 x.2) H.tmps=(H.tmps.setIfInBounds i I).setIfInBounds j v2:=by simp
 have hy:=run_yield (P:=P) (args:=#[I,v2]) hb rfl;have S:(Instr.yield l #[I,v2]).run P w=.ok (.round l N ((H.tmps.setIfInBounds i I).setIfInBounds j v2) A E) w:=by rw [← hz];exact hy
 refine ⟨N,_,A,E,S,roundIn_of_wpIn trivial (wpIn_mono (h _ ?_) ?_)⟩
 ·have T:=(F.put (v:=I) hi).put (v:=v2) hj
  exact ⟨T.size,rfl,T.slot⟩
 ·intro x Y w2 hq
  cases x with
  | normal =>
   have M2:=U9 (o':=.loop (Nw H #[i,j] A E N D .busy none)) M rfl;obtain ⟨rfl,O⟩:=hq _ M2
   exact ⟨_,run_beginRound hb rfl,O⟩
  | _=>exact hq
theorem Pc {l N D:Nat} {ps:Array Tmp} {A H:Code} {I:Act} (E:Option Code) (M:Mem w0 G (.obj l (.loop (Nw I ps A H N D .busy none))::L) w) :
  ∃ w',(Instr.endRound l E).run P w=.ok (vB E.isNone) w'∧Mem w0 G (.obj l (.loop (Nw I ps A H N D (if E.isNone then .ready else .done) E))::L) w' :=
 ⟨_,run_endRound E (M.own (.obj l (.loop (Nw I ps A H N D .busy none))) (by simp)),U9 M rfl⟩
theorem Acp {fn:Func} {H:Env} {t u s A D E k1 k2 k3 I b2 N:Nat} {x y z:Value} (F:Fits n a H) (M:Mem w0 G L w) (O:L[k1]?=some (rB I [x] A)) (S:L[k2]?=some (rB b2 [y] D)) (T:L[k3]?=some (rB N [z] E))
  (hf:fn.results = #[.cell t A,.cell u D,.cell s E]) (h1:(tk P A).agg=some false) (h2:(tk P D).agg=some false) (h3:(tk P E).agg=some false)
  (U:look H t=some (pP I)) (V:look H u=some (pP b2)) (Y:look H s=some (pP N)) :
  (results fn a.tmps).run P w=.ok (.tuple #[x,y,z]) w:=by
 have l1:(loadVar A ⟨I,0,none⟩).run P w=.ok x w:=Hs h1 (M.cellL O rfl);have l2:(loadVar D ⟨b2,0,none⟩).run P w=.ok y w:=Hs h2 (M.cellL S rfl);have l3:(loadVar E ⟨N,0,none⟩).run P w=.ok z w:=Hs h3 (M.cellL T rfl)
 simp [results,hf,F.slot _ _ U,F.slot _ _ V,F.slot _ _ Y,asAddr,l1,l2,l3]
theorem finM {A:Func} {R:Ending→World→Prop} {D:Env} {v:Value} (F:Fits n a D) (E:(results A a.tmps).run P w=.ok v w) (h:R (.returned v) w):bodyPostM W0 0 P A R .ret a w:=by
 show LeavesInM _ _ _ _ _ _ a.defers _ _
 rw [F.defers]
 exact ⟨v,E,h⟩
theorem finMD {E:Func} {R:Ending→World→Prop} {H:Env} {v:Value} {D:Nat} (F:Fits n a H) (M:Mem w0 G (.obj D (.deferred (some []))::L) w) (I:∀ w',Mem w0 G L w'→(results E a.tmps).run P w' = .ok v w') (h:∀ w',Mem w0 G L w'→R (.returned v) w'):bodyPostM W0 0 P E R .ret (Mn [Qa D] a) w:=by
 show LeavesInM _ _ _ _ _ _ (Mn [Qa D] a).defers _ _
 rw [show (Mn [Qa D] a).defers=[Qa D] by unfold Mn;rw [F.defers];rfl];have A:=(U9 (o':=.deferred none) M rfl).wn (List.sublist_cons_self _ _)
 exact ⟨by simp,Or.inl ⟨D,_,rfl,run_takeDeferred (M.own (.obj D (.deferred (some []))) (by simp)),v,I _ A,h _ A⟩⟩
theorem finMn {A:Func} {R:Ending→World→Prop} {D:Env} {v:Value} (F:Fits n a D) (E:(results A a.tmps).run P w=.ok v w) (h:R (.returned v) w):bodyPostM W0 0 P A R .normal a w:=finM F E h
theorem Amo {m:Nat} (h:Q .normal a w):rlW P m ops Q [] a w:=h
theorem Abk {g:Operand} {ps:Array Tmp} {A E:Code} {T m:Nat} {V:List Value} (F:Fits n a e) (M:Mem w0 G L w) (hg:ev e g=some (.func (.func T) #[] V.toArray)) (hE:Ent P T)
  (h:∀ O l D (Rc:LoopState→Option Code→Res) W,(∀ N I,Rc N I=.obj l (.loop (Nw a ps A E O D N I)))→Mem w0 G (Rc .ready none::.obj D (.deferred (some []))::L) W →
   Calls P T (#[.func (.yield l) #[] #[]]++V.toArray) W fun x W'=>∃ v I S U N,x=.returned v∧N≠LoopState.busy∧Gle G S∧Mem w0 S (Rc N I::.obj D (.deferred (some []))::U) W' ∧
    ∀ H,Mem w0 S (.obj D (.deferred (some []))::U) H→match I with
     | none=>Q .normal (Mn [Qa D] a) H
     | some c=>c.wpIn W0 m P Q (Mn [Qa D] a) H) :
  (Code.rangeFunc g ps A E).wpIn W0 m P Q a w :=
 Abl F M hg hE fun O l D W Y=>h O l D (fun N I=>.obj l (.loop (Nw a ps A E O D N I))) W (fun _ _=>rfl) Y
end
end Go.Y
namespace Go.Proofs.YtmmhmcplegpenaaGreatDoor
open Go Go.Y Go.Proofs
variable {w0 w:World} {G:Av} {L:List Res}
theorem cut_lt9 {s:List UInt8} (h:¬ s=[]):(xC s [10]).2.1.length < s.length:=by
 have A:=List.length_pos_iff.2 h;rw [Ni]
 split
 ·simp only [lD];omega
 simpa using A
theorem Ahe {w0:World} {Rc:LoopState→Option Code→Res} {DD:Res} {l sb:Nat} {J:List UInt8→Av→List Res→Prop} {Jx:Code→Av→List Res→Prop}
  (hy:∀ (c:List UInt8) (G:Av) (L:List Res) (W:World),Globs 0 1 2 3 G→¬ c=[]→c.length≤1048576→J c G L→Mem w0 G (Rc .ready none::DD::rB sb [qT c] 9::L) W →
   YieldAt W0 0 pG l #[qT (xC c [10]).1,vB (xC c [10]).2.2] W fun x I =>
    (x=.returned (vB true)∧∃ A D,Gle G A∧Mem w0 A (Rc .ready none::DD::rB sb [qT c] 9::D) I∧J (xC c [10]).2.1 A D) ∨
    (x=.returned (vB false)∧∃ T A D,Gle G A∧Mem w0 A (Rc .done (some T)::DD::rB sb [qT c] 9::D) I∧Jx T A D))
  {w:World} {G:Av} {L:List Res} {V:List UInt8} (HG:Globs 0 1 2 3 G) (hc:V.length≤1048576) (aa:J V G L) (M:Mem w0 G (Rc .ready none::DD::rB sb [qT V] 9::L) w) :
  Calls pG 99 #[.func (.yield l) #[] #[],pP sb] w fun x I=>∃ v,x=.returned v ∧
   ((∃ A D c2,Gle G A∧Mem w0 A (Rc .ready none::DD::rB sb [qT c2] 9::D) I∧J [] A D)∨(∃ T A D c2,Gle G A∧Mem w0 A (Rc .done (some T)::DD::rB sb [qT c2] 9::D) I∧Jx T A D)):=by
 refine Si (vs:=[_,_]) Tryz.func99 rfl (n:=20) rfl rfl ?_;intro a F;refine wpIn_block<|Avo (fun m a' w'=>∃ (c:List UInt8),∃ (Y:List Res),m=c.length∧∃ U,Gle G U∧Fits 20 a' [(0,.func (.yield l) #[] #[]),(1,pP sb)]∧Mem w0 U ((Rc .ready none)::DD::rB sb [qT c] 9::Y) w'∧(c.length≤1048576)∧(J c U Y)) _ ⟨V,L,rfl,G,Gle.refl _,fU,M,hc,aa⟩ ?_
 clear F M;rintro m a w ⟨c,Y,rfl,U,H,F,M,ac,hJ⟩;replace HG:=HG.mono H
 iterate 2 (refine wpIn_seq ?_)
 refine Qf<|Bo F (Cw (agf Dg rfl) (F.ev rfl) (M.cellL (k:=2) rfl rfl)) rfl ?_;clear F a;intro a F
 refine Bo F (Sz (F.ev rfl) (F.ev rfl)) rfl ?_;clear F a;intro a F;refine Hb<|Jv<|Rf F rfl ?_ ?_
 ·intro N;have h2:=dF (Ad N);have ag:(decide (c=([]:List UInt8)))=false:=(Ad N);refine wpIn_skip<|Jv<|wpIn_block<|wpIn_seq<|Qf<|Bo F (Cw (agf Dg rfl) (F.ev rfl) (M.cellL (k:=2) rfl rfl)) rfl ?_;clear F a;intro a F
  refine Afs F X6 rfl rfl (Oy (s:=c) (sep:=([10]:List UInt8)) M HG tM) ?_;clear F M a;rintro _ w a M rfl F;have ae:=E8 10 c;refine Bo F (Gi (F.ev rfl)) rfl ?_;clear F a;intro a F;refine Bo F (F8 (v:=qT ((xC c [10]).1)) (F.ev rfl) rfl) rfl ?_;clear F a;intro a F;refine Bo F (F8 (v:=qT ((xC c [10]).2.1)) (F.ev rfl) rfl) rfl ?_;clear F a;intro a F;refine Bo F (F8 (v:=vB ((xC c [10]).2.2)) (F.ev rfl) rfl) rfl ?_;clear F a;intro a F
  iterate 3 (refine Bo F (H4 (F.ev rfl)) rfl ?_;clear F a;intro a F)
  refine Hb<|Jv ?_
  iterate 2 (refine wpIn_seq ?_)
  refine w_regW ?_
  iterate 3 (refine Aco F (Gi (F.ev rfl)) rfl ?_;clear F a;intro a F)
  refine Aqx (m:=0) (vs:=[qT ((xC c [10]).1),vB ((xC c [10]).2.2)]) F rfl rfl rfl (hy _ _ _ _ HG tA ac hJ M) ?_;clear F M a;rintro x w (⟨rfl,G9,L9,E,M,ab⟩ | ⟨rfl,aj,G9,L9,E,M,S⟩)
  ·skip
   refine ⟨true,rfl,fun a F=>?_⟩;replace HG:=HG.mono E;refine Aco F (Rm (F.ev rfl)) rfl ?_;clear F a;intro a F;refine Amo<|Jv<|Aiv F rfl rfl ?_
   refine wpIn_skip<|Jv<|Qf<|Bo F (Gi (F.ev rfl)) rfl ?_;clear F a;intro a F
   refine Ow F M Dg 2 ?_;clear F M a;intro w a M F;refine Hb<|q_bn<|Jv ?_
   exact ⟨_,(by have ai:=cut_lt9 (s:=c) tA;omega),_,L9,rfl,G9,(H.trans E),fU,M,tM,ab⟩
  refine ⟨false,rfl,fun a F=>?_⟩;replace HG:=HG.mono E;refine Aco F (Rm (F.ev rfl)) rfl ?_;clear F a;intro a F;refine Amo<|Jv<|Vj F rfl rfl ?_
  refine wpIn_ret<|Akl<|Arl<|Akl<|Arl<|finM F (v:=.tuple #[]) (results_none rfl _ _ _) ?_
  exact ⟨_,rfl,Or.inr ⟨_,_,_,_,(H.trans E),M,S⟩⟩
 intro O;have h4:=dT (Ae O);have ah:(decide (c=([]:List UInt8)))=true:=(Ae O);refine wpIn_exit ?_
 iterate 2 (refine q_te ?_)
 refine q_bh<|finMn F (v:=.tuple #[]) (results_none rfl _ _ _) ?_
 exact ⟨_,rfl,Or.inl ⟨_,_,_,H,M,by rw [← (show c=[] by assumption)];exact hJ⟩⟩
theorem Alb (M:Mem w0 G L w) {s:List UInt8}:Calls pG 44 #[qT s] w (L4 w0 G fun A v=>∃ b:Nat,v=.func (.func 99) #[] #[pP b]∧A = (rB b [qT s] 9::L)):=by
 refine Ap (vs:=[_]) Tryz.func44 rfl (n:=4) rfl rfl<|?_
 refine Bt<|?_
 refine Ch M rfl rfl rfl<|?_;clear M;intro D w M
 refine wk ?_;refine Ak (fun a F=>Dh (vs:=#[pP D]) (by simp only [List.map_toArray,List.map_cons,List.map_nil,F.ev (x:=.tmp 1) rfl])) rfl<|wk ?_;refine Af rfl rfl<|?_
 exact ⟨_,M,_,rfl,rfl⟩
theorem Ako (M:Mem w0 G L w) (HG:Globs 0 1 2 3 G) {s:List UInt8} (hs:s.length≤9223372036854775807):Calls pG 12 #[qT s] w (Ret w0 G L fun G' v=>∃ a:Option Addr,v=.tuple #[vS a (D1 s).1.length (D1 s).1.length,iI (((D1 s).2.1:Nat):Int),iI (D1 s).2.2]∧Aj Bp 4 G' (vS a (D1 s).1.length (D1 s).1.length) (D1 s).1):=by
 refine Si (vs:=[_]) Tryz.func12 rfl (n:=42) rfl rfl ?_;intro a F;refine wpIn_seq<|Qf<|Oa F M Ci rfl rfl ?_;clear F M a;intro b1 w a M F
 refine Oa F M Cj rfl rfl ?_;clear F M a;intro b3 w a M F;refine Oa F M P6 rfl rfl ?_;clear F M a;intro b5 w a M F;refine Hb<|Jv ?_
 iterate 2 (refine wpIn_seq ?_)
 refine Qf<|Bo F (Gi (F.ev rfl)) rfl ?_;clear F a;intro a F
 refine Bo F (Mz Dg.k (F.ev rfl)) rfl ?_;clear F a;intro a F;refine Bo F (Acf (F.ev rfl) (F.ev rfl)) rfl ?_;clear F a;intro a F;refine Hb<|Jv<|Rf F rfl ?_ ?_
 ·intro a8;have h7:=dT a8;refine wpIn_seq<|Qf<|Ow F M Ci 2 ?_;clear F M a;intro w a M F
  refine Ow F M Cj 1 ?_;clear F M a;intro w a M F;refine Ow F M P6 0 ?_;clear F M a;intro w a M F;refine Hb<|Jv<|wpIn_ret<|Akl<|finM F (Acp F M (k1:=2) (k2:=1) (k3:=0) rfl rfl rfl rfl (agf Ci rfl) (agf Cj rfl) (agf P6 rfl) rfl rfl rfl) ?_
  exact ⟨_,(Gle.refl _),M.wn dS3,by rw [Arr tM];exact ⟨none,rfl,Aj.nil⟩⟩
 intro a9;have h8:=dF a9;refine wpIn_skip<|Jv ?_
 iterate 2 (refine wpIn_seq ?_)
 refine Qf<|Bo F (Gi (F.ev rfl)) rfl ?_;clear F a;intro a F
 refine Aft F ent44 rfl rfl (Alb (s:=s) M) ?_;clear F M a;rintro _ _ w a M ⟨a7,rfl,rfl⟩ F;refine Hb<|Jv<|wpIn_block ?_
 replace M:=M.perm (Ah _ 3 _ rfl);replace M:=z_M M;have M:=(M.nilrow 26 4).perm (List.Perm.swap _ _ _);replace M:=M.perm (Ah _ 1 _ rfl);replace M:=M.perm (Ah _ 3 _ rfl);replace M:=M.perm (Ah _ 4 _ rfl);replace M:=M.perm (Ah _ 3 _ rfl);replace M:=M.perm (Ah _ 4 _ rfl);replace M:=z_M M;replace M:=z_M M;refine Abk F M rfl ent99 (fun fn l D Rc W U M2=>?_);clear M;refine Calls.mono (Ahe (Rc:=Rc) (DD:=.obj D (.deferred (some []))) (l:=l) (sb:=a7) (J:=(fun c G' L'=>Gle G G'∧∃ (ar:Option Addr) (nr cr:Nat) (ah:List Value) (xs:List ItemD),L' = (rB b1 [vS ar nr cr] 22::rB b3 [iI 0] 3::rB b5 [iI 0] 27::rR (vS ar nr cr) nr ah 26 4::L)∧Els Bp 4 G' ah xs∧nr=xs.length∧O3 s xs c)) (Jx:=(fun pe G' L'=>Gle G G'∧pe=Code.ret∧∃ (n:Nat) (e:Int),L' = (rB b1 [sN] 22::rB b3 [iI ((n:Nat):Int)] 3::rB b5 [iI e] 27::L)∧D1 s=([],n,e))) ?_ HG tM ⟨Gle.refl _,_,_,_,_,_,rfl,Els.nil,rfl,O3.start tM⟩ M2) ?_
 ·intro c Gc Lc Wc a6 V aX hJ M;obtain ⟨ai,ar,nr,cr,ah,xs,rfl,Er,au,hP⟩:=hJ;subst au;obtain ⟨f9,aB,aF,aG,ap⟩:=id hP;rw [U] at M;clear HG M2;have HG:=a6;have aP:=E8 10 c;refine yield2 F rfl rfl M (fun a F=>?_);refine wpIn_seq<|J0 kR ?_
  refine Bo F (H4 (F.ev rfl)) rfl ?_;clear F;intro a F;refine Hb<|Jv<|J0 kR ?_
  refine Bo F (H4 (F.ev rfl)) rfl ?_;clear F;intro a F;refine Hb<|Jv ?_
  intro W2 M3;refine ⟨rfl,?_⟩;clear M;have M:=M3;clear M3;refine wpIn_block<|wpIn_seq<|J0 kR ?_
  refine Bo F (Gi (F.ev rfl)) rfl ?_;clear F;intro a F;refine Acl F ent45 rfl rfl (Aul (s:=(xC c [10]).1) M HG tM) ?_;clear F M;rintro _ aw w a E M ⟨A,H,I,aa,rfl,T,Y,ag,ae⟩ F;replace HG:=HG.mono E;replace Er:=Er.mono Ac E;refine Bo F (Gi (F.ev rfl)) rfl ?_;clear F;intro a F;refine Bo F (F8 (v:=.agg #[iU ((A.key:Nat):Int),iB ((A.typ:Nat):Int),qT A.text,vS H A.mZ.length I]) (F.ev rfl) rfl) rfl ?_;clear F;intro a F;refine Bo F (F8 (v:=vB aa) (F.ev rfl) rfl) rfl ?_;clear F;intro a F;refine Oa F M Bc rfl rfl ?_;clear F M;intro aQ w a M F;refine Bf F M Bc 0 ?_;clear F M;intro w a M F;replace M:=z_M M;refine Bo F (H4 (F.ev rfl)) rfl ?_;clear F;intro a F;refine Hb<|Jv ?_
  iterate 2 (refine wpIn_seq ?_)
  refine J0 kR ?_;refine Bo F (Gi (F.ev rfl)) rfl ?_;clear F;intro a F;refine Bo F (Rm (F.ev rfl)) rfl ?_;clear F;intro a F;refine Bo F (Gi (F.ev rfl)) rfl ?_;clear F;intro a F
  rcases bE (!((xC c [10]).2.2)) with ak | am
  ·skip
   have aR:=Ad ak;have al:((xC c [10]).2.2)=false:=(Ad ak)
   iterate 2 (refine Wf F rfl rfl rfl (Agl al) ?_;clear F;intro a F)
   refine Bo F (Qm (F.ev rfl) (Agl al) (F.ev rfl)) rfl ?_;clear F;intro a F;refine Hb<|Jv<|Vj F rfl rfl ?_
   refine wpIn_seq<|J0 kR ?_
   refine Bo F (Cw (agf Ci rfl) (F.ev rfl) (M.cellL (k:=4) rfl rfl)) rfl ?_;clear F;intro a F;refine Bo F (Jb Ci.k (F.ev rfl)) rfl ?_;clear F;intro a F;refine Bo F (Fx (F.ev rfl) (F.ev rfl) (Bi tM tM)) rfl ?_;clear F;intro a F;refine Ow F M Ci 4 ?_;clear F M;intro w a M F;refine Ow F M Cj 5 ?_;clear F M;intro w a M F;refine Ow F M P6 6 ?_;clear F M;intro w a M F;refine Hb<|Jv<|wpIn_ret<|Akl<|Arl ?_
   replace M:=M.perm (Ah _ 6 _ rfl);replace M:=M.perm (Ah _ 6 _ rfl);replace M:=M.perm (Ah _ 6 _ rfl);replace M:=M.perm (Ah _ 6 _ rfl);replace M:=M.perm (Ah _ 6 _ rfl);replace M:=M.perm (Ah _ 6 _ rfl);replace M:=z_M M;rw [show (((xs.length:Nat):Int)+1)=(((xs.length+1:Nat)):Int) by omega] at M;obtain ⟨w',N,M⟩:=Pc (some .ret) (M.wn (cC (.cons_cons _ (cC (.cons_cons _ (cC (.cons_cons _ (cN (.cons _ (sR _))))))))))
   exact ⟨_,w',N,Or.inr ⟨rfl,.ret,_,_,E,by rw [U];exact M,ai.trans E,rfl,_,_,rfl,by first | exact hP.bad V (Or.inl (fun h_=>absurd (show true=false from h_.symm.trans tA) tD)) | exact hP.bad V (Or.inr (ae tA))⟩⟩
  have aS:=Ae am;have ab:((xC c [10]).2.2)=true:=(Ae am);refine Qo F rfl rfl rfl (Ge ab) ?_;refine Bo F (Gi (F.ev rfl)) rfl ?_;clear F;intro a F;refine Qo F rfl rfl rfl (Ge ab) ?_;refine Bo F (Rm (F.ev rfl)) rfl ?_;clear F;intro a F;refine Bo F (My (F.ev rfl) (Ge ab) (F.ev rfl)) rfl ?_;clear F;intro a F;refine Hb<|Jv<|Rf F rfl ?_ ?_
  ·intro an;have aT:=Ad an;have aN:(aa)=false:=(Ad an);refine wpIn_seq<|J0 kR ?_
   refine Bo F (Cw (agf Ci rfl) (F.ev rfl) (M.cellL (k:=4) rfl rfl)) rfl ?_;clear F;intro a F;refine Bo F (Jb Ci.k (F.ev rfl)) rfl ?_;clear F;intro a F;refine Bo F (Fx (F.ev rfl) (F.ev rfl) (Bi tM tM)) rfl ?_;clear F;intro a F;refine Ow F M Ci 4 ?_;clear F M;intro w a M F;refine Ow F M Cj 5 ?_;clear F M;intro w a M F;refine Ow F M P6 6 ?_;clear F M;intro w a M F;refine Hb<|Jv<|wpIn_ret<|Akl<|Arl ?_
   replace M:=M.perm (Ah _ 6 _ rfl);replace M:=M.perm (Ah _ 6 _ rfl);replace M:=M.perm (Ah _ 6 _ rfl);replace M:=M.perm (Ah _ 6 _ rfl);replace M:=M.perm (Ah _ 6 _ rfl);replace M:=M.perm (Ah _ 6 _ rfl);replace M:=z_M M;rw [show (((xs.length:Nat):Int)+1)=(((xs.length+1:Nat)):Int) by omega] at M;obtain ⟨w',N,M⟩:=Pc (some .ret) (M.wn (cC (.cons_cons _ (cC (.cons_cons _ (cC (.cons_cons _ (cN (.cons _ (sR _))))))))))
   exact ⟨_,w',N,Or.inr ⟨rfl,.ret,_,_,E,by rw [U];exact M,ai.trans E,rfl,_,_,rfl,by first | exact hP.bad V (Or.inl (fun h_=>absurd (show true=false from h_.symm.trans tA) tD)) | exact hP.bad V (Or.inr (ae tA))⟩⟩
  intro ao;have aU:=Ae ao;have aO:(aa)=true:=(Ae ao);refine wpIn_skip<|Jv ?_
  iterate 2 (refine wpIn_seq ?_)
  refine J0 kR ?_;refine Bo F (Cw (agf Ci rfl) (F.ev rfl) (M.cellL (k:=4) rfl rfl)) rfl ?_;clear F;intro a F;refine Bo F (Jb Ci.k (F.ev rfl)) rfl ?_;clear F;intro a F;refine Bo F (Acg (F.ev rfl) (F.ev rfl)) rfl ?_;clear F;intro a F;refine Hb<|Jv<|Rf F rfl ?_ ?_
  ·intro a0;have aV:=dT a0;refine wpIn_seq<|J0 kR ?_
   refine Bo F (Cw (agf Ci rfl) (F.ev rfl) (M.cellL (k:=4) rfl rfl)) rfl ?_;clear F;intro a F;refine Bo F (Jb Ci.k (F.ev rfl)) rfl ?_;clear F;intro a F;refine Bo F (Fx (F.ev rfl) (F.ev rfl) (Bi tM tM)) rfl ?_;clear F;intro a F;refine Ow F M Ci 4 ?_;clear F M;intro w a M F;refine Ow F M Cj 5 ?_;clear F M;intro w a M F;refine Ow F M P6 6 ?_;clear F M;intro w a M F;refine Hb<|Jv<|wpIn_ret<|Akl<|Arl ?_
   replace M:=M.perm (Ah _ 6 _ rfl);replace M:=M.perm (Ah _ 6 _ rfl);replace M:=M.perm (Ah _ 6 _ rfl);replace M:=M.perm (Ah _ 6 _ rfl);replace M:=M.perm (Ah _ 6 _ rfl);replace M:=M.perm (Ah _ 6 _ rfl);replace M:=z_M M;rw [show (((xs.length:Nat):Int)+1)=(((xs.length+1:Nat)):Int) by omega] at M;obtain ⟨w',N,M⟩:=Pc (some .ret) (M.wn (cC (.cons_cons _ (cC (.cons_cons _ (cC (.cons_cons _ (cN (.cons _ (sR _))))))))))
   exact ⟨_,w',N,Or.inr ⟨rfl,.ret,_,_,E,by rw [U];exact M,ai.trans E,rfl,_,_,rfl,by exact hP.full V tA (ag tA) tM⟩⟩
  intro a1;have aW:=dF a1;refine wpIn_skip<|Jv<|J0 kR ?_
  refine Bo F (Cw (agf Ci rfl) (F.ev rfl) (M.cellL (k:=4) rfl rfl)) rfl ?_;clear F;intro a F;refine Bo F (Cv Bc rfl (F.ev rfl) (cs:=[iU ((A.key:Nat):Int),iB ((A.typ:Nat):Int),qT A.text,vS H A.mZ.length I]) rfl (M.cellsL (k:=0) rfl rfl)) rfl ?_;clear F;intro a F;refine Ar F M Ci.k Bc rfl rfl (cs:=[iU ((A.key:Nat):Int),iB ((A.typ:Nat):Int),qT A.text,vS H A.mZ.length I]) rfl rfl tS tD rfl ?_;clear F M;intro aY w a M F;obtain ⟨aJ,aL,rfl,a4,a2,aC⟩:=M.rS (k:=0) rfl;have Eb:Els Bp 4 aw [iU ((A.key:Nat):Int),iB ((A.typ:Nat):Int),qT A.text,vS H A.mZ.length I] [A]:=⟨[iU ((A.key:Nat):Int),iB ((A.typ:Nat):Int),qT A.text,vS H A.mZ.length I],[],rfl,rfl,⟨H,I,rfl,T.1,T.2.1,T.2.2,(by have h_:=Y.bound;omega),Y⟩,rfl⟩;refine A4 F M (k:=8) (k2:=0) rfl rfl Ci.k Bc rfl rfl tD rfl rfl tX tO rfl ?_;clear F M;intro aZ w a M F;have av:=Els.append Er Eb;obtain ⟨aK,aM,rfl,a5,a3,aD⟩:=M.rS (k:=8) rfl;refine Ow F M Ci 5 ?_;clear F M;intro w a M F;refine Hb<|q_bn ?_
  replace M:=M.perm (Ah _ 8 _ rfl);replace M:=M.perm (Ah _ 8 _ rfl);replace M:=M.perm (Ah _ 8 _ rfl);replace M:=M.perm (Ah _ 8 _ rfl);replace M:=M.perm (Ah _ 8 _ rfl);replace M:=M.perm (Ah _ 8 _ rfl);replace M:=M.perm (Ah _ 8 _ rfl);replace M:=z_M M;obtain ⟨w',N,M⟩:=Pc none (M.wn (cC (.cons_cons _ (cC (.cons_cons _ (cC (.cons_cons _ (cC (cN (.cons _ (sR _)))))))))))
  exact ⟨_,w',N,Or.inl ⟨rfl,_,_,E,by rw [U];exact M,ai.trans E,_,_,_,_,_,rfl,av,by simp,hP.next V tA (ag tA) tM⟩⟩
 rintro x W' ⟨v,rfl,(⟨G2,L2,c2,O,M,hJ⟩ | ⟨pe,G2,L2,c2,O,M,hJ⟩)⟩
 ·skip
  obtain ⟨aA,ar,nr,cr,ah,xs,rfl,Er,au,hP⟩:=hJ;subst au;have hp:=hP.fin;obtain ⟨f9,aB,aF,aG,ap⟩:=id hP;refine ⟨v,none,G2,_,.ready,rfl,(fun h=>by cases h),O,M,fun w M=>?_⟩;clear U M2;replace HG:=HG.mono O;refine q_bn<|Jv<|wpIn_seq ?_
  obtain ⟨aE,aI,ay,az,ac,aq,Sz21,M⟩:=M.fZ Ac (k:=5) rfl Er tD;clear aq ay az;replace HG:=HG.mono ac;replace M:=z_M M;refine w_regXD<|Bo F (Cw (agf Ci rfl) (F.ev rfl) (M.cellL (k:=2) rfl rfl)) rfl ?_;clear F a;intro a F
  refine Acl F A1a rfl rfl (Aaz (xs:=xs) M Sz21 tM (fun x hx=>by have:=(ap x hx).2.2.2.1;omega)) ?_;clear F M a;rintro _ aH w a S M ⟨aj,rfl,ax⟩ F;replace HG:=HG.mono S;refine Ow F M Ci 2 ?_;clear F M a;intro w a M F;refine Ow F M Cj 3 ?_;clear F M a;intro w a M F;refine Ow F M P6 4 ?_;clear F M a;intro w a M F;refine Hb<|Jv<|wpIn_ret ?_
  replace M:=z_M M;refine finMD F M (v:=.tuple #[vS aj xs.length xs.length,iI 0,iI 0]) (fun w_ M_=>Acp F M_ (k1:=1) (k2:=2) (k3:=3) rfl rfl rfl rfl (agf Ci rfl) (agf Cj rfl) (agf P6 rfl) rfl rfl rfl) (fun w_ M_=>?_)
  exact ⟨_,((O.trans ac).trans S),M_.wn dS4,by rw [hp];exact ⟨aj,rfl,ax⟩⟩
 obtain ⟨aA,rfl,n9,e9,rfl,hp⟩:=hJ;refine ⟨v,some .ret,G2,_,.done,rfl,(fun h=>by cases h),O,M,fun w M=>?_⟩;clear U M2;replace HG:=HG.mono O;refine wpIn_ret<|Arl<|Akl ?_
 replace M:=z_M M;refine finMD F M (v:=.tuple #[sN,iI ((n9:Nat):Int),iI e9]) (fun w_ M_=>Acp F M_ (k1:=1) (k2:=2) (k3:=3) rfl rfl rfl rfl (agf Ci rfl) (agf Cj rfl) (agf P6 rfl) rfl rfl rfl) (fun w_ M_=>?_)
 exact ⟨_,O,M_.wn dS4,by rw [hp];exact ⟨none,rfl,Aj.nil⟩⟩
set_option maxHeartbeats 1600000
theorem Vb {G:Av} {a:Option Addr} {c:Nat} {xs:List ItemD} (S:Aj Bp 4 G (vS a xs.length c) xs):∀ x∈xs,x.key < 18446744073709551616∧x.typ < 256:=by
 intro x I;obtain ⟨i,E⟩:=List.mem_iff_getElem?.1 I;obtain ⟨b,o,cs,_,_,_,_,H⟩:=S.index E;obtain ⟨N,O,_,A,D,_⟩:=H
 exact ⟨A,D⟩
abbrev ti2:TI:=⟨.int .i64,1,8,iI 0⟩
theorem Vn:TOK pG 2 ti2:=⟨kR,kR,kR⟩
abbrev ti49:TI:=⟨.slice 81,1,24,sN⟩
theorem Avv:TOK pG 49 ti49:=⟨kR,kR,kR⟩
abbrev ti51:TI:=⟨.struct [(0,1,49),(1,1,3)],2,32,.agg #[sN,iI 0]⟩
theorem Fo:TOK pG 51 ti51:=⟨kR,kR,kR⟩
abbrev ti52:TI:=⟨.slice 69,1,24,sN⟩
theorem Db:TOK pG 52 ti52:=⟨kR,kR,kR⟩
abbrev ti54:TI:=⟨.struct [(0,1,52)],1,24,.agg #[sN]⟩
theorem Az:TOK pG 54 ti54:=⟨kR,kR,kR⟩
abbrev ti69:TI:=⟨.struct [(0,4,26),(4,1,2),(5,1,4)],6,72,.agg #[iU 0,iB 0,vT ⟨#[]⟩,sN,iI 0,vB false]⟩
theorem Cn:TOK pG 69 ti69:=⟨kR,kR,kR⟩
abbrev ti81:TI:=⟨.struct [(0,6,79),(6,1,2),(7,1,4),(8,1,3)],9,128,.agg #[iB 0,vT ⟨#[]⟩,vT ⟨#[]⟩,sN,vT ⟨#[]⟩,sN,iI 0,vB false,iI 0]⟩
theorem N0:TOK pG 81 ti81:=⟨kR,kR,kR⟩
abbrev ti204:TI:=⟨.func,1,8,.nilFunc⟩
theorem tok204:TOK pG 204 ti204:=⟨kR,kR,kR⟩
abbrev ti205:TI:=⟨.func,1,8,.nilFunc⟩
theorem tok205:TOK pG 205 ti205:=⟨kR,kR,kR⟩
abbrev ti207:TI:=⟨.struct [(0,1,4),(1,1,3),(2,1,22),(3,1,205),(4,1,204)],5,56,.agg #[vB false,iI 0,sN,.nilFunc,.nilFunc]⟩
theorem Ja:TOK pG 207 ti207:=⟨kR,kR,kR⟩
theorem ent61:Ent pG 61:=.mk' Tryz.func61 kR kR
theorem Apm:Ent pG 66:=.mk' Tryz.func66 kR kR
theorem Apl:Ent pG 67:=.mk' Tryz.func67 kR kR
theorem A0f:Ent pG 68:=.mk' Tryz.func68 kR kR
theorem ent70:Ent pG 70:=.mk' Tryz.func70 kR kR
theorem ent71:Ent pG 71:=.mk' Tryz.func71 kR kR
theorem Aas:Ent pG 78:=.mk' Tryz.func78 kR kR
theorem ent79:Ent pG 79:=.mk' Tryz.func79 kR kR
theorem ent80:Ent pG 80:=.mk' Tryz.func80 kR kR
theorem A1h:Ent pG 111:=.mk' Tryz.func111 kR kR
theorem ent112:Ent pG 112:=.mk' Tryz.func112 kR kR
theorem A1g:Ent pG 113:=.mk' Tryz.func113 kR kR
theorem A1f:Ent pG 114:=.mk' Tryz.func114 kR kR
theorem X5:Ent pG 115:=.mk' Tryz.func115 kR kR
theorem Tx:Ent pG 116:=.mk' Tryz.func116 kR kR
theorem X4:Ent pG 117:=.mk' Tryz.func117 kR kR
theorem ent118:Ent pG 118:=.mk' Tryz.func118 kR kR
theorem X3:Ent pG 119:=.mk' Tryz.func119 kR kR
theorem A1e:Ent pG 120:=.mk' Tryz.func120 kR kR
theorem Aec:Ent pG 121:=.mk' Tryz.func121 kR kR
theorem ent131:Ent pG 131:=.mk' Tryz.func131 kR kR
theorem A1b:Ent pG 139:=.mk' Tryz.func139 kR kR
theorem ent140:Ent pG 140:=.mk' Tryz.func140 kR kR
theorem ent154:Ent pG 154:=.mk' Tryz.func154 kR kR
theorem ent156:Ent pG 156:=.mk' Tryz.func156 kR kR
theorem ent157:Ent pG 157:=.mk' Tryz.func157 kR kR
theorem ent158:Ent pG 158:=.mk' Tryz.func158 kR kR
theorem Aea:Ent pG 159:=.mk' Tryz.func159 kR kR
theorem A0w:Ent pG 160:=.mk' Tryz.func160 kR kR
theorem ent161:Ent pG 161:=.mk' Tryz.func161 kR kR
theorem ent162:Ent pG 162:=.mk' Tryz.func162 kR kR
theorem ent163:Ent pG 163:=.mk' Tryz.func163 kR kR
theorem ent164:Ent pG 164:=.mk' Tryz.func164 kR kR
theorem A0u:Ent pG 168:=.mk' Tryz.func168 kR kR
theorem ent190:Ent pG 190:=.mk' Tryz.func190 kR kR
instance:CT pG 2 ti2:=⟨Vn⟩
instance:CT pG 49 ti49:=⟨Avv⟩
instance:CT pG 51 ti51:=⟨Fo⟩
instance:CT pG 52 ti52:=⟨Db⟩
instance:CT pG 54 ti54:=⟨Az⟩
instance:CT pG 69 ti69:=⟨Cn⟩
instance:CT pG 81 ti81:=⟨N0⟩
instance:CT pG 204 ti204:=⟨tok204⟩
instance:CT pG 205 ti205:=⟨tok205⟩
instance:CT pG 207 ti207:=⟨Ja⟩
theorem Ur (M:Mem w0 G L w) {n:Int}:Calls pG 114 #[iI n] w (B5 w0 G L fun v=>v=vB (decide (1≤n∧n≤2305843009213693952))):=by
 refine Ap (vs:=[_]) Tryz.func114 rfl (n:=9) rfl rfl<|wk ?_
 rcases bE (decide (1≤n)) with A | D
 ·skip
  have H:=dT A;refine wk ?_;refine Af rfl rfl<|?_
  exact ⟨M,by rw [show (decide (1≤n∧n≤2305843009213693952))=(decide (n≤2305843009213693952)) by rw [Bool.eq_iff_iff];simp only [decide_eq_true_eq];first | omega | (constructor <;> intro E <;> first | omega | cases E | rfl)]⟩
 have I:=dF D;refine wk ?_;refine Af rfl rfl<|?_
 exact ⟨M,by rw [show (decide (1≤n∧n≤2305843009213693952))=false by rw [Bool.eq_iff_iff];simp only [decide_eq_true_eq];first | omega | (constructor <;> intro E <;> first | omega | cases E | rfl)]⟩
theorem Aeu (M:Mem w0 G L w) {k:KindD} {H ka:Option Addr} {I E:Nat} (U:Al .u8 k.part.kind) (V:(k.part.tag.length≤9223372036854775807∧k.part.key.length≤9223372036854775807∧k.part.text.length≤9223372036854775807)) (N:Aj T.rdSlot 3 G (vS H k.part.as.length I) k.part.as) (O:Aj T.rdP 6 G (vS ka k.part.kids.length E) k.part.kids):Calls pG 154 #[.agg #[iB k.part.kind,qT k.part.tag,qT k.part.key,vS H k.part.as.length I,qT k.part.text,vS ka k.part.kids.length E,iI k.base,vB k.sticky,iI k.pool]] w (B5 w0 G L fun v=>∃ b:Bool,v=vB b∧(b=true↔¬ Nm k)):=by
 refine Ap (vs:=[_]) Tryz.func154 rfl (n:=13) rfl rfl<|?_
 refine Bt<|?_
 refine Ch M rfl rfl rfl<|?_;clear M;intro Y w M
 refine wk ?_;refine A2 A1f rfl rfl (Ur (n:=k.base) M)<|?_;clear M;rintro _ w M rfl
 refine wk ?_
 rcases bE (!(decide (1≤k.base∧k.base≤2305843009213693952))) with A | D
 ·skip
  have h2:=dF (Ad A);refine wk ?_;refine Af rfl rfl<|?_
  exact ⟨M.wn dS1,_,rfl,(by unfold Nm;rw [← T.chkP_zero];simp only [Bool.not_eq_true',decide_eq_true_eq,decide_eq_false_iff_not];first | (constructor <;> intro S <;> omega) | (simp only [true_iff];omega))⟩
 have h3:=dT (Ae D);refine wk ?_;refine A2 A0x rfl rfl (T.tcheck_spec (x:=k.part) M U V N O)<|?_;clear M;rintro _ w M rfl
 refine wk ?_;refine Af rfl rfl<|?_
 exact ⟨M.wn dS1,_,rfl,(by unfold Nm;rw [← T.chkP_zero];simp only [Bool.not_eq_true',decide_eq_true_eq,decide_eq_false_iff_not];first | (constructor <;> intro S <;> omega) | (simp only [true_iff];omega))⟩
theorem Aun (M:Mem w0 G L w) {ad:Option Addr} {cd:Nat} {xs:List KindD} (S:Aj Cq 9 G (vS ad xs.length cd) xs):Calls pG 190 #[vS ad xs.length cd,.func (.func 154) #[] #[]] w (B5 w0 G L fun v=>∃ z:Int,v=iI z∧(0≤z↔¬ ∀ k∈xs,Nm k)):=by
 have bS:=S.bound;refine Ap (vs:=[_,_]) Tryz.func190 rfl (n:=19) rfl rfl<|wk ?_;refine fun a F=>Bd (fun m a' w'=>∃ (i:Nat),m=xs.length - i∧Fits 19 a' [(0,vS ad xs.length cd),(1,.func (.func 154) #[] #[]),(7,iI ((xs.length:Nat):Int)),(8,iI ((i:Nat):Int))]∧Mem w0 G (L) w'∧(i≤xs.length)∧(∀ (m:Nat) (k:KindD),m < i→xs[m]?=some k→Nm k)) _ ⟨0,rfl,fU,M,Nat.zero_le _,fun m d h=>by omega⟩ ?_;clear F M;rintro m a w ⟨i,rfl,F,M,hi,hA⟩;revert a;refine wk ?_;refine qD rfl ?_ ?_
 ·intro h1;refine wk ?_;obtain ⟨D,A⟩:=Aq (xs:=xs) (i:=i) tM;obtain ⟨am,an,_,al,_,ak,T⟩:=S.at A;obtain ⟨ac,E,O,N⟩:=T;obtain ⟨ai,aj,ag,ah,rfl,V,Y,H,I⟩:=D7 O;subst E;have ae:-9223372036854775808≤D.base∧D.base≤9223372036854775807:=N;refine wk ?_;refine Ajq ent154 (caps:=[]) rfl rfl rfl (Aeu (k:=D) M V Y H I)<|?_;clear M;rintro _ w M ⟨b3,rfl,U⟩
  refine Ao<|Gd<|?_
  refine Ag rfl ?_ ?_
  ·intro aa;have h4:(b3)=true:=aa;refine wk ?_;refine Af rfl rfl<|?_
   exact ⟨M,_,rfl,⟨fun _ h_=>(U.1 tA) (h_ _ (mG A)),fun _=>by omega⟩⟩
  intro ab;have h5:(b3)=false:=ab;refine wk ?_;intro a F
  exact ⟨_,tM,i+1,rfl,fU,M,tM,D9 hA A (Classical.byContradiction fun h_=>by have:=U.2 h_;simp_all)⟩
 intro h6;refine wk ?_;refine Af rfl rfl<|?_
 exact ⟨M,_,rfl,⟨fun h=>by omega,fun h=>absurd (E3 hA tM) h⟩⟩
theorem Als (M:Mem w0 G L w) {ad:Option Addr} {D:Nat} {xs:List KindD} (S:Aj Cq 9 G (vS ad xs.length D) xs):Calls pG 156 #[vS ad xs.length D,.func (.func 154) #[] #[]] w (B5 w0 G L fun v=>∃ b:Bool,v=vB b∧(b=true↔¬ ∀ k∈xs,Nm k)):=by
 refine Ap (vs:=[_,_]) Tryz.func156 rfl (n:=9) rfl rfl<|wk ?_;refine A2 ent190 rfl rfl (Aun (xs:=xs) M S)<|?_;clear M;rintro _ w M ⟨E,rfl,A⟩
 refine wk ?_;refine Af rfl rfl<|?_
 exact ⟨M,_,rfl,decide_eq_true_iff.trans A⟩
theorem vc_yes {c:RulesD} {b:Bool} (h:(1≤c.kZ.length∧c.kZ.length≤8)∧1≤c.cap∧c.cap≤64) (E:b=true↔¬ ∀ k∈c.kZ,Nm k) (A:b=false):Dd c :=
 ⟨⟨h.1,h.2⟩,Classical.byContradiction fun D=>by rw [E.2 D] at A;cases A⟩
theorem Aet {c:RulesD} {b:Bool} (D:b=true↔¬ ∀ k∈c.kZ,Nm k) (A:b=true):¬ Dd c:=fun h=>D.1 A h.2
theorem Aiw (M:Mem w0 G L w) {c:RulesD} {N:Option Addr} {O:Nat} (SC:Aj Cq 9 G (vS N c.kZ.length O) c.kZ):Calls pG 112 #[.agg #[vS N c.kZ.length O,iI c.cap]] w (B5 w0 G L fun v=>v=iI (Mr c)):=by
 refine Ap (vs:=[_]) Tryz.func112 rfl (n:=30) rfl rfl<|?_
 refine Bt<|?_
 refine Ch M rfl rfl rfl<|?_;clear M;intro b1 w M
 refine wk ?_
 rcases bE (decide (((c.kZ.length:Nat):Int) < 1)) with S | T
 ·skip
  have h2:=dT S;refine wk ?_;refine Af rfl rfl<|?_
  exact ⟨(M.wn tW),by rw [Ka (by first | exact Aet h0 tA | exact fun A=>absurd A.1 tM)]⟩
 have h3:=dF T;refine wk ?_
 rcases bE (decide (8 < ((c.kZ.length:Nat):Int))) with U | V
 ·skip
  have h4:=dT U;refine wk ?_;refine Af rfl rfl<|?_
  exact ⟨(M.wn tW),by rw [Ka (by first | exact Aet h0 tA | exact fun A=>absurd A.1 tM)]⟩
 have h5:=dF V;refine wk ?_
 rcases bE (decide (c.cap < 1)) with Y | aa
 ·skip
  have h6:=dT Y;refine wk ?_;refine Af rfl rfl<|?_
  exact ⟨(M.wn tW),by rw [Ka (by first | exact Aet h0 tA | exact fun A=>absurd A.1 tM)]⟩
 have h7:=dF aa;refine wk ?_
 rcases bE (decide (64 < c.cap)) with ab | ac
 ·skip
  have h8:=dT ab;refine wk ?_;refine Af rfl rfl<|?_
  exact ⟨(M.wn tW),by rw [Ka (by first | exact Aet h0 tA | exact fun A=>absurd A.1 tM)]⟩
 have h9:=dF ac;refine wk ?_;refine A2 ent156 rfl rfl (Als (xs:=c.kZ) M SC)<|?_;clear M;rintro _ w M ⟨E,rfl,D⟩
 refine wk ?_;refine Ag rfl ?_ ?_
 ·intro H;have ae:(E)=true:=H;refine wk ?_;refine Af rfl rfl<|?_
  exact ⟨(M.wn tW),by rw [Ka (by first | exact Aet D tA | exact fun A=>absurd A.1 tM)]⟩
 intro I;have ag:(E)=false:=I;refine wk ?_;refine Af rfl rfl<|?_
 exact ⟨(M.wn tW),by rw [Qg (by first | exact vc_yes tM D tA | exact ⟨⟨⟨tM,tM⟩,tM,tM⟩,E3 hA tM⟩)]⟩
theorem tren_s (M:Mem w0 G L w) {k:KindD} {I ka:Option Addr} {N D:Nat} (hk:Al .u8 k.part.kind) (hl:(k.part.tag.length≤9223372036854775807∧k.part.key.length≤9223372036854775807∧k.part.text.length≤9223372036854775807)) (S:Aj T.rdSlot 3 G (vS I k.part.as.length N) k.part.as) (U:Aj T.rdP 6 G (vS ka k.part.kids.length D) k.part.kids) {x:ItemD} {E:Option Addr} {H:Nat} (A:(x.key < 18446744073709551616∧x.typ < 256∧x.text.length≤9223372036854775807)) (V:Aj Cr 1 G (vS E x.mZ.length H) x.mZ) {most:Int}:Calls pG 157 #[.agg #[iB k.part.kind,qT k.part.tag,qT k.part.key,vS I k.part.as.length N,qT k.part.text,vS ka k.part.kids.length D],.agg #[iU ((x.key:Nat):Int),iB ((x.typ:Nat):Int),qT x.text,vS E x.mZ.length H],iI most] w (B5 w0 G L fun v=>∃ (n1:Int) (s1 s2 s3:ByteArray) (Y a2:Option Addr) (l1 c1 l2 c2:Nat),v=.tuple #[.agg #[iB n1,vT s1,vT s2,vS Y l1 c1,vT s3,vS a2 l2 c2],iI (T.rendE k.part (tI x) most)]):=by
 refine Ret.plain M ((T.trender_spec (x:=tI x) (most:=most) M hk hl S U A.2.2 V (Awe A.1)).mono ?_);intro e w' h
 cases e with
 | returned v=>obtain ⟨O,h1,h2,⟨_,_,rfl,_⟩⟩:=h;exact ⟨O,h1,h2,_,_,_,_,_,_,_,_,_,_,rfl⟩
 | panicked c=>exact h
 | outgrown=>exact h
theorem Awt (M:Mem w0 G L w) {k:KindD} {I ka:Option Addr} {N D:Nat} (hk:Al .u8 k.part.kind) (hl:(k.part.tag.length≤9223372036854775807∧k.part.key.length≤9223372036854775807∧k.part.text.length≤9223372036854775807)) (S:Aj T.rdSlot 3 G (vS I k.part.as.length N) k.part.as) (U:Aj T.rdP 6 G (vS ka k.part.kids.length D) k.part.kids) {x:ItemD} {E:Option Addr} {H:Nat} (A:(x.key < 18446744073709551616∧x.typ < 256∧x.text.length≤9223372036854775807)) (V:Aj Cr 1 G (vS E x.mZ.length H) x.mZ) {most:Int}:Calls pG 111 #[.agg #[iB k.part.kind,qT k.part.tag,qT k.part.key,vS I k.part.as.length N,qT k.part.text,vS ka k.part.kids.length D],.agg #[iU ((x.key:Nat):Int),iB ((x.typ:Nat):Int),qT x.text,vS E x.mZ.length H],iI most] w (B5 w0 G L fun v=>∃ (n1:Int) (s1 s2 s3:ByteArray) (Y a2:Option Addr) (l1 c1 l2 c2:Nat),v=.tuple #[.agg #[iB n1,vT s1,vT s2,vS Y l1 c1,vT s3,vS a2 l2 c2],iI (T.rendE k.part (tI x) most)]):=by
 refine Ret.plain M ((T.rrender_spec (x:=tI x) (most:=most) M hk hl S U A.2.2 V (Awe A.1)).mono ?_);intro e w' h
 cases e with
 | returned v=>obtain ⟨O,h1,h2,⟨_,_,_,_,rfl,_⟩⟩:=h;exact ⟨O,h1,h2,_,_,_,_,_,_,_,_,_,_,rfl⟩
 | panicked c=>exact h
 | outgrown=>exact h
theorem Ui (M:Mem w0 G L w) {c:RulesD} {A:Option Addr} {D:Nat} (SC:Aj Cq 9 G (vS A c.kZ.length D) c.kZ) {x:ItemD} {ma:Option Addr} {mc:Nat} (hI:(x.key < 18446744073709551616∧x.typ < 256∧x.text.length≤9223372036854775807)) (SM:Aj Cr 1 G (vS ma x.mZ.length mc) x.mZ) {k:KindD} (hK:c.kZ[x.typ]?=some k):Calls pG 113 #[.agg #[vS A c.kZ.length D,iI c.cap],.agg #[iU ((x.key:Nat):Int),iB ((x.typ:Nat):Int),qT x.text,vS ma x.mZ.length mc]] w (B5 w0 G L fun v=>∃ (n1:Int) (s1 s2 s3:ByteArray) (a1 a2:Option Addr) (l1 c1 l2 c2:Nat),v=.tuple #[.agg #[iB n1,vT s1,vT s2,vS a1 l1 c1,vT s3,vS a2 l2 c2],iI (Hz c x)]):=by
 refine Ap (vs:=[_,_]) Tryz.func113 rfl (n:=19) rfl rfl<|?_
 refine Bt<|?_
 refine Ch M rfl rfl rfl<|?_;clear M;intro b1 w M
 refine Ch M rfl rfl rfl<|?_;clear M;intro b2 w M
 refine B0 M A1 rfl rfl<|?_;clear M;intro b3 w M
 refine wk ?_;refine fun a F=>D5 [(.free,0),(.pure,1),(.free,2),(.pure,3),(.free,4),(.free,5),(.pure,6),(.pure,7),(.free,8),(.pure,9),(.keep,10),(.free,11),(.free,12),(.chg,13),(.free,14)] [13] (Keep G [rB b2 [iU ((x.key:Nat):Int),iB ((x.typ:Nat):Int),qT x.text,vS ma x.mZ.length mc] 26,rB b1 [vS A c.kZ.length D,iI c.cap] 51]) rfl kR kF (Aw (M.drew _)) ?_;replace M:=M.drew (w.drawn+1);revert a;refine wk ?_;obtain ⟨au,av,_,ar,_,aq,Y⟩:=SC.at hK;obtain ⟨ak,E,V,U⟩:=Y;obtain ⟨ao,ap,am,an,rfl,aa,ab,H,I⟩:=D7 V;subst E;have al:-9223372036854775808≤k.base∧k.base≤9223372036854775807:=U;refine wk ?_;refine k_k rfl<|A2 ent157 rfl rfl (tren_s (k:=k) (x:=x) (most:=c.cap) M aa ab H I hI SM)<|?_;clear M;rintro _ w M ⟨ag,ah,ai,aj,N,O,ac,S,ae,T,rfl⟩
 refine Ao<|?_
 refine eQ (Aw M)<|wk ?_;refine k_c rfl<|fun a F=>?_
 refine Bf F M A1 0 ?_;clear F M a;intro w a M F;revert a;refine Ao<|?_
 refine fun a F=>⟨Keep G [rB b3 [iB ag,vT ah,vT ai,vS N ac S,vT aj,vS O ae T] 193,rB b2 [iU ((x.key:Nat):Int),iB ((x.typ:Nat):Int),qT x.text,vS ma x.mZ.length mc] 26,rB b1 [vS A c.kZ.length D,iI c.cap] 51],M.keep (Gle.refl _) (by simp),?_⟩;revert a;refine wk ?_;refine fun a F=>B1 F M (k:=0) rfl rfl A1 rfl rfl rfl rfl ?_
 exact ⟨M.wn dS3,_,_,_,_,_,_,_,_,_,_,by rw [Qp hK]⟩
theorem Awz {c:RulesD} {x:ItemD} (D:Dd c) (E:ItemOk (c.kZ.length:Int) x) (h:¬ 0 < Hz c x):Hz c x=0:=by
 rcases Akd D E with A | A <;> omega
theorem M8 (M:Mem w0 G L w) {c:RulesD} {O:Option Addr} {S:Nat} (SC:Aj Cq 9 G (vS O c.kZ.length S) c.kZ) (aa:Dd c) {x:ItemD} {ma:Option Addr} {mc:Nat} (hI:(x.key < 18446744073709551616∧x.typ < 256∧x.text.length≤9223372036854775807)) (SM:Aj Cr 1 G (vS ma x.mZ.length mc) x.mZ) {sn:Int}:Calls pG 66 #[.agg #[vS O c.kZ.length S,iI c.cap],.agg #[iU ((x.key:Nat):Int),iB ((x.typ:Nat):Int),qT x.text,vS ma x.mZ.length mc],iI sn] w (B5 w0 G L fun v=>v=iI (E7 c x (sn=1))):=by
 refine Ap (vs:=[_,_,_]) Tryz.func66 rfl (n:=33) rfl rfl<|?_
 refine Bt<|?_
 refine Ch M rfl rfl rfl<|?_;clear M;intro b1 w M
 refine Ch M rfl rfl rfl<|?_;clear M;intro b2 w M
 refine wk ?_;refine A2 Apo rfl rfl (H9 (x:=x) (t:=((c.kZ.length:Nat):Int)) M hI SM)<|?_;clear M;rintro _ w M rfl
 refine wk ?_;refine qD rfl ?_ ?_
 ·intro h3;refine wk ?_;refine Af rfl rfl<|?_
  exact ⟨M.wn dS2,by rw [R8 (R7 tA)]⟩
 intro h4;refine wk ?_;refine qD rfl ?_ ?_
 ·intro h5;refine wk ?_;refine Af rfl rfl<|?_
  exact ⟨M.wn dS2,by rw [Vc (J6 tA) tA]⟩
 intro h6;refine wk ?_;have A:=J6 (t:=(c.kZ.length:Int)) (x:=x) tM;obtain ⟨k,U⟩:=J5 A;intro a F;refine Ik (.run 0 (.run 1 (.run 2 (.run 3 (.run 4 (.run 5 (.run 6 (.run 7 (.run 8 (.run 9 (.act 10 (.run 11 (.run 12 (.run 13 (.act 14 (.act 15 (.run 16 .fin) .no) .no)))) (.act 14 (.act 10 (.run 11 (.run 12 (.run 13 (.act 15 (.run 16 .fin) .no)))) .no) .no)))))))))))) (Keep G [rB b2 [iU ((x.key:Nat):Int),iB ((x.typ:Nat):Int),qT x.text,vS ma x.mZ.length mc] 26,rB b1 [vS O c.kZ.length S,iI c.cap] 51]) rfl kR kF (Aw (M.drew _)) ?_;replace M:=M.drew (w.drawn+1);revert a;refine wk ?_;obtain ⟨a8,aD,_,a6,_,a5,Y⟩:=SC.at U;obtain ⟨ap,N,V,T⟩:=Y;obtain ⟨a3,a4,av,aw,rfl,H,I,D,E⟩:=D7 V;subst N;have au:-9223372036854775808≤k.base∧k.base≤9223372036854775807:=T;refine wk ?_;refine fun a F=>A0 ?_ rfl ?_
 ·skip
  revert a;refine A2 A1h rfl rfl (Awt (k:=k) (x:=x) (most:=c.cap) M H I D E hI SM)<|?_;clear M;rintro _ w M ⟨az,a0,a1,a2,an,ao,ax,aq,ay,ar,rfl⟩
  refine Ao<|?_
  refine eQ (Aw M)<|wk ?_;refine fun a F=>A0 ?_ rfl Bl;revert a;refine B0 M A1 rfl rfl<|?_;clear M;intro b9 w M
  refine Ao<|?_
  refine eQ (Aw M)<|fun a F=>A0 ?_ rfl Bl
  refine Bf F M A1 0<|sZ ?_;clear F M a;intro w M;refine Ao<|?_
  refine eQ (Aw M)<|wk ?_;refine qD rfl ?_ ?_
  ·intro a9;refine wk ?_;refine Af rfl rfl<|?_
   exact ⟨M.wn dS3,by rw [Kt A tA (by rw [Qp U];omega)]⟩
  intro aA;refine wk ?_;refine Af rfl rfl<|?_
  exact ⟨M.wn dS3,by rw [Lj A tA (Awz aa A (by rw [Qp U];assumption))]⟩
 refine A0 ?_ rfl ?_
 ·skip
  revert a;refine B0 M A1 rfl rfl<|?_;clear M;intro a7 w M
  refine Ao<|?_
  refine eQ (Aw M)<|fun a F=>A0 ?_ rfl Bl
  revert a;refine A2 A1h rfl rfl (Awt (k:=k) (x:=x) (most:=c.cap) M H I D E hI SM)<|?_;clear M;rintro _ w M ⟨aj,ak,al,am,ab,ac,ah,ae,ai,ag,rfl⟩
  refine Ao<|?_
  refine eQ (Aw M)<|wk ?_;refine fun a F=>A0 ?_ rfl Bl;refine Bf F M A1 0<|sZ ?_;clear F M a;intro w M;refine Ao<|?_
  refine eQ (Aw M)<|wk ?_;refine qD rfl ?_ ?_
  ·intro aB;refine wk ?_;refine Af rfl rfl<|?_
   exact ⟨M.wn dS3,by rw [Kt A tA (by rw [Qp U];omega)]⟩
  intro aC;refine wk ?_;refine Af rfl rfl<|?_
  exact ⟨M.wn dS3,by rw [Lj A tA (Awz aa A (by rw [Qp U];assumption))]⟩
 exact Bl
theorem Pq (M:Mem w0 G L w) {b:Bool}:Calls pG 78 #[vB b] w (B5 w0 G L fun v=>v=iI (if b=true then (1:Int) else 0)):=by
 refine Ap (vs:=[_]) Tryz.func78 rfl (n:=4) rfl rfl<|wk ?_;refine Ag rfl ?_ ?_
 ·intro A;have E:(b)=true:=A;refine wk ?_;refine Af rfl rfl<|?_
  exact ⟨M,by first | rw [if_pos tA] | rw [if_neg (by simp_all)]⟩
 intro D;have H:(b)=false:=D;refine wk ?_;refine Af rfl rfl<|?_
 exact ⟨M,by first | rw [if_pos tA] | rw [if_neg (by simp_all)]⟩
theorem Afv (M:Mem w0 G L w) {V:Option Addr} {Y:Nat} {l:List EntD} (S:Aj Bj 6 G (vS V l.length Y) l) {k:Nat}:Calls pG 79 #[vS V l.length Y,iU ((k:Nat):Int)] w (B5 w0 G L fun v=>∃ z:Int,v=iI z∧Sl l k z):=by
 have bS:=S.bound;refine Ap (vs:=[_,_]) Tryz.func79 rfl (n:=21) rfl rfl<|wk ?_;refine fun a F=>Bd (fun m a' w'=>∃ (i:Nat),m=l.length - i∧Fits 21 a' [(0,vS V l.length Y),(1,iU ((k:Nat):Int)),(5,iI ((i:Nat):Int))]∧Mem w0 G (L) w'∧(i≤l.length)∧(∀ (m:Nat) (y:EntD),m < i→l[m]?=some y→y.item.key≠k)) _ ⟨0,rfl,fU,M,Nat.zero_le _,fun m d h=>by omega⟩ ?_;clear F M;rintro m a w ⟨i,rfl,F,M,hi,hA⟩;revert a;refine wk ?_;refine qD rfl ?_ ?_
 ·intro h1;refine wk ?_;obtain ⟨A,D⟩:=Aq (xs:=l) (i:=i) tM;obtain ⟨al,am,_,ak,_,aj,N⟩:=S.at D;obtain ⟨ab,E,I,H⟩:=N;obtain ⟨ah,ai,rfl,O,T,U,ag,aa⟩:=I;subst E;have ac:(A.item.key < 18446744073709551616∧A.item.typ < 256∧A.item.text.length≤9223372036854775807):=⟨O,T,U⟩;have ae:-9223372036854775808≤A.size∧A.size≤9223372036854775807:=H;refine wk ?_;refine qD rfl ?_ ?_
  ·intro h3;refine wk ?_;refine Af rfl rfl<|?_
   exact ⟨M,_,rfl,Sl.some hA D tM⟩
  intro h4;refine wk ?_;intro a F
  exact ⟨_,tM,i+1,rfl,fU,M,tM,D9 (p:=fun y:EntD=>y.item.key≠k) hA D tM⟩
 intro h5;refine wk ?_;refine Af rfl rfl<|?_
 exact ⟨M,_,rfl,Sl.none hA tM⟩
theorem Aqq (M:Mem w0 G L w) {a1:Option Addr} {c1:Nat} {l:List EntD} (S:Aj Bj 6 G (vS a1 l.length c1) l):Calls pG 131 #[vS a1 l.length c1] w (B5 w0 G L fun v=>v=iI (Yq l)):=by
 have bS:=S.bound;refine Ap (vs:=[_]) Tryz.func131 rfl (n:=29) rfl rfl<|wk ?_;refine fun a F=>Bd (fun m a' w'=>∃ (i:Nat),∃ (z:Int),m=l.length - i∧Fits 29 a' [(0,vS a1 l.length c1),(3,iU z),(4,iI ((i:Nat):Int))]∧Mem w0 G (L) w'∧(i≤l.length)∧(z=Hj (l.take i))∧(z≤4611686018427387904)) _ ⟨0,0,rfl,fU,M,Nat.zero_le _,rfl,tM⟩ ?_;clear F M;rintro m a w ⟨i,z,rfl,F,M,hi,hz,a6⟩;revert a;refine wk ?_;refine qD rfl ?_ ?_
 ·intro h1;refine wk ?_;have ah:=O8 (l.take i);refine wk ?_;obtain ⟨A,D⟩:=Aq (xs:=l) (i:=i) tM;obtain ⟨a3,a7,_,a0,_,ay,U⟩:=S.at D;obtain ⟨ak,E,O,I⟩:=U;obtain ⟨au,aw,rfl,Y,ab,ae,aq,ai⟩:=O;subst E;have am:(A.item.key < 18446744073709551616∧A.item.typ < 256∧A.item.text.length≤9223372036854775807):=⟨Y,ab,ae⟩;have ao:-9223372036854775808≤A.size∧A.size≤9223372036854775807:=I;refine wk ?_;refine qD rfl ?_ ?_
  ·intro h3;refine wk ?_;obtain ⟨a4,a8,_,a2,_,az,V⟩:=S.at D;obtain ⟨al,H,T,N⟩:=V;obtain ⟨av,ax,rfl,aa,ac,ag,ar,aj⟩:=T;subst H;have an:(A.item.key < 18446744073709551616∧A.item.typ < 256∧A.item.text.length≤9223372036854775807):=⟨aa,ac,ag⟩;have ap:-9223372036854775808≤A.size∧A.size≤9223372036854775807:=N;refine wk ?_;refine Ak (fun a F=>Bb Gh.k ⟨_,by rw [Be Vn.k]⟩ (F.ev rfl) (Gn tM tM)) rfl<|Ak (fun a F=>Fx (F.ev rfl) (F.ev rfl) (Gn tM tM)) rfl<|wk ?_;refine qD rfl ?_ ?_
   ·intro h5;refine wk ?_;refine Af rfl rfl<|?_
    exact ⟨M,by rw [Abq (i:=i+1) (by rw [Kb D];omega)]⟩
   intro h6;refine wk ?_;intro a F
   exact ⟨_,tM,i+1,z+A.size,rfl,fU,M,tM,by rw [Kb D];omega,tM⟩
  intro h7;refine wk ?_;refine qD rfl ?_ ?_
  ·intro h8;refine wk ?_;refine Af rfl rfl<|?_
   exact ⟨M,by rw [Abq (i:=i+1) (by rw [Kb D];omega)]⟩
  intro h9;refine wk ?_;intro a F
  exact ⟨_,tM,i+1,z,rfl,fU,M,tM,by rw [Kb D];omega,tM⟩
 intro a5;refine wk ?_;have ah:=O8 (l.take i);refine wk ?_;refine Ak (fun a F=>Bb Vn.k ⟨_,by rw [Be Gh.k]⟩ (F.ev rfl) (Bi tM tM)) rfl<|wk ?_;refine Af rfl rfl<|?_
 exact ⟨M,by rw [Amc hz tM tM]⟩
theorem Aiz (M:Mem w0 G L w) {V:Option Addr} {Y:Nat} {l:List EntD} (S:Aj Bj 6 G (vS V l.length Y) l):Calls pG 158 #[.agg #[vS V l.length Y]] w (B5 w0 G L fun v=>v=iI (Yq l)):=by
 have bS:=S.bound;refine Ap (vs:=[_]) Tryz.func158 rfl (n:=26) rfl rfl<|?_
 refine Bt<|?_
 refine Ch M rfl rfl rfl<|?_;clear M;intro b1 w M
 refine wk ?_;refine fun a F=>Bd (fun m a' w'=>∃ (i:Nat),∃ (z:Int),m=l.length - i∧Fits 26 a' [(1,pP b1),(8,vS V l.length Y),(9,iI ((l.length:Nat):Int)),(3,iI z),(10,iI ((i:Nat):Int))]∧Mem w0 G (rB b1 [vS V l.length Y] 54::L) w'∧(i≤l.length)∧(z=Hj (l.take i))∧(z≤4611686018427387904)) _ ⟨0,0,rfl,fU,M,Nat.zero_le _,rfl,tM⟩ ?_;clear F M;rintro m a w ⟨i,z,rfl,F,M,hi,hz,an⟩;revert a;refine wk ?_;refine qD rfl ?_ ?_
 ·intro h2;refine wk ?_;have am:=O8 (l.take i);refine wk ?_;obtain ⟨A,D⟩:=Aq (xs:=l) (i:=i) tM;obtain ⟨al,ao,_,ak,_,aj,N⟩:=S.at D;obtain ⟨ab,E,I,H⟩:=N;obtain ⟨ah,ai,rfl,O,T,U,ag,aa⟩:=I;subst E;have ac:(A.item.key < 18446744073709551616∧A.item.typ < 256∧A.item.text.length≤9223372036854775807):=⟨O,T,U⟩;have ae:-9223372036854775808≤A.size∧A.size≤9223372036854775807:=H;refine wk ?_;refine B0 M Cn rfl rfl<|?_;clear M;intro b4 w M
  intro a F;refine Bf F M Cn 0<|sZ ?_;clear F M a;intro w M;refine wk ?_;refine Ak (fun a F=>Afl (F.ev rfl) (F.ev rfl)) rfl<|wk ?_;refine qD rfl ?_ ?_
  ·intro h6;refine wk ?_;refine Af rfl rfl<|?_
   exact ⟨M.wn dS2,by rw [Abq (i:=i+1) (by rw [Kb D];omega)]⟩
  intro h7;refine wk ?_;intro a F
  exact ⟨_,tM,i+1,z+(max (A.size) 0),rfl,fU,(M.wn tW),tM,by rw [Kb D];omega,tM⟩
 intro h8;refine wk ?_;refine Af rfl rfl<|?_
 exact ⟨M.wn dS1,by rw [Amc hz tM tM]⟩
theorem V9 (M:Mem w0 G L w) {A:Option Addr} {D:Nat} {l:List EntD} (S:Aj Bj 6 G (vS A l.length D) l):Calls pG 80 #[vS A l.length D] w (B5 w0 G L fun v=>v=iI (Dp l)):=by
 refine Ap (vs:=[_]) Tryz.func80 rfl (n:=6) rfl rfl<|wk ?_;refine A2 ent131 rfl rfl (Aqq (l:=l) M S)<|?_;clear M;rintro _ w M rfl
 refine wk ?_;refine qD rfl ?_ ?_
 ·intro E;refine wk ?_;refine Af rfl rfl<|?_
  exact ⟨M,by rw [Aoc tA]⟩
 intro H;refine wk ?_;refine Af rfl rfl<|?_
 exact ⟨M,by rw [Agb tA]⟩
theorem Z2 (M:Mem w0 G L w) {A:Option Addr} {D:Nat} {l:List EntD} (S:Aj Bj 6 G (vS A l.length D) l):Calls pG 115 #[.agg #[vS A l.length D]] w (B5 w0 G L fun v=>v=iI (Dp l)):=by
 refine Ap (vs:=[_]) Tryz.func115 rfl (n:=6) rfl rfl<|?_
 refine Bt<|?_
 refine Ch M rfl rfl rfl<|?_;clear M;intro E w M
 refine wk ?_;refine A2 ent158 rfl rfl (Aiz (l:=l) M S)<|?_;clear M;rintro _ w M rfl
 refine wk ?_;refine qD rfl ?_ ?_
 ·intro H;refine wk ?_;refine Af rfl rfl<|?_
  exact ⟨M.wn dS1,by rw [Aoc tA]⟩
 intro I;refine wk ?_;refine Af rfl rfl<|?_
 exact ⟨M.wn dS1,by rw [Agb tA]⟩
theorem Oo (M:Mem w0 G L w) {c:RulesD} {U:Option Addr} {V:Nat} (SC:Aj Cq 9 G (vS U c.kZ.length V) c.kZ) {a1:Option Addr} {c1:Nat} {l:List EntD} (S:Aj Bj 6 G (vS a1 l.length c1) l):Calls pG 68 #[.agg #[vS U c.kZ.length V,iI c.cap],.agg #[vS a1 l.length c1]] w (B5 w0 G L fun v=>v=iI (Bh c l)):=by
 have bS:=S.bound;refine Ap (vs:=[_,_]) Tryz.func68 rfl (n:=81) rfl rfl<|?_
 refine Bt<|?_
 refine Ch M rfl rfl rfl<|?_;clear M;intro b1 w M
 refine Ch M rfl rfl rfl<|?_;clear M;intro b2 w M
 refine wk ?_;refine A2 ent112 rfl rfl (Aiw (c:=c) M SC)<|?_;clear M;rintro _ w M rfl
 refine wk ?_;refine Ag rfl ?_ ?_
 ·intro a7;have h3:=dF (Ad a7);have b6:(decide (Mr c=0))=false:=(Ad a7);refine wk ?_;refine Af rfl rfl<|?_
  exact ⟨M.wn dS2,by rw [Apw (fun E=>by have av:=Qg E;omega),Ka (fun E=>by have av:=Qg E;omega)]⟩
 intro a8;have h4:=dT (Ae a8);have b7:(decide (Mr c=0))=true:=(Ae a8);refine wk ?_;refine qD rfl ?_ ?_
 ·intro h5;refine wk ?_;refine Af rfl rfl<|?_
  exact ⟨M.wn dS2,by rw [Apx (T6.1 tM) tM]⟩
 intro h6;refine wk ?_;intro a F;refine Wb (kt:=23) (et:=4) F M rfl ?_;clear F M a;intro aq w a M F;revert a;refine wk ?_;have hv:Dd c:=T6.1 (Classical.byContradiction fun E=>by first | omega | simp_all);intro a F;refine Bd (fun m a' w'=>∃ (i:Nat),∃ (es:Array MapEntry),∃ (cl:Nat),∃ (ks:List Nat),m=l.length - i∧Fits 81 a' [(2,pP b1),(3,pP b2),(6,.map (some aq)),(23,vS a1 l.length c1),(24,iI ((l.length:Nat):Int)),(25,iI ((i:Nat):Int))]∧Mem w0 G (.obj aq (.map es cl)::rB b2 [vS a1 l.length c1] 54::rB b1 [vS U c.kZ.length V,iI c.cap] 51::L) w'∧(i≤l.length)∧(Jz es ks)∧(F3 l i ks)∧(Bv (Im c l) i=0)) _ ⟨0,#[],0,([]:List Nat),rfl,fU,M,Nat.zero_le _,Jz.nil,F3.zero l,rfl⟩ ?_;clear F M;rintro m a w ⟨i,es,cl,ks,rfl,F,M,hi,Es,H,hS⟩;revert a;refine wk ?_;refine qD rfl ?_ ?_
 ·intro h8;refine wk ?_;obtain ⟨A,D⟩:=Aq (xs:=l) (i:=i) tM;obtain ⟨bo,b8,_,bn,_,bm,aB⟩:=S.at D;obtain ⟨aW,az,aA,a9⟩:=aB;obtain ⟨aF,aG,rfl,aC,aD,aE,bk,aa⟩:=aA;subst az;have an:(A.item.key < 18446744073709551616∧A.item.typ < 256∧A.item.text.length≤9223372036854775807):=⟨aC,aD,aE⟩;have bj:-9223372036854775808≤A.size∧A.size≤9223372036854775807:=a9;refine wk ?_;refine B0 M Cn rfl rfl<|?_;clear M;intro aJ w M
  intro a F;refine Bf F M Cn 0 ?_;clear F M a;intro w a M F;replace M:=z_M M;revert a;refine wk ?_;refine A2 Ahx rfl rfl (K2 (x:=A.item) (t:=((c.kZ.length:Nat):Int)) M an aa)<|?_;clear M;rintro _ w M rfl
  refine wk ?_;refine Ag rfl ?_ ?_
  ·intro ab;have bp:=dF (Ad ab);have aX:(decide (Hi ((c.kZ.length:Nat):Int) A.item=0))=false:=(Ad ab);refine wk ?_;refine Af rfl rfl<|?_
   exact ⟨M.wn dS4,by rw [ck6 hv tM hS D (fun E=>by have av:=Dc E;omega),E1 (fun E=>by have av:=Dc E;omega)]⟩
  intro ac;have bq:=dT (Ae ac);have aY:(decide (Hi ((c.kZ.length:Nat):Int) A.item=0))=true:=(Ae ac);refine wk ?_;have O:ItemOk (c.kZ.length:Int) A.item:=De.1 tM;obtain ⟨k,hK⟩:=J5 O;refine wk ?_;refine fun a F=>We F M (k:=1) rfl Es N1.k Gh.k Avw rfl rfl rfl rfl ?_;clear F a;intro a F;revert a;refine Ao<|Gd<|?_
  refine qD rfl ?_ ?_
  ·intro br;refine wk ?_;refine Af rfl rfl<|?_
   exact ⟨M.wn dS4,by rw [ck8 hv tM hS D O ((H _).1 tA)]⟩
  intro bt;refine wk ?_;intro a F;refine S8 (z:=A.item.key) F M (k:=1) rfl Es N1.k Gh.k rfl rfl rfl tA ?_;clear F M a;intro N I w a Y M F;revert a;refine wk ?_;refine A2 A1g rfl rfl (Ui (c:=c) (x:=A.item) M SC an aa hK)<|?_;clear M;rintro _ w M ⟨a3,a4,a5,a6,ao,ap,a0,ar,a2,au,rfl⟩
  refine wk ?_;refine B0 M A1 rfl rfl<|?_;clear M;intro aK w M
  intro a F;refine Bf F M A1 0 ?_;clear F M a;intro w a M F;revert a;refine Dq rfl<|Bt<|Cd rfl<|Awi rfl rfl<|Ao<|Gd<|?_
  refine Ag rfl ?_ ?_
  ·intro ae;have bu:=dF (Ad ae);have aZ:(decide (Hz c A.item=0))=false:=(Ad ae);refine Bt<|Dq rfl<|Fl<|Fu<|Iw<|Fu<|Fu<|Iw<|Fu<|?_
   refine Af rfl rfl<|?_
   exact ⟨M.wn dS5,by rw [ck14 hv tM hS D O (fun E=>absurd ((H _).2 E) tA) tM]⟩
  intro ag;have bv:=dT (Ae ag);have ba:(decide (Hz c A.item=0))=true:=(Ae ag);refine D8<|Ca<|?_
  refine fun a F=>D5 [(.free,0),(.pure,1),(.keep,2),(.free,3),(.free,4),(.free,5),(.pure,6),(.free,7),(.free,8),(.free,9),(.pure,10),(.free,11),(.pure,12),(.free,13),(.free,14),(.pure,15),(.free,16),(.free,17),(.pure,18),(.free,19),(.free,20),(.free,21)] [] (Keep G [rB aK [iB a3,vT a4,vT a5,vS ao a0 ar,vT a6,vS ap a2 au] 193,rB aJ [iU ((A.item.key:Nat):Int),iB ((A.item.typ:Nat):Int),qT A.item.text,vS aF A.item.mZ.length aG,iI A.size,vB A.known] 69,.obj aq (.map N I),rB b2 [vS a1 l.length c1] 54,rB b1 [vS U c.kZ.length V,iI c.cap] 51]) rfl kR kF (Aw (M.drew _)) ?_;replace M:=M.drew (w.drawn+1);revert a;refine wk ?_;refine k_k rfl<|A2 A1f rfl rfl (Ur (n:=A.size) M)<|?_;clear M;rintro _ w M rfl
  refine Ao<|?_
  refine eQ (Aw M)<|wk ?_
  rcases bE (!(decide (1≤A.size∧A.size≤2305843009213693952))) with ah | ai
  ·skip
   have bw:=dF (Ad ah);have bb:(decide (1≤A.size∧A.size≤2305843009213693952))=false:=(Ad ah);refine wk ?_;refine Af rfl rfl<|?_
   exact ⟨M.wn dS5,by rw [ck12 hv tM hS D O (fun E=>absurd ((H _).2 E) tA) tM (by unfold Jh;rw [Jk hK];clear M;grind)]⟩
  have bx:=dT (Ae ai);have be:(decide (1≤A.size∧A.size≤2305843009213693952))=true:=(Ae ai);refine wk ?_
  rcases bE (!(A.known)) with aj | am
  ·skip
   have bz:=Ad aj;have bf:(A.known)=false:=(Ad aj);refine wk ?_;obtain ⟨aV,bl,_,aU,_,aT,ay⟩:=SC.at hK;obtain ⟨aL,T,ax,aw⟩:=ay;obtain ⟨aR,aS,aP,aQ,rfl,aN,aO,aH,aI⟩:=D7 ax;subst T;have aM:-9223372036854775808≤k.base∧k.base≤9223372036854775807:=aw;refine wk ?_;refine Ag rfl ?_ ?_
   ·intro ak;have b0:=dF (Ad ak);have bg:(decide (A.size=k.base))=false:=(Ad ak);refine wk ?_;refine Af rfl rfl<|?_
    exact ⟨M.wn dS5,by rw [ck12 hv tM hS D O (fun E=>absurd ((H _).2 E) tA) tM (by unfold Jh;rw [Jk hK];clear M;grind)]⟩
   intro al;have b3:=dT (Ae al);have bh:(decide (A.size=k.base))=true:=(Ae al);refine wk ?_;intro a F
   exact ⟨_,tM,i+1,N,I,(A.item.key::ks),rfl,fU,(M.wn tW),tM,Y,H.step D,ck0 hS D O (fun E=>absurd ((H _).2 E) tA) tM (by unfold Jh;rw [Jk hK];clear F M;grind)⟩
  have b4:=Ae am;have bi:(A.known)=true:=(Ae am);refine wk ?_;intro a F
  exact ⟨_,tM,i+1,N,I,(A.item.key::ks),rfl,fU,(M.wn tW),tM,Y,H.step D,ck0 hS D O (fun E=>absurd ((H _).2 E) tA) tM (by unfold Jh;rw [Jk hK];clear F M;grind)⟩
 intro b5;refine wk ?_;refine A2 X5 rfl rfl (Z2 (l:=l) M S)<|?_;clear M;rintro _ w M rfl
 refine wk ?_;refine Af rfl rfl<|?_
 exact ⟨M.wn dS3,by rw [Kh hv tM hS tM]⟩
end Go.Proofs.YtmmhmcplegpenaaGreatDoor
