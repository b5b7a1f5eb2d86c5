/- Own lemmas. -/
import Derived.WalkKit
import Derived.ScopeJumps
import Derived.IntWalk
import Derived.KernelRfl
import Derived.Deep.QuietTactic
import Derived.Lib.Strings
import Derived.Lib.AppendStr
import Derived.Lib.UnsafeStr
import Derived.Lib.Builder
import Derived.Laws.Externs
import Derived.Sort.Row
import Derived.Sort.Grow
import Derived.Laws.BytesArg
import Derived.Lib.ItoaNum
import Derived.Lib.Itoa
import Derived.Below
import Derived.Lib.LaidTab
import Derived.Lib.ParseIntB
import Derived.Lib.ConvBytes
import Derived.Laws.StructEq
import Derived.ProofKit
import Derived.Deep.Slices
set_option linter.unusedSimpArgs false
set_option linter.unusedVariables false
set_option linter.unusedSectionVars false
namespace Go
theorem tM {p:Prop} (h:p:=by omega):p:=h
theorem tD {p:Prop} (h:p:=by decide):p:=h
theorem kR {p:Prop} (h:p:=by kernel_rfl):p:=h
theorem tS {p:Prop} (h:p:=by simp):p:=h
theorem tR {p:Prop} (h:p:=by rfl):p:=h
theorem tA {p:Prop} (h:p:=by assumption):p:=h
theorem tO {p:Prop} (h:p:=by (try simp only [List.length_drop,List.length_take,List.length_append,List.length_cons,List.length_nil]);omega):p:=h
end Go
namespace Go.Y
open Go
abbrev Env:=List (Nat × Value)
def look:Env→Nat→Option Value
 | [],_=>none
 | (i,v)::e,j=>match Nat.beq i j with
  | true=>some v
  | false=>look e j
structure Fits (n:Nat) (a:Act) (e:Env):Prop where
 size:a.tmps.size=n
 defers:a.defers=[]
 slot:∀ i v,look e i=some v→a.tmps[i]?=some v
def ev (e:Env):Operand→Option Value
 | .tmp i=>look e i
 | .const v=>some v
 | .global g=>some (.pointer (some ⟨g,0,none⟩))
 | .func f=>some (.func (.func f) #[] #[])
section
variable {n:Nat} {a:Act} {e:Env}
theorem Fits.ev (F:Fits n a e) {x:Operand} {v:Value} (h:ev e x=some v):a.eval x=v:=by
 cases x with
 | tmp i =>
  have:=F.slot i v h;simp [Act.eval,Array.getD_eq_getD_getElem?,this]
 | const c=>simpa [Y.ev,Act.eval] using h
 | global g=>simpa [Y.ev,Act.eval] using h
 | func f=>simpa [Y.ev,Act.eval] using h
theorem Du {i j:Nat} {v:Value} (h:i≠j):look ((i,v)::e) j=look e j:=by
 have:Nat.beq i j=false:=by
  cases hb:Nat.beq i j with
  | false=>rfl
  | true=>exact absurd (Nat.eq_of_beq_eq_true hb) h
 simp [look,this]
theorem Dv {i:Nat} {v:Value}:look ((i,v)::e) i=some v:=by
 simp [look]
theorem Fits.put (F:Fits n a e) {d:Nat} {v:Value} (hd:Nat.ble (d+1) n=true):Fits n (a.put (some d) v) ((d,v)::e):=by
 have D:d < n:=Nat.le_of_ble_eq_true hd;refine ⟨by simp [Act.put,F.size],F.defers,?_⟩;intro i u z
 by_cases h:d=i
 ·subst h;rw [Dv] at z;simp only [Option.some.injEq] at z;subst z;simp [Act.put,F.size,D]
 ·rw [Du h] at z;simp only [Act.put];rw [Array.getElem?_setIfInBounds_ne h];exact F.slot i u z
theorem Fits.sub (F:Fits n a e) {z:Env} (h:∀ i v,look z i=some v→look e i=some v):Fits n a z :=
 ⟨F.size,F.defers,fun i v D=>F.slot i v (h i v D)⟩
def Sub (e:Env):Env→Prop
 | []=>True
 | (i,v)::r=>look e i=some v∧Sub e r
theorem Sub.look {D:Env} (h:Sub e D):∀ i v,look D i=some v→look e i=some v:=by
 induction D with
 | nil=>intro i v h;simp [Y.look] at h
 | cons p r ih =>
  obtain ⟨j,u⟩:=p;intro i v z
  by_cases hji:j=i
  ·subst hji;rw [Dv] at z;simp only [Option.some.injEq] at z;subst z;exact h.1
  ·rw [Du hji] at z;exact ih h.2 i v z
theorem Fits.to (F:Fits n a e) {z:Env} (h:Sub e z):Fits n a z:=F.sub h.look
end
section
variable {P:Program} {ops:Array Oper} {Q:Exit→Act→World→Prop}
def rl (P:Program) (ops:Array Oper) (Q:Exit→Act→World→Prop):List Oper→Act→World→Prop
 | [],a,w=>Q .normal a w
 | o::r,a,w =>
  (Region.wanted o (yielded ops a.tmps)=true→o.wp P a w (rl P ops Q r) Q) ∧
  (Region.wanted o (yielded ops a.tmps)=false→rl P ops Q r (a.put o.dst undef) w)
theorem Hb:∀ (l:List Nat) (a:Act) (w:World),rl P ops Q (l.filterMap (ops[·]?)) a w→wpOps P ops Q l a w
 | [],a,w,h=>h
 | i::l,a,w,h=>by
  cases ho:ops[i]? with
  | none =>
   simp only [wpOps,ho];simp only [List.filterMap_cons,ho] at h;exact Hb l a w h
  | some o =>
   simp only [wpOps,ho];simp only [List.filterMap_cons,ho,rl] at h
   by_cases hw:Region.wanted o (yielded ops a.tmps)=true
   ·simp only [hw,if_true];exact .inl (Oper.wp_mono (fun a w=>Hb l a w) (h.1 hw))
   ·simp only [hw];exact Hb l _ _ (h.2 (by simpa using hw))
theorem Ft (z:Array Oper):(List.range z.size).filterMap (z[·]?)=z.toList:=by
 apply List.ext_getElem?
 intro i;have h:∀ m,m≤z.size→(List.range m).filterMap (z[·]?)=z.toList.take m:=by
  intro m
  induction m with
  | zero=>intro _;simp
  | succ m ih =>
   intro D;rw [List.range_succ,List.filterMap_append,ih tM];have:z[m]?=some z[m]:=Array.getElem?_eq_getElem tM;simp only [List.filterMap_cons,this,List.filterMap_nil];rw [List.take_succ_eq_append_getElem (by simpa using (by omega:m < z.size))];simp
 rw [h _ (Nat.le_refl _),List.take_of_length_le (by simp)]
theorem w_region {id:Nat} {a:Act} {w:World} (h:rl P ops Q ops.toList a w):(Code.region id ops false).wp P Q a w :=
 wp_region (Hb _ a w (by rw [Ft];exact h))
theorem Ar {id:Nat} {l:List Oper} {a:Act} {w:World} (h:rl P l.toArray Q l a w):(Code.region id l.toArray false).wp P Q a w :=
 w_region (by simpa using h)
theorem Ak {a:Act} {w:World} (h:Q .normal a w):rl P ops Q [] a w:=h
theorem Aa {n:Nat} {a:Act} {w:World} {e:Env} {d:Nat} {op:Op} {t:TypeId} {p:String} {D:Array Edge} {r:List Oper} {v:Value} {w':World}
  (F:Fits n a e) (E:(execOp a.eval ⟨some d,op,t,p,D,none⟩).run P w=.ok (.value v) w') (hd:Nat.ble (d+1) n=true)
  (k:∀ z,Fits n z ((d,v)::e)→rl P ops Q r z w'):rl P ops Q (⟨some d,op,t,p,D,none⟩::r) a w:=by
 refine ⟨fun _=>?_,fun h=>by simp [Region.wanted] at h⟩;unfold Oper.wp;rw [E];exact k _ (F.put hd)
theorem U8 {n:Nat} {a:Act} {w:World} {e:Env} {op:Op} {t:TypeId} {p:String} {D:Array Edge} {r:List Oper} {w':World}
  (F:Fits n a e) (E:(execOp a.eval ⟨none,op,t,p,D,none⟩).run P w=.ok .skip w')
  (k:∀ z,Fits n z e→rl P ops Q r z w'):rl P ops Q (⟨none,op,t,p,D,none⟩::r) a w:=by
 refine ⟨fun _=>?_,fun h=>by simp [Region.wanted] at h⟩;unfold Oper.wp;rw [E];exact k _ F
theorem Zu {n:Nat} {a:Act} {w:World} {e:Env} {d:Nat} {op:Op} {t:TypeId} {p:String} {E:Array Edge} {r:List Oper} {j g:Nat} {want b:Bool}
  (F:Fits n a e) (O:(ops[j]?).bind (·.dst)=some g) (J:look e g=some (.bool b)) (hd:Nat.ble (d+1) n=true)
  (z:b=want→rl P ops Q (⟨some d,op,t,p,E,none⟩::r) a w)
  (U:b = !want→∀ D,Fits n D ((d,undef)::e)→rl P ops Q r D w):rl P ops Q (⟨some d,op,t,p,E,some (j,want)⟩::r) a w:=by
 have I:yielded ops a.tmps j=some b:=by
  simp [yielded,O,F.slot _ _ J]
 refine ⟨fun h=>?_,fun h=>?_⟩
 ·have:b=want:=by simpa [Region.wanted,I] using h
  exact (z this).1 rfl
 ·have:b = !want:=by
   have h':¬ b=want:=by simpa [Region.wanted,I] using h
   cases b <;> cases want <;> simp_all
  exact U this _ (F.put hd)
end
section
variable {P:Program} {Q:Exit→Act→World→Prop} {n:Nat} {a:Act} {w:World} {e:Env}
theorem w_cond {c:Operand} {x y:Code} {t:Bool} (F:Fits n a e) (z:ev e c=some (.bool t)) (E:t=true→x.wp P Q a w)
  (D:t=false→y.wp P Q a w):(Code.cond c x y).wp P Q a w:=wp_cond_split (F.ev z) E D
theorem Dk {c:Operand} {x y:Code} {t:Bool} (F:Fits n a e) (z:ev e c=some (.bool t)) (D:t=true) (k:x.wp P Q a w):(Code.cond c x y).wp P Q a w :=
 wp_cond_split (F.ev z) (fun _=>k) (fun h=>by rw [D] at h;cases h)
theorem C8 {c:Operand} {x y:Code} {t:Bool} (F:Fits n a e) (z:ev e c=some (.bool t)) (D:t=false) (k:y.wp P Q a w):(Code.cond c x y).wp P Q a w :=
 wp_cond_split (F.ev z) (fun h=>by rw [D] at h;cases h) (fun _=>k)
theorem Aqn {σ:Type} {c:Code} (I:σ→Act→World→Prop) (rk:σ→Nat) (s0:σ) (h0:I s0 a w)
  (J:∀ s a w,I s a w→c.wp P (Exit.then (fun O w'=>∃ Z,rk Z < rk s∧I Z O w') Q) a w):(Code.loop c).wp P Q a w:=by
 intro b k cs;have key:∀ n s a w,rk s=n→I s a w →
   ∃ e O w',Q e O w'∧Arrives P (lone (b.at a (.code c::.inLoop c::k)) cs w) b k cs e O w':=by
  intro n
  induction n using Nat.strongRecOn with
  | _ n ih =>
   intro s a w hn hI;obtain ⟨e,U,Y,D,z⟩:=J s a w hI b (.inLoop c::k) cs;cases e with
   | normal =>
    obtain ⟨Z,ab,aa⟩:=D;obtain ⟨e₂,a₂,w₂,ac,E⟩:=ih (rk Z) (hn ▸ ab) Z U Y rfl aa;exact ⟨e₂,a₂,w₂,ac,.of_steps (Steps.trans z (.one step_inLoop)) E⟩
   | exit id=>exact ⟨_,U,Y,D,.pass (x:=.inLoop c) rfl (fun _ _=>.inl (by simp)) z⟩
   | goto l=>exact ⟨_,U,Y,D,.pass (x:=.inLoop c) rfl (fun _ _=>.inl (by simp)) z⟩
   | ret=>exact ⟨_,U,Y,D,.pass (x:=.inLoop c) rfl (fun _ _=>.inl (by simp)) z⟩
   | panic ch=>exact ⟨_,U,Y,D,.pass (x:=.inLoop c) rfl (fun _ _=>.inl (by simp)) z⟩
   | outgrown=>exact ⟨_,U,Y,D,.pass (x:=.inLoop c) rfl (fun _ _=>.inl (by simp)) z⟩
 obtain ⟨e,O,w',D,z⟩:=key _ s0 a w rfl h0;exact ⟨e,O,w',D,.of_steps (.one step_loop) z⟩
theorem Zz {id:Nat} (h:Q .normal a w):Exit.inBlock id Q (.exit id) a w:=by simpa [Exit.inBlock] using h
theorem Vh {id j:Nat} (z:j≠id) (h:Q (.exit j) a w):Exit.inBlock id Q (.exit j) a w:=by simpa [Exit.inBlock,z] using h
end
section
variable {P:Program} {R:Ending→World→Prop} {w:World}
def envOf:Nat→List Value→Env
 | _,[]=>[]
 | i,v::vs=>(i,v)::envOf (i+1) vs
theorem Lu:∀ (vs:List Value) (k i:Nat) (v:Value),look (envOf k vs) i=some v→k≤i∧vs[i - k]?=some v
 | [],k,i,v,h=>by simp [envOf,look] at h
 | u::vs,k,i,v,h=>by
  by_cases hk:k=i
  ·subst hk;simp only [envOf] at h;rw [Dv] at h;simpa using h
  ·simp only [envOf] at h;rw [Du hk] at h;obtain ⟨h1,h2⟩:=Lu vs (k+1) i v h;refine ⟨tM,?_⟩;rw [show i - k=(i - (k+1))+1 by omega];simpa using h2
theorem Bf {f:FuncId} {fn:Func} {c:Code} {vs:List Value} (I:P.funcs[f]?=some fn) (E:fn.body=some c) {n:Nat} (O:fn.ntmps=n) (hs:Nat.ble vs.length n=true)
  (h:∀ a,Fits n a (envOf 0 vs)→c.wp P (bodyPost P fn R) a w):Calls P f vs.toArray w R:=by
 have U:=Nat.le_of_ble_eq_true hs;refine calls_of_wp I E (h _ ⟨by simp [O];omega,rfl,?_⟩);intro i v J;obtain ⟨_,z⟩:=Lu vs 0 i v J;have D:i < vs.length:=by
  rcases Nat.lt_or_ge i vs.length with h' | h'
  ·exact h'
  ·simp [List.getElem?_eq_none h'] at z
 simp only [Nat.sub_zero] at z;rw [Array.getElem?_append_left (by simpa using D)];simpa using z
theorem Aef {fn:Func} {n:Nat} {a:Act} {e:Env} (F:Fits n a e) {v:Value} (z:(results fn a.tmps).run P w=.ok v w) (h:R (.returned v) w):bodyPost P fn R .ret a w :=
 ⟨F.defers,v,z,h⟩
theorem fin0 {fn:Func} {n:Nat} {a:Act} {e:Env} (F:Fits n a e) (z:fn.results = #[]) (h:R (.returned (.tuple #[])) w):bodyPost P fn R .ret a w :=
 Aef F (v:=.tuple #[]) (results_none z _ _ _) h
theorem Awt {fn:Func} {n:Nat} {a:Act} {e:Env} (F:Fits n a e) (z:fn.results = #[]) (h:R (.returned (.tuple #[])) w):bodyPost P fn R .normal a w:=fin0 F z h
theorem Po {a:Act} {n:Nat} {e:Env} (F:Fits n a e) {t:Nat} {v:Value} (h:look e t=some v):a.tmps.getD t undef=v:=by
 simp [Array.getD_eq_getD_getElem?,F.slot _ _ h]
theorem O7 {fn:Func} {n:Nat} {a:Act} {e:Env} (F:Fits n a e) {t:Nat} {v:Value} (z:fn.results = #[.tmp t]) (D:look e t=some v) (h:R (.returned v) w):bodyPost P fn R .ret a w :=
 Aef F (v:=v) (by rw [results_tmp z,Po F D]) h
theorem fin2 {fn:Func} {n:Nat} {a:Act} {e:Env} (F:Fits n a e) {t u:Nat} {v x:Value} (z:fn.results = #[.tmp t,.tmp u]) (D:look e t=some v) (E:look e u=some x) (h:R (.returned (.tuple #[v,x])) w):bodyPost P fn R .ret a w :=
 Aef F (v:=.tuple #[v,x]) (by rw [results_tmp2 z,Po F D,Po F E]) h
end
inductive TK where
 | int (k:IntKind) | bool | str | ptr (e:Nat) | slice (e:Nat) | struct (fs:List (Nat × Nat × Nat)) | array (n e:Nat)
 | map (k e:Nat) | func | iface | other
def tk (P:Program) (t:TypeId):TK:=match P.underlying t with
 | some (.int k)=>.int k
 | some .bool=>.bool
 | some .string=>.str
 | some (.pointer e)=>.ptr e
 | some (.slice e)=>.slice e
 | some (.struct fs)=>.struct (fs.toList.map fun f=>(f.offset,P.cellsOf f.type,f.type))
 | some (.array n e)=>.array n e
 | some (.map k e)=>.map k e
 | some (.func ..)=>.func
 | some (.interface _)=>.iface
 | _=>.other
structure TI where
 k:TK
 size:Nat
 bytes:Nat
 zero:Value
structure TOK (P:Program) (t:TypeId) (i:TI):Prop where
 k:tk P t=i.k
 sb:(P.info? t).map (fun x=>(x.size,x.bytes))=some (i.size,i.bytes)
 z:(P.info? t).bind (·.zero)=some i.zero
section
variable {P:Program} {t:TypeId} {i:TI} {w:World}
theorem TOK.info (h:TOK P t i):∃ x,P.info? t=some x∧x.size=i.size∧x.bytes=i.bytes∧x.zero=some i.zero:=by
 have D:=h.sb;have E:=h.z;cases hx:P.info? t with
 | none=>rw [hx] at D;simp at D
 | some x =>
  rw [hx] at D E;simp at D E;exact ⟨x,rfl,D.1,D.2,E⟩
theorem TOK.typeInfo (h:TOK P t i):∃ x,(typeInfo t).run P w=.ok x w∧x.size=i.size∧x.bytes=i.bytes∧x.zero=some i.zero:=by
 obtain ⟨x,D,z⟩:=h.info;refine ⟨x,?_,z⟩;simp [Go.typeInfo,program,Sem.run_bind,Sem.run,D]
theorem TOK.sizeOf (h:TOK P t i):(sizeOf t).run P w=.ok i.size w:=by
 obtain ⟨x,D,z,_⟩:=h.typeInfo (w:=w);simp only [Go.sizeOf,Sem.run_bind,D,Result.andThen_ok,Sem.run_pure,z]
theorem TOK.zeroValue (h:TOK P t i):(zeroValue t).run P w=.ok i.zero w:=by
 obtain ⟨x,D,E,I,z⟩:=h.typeInfo (w:=w);simp only [Go.zeroValue,Sem.run_bind,D,Result.andThen_ok,z,Sem.run_pure]
theorem Bi {e:Nat} (h:tk P t=.slice e):P.underlying t=some (.slice e):=by
 unfold tk at h;split at h <;> simp_all
theorem Ga {z:List (Nat × Nat × Nat)} (h:tk P t=.struct z):∃ f:Array Field,P.underlying t=some (.struct f)∧f.toList.map (fun f=>(f.offset,P.cellsOf f.type,f.type))=z:=by
 unfold tk at h;split at h <;> simp_all
theorem under_array {n e:Nat} (h:tk P t=.array n e):P.underlying t=some (.array n e):=by
 unfold tk at h;split at h <;> simp_all
theorem Gb (h:tk P t=.str):P.underlying t=some .string:=by
 unfold tk at h;split at h <;> simp_all
theorem J6 {k:IntKind} (h:tk P t=.int k):P.underlying t=some (.int k):=by
 unfold tk at h;split at h <;> simp_all
theorem Px (h:tk P t=.bool):P.underlying t=some .bool:=by
 unfold tk at h;split at h <;> simp_all
theorem Gc {e:Nat} (h:tk P t=.ptr e):P.underlying t=some (.pointer e):=by
 unfold tk at h;split at h <;> simp_all
def TK.agg:TK→Option Bool
 | .struct _ | .array ..=>some true
 | .other=>none
 | _=>some false
theorem run_under {d:TypeDesc} (h:P.underlying t=some d):(underlying t).run P w=.ok d w:=by
 simp [underlying,program,Sem.run_bind,Sem.run,h]
theorem Oi (h:(tk P t).agg=some false):(isAgg t).run P w=.ok false w:=by
 unfold tk at h;split at h <;> simp [TK.agg] at h <;> (rename_i z;simp [isAgg,Sem.run_bind,run_under z])
theorem run_isAgg_t (h:(tk P t).agg=some true):(isAgg t).run P w=.ok true w:=by
 unfold tk at h;split at h <;> simp [TK.agg] at h <;> (rename_i z;simp [isAgg,Sem.run_bind,run_under z])
end
abbrev Ghost:=Nat→Option Obj
def Gle (G G':Ghost):Prop:=∀ r o,G r=some o→G' r=some o
theorem Gle.refl (G:Ghost):Gle G G:=fun _ _ h=>h
theorem Gle.trans {G G' z:Ghost} (h:Gle G G') (h':Gle G' z):Gle G z:=fun r o D=>h' r o (h r o D)
def Gs (G:Ghost) (b o:Nat):Option Value:=match G b with
 | some (.cells c _ _)=>c[o]?
 | _=>none
theorem Ip {G G':Ghost} (h:Gle G G') {b o:Nat} {v:Value} (z:Gs G b o=some v):Gs G' b o=some v:=by
 unfold Gs at *;split at z
 ·rename_i c t f D;rw [h _ _ D];exact z
 ·cases z
inductive Res where
 | blk (b:Nat) (cs:List Value) (t:TypeId)
 | row (v:Value) (n:Nat) (cs:List Value) (t:TypeId) (sz:Nat)
 | obj (b:Nat) (o:Obj)
def Res.foot:Res→Option Nat
 | .blk b _ _=>some b
 | .obj b _=>some b
 | .row v _ _ _ _=>v.ownBlock
def rowIs (w:World) (v:Value) (n:Nat) (cs:List Value) (t:TypeId) (sz:Nat):Prop:=w.ownsRow 0 t sz v n cs∧∀ u∈cs,u.oneCell' = true
def Res.holds (w:World):Res→Prop
 | .blk b cs t=>w.heap[b]?=some (.cells cs.toArray t (0,0))
 | .obj b o=>w.heap[b]?=some o
 | .row v n cs t sz=>rowIs w v n cs t sz
structure Mem (w0:World) (G:Ghost) (L:List Res) (w:World):Prop where
 os:w.os=w0.os
 tape:w.tape=w0.tape
 output:w.output=w0.output
 grow:w0.heap.size≤w.heap.size
 pers:∀ r o,G r=some o→w.heap[r]?=some o
 own:∀ x∈L,x.holds w
 free:∀ x∈L,∀ b,x.foot=some b→G b=none
 apart:L.Pairwise (fun x y=>∀ b,x.foot=some b→y.foot≠some b)
theorem lt_of_heap {w:World} {b:Nat} {o:Obj} (h:w.heap[b]?=some o):b < w.heap.size:=by
 rcases Nat.lt_or_ge b w.heap.size with h' | h'
 ·exact h'
 ·simp [Array.getElem?_eq_none h'] at h
theorem Res.foot_lt {w:World} {x:Res} (h:x.holds w) {b:Nat} (z:x.foot=some b):b < w.heap.size:=by
 cases x with
 | blk b' cs t=>simp only [Res.foot,Option.some.injEq] at z;subst z;exact lt_of_heap h
 | obj b' o=>simp only [Res.foot,Option.some.injEq] at z;subst z;exact lt_of_heap h
 | row v n cs t sz=>exact (h.1.lt b z).2
theorem Res.holds_of {w w':World} {x:Res} (h:x.holds w) (hs:∀ b,x.foot=some b→w'.heap[b]?=w.heap[b]?):x.holds w':=by
 cases x with
 | blk b' cs t=>simp only [Res.holds] at *;rw [hs b' rfl];exact h
 | obj b' o=>simp only [Res.holds] at *;rw [hs b' rfl];exact h
 | row v n cs t sz =>
  obtain ⟨⟨I,E⟩,J⟩:=h;refine ⟨⟨I,?_⟩,J⟩;rcases E with E | ⟨g,z,D,rfl,O,U,Y⟩
  ·exact Or.inl E
  ·exact Or.inr ⟨g,z,D,rfl,O,by rw [hs g rfl];exact U,Y⟩
section
variable {P:Program} {w0 w:World} {G:Ghost} {L:List Res}
theorem Mem.same (M:Mem w0 G L w) {w':World} (E:w'.os=w.os) (I:w'.tape=w.tape) (J:w'.output=w.output) (O:w.heap.size≤w'.heap.size)
    (z:∀ b,b < w.heap.size→w'.heap[b]?=w.heap[b]?):Mem w0 G L w' :=
  ⟨E.trans M.os,I.trans M.tape,J.trans M.output,Nat.le_trans M.grow O,
   fun r o Y=>by have:=M.pers r o Y;rw [z r (lt_of_heap this)];exact this,
   fun x D=>Res.holds_of (M.own x D) fun b U=>z b (Res.foot_lt (M.own x D) U),M.free,M.apart⟩
theorem Mem.drew (M:Mem w0 G L w) (k:Nat):Mem w0 G L { w with drawn:=k }:=M.same rfl rfl rfl (Nat.le_refl _) (fun _ _=>rfl)
theorem Mem.cell (M:Mem w0 G L w) {b o:Nat} {v:Value} (h:Gs G b o=some v):w.cell? ⟨b,o,none⟩=some v:=by
 unfold Gs at h;split at h
 ·rename_i c t f z;simp [World.cell?,M.pers _ _ z,h]
 ·cases h
theorem Mem.weaken (M:Mem w0 G L w) {D:List Res} (h:D.Sublist L):Mem w0 G D w :=
 ⟨M.os,M.tape,M.output,M.grow,M.pers,fun x z=>M.own x (h.subset z),fun x z=>M.free x (h.subset z),M.apart.sublist h⟩
theorem Mem.perm (M:Mem w0 G L w) {E:List Res} (h:L.Perm E):Mem w0 G E w :=
  ⟨M.os,M.tape,M.output,M.grow,M.pers,fun x z=>M.own x (h.mem_iff.2 z),fun x z=>M.free x (h.mem_iff.2 z),
   h.pairwise M.apart (fun D b I J=>D b J I)⟩
theorem Mem.new (M:Mem w0 G L w) (o:Obj):Mem w0 G (.obj w.heap.size o::L) { w with heap:=w.heap.push o }:=by
 have z:Mem w0 G L { w with heap:=w.heap.push o }:=M.same rfl rfl rfl (by simp) (fun b D=>by
  show (w.heap.push o)[b]?=_;rw [Array.getElem?_push,if_neg tM])
 refine ⟨z.os,z.tape,z.output,z.grow,z.pers,?_,?_,?_⟩
 ·intro x E;rcases List.mem_cons.1 E with rfl | E
  ·show (w.heap.push o)[w.heap.size]?=some o;simp
  ·exact z.own x E
 ·intro x E b D;rcases List.mem_cons.1 E with rfl | E
  ·simp only [Res.foot,Option.some.injEq] at D;subst D;cases hg:G w.heap.size with
   | none=>rfl
   | some o'=>have:=lt_of_heap (M.pers _ _ hg);omega
  ·exact z.free x E b D
 ·refine List.pairwise_cons.2 ⟨fun y J b D I=>?_,M.apart⟩;simp only [Res.foot,Option.some.injEq] at D;subst D;have:=Res.foot_lt (M.own y J) I;omega
theorem Mem.swap_head {x y:Res} (M:Mem w0 G (x::L) w) {w':World} (Y:y.foot=x.foot) (hy:y.holds w')
  (Z:w'.os=w.os) (h2:w'.tape=w.tape) (h3:w'.output=w.output) (h4:w'.heap.size=w.heap.size)
  (U:∀ b,x.foot≠some b→w'.heap[b]?=w.heap[b]?):Mem w0 G (y::L) w':=by
 have E:=List.pairwise_cons.1 M.apart;refine ⟨Z.trans M.os,h2.trans M.tape,h3.trans M.output,by rw [h4];exact M.grow,?_,?_,?_,?_⟩
 ·intro r o O;rw [U r (fun J=>by have:=M.free x (by simp) r J;rw [this] at O;cases O)];exact M.pers r o O
 ·intro z D;rcases List.mem_cons.1 D with rfl | D
  ·exact hy
  ·exact Res.holds_of (M.own z (by simp [D])) fun b I=>U b fun J=>E.1 z D b J I
 ·intro z D b I;rcases List.mem_cons.1 D with rfl | D
  ·exact M.free x (by simp) b (Y ▸ I)
  ·exact M.free z (by simp [D]) b I
 ·exact List.pairwise_cons.2 ⟨fun z D b I=>E.1 z D b (Y ▸ I),E.2⟩
theorem Mem.grow_head {x y:Res} (M:Mem w0 G (x::L) w) {w':World} (Z:∀ b,y.foot=some b→x.foot=some b∨w.heap.size≤b) (hy:y.holds w')
  (h1:w'.os=w.os) (h2:w'.tape=w.tape) (h3:w'.output=w.output) (h4:w.heap.size≤w'.heap.size)
  (Y:∀ b,b < w.heap.size→x.foot≠some b→w'.heap[b]?=w.heap[b]?):Mem w0 G (y::L) w':=by
 have E:=List.pairwise_cons.1 M.apart;have hG:∀ r,w.heap.size≤r→G r=none:=fun r U=>by
  cases hg:G r with
  | none=>rfl
  | some o=>have:=lt_of_heap (M.pers _ _ hg);omega
 refine ⟨h1.trans M.os,h2.trans M.tape,h3.trans M.output,Nat.le_trans M.grow h4,?_,?_,?_,?_⟩
 ·intro r o U;have hp:=M.pers r o U;rw [Y r (lt_of_heap hp) (fun J=>by have:=M.free x (by simp) r J;rw [this] at U;cases U)];exact hp
 ·intro z D;rcases List.mem_cons.1 D with rfl | D
  ·exact hy
  ·have O:=M.own z (by simp [D]);exact Res.holds_of O fun b I=>Y b (Res.foot_lt O I) fun J=>E.1 z D b J I
 ·intro z D b I;rcases List.mem_cons.1 D with rfl | D
  ·rcases Z b I with h | h
   ·exact M.free x (by simp) b h
   ·exact hG b h
  ·exact M.free z (by simp [D]) b I
 ·refine List.pairwise_cons.2 ⟨fun z D b I J=>?_,E.2⟩;rcases Z b I with h | h
  ·exact E.1 z D b h J
  ·have:=Res.foot_lt (M.own z (by simp [D])) J;omega
theorem perm_front:∀ (L:List Res) (k:Nat) (x:Res),L[k]?=some x→L.Perm (x::L.eraseIdx k)
 | [],k,x,h=>by simp at h
 | y::L,0,x,h=>by simp at h;subst h;simp
 | y::L,k+1,x,h=>by
  have h':L[k]?=some x:=by simpa using h
  have:=perm_front L k x h';simp only [List.eraseIdx_cons_succ];exact ((this.cons y).trans (List.Perm.swap x y _))
theorem perm_set:∀ (L:List Res) (k:Nat) (x y:Res),L[k]?=some x→(y::L.eraseIdx k).Perm (L.set k y)
 | [],k,x,y,h=>by simp at h
 | z::L,0,x,y,h=>by simp
 | z::L,k+1,x,y,h=>by
  have h':L[k]?=some x:=by simpa using h
  simp only [List.eraseIdx_cons_succ,List.set_cons_succ];exact (List.Perm.swap z y _).trans ((perm_set L k x y h').cons z)
theorem Mem.swap_at (M:Mem w0 G L w) {k:Nat} {x y:Res} (z:L[k]?=some x) {w':World} (U:y.foot=x.foot) (Y:y.holds w')
  (D:w'.os=w.os) (E:w'.tape=w.tape) (I:w'.output=w.output) (J:w'.heap.size=w.heap.size)
  (O:∀ b,x.foot≠some b→w'.heap[b]?=w.heap[b]?):Mem w0 G (L.set k y) w' :=
 ((M.perm (perm_front L k x z)).swap_head U Y D E I J O).perm (perm_set L k x y z)
theorem Mem.grow_at (M:Mem w0 G L w) {k:Nat} {x y:Res} (z:L[k]?=some x) {w':World} (U:∀ b,y.foot=some b→x.foot=some b∨w.heap.size≤b) (Y:y.holds w')
  (D:w'.os=w.os) (E:w'.tape=w.tape) (I:w'.output=w.output) (J:w.heap.size≤w'.heap.size)
  (O:∀ b,b < w.heap.size→x.foot≠some b→w'.heap[b]?=w.heap[b]?):Mem w0 G (L.set k y) w' :=
 ((M.perm (perm_front L k x z)).grow_head U Y D E I J O).perm (perm_set L k x y z)
theorem Mem.freeze (M:Mem w0 G L w) {k:Nat} {b:Nat} {cs:List Value} {t:TypeId} (Z:L[k]?=some (.blk b cs t)) :
  ∃ G',Gle G G'∧G' b=some (.cells cs.toArray t (0,0))∧Mem w0 G' (L.eraseIdx k) w:=by
 have D:=M.perm (perm_front L k _ Z);have U:G b=none:=D.free (.blk b cs t) (by simp) b rfl;have E:=List.pairwise_cons.1 D.apart;have Y:w.heap[b]?=some (.cells cs.toArray t (0,0)):=D.own (.blk b cs t) (by simp);refine ⟨fun r=>if r=b then some (.cells cs.toArray t (0,0)) else G r,?_,by simp,?_⟩
 ·intro r o z
  by_cases h:r=b
  ·subst h;rw [U] at z;cases z
  ·simp [h,z]
 ·refine ⟨M.os,M.tape,M.output,M.grow,?_,?_,?_,E.2⟩
  ·intro r o z
   by_cases h:r=b
   ·subst h;simp at z;subst z;exact Y
   ·simp only [h,if_false] at z;exact M.pers r o z
  ·exact fun x I=>D.own x (by simp [I])
  ·intro x I c O;have J:c≠b:=fun e=>E.1 x I b rfl (e ▸ O);simp only [J,if_false];exact D.free x (by simp [I]) c O
theorem Mo {b o:Nat} {v:Value} {c:Array Value} {t:TypeId} {f:Nat × Nat} (h:w.heap[b]?=some (.cells c t f)) :
  (w.setCell ⟨b,o,none⟩ v).heap[b]?=some (.cells (c.setIfInBounds o v) t f):=by
 simp [World.setCell,Array.getElem?_modify,h]
theorem Gp {b o r:Nat} {v:Value} (h:r≠b):(w.setCell ⟨b,o,none⟩ v).heap[r]?=w.heap[r]?:=by
 simp only [World.setCell,Array.getElem?_modify];rw [if_neg (fun e=>h e.symm)]
theorem Mem.cellL (M:Mem w0 G L w) {k b:Nat} {cs:List Value} {t:TypeId} (D:L[k]?=some (.blk b cs t)) {o:Nat} {v:Value} (E:cs[o]?=some v) :
  w.cell? ⟨b,o,none⟩=some v:=by
 have z:w.heap[b]?=some (.cells cs.toArray t (0,0)):=M.own _ (List.mem_of_getElem? D);simp [World.cell?,z,E]
theorem Mem.frozenL (M:Mem w0 G L w) {k b:Nat} {cs:List Value} {t:TypeId} (D:L[k]?=some (.blk b cs t)) (o:Nat) :
  w.frozen? ⟨b,o,none⟩=false:=by
 have z:w.heap[b]?=some (.cells cs.toArray t (0,0)):=M.own _ (List.mem_of_getElem? D);simp [World.frozen?,z]
theorem Mem.set (M:Mem w0 G L w) {k b:Nat} {cs:List Value} {t:TypeId} (z:L[k]?=some (.blk b cs t)) (o:Nat) (v:Value) :
  Mem w0 G (L.set k (.blk b (cs.set o v) t)) (w.setCell ⟨b,o,none⟩ v):=by
 have D:w.heap[b]?=some (.cells cs.toArray t (0,0)):=M.own _ (List.mem_of_getElem? z);refine M.swap_at z rfl ?_ rfl rfl rfl (by simp [World.setCell]) ?_
 ·show (w.setCell _ _).heap[b]?=_;rw [Mo D];simp
 ·intro r E;exact Gp (fun e=>E (by simp [Res.foot,e]))
end
section
variable {P:Program} {w:World} {ρ:Operand→Value} {d:Option Tmp} {t:TypeId} {p:String} {af:Array Edge} {g:Option (Nat × Bool)}
theorem run_move {x:Operand} {v:Value} (z:ρ x=v):(execOp ρ ⟨d,.move x,t,p,af,g⟩).run P w=.ok (.value v) w:=by simp [execOp,z]
theorem run_assign {x:Operand} {v:Value} (z:ρ x=v):(execOp ρ ⟨d,.assign x,t,p,af,g⟩).run P w=.ok (.value v) w:=by simp [execOp,z]
theorem run_pick_t {c x y:Operand} {b:Bool} {v:Value} (D:ρ c=.bool b) (z:b=true) (E:ρ x=v):(execOp ρ ⟨d,.pick c x y,t,p,af,g⟩).run P w=.ok (.value v) w:=by
 subst z;simp [execOp,D,E,asBool]
theorem run_pick_f {c x y:Operand} {b:Bool} {v:Value} (D:ρ c=.bool b) (z:b=false) (E:ρ y=v):(execOp ρ ⟨d,.pick c x y,t,p,af,g⟩).run P w=.ok (.value v) w:=by
 subst z;simp [execOp,D,E,asBool]
theorem run_nilCheck {x:Operand} {a:Addr} (z:ρ x=.pointer (some a)):(execOp ρ ⟨d,.nilCheck x,t,p,af,g⟩).run P w=.ok (.value (.pointer (some a))) w:=by
 simp [execOp,z]
theorem run_extract {x:Operand} {i:Nat} {vs:Array Value} {v:Value} (D:ρ x=.tuple vs) (z:vs[i]?=some v):(execOp ρ ⟨d,.extract x i,t,p,af,g⟩).run P w=.ok (.value v) w:=by
 simp [execOp,D,Instr.extract,z]
theorem run_not {x:Operand} {ty:TypeId} {b:Bool} (z:ρ x=.bool b):(execOp ρ ⟨d,.unOp .not ty x,t,p,af,g⟩).run P w=.ok (.value (.bool (!b))) w:=by
 simp [execOp,z,Op.unary]
theorem U5 {fn:Fn} {cs:Array Operand} {vs:Array Value} (z:cs.map ρ=vs):(execOp ρ ⟨d,.makeFunc fn #[] cs,t,p,af,g⟩).run P w=.ok (.value (.func fn #[] vs)) w:=by
 simp [execOp,Instr.makeFunc,z]
theorem run_add {x y:Operand} {ty yt:TypeId} {k:IntKind} {a b:Int} (z:ρ x=.int k a) (D:ρ y=.int k b) :
  (execOp ρ ⟨d,.binOp .add ty x y yt,t,p,af,g⟩).run P w=.ok (.value (.int k (k.wrap (a+b)))) w:=by
 simp [execOp,z,D,eqGuard,binOp,Op.intArith]
theorem run_sub {x y:Operand} {ty yt:TypeId} {k:IntKind} {a b:Int} (z:ρ x=.int k a) (D:ρ y=.int k b) :
  (execOp ρ ⟨d,.binOp .sub ty x y yt,t,p,af,g⟩).run P w=.ok (.value (.int k (k.wrap (a - b)))) w:=by
 simp [execOp,z,D,eqGuard,binOp,Op.intArith]
theorem run_mul {x y:Operand} {ty yt:TypeId} {k:IntKind} {a b:Int} (z:ρ x=.int k a) (D:ρ y=.int k b) :
  (execOp ρ ⟨d,.binOp .mul ty x y yt,t,p,af,g⟩).run P w=.ok (.value (.int k (k.wrap (a * b)))) w:=by
 simp [execOp,z,D,eqGuard,binOp,Op.intArith]
def inKind (k:IntKind) (n:Int):Prop:=k.min≤n∧n≤k.max
theorem Pb {k:IntKind} {n:Int} (h:inKind k n):k.wrap n=n:=by
 obtain ⟨z,D⟩:=h;cases k <;> simp [IntKind.min,IntKind.max,IntKind.wrap,IntKind.signed,IntKind.bits] at * <;> omega
theorem in_i64 {n:Int} (z:-9223372036854775808≤n) (D:n≤9223372036854775807):inKind .i64 n:=⟨z,D⟩
theorem run_addi {x y:Operand} {ty yt:TypeId} {k:IntKind} {a b:Int} (z:ρ x=.int k a) (D:ρ y=.int k b) (h:inKind k (a+b)) :
  (execOp ρ ⟨d,.binOp .add ty x y yt,t,p,af,g⟩).run P w=.ok (.value (.int k (a+b))) w:=by
 rw [run_add z D,Pb h]
theorem Hx {x y:Operand} {ty yt:TypeId} {k:IntKind} {a b:Int} (z:ρ x=.int k a) (D:ρ y=.int k b) (h:inKind k (a - b)) :
  (execOp ρ ⟨d,.binOp .sub ty x y yt,t,p,af,g⟩).run P w=.ok (.value (.int k (a - b))) w:=by
 rw [run_sub z D,Pb h]
theorem Auh {x y:Operand} {ty yt:TypeId} {k:IntKind} {a b:Int} (z:ρ x=.int k a) (D:ρ y=.int k b) (h:inKind k (a * b)) :
  (execOp ρ ⟨d,.binOp .mul ty x y yt,t,p,af,g⟩).run P w=.ok (.value (.int k (a * b))) w:=by
 rw [run_mul z D,Pb h]
theorem run_lss {x y:Operand} {ty yt:TypeId} {k:IntKind} {a b:Int} (z:ρ x=.int k a) (D:ρ y=.int k b) :
  (execOp ρ ⟨d,.binOp .lss ty x y yt,t,p,af,g⟩).run P w=.ok (.value (.bool (decide (a < b)))) w:=by
 simp [execOp,z,D,eqGuard,binOp,Op.intCmp]
theorem run_leq {x y:Operand} {ty yt:TypeId} {k:IntKind} {a b:Int} (z:ρ x=.int k a) (D:ρ y=.int k b) :
  (execOp ρ ⟨d,.binOp .leq ty x y yt,t,p,af,g⟩).run P w=.ok (.value (.bool (decide (a≤b)))) w:=by
 simp [execOp,z,D,eqGuard,binOp,Op.intCmp]
theorem run_gtr {x y:Operand} {ty yt:TypeId} {k:IntKind} {a b:Int} (z:ρ x=.int k a) (D:ρ y=.int k b) :
  (execOp ρ ⟨d,.binOp .gtr ty x y yt,t,p,af,g⟩).run P w=.ok (.value (.bool (decide (b < a)))) w:=by
 simp [execOp,z,D,eqGuard,binOp,Op.intCmp]
theorem run_geq {x y:Operand} {ty yt:TypeId} {k:IntKind} {a b:Int} (z:ρ x=.int k a) (D:ρ y=.int k b) :
  (execOp ρ ⟨d,.binOp .geq ty x y yt,t,p,af,g⟩).run P w=.ok (.value (.bool (decide (b≤a)))) w:=by
 simp [execOp,z,D,eqGuard,binOp,Op.intCmp]
theorem run_eqi {x y:Operand} {ty yt:TypeId} {k:IntKind} {a b:Int} (z:ρ x=.int k a) (D:ρ y=.int k b) :
  (execOp ρ ⟨d,.binOp .eql ty x y yt,t,p,af,g⟩).run P w=.ok (.value (.bool (decide (a=b)))) w:=by
 simp [execOp,z,D,eqGuard,binOp,Op.intCmp];rfl
theorem run_nei {x y:Operand} {ty yt:TypeId} {k:IntKind} {a b:Int} (z:ρ x=.int k a) (D:ρ y=.int k b) :
  (execOp ρ ⟨d,.binOp .neq ty x y yt,t,p,af,g⟩).run P w=.ok (.value (.bool (!decide (a=b)))) w:=by
 simp [execOp,z,D,eqGuard,binOp,Op.intCmp];rfl
theorem run_rem {x y:Operand} {ty yt:TypeId} {k:IntKind} {a b:Int} (D:ρ x=.int k a) (E:ρ y=.int k b) (z:b≠0) :
  (execOp ρ ⟨d,.binOp .rem ty x y yt,t,p,af,g⟩).run P w=.ok (.value (.int k (a.tmod b))) w:=by
 simp [execOp,D,E,eqGuard,binOp,Op.intDiv,z]
theorem Aue {x y:Operand} {ty yt:TypeId} {k:IntKind} {a b:Int} (D:ρ x=.int k a) (E:ρ y=.int k b) (z:0≤a) (I:0 < b) :
  (execOp ρ ⟨d,.binOp .rem ty x y yt,t,p,af,g⟩).run P w=.ok (.value (.int k (a % b))) w:=by
 rw [run_rem D E tM,Int.tmod_eq_emod_of_nonneg z]
theorem Auf {x y:Operand} {ty yt:TypeId} {k:IntKind} {a b:Int} (O:ρ x=.int k a) (U:ρ y=.int k b) (z:0≤a) (hb:0 < b) (J:inKind k a) :
  (execOp ρ ⟨d,.binOp .quo ty x y yt,t,p,af,g⟩).run P w=.ok (.value (.int k (a / b))) w:=by
 have D:b≠0:=tM;have E:a.tdiv b=a / b:=Int.tdiv_eq_ediv_of_nonneg z;have I:inKind k (a / b):=by
  obtain ⟨l,r⟩:=J;have h0:0≤a / b:=Int.ediv_nonneg z tM;have Y:a / b≤a:=Int.ediv_le_self b z;have Z:k.min≤0:=by cases k <;> simp [IntKind.min,IntKind.signed,IntKind.bits]
  exact ⟨tM,tM⟩
 simp [execOp,O,U,eqGuard,binOp,Op.intDiv,D,E,Pb I]
theorem run_equalIn_bool (n:Nat) {ty:TypeId} {a b:Bool} (z:tk P ty=.bool):(Op.equalIn (n+1) ty (.bool a) (.bool b)).run P w=.ok (a==b) w:=by
 simp only [Op.equalIn,Sem.run_bind,run_under (Px z),Result.andThen_ok,Sem.run_pure]
theorem Jl {ty:TypeId} {a b:Bool} (z:tk P ty=.bool):(Op.equal ty (.bool a) (.bool b)).run P w=.ok (a==b) w:=run_equalIn_bool 9999 z
theorem Oy (n:Nat) {ty e:TypeId} {a:Option Addr} (z:tk P ty=.ptr e):(Op.equalIn (n+1) ty (.pointer a) (.pointer none)).run P w=.ok a.isNone w:=by
 cases a <;> simp only [Op.equalIn,Sem.run_bind,run_under (Gc z),Result.andThen_ok,Sem.run_pure] <;> rfl
theorem La {ty e:TypeId} {a:Option Addr} (z:tk P ty=.ptr e):(Op.equal ty (.pointer a) (.pointer none)).run P w=.ok a.isNone w:=Oy 9999 z
theorem run_eqb {x y:Operand} {ty yt:TypeId} {a b:Bool} (z:tk P ty=.bool) (D:ρ x=.bool a) (E:ρ y=.bool b) :
  (execOp ρ ⟨d,.binOp .eql ty x y yt,t,p,af,g⟩).run P w=.ok (.value (.bool (a==b))) w:=by
 simp [execOp,D,E,eqGuard,binOp,Jl z]
theorem run_neb {x y:Operand} {ty yt:TypeId} {a b:Bool} (z:tk P ty=.bool) (D:ρ x=.bool a) (E:ρ y=.bool b) :
  (execOp ρ ⟨d,.binOp .neq ty x y yt,t,p,af,g⟩).run P w=.ok (.value (.bool (!(a==b)))) w:=by
 simp [execOp,D,E,eqGuard,binOp,Jl z]
theorem run_eqnil {x y:Operand} {ty yt:TypeId} {e:TypeId} {a:Option Addr} (z:tk P ty=.ptr e) (D:ρ x=.pointer a) (E:ρ y=.pointer none) :
  (execOp ρ ⟨d,.binOp .eql ty x y yt,t,p,af,g⟩).run P w=.ok (.value (.bool a.isNone)) w:=by
 simp [execOp,D,E,eqGuard,binOp,La z]
theorem run_nenil {x y:Operand} {ty yt:TypeId} {e:TypeId} {a:Option Addr} (z:tk P ty=.ptr e) (D:ρ x=.pointer a) (E:ρ y=.pointer none) :
  (execOp ρ ⟨d,.binOp .neq ty x y yt,t,p,af,g⟩).run P w=.ok (.value (.bool (!a.isNone))) w:=by
 simp [execOp,D,E,eqGuard,binOp,La z]
theorem run_alloc {e:TypeId} {i:TI} (z:TOK P e i):(execOp ρ ⟨d,.alloc e,t,p,af,g⟩).run P w =
  .ok (.value (.pointer (some ⟨w.heap.size,0,none⟩))) { w with heap:=w.heap.push (.cells i.zero.cells e (0,0)) }:=by
 simp [execOp,Instr.alloc,z.zeroValue,newVar,newRow,newObj,Sem.run]
theorem run_box {e:TypeId} {x:Operand} {v:Value} (z:ρ x=v):(execOp ρ ⟨d,.box e x,t,p,af,g⟩).run P w =
  .ok (.value (.pointer (some ⟨w.heap.size,0,none⟩))) { w with heap:=w.heap.push (.cells v.cells e (0,0)) }:=by
 simp [execOp,Instr.box,z,newVar,newRow,newObj,Sem.run]
theorem run_loadVar1 {e:TypeId} {a:Addr} {v:Value} (D:(tk P e).agg=some false) (z:w.cell? a=some v):(loadVar e a).run P w=.ok v w:=by
 simp [loadVar,Oi D,z]
theorem run_load1 {e:TypeId} {x:Operand} {a:Addr} {v:Value} (D:(tk P e).agg=some false) (E:ρ x=.pointer (some a)) (z:w.cell? a=some v) :
  (execOp ρ ⟨d,.load e x,t,p,af,g⟩).run P w=.ok (.value v) w:=by
 simp [execOp,Instr.loadAt,Instr.sureAddr,E,run_loadVar1 D z]
theorem add_plain {b o k:Nat}:(⟨b,o,none⟩:Addr).add k=⟨b,o+k,none⟩:=by
 unfold Addr.add;split
 ·rename_i h;subst h;rfl
 ·rfl
theorem Hf {b o:Nat}:∀ (n i:Nat) (acc:Array Value) (cs:List Value),cs.length=n→(∀ j,j < n→w.cell? ⟨b,o+(i+j),none⟩=cs[j]?) →
  (loadCellsFrom ⟨b,o,none⟩ i n acc).run P w=.ok (acc++cs.toArray) w
 | 0,i,acc,cs,hl,hc=>by
  have:cs=[]:=List.eq_nil_of_length_eq_zero hl;subst this;simp [loadCellsFrom]
 | n+1,i,acc,cs,hl,hc=>by
  match cs,hl with
  | c::cs,hl =>
   have h0:=hc 0 tM;simp only [Nat.add_zero,List.getElem?_cons_zero] at h0;have ih:=Hf n (i+1) (acc.push c) cs (by simpa using hl) (fun j hj=>by
    have:=hc (j+1) tM;simp only [List.getElem?_cons_succ] at this;rw [← this];have e:o+(i+1+j)=o+(i+(j+1)):=tM;rw [e])
   simp only [loadCellsFrom,Sem.run_bind,add_plain];have hl:(load (⟨b,o+i,none⟩:Addr)).run P w=.ok c w:=by simp [h0]
   rw [hl];simp only [Result.andThen_ok,ih];simp
theorem run_loadVarA {e:TypeId} {i:TI} {b o:Nat} {cs:List Value} (z:TOK P e i) (E:i.k.agg=some true) (O:cs.length=i.size)
  (I:∀ j,j < i.size→w.cell? ⟨b,o+j,none⟩=cs[j]?):(loadVar e ⟨b,o,none⟩).run P w=.ok (.agg cs.toArray) w:=by
 have D:=Hf (P:=P) (w:=w) (b:=b) (o:=o) i.size 0 #[] cs O (fun j J=>by rw [← I j J,Nat.zero_add]);simp only [loadVar,Sem.run_bind,run_isAgg_t (by rw [z.k];exact E),Result.andThen_ok,if_true,z.sizeOf,loadCells,D,Sem.run_pure];simp
theorem run_loadA {e:TypeId} {i:TI} {x:Operand} {b o:Nat} {cs:List Value} (I:TOK P e i) (z:i.k.agg=some true) (J:ρ x=.pointer (some ⟨b,o,none⟩)) (E:cs.length=i.size)
  (D:∀ j,j < i.size→w.cell? ⟨b,o+j,none⟩=cs[j]?):(execOp ρ ⟨d,.load e x,t,p,af,g⟩).run P w=.ok (.value (.agg cs.toArray)) w:=by
 simp [execOp,Instr.loadAt,Instr.sureAddr,J,run_loadVarA I z E D]
theorem run_fieldAddr {s:TypeId} {x:Operand} {f b o E sz ty:Nat} {Y:List (Nat × Nat × Nat)} (hs:tk P s=.struct Y) (hf:Y[f]?=some (E,sz,ty)) (hz:Nat.beq sz 0=false) (hx:ρ x=.pointer (some ⟨b,o,none⟩)) :
  (execOp ρ ⟨d,.fieldAddr s x f,t,p,af,g⟩).run P w=.ok (.value (.pointer (some ⟨b,o+E,none⟩))) w:=by
 obtain ⟨ff,hu,J⟩:=Ga hs;subst J;simp only [List.getElem?_map,Option.map_eq_some_iff] at hf;obtain ⟨fd,I,Z⟩:=hf;simp only [Prod.mk.injEq] at Z;obtain ⟨rfl,h1,rfl⟩:=Z;have D:ff[f]?=some fd:=by simpa using I
 have z:P.cellsOf fd.type≠0:=by
  intro h0;rw [h1] at h0;subst h0;simp at hz
 have hi:∃ i,P.info? fd.type=some i∧i.size≠0:=by
  unfold Program.cellsOf at z;cases hii:P.info? fd.type with
  | none=>rw [hii] at z;simp at z
  | some i=>rw [hii] at z;exact ⟨i,rfl,by simpa using z⟩
 obtain ⟨i,O,U⟩:=hi;simp [execOp,Instr.fieldAt,run_under hu,D,hx,Instr.sureAddr,fieldPlace,sizeOf,typeInfo,program,Sem.run,O,U,add_plain]
theorem run_indexAddr {s e:TypeId} {i:TI} {x y:Operand} {b o n c:Nat} {k:IntKind} {j:Nat} (hs:tk P s=.slice e) (D:TOK P e i) (E:ρ x=.slice (some ⟨b,o,none⟩) n c) (I:ρ y=.int k (j:Int)) (z:j < n) :
  (execOp ρ ⟨d,.indexAddr s x y,t,p,af,g⟩).run P w=.ok (.value (.pointer (some ⟨b,o+j * i.size,none⟩))) w:=by
 have J:(j:Int) < (n:Int):=tM;simp [execOp,Instr.indexAt,run_under (Bi hs),E,I,asIntOf,D.sizeOf,z,add_plain]
theorem Bu {s e:TypeId} {x:Operand} {a:Option Addr} {n c:Nat} (hs:tk P s=.slice e) (z:ρ x=.slice a n c) :
  (execOp ρ ⟨d,.call ⟨.builtin .len,#[x],#[s]⟩,t,p,af,g⟩).run P w=.ok (.value (.int .i64 n)) w:=by
 simp [execOp,resolve,invoke,builtin,Builtin.len_,run_under (Bi hs),z,goInt]
theorem Ach {e:TypeId} {i:TI} {x y:Operand} {a:Addr} {v E:Value} (U:TOK P e i) (I:i.size=1) (Z:ρ x=.pointer (some a)) (hy:ρ y=v) (Y:v.cells = #[v]) (J:∀ c,v≠.agg c) (O:∀ c,v≠.tuple c)
  (hc:w.cell? a=some E) (hf:w.frozen? a=false) :
  (execOp ρ ⟨d,.store e x y,t,p,af,g⟩).run P w=.ok .skip (w.setCell a v):=by
 have z:a.add 0=a:=by simp [Addr.add]
 have D:(store a v).run P w=.ok () (w.setCell a v):=by
  unfold store;cases v <;> simp_all [Sem.run]
 simp only [execOp,Z,hy,Instr.storeAt,Instr.sureAddr,storeVar,Sem.run_bind,Sem.run_pure,Result.andThen_ok,U.sizeOf,I,Y];simp [storeCells,z,D]
end
structure Ent (P:Program) (f:FuncId):Prop where
 is:∃ fn,P.funcs[f]?=some fn∧(fn.name== "runtime.NumGoroutine")=false∧fn.body.isNone=false
theorem Ent.mk' {P:Program} {f:FuncId} {fn:Func} (h:P.funcs[f]?=some fn) (z:(fn.name== "runtime.NumGoroutine")=false) (D:fn.body.isNone=false):Ent P f:=⟨fn,h,z,D⟩
def evs (e:Env):List Operand→Option (List Value)
 | []=>some []
 | x::xs=>match ev e x with
  | some v=>match evs e xs with
   | some vs=>some (v::vs)
   | none=>none
  | none=>none
def Ret (w0:World) (G:Ghost) (L:List Res) (Φ:Ghost→Value→Prop):Ending→World→Prop
 | .returned v,w'=>∃ G',Gle G G'∧Mem w0 G' L w'∧Φ G' v
 | _,_=>False
section
variable {P:Program} {ops:Array Oper} {Q:Exit→Act→World→Prop} {n:Nat} {a:Act} {w w0:World} {e:Env} {G:Ghost} {L:List Res}
 {d:Nat} {t:TypeId} {p:String} {af:Array Edge} {r:List Oper}
theorem Fits.evs (F:Fits n a e):∀ {xs:List Operand} {vs:List Value},evs e xs=some vs→xs.map a.eval=vs
 | [],vs,h=>by simp [Y.evs] at h;subst h;rfl
 | x::xs,vs,h=>by
  simp only [Y.evs] at h;cases hx:Y.ev e x with
  | none=>rw [hx] at h;simp at h
  | some v =>
   rw [hx] at h;cases hxs:Y.evs e xs with
   | none=>rw [hxs] at h;simp at h
   | some us =>
    rw [hxs] at h;simp at h;subst h;simp [F.ev hx,F.evs hxs]
theorem run_enter {f:FuncId} {args:Array Value} (O:Ent P f):(callFunc f args).run P w=.ok (.enter f args) w:=by
 obtain ⟨fn,I,J,E⟩:=O.is;have z:¬ fn.name = "runtime.NumGoroutine":=by simpa using J
 have D:¬ fn.body=none:=by intro U;rw [U] at E;simp at E
 simp [callFunc,program,Sem.run,I,z,D]
theorem Qq {f:FuncId} {z:Operand} {args:List Operand} {D:Array TypeId} {vs caps:List Value} {R:Ending→World→Prop}
  (F:Fits n a e) (O:Ent P f) (U:ev e z=some (.func (.func f) #[] caps.toArray)) (hv:evs e args=some vs) (hd:Nat.ble (d+1) n=true)
  (hs:Calls P f (vs++caps).toArray w R)
  (k:∀ x w',R x w'→∃ v,x=.returned v∧∀ E,Fits n E ((d,v)::e)→rl P ops Q r E w') :
  rl P ops Q (⟨some d,.call ⟨.value z,args.toArray,D⟩,t,p,af,none⟩::r) a w:=by
 refine ⟨fun _=>?_,fun h=>by simp [Region.wanted] at h⟩;unfold Oper.wp;have Z:(execOp a.eval ⟨some d,.call ⟨.value z,args.toArray,D⟩,t,p,af,none⟩).run P w=.ok (.enter f (vs++caps).toArray) w:=by
  have I:=F.ev U;have J:=F.evs hv;simp only [execOp,resolve,I,Deferred.ofValue,Sem.run_bind,Sem.run_pure,Result.andThen_ok,invoke];rw [show (#[]++Array.map a.eval args.toArray++caps.toArray)=(vs++caps).toArray by simp [← J]];exact run_enter O
 rw [Z];refine Calls.mono hs fun x w' hx=>?_;obtain ⟨v,rfl,Y⟩:=k x w' hx;exact Y _ (F.put hd)
theorem rl_call {f:FuncId} {args:List Operand} {D:Array TypeId} {vs:List Value} {Φ:Ghost→Value→Prop}
  (F:Fits n a e) (U:Ent P f) (Y:evs e args=some vs) (hd:Nat.ble (d+1) n=true)
  (hs:Calls P f vs.toArray w (Ret w0 G L Φ))
  (k:∀ v G' w' z,Gle G G'→Mem w0 G' L w'→Φ G' v→Fits n z ((d,v)::e)→rl P ops Q r z w') :
  rl P ops Q (⟨some d,.call ⟨.value (.func f),args.toArray,D⟩,t,p,af,none⟩::r) a w:=by
 refine Qq (caps:=[]) F U rfl Y hd (by rw [List.append_nil];exact hs) fun x w' E=>?_;cases x with
 | returned v=>obtain ⟨G',I,J,O⟩:=E;exact ⟨v,rfl,fun z F'=>k v G' w' z I J O F'⟩
 | panicked c=>exact E.elim
 | outgrown=>exact E.elim
end
def At (G:Ghost) (b o:Nat) (cs:List Value):Prop:=∀ (j:Nat) (v:Value),cs[j]?=some v→Gs G b (o+j)=some v
theorem At.mono {G G':Ghost} (h:Gle G G') {b o:Nat} {cs:List Value} (z:At G b o cs):At G' b o cs:=fun j v D=>Ip h (z j v D)
abbrev Rd (α:Type):=Ghost→List Value→α→Prop
def Mono {α:Type} (rd:Rd α):Prop:=∀ G G' cs x,Gle G G'→rd G cs x→rd G' cs x
def RdSl {α:Type} (rd:Rd α) (sz:Nat) (G:Ghost) (v:Value) (xs:List α):Prop :=
 ∃ a c,v=.slice a xs.length c∧xs.length≤c∧c≤9223372036854775807∧((c=0∧xs=[]) ∨
  ∃ b o,a=some ⟨b,o,none⟩∧∀ i x,xs[i]?=some x→∃ cs,cs.length=sz∧(∀ u∈cs,u.oneCell' = true)∧At G b (o+i * sz) cs∧rd G cs x)
theorem RdSl.mono {α:Type} {rd:Rd α} {sz:Nat} {G G':Ghost} {v:Value} {xs:List α} (hm:Mono rd) (h:Gle G G') (hS:RdSl rd sz G v xs):RdSl rd sz G' v xs:=by
 obtain ⟨a,c,E,I,J,D⟩:=hS;refine ⟨a,c,E,I,J,?_⟩;rcases D with D | ⟨b,o,O,U⟩
 ·exact Or.inl D
 ·refine Or.inr ⟨b,o,O,fun i x hx=>?_⟩;obtain ⟨cs,Y,z,Z,h9⟩:=U i x hx;exact ⟨cs,Y,z,Z.mono h,hm _ _ _ _ h h9⟩
theorem RdSl.nil {α:Type} {rd:Rd α} {sz:Nat} {G:Ghost}:RdSl rd sz G (.slice none 0 0) []:=⟨none,0,rfl,Nat.le_refl _,tM,Or.inl ⟨rfl,rfl⟩⟩
theorem RdSl.shape {α:Type} {rd:Rd α} {sz:Nat} {G:Ghost} {v:Value} {xs:List α} (I:RdSl rd sz G v xs):∃ a c,v=.slice a xs.length c∧xs.length≤c∧c≤9223372036854775807:=by
 obtain ⟨a,c,z,D,E,_⟩:=I;exact ⟨a,c,z,D,E⟩
theorem RdSl.index {α:Type} {rd:Rd α} {sz:Nat} {G:Ghost} {a:Option Addr} {n c:Nat} {xs:List α} (Z:RdSl rd sz G (.slice a n c) xs) {i:Nat} {x:α} (D:xs[i]?=some x) :
  ∃ b o cs,a=some ⟨b,o,none⟩∧n=xs.length∧cs.length=sz∧At G b (o+i * sz) cs∧rd G cs x:=by
 obtain ⟨a',c',z,h2,h3,E⟩:=Z;simp only [Value.slice.injEq] at z;obtain ⟨rfl,rfl,rfl⟩:=z;rcases E with ⟨_,rfl⟩ | ⟨b,o,I,J⟩
 ·simp at D
 ·obtain ⟨cs,O,_,U,Y⟩:=J i x D;exact ⟨b,o,cs,I,rfl,O,U,Y⟩
section
variable {P:Program} {ops:Array Oper} {Q:Exit→Act→World→Prop} {n:Nat} {a:Act} {w w0:World} {e:Env} {G:Ghost} {L:List Res}
 {d:Nat} {t:TypeId} {p:String} {af:Array Edge} {r:List Oper}
end
open Go Go.RowKit
def Els {α:Type} (rd:Rd α) (sz:Nat) (G:Ghost):List Value→List α→Prop
 | cs,[]=>cs=[]
 | cs,x::xs=>∃ c r,cs=c++r∧c.length=sz∧rd G c x∧Els rd sz G r xs
section
variable {α:Type} {rd:Rd α} {sz:Nat} {G G':Ghost} {cs cs':List Value} {xs ys:List α}
theorem Els.length:∀ {xs:List α} {cs:List Value},Els rd sz G cs xs→cs.length=xs.length * sz
 | [],cs,h=>by simp only [Els] at h;subst h;simp
 | x::xs,cs,h=>by
  obtain ⟨c,r,rfl,h1,_,h3⟩:=h;simp only [List.length_append,List.length_cons,h1,Els.length h3,Nat.add_mul,Nat.one_mul];omega
theorem Els.nil:Els rd sz G [] []:=rfl
theorem Els.one {x:α} (h:rd G cs x) (z:cs.length=sz):Els rd sz G cs [x]:=⟨cs,[],by simp,z,h,rfl⟩
theorem Els.append:∀ {xs:List α} {cs:List Value},Els rd sz G cs xs→Els rd sz G cs' ys→Els rd sz G (cs++cs') (xs++ys)
 | [],cs,h,h'=>by simp only [Els] at h;subst h;simpa using h'
 | x::xs,cs,h,h'=>by
  obtain ⟨c,r,rfl,h1,h2,h3⟩:=h;exact ⟨c,r++cs',by simp,h1,h2,Els.append h3 h'⟩
theorem Els.mono (hm:Mono rd) (hg:Gle G G'):∀ {xs:List α} {cs:List Value},Els rd sz G cs xs→Els rd sz G' cs xs
 | [],cs,h=>h
 | x::xs,cs,h=>by
  obtain ⟨c,r,rfl,h1,h2,h3⟩:=h;exact ⟨c,r,rfl,h1,hm _ _ _ _ hg h2,Els.mono hm hg h3⟩
theorem Els.get:∀ {xs:List α} {cs:List Value},Els rd sz G cs xs→∀ {i:Nat} {x:α},xs[i]?=some x→∃ l c r,cs=l++c++r∧l.length=i * sz∧c.length=sz∧rd G c x ∧
  ∀ c' x',c'.length=sz→rd G c' x'→Els rd sz G (l++c'++r) (xs.set i x')
 | [],cs,h,i,x,hx=>by simp at hx
 | y::xs,cs,h,i,x,hx=>by
  obtain ⟨c,r,rfl,h1,h2,h3⟩:=h;cases i with
  | zero =>
   simp at hx;subst hx;exact ⟨[],c,r,by simp,by simp,h1,h2,fun c' x' hc hr=>⟨c',r,by simp,hc,hr,h3⟩⟩
  | succ i =>
   obtain ⟨l,c1,r1,rfl,h4,h5,h6,h7⟩:=Els.get h3 (i:=i) (x:=x) (by simpa using hx);refine ⟨c++l,c1,r1,by simp,by simp [h1,h4,Nat.add_mul];omega,h5,h6,fun c' x' hc hr=>?_⟩;exact ⟨c,l++c'++r1,by simp,h1,h2,h7 c' x' hc hr⟩
end
theorem RdSl.cells {α:Type} {rd:Rd α} {sz:Nat} {G:Ghost} {a:Option Addr} {n c:Nat} {xs:List α} (S:RdSl rd sz G (.slice a n c) xs) :
    n=xs.length∧n≤c∧c≤9223372036854775807∧∃ news,Els rd sz G news xs∧(∀ u∈news,u.oneCell' = true) ∧
      ((c=0∧xs=[])∨∃ b o,a=some ⟨b,o,none⟩∧∀ (j:Nat) (u:Value),news[j]?=some u→Gs G b (o+j)=some u):=by
  obtain ⟨a',c',h1,h2,h3,h4⟩:=S;simp only [Value.slice.injEq] at h1;obtain ⟨rfl,rfl,rfl⟩:=h1;refine ⟨rfl,h2,h3,?_⟩;rcases h4 with ⟨rfl,rfl⟩ | ⟨b,o,rfl,h6⟩
  · exact ⟨[],rfl,by simp,Or.inl ⟨rfl,rfl⟩⟩
  · have key : ∀ (m : Nat), m ≤ xs.length → ∃ news, Els rd sz G news (xs.drop (xs.length - m)) ∧ (∀ u ∈ news, u.oneCell' = true) ∧
        ∀ (j:Nat) (u:Value),news[j]?=some u→Gs G b (o+(xs.length - m) * sz+j)=some u:=by
      intro m
      induction m with
      | zero=>intro _;exact ⟨[],by simp [Els],by simp,by simp⟩
      | succ m ih =>
        intro hm;obtain ⟨news,J,h8,O⟩:=ih tM;have D:xs.length - (m+1) < xs.length:=tM;obtain ⟨cs,z,Y,Z,aa⟩:=h6 (xs.length - (m+1)) xs[xs.length - (m+1)] (List.getElem?_eq_getElem D);refine ⟨cs++news,?_,?_,?_⟩
        · rw [List.drop_eq_getElem_cons D]
          refine ⟨cs,news,rfl,z,aa,?_⟩;rw [show xs.length - (m+1)+1=xs.length - m by omega];exact J
        · intro u I
          rcases List.mem_append.1 I with I | I
          · exact Y u I
          · exact h8 u I
        · intro j u U
          rcases Nat.lt_or_ge j cs.length with E | ab
          · rw [List.getElem?_append_left E] at U
            exact Z j u U
          · rw [List.getElem?_append_right ab] at U
            have:=O (j - cs.length) u U;rw [← this];congr 1;have e1:xs.length - m=(xs.length - (m+1))+1:=tM;rw [e1,Nat.add_mul,Nat.one_mul,z];omega
    obtain ⟨news,J,h8,O⟩:=key xs.length (Nat.le_refl _);simp only [Nat.sub_self,List.drop_zero,Nat.zero_mul,Nat.add_zero] at J O;exact ⟨news,J,h8,Or.inr ⟨b,o,rfl,O⟩⟩
section
variable {P:Program} {w0 w:World} {G:Ghost} {L:List Res}
theorem Mem.nilrow (M:Mem w0 G L w) (t:TypeId) (sz:Nat):Mem w0 G (.row (.slice none 0 0) 0 [] t sz::L) w :=
 ⟨M.os,M.tape,M.output,M.grow,M.pers,
  fun x z=>by
   rcases List.mem_cons.1 z with rfl | z
   ·exact ⟨World.ownsRow_nil w 0 t sz,by simp⟩
   ·exact M.own x z,
  fun x z b D=>by
   rcases List.mem_cons.1 z with rfl | z
   ·simp [Res.foot,Value.ownBlock] at D
   ·exact M.free x z b D,
  List.pairwise_cons.2 ⟨fun y _ b D=>by simp [Res.foot,Value.ownBlock] at D,M.apart⟩⟩
theorem Mem.row_at (M:Mem w0 G L w) {k n:Nat} {v:Value} {cs:List Value} {t:TypeId} {sz:Nat} (z:L[k]?=some (.row v n cs t sz)) :
  w.ownsRow 0 t sz v n cs∧∀ u∈cs,u.oneCell' = true:=M.own _ (List.mem_of_getElem? z)
theorem Mem.newrow (M:Mem w0 G L w) {t:TypeId} {sz n c:Nat} {cs spare:List Value} (I:∀ u∈cs,u.oneCell' = true) (E:cs.length=n * sz) (hs:(cs++spare).length=c * sz) (z:n≤c) (J:c≤maxLen) :
  Mem w0 G (.row (.slice (some ⟨w.heap.size,0,none⟩) n c) n cs t sz::L) { w with heap:=w.heap.push (.cells (cs++spare).toArray t (0,0)) }:=by
 have D:=M.new (.cells (cs++spare).toArray t (0,0));refine D.swap_head (x:=.obj w.heap.size _) rfl ?_ rfl rfl rfl rfl (fun _ _=>rfl);refine ⟨⟨E,Or.inr ⟨w.heap.size,c,(cs++spare).toArray,rfl,Nat.zero_le _,?_,z,J,by simpa using hs,?_⟩⟩,I⟩
 ·exact D.own (.obj w.heap.size _) (by simp)
 ·rw [← E];simp
theorem Mem.append (M:Mem w0 G L w) {k n:Nat} {v:Value} {cs:List Value} {t ty e:TypeId} {i:TI} (hk:L[k]?=some (.row v n cs e i.size)) (ht:tk P t=.slice e) (hi:TOK P e i) (hz:i.zero.cells.size=i.size) (hs:0 < i.size)
  {ad:Addr} {m c:Nat} {news:List Value} (hl:news.length=m * i.size) (D:∀ j u,news[j]?=some u→w.cell? (ad.add j)=some u) (h1:∀ u∈news,u.oneCell' = true)
  (ac:n+m≤maxLen) (z:(n+m) * i.bytes≤140737488355328) :
  ∃ v' w',(Builtin.append_ #[t,t] ty #[v,.slice (some ad) m c]).run P w=.ok v' w'∧Mem w0 G (L.set k (.row v' (n+m) (cs++news) e i.size)) w':=by
 obtain ⟨x,U,Y,aa,ab⟩:=hi.info;obtain ⟨E,h2⟩:=M.row_at hk;have O:=Bi ht;obtain ⟨v',w',I,ho,hg,_⟩:=run_append_own (P:=P) w 0 t ty e x i.zero i.size i.bytes O U ab Y aa hz hs v n cs E ad m c news hl D h1 ac z (Nat.zero_le _);refine ⟨v',w',I,M.grow_at hk ?_ ⟨ho,fun u O=>?_⟩ hg.os hg.tape hg.output hg.size (fun b hb af=>hg.block b hb (fun e=>af e.symm))⟩
 ·intro b hb;have ae:((n+m:Nat):Int)≤9223372036854775807:=by simp only [maxLen] at ac;omega
  rcases E.2 with ⟨rfl,rfl⟩ | ⟨g,Z,ah,rfl,ai,am,an,aj,ak,ag⟩
  ·by_cases hm:m=0
   ·subst hm;have hn:news=[]:=List.eq_nil_of_length_eq_zero (by simpa using hl);subst hn;have:(Builtin.append_ #[t,t] ty #[.slice none 0 0,.slice (some ad) 0 c]).run P w=.ok (.slice none 0 0) w:=by
     simp [Builtin.append_,run_underlying O,sizeOf,typeInfo,U,Builtin.lenOf,Builtin.firstCells,loadCells,loadCellsFrom]
    rw [this] at I;simp only [Result.ok.injEq] at I;obtain ⟨rfl,rfl⟩:=I;simp [Res.foot,Value.ownBlock] at hb
   ·have J:=run_append_nil (P:=P) w t ty e x i.zero O U ab ad m c news (by rw [Y];exact hl) D tM tM (by rw [aa];simp only [Nat.zero_add] at z;omega);rw [J] at I;simp only [Result.ok.injEq] at I;obtain ⟨rfl,rfl⟩:=I;simp only [Res.foot,Value.ownBlock,Option.some.injEq] at hb
    right;omega
  ·by_cases hroom:n+m≤Z
   ·obtain ⟨w2,J,_⟩:=run_append_fits (P:=P) w 0 t ty e x i.size O U Y g n Z cs E ad m c news hl D h1 hroom;rw [J] at I;simp only [Result.ok.injEq] at I;obtain ⟨rfl,rfl⟩:=I
    left;exact hb
   ·have holds:=E.cells (g:=g) rfl;have J:=run_append_grow (P:=P) w t ty e x i.zero O U ab ⟨g,0,none⟩ n Z cs (by rw [Y];exact E.1) holds ad m c news (by rw [Y];exact hl) D tM ae
     (by rw [aa];exact growslice_fits tM z)
    rw [J] at I;simp only [Result.ok.injEq] at I;obtain ⟨rfl,rfl⟩:=I;simp only [Res.foot,Value.ownBlock,Option.some.injEq] at hb
    right;omega
 ·rcases List.mem_append.1 O with O | O
  ·exact h2 u O
  ·exact h1 u O
theorem Mem.append_none (M:Mem w0 G L w) {k n:Nat} {v:Value} {cs:List Value} {t ty e:TypeId} {i:TI} (E:L[k]?=some (.row v n cs e i.size)) (I:tk P t=.slice e) (D:TOK P e i) :
  (Builtin.append_ #[t,t] ty #[v,.slice none 0 0]).run P w=.ok v w:=by
 obtain ⟨x,z,J,_⟩:=D.info;exact run_append_owned_none (P:=P) (w:=w) 0 t ty e x i.size (Bi I) z v n cs (M.row_at E).1
end
section
variable {P:Program} {ops:Array Oper} {Q:Exit→Act→World→Prop} {n:Nat} {a:Act} {w w0:World} {e:Env} {G:Ghost} {L:List Res}
 {d:Nat} {t:TypeId} {p:String} {af:Array Edge} {r:List Oper}
theorem Ew {D:TypeId} {i:TI} {cs:List Value} (F:Fits n a e) (M:Mem w0 G L w) (E:TOK P D i) (I:i.zero.cells=cs.toArray) (hd:Nat.ble (d+1) n=true)
  (k:∀ b w' z,Mem w0 G (.blk b cs D::L) w'→Fits n z ((d,.pointer (some ⟨b,0,none⟩))::e)→rl P ops Q r z w'):rl P ops Q (⟨some d,.alloc D,t,p,af,none⟩::r) a w:=by
 refine Aa F (run_alloc E) hd fun z F'=>k w.heap.size _ z ?_ F';have:=M.new (.cells i.zero.cells D (0,0));rw [I] at this ⊢;exact this.swap_head (x:=.obj _ _) rfl (this.own (.obj _ _) (by simp)) rfl rfl rfl rfl (fun _ _=>rfl)
theorem Aus {D:TypeId} {x:Operand} {v:Value} {cs:List Value} (F:Fits n a e) (M:Mem w0 G L w) (I:ev e x=some v) (E:v.cells=cs.toArray) (hd:Nat.ble (d+1) n=true)
  (k:∀ b w' z,Mem w0 G (.blk b cs D::L) w'→Fits n z ((d,.pointer (some ⟨b,0,none⟩))::e)→rl P ops Q r z w'):rl P ops Q (⟨some d,.box D x,t,p,af,none⟩::r) a w:=by
 refine Aa F (run_box (F.ev I)) hd fun z F'=>k w.heap.size _ z ?_ F';have:=M.new (.cells v.cells D (0,0));rw [E] at this ⊢;exact this.swap_head (x:=.obj _ _) rfl (this.own (.obj _ _) (by simp)) rfl rfl rfl rfl (fun _ _=>rfl)
theorem Co {O:TypeId} {i:TI} {x y:Operand} {v I:Value} {k b o:Nat} {cs:List Value} {J:TypeId} (F:Fits n a e) (M:Mem w0 G L w) (ht:TOK P O i) (Y:i.size=1)
  (E:L[k]?=some (.blk b cs J)) (hx:ev e x=some (.pointer (some ⟨b,o,none⟩))) (hy:ev e y=some v) (U:v.oneCell' = true) (Z:cs[o]?=some I)
  (kk:∀ w' z,Mem w0 G (L.set k (.blk b (cs.set o v) J)) w'→Fits n z e→rl P ops Q r z w'):rl P ops Q (⟨none,.store O x y,t,p,af,none⟩::r) a w:=by
 refine U8 F (Ach ht Y (F.ev hx) (F.ev hy) ?_ ?_ ?_ (M.cellL E Z) (M.frozenL E o)) fun z F'=>kk _ z (M.set E o v) F'
 ·cases v <;> simp_all [Value.cells,Value.oneCell']
 ·intro c D;subst D;simp [Value.oneCell'] at U
 ·intro c D;subst D;simp [Value.oneCell'] at U
theorem RdSl.sub {α:Type} {rd:Rd α} {sz:Nat} {ad:Option Addr} {m c l h:Nat} {xs:List α} (S:RdSl rd sz G (.slice ad m c) xs) (h1:l≤h) (h2:h≤xs.length) :
  ∃ E,(if c=l then ad else ad.map (·.add (l * sz)))=E∧RdSl rd sz G (.slice E (h - l) (c - l)) ((xs.take h).drop l):=by
 refine ⟨_,rfl,?_⟩;obtain ⟨E,c',I,e2,e3,e4⟩:=S;simp only [Value.slice.injEq] at I;obtain ⟨rfl,rfl,rfl⟩:=I;have z:((xs.take h).drop l).length=h - l:=by simp;omega
 refine ⟨_,c - l,by rw [z],by rw [z];omega,tM,?_⟩;rcases e4 with ⟨rfl,rfl⟩ | ⟨b,o,rfl,O⟩
 ·left
  have:h=0:=by simpa using h2
  subst this;refine ⟨tM,by simp⟩
 ·right
  by_cases hcl:c=l
  ·subst hcl;simp only [if_true];refine ⟨b,o,rfl,fun i x D=>?_⟩;have:((xs.take h).drop c)[i]?=none:=by
    rw [List.getElem?_eq_none];omega
   rw [this] at D;cases D
  ·simp only [hcl,if_false,Option.map_some,add_plain];refine ⟨b,o+l * sz,rfl,fun i x D=>?_⟩;rw [List.getElem?_drop,List.getElem?_take] at D;split at D
   ·obtain ⟨cs,U,Y,J,Z⟩:=O (l+i) x D;refine ⟨cs,U,Y,?_,Z⟩;rw [Nat.add_mul] at J;rw [Nat.add_assoc];exact J
   ·cases D
theorem Lb {ρ:Operand→Value} {D:Option Tmp} {g:Option (Nat × Bool)} {s:TypeId} {x y:Operand} {v u z:Value} {w':World} (E:ρ x=v) (I:ρ y=u)
  (h:(Builtin.append_ #[s,s] t #[v,u]).run P w=.ok z w'):(execOp ρ ⟨D,.call ⟨.builtin .append,#[x,y],#[s,s]⟩,t,p,af,g⟩).run P w=.ok (.value z) w':=by
 simp [execOp,resolve,invoke,builtin,E,I,h]
theorem Hq {s E:TypeId} {i:TI} {x y:Operand} {v u:Value} {k k2 m m2 sz:Nat} {cs z:List Value}
  (F:Fits n a e) (M:Mem w0 G L w) (I:L[k]?=some (.row v m cs E sz)) (aa:L[k2]?=some (.row u m2 z E sz)) (hs:tk P s=.slice E) (ht:TOK P E i) (hz:i.zero.cells.size=i.size) (ab:i.size=sz) (J:0 < sz)
  (hx:ev e x=some v) (hy:ev e y=some u)
  (hb:(m+m2) * i.bytes≤140737488355328) (ag:m+m2≤9223372036854775807) (hd:Nat.ble (d+1) n=true)
  (kk:∀ Y w' D,Mem w0 G (L.set k (.row Y (m+m2) (cs++z) E sz)) w'→Fits n D ((d,Y)::e)→rl P ops Q r D w') :
  rl P ops Q (⟨some d,.call ⟨.builtin .append,#[x,y],#[s,s]⟩,t,p,af,none⟩::r) a w:=by
 subst ab;obtain ⟨U,h1⟩:=M.row_at aa;rcases U.2 with ⟨rfl,rfl⟩ | ⟨g,Z,ae,rfl,ah,ak,an,ai,aj,ac⟩
 ·have h0:z=[]:=List.eq_nil_of_length_eq_zero (by simpa using U.1);subst h0;have hr:=M.append_none (P:=P) (t:=s) (ty:=t) I hs ht;refine Aa F (Lb (F.ev hx) (F.ev hy) hr) hd fun D F'=>kk v w D ?_ F';have O:L.set k (.row v (m+0) (cs++[]) E i.size)=L:=by
   simp only [Nat.add_zero,List.append_nil]
   apply List.ext_getElem?
   intro j;rw [List.getElem?_set];split
   ·rename_i hj;subst hj;split
    ·rw [I]
    ·rename_i am;rw [List.getElem?_eq_none tM] at I;cases I
   ·rfl
  rw [O];exact M
 ·obtain ⟨Y,w',hr,M'⟩:=M.append (P:=P) (ty:=t) (t:=s) I hs ht hz J (ad:=⟨g,0,none⟩) (m:=m2) (c:=Z) (news:=z) U.1
   (U.cells (g:=g) rfl) h1 (by simp only [maxLen];omega) hb
  exact Aa F (Lb (F.ev hx) (F.ev hy) hr) hd fun D F'=>kk Y w' D M' F'
theorem run_buildSlice {ρ:Operand→Value} {dd:Option Tmp} {g:Option (Nat × Bool)} {s D:TypeId} {i:TI} {len:Nat} {z:Array (Nat × Operand)} {cs:List Value}
  (hs:tk P s=.slice D) (Y:TOK P D i) (Z:len * i.size≤16777216)
  (J:Instr.fill (fun j=>some (j * i.size,i.size)) ((Array.range (len * i.size)).map (i.zero.cells[· % i.zero.cells.size]!)) (z.map fun (j,x)=>(j,ρ x)).toList=some cs.toArray) :
  (execOp ρ ⟨dd,.buildSlice s len z,t,p,af,g⟩).run P w=.ok (.value (.slice (some ⟨w.heap.size,0,none⟩) len len)) { w with heap:=w.heap.push (.cells cs.toArray D (0,0)) }:=by
 have hn:¬ (16777216 < len * i.size):=tM
 by_cases h0:len * i.size=0
 ·have E:(Array.range 0).map (i.zero.cells[· % i.zero.cells.size]!) = #[]:=Array.eq_empty_of_size_eq_zero (by simp);have I:(Array.range 0).map (fun _=>(default:Value)) = #[]:=Array.eq_empty_of_size_eq_zero (by simp);have O:Instr.fill (fun j=>some (j * i.size,i.size)) #[] (z.map fun (j,x)=>(j,ρ x)).toList=some cs.toArray:=by
   rw [h0,E] at J;exact J
  simp only [execOp,Instr.buildSlice,Sem.run_bind,run_under (Bi hs),Result.andThen_ok,Y.sizeOf];simp only [show (2:Nat) ^ 24=16777216 from rfl,gt_iff_lt,h0,if_true,Sem.run_pure];have U:Instr.fill (fun j=>some (j * i.size,i.size)) (Array.map (fun _=>(default:Value)) (Array.range 0)) (List.map (fun x=>(x.fst,ρ x.snd)) z.toList)=some cs.toArray:=by
   rw [I];simpa using O
  simp [newRow,newObj,Sem.run,U]
 ·simp only [execOp,Instr.buildSlice,Sem.run_bind,run_under (Bi hs),Result.andThen_ok,Y.sizeOf];simp only [show (2:Nat) ^ 24=16777216 from rfl,gt_iff_lt,hn,if_false,h0,Sem.run_bind,Y.zeroValue,Sem.run_pure,Result.andThen_ok,J];simp [newRow,newObj,Sem.run]
theorem Anh (l:List Value):∀ (k:Nat) (z:Array Value),k+l.length≤z.size→∀ j,((l.zipIdx k).foldl (fun (cs:Array Value) (E:Value × Nat)=>cs.setIfInBounds E.2 E.1) z)[j]?=if j < k then z[j]? else if j < k+l.length then l[j - k]? else z[j]?:=by
 induction l with
 | nil=>intro k z _ j;simp;intro D I;omega
 | cons c l ih =>
  intro k z Y j;simp only [List.length_cons] at Y;simp only [List.zipIdx_cons,List.foldl_cons];rw [ih (k+1) _ (by simp;omega)];simp only [List.length_cons,Array.getElem?_setIfInBounds]
  by_cases D:j < k
  ·simp [D,show j < k+1 by omega,show ¬ k=j by omega]
  ·by_cases I:j=k
   ·subst I;simp [show j < z.size by omega]
   ·have J:¬ j < k+1:=tM;have O:¬ k=j:=tM;simp only [D,J,O,if_false];have U:j - k=(j - (k+1))+1:=tM
    by_cases h6:j < k+1+l.length
    ·simp [h6,show j < k+(l.length+1) by omega,U]
    ·simp [h6,show ¬ j < k+(l.length+1) by omega]
theorem Awu {v:Value} {cs:List Value} {z:Array Value} {sz:Nat} (I:v.cells=cs.toArray) (E:cs.length=sz) (J:z.size=sz) :
  Instr.fill (fun j=>some (j * sz,sz)) z [(0,v)]=some cs.toArray:=by
 have h:(cs.toArray.zipIdx.foldl (fun (cs:Array Value) (D:Value × Nat)=>cs.setIfInBounds (0 * sz+D.2) D.1) z)=cs.toArray:=by
  apply Array.ext_getElem?
  intro j;have:=Anh cs 0 z tM j;rw [← Array.foldl_toList];simp only [Array.toList_zipIdx];simp only [Nat.zero_mul,Nat.zero_add] at *;simp only [Nat.not_lt_zero,if_false,Nat.sub_zero] at this;rw [this]
  by_cases hj:j < cs.length
  ·simp [hj]
  ·simp [hj,show ¬ j < z.size by omega]
 simp only [Instr.fill,I,List.size_toArray,E,J];simp only [ne_eq,not_true_eq_false,decide_false,Nat.zero_mul,Nat.zero_add,gt_iff_lt,Nat.lt_irrefl,Bool.or_self,Bool.false_eq_true,if_false];simp only [Nat.zero_mul] at h;exact congrArg some (by simpa using h)
theorem Ev {s D:TypeId} {i:TI} {x:Operand} {v:Value} {cs:List Value} (F:Fits n a e) (M:Mem w0 G L w) (hs:tk P s=.slice D) (O:TOK P D i) (Z:i.zero.cells.size=i.size) (Y:ev e x=some v) (U:v.cells=cs.toArray)
  (E:cs.length=i.size) (I:∀ u∈cs,u.oneCell' = true) (J:i.size≤16777216) (hd:Nat.ble (d+1) n=true)
  (k:∀ v w' z,Mem w0 G (.row v 1 cs D i.size::L) w'→Fits n z ((d,v)::e)→rl P ops Q r z w') :
  rl P ops Q (⟨some d,.buildSlice s 1 #[(0,x)],t,p,af,none⟩::r) a w:=by
 refine Aa F (run_buildSlice (cs:=cs) hs O tM ?_) hd fun z F'=>k _ _ z ?_ F'
 ·simp only [List.map_toArray,List.map_cons,List.map_nil,F.ev Y];exact Awu U E (by simp)
 ·have:=M.newrow (t:=D) (sz:=i.size) (cs:=cs) (spare:=[]) (n:=1) (c:=1) I (by simpa using E) (by simpa using E) (Nat.le_refl _) (by simp [maxLen]);rw [List.append_nil] at this;exact this
end
section
variable {P:Program} {w0 w:World} {G G':Ghost} {L:List Res}
theorem Mem.row_shape (M:Mem w0 G L w) {k n:Nat} {v:Value} {cs:List Value} {t:TypeId} {sz:Nat} (U:L[k]?=some (.row v n cs t sz)) :
  ∃ a c,v=.slice a n c∧n≤c∧c≤9223372036854775807∧cs.length=n * sz:=by
 obtain ⟨⟨I,O⟩,_⟩:=M.row_at U;rcases O with ⟨rfl,h0⟩ | ⟨g,z,J,rfl,_,_,E,D,_,_⟩
 ·subst h0;exact ⟨none,0,rfl,Nat.le_refl _,tM,I⟩
 ·exact ⟨_,z,rfl,E,by simpa [maxLen] using D,I⟩
theorem Mem.row_some (M:Mem w0 G L w) {k n c:Nat} {ad:Option Addr} {cs:List Value} {t:TypeId} {sz:Nat} (O:L[k]?=some (.row (.slice ad n c) n cs t sz)) (h0:0 < n) :
  ∃ b,ad=some ⟨b,0,none⟩:=by
 obtain ⟨⟨U,J⟩,_⟩:=M.row_at O;rcases J with ⟨_,I⟩ | ⟨g,D,E,z,_⟩
 ·omega
 ·simp only [Value.slice.injEq] at z;exact ⟨g,z.1⟩
theorem Mem.row_cell (M:Mem w0 G L w) {k n c b:Nat} {cs:List Value} {t:TypeId} {sz:Nat} (I:L[k]?=some (.row (.slice (some ⟨b,0,none⟩) n c) n cs t sz)) {q:Nat} {v:Value} (E:cs[q]?=some v) :
  w.cell? ⟨b,q,none⟩=some v:=by
 obtain ⟨D,_⟩:=M.row_at I;have z:q < cs.length:=by
  rcases Nat.lt_or_ge q cs.length with h' | h'
  ·exact h'
  ·simp [List.getElem?_eq_none h'] at E
 rw [D.cellAt q (by rw [← D.1];exact z),E]
theorem Mem.set_row (M:Mem w0 G L w) {k n c b:Nat} {cs:List Value} {t:TypeId} {sz:Nat} (z:L[k]?=some (.row (.slice (some ⟨b,0,none⟩) n c) n cs t sz)) (q:Nat) {u:Value} (O:u.oneCell' = true) :
  Mem w0 G (L.set k (.row (.slice (some ⟨b,0,none⟩) n c) n (cs.set q u) t sz)) (w.setCell ⟨b,q,none⟩ u):=by
 obtain ⟨I,D⟩:=M.row_at z;obtain ⟨E,Y⟩:=I.stored q u;refine M.swap_at z rfl ⟨E,fun v U=>?_⟩ rfl rfl rfl (by simp [World.setCell]) ?_
 ·rcases List.mem_or_eq_of_mem_set U with h | h
  ·exact D v h
  ·subst h;exact O
 ·intro r J;exact Gp (fun e=>J (by simp [Res.foot,Value.ownBlock,e]))
def over:List Value→Nat→List Value→List Value
 | cs,_,[]=>cs
 | cs,q,u::us=>over (cs.set q u) (q+1) us
theorem Zq {α:Type} {L:List α} {k:Nat} {x:α} (z:L[k]?=some x):L.set k x=L:=by
 apply List.ext_getElem?
 intro j;rw [List.getElem?_set];split
 ·rename_i D;subst D;split
  ·rw [z]
  ·rename_i E;rw [List.getElem?_eq_none tM] at z;cases z
 ·rfl
theorem Jj {a:Addr} {v z:Value} (I:v.oneCell' = true) (D:w.cell? a=some z) (E:w.frozen? a=false):(store a v).run P w=.ok () (w.setCell a v):=by
 unfold store;cases v <;> simp_all [Sem.run,Value.oneCell']
theorem Mem.store_row {us:List Value}:∀ {w:World} {L:List Res},(M:Mem w0 G L w)→∀ {k n c b:Nat} {cs:List Value} {t:TypeId} {sz:Nat} (_:L[k]?=some (.row (.slice (some ⟨b,0,none⟩) n c) n cs t sz)) (o i:Nat)
  (_:∀ u∈us,u.oneCell' = true) (_:o+i+us.length≤cs.length),
  ∃ w',(storeCells ⟨b,o,none⟩ us i).run P w=.ok () w'∧Mem w0 G (L.set k (.row (.slice (some ⟨b,0,none⟩) n c) n (over cs (o+i) us) t sz)) w':=by
 induction us with
 | nil =>
  intro w L M k n c b cs t sz D o i I z;refine ⟨w,by simp [storeCells],?_⟩;simp only [over];rw [Zq D];exact M
 | cons u us ih =>
  intro w L M k n c b cs t sz D o i I z;simp only [List.length_cons] at z;have J:w.frozen? ⟨b,o+i,none⟩=false:=(M.row_at D).1.frozenAt _;have Z:w.cell? ⟨b,o+i,none⟩=some cs[o+i]:=M.row_cell D (List.getElem?_eq_getElem tM);have Y:=M.set_row D (o+i) (I u (by simp));have O:(L.set k (.row (.slice (some ⟨b,0,none⟩) n c) n (cs.set (o+i) u) t sz))[k]?=some (.row (.slice (some ⟨b,0,none⟩) n c) n (cs.set (o+i) u) t sz):=by
   rw [List.getElem?_set];have U:k < L.length:=by
    rcases Nat.lt_or_ge k L.length with h' | h'
    ·exact h'
    ·simp [List.getElem?_eq_none h'] at D
   simp [U]
  obtain ⟨w',hr,E⟩:=ih Y O o (i+1) (fun v hv=>I v (by simp [hv])) (by simp;omega);refine ⟨w',?_,?_⟩
  ·simp only [storeCells,Sem.run_bind,add_plain,Jj (I u (by simp)) Z J,Result.andThen_ok];exact hr
  ·rw [List.set_set] at E;exact E
end
section
variable {P:Program} {ops:Array Oper} {Q:Exit→Act→World→Prop} {n:Nat} {a:Act} {w w0:World} {e:Env} {G:Ghost} {L:List Res}
 {d:Nat} {t:TypeId} {p:String} {af:Array Edge} {r:List Oper}
theorem Aci (z:List Field):(∀ f∈z,P.cellsOf f.type≠0)→(z.mapM fun f=>do pure (f.offset,← sizeOf f.type):Sem (List (Nat × Nat))).run P w=.ok (z.map fun f=>(f.offset,P.cellsOf f.type)) w:=by
 induction z with
 | nil=>intro _;simp
 | cons f z ih =>
  intro h;have h0:=h f (by simp);have U:∃ i,P.info? f.type=some i∧i.size=P.cellsOf f.type:=by
   unfold Program.cellsOf at *;cases hii:P.info? f.type with
   | none=>rw [hii] at h0;simp at h0
   | some i=>exact ⟨i,rfl,by simp⟩
  obtain ⟨i,I,J⟩:=U;have E:=ih (fun g O=>h g (by simp [O]));have D:(sizeOf f.type).run P w=.ok (P.cellsOf f.type) w:=by simp [sizeOf,typeInfo,program,Sem.run,I,J]
  simp only [List.mapM_cons,Sem.run_bind,D,Result.andThen_ok,Sem.run_pure,E,List.map_cons]
theorem run_buildS {ρ:Operand→Value} {dd:Option Tmp} {g:Option (Nat × Bool)} {s:TypeId} {i:TI} {z:Array (Nat × Operand)} {ps:List (Nat × Value)} {fs:List (Nat × Nat × Nat)} {cs:List Value}
  (hs:tk P s=.struct fs) (Z:fs.all (fun x=>!Nat.beq x.2.1 0)=true) (ht:TOK P s i) (hp:(z.map fun (j,x)=>(j,ρ x)).toList=ps)
  (O:Instr.fill (fun j=>(fs.map fun x=>(x.1,x.2.1))[j]?) i.zero.cells ps=some cs.toArray) :
  (execOp ρ ⟨dd,.build s z,t,p,af,g⟩).run P w=.ok (.value (.agg cs.toArray)) w:=by
 obtain ⟨E,hu,I⟩:=Ga hs;have Y:∀ f∈E.toList,P.cellsOf f.type≠0:=by
  intro f O;have hm:(f.offset,P.cellsOf f.type,f.type)∈fs:=by rw [← I];exact List.mem_map.2 ⟨f,O,rfl⟩
  have:=(List.all_eq_true.1 Z) _ hm;intro h0;simp [h0] at this
 have aa:=Aci (P:=P) (w:=w) E.toList Y;have J:(E.mapM fun f=>do pure (f.offset,← sizeOf f.type):Sem (Array (Nat × Nat))).run P w=.ok (E.toList.map fun f=>(f.offset,P.cellsOf f.type)).toArray w:=by
  have h1:(E.mapM fun f=>do pure (f.offset,← sizeOf f.type):Sem (Array (Nat × Nat)))=List.toArray <$> (E.toList.mapM fun f=>do pure (f.offset,← sizeOf f.type)):=by
   rw [Array.mapM_eq_mapM_toList]
  rw [h1,Sem.run_map,aa];rfl
 have U:(fs.map fun x=>(x.1,x.2.1))=E.toList.map fun f=>(f.offset,P.cellsOf f.type):=by
  rw [← I,List.map_map];rfl
 have D:(fun (j:Nat)=>(E.toList.map fun f=>(f.offset,P.cellsOf f.type)).toArray[j]?)=fun (j:Nat)=>(fs.map fun x=>(x.1,x.2.1))[j]?:=by
  funext j;rw [U];simp
 simp only [execOp,Instr.build,Sem.run_bind,ht.zeroValue,Result.andThen_ok,run_under hu,J,Sem.run_pure];rw [D,hp,O];simp
variable {C:World→Prop} {K:Act→Prop}
end
theorem Aad {b:Bool} (h:b=false):(!b)=true:=by simp [h]
theorem Aae {b:Bool} (h:b=true):(!b)=false:=by simp [h]
theorem get_of_lt {α:Type} {xs:List α} {i:Nat} (h:i < xs.length):∃ x,xs[i]?=some x:=⟨_,List.getElem?_eq_getElem h⟩
theorem lt_of_get {α:Type} {xs:List α} {i:Nat} {x:α} (h:xs[i]?=some x):i < xs.length:=by
 rcases Nat.lt_or_ge i xs.length with h' | h'
 ·exact h'
 ·simp [List.getElem?_eq_none h'] at h
section
variable {P:Program} {ops:Array Oper} {Q K:Exit→Act→World→Prop} {N:Act→World→Prop} {n:Nat} {a:Act} {w w0:World} {e:Env} {G:Ghost} {L:List Res}
 {d:Nat} {t:TypeId} {p:String} {af:Array Edge} {r:List Oper}
theorem Fj {op:Op} {j g:Nat} {z b:Bool} (F:Fits n a e) (E:(ops[j]?).bind (·.dst)=some g) (D:look e g=some (.bool b)) (hd:Nat.ble (d+1) n=true) (hw:b=z)
  (k:rl P ops Q (⟨some d,op,t,p,af,none⟩::r) a w):rl P ops Q (⟨some d,op,t,p,af,some (j,z)⟩::r) a w :=
 Zu F E D hd (fun _=>k) (fun h=>by subst hw;cases b <;> cases h)
theorem Ik {op:Op} {j g:Nat} {z b:Bool} (F:Fits n a e) (I:(ops[j]?).bind (·.dst)=some g) (E:look e g=some (.bool b)) (hd:Nat.ble (d+1) n=true) (hw:b = !z)
  (k:∀ D,Fits n D ((d,undef)::e)→rl P ops Q r D w):rl P ops Q (⟨some d,op,t,p,af,some (j,z)⟩::r) a w :=
 Zu F I E hd (fun h=>by subst h;cases b <;> cases hw) (fun _=>k)
def evp (e:Env):List (Nat × Operand)→Option (List (Nat × Value))
 | []=>some []
 | x::xs=>match ev e x.2 with
  | some v=>match evp e xs with
   | some vs=>some ((x.1,v)::vs)
   | none=>none
  | none=>none
theorem Fits.evp (F:Fits n a e):∀ {xs:List (Nat × Operand)} {vs:List (Nat × Value)},Y.evp e xs=some vs→(xs.toArray.map fun (j,x)=>(j,a.eval x)).toList=vs
 | [],vs,h=>by simp [Y.evp] at h;subst h;simp
 | (j,x)::xs,vs,h=>by
  simp only [Y.evp] at h;cases hx:Y.ev e x with
  | none=>rw [hx] at h;simp at h
  | some v =>
   rw [hx] at h;cases hxs:Y.evp e xs with
   | none=>rw [hxs] at h;simp at h
   | some us =>
    rw [hxs] at h;simp at h;subst h;have ih:=Fits.evp F hxs;simp only [List.map_toArray] at ih ⊢;simp only [List.map_cons,F.ev hx];rw [ih]
theorem Ay (h:N a w):Exit.then N Q .normal a w:=h
theorem q_te {id:Nat} (h:Q (.exit id) a w):Exit.then N Q (.exit id) a w:=h
theorem q_tr (h:Q .ret a w):Exit.then N Q .ret a w:=h
theorem Auy {id:Nat} (h:Q .normal a w):Exit.inBlock id Q .normal a w:=h
theorem q_bh {id:Nat} (h:Q .normal a w):Exit.inBlock id Q (.exit id) a w:=Zz h
theorem q_be {id j:Nat} (z:Nat.beq j id=false) (h:Q (.exit j) a w):Exit.inBlock id Q (.exit j) a w :=
 Vh (fun e=>by subst e;simp at z) h
theorem w_loopN {c:Code} (I:Nat→Act→World→Prop) (m0:Nat) (h0:I m0 a w)
  (z:∀ m a w,I m a w→c.wp P (Exit.then (fun D w'=>∃ m',m' < m∧I m' D w') Q) a w):(Code.loop c).wp P Q a w :=
 Aqn (σ:=Nat) I (fun m=>m) m0 h0 z
def RetS (w0:World) (G:Ghost) (L:List Res) (Φ:Value→Prop):Ending→World→Prop
 | .returned v,w'=>Mem w0 G L w'∧Φ v
 | _,_=>False
theorem Qr {f:FuncId} {args:List Operand} {D:Array TypeId} {vs:List Value} {Φ:Value→Prop}
  (F:Fits n a e) (O:Ent P f) (U:evs e args=some vs) (hd:Nat.ble (d+1) n=true)
  (hs:Calls P f vs.toArray w (RetS w0 G L Φ))
  (k:∀ v w' z,Mem w0 G L w'→Φ v→Fits n z ((d,v)::e)→rl P ops Q r z w') :
  rl P ops Q (⟨some d,.call ⟨.value (.func f),args.toArray,D⟩,t,p,af,none⟩::r) a w:=by
 refine Qq (caps:=[]) F O rfl U hd (by rw [List.append_nil];exact hs) fun x w' E=>?_;cases x with
 | returned v=>obtain ⟨I,J⟩:=E;exact ⟨v,rfl,fun z F'=>k v w' z I J F'⟩
 | panicked c=>exact E.elim
 | outgrown=>exact E.elim
theorem Mem.ghost {G':Ghost} (D:Gle G G') (M:Mem w0 G' L w) (z:∀ x∈L,∀ b,x.foot=some b→G b=none):Mem w0 G L w :=
 ⟨M.os,M.tape,M.output,M.grow,fun r o h=>M.pers r o (D r o h),M.own,z,M.apart⟩
theorem Ret.plain {f:FuncId} {vs:Array Value} {Φ:Value→Prop} (M:Mem w0 G L w) (h:Calls P f vs w (Ret w0 G L fun _ v=>Φ v)):Calls P f vs w (RetS w0 G L Φ) :=
 h.mono fun x w' z=>by
  cases x with
  | returned v=>obtain ⟨G',D,E,I⟩:=z;exact ⟨E.ghost D M.free,I⟩
  | panicked c=>exact z
  | outgrown=>exact z
theorem Mem.store_blk {us:List Value}:∀ {w:World} {L:List Res},(M:Mem w0 G L w)→∀ {k b:Nat} {cs:List Value} {t:TypeId} (_:L[k]?=some (.blk b cs t)) (o i:Nat)
  (_:∀ u∈us,u.oneCell' = true) (_:o+i+us.length≤cs.length),
  ∃ w',(storeCells ⟨b,o,none⟩ us i).run P w=.ok () w'∧Mem w0 G (L.set k (.blk b (over cs (o+i) us) t)) w':=by
 induction us with
 | nil =>
  intro w L M k b cs t D o i O z;refine ⟨w,by simp [storeCells],?_⟩;simp only [over];rw [Zq D];exact M
 | cons u us ih =>
  intro w L M k b cs t D o i O z;simp only [List.length_cons] at z;have I:w.frozen? ⟨b,o+i,none⟩=false:=M.frozenL D _;have Y:w.cell? ⟨b,o+i,none⟩=some cs[o+i]:=M.cellL D (List.getElem?_eq_getElem tM);have U:=M.set D (o+i) u;have J:(L.set k (.blk b (cs.set (o+i) u) t))[k]?=some (.blk b (cs.set (o+i) u) t):=by
   rw [List.getElem?_set];simp [lt_of_get D]
  obtain ⟨w',Z,E⟩:=ih U J o (i+1) (fun v hv=>O v (by simp [hv])) (by simp;omega);refine ⟨w',?_,?_⟩
  ·simp only [storeCells,Sem.run_bind,add_plain,Jj (O u (by simp)) Y I,Result.andThen_ok];exact Z
  ·rw [List.set_set] at E;exact E
theorem Fi {E D:TypeId} {i:TI} {x y:Operand} {v:Value} {k b o:Nat} {cs us:List Value} (F:Fits n a e) (M:Mem w0 G L w) (Z:TOK P E i)
  (O:L[k]?=some (.blk b cs D)) (hx:ev e x=some (.pointer (some ⟨b,o,none⟩))) (hy:ev e y=some v) (hv:v.cells=us.toArray) (U:us.length=i.size)
  (hu:∀ u∈us,u.oneCell' = true) (I:o+us.length≤cs.length)
  (kk:∀ w' z,Mem w0 G (L.set k (.blk b (over cs o us) D)) w'→Fits n z e→rl P ops Q r z w'):rl P ops Q (⟨none,.store E x y,t,p,af,none⟩::r) a w:=by
 obtain ⟨w',Y,J⟩:=M.store_blk (P:=P) (us:=us) O o 0 hu tM;refine U8 F (w':=w') ?_ fun z F'=>kk w' z (by simpa using J) F';simp only [execOp,F.ev hx,F.ev hy,Instr.storeAt,Instr.sureAddr,storeVar,Sem.run_bind,Sem.run_pure,Result.andThen_ok,Z.sizeOf,hv];simp [U,Y]
end
section
variable {P:Program} {ops:Array Oper} {Q:Exit→Act→World→Prop} {C:World→Prop}
def Gx (P:Program) (ops:Array Oper) (C:World→Prop) (o:Oper) (v:Value) (a:Act):Prop :=
 (Region.wanted o (yielded ops a.tmps)=true∧∀ w,C w→(execOp a.eval o).run P w=.ok (.value v) w) ∨
 (Region.wanted o (yielded ops a.tmps)=false∧v=undef)
def Aym (P:Program) (ops:Array Oper) (Q:Exit→Act→World→Prop):(World→Prop)→Nat→Array Bool→Act→World→Prop
 | _,0,listed,a,w=>Region.ready .any ops listed=[]∧Q .normal a w
 | C,fuel+1,listed,a,w =>
  (Region.ready .any ops listed=[]→Q .normal a w) ∧
  ∀ i∈Region.ready .any ops listed,wpOp P ops Q i (fun a' w'=>∃ C':World→Prop,C' w'∧(∀ w,C' w→C w)∧Aym P ops Q C' fuel (listed.setIfInBounds i true) a' w') a w
theorem Ov:∀ (fuel:Nat) (C:World→Prop) (listed:Array Bool) (a:Act) (w:World),Aym P ops Q C fuel listed a w→wpAny P .any ops Q fuel listed a w
 | 0,_,_,_,_,h=>h
 | fuel+1,_,_,_,_,h=>⟨h.1,fun i hi=>wpOp_mono (fun a' w' hk=>by obtain ⟨C',_,_,h'⟩:=hk;exact Ov fuel C' _ a' w' h') (h.2 i hi)⟩
theorem Gx.mono {o:Oper} {v:Value} {a:Act} {z:World→Prop} (h:∀ w,z w→C w) (J:Gx P ops C o v a):Gx P ops z o v a:=by
 rcases J with ⟨D,E⟩ | I
 ·exact Or.inl ⟨D,fun w hw=>E w (h w hw)⟩
 ·exact Or.inr I
theorem Gx.op {i:Nat} {o:Oper} {v:Value} {a:Act} (I:ops[i]?=some o) (J:Gx P ops C o v a) {K:Act→World→Prop} {w:World} (E:C w) (h:K (a.put o.dst v) w):wpOp P ops Q i K a w:=by
 unfold wpOp;simp only [I];rcases J with ⟨z,D⟩ | ⟨z,rfl⟩
 ·rw [if_pos z];left;unfold Oper.wp;rw [D w E];exact h
 ·rw [if_neg (by simp [z])];exact h
theorem Avh {j:Nat} {z D:Oper} {v:Value} (hj:ops[j]?=some D) (Y:z.apart ops D=true) (Z:∀ cs b,z.op≠.select cs b) (aa:∀ cs b,D.op≠.select cs b)
  (hQ:∀ c a w,Q (.panic c) (a.put z.dst v) w→Q (.panic c) a w) {K:Act→World→Prop} {a:Act} {w:World} (J:Gx P ops C z v a) (h:wpOp P ops Q j K (a.put z.dst v) w) :
  wpOp P ops Q j (fun a' w'=>Gx P ops C z v a'∧K (a'.put z.dst v) w') a w:=by
 obtain ⟨h1,E,h3⟩:=Oper.apart_spec Y;have I:∀ (a:Act) (u:Value),Gx P ops C z v a→Gx P ops C z v (a.put D.dst u):=fun a u hg=>by
  unfold Gx at *;rw [execOp_put z Z a D.dst u h3,wanted_put z a D.dst u h3];exact hg
 have he:=execOp_put D aa a z.dst v h1;have hw:=wanted_put D a z.dst v h1;unfold wpOp at h ⊢;simp only [hj] at h ⊢;rw [hw] at h
 by_cases hwt:Region.wanted D (yielded ops a.tmps)=true
 ·rw [if_pos hwt] at h ⊢;rcases h with h | ⟨U,hl⟩
  ·left
   unfold Oper.wp at h ⊢;rw [he] at h;cases hr:(execOp a.eval D).run P w with
   | halt x w' =>
    rw [hr] at h;cases x <;> simp only [Oper.upon] at h ⊢;exact hQ _ _ _ h
   | ok nx w' =>
    rw [hr] at h;cases nx <;> simp only [Oper.upon] at h ⊢
    case value u=>exact ⟨I a u J,by rw [← Act.put_comm a v u E];exact h⟩
    case skip=>exact ⟨I a _ J,by rw [← Act.put_comm a v undef E];exact h⟩
    case defer d=>exact ⟨I { a with defers:=d::a.defers } _ J,by rw [← Act.put_comm _ v undef E,← Act.put_defers];exact h⟩
    case enter f args =>
     refine h.mono fun e ab O=>?_;cases e with
     | returned u=>exact ⟨I a u J,by rw [← Act.put_comm a v u E];exact O⟩
     | panicked c=>exact hQ _ _ _ O
     | outgrown=>exact O
    case row row args=>exact Rows.mono h fun u ab O=>⟨I a u J,by rw [← Act.put_comm a v u E];exact O⟩
  ·right
   refine ⟨?_,hl⟩;unfold Oper.asks at U ⊢;rw [he] at U;exact U
 ·rw [if_neg hwt] at h ⊢;exact ⟨I a undef J,by rw [← Act.put_comm a v undef E];exact h⟩
theorem Aes {i:Nat} {U:Oper} {v:Value} (hi:ops[i]?=some U) (E:∀ (j:Nat) (o:Oper) cs b,ops[j]?=some o→o.op≠.select cs b) (hQ:∀ c a w,Q (.panic c) (a.put U.dst v) w→Q (.panic c) a w) :
  ∀ (D:Nat) (C:World→Prop) (z:Array Bool) (a:Act) (w:World),C w →
   (∀ j O,ops[j]?=some O→j≠i→z.getD j true=false→(∀ e∈O.after,Region.binds .any e=true→e.on≠i)→U.apart ops O=true) →
   i∈Region.ready .any ops z→Gx P ops C U v a→Aym P ops Q C D (z.setIfInBounds i true) (a.put U.dst v) w→Aym P ops Q C (D+1) z a w:=by
 intro D
 induction D with
 | zero =>
  intro C z a w Z _ J hy H;refine ⟨fun h=>(by rw [h] at J;cases J),fun j hj=>?_⟩
  by_cases hji:j=i
  ·subst hji;exact hy.op hi Z ⟨C,Z,fun _ h=>h,H⟩
  ·have:=ready_mono hj hji;rw [H.1] at this;cases this
 | succ D ih =>
  intro C z a w Z hf J hy H;refine ⟨fun h=>(by rw [h] at J;cases J),fun j hj=>?_⟩
  by_cases hji:j=i
  ·subst hji;exact hy.op hi Z ⟨C,Z,fun _ h=>h,H⟩
  ·obtain ⟨ab,O,I,aa⟩:=mem_ready.1 hj;have ah:∀ e∈O.after,Region.binds .any e=true→e.on≠i:=by
    intro e he hb af;have Y:=aa e he hb;have h0:=(mem_ready.1 J).1;rw [af] at Y
    by_cases hlt:i < z.size
    ·simp [hlt] at h0 Y;rw [h0] at Y;cases Y
    ·simp [Array.getElem?_eq_none (Nat.le_of_not_lt hlt)] at Y
   have h2:=Avh I (hf j O I hji ab ah) (E i U · · hi) (E j O · · I) hQ hy (H.2 j (ready_mono hj hji));refine wpOp_mono (fun a' w' h3=>?_) h2;obtain ⟨h4,C',h5,h7,h6⟩:=h3;refine ⟨C',h5,h7,ih C' _ a' w' h5 ?_ (ready_mono J (Ne.symm hji)) (h4.mono h7) ?_⟩
   ·intro k ok hk ag ae ac;refine hf k ok hk ag ?_ ac
    by_cases hjk:j=k
    ·subst hjk;exact ab
    ·rw [getD_set_ne true hjk] at ae;exact ae
   ·rw [Array.setIfInBounds_comm _ _ hji];exact h6
def pl (P:Program) (ops:Array Oper) (Q:Exit→Act→World→Prop):(World→Prop)→List (Bool × Oper)→Act→World→Prop
 | _,[],a,w=>Q .normal a w
 | C,(true,o)::r,a,w=>∃ v,Gx P ops C o v a∧pl P ops Q C r (a.put o.dst v) w
 | C,(false,o)::r,a,w =>
  (Region.wanted o (yielded ops a.tmps)=true→o.wp P a w (fun a' w'=>∃ C':World→Prop,C' w'∧(∀ w,C' w→C w)∧pl P ops Q C' r a' w') Q) ∧
  (Region.wanted o (yielded ops a.tmps)=false→pl P ops Q C r (a.put o.dst undef) w)
def Awq (ops:Array Oper) (i:Nat) (listed:Array Bool):Bool :=
 match ops[i]? with
 | none=>false
 | some oi=>(List.range ops.size).all fun j=>match ops[j]? with
  | none=>true
  | some oj=>Nat.beq j i || listed.getD j true || oj.after.any (fun e=>Region.binds .any e && Nat.beq e.on i) || oi.apart ops oj
def Lp (ops:Array Oper):List (Bool × Nat)→Array Bool→Bool
 | [],listed=>(Region.ready .any ops listed).isEmpty
 | (true,i)::r,listed=>(Region.ready .any ops listed).any (Nat.beq i) && Awq ops i listed && Lp ops r (listed.setIfInBounds i true)
 | (false,i)::r,listed=>(match Region.ready .any ops listed with | [j]=>Nat.beq i j | _=>false) && Lp ops r (listed.setIfInBounds i true)
theorem Iy (hsel:∀ (j:Nat) (o:Oper) cs b,ops[j]?=some o→o.op≠.select cs b) (hQ:∀ c a d v w,Q (.panic c) (a.put d v) w→Q (.panic c) a w) :
  ∀ (order:List (Bool × Nat)) (C:World→Prop) (listed:Array Bool) (plan:List (Bool × Oper)) (a:Act) (w:World),order.map (fun x=>(x.1,ops[x.2]?))=plan.map (fun x=>(x.1,some x.2))→Lp ops order listed=true→C w →
   pl P ops Q C plan a w→Aym P ops Q C order.length listed a w
 | [],C,listed,plan,a,w,hp,hok,_,h=>by
  cases plan with
  | nil=>exact ⟨by simpa [Lp] using hok,h⟩
  | cons x y=>simp at hp
 | (true,i)::order,C,listed,plan,a,w,hp,hok,hC,h=>by
  cases plan with
  | nil=>simp at hp
  | cons x plan =>
   obtain ⟨b,o⟩:=x;simp only [List.map_cons,List.cons.injEq,Prod.mk.injEq] at hp;obtain ⟨⟨rfl,hi⟩,hp⟩:=hp;simp only [Lp,Bool.and_eq_true] at hok;obtain ⟨⟨hr,hf⟩,hok⟩:=hok;obtain ⟨v,hy,h'⟩:=h;have hr':i∈Region.ready .any ops listed:=by
    obtain ⟨j,hj,hb⟩:=List.any_eq_true.1 hr;rw [Nat.eq_of_beq_eq_true hb];exact hj
   refine Aes hi hsel (fun c a w=>hQ c a o.dst v w) _ C listed a w hC ?_ hr' hy (Iy hsel hQ order C _ plan _ w hp hok hC h');intro j oj hj hji hun hno;unfold Awq at hf;simp only [hi] at hf;have hlt:j < ops.size:=by
    rcases Nat.lt_or_ge j ops.size with h' | h'
    ·exact h'
    ·rw [Array.getElem?_eq_none h'] at hj;cases hj
   have:=List.all_eq_true.1 hf j (List.mem_range.2 hlt);simp only [hj,Bool.or_eq_true] at this;rcases this with ((h1 | h1) | h1) | h1
   ·exact absurd (Nat.eq_of_beq_eq_true h1) hji
   ·rw [h1] at hun;cases hun
   ·obtain ⟨e,he,hb⟩:=Array.any_eq_true'.1 h1;simp only [Bool.and_eq_true] at hb;exact absurd (Nat.eq_of_beq_eq_true hb.2) (hno e he hb.1)
   ·exact h1
 | (false,i)::order,C,listed,plan,a,w,hp,hok,hC,h=>by
  cases plan with
  | nil=>simp at hp
  | cons x plan =>
   obtain ⟨b,o⟩:=x;simp only [List.map_cons,List.cons.injEq,Prod.mk.injEq] at hp;obtain ⟨⟨rfl,hi⟩,hp⟩:=hp;simp only [Lp,Bool.and_eq_true] at hok;obtain ⟨hr,hok⟩:=hok;have hready:Region.ready .any ops listed=[i]:=by
    split at hr
    ·rename_i j hj;rw [hj,Nat.eq_of_beq_eq_true hr]
    ·cases hr
   refine ⟨fun h0=>(by rw [hready] at h0;cases h0),fun j hj=>?_⟩;rw [hready] at hj;have hji:j=i:=by simpa using hj
   subst hji;obtain ⟨h1,h2⟩:=h;unfold wpOp;simp only [hi]
   by_cases hw:Region.wanted o (yielded ops a.tmps)=true
   ·rw [if_pos hw]
    left
    exact Oper.wp_mono (fun a' w' hk=>by
     obtain ⟨C',h3,h4,h5⟩:=hk;exact ⟨C',h3,h4,Iy hsel hQ order C' _ plan a' w' hp hok h3 h5⟩) (h1 hw)
   ·rw [if_neg hw];exact ⟨C,hC,fun _ h=>h,Iy hsel hQ order C _ plan _ w hp hok hC (h2 (by simpa using hw))⟩
def Qz (ops:Array Oper):List (Bool × Nat)→List (Bool × Oper)
 | []=>[]
 | x::r=>match ops[x.2]? with
  | some o=>(x.1,o)::Qz ops r
  | none=>Qz ops r
theorem Qy:∀ (order:List (Bool × Nat)),order.all (fun x=>Nat.ble (x.2+1) ops.size)=true→order.map (fun x=>(x.1,ops[x.2]?))=(Qz ops order).map (fun x=>(x.1,some x.2))
 | [],_=>rfl
 | x::r,h=>by
  simp only [List.all_cons,Bool.and_eq_true] at h;have hlt:x.2 < ops.size:=Nat.le_of_ble_eq_true h.1;simp only [Qz,Array.getElem?_eq_getElem hlt,List.map_cons,Qy r h.2]
def Tb (l:List Oper) (order:List (Bool × Nat)):Bool :=
 Region.noSelect l.toArray && order.all (fun x=>Nat.ble (x.2+1) l.length) && Nat.beq order.length l.length && Lp l.toArray order (Array.replicate l.length false)
theorem Aqm {id:Nat} {l:List Oper} {a:Act} {w:World} (z:List (Bool × Nat)) (C:World→Prop) (U:P.follows .mixedOrders=true) (I:Tb l z=true)
  (O:∀ c a d v w,Q (.panic c) (a.put d v) w→Q (.panic c) a w) (J:C { w with drawn:=w.drawn+1 }) (h:pl P l.toArray Q C (Qz l.toArray z) a { w with drawn:=w.drawn+1 }):(Code.region id l.toArray true).wp P Q a w:=by
 simp only [Tb,Bool.and_eq_true] at I;obtain ⟨⟨⟨hs,Z⟩,Y⟩,E⟩:=I;refine wp_region_any U (Ov _ C _ _ _ ?_);have D:=Nat.eq_of_beq_eq_true Y;have:=Iy (P:=P) (Region.noSelect_spec hs) O z C (Array.replicate l.length false) _ a _ (Qy z (by simpa using Z)) E J h;rw [D] at this;simpa using this
end
structure Keep (G:Ghost) (L:List Res) (w:World):Prop where
 pers:∀ r o,G r=some o→w.heap[r]?=some o
 own:∀ x∈L,x.holds w
section
variable {P:Program} {ops:Array Oper} {Q:Exit→Act→World→Prop} {C:World→Prop} {n:Nat} {a:Act} {w w0:World} {e:Env} {G G':Ghost} {L L':List Res}
 {d:Nat} {t:TypeId} {p:String} {af:Array Edge} {r:List (Bool × Oper)}
theorem Mem.keep (M:Mem w0 G' L' w) (D:Gle G G') (z:∀ x∈L,x∈L'):Keep G L w:=⟨fun r o h=>M.pers r o (D r o h),fun x E=>M.own x (z x E)⟩
theorem Keep.mono {G':Ghost} (E:Gle G G') (D:∀ x∈L,x∈L') (h:Keep G' L' w):Keep G L w:=⟨fun r o z=>h.pers r o (E r o z),fun x I=>h.own x (D x I)⟩
theorem Keep.cell (M:Keep G L w) {b o:Nat} {v:Value} (h:Gs G b o=some v):w.cell? ⟨b,o,none⟩=some v:=by
 unfold Gs at h;split at h
 ·rename_i c t f z;simp [World.cell?,M.pers _ _ z,h]
 ·cases h
theorem Keep.cellL (M:Keep G L w) {k b:Nat} {cs:List Value} {t:TypeId} (D:L[k]?=some (.blk b cs t)) {o:Nat} {v:Value} (E:cs[o]?=some v):w.cell? ⟨b,o,none⟩=some v:=by
 have z:w.heap[b]?=some (.cells cs.toArray t (0,0)):=M.own _ (List.mem_of_getElem? D);simp [World.cell?,z,E]
theorem Ave (h:Q .normal a w):pl P ops Q C [] a w:=h
theorem Cw {op:Op} {v:Value} (F:Fits n a e) (D:∀ w,C w→(execOp a.eval ⟨some d,op,t,p,af,none⟩).run P w=.ok (.value v) w) (hd:Nat.ble (d+1) n=true)
  (k:∀ z,Fits n z ((d,v)::e)→pl P ops Q C r z w):pl P ops Q C ((true,⟨some d,op,t,p,af,none⟩)::r) a w :=
 ⟨v,Or.inl ⟨rfl,D⟩,k _ (F.put hd)⟩
theorem Vo {op:Op} {v:Value} {j g:Nat} {z b:Bool} (F:Fits n a e) (I:(ops[j]?).bind (·.dst)=some g) (E:look e g=some (.bool b)) (hw:b=z)
  (J:∀ w,C w→(execOp a.eval ⟨some d,op,t,p,af,some (j,z)⟩).run P w=.ok (.value v) w) (hd:Nat.ble (d+1) n=true)
  (k:∀ D,Fits n D ((d,v)::e)→pl P ops Q C r D w):pl P ops Q C ((true,⟨some d,op,t,p,af,some (j,z)⟩)::r) a w:=by
 have O:yielded ops a.tmps j=some b:=by simp [yielded,I,F.slot _ _ E]
 subst hw;exact ⟨v,Or.inl ⟨by simp [Region.wanted,O],J⟩,k _ (F.put hd)⟩
theorem Sa {b2:Bool} {op:Op} {j g:Nat} {z b:Bool} (F:Fits n a e) (J:(ops[j]?).bind (·.dst)=some g) (I:look e g=some (.bool b)) (hw:b = !z) (hd:Nat.ble (d+1) n=true)
  (k:∀ E,Fits n E ((d,undef)::e)→pl P ops Q C r E w):pl P ops Q C ((b2,⟨some d,op,t,p,af,some (j,z)⟩)::r) a w:=by
 have O:yielded ops a.tmps j=some b:=by simp [yielded,J,F.slot _ _ I]
 have D:Region.wanted ⟨some d,op,t,p,af,some (j,z)⟩ (yielded ops a.tmps)=false:=by
  subst hw;cases z <;> simp [Region.wanted,O]
 cases b2 with
 | true=>exact ⟨undef,Or.inr ⟨D,rfl⟩,k _ (F.put hd)⟩
 | false=>exact ⟨fun h=>(by rw [D] at h;cases h),fun _=>k _ (F.put hd)⟩
theorem Vp {o:Oper} (h:rl P ops (fun e a w=>match e with | .normal=>∃ D:World→Prop,D w∧(∀ w,D w→C w)∧pl P ops Q D r a w | e=>Q e a w) [o] a w) (O:o.guard=none):pl P ops Q C ((false,o)::r) a w:=by
 obtain ⟨J,Y⟩:=h;have hw:Region.wanted o (yielded ops a.tmps)=true:=by simp [Region.wanted,O]
 refine ⟨fun _=>?_,fun h=>by rw [hw] at h;cases h⟩;have z:=J hw;unfold Oper.wp at *;generalize (execOp a.eval o).run P w=x at *;cases x with
 | ok nx w' =>
  cases nx <;> simp only [Oper.upon] at z ⊢
  case value u=>exact z
  case skip=>exact z
  case defer d=>exact z
  case enter f args =>
   refine Calls.mono z fun e U E=>?_;cases e with
   | returned u=>exact E
   | panicked c=>exact E
   | outgrown=>obtain ⟨I,w0,h0⟩:=E;exact ⟨I,w0,h0⟩
  case row row args=>exact z
 | halt x w'=>cases x <;> simp only [Oper.upon] at z ⊢ <;> exact z
theorem agf {s:TypeId} {i:TI} (h:TOK P s i) (z:i.k.agg=some false):(tk P s).agg=some false:=by rw [h.k];exact z
theorem Mem.cellsL (M:Mem w0 G L w) {k b:Nat} {cs:List Value} {t:TypeId} (E:L[k]?=some (.blk b cs t)) {o m:Nat} {us:List Value} (I:(cs.drop o).take m=us):∀ j,j < m→w.cell? ⟨b,o+j,none⟩=us[j]?:=by
 intro j D;have z:w.heap[b]?=some (.cells cs.toArray t (0,0)):=M.own _ (List.mem_of_getElem? E);subst I;simp [World.cell?,z,D]
theorem Mem.cellsA (M:Mem w0 G L w) {b o z:Nat} {cs:List Value} (E:At G b o cs) (q:Nat) (O:z=o+q) {m:Nat} {us:List Value} (J:(cs.drop q).take m=us) (U:us.length=m:=by rfl):∀ j,j < m→w.cell? ⟨b,z+j,none⟩=us[j]?:=by
 intro j I;subst J O;obtain ⟨v,D⟩:=get_of_lt (xs:=(cs.drop q).take m) (i:=j) tM;rw [D];rw [List.getElem?_take,if_pos I,List.getElem?_drop] at D;have:=M.cell (E (q+j) v D);rw [Nat.add_assoc];exact this
theorem Keep.cellsL (M:Keep G L w) {k b:Nat} {cs:List Value} {t:TypeId} (E:L[k]?=some (.blk b cs t)) {o m:Nat} {us:List Value} (I:(cs.drop o).take m=us):∀ j,j < m→w.cell? ⟨b,o+j,none⟩=us[j]?:=by
 intro j D;have z:w.heap[b]?=some (.cells cs.toArray t (0,0)):=M.own _ (List.mem_of_getElem? E);subst I;simp [World.cell?,z,D]
theorem Keep.cellsA (M:Keep G L w) {b o z:Nat} {cs:List Value} (E:At G b o cs) (q:Nat) (O:z=o+q) {m:Nat} {us:List Value} (J:(cs.drop q).take m=us) (U:us.length=m:=by rfl):∀ j,j < m→w.cell? ⟨b,z+j,none⟩=us[j]?:=by
 intro j I;subst J O;obtain ⟨v,D⟩:=get_of_lt (xs:=(cs.drop q).take m) (i:=j) tM;rw [D];rw [List.getElem?_take,if_pos I,List.getElem?_drop] at D;have:=M.cell (E (q+j) v D);rw [Nat.add_assoc];exact this
def Ix (ad:Option Addr) (m j sz b o:Nat):Prop:=∃ o0,ad=some ⟨b,o0,none⟩∧o=o0+j * sz∧j < m
theorem RdSl.at {α:Type} {rd:Rd α} {sz:Nat} {ad:Option Addr} {m c:Nat} {xs:List α} (S:RdSl rd sz G (.slice ad m c) xs) {j:Nat} {X:α} (z:xs[j]?=some X) :
  ∃ b o cs,Ix ad m j sz b o∧cs.length=sz∧At G b o cs∧rd G cs X:=by
 obtain ⟨b,o,cs,D,E,I,J,O⟩:=S.index z;exact ⟨b,_,cs,⟨o,D,rfl,by rw [E];exact lt_of_get z⟩,I,J,O⟩
theorem C0 {ρ:Operand→Value} {O:Option Tmp} {g:Option (Nat × Bool)} {s J:TypeId} {i:TI} {x y:Operand} {ad:Option Addr} {m c:Nat} {k:IntKind} {z:Int} {j b o:Nat}
  (hs:tk P s=.slice J) (U:TOK P J i) (Y:ρ x=.slice ad m c) (Z:ρ y=.int k z) (E:z=(j:Int)) (I:Ix ad m j i.size b o) :
  (execOp ρ ⟨O,.indexAddr s x y,t,p,af,g⟩).run P w=.ok (.value (.pointer (some ⟨b,o,none⟩))) w:=by
 obtain ⟨o0,rfl,rfl,D⟩:=I;subst E;exact run_indexAddr hs U Y Z D
def Sx (ad:Option Addr) (c l sz:Nat) (a1:Option Addr) (c1:Nat):Prop:=(if c=l then ad else ad.map (·.add (l * sz)))=a1∧c - l=c1
theorem RdSl.part {α:Type} {rd:Rd α} {sz:Nat} {ad:Option Addr} {m c:Nat} {xs:List α} (S:RdSl rd sz G (.slice ad m c) xs) (l h:Nat) (I:l≤h) (J:h≤xs.length) :
  ∃ a1 c1,Sx ad c l sz a1 c1∧m=xs.length∧m≤c∧RdSl rd sz G (.slice a1 (h - l) c1) ((xs.take h).drop l):=by
 obtain ⟨z,D,_⟩:=S.cells;obtain ⟨a1,E,e4⟩:=S.sub I J;exact ⟨a1,_,⟨E,rfl⟩,z,D,e4⟩
theorem Mem.atRow {α:Type} {rd:Rd α} {sz:Nat} (M:Mem w0 G L w) {k m c:Nat} {ad:Option Addr} {cs:List Value} {U:TypeId} {xs:List α} (D:L[k]?=some (.row (.slice ad m c) m cs U sz)) (z:0 < sz) (E:Els rd sz G cs xs)
  {j:Nat} {X:α} (J:xs[j]?=some X) :
  ∃ b ch,Ix ad m j sz b (j * sz)∧m=xs.length∧ch.length=sz∧(∀ (q:Nat) (v:Value),ch[q]?=some v→w.cell? ⟨b,j * sz+q,none⟩=some v)∧rd G ch X:=by
 obtain ⟨l,ch,rr,Y,Z,h3,h4,h5⟩:=E.get J;have hm:m=xs.length:=by
  have I:=E.length;rw [(M.row_at D).1.1] at I;exact Nat.eq_of_mul_eq_mul_right z I
 have aa:=lt_of_get J;obtain ⟨b,rfl⟩:=M.row_some D tM;refine ⟨b,ch,⟨0,rfl,(Nat.zero_add _).symm,tM⟩,hm,h3,fun q v O=>M.row_cell D ?_,h4⟩;rw [Y,List.append_assoc,List.getElem?_append_right tM,Z,Nat.add_sub_cancel_left,List.getElem?_append_left (lt_of_get O),O]
theorem Ot {b o z:Nat} {cs:List Value} {v:Value} (D:∀ (q:Nat) (v:Value),cs[q]?=some v→w.cell? ⟨b,o+q,none⟩=some v) (q:Nat) (I:z=o+q) (E:cs[q]?=some v):w.cell? ⟨b,z,none⟩=some v:=by
 subst I;exact D q v E
theorem Mem.cellA (M:Mem w0 G L w) {b o z:Nat} {cs:List Value} {v:Value} (D:At G b o cs) (q:Nat) (I:z=o+q) (E:cs[q]?=some v):w.cell? ⟨b,z,none⟩=some v:=by
 subst I;exact M.cell (D q v E)
theorem Keep.cellA (M:Keep G L w) {b o z:Nat} {cs:List Value} {v:Value} (D:At G b o cs) (q:Nat) (I:z=o+q) (E:cs[q]?=some v):w.cell? ⟨b,z,none⟩=some v:=by
 subst I;exact M.cell (D q v E)
end
theorem Els.replicate {α:Type} {rd:Rd α} {sz:Nat} {G:Ghost} {z:List Value} {x:α} (hz:z.length=sz) (hr:rd G z x):∀ n:Nat,Els rd sz G (List.replicate n z).flatten (List.replicate n x)
 | 0=>rfl
 | n+1=>⟨z,(List.replicate n z).flatten,by simp [List.replicate_succ],hz,hr,Els.replicate hz hr n⟩
theorem made_eq (z:Array Value):∀ n:Nat,(madeCells z (n * z.size)).toList=(List.replicate n z.toList).flatten:=by
 intro n
 apply List.ext_getElem?
 intro j;have D:∀ m:Nat,(List.replicate m z.toList).flatten.length=m * z.size:=by
  intro m;induction m with
  | zero=>simp
  | succ m ih=>simp [List.replicate_succ,ih,Nat.add_mul];omega
 have key:∀ (m j:Nat),(List.replicate m z.toList).flatten[j]?=if j < m * z.size then some z[j % z.size]! else none:=by
  intro m
  induction m with
  | zero=>intro j;simp
  | succ m ih =>
   intro j;rw [List.replicate_succ,List.flatten_cons]
   by_cases hj:j < z.size
   ·rw [List.getElem?_append_left (by simpa using hj),if_pos (by rw [Nat.add_mul];omega),Nat.mod_eq_of_lt hj];simp [hj]
   ·rw [List.getElem?_append_right (by simpa using Nat.le_of_not_lt hj),ih];simp only [Array.length_toList];have E:j % z.size=(j - z.size) % z.size:=Nat.mod_eq_sub_mod (Nat.le_of_not_lt hj);rw [E]
    by_cases h3:j - z.size < m * z.size
    ·rw [if_pos h3,if_pos (by rw [Nat.add_mul];omega)]
    ·rw [if_neg h3,if_neg (by rw [Nat.add_mul];omega)]
 rw [key]
 by_cases hj:j < n * z.size
 ·rw [if_pos hj];simp [madeCells,hj]
 ·rw [if_neg hj];simp [madeCells];omega
section
variable {P:Program} {ops:Array Oper} {Q:Exit→Act→World→Prop} {n:Nat} {a:Act} {w w0:World} {e:Env} {G:Ghost} {L:List Res}
 {d:Nat} {t:TypeId} {p:String} {af:Array Edge} {r:List Oper}
theorem run_make_op {ρ:Operand→Value} {Z:Option Tmp} {g:Option (Nat × Bool)} {s z:TypeId} {i:TI} {x y:Operand} {O J:IntKind} {l c:Nat} {Y U:Int} (hs:tk P s=.slice z) (ht:TOK P z i)
  (hx:ρ x=.int O Y) (E:Y=(l:Int)) (hy:ρ y=.int J U) (D:U=(c:Int)) (ab:l≤c) (hb:i.bytes * c≤281474976710656) (aa:c≤9223372036854775807) :
  (execOp ρ ⟨Z,.makeSlice s x y,t,p,af,g⟩).run P w=.ok (.value (.slice (some ⟨w.heap.size,0,none⟩) l c)) { w with heap:=w.heap.push (.cells (madeCells i.zero.cells (c * i.size)) z (0,0)) }:=by
 obtain ⟨q,h1,h2,h3,h4⟩:=ht.info;subst E D;have hr:=run_make (P:=P) w s z q i.zero (Bi hs) h1 h4 O J l c tM tM (by
  rw [h3];have I:((i.bytes * c:Nat):Int)≤((281474976710656:Nat):Int):=Int.ofNat_le.2 hb;rw [Int.natCast_mul] at I;exact I) tM
 simp only [execOp,hx,hy,Sem.run_bind,hr,Result.andThen_ok,Sem.run_pure,h2];rfl
theorem Aur {sz:Nat} {s I:TypeId} {i:TI} {x y:Operand} {kl kc:IntKind} {c:Nat} {Z Y:Int} (F:Fits n a e) (M:Mem w0 G L w) (hs:tk P s=.slice I) (ht:TOK P I i) (J:i.size=sz)
  (hx:ev e x=some (.int kl Z)) (U:Z=((0:Nat):Int)) (hy:ev e y=some (.int kc Y)) (O:Y=(c:Int)) (hb:i.bytes * c≤281474976710656) (z:c≤9223372036854775807) (hd:Nat.ble (d+1) n=true)
  (k:∀ b w' E,Mem w0 G (.row (.slice (some ⟨b,0,none⟩) 0 c) 0 [] I sz::L) w'→Fits n E ((d,.slice (some ⟨b,0,none⟩) 0 c)::e)→rl P ops Q r E w') :
  rl P ops Q (⟨some d,.makeSlice s x y,t,p,af,none⟩::r) a w:=by
 subst J;refine Aa F (run_make_op hs ht (F.ev hx) U (F.ev hy) O (Nat.zero_le _) hb z) hd fun E F'=>k _ _ E ?_ F';have hm:madeCells i.zero.cells (c * i.size)=([]++(madeCells i.zero.cells (c * i.size)).toList).toArray:=by simp
 rw [hm];have D:c≤maxLen:=z;exact M.newrow (cs:=[]) (n:=0) (by simp) (by simp) (by simp [size_madeCells]) (Nat.zero_le _) D
def RetL (w0:World) (G:Ghost) (Φ:List Res→Value→Prop):Ending→World→Prop
 | .returned v,w'=>∃ L',Mem w0 G L' w'∧Φ L' v
 | _,_=>False
theorem Jn {f:FuncId} {args:List Operand} {E:Array TypeId} {vs:List Value} {Φ:List Res→Value→Prop}
  (F:Fits n a e) (U:Ent P f) (Y:evs e args=some vs) (hd:Nat.ble (d+1) n=true) (hs:Calls P f vs.toArray w (RetL w0 G Φ))
  (k:∀ v z w' D,Mem w0 G z w'→Φ z v→Fits n D ((d,v)::e)→rl P ops Q r D w') :
  rl P ops Q (⟨some d,.call ⟨.value (.func f),args.toArray,E⟩,t,p,af,none⟩::r) a w:=by
 refine Qq (caps:=[]) F U rfl Y hd (by rw [List.append_nil];exact hs) fun x w' I=>?_;cases x with
 | returned v=>obtain ⟨z,J,O⟩:=I;exact ⟨v,rfl,fun D F'=>k v z w' D J O F'⟩
 | panicked c=>exact I.elim
 | outgrown=>exact I.elim
end
inductive PT where
 | fin
 | run (i:Nat) (r:PT)
 | act (i:Nat) (r alt:PT)
 | no
inductive PO where
 | fin
 | run (o:Oper) (r:PO)
 | act (o:Oper) (r alt:PO)
 | no
section
variable {P:Program} {ops:Array Oper} {Q:Exit→Act→World→Prop} {C:World→Prop}
def ptl (P:Program) (ops:Array Oper) (Q:Exit→Act→World→Prop):(World→Prop)→PO→Act→World→Prop
 | _,.fin,a,w=>Q .normal a w
 | _,.no,_,_=>True
 | C,.run o r,a,w=>∃ v,Gx P ops C o v a∧ptl P ops Q C r (a.put o.dst v) w
 | C,.act o r alt,a,w =>
  ((Region.wanted o (yielded ops a.tmps)=true→o.wp P a w (fun a' w'=>∃ C':World→Prop,C' w'∧(∀ w,C' w→C w)∧ptl P ops Q C' r a' w') Q) ∧
  (Region.wanted o (yielded ops a.tmps)=false→ptl P ops Q C r (a.put o.dst undef) w))∧ptl P ops Q C alt a w
def Awm:PT→List Nat
 | .act i _ alt=>i::Awm alt
 | _=>[]
def okT (ops:Array Oper):Bool→PT→Nat→Array Bool→Bool
 | top,.fin,n,listed=>top && Nat.beq n 0 && (Region.ready .any ops listed).isEmpty
 | top,.no,_,_=>!top
 | top,.run i r,n+1,listed=>top && Nat.ble (i+1) ops.size && (Region.ready .any ops listed).any (Nat.beq i) && Awq ops i listed && okT ops true r n (listed.setIfInBounds i true)
 | top,.act i r alt,n+1,listed=>(!top || (!(Region.ready .any ops listed).isEmpty && (Region.ready .any ops listed).all fun j=>(i::Awm alt).any (Nat.beq j))) && Nat.ble (i+1) ops.size && okT ops true r n (listed.setIfInBounds i true) && okT ops false alt (n+1) listed
 | _,.run _ _,0,_=>false
 | _,.act _ _ _,0,_=>false
end
section
variable {P:Program} {ops:Array Oper} {Q:Exit→Act→World→Prop} {C:World→Prop} {n:Nat} {a:Act} {w:World} {e:Env} {d:Nat} {t:TypeId} {p:String} {af:Array Edge} {r alt:PO}
theorem pt_run {op:Op} {v:Value} (F:Fits n a e) (D:∀ w,C w→(execOp a.eval ⟨some d,op,t,p,af,none⟩).run P w=.ok (.value v) w) (hd:Nat.ble (d+1) n=true)
  (k:∀ z,Fits n z ((d,v)::e)→ptl P ops Q C r z w):ptl P ops Q C (.run ⟨some d,op,t,p,af,none⟩ r) a w :=
 ⟨v,Or.inl ⟨rfl,D⟩,k _ (F.put hd)⟩
theorem Vl {op:Op} {v:Value} {j g:Nat} {z b:Bool} (F:Fits n a e) (I:(ops[j]?).bind (·.dst)=some g) (E:look e g=some (.bool b)) (hw:b=z)
  (J:∀ w,C w→(execOp a.eval ⟨some d,op,t,p,af,some (j,z)⟩).run P w=.ok (.value v) w) (hd:Nat.ble (d+1) n=true)
  (k:∀ D,Fits n D ((d,v)::e)→ptl P ops Q C r D w):ptl P ops Q C (.run ⟨some d,op,t,p,af,some (j,z)⟩ r) a w:=by
 have O:yielded ops a.tmps j=some b:=by simp [yielded,I,F.slot _ _ E]
 subst hw;exact ⟨v,Or.inl ⟨by simp [Region.wanted,O],J⟩,k _ (F.put hd)⟩
theorem R9 {op:Op} {j g:Nat} {z b:Bool} (F:Fits n a e) (J:(ops[j]?).bind (·.dst)=some g) (I:look e g=some (.bool b)) (hw:b = !z) (hd:Nat.ble (d+1) n=true)
  (k:∀ E,Fits n E ((d,undef)::e)→ptl P ops Q C r E w):ptl P ops Q C (.run ⟨some d,op,t,p,af,some (j,z)⟩ r) a w:=by
 have O:yielded ops a.tmps j=some b:=by simp [yielded,J,F.slot _ _ I]
 have D:Region.wanted ⟨some d,op,t,p,af,some (j,z)⟩ (yielded ops a.tmps)=false:=by
  subst hw;cases z <;> simp [Region.wanted,O]
 exact ⟨undef,Or.inr ⟨D,rfl⟩,k _ (F.put hd)⟩
end
inductive PK where
 | free | pure | keep | chg
section
variable {P:Program} {ops:Array Oper} {Q:Exit→Act→World→Prop} {C:World→Prop} {ch:List Nat}
def pk (P:Program) (ops:Array Oper) (Q:Exit→Act→World→Prop):(World→Prop)→List (PK × Oper)→Act→World→Prop
 | _,[],a,w=>Q .normal a w
 | C,(.free,o)::r,a,w=>∃ v,Gx P ops (fun _=>True) o v a∧pk P ops Q C r (a.put o.dst v) w
 | C,(.pure,o)::r,a,w=>∃ v,Gx P ops C o v a∧pk P ops Q C r (a.put o.dst v) w
 | C,(.keep,o)::r,a,w =>
  (Region.wanted o (yielded ops a.tmps)=true→o.wp P a w (fun a' w'=>∃ C':World→Prop,C' w'∧(∀ w,C' w→C w)∧pk P ops Q C' r a' w') Q) ∧
  (Region.wanted o (yielded ops a.tmps)=false→pk P ops Q C r (a.put o.dst undef) w)
 | C,(.chg,o)::r,a,w =>
  (Region.wanted o (yielded ops a.tmps)=true→o.wp P a w (fun a' w'=>∃ C':World→Prop,C' w'∧pk P ops Q C' r a' w') Q) ∧
  (Region.wanted o (yielded ops a.tmps)=false→pk P ops Q C r (a.put o.dst undef) w)
end
section
variable {P:Program} {ops:Array Oper} {Q:Exit→Act→World→Prop} {C:World→Prop} {n:Nat} {a:Act} {w w0:World} {e:Env} {G:Ghost} {L:List Res} {d:Nat} {t:TypeId} {p:String} {af:Array Edge} {r:List (PK × Oper)}
theorem pk_free {op:Op} {v:Value} (F:Fits n a e) (D:∀ w,True→(execOp a.eval ⟨some d,op,t,p,af,none⟩).run P w=.ok (.value v) w) (hd:Nat.ble (d+1) n=true)
  (k:∀ z,Fits n z ((d,v)::e)→pk P ops Q C r z w):pk P ops Q C ((.free,⟨some d,op,t,p,af,none⟩)::r) a w :=
 ⟨v,Or.inl ⟨rfl,D⟩,k _ (F.put hd)⟩
theorem pk_pure {op:Op} {v:Value} (F:Fits n a e) (D:∀ w,C w→(execOp a.eval ⟨some d,op,t,p,af,none⟩).run P w=.ok (.value v) w) (hd:Nat.ble (d+1) n=true)
  (k:∀ z,Fits n z ((d,v)::e)→pk P ops Q C r z w):pk P ops Q C ((.pure,⟨some d,op,t,p,af,none⟩)::r) a w :=
 ⟨v,Or.inl ⟨rfl,D⟩,k _ (F.put hd)⟩
theorem Alj {op:Op} {v:Value} {j g:Nat} {z b:Bool} (F:Fits n a e) (I:(ops[j]?).bind (·.dst)=some g) (E:look e g=some (.bool b)) (hw:b=z)
  (J:∀ w,True→(execOp a.eval ⟨some d,op,t,p,af,some (j,z)⟩).run P w=.ok (.value v) w) (hd:Nat.ble (d+1) n=true)
  (k:∀ D,Fits n D ((d,v)::e)→pk P ops Q C r D w):pk P ops Q C ((.free,⟨some d,op,t,p,af,some (j,z)⟩)::r) a w:=by
 have O:yielded ops a.tmps j=some b:=by simp [yielded,I,F.slot _ _ E]
 subst hw;exact ⟨v,Or.inl ⟨by simp [Region.wanted,O],J⟩,k _ (F.put hd)⟩
theorem Ali {op:Op} {v:Value} {j g:Nat} {z b:Bool} (F:Fits n a e) (I:(ops[j]?).bind (·.dst)=some g) (E:look e g=some (.bool b)) (hw:b=z)
  (J:∀ w,C w→(execOp a.eval ⟨some d,op,t,p,af,some (j,z)⟩).run P w=.ok (.value v) w) (hd:Nat.ble (d+1) n=true)
  (k:∀ D,Fits n D ((d,v)::e)→pk P ops Q C r D w):pk P ops Q C ((.pure,⟨some d,op,t,p,af,some (j,z)⟩)::r) a w:=by
 have O:yielded ops a.tmps j=some b:=by simp [yielded,I,F.slot _ _ E]
 subst hw;exact ⟨v,Or.inl ⟨by simp [Region.wanted,O],J⟩,k _ (F.put hd)⟩
theorem pk_skip {q:PK} {op:Op} {j g:Nat} {z b:Bool} (F:Fits n a e) (J:(ops[j]?).bind (·.dst)=some g) (I:look e g=some (.bool b)) (hw:b = !z) (hd:Nat.ble (d+1) n=true)
  (k:∀ E,Fits n E ((d,undef)::e)→pk P ops Q C r E w):pk P ops Q C ((q,⟨some d,op,t,p,af,some (j,z)⟩)::r) a w:=by
 have O:yielded ops a.tmps j=some b:=by simp [yielded,J,F.slot _ _ I]
 have D:Region.wanted ⟨some d,op,t,p,af,some (j,z)⟩ (yielded ops a.tmps)=false:=by
  subst hw;cases z <;> simp [Region.wanted,O]
 cases q with
 | free=>exact ⟨undef,Or.inr ⟨D,rfl⟩,k _ (F.put hd)⟩
 | pure=>exact ⟨undef,Or.inr ⟨D,rfl⟩,k _ (F.put hd)⟩
 | keep=>exact ⟨fun h=>(by rw [D] at h;cases h),fun _=>k _ (F.put hd)⟩
 | chg=>exact ⟨fun h=>(by rw [D] at h;cases h),fun _=>k _ (F.put hd)⟩
end
section
variable {P:Program} {ops:Array Oper} {Q:Exit→Act→World→Prop} {n:Nat} {a:Act} {w w0:World} {e:Env} {G:Ghost} {L:List Res}
 {d:Nat} {t:TypeId} {p:String} {af:Array Edge} {r:List Oper} {ρ:Operand→Value} {dd:Option Tmp} {g:Option (Nat × Bool)}
theorem Nc (n:Nat) {ty e:TypeId} {ad:Option Addr} {m c:Nat} (z:tk P ty=.slice e):(Op.equalIn (n+1) ty (.slice ad m c) (.slice none 0 0)).run P w=.ok ad.isNone w:=by
 cases ad <;> simp only [Op.equalIn,Sem.run_bind,run_under (Bi z),Result.andThen_ok,Sem.run_pure] <;> rfl
theorem Jk {ty e:TypeId} {ad:Option Addr} {m c:Nat} (z:tk P ty=.slice e):(Op.equal ty (.slice ad m c) (.slice none 0 0)).run P w=.ok ad.isNone w:=Nc 9999 z
theorem run_eqnilS {x y:Operand} {ty yt:TypeId} {e:TypeId} {ad:Option Addr} {n c:Nat} (z:tk P ty=.slice e) (D:ρ x=.slice ad n c) (E:ρ y=.slice none 0 0) :
  (execOp ρ ⟨dd,.binOp .eql ty x y yt,t,p,af,g⟩).run P w=.ok (.value (.bool ad.isNone)) w:=by
 simp [execOp,D,E,eqGuard,binOp,Jk z]
theorem run_nenilS {x y:Operand} {ty yt:TypeId} {e:TypeId} {ad:Option Addr} {n c:Nat} (z:tk P ty=.slice e) (D:ρ x=.slice ad n c) (E:ρ y=.slice none 0 0) :
  (execOp ρ ⟨dd,.binOp .neq ty x y yt,t,p,af,g⟩).run P w=.ok (.value (.bool (!ad.isNone))) w:=by
 simp [execOp,D,E,eqGuard,binOp,Jk z]
theorem Mem.row_none (M:Mem w0 G L w) {k n c:Nat} {ad:Option Addr} {cs:List Value} {t:TypeId} {sz:Nat} (U:L[k]?=some (.row (.slice ad n c) n cs t sz)) (h:ad.isNone=true) :
  ad=none∧n=0∧c=0∧cs=[]:=by
 obtain ⟨⟨E,O⟩,_⟩:=M.row_at U;rcases O with ⟨z,h0⟩ | ⟨g,I,J,D,_⟩
 ·simp only [Value.slice.injEq] at z;refine ⟨z.1,h0,z.2.2,?_⟩;rw [h0,Nat.zero_mul] at E;exact List.eq_nil_of_length_eq_zero E
 ·simp only [Value.slice.injEq] at D;rw [D.1] at h;simp at h
end
def Ajq:Nat→List (Nat × Value)→List (List Value)→Prop
 | _,[],[]=>True
 | k,p::ps,c::cs=>p.1=k∧p.2.cells=c.toArray∧Ajq (k+1) ps cs
 | _,_,_=>False
theorem foldl_off (off:Nat):∀ (c:List Value) (j:Nat) (pre mid post:List Value),mid.length=c.length→pre.length=off+j →
  (c.zipIdx j).foldl (fun (cs:Array Value) (cj:Value × Nat)=>cs.setIfInBounds (off+cj.2) cj.1) (pre++mid++post).toArray=(pre++c++post).toArray
 | [],j,pre,mid,post,h,_=>by
  have:mid=[]:=List.eq_nil_of_length_eq_zero h;subst this;rfl
 | x::c,j,pre,mid,post,h,hp=>by
  match mid,h with
  | m::mid,h =>
   simp only [List.zipIdx_cons,List.foldl_cons];have h1:(pre++m::mid++post).toArray.setIfInBounds (off+j) x=((pre++[x])++mid++post).toArray:=by
    rw [← hp];simp
   rw [h1,foldl_off off c (j+1) (pre++[x]) mid post (by simpa using h) (by simp [hp];omega)];simp
theorem Re {sz:Nat}:∀ (ps:List (Nat × Value)) (cs:List (List Value)) (k:Nat) (pre rest:List Value),Ajq k ps cs→(∀ c∈cs,c.length=sz)→pre.length=k * sz→rest.length=cs.length * sz →
  Instr.fill (fun j=>some (j * sz,sz)) (pre++rest).toArray ps=some (pre++cs.flatten).toArray
 | [],[],k,pre,rest,_,_,_,hr=>by
  have:rest=[]:=List.eq_nil_of_length_eq_zero (by simpa using hr);subst this;simp [Instr.fill]
 | p::ps,c::cs,k,pre,rest,h,hl,hp,hr=>by
  obtain ⟨i,v⟩:=p;obtain ⟨h1,h2,h3⟩:=h;simp only at h1 h2;subst h1;have hcl:c.length=sz:=hl c (by simp);have hr':rest.length=sz+cs.length * sz:=by simpa [Nat.add_mul,Nat.add_comm] using hr
  have hsplit:rest=rest.take sz++rest.drop sz:=by simp
  have hf:(c.toArray.zipIdx.foldl (fun (cs:Array Value) (cj:Value × Nat)=>cs.setIfInBounds (i * sz+cj.2) cj.1) (pre++rest).toArray)=((pre++c)++rest.drop sz).toArray:=by
   have:=foldl_off (i * sz) c 0 pre (rest.take sz) (rest.drop sz) (by rw [List.length_take];omega) tM;rw [← Array.foldl_toList,Array.toList_zipIdx];rw [← this]
   conv=>lhs;rw [hsplit]
   simp
  have hc:¬ (v.cells.size≠sz∨i * sz+v.cells.size > (pre++rest).toArray.size):=by
   rw [h2];simp only [List.size_toArray,List.length_append,hcl,hp,hr'];omega
  simp only [Instr.fill];rw [if_neg (by simpa using hc),h2];have ih:=Re ps cs (i+1) (pre++c) (rest.drop sz) h3 (fun c hc=>hl c (by simp [hc])) (by simp [hp,hcl,Nat.add_mul]) (by rw [List.length_drop];omega);rw [show (fun (cs:Array Value) (x:Value × Nat)=>match x with | (c,j)=>cs.setIfInBounds (i * sz+j) c)=(fun (cs:Array Value) (cj:Value × Nat)=>cs.setIfInBounds (i * sz+cj.2) cj.1) from rfl,hf,ih];simp
theorem Els.cons {α:Type} {rd:Rd α} {sz:Nat} {G:Ghost} {c r:List Value} {x:α} {xs:List α} (h:rd G c x) (z:c.length=sz) (D:Els rd sz G r xs):Els rd sz G (c++r) (x::xs):=⟨c,r,rfl,z,h,D⟩
theorem Aau {sz:Nat}:∀ {cs:List (List Value)},(∀ c∈cs,c.length=sz)→cs.flatten.length=cs.length * sz
 | [],_=>by simp
 | c::cs,hl=>by
  have ih:=Aau (cs:=cs) (fun c hc=>hl c (by simp [hc]));have h0:=hl c (by simp);simp only [List.flatten_cons,List.length_append,List.length_cons,ih,h0,Nat.add_mul,Nat.one_mul];omega
section
variable {P:Program} {ops:Array Oper} {Q:Exit→Act→World→Prop} {n:Nat} {a:Act} {w w0:World} {e:Env} {G:Ghost} {L:List Res}
 {d:Nat} {t:TypeId} {p:String} {af:Array Edge} {r:List Oper}
theorem Qs {s O:TypeId} {i:TI} {len:Nat} {z:List (Nat × Operand)} {ps:List (Nat × Value)} {cs:List (List Value)} {fl:List Value} (F:Fits n a e) (M:Mem w0 G L w) (hs:tk P s=.slice O) (ht:TOK P O i)
  (hp:evp e z=some ps) (D:cs.flatten=fl) (hP:Ajq 0 ps cs) (Y:∀ c∈cs,c.length=i.size) (E:cs.length=len) (Z:∀ u∈fl,u.oneCell' = true) (I:0 < i.size) (U:len * i.size≤16777216) (hd:Nat.ble (d+1) n=true)
  (k:∀ v w' J,Mem w0 G (.row v len fl O i.size::L) w'→Fits n J ((d,v)::e)→rl P ops Q r J w') :
  rl P ops Q (⟨some d,.buildSlice s len z.toArray,t,p,af,none⟩::r) a w:=by
 subst D;have D:cs.flatten.length=len * i.size:=by
  rw [← E];exact Aau Y
 refine Aa F (run_buildSlice (cs:=cs.flatten) hs ht U ?_) hd fun J F'=>k _ _ J ?_ F'
 ·rw [F.evp hp];have:=Re (sz:=i.size) ps cs 0 [] ((Array.range (len * i.size)).map (i.zero.cells[· % i.zero.cells.size]!)).toList hP Y (by simp) (by simp [E]);rw [List.nil_append] at this;rw [show (Array.range (len * i.size)).map (i.zero.cells[· % i.zero.cells.size]!)=((Array.range (len * i.size)).map (i.zero.cells[· % i.zero.cells.size]!)).toList.toArray from rfl];simpa only [List.nil_append] using this
 ·have:=M.newrow (t:=O) (sz:=i.size) (cs:=cs.flatten) (spare:=[]) (n:=len) (c:=len) Z D (by simpa using D) (Nat.le_refl _) ?_
  ·rw [List.append_nil] at this;exact this
  ·simp only [maxLen];have:len * 1≤len * i.size:=Nat.mul_le_mul_left _ I;omega
variable {ρ:Operand→Value} {dd:Option Tmp} {g:Option (Nat × Bool)}
theorem run_shri {x y:Operand} {ty yt:TypeId} {k O:IntKind} {a b:Int} {m:Nat} (I:ρ x=.int k a) (J:ρ y=.int O b) (D:b=(m:Int)) (E:m≤k.bits) :
  (execOp ρ ⟨dd,.binOp .shr ty x y yt,t,p,af,g⟩).run P w=.ok (.value (.int k (a / 2 ^ m))) w:=by
 subst D;have h0:¬ ((m:Int) < 0):=tM;have z:(0:Int)≤2 ^ m:=Int.pow_nonneg tD;simp [execOp,I,J,eqGuard,binOp,Op.shift,h0,Nat.min_eq_left E,Int.fdiv_eq_ediv_of_nonneg _ z]
end
def str (l:List UInt8):ByteArray:=⟨l.toArray⟩
theorem str_size (l:List UInt8):(str l).size=l.length:=by simp [str,ByteArray.size]
theorem str_toList (l:List UInt8):(str l).toList=l:=by rw [Lib.toList_data];simp [str]
theorem Ark (l:List UInt8):(str l).data.toList=l:=by simp [str]
theorem Acb (l l':List UInt8):str l++str l' = str (l++l'):=by
 apply ByteArray.ext
 rw [ByteArray.data_append];simp [str]
theorem str_extract (l:List UInt8) (a b:Nat):(str l).extract a b=str ((l.take b).drop a):=by
 rw [Lib.extract_eq,Ark,str,List.drop_take]
theorem Afj (l:List UInt8) (i:Nat):(str l)[i]?=l[i]?:=by
 by_cases hi:i < l.length
 ·have h':i < (str l).size:=by rw [str_size];exact hi
  rw [getElem?_pos (str l) i h',List.getElem?_eq_getElem hi];rfl
 ·have h':¬ i < (str l).size:=by rw [str_size];exact hi
  rw [getElem?_neg (str l) i h',List.getElem?_eq_none tM]
theorem bd (l l':List UInt8):(l==l')=decide (l=l'):=by
 by_cases h:l=l'
 ·subst h;simp
 ·simp [h]
def rdStr:Rd (List UInt8):=fun _ cs x=>cs=[.string (str x)]∧x.length≤9223372036854775807
abbrev nb (b:UInt8):Int:=(b.toNat:Int)
theorem nb_hi (b:UInt8):nb b≤255:=by
 have:=b.toNat_lt;simp only [nb];omega
section
variable {P:Program} {w:World} {ρ:Operand→Value} {dd:Option Tmp} {t:TypeId} {p:String} {af:Array Edge} {g:Option (Nat × Bool)}
theorem Ct {ty:TypeId} {x:Operand} {l:List UInt8} (z:tk P ty=.str) (D:ρ x=.string (str l)) :
  (execOp ρ ⟨dd,.call ⟨.builtin .len,#[x],#[ty]⟩,t,p,af,g⟩).run P w=.ok (.value (.int .i64 (l.length:Nat))) w:=by
 simp [execOp,resolve,invoke,builtin,Builtin.len_,D,run_under (Gb z),goInt,str_size]
theorem run_strIndex {ty:TypeId} {x y:Operand} {l:List UInt8} {k:IntKind} {i:Nat} {b:UInt8} (D:tk P ty=.str) (E:ρ x=.string (str l)) (I:ρ y=.int k (i:Int)) (z:l[i]?=some b) :
  (execOp ρ ⟨dd,.index ty x y,t,p,af,g⟩).run P w=.ok (.value (.int .u8 (nb b))) w:=by
 have h0:(0:Int)≤(i:Int):=tM;simp [execOp,Instr.index,E,I,asIntOf,run_under (Gb D),Afj,z]
theorem run_strAdd {x y:Operand} {ty yt:TypeId} {l l':List UInt8} (z:ρ x=.string (str l)) (D:ρ y=.string (str l')) (h:l.length+l'.length≤9223372036854775807) :
  (execOp ρ ⟨dd,.binOp .add ty x y yt,t,p,af,g⟩).run P w=.ok (.value (.string (str (l++l')))) w:=by
 have h':((l.length:Int)+(l'.length:Int))≤9223372036854775807:=tM;simp [execOp,z,D,eqGuard,binOp,Op.stringOp,str_size,Acb,h']
theorem run_strEq {x y:Operand} {ty yt:TypeId} {l l':List UInt8} (z:ρ x=.string (str l)) (D:ρ y=.string (str l')) :
  (execOp ρ ⟨dd,.binOp .eql ty x y yt,t,p,af,g⟩).run P w=.ok (.value (.bool (decide (l=l')))) w:=by
 simp [execOp,z,D,eqGuard,binOp,Op.stringOp,str_toList];exact bd _ _
theorem run_strNe {x y:Operand} {ty yt:TypeId} {l l':List UInt8} (z:ρ x=.string (str l)) (D:ρ y=.string (str l')) :
  (execOp ρ ⟨dd,.binOp .neq ty x y yt,t,p,af,g⟩).run P w=.ok (.value (.bool (!decide (l=l')))) w:=by
 simp [execOp,z,D,eqGuard,binOp,Op.stringOp,str_toList];exact bd _ _
theorem run_strLss {x y:Operand} {ty yt:TypeId} {l l':List UInt8} (z:ρ x=.string (str l)) (D:ρ y=.string (str l')) :
  (execOp ρ ⟨dd,.binOp .lss ty x y yt,t,p,af,g⟩).run P w=.ok (.value (.bool (Op.bytesLess l l'))) w:=by
 simp [execOp,z,D,eqGuard,binOp,Op.stringOp,str_toList]
theorem run_strGeq {x y:Operand} {ty yt:TypeId} {l l':List UInt8} (z:ρ x=.string (str l)) (D:ρ y=.string (str l')) :
  (execOp ρ ⟨dd,.binOp .geq ty x y yt,t,p,af,g⟩).run P w=.ok (.value (.bool (!Op.bytesLess l l'))) w:=by
 simp [execOp,z,D,eqGuard,binOp,Op.stringOp,str_toList]
theorem run_strLeq {x y:Operand} {ty yt:TypeId} {l l':List UInt8} (z:ρ x=.string (str l)) (D:ρ y=.string (str l')) :
  (execOp ρ ⟨dd,.binOp .leq ty x y yt,t,p,af,g⟩).run P w=.ok (.value (.bool (Op.bytesLess l l' || l==l'))) w:=by
 simp [execOp,z,D,eqGuard,binOp,Op.stringOp,str_toList]
theorem run_strGtr {x y:Operand} {ty yt:TypeId} {l l':List UInt8} (z:ρ x=.string (str l)) (D:ρ y=.string (str l')) :
  (execOp ρ ⟨dd,.binOp .gtr ty x y yt,t,p,af,g⟩).run P w=.ok (.value (.bool (!(Op.bytesLess l l' || l==l')))) w:=by
 simp [execOp,z,D,eqGuard,binOp,Op.stringOp,str_toList]
end
def bc (l:List UInt8):List Value:=l.map fun b=>.int .u8 (nb b)
theorem bc_len (l:List UInt8):(bc l).length=l.length:=by simp [bc]
theorem Aps (l l':List UInt8):bc (l++l')=bc l++bc l':=by simp [bc]
theorem bc_str (l:List UInt8):Lib.strCells (str l)=bc l:=by simp [Lib.strCells,bc,str,nb]
theorem bc_one (l:List UInt8):∀ u∈bc l,u.oneCell' = true:=by
 intro u z;simp only [bc,List.mem_map] at z;obtain ⟨b,_,rfl⟩:=z;rfl
def rdB:Rd UInt8:=fun _ cs x=>cs=[.int .u8 (nb x)]
section
variable {P:Program} {w0 w:World} {G:Ghost} {L:List Res}
theorem Vq {w:World} {B:Nat} {e:TypeId} {sz:Nat} {v:Value} {n:Nat} {xs:List Value} (h:w.ownsRow B e sz v n xs):w.ownsRow 0 e sz v n xs:=by
 obtain ⟨I,E⟩:=h;rcases E with E | ⟨g,z,D,J,_,O⟩
 ·exact ⟨I,Or.inl E⟩
 ·exact ⟨I,Or.inr ⟨g,z,D,J,Nat.zero_le _,O⟩⟩
theorem Mem.appendStr (M:Mem w0 G L w) {k n:Nat} {v:Value} {cs:List Value} {t u ty e:TypeId} {i:TI} {l:List UInt8} (hk:L[k]?=some (.row v n cs e 1)) (ht:tk P t=.slice e) (hu:tk P u=.str) (hi:TOK P e i) (hz:i.zero=.int .u8 0) (hs:i.size=1) (af:i.bytes=1)
  (an:n+l.length≤140737488355328) :
  ∃ z w',(Builtin.append_ #[t,u] ty #[v,.string (str l)]).run P w=.ok z w'∧Mem w0 G (L.set k (.row z (n+l.length) (cs++bc l) e 1)) w'∧(z = .slice none 0 0↔v=.slice none 0 0∧l=[]):=by
 obtain ⟨x,aa,ab,ah,ac⟩:=hi.info;obtain ⟨D,h2⟩:=M.row_at hk;have Y:=Bi ht;have Z:=Gb hu;rw [hz] at ac;have U:=str_size l;have ae:n+(str l).size≤maxLen:=by rw [U];simp only [maxLen];omega
 have aj:n+(str l).size≤140737488355328:=by rw [U];exact an
 have key:∀ z w',(Builtin.append_ #[t,u] ty #[v,.string (str l)]).run P w=.ok z w'→w'.ownsRow 0 e 1 z (n+(str l).size) (cs++Lib.strCells (str l))→w.grownBy w' v.ownBlock→(∀ b,z.ownBlock=some b→v.ownBlock=some b∨w.heap.size≤b)→(z = .slice none 0 0↔v=.slice none 0 0∧(str l).size=0) →
   ∃ z w',(Builtin.append_ #[t,u] ty #[v,.string (str l)]).run P w=.ok z w'∧Mem w0 G (L.set k (.row z (n+l.length) (cs++bc l) e 1)) w'∧(z = .slice none 0 0↔v=.slice none 0 0∧l=[]):=by
  intro z w' E ho O hf hn;rw [U,bc_str] at ho;refine ⟨z,w',E,M.grow_at hk hf ⟨ho,fun u hu=>?_⟩ O.os O.tape O.output O.size (fun b I aq=>O.block b I (fun e=>aq e.symm)),?_⟩
  ·rcases List.mem_append.1 hu with hu | hu
   ·exact h2 u hu
   ·exact bc_one l u hu
  ·rw [hn,U];constructor
   ·rintro ⟨h1,h2⟩;exact ⟨h1,List.eq_nil_of_length_eq_zero h2⟩
   ·rintro ⟨h1,h2⟩;exact ⟨h1,by rw [h2];rfl⟩
 rcases D.2 with ⟨hv,ap⟩ | ⟨g,J,ai,hv,ax,ao,az,ay,am,ar⟩
 ·obtain ⟨z,w',E,ho,O,hn⟩:=Lib.run_append_own_string (P:=P) w w.heap.size t u ty e x Y Z aa ac (by rw [ab,hs]) (by rw [ah,af]) v n cs ⟨D.1,Or.inl ⟨hv,ap⟩⟩ (str l) ae aj (Nat.le_refl _);refine key z w' E (Vq ho) O (fun b I=>?_) hn;rcases ho.2 with ⟨ag,_⟩ | ⟨g',au,av,ag,ak,_⟩
  ·rw [ag] at I;simp [Value.ownBlock] at I
  ·rw [ag] at I;simp only [Value.ownBlock,Option.some.injEq] at I;subst I;exact Or.inr ak
 ·obtain ⟨z,w',E,ho,O,hn⟩:=Lib.run_append_own_string (P:=P) w 0 t u ty e x Y Z aa ac (by rw [ab,hs]) (by rw [ah,af]) v n cs D (str l) ae aj (Nat.zero_le _);refine key z w' E ho O (fun b I=>?_) hn;subst hv;have aw:J * 1=ai.size:=by first | exact am | exact am.symm
  by_cases hroom:n+(str l).size≤J
  ·have:=Lib.run_append_room_string (P:=P) w t u ty e x Y Z aa (by rw [ab,hs]) g n J ai ao (str l) hroom tM;rw [this] at E;simp only [Result.ok.injEq] at E;obtain ⟨rfl,_⟩:=E;exact Or.inl I
  ·have holds:=D.cells (g:=g) rfl;have:=Lib.run_append_grow_string (P:=P) w t u ty e x _ Y Z aa ac ⟨g,0,none⟩ n J cs (by rw [ab,hs];exact D.1) holds (str l) tM (by simp only [maxLen] at ae;omega)
    (by rw [ah,af];exact growslice_fits tM tM)
   rw [this] at E;simp only [Result.ok.injEq] at E;obtain ⟨rfl,_⟩:=E;simp only [Value.ownBlock,Option.some.injEq] at I
   right;omega
theorem Mem.freezeRow (M:Mem w0 G L w) {k n c g:Nat} {cs:List Value} {e:TypeId} (O:L[k]?=some (.row (.slice (some ⟨g,0,none⟩) n c) n cs e 1)) (m:Nat):Mem w0 G (L.eraseIdx k) (w.freeze ⟨g,0,none⟩ m):=by
 have J:=M.perm (perm_front L k _ O)
 by_cases hm:m=0
 ·subst hm;have:w.freeze ⟨g,0,none⟩ 0=w:=by simp [World.freeze]
  rw [this];exact J.weaken (List.sublist_cons_self _ _)
 ·have U:∀ b,b≠g→(w.freeze ⟨g,0,none⟩ m).heap[b]?=w.heap[b]?:=fun b D=>by
   simp only [World.freeze,hm,if_false,Array.getElem?_modify];rw [if_neg (fun e=>D e.symm)]
  have E:∃ o,(w.freeze ⟨g,0,none⟩ m).heap[g]?=some o:=by
   obtain ⟨z,_⟩:=M.row_at O;have I:g < w.heap.size:=(z.lt g rfl).2;have:g < (w.freeze ⟨g,0,none⟩ m).heap.size:=by simpa [World.freeze,hm] using I
   exact ⟨_,Array.getElem?_eq_getElem this⟩
  obtain ⟨o,Y⟩:=E;have:=J.swap_head (y:=.obj g o) (w':=w.freeze ⟨g,0,none⟩ m) rfl Y (by simp [World.freeze,hm]) (by simp [World.freeze,hm]) (by simp [World.freeze,hm]) (by simp [World.freeze,hm]) (fun b D=>U b (fun e=>D (by simp [Res.foot,Value.ownBlock,e])));exact this.weaken (List.sublist_cons_self _ _)
end
section
variable {P:Program} {ops:Array Oper} {Q:Exit→Act→World→Prop} {n:Nat} {a:Act} {w w0:World} {e:Env} {G:Ghost} {L:List Res}
 {d:Nat} {t:TypeId} {p:String} {af:Array Edge} {r:List Oper}
theorem Qo {ρ:Operand→Value} {E:Option Tmp} {g:Option (Nat × Bool)} {s u:TypeId} {x y:Operand} {v z D:Value} {w':World} (I:ρ x=v) (J:ρ y=z)
  (h:(Builtin.append_ #[s,u] t #[v,z]).run P w=.ok D w'):(execOp ρ ⟨E,.call ⟨.builtin .append,#[x,y],#[s,u]⟩,t,p,af,g⟩).run P w=.ok (.value D) w':=by
 simp [execOp,resolve,invoke,builtin,I,J,h]
theorem U9 {s u I:TypeId} {i:TI} {x y:Operand} {v:Value} {k m:Nat} {cs:List Value} {l:List UInt8}
  (F:Fits n a e) (M:Mem w0 G L w) (Y:L[k]?=some (.row v m cs I 1)) (hs:tk P s=.slice I) (hu:tk P u=.str) (ht:TOK P I i) (hz:i.zero=.int .u8 0) (O:i.size=1) (U:i.bytes=1)
  (hx:ev e x=some v) (hy:ev e y=some (.string (str l))) (z:m+l.length≤140737488355328) (hd:Nat.ble (d+1) n=true)
  (kk:∀ D w' E,Mem w0 G (L.set k (.row D (m+l.length) (cs++bc l) I 1)) w'→(D = .slice none 0 0↔v=.slice none 0 0∧l=[])→Fits n E ((d,D)::e)→rl P ops Q r E w') :
  rl P ops Q (⟨some d,.call ⟨.builtin .append,#[x,y],#[s,u]⟩,t,p,af,none⟩::r) a w:=by
 obtain ⟨D,w',hr,J,Z⟩:=M.appendStr (P:=P) (ty:=t) (t:=s) (u:=u) Y hs hu ht hz O U z;exact Aa F (Qo (F.ev hx) (F.ev hy) hr) hd fun E F'=>kk D w' E J Z F'
theorem R6 {ρ:Operand→Value} {z:Option Tmp} {g:Option (Nat × Bool)} {s:TypeId} {x:Operand} {ad:Addr} {m c:Nat} (E:ρ x=.slice (some ad) m c) (D:c≠0) :
  (execOp ρ ⟨z,.call ⟨.builtin .unsafeSliceData,#[x],#[s]⟩,t,p,af,g⟩).run P w=.ok (.value (.pointer (some ad))) w:=by
 simp [execOp,resolve,invoke,builtin,E,Lib.run_unsafeSliceData_row w #[s] t ad m c D]
theorem Ql {ρ:Operand→Value} {z:Option Tmp} {g:Option (Nat × Bool)} {s:TypeId} {x:Operand} {m c:Nat} (D:ρ x=.slice none m c) :
  (execOp ρ ⟨z,.call ⟨.builtin .unsafeSliceData,#[x],#[s]⟩,t,p,af,g⟩).run P w=.ok (.value (.pointer none)) w:=by
 simp [execOp,resolve,invoke,builtin,D,Lib.run_unsafeSliceData_nil w #[s] t m c]
theorem Qk {ρ:Operand→Value} {z:Option Tmp} {g:Option (Nat × Bool)} {s u:TypeId} {x y:Operand} (D:ρ x=.pointer none) (E:ρ y=.int .i64 0) :
  (execOp ρ ⟨z,.call ⟨.builtin .unsafeString,#[x,y],#[s,u]⟩,t,p,af,g⟩).run P w=.ok (.value (.string (str []))) w:=by
 simp [execOp,resolve,invoke,builtin,D,E,Lib.run_unsafeString_none w s u t none];rfl
theorem U7 {s u E:TypeId} {i:TI} {x y:Operand} {k c g:Nat} {l:List UInt8} (F:Fits n a e) (M:Mem w0 G L w) (hk:L[k]?=some (.row (.slice (some ⟨g,0,none⟩) l.length c) l.length (bc l) E 1))
  (hp:tk P s=.ptr E) (ht:TOK P E i) (h1:i.size=1) (h0:l≠[]) (hx:ev e x=some (.pointer (some ⟨g,0,none⟩))) (hy:ev e y=some (.int .i64 (l.length:Nat))) (hd:Nat.ble (d+1) n=true)
  (kk:∀ w' J,Mem w0 G (L.eraseIdx k) w'→Fits n J ((d,.string (str l))::e)→rl P ops Q r J w') :
  rl P ops Q (⟨some d,.call ⟨.builtin .unsafeString,#[x,y],#[s,u]⟩,t,p,af,none⟩::r) a w:=by
 obtain ⟨D,h2⟩:=M.row_at hk;have hc:P.cellsOf E=1:=by
  obtain ⟨z,ae,ag,_⟩:=ht.info;simp [Program.cellsOf,ae,ag,h1]
 rcases D.2 with ⟨O,ak⟩ | ⟨g',ah,I,O,ai,Y,am,U,aj,aa⟩
 ·cases O
 ·simp only [Value.slice.injEq,Option.some.injEq,Addr.mk.injEq,true_and,and_true] at O;obtain ⟨rfl,rfl⟩:=O;have Z:w.shape? g=some (E,I.size):=by simp [World.shape?,Y]
  have holds:=D.cells (g:=g) rfl;have hr:=Lib.run_unsafeString_row (P:=P) w s u t E (Gc hp) hc g I.size Z l h0 tM (by simp only [maxLen] at U;omega) (fun j x hx=>holds j _ (by rw [bc,List.getElem?_map,hx];rfl));refine Aa F (w':=w.freeze ⟨g,0,none⟩ l.length) ?_ hd fun J F'=>kk _ J (M.freezeRow hk _) F';have ab:=F.ev hx;have ac:=F.ev hy;simp only [execOp,resolve,Sem.run_bind,Sem.run_pure,Result.andThen_ok,invoke,builtin];simp [ab,ac,hr];rfl
theorem Qm {ρ:Operand→Value} {E:Option Tmp} {g:Option (Nat × Bool)} {ty yt D:TypeId} {i:TI} {x y:Operand} {ad:Addr} (I:tk P ty=.ptr D) (J:TOK P D i) (O:ρ x=.pointer (some ad)) (U:ρ y=.pointer (some ad)) :
  (execOp ρ ⟨E,.binOp .neq ty x y yt,t,p,af,g⟩).run P w=.ok (.value (.bool false)) w:=by
 obtain ⟨z,Y,_⟩:=J.info;have:=Lib.run_neq_ptr_same (P:=P) w ad (Gc I) Y;simp [execOp,O,U,eqGuard,this]
theorem U4 {ρ:Operand→Value} {O:Option Tmp} {g:Option (Nat × Bool)} {src dst J D:TypeId} {i:TI} {x:Operand} {b k o:Nat} {cs:List Value} (M:Mem w0 G L w) (Y:L[k]?=some (.blk b cs D)) (Z:o < cs.length)
  (hs:tk P src=.ptr J) (hd:P.underlying dst=some .unsafePointer) (ht:TOK P J i) (h0:i.size≠0) (hx:ρ x=.pointer (some ⟨b,o,none⟩)) :
  (execOp ρ ⟨O,.convert src dst x,t,p,af,g⟩).run P w=.ok (.value (.pointer (some ⟨b,o,none⟩))) w:=by
 obtain ⟨z,hz,I,_⟩:=ht.info;have U:w.heap[b]?=some (.cells cs.toArray D (0,0)):=M.own _ (List.mem_of_getElem? Y);have E:w.shape? b=some (D,cs.length):=by simp [World.shape?,U]
 have:=Lib.run_to_unsafe (P:=P) w ⟨b,o,none⟩ (Gc hs) hd hz (by rw [I];exact h0) E Z;simp [execOp,hx,this]
theorem Qn {ρ:Operand→Value} {J:Option Tmp} {g:Option (Nat × Bool)} {src dst I D:TypeId} {i:TI} {x:Operand} {b k o:Nat} {cs:List Value} (M:Mem w0 G L w) (U:L[k]?=some (.blk b cs D))
  (hs:P.underlying src=some .unsafePointer) (hd:tk P dst=.ptr I) (Z:TOK P I i) (Y:liesAt P P.depth D (cs.length / P.cellsOf D) o I 1=true) (hx:ρ x=.pointer (some ⟨b,o,none⟩)) :
  (execOp ρ ⟨J,.convert src dst x,t,p,af,g⟩).run P w=.ok (.value (.pointer (some ⟨b,o,none⟩))) w:=by
 obtain ⟨z,hz,_⟩:=Z.info;have O:w.heap[b]?=some (.cells cs.toArray D (0,0)):=M.own _ (List.mem_of_getElem? U);have E:w.shape? b=some (D,cs.length):=by simp [World.shape?,O]
 have:=Lib.run_from_unsafe (P:=P) w ⟨b,o,none⟩ hs (Gc hd) hz E Y;simp [execOp,hx,this]
theorem run_noEscape {ρ:Operand→Value} {J:Option Tmp} {g:Option (Nat × Bool)} {f:FuncId} {fn:Func} {x:Operand} {D:Array TypeId} {v:Value} (Y:P.funcs[f]?=some fn) (z:(fn.name== "runtime.NumGoroutine")=false)
  (O:fn.body.isNone=true) (Z:Extern.findNext fn=none) (U:Extern.find fn=some Extern.AbiNoEscape.same) (hx:ρ x=v) (E:ρ (.func f)=.func (.func f) #[] #[]) :
  (execOp ρ ⟨J,.call ⟨.value (.func f),#[x],D⟩,t,p,af,g⟩).run P w=.ok (.value v) w:=by
 have I:=run_callFunc_extern (P:=P) Y z O Z U #[v] w;rw [Lib.run_noEscape] at I;simp only [execOp,resolve,E,Deferred.ofValue,Sem.run_bind,Sem.run_pure,Result.andThen_ok,invoke];simp [hx,I]
end
open Go Go.RowKit Go.Sort
section
variable {P:Program} {w0 w:World} {G:Ghost} {L:List Res}
theorem Mem.below' (M:Mem w0 G L w) {w':World} (h:Below w.heap.size w w'):Mem w0 G L w':=M.same h.os h.tape h.output h.size h.block
theorem Mem.drewN (M:Mem w0 G L w) (n:Nat):Mem w0 G L (w.drewN n):=M.same rfl rfl rfl (Nat.le_refl _) (fun _ _=>rfl)
end
section
variable {P:Program} {w0 w:World} {G:Ghost} {L:List Res} {ρ:Operand→Value} {dd:Option Tmp} {t:TypeId} {p:String} {af:Array Edge} {g:Option (Nat × Bool)}
theorem Avn (l:List UInt8):strOfNums (l.map fun b=>(b.toNat:Int))=str l:=by
 unfold strOfNums str;rw [List.map_map];congr 2
 conv=>rhs;rw [← List.map_id l]
 apply List.map_congr_left
 intro b _;simp
theorem conv_bytes {src dst e:TypeId} {b o n c:Nat} {l:List UInt8} (hs:tk P src=.slice e) (D:tk P e=.int .u8) (hd:tk P dst=.str) (I:l.length=n)
  (z:∀ j,j < n→w.cell? ⟨b,o+j,none⟩=(bc l)[j]?):(convert src dst (.slice (some ⟨b,o,none⟩) n c)).run P w=.ok (.string (str l)) w:=by
 have:=run_convert_bytes_arg (P:=P) w src e (Bi hs) (J6 D) b o n c (l.map fun b=>(b.toNat:Int)) (by simpa using I) (fun j E=>by
  rw [z j E,bc,List.getElem?_map,List.getElem?_eq_getElem tM,List.getD_eq_getElem?_getD,List.getElem?_map,List.getElem?_eq_getElem tM];rfl) dst (Gb hd)
 rw [this,Avn]
theorem Md {src dst e Z:TypeId} {x:Operand} {k n c:Nat} {ad:Option Addr} {l:List UInt8} (M:Mem w0 G L w) (hk:L[k]?=some (.row (.slice ad n c) n (bc l) Z 1)) (hn:n=l.length) (hs:tk P src=.slice e) (J:tk P e=.int .u8) (hd:tk P dst=.str)
  (O:ρ x=.slice ad n c):(execOp ρ ⟨dd,.convert src dst x,t,p,af,g⟩).run P w=.ok (.value (.string (str l))) w:=by
 obtain ⟨z,_⟩:=M.row_at hk;rcases z.2 with ⟨E,h0⟩ | ⟨g',U,Y,E,aa,ae,ag,ab,ac,I⟩
 ·simp only [Value.slice.injEq] at E;obtain ⟨rfl,_,_⟩:=E;have:l=[]:=List.eq_nil_of_length_eq_zero tM;subst this;have:=run_convert_bytes_nil (P:=P) w src e (Bi hs) (J6 J) n c dst (Gb hd);simp [execOp,O,this];rfl
 ·simp only [Value.slice.injEq] at E;obtain ⟨rfl,_,rfl⟩:=E;have holds:=z.cells (g:=g') rfl;have:=conv_bytes (P:=P) (w:=w) (b:=g') (o:=0) (n:=n) (c:=c) (l:=l) hs J hd hn.symm (fun j hj=>by
   have D:j < (bc l).length:=by rw [bc_len];omega
   rw [List.getElem?_eq_getElem D];have:=holds j _ (List.getElem?_eq_getElem D)
   rwa [add_plain] at this)
  simp [execOp,O,this]
end
structure Globs (gt gm gs gr:Nat) (G:Ghost):Prop where
 tab:∃ t f,G gt=some (.cells (Lib.pow10Tab.map fun z=>Value.int .u64 z).toArray t f)
 max:∃ m,Gs G gm 0=some (.int .i64 m)
 syn:∃ ev,Gs G gs 0=some ev∧(ev=.nilIface∨∃ te pe,ev=.iface te pe)
 rng:∃ ev,Gs G gr 0=some ev∧(ev=.nilIface∨∃ te pe,ev=.iface te pe)
theorem Globs.mono {gt gm E D:Nat} {G G':Ghost} (h:Globs gt gm E D G) (z:Gle G G'):Globs gt gm E D G':=by
 obtain ⟨⟨t,f,O⟩,⟨m,U⟩,⟨I,Y,Z⟩,⟨J,h5,h6⟩⟩:=h;exact ⟨⟨t,f,z _ _ O⟩,⟨m,Ip z U⟩,⟨I,Ip z Y,Z⟩,⟨J,Ip z h5,h6⟩⟩
section
variable {P:Program} {w0 w:World} {G:Ghost} {L:List Res}
end
section
variable {P:Program} {ops:Array Oper} {Q:Exit→Act→World→Prop} {n:Nat} {a:Act} {w w0:World} {e:Env} {G:Ghost} {L:List Res}
 {d:Nat} {t:TypeId} {p:String} {af:Array Edge} {r:List Oper}
variable {ρ:Operand→Value} {dd:Option Tmp} {g:Option (Nat × Bool)}
theorem R7 {fn:Fn} {x:Operand} {v:Value} (z:ρ x=v):(execOp ρ ⟨dd,.makeFunc fn #[x] #[],t,p,af,g⟩).run P w=.ok (.value (.func fn #[v] #[])) w:=by
 simp [execOp,Instr.makeFunc,z]
theorem run_part1 {z:TypeId} {cs:Array Value} {o:Nat} {v:Value} (h:(tk P z).agg=some false) (D:cs[o]?=some v):(part z cs o).run P w=.ok v w:=by
 simp [part,Oi h,D]
theorem Gk {E D:TypeId} {i:TI} {x y:Operand} {m b o:Nat} {k:IntKind} {z:Int} {j:Nat} (J:tk P E=.array m D) (U:TOK P D i) (I:i.size=1) (Y:ρ x=.pointer (some ⟨b,o,none⟩)) (Z:ρ y=.int k z) (hz:z=(j:Int)) (O:j < m) :
  (execOp ρ ⟨dd,.indexAddr E x y,t,p,af,g⟩).run P w=.ok (.value (.pointer (some ⟨b,o+j,none⟩))) w:=by
 subst hz;have c1:(0:Int)≤(j:Int):=tM;have c2:(j:Int) < (m:Int):=tM;simp [execOp,Instr.indexAt,Y,Z,asIntOf,run_under (under_array J),O,U.sizeOf,I,add_plain,Instr.sureAddr]
theorem RdSl.clip {α:Type} {rd:Rd α} {sz:Nat} {ad:Option Addr} {n c:Nat} {xs:List α} (S:RdSl rd sz G (.slice ad n c) xs):RdSl rd sz G (.slice ad n n) xs:=by
 obtain ⟨J,c',z,O,U,D⟩:=S;simp only [Value.slice.injEq] at z;obtain ⟨rfl,rfl,rfl⟩:=z;refine ⟨_,_,rfl,Nat.le_refl _,tM,?_⟩;rcases D with ⟨rfl,rfl⟩ | ⟨b,o,E,I⟩
 ·exact Or.inl ⟨rfl,rfl⟩
 ·exact Or.inr ⟨b,o,E,I⟩
theorem Acl {z:Array Oper} {Q:Exit→Act→World→Prop} {n:Nat} {a:Act} {e:Env} {d:Nat} {r:List Oper} {op:Op} {j q:Nat} {D:Bool} (F:Fits n a e) (J:(z[j]?).bind (·.dst)=some q) (I:look e q=some undef) (hd:Nat.ble (d+1) n=true)
  (k:∀ E,Fits n E ((d,undef)::e)→rl P z Q r E w):rl P z Q (⟨some d,op,t,p,af,some (j,D)⟩::r) a w:=by
 have O:yielded z a.tmps j=none:=by
  simp [yielded,J,F.slot _ _ I,undef]
 refine ⟨fun h=>?_,fun h=>k _ (F.put hd)⟩;simp [Region.wanted,O] at h
end
open Go Go.RowKit Go.WideShapes Go.ChangeShapes
def G0 (w:World):Ghost:=fun r=>w.heap[r]?
theorem Mem.below {w0 w:World} {L:List Res} (M:Mem w0 (G0 w0) L w):Below w0.heap.size w0 w :=
 ⟨M.os,M.tape,M.output,M.grow,fun k z=>by
  have h:G0 w0 k=some w0.heap[k]:=Array.getElem?_eq_getElem z;rw [M.pers k _ h];exact h.symm⟩
theorem gcell_G0 {w:World} {b o:Nat}:Gs (G0 w) b o=w.cell? ⟨b,o,none⟩:=by
 simp only [Gs,G0,World.cell?];cases w.heap[b]? with
 | none=>rfl
 | some x=>cases x <;> simp
section
variable {H:Type} {enc:TypeId × Value→H} {P:Program} {w:World} {sp:Nat→Bool} {hd:Bool}
theorem Zf {t:TypeId} {Z:List (Nat × Nat × Nat)} {z:Nat} {cs:List Value} {x:DataW H × List MemPlace} (ht:tk P t=.struct Z) (h:DataW.trod enc P w 0 sp hd z t cs=some x) :
  ∃ n,cs.length=P.cellsOf t∧∀ (i o c ty:Nat),Z[i]?=some (o,c,ty)→∃ y,DataW.trod enc P w 0 sp hd n ty ((cs.drop o).take c)=some y:=by
 obtain ⟨Y,hu,E⟩:=Ga ht;obtain ⟨xs,n,_,_,hl,U,hf⟩:=DataW.trod_struct hu h;refine ⟨n,hl,fun i o c ty J=>?_⟩;rw [← E] at J;simp only [List.getElem?_map,Option.map_eq_some_iff] at J;obtain ⟨f,I,he⟩:=J;simp only [Prod.mk.injEq] at he;obtain ⟨rfl,rfl,rfl⟩:=he;have D:Y[i]?=some f:=by simpa using I
 have O:i < xs.length:=by
  rw [U];rcases Nat.lt_or_ge i Y.size with h' | h'
  ·exact h'
  ·simp [Array.getElem?_eq_none h'] at D
 exact ⟨xs[i],by rw [hf i f D];exact List.getElem?_eq_getElem O⟩
theorem Pz {t:TypeId} {k:IntKind} {z:Nat} {cs:List Value} {x:DataW H × List MemPlace} (I:tk P t=.int k) (h:DataW.trod enc P w 0 sp hd z t cs=some x):∃ n,cs=[.int k n]∧inKind k n:=by
 obtain ⟨n,E,_,D⟩:=DataW.trod_int (J6 I) h;simp only [Lit.wf,Bool.and_eq_true,decide_eq_true_eq] at D;exact ⟨n,E,D⟩
theorem Afe {α:Type} {rd:Rd α} {sz:Nat} {t e:TypeId} {U:Nat} {cs:List Value} {x:DataW H × List MemPlace} (ht:tk P t=.slice e) (ah:P.cellsOf e=sz) (E:0 < sz)
  (el:∀ n cs y,DataW.trod enc P w 0 sp hd n e cs=some y→cs.length=sz→∃ X,rd (G0 w) cs X∧∀ u∈cs,u.oneCell' = true)
  (h:DataW.trod enc P w 0 sp hd U t cs=some x) (z:∀ b,sp b=true:=by intro;rfl):∃ a xs c,cs=[.slice a xs.length c]∧RdSl rd sz (G0 w) (.slice a xs.length c) xs∧xs.length≤9223372036854775807:=by
 subst ah;rcases Deep.open_slice (Bi ht) h with ⟨rfl,_⟩ | ⟨a,len,I,m,n,D,Pl,rfl,_,ag,Z,hm,_,aa⟩
 ·exact ⟨none,[],0,rfl,RdSl.nil,by simp⟩
 have ak:len≤m:=by rw [hm];split <;> omega
 have hX:∀ i,i < len→∃ X:α,∃ cs',w.cells? 0 (a.add (i * P.cellsOf e)) (P.cellsOf e)=some cs'∧cs'.length=P.cellsOf e∧rd (G0 w) cs' X∧(∀ u∈cs',u.oneCell' = true) ∧
   ∀ j u,cs'[j]?=some u→w.cell? (a.add (i * P.cellsOf e+j))=some u:=by
  intro i hi;obtain ⟨cs',J,O⟩:=aa i tM;have h3:=J;simp only [World.cells?,Nat.zero_le,if_true] at h3;have hl:=mapM_some_length h3;obtain ⟨X,h4,h5⟩:=el n cs' _ O (by rw [hl];simp);refine ⟨X,cs',J,by rw [hl];simp,h4,h5,fun j u hj=>?_⟩;have ae:j < P.cellsOf e:=by
   have:=lt_of_get hj;rw [hl] at this;simpa using this
  have:=mapM_some_get h3 j j (by simp [ae]);rw [hj] at this;rw [Deep.add_add] at this;exact this
 by_cases h0:len=0
 ·subst h0
  by_cases hc:I=0
  ·subst hc;exact ⟨some a,[],0,rfl,⟨_,_,rfl,Nat.le_refl _,tM,Or.inl ⟨rfl,rfl⟩⟩,by simp⟩
  ·rw [if_pos (z a.block)] at hm;obtain ⟨cs',J,_⟩:=aa 0 tM;simp only [World.cells?,Nat.zero_le,if_true] at J;have hl:=mapM_some_length J;have af:0 < cs'.length:=by rw [hl];simpa using E
   have O:=mapM_some_get J 0 0 (by simp [E]);rw [List.getElem?_eq_getElem af] at O;have z:a.spot=none:=by
    have:=World.cell?_spot O;simpa [Addr.add] using this
   obtain ⟨b,o,s⟩:=a;simp only at z;subst z;exact ⟨_,[],I,rfl,⟨_,_,rfl,Nat.zero_le _,Z,Or.inr ⟨b,o,rfl,by simp⟩⟩,by simp⟩
 ·haveI:Inhabited α:=⟨(hX 0 tM).choose⟩
  obtain ⟨X,Y⟩:=Deep.choose_lt hX;obtain ⟨ab,_,aj,_,_,ac⟩:=Y 0 tM;have O:=ac 0 ab[0] (List.getElem?_eq_getElem tM);have z:a.spot=none:=by
   have:=World.cell?_spot O;simpa [Addr.add] using this
  obtain ⟨b,o,s⟩:=a;simp only at z;subst z;refine ⟨some ⟨b,o,none⟩,(List.range len).map X,I,by simp,⟨_,_,by simp,by simpa using ag,Z,Or.inr ⟨b,o,rfl,fun i x hx=>?_⟩⟩,by simp only [List.length_map,List.length_range,maxLen] at *;omega⟩;have hi:i < len:=by have:=lt_of_get hx;simpa using this
  have ai:x=X i:=by
   rw [List.getElem?_map] at hx;simp only [List.getElem?_range hi,Option.map_some,Option.some.injEq] at hx;exact hx.symm
  subst ai;obtain ⟨cs',_,h5,h6,h7,h8⟩:=Y i hi;refine ⟨cs',h5,h7,fun j v hj=>?_,h6⟩;rw [gcell_G0];have:=h8 j v hj;rw [add_plain] at this;rw [Nat.add_assoc];exact this
theorem K7 {W':World} {sp':Nat→Bool} (hl:laidOutB P=true) (hb:Below w.heap.size w W'):∀ {ts:List TypeId} {vs:List Value} {ds:List (DataW H)} {ps:List MemPlace},
  (∀ t∈ts,P.readableRec t=true∧t < P.types.size)→DataW.TrodAll enc P w 0 (fun _=>true) true ts vs ds ps→(∀ p∈ps,p.block < w.heap.size)→(∀ p∈ps,sp' p.block=true)→DataW.TrodAll enc P W' 0 sp' true ts vs ds ps
 | [],[],[],ps,_,h,_,_=>h
 | t::ts,v::vs,d::ds,ps,ht,h,hp,hs=>by
  obtain ⟨p,q,h1,h2,rfl⟩:=h;refine ⟨p,q,WideElems.Trod_stays hl (ht t (by simp)).1 (ht t (by simp)).2 h1 (fun x hx=>hb.same (hp x (by simp [hx]))) (fun x hx=>hs x (by simp [hx])),?_,rfl⟩;exact K7 hl hb (fun u hu=>ht u (by simp [hu])) h2 (fun x hx=>hp x (by simp [hx])) (fun x hx=>hs x (by simp [hx]))
 | [],[],_::_,_,_,h,_,_=>h.elim
 | [],_::_,_,_,_,h,_,_=>h.elim
 | _::_,[],_,_,_,h,_,_=>h.elim
 | _::_,_::_,[],_,_,h,_,_=>h.elim
theorem Alf {f:Func} {s:ChangeSpec} {z I D:Bool} {W':World} {args:Array Value} {ds Y:List (DataW H)} {E:List MemPlace} {tb:TypeId}
  (hl:laidOutB P=true) (U:f.params.toList.all (fun t=>P.readableRec t && decide (t < P.types.size))=true)
  (hW:DataW.Whole enc P f.params.toList s.vars z w args.toList ds Y E) (hv:s.vars=[]) (hb:Below w.heap.size w W')
  (hs:(s.fn H (ds++Y)).results=[.lit (.bool true)]∧(s.fn H (ds++Y)).args=ds∧(s.fn H (ds++Y)).vars=[]) (hr:f.resultTypes = #[tb]) (hu:tk P tb=.bool) :
  s.post enc P f z I D false w args (.bool true) W':=by
 have J:=hW;obtain ⟨p,q,hA,hV,rfl,aa,ab⟩:=hW;rw [hv] at hV;obtain ⟨rfl,rfl⟩:=trodVars_none hV;have O:=J.lt;refine ⟨ds,[],p++[],[],p,[],J,?_,?_,?_,hb.frame _,fun h=>by cases h⟩
 ·rw [hs.1,hr];exact trodAll_mk1 (shut_bool (Px hu) true)
 ·rw [hs.2.1];refine K7 hl hb (fun t ht=>?_) hA (fun x Z=>O x (by simpa using Z)) (fun x Z=>by simpa using O x (by simpa using Z));have:=List.all_eq_true.1 U t ht;simpa using this
 ·rw [hs.2.2,hv];rfl
end
inductive Tr (β:Type) where
 | mk (kind:Int) (tag key:List UInt8) (as:List β) (text:List UInt8) (kids:List (Tr β))
namespace Tr
variable {β:Type}
def kind:Tr β→Int | .mk k _ _ _ _ _=>k
def tag:Tr β→List UInt8 | .mk _ t _ _ _ _=>t
def key:Tr β→List UInt8 | .mk _ _ k _ _ _=>k
def as:Tr β→List β | .mk _ _ _ l _ _=>l
def text:Tr β→List UInt8 | .mk _ _ _ _ t _=>t
def kids:Tr β→List (Tr β) | .mk _ _ _ _ _ l=>l
theorem eta (x:Tr β):x=.mk x.kind x.tag x.key x.as x.text x.kids:=by cases x;rfl
mutual
def size:Tr β→Nat
 | .mk _ _ _ _ _ l=>sizes l+1
def sizes:List (Tr β)→Nat
 | []=>0
 | x::l=>size x+sizes l
end
mutual
def depth:Tr β→Nat
 | .mk _ _ _ _ _ l=>depths l+1
def depths:List (Tr β)→Nat
 | []=>0
 | x::l=>max (depth x) (depths l)
end
theorem Axm (x:Tr β):x.depth=depths x.kids+1:=by cases x;simp only [depth,kids]
def Ok (A:Tr β→Prop):Nat→Tr β→Prop
 | 0,_=>False
 | n+1,x=>A x∧∀ c∈x.kids,Ok A n c
theorem Ok.depth {A:Tr β→Prop}:∀ {n:Nat} {x:Tr β},Ok A n x→x.depth≤n
 | 0,_,h=>h.elim
 | n+1,x,h=>by
  rw [Axm];have:∀ l:List (Tr β),(∀ c∈l,Ok A n c)→depths l≤n:=by
   intro l
   induction l with
   | nil=>intro _;simp [depths]
   | cons y l ih =>
    intro hl;have h1:=Ok.depth (hl y (by simp));have h2:=ih (fun c hc=>hl c (by simp [hc]));simp only [depths];omega
  have:=this _ h.2;omega
theorem Ok.mono {A:Tr β→Prop}:∀ {n m:Nat} {x:Tr β},Ok A n x→n≤m→Ok A m x
 | 0,_,_,h,_=>h.elim
 | n+1,0,_,_,h=>by omega
 | n+1,m+1,x,h,hm=>⟨h.1,fun c hc=>Ok.mono (h.2 c hc) tM⟩
end Tr
theorem RdSl.imp {α:Type} {rd z:Rd α} {sz:Nat} {G:Ghost} {v:Value} {xs:List α} (h:∀ cs x,rd G cs x→z G cs x) (S:RdSl rd sz G v xs):RdSl z sz G v xs:=by
 obtain ⟨a,c,I,J,O,E⟩:=S;refine ⟨a,c,I,J,O,?_⟩;rcases E with E | ⟨b,o,U,Y⟩
 ·exact Or.inl E
 ·refine Or.inr ⟨b,o,U,fun i x hx=>?_⟩;obtain ⟨cs,Z,D,h8,h9⟩:=Y i x hx;exact ⟨cs,Z,D,h8,h _ _ h9⟩
section
variable {β:Type} (rb:Rd β) (zb:Nat)
variable {rb zb}
end
section
variable {P:Program} {w0 w:World} {G:Ghost} {L:List Res} {ops:Array Oper} {Q:Exit→Act→World→Prop} {n:Nat} {a:Act} {e:Env} {d:Nat} {t:TypeId} {p:String} {af:Array Edge} {r:List Oper}
theorem Alh {C:World→Prop} {r:List (PK × Oper)} {q:PK} {op:Op} {j g:Nat} {D:Bool} (F:Fits n a e) (J:(ops[j]?).bind (·.dst)=some g) (I:look e g=some undef) (hd:Nat.ble (d+1) n=true)
  (k:∀ E,Fits n E ((d,undef)::e)→pk P ops Q C r E w):pk P ops Q C ((q,⟨some d,op,t,p,af,some (j,D)⟩)::r) a w:=by
 have O:yielded ops a.tmps j=none:=by simp [yielded,J,F.slot _ _ I,undef]
 have z:Region.wanted ⟨some d,op,t,p,af,some (j,D)⟩ (yielded ops a.tmps)=false:=by simp [Region.wanted,O]
 cases q with
 | free=>exact ⟨undef,Or.inr ⟨z,rfl⟩,k _ (F.put hd)⟩
 | pure=>exact ⟨undef,Or.inr ⟨z,rfl⟩,k _ (F.put hd)⟩
 | keep=>exact ⟨fun h=>(by rw [z] at h;cases h),fun _=>k _ (F.put hd)⟩
 | chg=>exact ⟨fun h=>(by rw [z] at h;cases h),fun _=>k _ (F.put hd)⟩
end
section
variable {P:Program} {w0 w:World} {G:Ghost} {L:List Res} {ρ:Operand→Value} {dd:Option Tmp} {t:TypeId} {p:String} {af:Array Edge} {g:Option (Nat × Bool)}
end
section
variable {P:Program} {w0 w:World} {G:Ghost} {L:List Res} {ops:Array Oper} {Q:Exit→Act→World→Prop} {n:Nat} {a:Act} {e:Env} {d:Nat} {t:TypeId} {p:String} {af:Array Edge} {r:List Oper}
end
section
variable {P:Program} {w0 w:World} {G:Ghost} {L:List Res}
end
section
variable {P:Program} {ops:Array Oper} {Q:Exit→Act→World→Prop} {C:World→Prop} {ch:List Nat}
end
section
variable {P:Program} {w:World} {ρ:Operand→Value} {dd:Option Tmp} {t:TypeId} {p:String} {af:Array Edge} {g:Option (Nat × Bool)}
end
open Go Go.RowKit
def EV (n:Nat) (e:Env) (Φ:Act→Prop):Prop:=∀ a,Fits n a e→Φ a
theorem Fits.go {n:Nat} {a:Act} {e:Env} {Φ:Act→Prop} (F:Fits n a e) (h:EV n e Φ):Φ a:=h a F
def Ahn (fs:List (Nat × Nat × Nat)) (f:Nat):Option Nat:=match fs[f]? with
 | some (o,s,_)=>match Nat.beq s 0 with
  | false=>some o
  | true=>none
 | none=>none
theorem Aws {z:List (Nat × Nat × Nat)} {f o:Nat} (h:Ahn z f=some o):∃ s t,z[f]?=some (o,s,t)∧Nat.beq s 0=false:=by
 unfold Ahn at h;split at h
 ·rename_i o' s t D;split at h
  ·rename_i E;simp only [Option.some.injEq] at h;subst h;exact ⟨s,t,D,E⟩
  ·cases h
 ·cases h
def gdv (n d:Nat) (ops:Array Oper) (e:Env) (j:Nat):Option Value:=match Nat.ble (d+1) n with
 | true=>match (ops[j]?).bind (·.dst) with
  | some g=>look e g
  | none=>none
 | false=>none
theorem Gr {n d:Nat} {z:Array Oper} {e:Env} {j:Nat} {v:Value} (h:gdv n d z e j=some v):Nat.ble (d+1) n=true∧∃ g,(z[j]?).bind (·.dst)=some g∧look e g=some v:=by
 unfold gdv at h;split at h
 ·rename_i D;split at h
  ·rename_i g E;exact ⟨D,g,E,h⟩
  ·cases h
 ·cases h
section
variable {P:Program} {ops:Array Oper} {Q:Exit→Act→World→Prop} {K:Act→World→Prop} {n d:Nat} {w w0 w':World} {e:Env} {G:Ghost} {L:List Res} {op:Op} {t:TypeId} {p:String} {af:Array Edge} {r:List Oper} {v:Value} {x y z:Operand}
theorem e_seq {c c':Code} (h:EV n e fun a=>c.wp P (Exit.then (fun a w=>c'.wp P Q a w) Q) a w):EV n e fun a=>(Code.seq c c').wp P Q a w:=fun a F=>wp_seq (h a F)
theorem e_skip (h:EV n e fun a=>Q .normal a w):EV n e fun a=>Code.skip.wp P Q a w:=fun a F=>wp_skip (h a F)
theorem e_block {id:Nat} {c:Code} (h:EV n e fun a=>c.wp P (Exit.inBlock id Q) a w):EV n e fun a=>(Code.block id c).wp P Q a w:=fun a F=>wp_block (h a F)
theorem e_exit {id:Nat} (h:EV n e fun a=>Q (.exit id) a w):EV n e fun a=>(Code.exit id).wp P Q a w:=fun a F=>wp_exit (h a F)
theorem e_ret (h:EV n e fun a=>Q .ret a w):EV n e fun a=>Code.ret.wp P Q a w:=fun a F=>wp_ret (h a F)
theorem e_reg {id:Nat} {l:List Oper} (h:EV n e fun a=>rl P l.toArray Q l a w):EV n e fun a=>(Code.region id l.toArray false).wp P Q a w:=fun a F=>Ar (h a F)
theorem e_nil (h:EV n e fun a=>Q .normal a w):EV n e fun a=>rl P ops Q [] a w:=h
theorem e_tn (h:EV n e fun a=>K a w):EV n e fun a=>Exit.then K Q .normal a w:=h
theorem e_te {id:Nat} (h:EV n e fun a=>Q (.exit id) a w):EV n e fun a=>Exit.then K Q (.exit id) a w:=h
theorem e_tr (h:EV n e fun a=>Q .ret a w):EV n e fun a=>Exit.then K Q .ret a w:=h
theorem e_bn {id:Nat} (h:EV n e fun a=>Q .normal a w):EV n e fun a=>Exit.inBlock id Q .normal a w:=h
theorem e_bh {id:Nat} (h:EV n e fun a=>Q .normal a w):EV n e fun a=>Exit.inBlock id Q (.exit id) a w:=fun a F=>q_bh (h a F)
theorem e_be {id j:Nat} (z:Nat.beq j id=false) (h:EV n e fun a=>Q (.exit j) a w):EV n e fun a=>Exit.inBlock id Q (.exit j) a w:=fun a F=>q_be z (h a F)
theorem e_br {id:Nat} (h:EV n e fun a=>Q .ret a w):EV n e fun a=>Exit.inBlock id Q .ret a w:=h
theorem Axi {c c':Code} {b:Bool} (D:ev e x=some (.bool b)) (z:b=true) (k:EV n e fun a=>c.wp P Q a w):EV n e fun a=>(Code.cond x c c').wp P Q a w:=fun a F=>Dk F D z (k a F)
theorem Axj {c c':Code} {b:Bool} (D:ev e x=some (.bool b)) (z:b=false) (k:EV n e fun a=>c'.wp P Q a w):EV n e fun a=>(Code.cond x c c').wp P Q a w:=fun a F=>C8 F D z (k a F)
section
variable {fn:Func} {R:Ending→World→Prop} {u s:Nat} {v1 v2:Value}
end
theorem e_run (z:∀ a,Fits n a e→(execOp a.eval ⟨some d,op,t,p,af,none⟩).run P w=.ok (.value v) w') (hd:Nat.ble (d+1) n=true)
  (k:EV n ((d,v)::e) fun a=>rl P ops Q r a w'):EV n e fun a=>rl P ops Q (⟨some d,op,t,p,af,none⟩::r) a w:=fun a F=>Aa F (z a F) hd k
theorem g_t {j:Nat} {z b:Bool} (h:gdv n d ops e j=some (.bool b)) (hw:b=z) (k:EV n e fun a=>rl P ops Q (⟨some d,op,t,p,af,none⟩::r) a w):EV n e fun a=>rl P ops Q (⟨some d,op,t,p,af,some (j,z)⟩::r) a w:=by
 obtain ⟨hd,g,D,E⟩:=Gr h;exact fun a F=>Fj F D E hd hw (k a F)
theorem g_f {j:Nat} {z b:Bool} (h:gdv n d ops e j=some (.bool b)) (hw:b = !z) (k:EV n ((d,undef)::e) fun a=>rl P ops Q r a w):EV n e fun a=>rl P ops Q (⟨some d,op,t,p,af,some (j,z)⟩::r) a w:=by
 obtain ⟨hd,g,D,E⟩:=Gr h;exact fun a F=>Ik F D E hd hw k
theorem g_u {j:Nat} {z:Bool} (h:gdv n d ops e j=some undef) (k:EV n ((d,undef)::e) fun a=>rl P ops Q r a w):EV n e fun a=>rl P ops Q (⟨some d,op,t,p,af,some (j,z)⟩::r) a w:=by
 obtain ⟨hd,g,D,E⟩:=Gr h;exact fun a F=>Acl F D E hd k
section
variable {a:Act} {dd:Option Tmp} {gg:Option (Nat × Bool)} {ty yt:TypeId} {k:IntKind} {i j:Int}
theorem x_fa {s f b o z:Nat} {D:List (Nat × Nat × Nat)} (hs:tk P s=.struct D) (J:Ahn D f=some z) (F:Fits n a e) (h:ev e x=some (.pointer (some ⟨b,o,none⟩))) :
  (execOp a.eval ⟨dd,.fieldAddr s x f,t,p,af,gg⟩).run P w=.ok (.value (.pointer (some ⟨b,o+z,none⟩))) w:=by
 obtain ⟨O,t',E,I⟩:=Aws J;exact run_fieldAddr hs E I (F.ev h)
end
section
variable {ty yt:TypeId} {kd:IntKind} {i j:Int}
end
section
variable {f:FuncId} {args:List Operand} {ats:Array TypeId} {vs caps:List Value}
end
section
variable {C:World→Prop} {j:Nat} {want b:Bool}
section
variable {r:List (PK × Oper)}
theorem k_nil (h:EV n e fun a=>Q .normal a w):EV n e fun a=>pk P ops Q C [] a w:=h
theorem k_f (z:∀ a,Fits n a e→∀ w,True→(execOp a.eval ⟨some d,op,t,p,af,none⟩).run P w=.ok (.value v) w) (hd:Nat.ble (d+1) n=true) (k:EV n ((d,v)::e) fun a=>pk P ops Q C r a w) :
  EV n e fun a=>pk P ops Q C ((.free,⟨some d,op,t,p,af,none⟩)::r) a w:=fun a F=>pk_free F (z a F) hd k
theorem k_p (z:∀ a,Fits n a e→∀ w,C w→(execOp a.eval ⟨some d,op,t,p,af,none⟩).run P w=.ok (.value v) w) (hd:Nat.ble (d+1) n=true) (k:EV n ((d,v)::e) fun a=>pk P ops Q C r a w) :
  EV n e fun a=>pk P ops Q C ((.pure,⟨some d,op,t,p,af,none⟩)::r) a w:=fun a F=>pk_pure F (z a F) hd k
theorem k_fg (h:gdv n d ops e j=some (.bool b)) (hw:b=want) (E:∀ a,Fits n a e→∀ w,True→(execOp a.eval ⟨some d,op,t,p,af,some (j,want)⟩).run P w=.ok (.value v) w) (k:EV n ((d,v)::e) fun a=>pk P ops Q C r a w) :
  EV n e fun a=>pk P ops Q C ((.free,⟨some d,op,t,p,af,some (j,want)⟩)::r) a w:=by
 obtain ⟨hd,g,z,D⟩:=Gr h;exact fun a F=>Alj F z D hw (E a F) hd k
theorem k_pg (h:gdv n d ops e j=some (.bool b)) (hw:b=want) (E:∀ a,Fits n a e→∀ w,C w→(execOp a.eval ⟨some d,op,t,p,af,some (j,want)⟩).run P w=.ok (.value v) w) (k:EV n ((d,v)::e) fun a=>pk P ops Q C r a w) :
  EV n e fun a=>pk P ops Q C ((.pure,⟨some d,op,t,p,af,some (j,want)⟩)::r) a w:=by
 obtain ⟨hd,g,z,D⟩:=Gr h;exact fun a F=>Ali F z D hw (E a F) hd k
theorem k_s {q:PK} (h:gdv n d ops e j=some (.bool b)) (hw:b = !want) (k:EV n ((d,undef)::e) fun a=>pk P ops Q C r a w):EV n e fun a=>pk P ops Q C ((q,⟨some d,op,t,p,af,some (j,want)⟩)::r) a w:=by
 obtain ⟨hd,g,z,D⟩:=Gr h;exact fun a F=>pk_skip F z D hw hd k
theorem k_u {q:PK} (h:gdv n d ops e j=some undef) (k:EV n ((d,undef)::e) fun a=>pk P ops Q C r a w):EV n e fun a=>pk P ops Q C ((q,⟨some d,op,t,p,af,some (j,want)⟩)::r) a w:=by
 obtain ⟨hd,g,z,D⟩:=Gr h;exact fun a F=>Alh F z D hd k
end
section
variable {r:List (Bool × Oper)}
theorem l_nil (h:EV n e fun a=>Q .normal a w):EV n e fun a=>pl P ops Q C [] a w:=h
theorem l_r (z:∀ a,Fits n a e→∀ w,C w→(execOp a.eval ⟨some d,op,t,p,af,none⟩).run P w=.ok (.value v) w) (hd:Nat.ble (d+1) n=true) (k:EV n ((d,v)::e) fun a=>pl P ops Q C r a w) :
  EV n e fun a=>pl P ops Q C ((true,⟨some d,op,t,p,af,none⟩)::r) a w:=fun a F=>Cw F (z a F) hd k
theorem l_g (h:gdv n d ops e j=some (.bool b)) (hw:b=want) (E:∀ a,Fits n a e→∀ w,C w→(execOp a.eval ⟨some d,op,t,p,af,some (j,want)⟩).run P w=.ok (.value v) w) (k:EV n ((d,v)::e) fun a=>pl P ops Q C r a w) :
  EV n e fun a=>pl P ops Q C ((true,⟨some d,op,t,p,af,some (j,want)⟩)::r) a w:=by
 obtain ⟨hd,g,z,D⟩:=Gr h;exact fun a F=>Vo F z D hw (E a F) hd k
theorem l_s {b2:Bool} (h:gdv n d ops e j=some (.bool b)) (hw:b = !want) (k:EV n ((d,undef)::e) fun a=>pl P ops Q C r a w):EV n e fun a=>pl P ops Q C ((b2,⟨some d,op,t,p,af,some (j,want)⟩)::r) a w:=by
 obtain ⟨hd,g,z,D⟩:=Gr h;exact fun a F=>Sa F z D hw hd k
end
section
variable {r alt:PO}
theorem t_fin (h:EV n e fun a=>Q .normal a w):EV n e fun a=>ptl P ops Q C .fin a w:=h
theorem t_r (z:∀ a,Fits n a e→∀ w,C w→(execOp a.eval ⟨some d,op,t,p,af,none⟩).run P w=.ok (.value v) w) (hd:Nat.ble (d+1) n=true) (k:EV n ((d,v)::e) fun a=>ptl P ops Q C r a w) :
  EV n e fun a=>ptl P ops Q C (.run ⟨some d,op,t,p,af,none⟩ r) a w:=fun a F=>pt_run F (z a F) hd k
theorem t_g (h:gdv n d ops e j=some (.bool b)) (hw:b=want) (E:∀ a,Fits n a e→∀ w,C w→(execOp a.eval ⟨some d,op,t,p,af,some (j,want)⟩).run P w=.ok (.value v) w) (k:EV n ((d,v)::e) fun a=>ptl P ops Q C r a w) :
  EV n e fun a=>ptl P ops Q C (.run ⟨some d,op,t,p,af,some (j,want)⟩ r) a w:=by
 obtain ⟨hd,g,z,D⟩:=Gr h;exact fun a F=>Vl F z D hw (E a F) hd k
theorem t_s (h:gdv n d ops e j=some (.bool b)) (hw:b = !want) (k:EV n ((d,undef)::e) fun a=>ptl P ops Q C r a w):EV n e fun a=>ptl P ops Q C (.run ⟨some d,op,t,p,af,some (j,want)⟩ r) a w:=by
 obtain ⟨hd,g,z,D⟩:=Gr h;exact fun a F=>R9 F z D hw hd k
end
section
variable {X:(World→Prop)→Act→Prop} {C':World→Prop}
end
end
end
class CT (P:Program) (t:TypeId) (i:outParam TI):Prop where
 ok:TOK P t i
theorem CT.k {P:Program} {t:TypeId} {i:TI} (c:CT P t i):tk P t=i.k:=c.ok.k
section
variable {P:Program} {ops:Array Oper} {Q:Exit→Act→World→Prop} {K:Act→World→Prop} {n d:Nat} {w w0:World} {e:Env} {G:Ghost} {L:List Res} {op:Op} {t:TypeId} {p:String} {af:Array Edge} {r:List Oper} {v:Value} {x y z:Operand} {C:World→Prop} {dd:Option Tmp} {gg:Option (Nat × Bool)}
def RN (P:Program) (n:Nat) (e:Env) (C:World→Prop) (dd:Option Tmp) (op:Op) (t:TypeId) (p:String) (af:Array Edge) (gg:Option (Nat × Bool)) (v:Value):Prop :=
 ∀ a,Fits n a e→∀ w,C w→(execOp a.eval ⟨dd,op,t,p,af,gg⟩).run P w=.ok (.value v) w
def CL (C:World→Prop) (b o:Nat) (v:Value):Prop:=∀ w,C w→w.cell? ⟨b,o,none⟩=some v
def CS (C:World→Prop) (b o m:Nat) (us:List Value):Prop:=∀ w,C w→∀ j,j < m→w.cell? ⟨b,o+j,none⟩=us[j]?
theorem Pi {x:Res} (h:x∈L):∃ k:Nat,L[k]?=some x:=by obtain ⟨k,z⟩:=List.mem_iff_getElem?.1 h;exact ⟨k,z⟩
theorem c_m {b o:Nat} {cs:List Value} {z:TypeId} (M:Mem w0 G L w) (D:Res.blk b cs z∈L) (I:cs[o]?=some v):CL (fun w'=>w' = w) b o v:=fun w' hw=>by
 obtain ⟨k,E⟩:=Pi D;subst hw;exact M.cellL E I
theorem c_k {b o:Nat} {cs:List Value} {z:TypeId} (D:Res.blk b cs z∈L) (I:cs[o]?=some v):CL (Keep G L) b o v:=fun w' K=>by
 obtain ⟨k,E⟩:=Pi D;exact K.cellL E I
theorem c_ma {b o z:Nat} {cs:List Value} (M:Mem w0 G L w) (D:At G b o cs) {q:Nat} (I:z=o+q) (E:cs[q]?=some v):CL (fun w'=>w' = w) b z v:=fun w' hw=>by subst hw;exact M.cellA D q I E
theorem c_ka {b o z:Nat} {cs:List Value} (D:At G b o cs) {q:Nat} (I:z=o+q) (E:cs[q]?=some v):CL (Keep G L) b z v:=fun w' K=>K.cellA D q I E
theorem cs_m {b o m:Nat} {cs us:List Value} {z:TypeId} (M:Mem w0 G L w) (D:Res.blk b cs z∈L) (I:(cs.drop o).take m=us):CS (fun w'=>w' = w) b o m us:=fun w' hw=>by
 obtain ⟨k,E⟩:=Pi D;subst hw;exact M.cellsL E I
theorem cs_k {b o m:Nat} {cs us:List Value} {z:TypeId} (D:Res.blk b cs z∈L) (I:(cs.drop o).take m=us):CS (Keep G L) b o m us:=fun w' K=>by
 obtain ⟨k,E⟩:=Pi D;exact K.cellsL E I
theorem cs_ma {b o z m:Nat} {cs us:List Value} (M:Mem w0 G L w) (D:At G b o cs) {q:Nat} (J:z=o+q) (I:(cs.drop q).take m=us) (E:us.length=m):CS (fun w'=>w' = w) b z m us:=fun w' hw=>by subst hw;exact M.cellsA D q J I E
theorem cs_ka {b o z m:Nat} {cs us:List Value} (D:At G b o cs) {q:Nat} (J:z=o+q) (I:(cs.drop q).take m=us) (E:us.length=m):CS (Keep G L) b z m us:=fun w' K=>K.cellsA D q J I E
theorem cw_m {b m:Nat} {cs:List Value} {z:TypeId} (M:Mem w0 G L w) (D:Res.blk b cs z∈L) (E:cs.length=m):CS (fun w'=>w' = w) b 0 m cs:=cs_m M D (by rw [List.drop_zero,List.take_of_length_le (Nat.le_of_eq E)])
theorem cw_k {b m:Nat} {cs:List Value} {z:TypeId} (D:Res.blk b cs z∈L) (E:cs.length=m):CS (Keep G L) b 0 m cs:=cs_k D (by rw [List.drop_zero,List.take_of_length_le (Nat.le_of_eq E)])
theorem cw_ma {b o z m:Nat} {cs:List Value} (M:Mem w0 G L w) (E:At G b o cs) (I:z=o) (D:cs.length=m):CS (fun w'=>w' = w) b z m cs:=cs_ma (q:=0) M E I (by rw [List.drop_zero,List.take_of_length_le (Nat.le_of_eq D)]) D
theorem cw_ka {b o z m:Nat} {cs:List Value} (E:At G b o cs) (I:z=o) (D:cs.length=m):CS (Keep G L) b z m cs:=cs_ka (q:=0) E I (by rw [List.drop_zero,List.take_of_length_le (Nat.le_of_eq D)]) D
theorem Ajs {p:Prop} (h:p:=by first | ((repeat (first | exact List.mem_cons_self | refine List.mem_cons_of_mem _ ?_));done) | fail):p:=h
theorem z_n {α:Type} {x:α}:(some x).isNone=false:=rfl
theorem Mz {p:Prop} (h:p:=by
 first
 | with_reducible exact rfl
 | with_reducible exact decide_eq_true rfl
 | with_reducible exact Aae (decide_eq_true rfl)
 | with_reducible assumption
 | exact z_n
 | exact Aad z_n
 | exact decide_eq_true (by with_reducible assumption)
 | exact decide_eq_false (by with_reducible assumption)
 | exact Aad (by with_reducible assumption)
 | exact Aae (by with_reducible assumption)
 | exact Aad (decide_eq_false (by with_reducible assumption))
 | exact Aae (decide_eq_true (by with_reducible assumption))
 | decide
 | fail):p:=h
theorem z_us {p:Prop} (h:p:=by first | (dsimp only [List.drop,List.take,List.set];done) | (dsimp only [List.drop,List.take,List.set];exact rfl) | exact rfl | fail):p:=h
theorem z_pl {p:Prop} (h:p:=by first | with_reducible exact (Nat.add_zero _).symm | with_reducible exact rfl | exact rfl | omega | fail):p:=h
theorem z_cl {p:Prop} (h:p:=by
 first
 | (apply c_m M;exact Ajs;exact rfl)
 | (apply c_k;exact Ajs;exact rfl)
 | (apply c_ma M;(with_reducible assumption);exact z_pl;exact rfl)
 | (apply c_ka;(with_reducible assumption);exact z_pl;exact rfl)
 | fail):p:=h
theorem z_cs {p:Prop} (h:p:=by
 first
 | (apply cw_m M;exact Ajs;exact rfl)
 | (apply cw_k;exact Ajs;exact rfl)
 | (apply cw_ma M;(with_reducible assumption);exact rfl;exact rfl)
 | (apply cw_ka;(with_reducible assumption);exact rfl;exact rfl)
 | (apply cs_m M;exact Ajs;exact z_us)
 | (apply cs_k;exact Ajs;exact z_us)
 | (apply cs_ma M;(with_reducible assumption);exact z_pl;exact z_us;exact rfl)
 | (apply cs_ka;(with_reducible assumption);exact z_pl;exact z_us;exact rfl)
 | fail):p:=h
theorem n_mv (h:ev e x=some v):RN P n e C dd (.move x) t p af gg v:=fun _ F _ _=>run_move (F.ev h)
theorem n_as (h:ev e x=some v):RN P n e C dd (.assign x) t p af gg v:=fun _ F _ _=>run_assign (F.ev h)
theorem n_nc {a:Addr} (h:ev e x=some (.pointer (some a))):RN P n e C dd (.nilCheck x) t p af gg (.pointer (some a)):=fun _ F _ _=>run_nilCheck (F.ev h)
theorem n_fa {s f b o z:Nat} {D:List (Nat × Nat × Nat)} {i:TI} [c:CT P s i] (I:i.k=.struct D) (E:Ahn D f=some z) (h:ev e x=some (.pointer (some ⟨b,o,none⟩))) :
  RN P n e C dd (.fieldAddr s x f) t p af gg (.pointer (some ⟨b,o+z,none⟩)):=fun _ F _ _=>x_fa (c.k.trans I) E F h
theorem n_ld {z:TypeId} {i:TI} [c:CT P z i] {b o:Nat} (D:i.k.agg=some false) (h:ev e x=some (.pointer (some ⟨b,o,none⟩))) (E:CL C b o v):RN P n e C dd (.load z x) t p af gg v :=
 fun _ F w hw=>run_load1 (agf c.ok D) (F.ev h) (E w hw)
theorem n_lb {z:TypeId} {i:TI} [c:CT P z i] {b o:Nat} {us:List Value} (D:i.k.agg=some true) (h:ev e x=some (.pointer (some ⟨b,o,none⟩))) (E:CS C b o i.size us) (I:us.length=i.size):RN P n e C dd (.load z x) t p af gg (.agg us.toArray) :=
 fun _ F w hw=>run_loadA c.ok D (F.ev h) I (E w hw)
theorem n_pt {b:Bool} (E:ev e x=some (.bool b)) (D:b=true) (h:ev e y=some v):RN P n e C dd (.pick x y z) t p af gg v:=fun _ F _ _=>run_pick_t (F.ev E) D (F.ev h)
theorem n_pf {b:Bool} (E:ev e x=some (.bool b)) (D:b=false) (h:ev e z=some v):RN P n e C dd (.pick x y z) t p af gg v:=fun _ F _ _=>run_pick_f (F.ev E) D (F.ev h)
theorem n_not {ty:TypeId} {b:Bool} (h:ev e x=some (.bool b)):RN P n e C dd (.unOp .not ty x) t p af gg (.bool (!b)):=fun _ F _ _=>run_not (F.ev h)
theorem n_ex {i:Nat} {vs:Array Value} (h:ev e x=some (.tuple vs)) (z:vs.toList[i]?=some v):RN P n e C dd (.extract x i) t p af gg v:=fun _ F _ _=>run_extract (F.ev h) (by rw [← Array.getElem?_toList];exact z)
theorem n_ls {s z:TypeId} {i:TI} [c:CT P s i] {ad:Option Addr} {m k:Nat} (D:i.k=.slice z) (h:ev e x=some (.slice ad m k)):RN P n e C dd (.call ⟨.builtin .len,#[x],#[s]⟩) t p af gg (.int .i64 (m:Int)):=fun _ F _ _=>Bu (c.k.trans D) (F.ev h)
theorem n_lS {s:TypeId} {i:TI} [c:CT P s i] {l:List UInt8} (z:i.k=.str) (h:ev e x=some (.string (str l))):RN P n e C dd (.call ⟨.builtin .len,#[x],#[s]⟩) t p af gg (.int .i64 (l.length:Nat)):=fun _ F _ _=>Ct (c.k.trans z) (F.ev h)
section
variable {ty yt:TypeId} {kd:IntKind} {i j:Int}
theorem n_gt (z:ev e x=some (.int kd i)) (D:ev e y=some (.int kd j)):RN P n e C dd (.binOp .gtr ty x y yt) t p af gg (.bool (decide (j < i))):=fun _ F _ _=>run_gtr (F.ev z) (F.ev D)
theorem n_lt (z:ev e x=some (.int kd i)) (D:ev e y=some (.int kd j)):RN P n e C dd (.binOp .lss ty x y yt) t p af gg (.bool (decide (i < j))):=fun _ F _ _=>run_lss (F.ev z) (F.ev D)
theorem n_lq (z:ev e x=some (.int kd i)) (D:ev e y=some (.int kd j)):RN P n e C dd (.binOp .leq ty x y yt) t p af gg (.bool (decide (i≤j))):=fun _ F _ _=>run_leq (F.ev z) (F.ev D)
theorem n_gq (z:ev e x=some (.int kd i)) (D:ev e y=some (.int kd j)):RN P n e C dd (.binOp .geq ty x y yt) t p af gg (.bool (decide (j≤i))):=fun _ F _ _=>run_geq (F.ev z) (F.ev D)
theorem n_eq (z:ev e x=some (.int kd i)) (D:ev e y=some (.int kd j)):RN P n e C dd (.binOp .eql ty x y yt) t p af gg (.bool (decide (i=j))):=fun _ F _ _=>run_eqi (F.ev z) (F.ev D)
theorem n_ne (z:ev e x=some (.int kd i)) (D:ev e y=some (.int kd j)):RN P n e C dd (.binOp .neq ty x y yt) t p af gg (.bool (!decide (i=j))):=fun _ F _ _=>run_nei (F.ev z) (F.ev D)
theorem n_seq {l l':List UInt8} (z:ev e x=some (.string (str l))) (D:ev e y=some (.string (str l'))):RN P n e C dd (.binOp .eql ty x y yt) t p af gg (.bool (decide (l=l'))):=fun _ F _ _=>run_strEq (F.ev z) (F.ev D)
theorem n_sne {l l':List UInt8} (z:ev e x=some (.string (str l))) (D:ev e y=some (.string (str l'))):RN P n e C dd (.binOp .neq ty x y yt) t p af gg (.bool (!(decide (l=l')))):=fun _ F _ _=>run_strNe (F.ev z) (F.ev D)
theorem n_add (D:ev e x=some (.int .i64 i)) (E:ev e y=some (.int .i64 j)) (z:-9223372036854775808≤i+j∧i+j≤9223372036854775807):RN P n e C dd (.binOp .add ty x y yt) t p af gg (.int .i64 (i+j)):=fun _ F _ _=>run_addi (F.ev D) (F.ev E) (in_i64 z.1 z.2)
theorem n_sub (D:ev e x=some (.int .i64 i)) (E:ev e y=some (.int .i64 j)) (z:-9223372036854775808≤i - j∧i - j≤9223372036854775807):RN P n e C dd (.binOp .sub ty x y yt) t p af gg (.int .i64 (i - j)):=fun _ F _ _=>Hx (F.ev D) (F.ev E) (in_i64 z.1 z.2)
theorem n_ix {s z:TypeId} {E J:TI} [c:CT P s E] {ad:Option Addr} {m k b o D:Nat} {O:Int} (U:E.k=.slice z) (c':CT P z J) (Y:ev e x=some (.slice ad m k)) (Z:ev e y=some (.int kd O)) (I:Ix ad m D J.size b o) (hz:O=(D:Int)) :
  RN P n e C dd (.indexAddr s x y) t p af gg (.pointer (some ⟨b,o,none⟩)):=fun _ F _ _=>C0 (c.k.trans U) c'.ok (F.ev Y) (F.ev Z) hz I
end
theorem Ut {p:Prop} (h:p:=by
 first
 | ((with_reducible apply n_mv);exact rfl)
 | ((with_reducible apply n_as);exact rfl)
 | ((with_reducible apply n_fa);exact rfl;exact rfl;exact rfl)
 | ((with_reducible apply n_ld);exact rfl;exact rfl;exact z_cl)
 | ((with_reducible apply n_lb);exact rfl;exact rfl;exact z_cs;exact rfl)
 | ((with_reducible apply n_pt);exact rfl;exact Mz;exact rfl)
 | ((with_reducible apply n_pf);exact rfl;exact Mz;exact rfl)
 | ((with_reducible apply n_ls);exact rfl;exact rfl)
 | ((with_reducible apply n_lS);exact rfl;exact rfl)
 | ((with_reducible apply n_eq);exact rfl;exact rfl)
 | ((with_reducible apply n_ne);exact rfl;exact rfl)
 | ((with_reducible apply n_lt);exact rfl;exact rfl)
 | ((with_reducible apply n_gt);exact rfl;exact rfl)
 | ((with_reducible apply n_lq);exact rfl;exact rfl)
 | ((with_reducible apply n_gq);exact rfl;exact rfl)
 | ((with_reducible apply n_seq);exact rfl;exact rfl)
 | ((with_reducible apply n_sne);exact rfl;exact rfl)
 | ((with_reducible apply n_ex);exact rfl;exact rfl)
 | ((with_reducible apply n_not);exact rfl)
 | ((with_reducible apply n_nc);exact rfl)
 | ((with_reducible apply n_add);exact rfl;exact rfl;omega)
 | ((with_reducible apply n_sub);exact rfl;exact rfl;omega)
 | ((with_reducible apply n_ix);exact rfl;exact inferInstance;exact rfl;exact rfl;(with_reducible assumption);omega)
 | fail):p:=h
theorem u_run (z:RN P n e (fun w'=>w' = w) (some d) op t p af none v) (hd:Nat.ble (d+1) n=true) (k:EV n ((d,v)::e) fun a=>rl P ops Q r a w):EV n e fun a=>rl P ops Q (⟨some d,op,t,p,af,none⟩::r) a w :=
 e_run (fun a F=>z a F w rfl) hd k
theorem EV.id {Φ:Act→Prop} (h:EV n e Φ):EV n e Φ:=h
theorem EV.out {Φ:Act→Prop} (h:EV n e Φ):∀ a,Fits n a e→Φ a:=h
section
variable {j:Nat} {want b:Bool}
theorem v_kf {r:List (PK × Oper)} (z:RN P n e (fun _=>True) (some d) op t p af none v) (hd:Nat.ble (d+1) n=true) (k:EV n ((d,v)::e) fun a=>pk P ops Q C r a w):EV n e fun a=>pk P ops Q C ((.free,⟨some d,op,t,p,af,none⟩)::r) a w:=k_f z hd k
theorem v_kp {r:List (PK × Oper)} (z:RN P n e C (some d) op t p af none v) (hd:Nat.ble (d+1) n=true) (k:EV n ((d,v)::e) fun a=>pk P ops Q C r a w):EV n e fun a=>pk P ops Q C ((.pure,⟨some d,op,t,p,af,none⟩)::r) a w:=k_p z hd k
theorem v_kfg {r:List (PK × Oper)} (h:gdv n d ops e j=some (.bool b)) (hw:b=want) (z:RN P n e (fun _=>True) (some d) op t p af (some (j,want)) v) (k:EV n ((d,v)::e) fun a=>pk P ops Q C r a w):EV n e fun a=>pk P ops Q C ((.free,⟨some d,op,t,p,af,some (j,want)⟩)::r) a w:=k_fg h hw z k
theorem v_kpg {r:List (PK × Oper)} (h:gdv n d ops e j=some (.bool b)) (hw:b=want) (z:RN P n e C (some d) op t p af (some (j,want)) v) (k:EV n ((d,v)::e) fun a=>pk P ops Q C r a w):EV n e fun a=>pk P ops Q C ((.pure,⟨some d,op,t,p,af,some (j,want)⟩)::r) a w:=k_pg h hw z k
theorem v_lr {r:List (Bool × Oper)} (z:RN P n e C (some d) op t p af none v) (hd:Nat.ble (d+1) n=true) (k:EV n ((d,v)::e) fun a=>pl P ops Q C r a w):EV n e fun a=>pl P ops Q C ((true,⟨some d,op,t,p,af,none⟩)::r) a w:=l_r z hd k
theorem v_lg {r:List (Bool × Oper)} (h:gdv n d ops e j=some (.bool b)) (hw:b=want) (z:RN P n e C (some d) op t p af (some (j,want)) v) (k:EV n ((d,v)::e) fun a=>pl P ops Q C r a w):EV n e fun a=>pl P ops Q C ((true,⟨some d,op,t,p,af,some (j,want)⟩)::r) a w:=l_g h hw z k
theorem v_tr {r:PO} (z:RN P n e C (some d) op t p af none v) (hd:Nat.ble (d+1) n=true) (k:EV n ((d,v)::e) fun a=>ptl P ops Q C r a w):EV n e fun a=>ptl P ops Q C (.run ⟨some d,op,t,p,af,none⟩ r) a w:=t_r z hd k
theorem v_tg {r:PO} (h:gdv n d ops e j=some (.bool b)) (hw:b=want) (z:RN P n e C (some d) op t p af (some (j,want)) v) (k:EV n ((d,v)::e) fun a=>ptl P ops Q C r a w):EV n e fun a=>ptl P ops Q C (.run ⟨some d,op,t,p,af,some (j,want)⟩ r) a w:=t_g h hw z k
end
theorem z_pk {r:List (PK × Oper)} (h:EV n e fun a=>pk P ops Q C r a w):EV n e fun a=>pk P ops Q C r a w:=h
theorem z_lk {r:List (Bool × Oper)} (h:EV n e fun a=>pl P ops Q C r a w):EV n e fun a=>pl P ops Q C r a w:=h
theorem z_tk {r:PO} (h:EV n e fun a=>ptl P ops Q C r a w):EV n e fun a=>ptl P ops Q C r a w:=h
structure Bx (q:Prop):Prop where
 out:q
theorem wk {p q:Prop} (k:q) (h:Bx q→p:=by
  intro hq
  (first | (with_reducible refine EV.id ?_) | (with_reducible refine EV.out ?_) | (revert a;with_reducible refine EV.out ?_))
  repeat (first
    | (with_reducible apply e_seq)
    | (with_reducible apply e_reg)
    | ((with_reducible apply u_run);exact Ut;exact rfl)
    | (with_reducible apply e_nil)
    | (with_reducible apply e_tn)
    | ((with_reducible apply g_u);exact rfl)
    | ((with_reducible apply g_t);exact rfl;exact Mz)
    | ((with_reducible apply g_f);exact rfl;exact Mz)
    | ((with_reducible apply Axi);exact rfl;exact Mz)
    | ((with_reducible apply Axj);exact rfl;exact Mz)
    | (with_reducible apply e_skip)
    | (with_reducible apply e_block)
    | (with_reducible apply e_exit)
    | (with_reducible apply e_ret)
    | (with_reducible apply e_tr)
    | (with_reducible apply e_te)
    | (with_reducible apply e_bn)
    | (with_reducible apply e_br)
    | (with_reducible apply e_bh)
    | ((with_reducible apply e_be);exact rfl)
    | ((with_reducible refine z_pk ?_)
       first
       | (apply v_kf;exact Ut;exact rfl)
       | (apply v_kp;exact Ut;exact rfl)
       | (apply k_u;exact rfl)
       | (apply k_s;exact rfl;exact Mz)
       | (apply v_kfg;exact rfl;exact Mz;exact Ut)
       | (apply v_kpg;exact rfl;exact Mz;exact Ut)
       | apply k_nil)
    | ((with_reducible refine z_lk ?_)
       first
       | (apply v_lr;exact Ut;exact rfl)
       | (apply l_s;exact rfl;exact Mz)
       | (apply v_lg;exact rfl;exact Mz;exact Ut)
       | apply l_nil)
    | ((with_reducible refine z_tk ?_)
       first
       | (apply v_tr;exact Ut;exact rfl)
       | (apply t_s;exact rfl;exact Mz)
       | (apply v_tg;exact rfl;exact Mz;exact Ut)
       | apply t_fin))
  exact hq.1):p:=h ⟨k⟩
end
end Go.Y
