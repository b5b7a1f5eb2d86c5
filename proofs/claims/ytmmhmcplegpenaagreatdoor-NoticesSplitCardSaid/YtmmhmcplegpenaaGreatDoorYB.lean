/- The generic core, second part: drawn regions, strings, builders, numbers. -/
import Derived.Test.YtmmhmcplegpenaaGreatDoorYA
import Derived.Lib.Strings
import Derived.Lib.AppendStr
import Derived.Lib.UnsafeStr
import Derived.Lib.Builder
import Derived.Laws.Externs
import Derived.Sort.Row
import Derived.Sort.Grow
import Derived.Laws.BytesArg
import Derived.Lib.ItoaNum
import Derived.Lib.Itoa
import Derived.Below
import Derived.Lib.LaidTab
import Derived.Lib.ParseIntB
import Derived.Lib.ConvBytes
import Derived.Laws.StructEq
import Derived.ProofKit
import Derived.Deep.Slices
set_option linter.unusedSimpArgs false
set_option linter.unusedVariables false
namespace Go.Y
open Go Go.RowKit
inductive PT where
 | fin
 | run (i:Nat) (r:PT)
 | act (i:Nat) (r alt:PT)
 | no
inductive PO where
 | fin
 | run (o:Oper) (r:PO)
 | act (o:Oper) (r alt:PO)
 | no
section
variable {P:Program} {ops:Array Oper} {Q:Exit→Act→World→Prop} {C:World→Prop}
def Oz (ops:Array Oper):PT→PO
 | .fin=>.fin
 | .no=>.no
 | .run i r=>match ops[i]? with
  | some o=>.run o (Oz ops r)
  | none=>.no
 | .act i r alt=>match ops[i]? with
  | some o=>.act o (Oz ops r) (Oz ops alt)
  | none=>.no
def ptl (P:Program) (ops:Array Oper) (Q:Exit→Act→World→Prop):(World→Prop)→PO→Act→World→Prop
 | _,.fin,a,w=>Q .normal a w
 | _,.no,_,_=>True
 | C,.run o r,a,w=>∃ v,E2 P ops C o v a∧ptl P ops Q C r (a.put o.dst v) w
 | C,.act o r alt,a,w =>
  ((Region.wanted o (yielded ops a.tmps)=true→o.wp P a w (fun a' w'=>∃ C':World→Prop,C' w'∧(∀ w,C' w→C w)∧ptl P ops Q C' r a' w') Q) ∧
  (Region.wanted o (yielded ops a.tmps)=false→ptl P ops Q C r (a.put o.dst undef) w))∧ptl P ops Q C alt a w
def N7:PT→List Nat
 | .act i _ alt=>i::N7 alt
 | _=>[]
def okT (ops:Array Oper):Bool→PT→Nat→Array Bool→Bool
 | top,.fin,n,listed=>top && Nat.beq n 0 && (Region.ready .any ops listed).isEmpty
 | top,.no,_,_=>!top
 | top,.run i r,n+1,listed=>top && Nat.ble (i+1) ops.size && (Region.ready .any ops listed).any (Nat.beq i) && Aig ops i listed && okT ops true r n (listed.setIfInBounds i true)
 | top,.act i r alt,n+1,listed=>(!top || (!(Region.ready .any ops listed).isEmpty && (Region.ready .any ops listed).all fun j=>(i::N7 alt).any (Nat.beq j))) && Nat.ble (i+1) ops.size && okT ops true r n (listed.setIfInBounds i true) && okT ops false alt (n+1) listed
 | _,.run _ _,0,_=>false
 | _,.act _ _ _,0,_=>false
theorem J6 (hsel:∀ (j:Nat) (o:Oper) cs b,ops[j]?=some o→o.op≠.select cs b) (hQ:∀ c a d v w,Q (.panic c) (a.put d v) w→Q (.panic c) a w):∀ (t:PT),
  (∀ (n:Nat) (C:World→Prop) (listed:Array Bool) (a:Act) (w:World),okT ops true t n listed=true→C w→ptl P ops Q C (Oz ops t) a w→Adh P ops Q C n listed a w) ∧
  (∀ (n:Nat) (C:World→Prop) (listed:Array Bool) (a:Act) (w:World),okT ops false t (n+1) listed=true→C w→ptl P ops Q C (Oz ops t) a w →
   ∀ i∈N7 t,wpOp P ops Q i (fun a' w'=>∃ C':World→Prop,C' w'∧(∀ w,C' w→C w)∧Adh P ops Q C' n (listed.setIfInBounds i true) a' w') a w)
 | .fin=>by
  refine ⟨fun n C listed a w hok hC h=>?_,fun n C listed a w hok hC h i hi=>by simp [N7] at hi⟩;simp only [okT,Bool.and_eq_true,Bool.true_and] at hok;have hn:=Nat.eq_of_beq_eq_true hok.1;subst hn
  exact ⟨by simpa using hok.2,h⟩
 | .no=>by
  refine ⟨fun n C listed a w hok hC h=>by simp [okT] at hok,fun n C listed a w hok hC h i hi=>by simp [N7] at hi⟩
 | .run i r=>by
  obtain ⟨ih,_⟩:=J6 hsel hQ r;refine ⟨fun n C listed a w hok hC h=>?_,fun n C listed a w hok hC h j hj=>by simp [N7] at hj⟩
  cases n with
  | zero=>simp [okT] at hok
  | succ n =>
   simp only [okT,Bool.and_eq_true,Bool.true_and] at hok;obtain ⟨⟨⟨hlt,hr⟩,hf⟩,hok⟩:=hok;have hlt':i < ops.size:=Nat.le_of_ble_eq_true hlt;have hi:ops[i]?=some ops[i]:=Array.getElem?_eq_getElem hlt';simp only [Oz,hi] at h;obtain ⟨v,hy,h'⟩:=h;have hr':i∈Region.ready .any ops listed:=by
    obtain ⟨j,hj,hb⟩:=List.any_eq_true.1 hr;rw [Nat.eq_of_beq_eq_true hb];exact hj
   refine U0 hi hsel (fun c a w=>hQ c a _ v w) n C listed a w hC ?_ hr' hy (ih n C _ _ w hok hC h');intro j oj hj hji hun hno;unfold Aig at hf;simp only [hi] at hf;have hlj:j < ops.size:=by
    rcases Nat.lt_or_ge j ops.size with h' | h'
    ·exact h'
    ·rw [Array.getElem?_eq_none h'] at hj;cases hj
   have:=List.all_eq_true.1 hf j (List.mem_range.2 hlj);simp only [hj,Bool.or_eq_true] at this
   rcases this with ((h1 | h1) | h1) | h1
   ·exact absurd (Nat.eq_of_beq_eq_true h1) hji
   ·rw [h1] at hun;cases hun
   ·obtain ⟨e,he,hb⟩:=Array.any_eq_true'.1 h1;simp only [Bool.and_eq_true] at hb
    exact absurd (Nat.eq_of_beq_eq_true hb.2) (hno e he hb.1)
   ·exact h1
 | .act i r alt=>by
  obtain ⟨ih,_⟩:=J6 hsel hQ r;obtain ⟨_,ih2⟩:=J6 hsel hQ alt;have key:∀ (n:Nat) (C:World→Prop) (listed:Array Bool) (a:Act) (w:World),i < ops.size→okT ops true r n (listed.setIfInBounds i true)=true→okT ops false alt (n+1) listed=true→C w →
    ptl P ops Q C (Oz ops (.act i r alt)) a w→∀ j∈N7 (.act i r alt),wpOp P ops Q j (fun a' w'=>∃ C':World→Prop,C' w'∧(∀ w,C' w→C w)∧Adh P ops Q C' n (listed.setIfInBounds j true) a' w') a w:=by
   intro n C listed a w hlt h1 h2 hC h j hj;have hi:ops[i]?=some ops[i]:=Array.getElem?_eq_getElem hlt;simp only [Oz,hi] at h;obtain ⟨⟨h3,h4⟩,h5⟩:=h
   rcases List.mem_cons.1 hj with rfl | hj
   ·unfold wpOp;simp only [hi]
    by_cases hw:Region.wanted ops[j] (yielded ops a.tmps)=true
    ·rw [if_pos hw]
     left
     exact Oper.wp_mono (fun a' w' hk=>by
      obtain ⟨C',h6,h7,h8⟩:=hk
      exact ⟨C',h6,h7,ih n C' _ a' w' h1 h6 h8⟩) (h3 hw)
    ·rw [if_neg hw]
     exact ⟨C,hC,fun _ h=>h,ih n C _ _ w h1 hC (h4 (by simpa using hw))⟩
   ·exact ih2 n C listed a w h2 hC h5 j hj
  refine ⟨fun n C listed a w hok hC h=>?_,fun n C listed a w hok hC h=>?_⟩
  ·cases n with
   | zero=>simp [okT] at hok
   | succ n =>
    simp only [okT,Bool.and_eq_true,Bool.not_true,Bool.false_or] at hok;obtain ⟨⟨⟨⟨hne,hall⟩,hlt⟩,h1⟩,h2⟩:=hok;have hk:=key n C listed a w (Nat.le_of_ble_eq_true hlt) h1 h2 hC h;refine ⟨fun h0=>by rw [h0] at hne;simp at hne,fun j hj=>hk j ?_⟩;have:=List.all_eq_true.1 hall j hj;obtain ⟨q,hq,hb⟩:=List.any_eq_true.1 this;rw [Nat.eq_of_beq_eq_true hb];exact hq
  ·simp only [okT,Bool.and_eq_true,Bool.not_false,Bool.true_or,Bool.true_and] at hok;obtain ⟨⟨hlt,h1⟩,h2⟩:=hok
   exact key n C listed a w (Nat.le_of_ble_eq_true hlt) h1 h2 hC h
def Vp (l:List Oper) (t:PT):Bool:=Region.noSelect l.toArray && okT l.toArray true t l.length (Array.replicate l.length false)
theorem Ic {id:Nat} {l:List Oper} {a:Act} {w:World} (t:PT) (C:World→Prop) (hm:P.follows .mixedOrders=true) (hk:Vp l t=true)
  (hQ:∀ c a d v w,Q (.panic c) (a.put d v) w→Q (.panic c) a w) (hC:C { w with drawn:=w.drawn+1 }) (h:ptl P l.toArray Q C (Oz l.toArray t) a { w with drawn:=w.drawn+1 }):(Code.region id l.toArray true).wp P Q a w:=by
 simp only [Vp,Bool.and_eq_true] at hk;refine wp_region_any hm (Mg _ C _ _ _ ?_);have:=(J6 (P:=P) (Region.noSelect_spec hk.1) hQ t).1 l.length C _ a _ hk.2 hC h
 simpa using this
end
section
variable {P:Program} {ops:Array Oper} {Q:Exit→Act→World→Prop} {C:World→Prop} {n:Nat} {a:Act} {w:World} {e:Env} {d:Nat} {t:TypeId} {p:String} {af:Array Edge} {r alt:PO}
theorem Bl:ptl P ops Q C .no a w:=trivial
theorem pt_run {op:Op} {v:Value} (F:Fits n a e) (hr:∀ w,C w→(execOp a.eval ⟨some d,op,t,p,af,none⟩).run P w=.ok (.value v) w) (hd:Nat.ble (d+1) n=true)
  (k:∀ a',Fits n a' ((d,v)::e)→ptl P ops Q C r a' w):ptl P ops Q C (.run ⟨some d,op,t,p,af,none⟩ r) a w :=
 ⟨v,Or.inl ⟨rfl,hr⟩,k _ (F.put hd)⟩
theorem Ys {op:Op} {v:Value} {j g:Nat} {want b:Bool} (F:Fits n a e) (hj:(ops[j]?).bind (·.dst)=some g) (hb:look e g=some (.bool b)) (hw:b=want)
  (hr:∀ w,C w→(execOp a.eval ⟨some d,op,t,p,af,some (j,want)⟩).run P w=.ok (.value v) w) (hd:Nat.ble (d+1) n=true)
  (k:∀ a',Fits n a' ((d,v)::e)→ptl P ops Q C r a' w):ptl P ops Q C (.run ⟨some d,op,t,p,af,some (j,want)⟩ r) a w:=by
 have hy:yielded ops a.tmps j=some b:=by simp [yielded,hj,F.slot _ _ hb]
 subst hw
 exact ⟨v,Or.inl ⟨by simp [Region.wanted,hy],hr⟩,k _ (F.put hd)⟩
theorem Vf {op:Op} {j g:Nat} {want b:Bool} (F:Fits n a e) (hj:(ops[j]?).bind (·.dst)=some g) (hb:look e g=some (.bool b)) (hw:b = !want) (hd:Nat.ble (d+1) n=true)
  (k:∀ a',Fits n a' ((d,undef)::e)→ptl P ops Q C r a' w):ptl P ops Q C (.run ⟨some d,op,t,p,af,some (j,want)⟩ r) a w:=by
 have hy:yielded ops a.tmps j=some b:=by simp [yielded,hj,F.slot _ _ hb]
 have hne:Region.wanted ⟨some d,op,t,p,af,some (j,want)⟩ (yielded ops a.tmps)=false:=by
  subst hw;cases want <;> simp [Region.wanted,hy]
 exact ⟨undef,Or.inr ⟨hne,rfl⟩,k _ (F.put hd)⟩
theorem A2 {o:Oper} (h:rl P ops (fun e a w=>match e with | .normal=>∃ C':World→Prop,C' w∧(∀ w,C' w→C w)∧ptl P ops Q C' r a w | e=>Q e a w) [o] a w) (hg:o.guard=none) (ha:ptl P ops Q C alt a w) :
  ptl P ops Q C (.act o r alt) a w:=by
 obtain ⟨h1,h2⟩:=h;have hw:Region.wanted o (yielded ops a.tmps)=true:=by simp [Region.wanted,hg]
 refine ⟨⟨fun _=>?_,fun h=>by rw [hw] at h;cases h⟩,ha⟩;have h3:=h1 hw;unfold Oper.wp at *
 generalize (execOp a.eval o).run P w=x at *
 cases x with
 | ok nx w' =>
  cases nx <;> simp only [Oper.upon] at h3 ⊢
  case value u=>exact h3
  case skip=>exact h3
  case defer d=>exact h3
  case enter f args =>
   refine Calls.mono h3 fun e w'' he=>?_
   cases e with
   | returned u=>exact he
   | panicked c=>exact he
   | outgrown=>obtain ⟨a0,w0,h0⟩:=he;exact ⟨a0,w0,h0⟩
  case row row args=>exact h3
 | halt x w'=>cases x <;> simp only [Oper.upon] at h3 ⊢ <;> exact h3
end
end Go.Y
namespace Go.Y
open Go Go.RowKit
inductive PK where
 | free | pure | keep | chg
section
variable {P:Program} {ops:Array Oper} {Q:Exit→Act→World→Prop} {C:World→Prop} {ch:List Nat}
def inL (l:List Nat) (i:Nat):Bool:=l.any (Nat.beq i)
def Vm (P:Program) (ops:Array Oper) (Q:Exit→Act→World→Prop) (ch:List Nat):(World→Prop)→Nat→Array Bool→Act→World→Prop
 | _,0,listed,a,w=>Region.ready .any ops listed=[]∧Q .normal a w
 | C,fuel+1,listed,a,w =>
  (Region.ready .any ops listed=[]→Q .normal a w) ∧
  ∀ i∈Region.ready .any ops listed,wpOp P ops Q i (fun a' w'=>∃ C':World→Prop,C' w'∧(inL ch i=false→∀ w,C' w→C w)∧Vm P ops Q ch C' fuel (listed.setIfInBounds i true) a' w') a w
theorem Mf:∀ (fuel:Nat) (C:World→Prop) (listed:Array Bool) (a:Act) (w:World),Vm P ops Q ch C fuel listed a w→wpAny P .any ops Q fuel listed a w
 | 0,_,_,_,_,h=>h
 | fuel+1,_,_,_,_,h=>⟨h.1,fun i hi=>wpOp_mono (fun a' w' hk=>by obtain ⟨C',_,_,h'⟩:=hk;exact Mf fuel C' _ a' w' h') (h.2 i hi)⟩
theorem Ra {i j:Nat} {oj:Oper} {listed:Array Bool} (hj:ops[j]?=some oj) (hr:j∈Region.ready .any ops listed) (hi:i∈Region.ready .any ops listed) {e:Edge} (he:e∈oj.after) (hb:Region.binds .any e=true) (heq:e.on=i):False:=by
 obtain ⟨_,oj',hoj,hall⟩:=mem_ready.1 hr;rw [hj] at hoj;simp only [Option.some.injEq] at hoj;subst hoj;have h1:=hall e he hb;have h0:=(mem_ready.1 hi).1;rw [heq] at h1
 by_cases hlt:i < listed.size
 ·simp [hlt] at h0 h1;rw [h0] at h1;cases h1
 ·simp [Array.getElem?_eq_none (Nat.le_of_not_lt hlt)] at h1
theorem Uz {i:Nat} {oi:Oper} {v:Value} {fr:Bool} (hi:ops[i]?=some oi) (hsel:∀ (j:Nat) (o:Oper) cs b,ops[j]?=some o→o.op≠.select cs b) (hQ:∀ c a w,Q (.panic c) (a.put oi.dst v) w→Q (.panic c) a w) :
  ∀ (fuel:Nat) (C:World→Prop) (listed:Array Bool) (a:Act) (w:World),C w →
   (∀ j oj,ops[j]?=some oj→j≠i→listed.getD j true=false→(∀ e∈oj.after,Region.binds .any e=true→e.on≠i)→oi.apart ops oj=true∧(fr=true∨inL ch j=false)) →
   i∈Region.ready .any ops listed→(if fr=true then E2 P ops (fun _=>True) oi v a else E2 P ops C oi v a)→Vm P ops Q ch C fuel (listed.setIfInBounds i true) (a.put oi.dst v) w→Vm P ops Q ch C (fuel+1) listed a w:=by
 have gC:∀ {C:World→Prop} {a:Act},(if fr=true then E2 P ops (fun _=>True) oi v a else E2 P ops C oi v a)→E2 P ops C oi v a:=by
  intro C a h
  split at h
  ·exact h.mono fun _ _=>trivial
  ·exact h
 intro fuel
 induction fuel with
 | zero =>
  intro C listed a w hC _ hr hy H;refine ⟨fun h=>(by rw [h] at hr;cases hr),fun j hj=>?_⟩
  by_cases hji:j=i
  ·subst hji;exact (gC hy).op hi hC ⟨C,hC,fun _ _ h=>h,H⟩
  ·have:=ready_mono hj hji;rw [H.1] at this
   cases this
 | succ fuel ih =>
  intro C listed a w hC hf hr hy H;refine ⟨fun h=>(by rw [h] at hr;cases hr),fun j hj=>?_⟩
  by_cases hji:j=i
  ·subst hji;exact (gC hy).op hi hC ⟨C,hC,fun _ _ h=>h,H⟩
  ·obtain ⟨hju,oj,hoj,hall⟩:=mem_ready.1 hj;have hno:∀ e∈oj.after,Region.binds .any e=true→e.on≠i:=fun e he hb heq=>Ra hoj hj hr he hb heq;obtain ⟨hap,hfr⟩:=hf j oj hoj hji hju hno;have key:∀ {D:World→Prop},E2 P ops D oi v a→(∀ (a':Act) (C':World→Prop),E2 P ops D oi v a'→(inL ch j=false→∀ w,C' w→C w)→(if fr=true then E2 P ops (fun _=>True) oi v a' else E2 P ops C' oi v a')) →
     wpOp P ops Q j (fun a' w'=>∃ C':World→Prop,C' w'∧(inL ch j=false→∀ w,C' w→C w)∧Vm P ops Q ch C' (fuel+1) (listed.setIfInBounds j true) a' w') a w:=by
    intro D hg hstep;have h2:=Tq hoj hap (hsel i oi · · hi) (hsel j oj · · hoj) hQ hg (H.2 j (ready_mono hj hji));refine wpOp_mono (fun a' w' h3=>?_) h2;obtain ⟨h4,C',h5,h7,h6⟩:=h3;refine ⟨C',h5,h7,ih C' _ a' w' h5 ?_ (ready_mono hr (Ne.symm hji)) (hstep a' C' h4 h7) ?_⟩
    ·intro k ok hk hki hun hno';refine hf k ok hk hki ?_ hno'
     by_cases hjk:j=k
     ·subst hjk;exact hju
     ·rw [getD_set_ne true hjk] at hun;exact hun
    ·rw [Array.setIfInBounds_comm _ _ hji]
     exact h6
   cases fr with
   | true =>
    simp only [if_true] at hy
    exact key hy fun a' C' h _=>by simpa using h
   | false =>
    simp only [Bool.false_eq_true,if_false] at hy;have hk:inL ch j=false:=by simpa using hfr
    exact key hy fun a' C' h h7=>by simpa using h.mono (h7 hk)
def pk (P:Program) (ops:Array Oper) (Q:Exit→Act→World→Prop):(World→Prop)→List (PK × Oper)→Act→World→Prop
 | _,[],a,w=>Q .normal a w
 | C,(.free,o)::r,a,w=>∃ v,E2 P ops (fun _=>True) o v a∧pk P ops Q C r (a.put o.dst v) w
 | C,(.pure,o)::r,a,w=>∃ v,E2 P ops C o v a∧pk P ops Q C r (a.put o.dst v) w
 | C,(.keep,o)::r,a,w =>
  (Region.wanted o (yielded ops a.tmps)=true→o.wp P a w (fun a' w'=>∃ C':World→Prop,C' w'∧(∀ w,C' w→C w)∧pk P ops Q C' r a' w') Q) ∧
  (Region.wanted o (yielded ops a.tmps)=false→pk P ops Q C r (a.put o.dst undef) w)
 | C,(.chg,o)::r,a,w =>
  (Region.wanted o (yielded ops a.tmps)=true→o.wp P a w (fun a' w'=>∃ C':World→Prop,C' w'∧pk P ops Q C' r a' w') Q) ∧
  (Region.wanted o (yielded ops a.tmps)=false→pk P ops Q C r (a.put o.dst undef) w)
def Aif (ops:Array Oper) (fr:Bool) (ch:List Nat) (i:Nat) (listed:Array Bool):Bool :=
 match ops[i]? with
 | none=>false
 | some oi=>(List.range ops.size).all fun j=>match ops[j]? with
  | none=>true
  | some oj=>Nat.beq j i || listed.getD j true || oj.after.any (fun e=>Region.binds .any e && Nat.beq e.on i) || (oi.apart ops oj && (fr || !inL ch j))
def L6 (ops:Array Oper) (ch:List Nat):List (PK × Nat)→Array Bool→Bool
 | [],listed=>(Region.ready .any ops listed).isEmpty
 | (.free,i)::r,listed=>(Region.ready .any ops listed).any (Nat.beq i) && Aif ops true ch i listed && L6 ops ch r (listed.setIfInBounds i true)
 | (.pure,i)::r,listed=>(Region.ready .any ops listed).any (Nat.beq i) && Aif ops false ch i listed && L6 ops ch r (listed.setIfInBounds i true)
 | (.keep,i)::r,listed=>(match Region.ready .any ops listed with | [j]=>Nat.beq i j | _=>false) && L6 ops ch r (listed.setIfInBounds i true)
 | (.chg,i)::r,listed=>inL ch i && (match Region.ready .any ops listed with | [j]=>Nat.beq i j | _=>false) && L6 ops ch r (listed.setIfInBounds i true)
theorem Ui {fr:Bool} {i:Nat} {oi:Oper} {listed:Array Bool} (hi:ops[i]?=some oi) (hf:Aif ops fr ch i listed=true) :
  ∀ j oj,ops[j]?=some oj→j≠i→listed.getD j true=false→(∀ e∈oj.after,Region.binds .any e=true→e.on≠i)→oi.apart ops oj=true∧(fr=true∨inL ch j=false):=by
 intro j oj hj hji hun hno;unfold Aif at hf;simp only [hi] at hf;have hlt:j < ops.size:=by
  rcases Nat.lt_or_ge j ops.size with h' | h'
  ·exact h'
  ·rw [Array.getElem?_eq_none h'] at hj;cases hj
 have:=List.all_eq_true.1 hf j (List.mem_range.2 hlt);simp only [hj,Bool.or_eq_true,Bool.and_eq_true] at this
 rcases this with ((h1 | h1) | h1) | h1
 ·exact absurd (Nat.eq_of_beq_eq_true h1) hji
 ·rw [h1] at hun;cases hun
 ·obtain ⟨e,he,hb⟩:=Array.any_eq_true'.1 h1;simp only [Bool.and_eq_true] at hb
  exact absurd (Nat.eq_of_beq_eq_true hb.2) (hno e he hb.1)
 ·exact ⟨h1.1,by simpa using h1.2⟩
theorem G7 (hsel:∀ (j:Nat) (o:Oper) cs b,ops[j]?=some o→o.op≠.select cs b) (hQ:∀ c a d v w,Q (.panic c) (a.put d v) w→Q (.panic c) a w) :
  ∀ (order:List (PK × Nat)) (C:World→Prop) (listed:Array Bool) (plan:List (PK × Oper)) (a:Act) (w:World),order.map (fun x=>(x.1,ops[x.2]?))=plan.map (fun x=>(x.1,some x.2))→L6 ops ch order listed=true→C w →
   pk P ops Q C plan a w→Vm P ops Q ch C order.length listed a w
 | [],C,listed,plan,a,w,hp,hok,_,h=>by
  cases plan with
  | nil=>exact ⟨by simpa [L6] using hok,h⟩
  | cons x y=>simp at hp
 | (k,i)::order,C,listed,plan,a,w,hp,hok,hC,h=>by
  cases plan with
  | nil=>simp at hp
  | cons x plan =>
   obtain ⟨b,o⟩:=x;simp only [List.map_cons,List.cons.injEq,Prod.mk.injEq] at hp;obtain ⟨⟨rfl,hi⟩,hp⟩:=hp;have hin:∀ {l:List Nat},l.any (Nat.beq i)=true→i∈l:=by
    intro l hl;obtain ⟨j,hj,hb⟩:=List.any_eq_true.1 hl;rw [Nat.eq_of_beq_eq_true hb];exact hj
   have one:(match Region.ready .any ops listed with | [j]=>Nat.beq i j | _=>false)=true→Region.ready .any ops listed=[i]:=by
    intro hr
    split at hr
    ·rename_i j hj;rw [hj,Nat.eq_of_beq_eq_true hr]
    ·cases hr
   cases k with
   | free =>
    simp only [L6,Bool.and_eq_true] at hok;obtain ⟨⟨hr,hf⟩,hok⟩:=hok;obtain ⟨v,hy,h'⟩:=h
    exact Uz (fr:=true) hi hsel (fun c a w=>hQ c a o.dst v w) _ C listed a w hC (Ui hi hf) (hin hr) (by simpa using hy) (G7 hsel hQ order C _ plan _ w hp hok hC h')
   | pure =>
    simp only [L6,Bool.and_eq_true] at hok;obtain ⟨⟨hr,hf⟩,hok⟩:=hok;obtain ⟨v,hy,h'⟩:=h
    exact Uz (fr:=false) hi hsel (fun c a w=>hQ c a o.dst v w) _ C listed a w hC (Ui hi hf) (hin hr) (by simpa using hy) (G7 hsel hQ order C _ plan _ w hp hok hC h')
   | keep =>
    simp only [L6,Bool.and_eq_true] at hok;obtain ⟨hr,hok⟩:=hok;have hready:=one hr;refine ⟨fun h0=>(by rw [hready] at h0;cases h0),fun j hj=>?_⟩;rw [hready] at hj;have hji:j=i:=by simpa using hj
    subst hji;obtain ⟨h1,h2⟩:=h;unfold wpOp;simp only [hi]
    by_cases hw:Region.wanted o (yielded ops a.tmps)=true
    ·rw [if_pos hw]
     left
     exact Oper.wp_mono (fun a' w' hk=>by
      obtain ⟨C',h3,h4,h5⟩:=hk
      exact ⟨C',h3,fun _=>h4,G7 hsel hQ order C' _ plan a' w' hp hok h3 h5⟩) (h1 hw)
    ·rw [if_neg hw]
     exact ⟨C,hC,fun _ _ h=>h,G7 hsel hQ order C _ plan _ w hp hok hC (h2 (by simpa using hw))⟩
   | chg =>
    simp only [L6,Bool.and_eq_true] at hok;obtain ⟨⟨hch,hr⟩,hok⟩:=hok;have hready:=one hr;refine ⟨fun h0=>(by rw [hready] at h0;cases h0),fun j hj=>?_⟩;rw [hready] at hj;have hji:j=i:=by simpa using hj
    subst hji;obtain ⟨h1,h2⟩:=h;unfold wpOp;simp only [hi]
    by_cases hw:Region.wanted o (yielded ops a.tmps)=true
    ·rw [if_pos hw]
     left
     exact Oper.wp_mono (fun a' w' hk=>by
      obtain ⟨C',h3,h5⟩:=hk
      exact ⟨C',h3,fun h=>(by rw [hch] at h;cases h),G7 hsel hQ order C' _ plan a' w' hp hok h3 h5⟩) (h1 hw)
    ·rw [if_neg hw]
     exact ⟨C,hC,fun h=>(by rw [hch] at h;cases h),G7 hsel hQ order C _ plan _ w hp hok hC (h2 (by simpa using hw))⟩
def Mo (ops:Array Oper):List (PK × Nat)→List (PK × Oper)
 | []=>[]
 | x::r=>match ops[x.2]? with
  | some o=>(x.1,o)::Mo ops r
  | none=>Mo ops r
theorem L5:∀ (order:List (PK × Nat)),order.all (fun x=>Nat.ble (x.2+1) ops.size)=true→order.map (fun x=>(x.1,ops[x.2]?))=(Mo ops order).map (fun x=>(x.1,some x.2))
 | [],_=>rfl
 | x::r,h=>by
  simp only [List.all_cons,Bool.and_eq_true] at h;have hlt:x.2 < ops.size:=Nat.le_of_ble_eq_true h.1;simp only [Mo,Array.getElem?_eq_getElem hlt,List.map_cons,L5 r h.2]
def Tn (l:List Oper) (ch:List Nat) (order:List (PK × Nat)):Bool :=
 Region.noSelect l.toArray && order.all (fun x=>Nat.ble (x.2+1) l.length) && Nat.beq order.length l.length && L6 l.toArray ch order (Array.replicate l.length false)
theorem D5 {id:Nat} {l:List Oper} {a:Act} {w:World} (order:List (PK × Nat)) (ch:List Nat) (C:World→Prop) (hm:P.follows .mixedOrders=true) (hk:Tn l ch order=true)
  (hQ:∀ c a d v w,Q (.panic c) (a.put d v) w→Q (.panic c) a w) (hC:C { w with drawn:=w.drawn+1 }) (h:pk P l.toArray Q C (Mo l.toArray order) a { w with drawn:=w.drawn+1 }):(Code.region id l.toArray true).wp P Q a w:=by
 simp only [Tn,Bool.and_eq_true] at hk;obtain ⟨⟨⟨hs,hr⟩,hn⟩,hok⟩:=hk;refine wp_region_any hm (Mf (ch:=ch) _ C _ _ _ ?_);have hn':=Nat.eq_of_beq_eq_true hn;have:=G7 (P:=P) (Region.noSelect_spec hs) hQ order C (Array.replicate l.length false) _ a _ (L5 order (by simpa using hr)) hok hC h;rw [hn'] at this
 simpa using this
end
section
variable {P:Program} {ops:Array Oper} {Q:Exit→Act→World→Prop} {C:World→Prop} {n:Nat} {a:Act} {w w0:World} {e:Env} {G:Aq} {L:List Res} {d:Nat} {t:TypeId} {p:String} {af:Array Edge} {r:List (PK × Oper)}
theorem pk_free {op:Op} {v:Value} (F:Fits n a e) (hr:∀ w,True→(execOp a.eval ⟨some d,op,t,p,af,none⟩).run P w=.ok (.value v) w) (hd:Nat.ble (d+1) n=true)
  (k:∀ a',Fits n a' ((d,v)::e)→pk P ops Q C r a' w):pk P ops Q C ((.free,⟨some d,op,t,p,af,none⟩)::r) a w :=
 ⟨v,Or.inl ⟨rfl,hr⟩,k _ (F.put hd)⟩
theorem pk_pure {op:Op} {v:Value} (F:Fits n a e) (hr:∀ w,C w→(execOp a.eval ⟨some d,op,t,p,af,none⟩).run P w=.ok (.value v) w) (hd:Nat.ble (d+1) n=true)
  (k:∀ a',Fits n a' ((d,v)::e)→pk P ops Q C r a' w):pk P ops Q C ((.pure,⟨some d,op,t,p,af,none⟩)::r) a w :=
 ⟨v,Or.inl ⟨rfl,hr⟩,k _ (F.put hd)⟩
theorem Akm {op:Op} {v:Value} {j g:Nat} {want b:Bool} (F:Fits n a e) (hj:(ops[j]?).bind (·.dst)=some g) (hb:look e g=some (.bool b)) (hw:b=want)
  (hr:∀ w,True→(execOp a.eval ⟨some d,op,t,p,af,some (j,want)⟩).run P w=.ok (.value v) w) (hd:Nat.ble (d+1) n=true)
  (k:∀ a',Fits n a' ((d,v)::e)→pk P ops Q C r a' w):pk P ops Q C ((.free,⟨some d,op,t,p,af,some (j,want)⟩)::r) a w:=by
 have hy:yielded ops a.tmps j=some b:=by simp [yielded,hj,F.slot _ _ hb]
 subst hw
 exact ⟨v,Or.inl ⟨by simp [Region.wanted,hy],hr⟩,k _ (F.put hd)⟩
theorem Akl {op:Op} {v:Value} {j g:Nat} {want b:Bool} (F:Fits n a e) (hj:(ops[j]?).bind (·.dst)=some g) (hb:look e g=some (.bool b)) (hw:b=want)
  (hr:∀ w,C w→(execOp a.eval ⟨some d,op,t,p,af,some (j,want)⟩).run P w=.ok (.value v) w) (hd:Nat.ble (d+1) n=true)
  (k:∀ a',Fits n a' ((d,v)::e)→pk P ops Q C r a' w):pk P ops Q C ((.pure,⟨some d,op,t,p,af,some (j,want)⟩)::r) a w:=by
 have hy:yielded ops a.tmps j=some b:=by simp [yielded,hj,F.slot _ _ hb]
 subst hw
 exact ⟨v,Or.inl ⟨by simp [Region.wanted,hy],hr⟩,k _ (F.put hd)⟩
theorem pk_skip {q:PK} {op:Op} {j g:Nat} {want b:Bool} (F:Fits n a e) (hj:(ops[j]?).bind (·.dst)=some g) (hb:look e g=some (.bool b)) (hw:b = !want) (hd:Nat.ble (d+1) n=true)
  (k:∀ a',Fits n a' ((d,undef)::e)→pk P ops Q C r a' w):pk P ops Q C ((q,⟨some d,op,t,p,af,some (j,want)⟩)::r) a w:=by
 have hy:yielded ops a.tmps j=some b:=by simp [yielded,hj,F.slot _ _ hb]
 have hne:Region.wanted ⟨some d,op,t,p,af,some (j,want)⟩ (yielded ops a.tmps)=false:=by
  subst hw;cases want <;> simp [Region.wanted,hy]
 cases q with
 | free=>exact ⟨undef,Or.inr ⟨hne,rfl⟩,k _ (F.put hd)⟩
 | pure=>exact ⟨undef,Or.inr ⟨hne,rfl⟩,k _ (F.put hd)⟩
 | keep=>exact ⟨fun h=>(by rw [hne] at h;cases h),fun _=>k _ (F.put hd)⟩
 | chg=>exact ⟨fun h=>(by rw [hne] at h;cases h),fun _=>k _ (F.put hd)⟩
theorem Tc {o:Oper} {K:Act→World→Prop} (hw:Region.wanted o (yielded ops a.tmps)=true) (h:rl P ops (fun e a w=>match e with | .normal=>K a w | e=>Q e a w) [o] a w):o.wp P a w K Q:=by
 have h3:=h.1 hw;unfold Oper.wp at *
 generalize (execOp a.eval o).run P w=x at *
 cases x with
 | ok nx w' =>
  cases nx <;> simp only [Oper.upon] at h3 ⊢
  case value u=>exact h3
  case skip=>exact h3
  case defer d=>exact h3
  case enter f args =>
   refine Calls.mono h3 fun e w'' he=>?_
   cases e with
   | returned u=>exact he
   | panicked c=>exact he
   | outgrown=>obtain ⟨a0,w0,h0⟩:=he;exact ⟨a0,w0,h0⟩
  case row row args=>exact h3
 | halt x w'=>cases x <;> simp only [Oper.upon] at h3 ⊢ <;> exact h3
theorem pk_keep {o:Oper} (h:rl P ops (fun e a w=>match e with | .normal=>∃ C':World→Prop,C' w∧(∀ w,C' w→C w)∧pk P ops Q C' r a w | e=>Q e a w) [o] a w) (hg:o.guard=none) :
  pk P ops Q C ((.keep,o)::r) a w:=by
 have hw:Region.wanted o (yielded ops a.tmps)=true:=by simp [Region.wanted,hg]
 exact ⟨fun h1=>Tc hw h,fun h1=>(by rw [hw] at h1;cases h1)⟩
theorem pk_chg {o:Oper} (h:rl P ops (fun e a w=>match e with | .normal=>∃ C':World→Prop,C' w∧pk P ops Q C' r a w | e=>Q e a w) [o] a w) (hg:o.guard=none) :
  pk P ops Q C ((.chg,o)::r) a w:=by
 have hw:Region.wanted o (yielded ops a.tmps)=true:=by simp [Region.wanted,hg]
 exact ⟨fun h1=>Tc hw h,fun h1=>(by rw [hw] at h1;cases h1)⟩
theorem Fj {op:Op} {j g:Nat} {want b:Bool} (F:Fits n a e) (hj:(ops[j]?).bind (·.dst)=some g) (hb:look e g=some (.bool b)) (hw:b=want)
  (h:rl P ops (fun e a w=>match e with | .normal=>∃ C':World→Prop,C' w∧(∀ w,C' w→C w)∧pk P ops Q C' r a w | e=>Q e a w) [⟨some d,op,t,p,af,some (j,want)⟩] a w) :
  pk P ops Q C ((.keep,⟨some d,op,t,p,af,some (j,want)⟩)::r) a w:=by
 have hy:yielded ops a.tmps j=some b:=by simp [yielded,hj,F.slot _ _ hb]
 have hw':Region.wanted ⟨some d,op,t,p,af,some (j,want)⟩ (yielded ops a.tmps)=true:=by subst hw;simp [Region.wanted,hy]
 exact ⟨fun h1=>Tc hw' h,fun h1=>(by rw [hw'] at h1;cases h1)⟩
theorem Mem.atRowK {α:Type} {rd:Rd α} {sz:Nat} (M:Mem w0 G L w) {k m c:Nat} {ad:Option Addr} {cs:List Value} {bt:TypeId} {xs:List α} (hk:L[k]?=some (.row (.slice ad m c) m cs bt sz)) (hpos:0 < sz) (E:Els rd sz G cs xs)
  {Lr:List Res} {k':Nat} (hk':Lr[k']?=some (.row (.slice ad m c) m cs bt sz)) {j:Nat} {X:α} (hX:xs[j]?=some X) :
  ∃ b ch,Ix ad m j sz b (j * sz)∧m=xs.length∧ch.length=sz∧(∀ w,Keep G Lr w→∀ (q:Nat) (v:Value),ch[q]?=some v→w.cell? ⟨b,j * sz+q,none⟩=some v)∧rd G ch X:=by
 obtain ⟨l,ch,rr,h1,h2,h3,h4,h5⟩:=E.get hX;have hm:m=xs.length:=by
  have h6:=E.length;rw [(M.row_at hk).1.1] at h6
  exact Nat.eq_of_mul_eq_mul_right hpos h6
 have hlt:=A0 hX;obtain ⟨b,rfl⟩:=M.row_some hk (by omega);refine ⟨b,ch,⟨0,rfl,(Nat.zero_add _).symm,by omega⟩,hm,h3,fun w hK q v hq=>?_,h4⟩;have hrow:rowIs w (.slice (some ⟨b,0,none⟩) m c) m cs bt sz:=hK.own _ (List.mem_of_getElem? hk');have hq':cs[j * sz+q]?=some v:=by
  rw [h1,List.append_assoc,List.getElem?_append_right (by omega),h2,Nat.add_sub_cancel_left,List.getElem?_append_left (A0 hq),hq]
 have hlt':=A0 hq';rw [hrow.1.cellAt (j * sz+q) (by rw [← hrow.1.1];exact hlt'),hq']
end
end Go.Y
namespace Go.Y
open Go Go.RowKit
section
variable {P:Program} {ops:Array Oper} {Q:Exit→Act→World→Prop} {n:Nat} {a:Act} {w w0:World} {e:Env} {G:Aq} {L:List Res}
 {d:Nat} {t:TypeId} {p:String} {af:Array Edge} {r:List Oper} {ρ:Operand→Value} {dd:Option Tmp} {g:Option (Nat × Bool)}
theorem P1 (n:Nat) {ty e:TypeId} {ad:Option Addr} {m c:Nat} (ht:tk P ty=.slice e):(Op.equalIn (n+1) ty (.slice ad m c) (.slice none 0 0)).run P w=.ok ad.isNone w:=by
 cases ad <;> simp only [Op.equalIn,Sem.run_bind,B0 (C9 ht),Result.andThen_ok,Sem.run_pure] <;> rfl
theorem S5 {ty e:TypeId} {ad:Option Addr} {m c:Nat} (ht:tk P ty=.slice e):(Op.equal ty (.slice ad m c) (.slice none 0 0)).run P w=.ok ad.isNone w:=P1 9999 ht
theorem Ael {x y:Operand} {ty yt:TypeId} {e:TypeId} {ad:Option Addr} {n c:Nat} (ht:tk P ty=.slice e) (hx:ρ x=.slice ad n c) (hy:ρ y=.slice none 0 0) :
  (execOp ρ ⟨dd,.binOp .eql ty x y yt,t,p,af,g⟩).run P w=.ok (.value (.bool ad.isNone)) w:=by
 simp [execOp,hx,hy,eqGuard,binOp,S5 ht]
theorem Ajm {ats:Array TypeId} {x y:Operand} {k:IntKind} {b c:Nat} (hx:ρ x=.int k (b:Int)) (hy:ρ y=.int k (c:Int)) :
  (execOp ρ ⟨dd,.call ⟨.builtin .max,#[x,y],ats⟩,t,p,af,g⟩).run P w=.ok (.value (.int k ((max b c:Nat):Int))) w:=by
 rw [Aag hx hy,show ((max b c:Nat):Int)=max (b:Int) (c:Int) by omega]
theorem Vy {ats:Array TypeId} {x y:Operand} {k:IntKind} {b c:Nat} (hx:ρ x=.int k (b:Int)) (hy:ρ y=.int k (c:Int)) :
  (execOp ρ ⟨dd,.call ⟨.builtin .min,#[x,y],ats⟩,t,p,af,g⟩).run P w=.ok (.value (.int k ((min b c:Nat):Int))) w:=by
 rw [Aoi hx hy,show ((min b c:Nat):Int)=min (b:Int) (c:Int) by omega]
theorem Mem.row_none (M:Mem w0 G L w) {k n c:Nat} {ad:Option Addr} {cs:List Value} {t:TypeId} {sz:Nat} (hk:L[k]?=some (.row (.slice ad n c) n cs t sz)) (h:ad.isNone=true) :
  ad=none∧n=0∧c=0∧cs=[]:=by
 obtain ⟨⟨hl,h2⟩,_⟩:=M.row_at hk
 rcases h2 with ⟨h3,h0⟩ | ⟨g,cap,cur,he,_⟩
 ·simp only [Value.slice.injEq] at h3;refine ⟨h3.1,h0,h3.2.2,?_⟩;rw [h0,Nat.zero_mul] at hl
  exact List.eq_nil_of_length_eq_zero hl
 ·simp only [Value.slice.injEq] at he;rw [he.1] at h;simp at h
theorem P8 {f:FuncId} {cal:Operand} {args:List Operand} {ats:Array TypeId} {vs caps:List Value} {Φ:List Res→Value→Prop}
  (F:Fits n a e) (hE:Ent P f) (hc:ev e cal=some (.func (.func f) #[] caps.toArray)) (hv:evs e args=some vs) (hd:Nat.ble (d+1) n=true) (hs:Calls P f (vs++caps).toArray w (Ke w0 G Φ))
  (k:∀ v L' w' a',Mem w0 G L' w'→Φ L' v→Fits n a' ((d,v)::e)→rl P ops Q r a' w') :
  rl P ops Q (⟨some d,.call ⟨.value cal,args.toArray,ats⟩,t,p,af,none⟩::r) a w:=by
 refine H7 F hE hc hv hd hs fun x w' hx=>?_
 cases x with
 | returned v=>obtain ⟨L',h1,h2⟩:=hx;exact ⟨v,rfl,fun a' F'=>k v L' w' a' h1 h2 F'⟩
 | panicked c=>exact hx.elim
 | outgrown=>exact hx.elim
end
end Go.Y
namespace Go.Y
open Go Go.RowKit
def Hn:Nat→List (Nat × Value)→List (List Value)→Prop
 | _,[],[]=>True
 | k,p::ps,c::cs=>p.1=k∧p.2.cells=c.toArray∧Hn (k+1) ps cs
 | _,_,_=>False
theorem W4 (off:Nat):∀ (c:List Value) (j:Nat) (pre mid post:List Value),mid.length=c.length→pre.length=off+j →
  (c.zipIdx j).foldl (fun (cs:Array Value) (cj:Value × Nat)=>cs.setIfInBounds (off+cj.2) cj.1) (pre++mid++post).toArray=(pre++c++post).toArray
 | [],j,pre,mid,post,h,_=>by
  have:mid=[]:=List.eq_nil_of_length_eq_zero h;subst this;rfl
 | x::c,j,pre,mid,post,h,hp=>by
  match mid,h with
  | m::mid,h =>
   simp only [List.zipIdx_cons,List.foldl_cons];have h1:(pre++m::mid++post).toArray.setIfInBounds (off+j) x=((pre++[x])++mid++post).toArray:=by
    rw [← hp]
    simp
   rw [h1,W4 off c (j+1) (pre++[x]) mid post (by simpa using h) (by simp [hp];omega)]
   simp
theorem Uj {sz:Nat}:∀ (ps:List (Nat × Value)) (cs:List (List Value)) (k:Nat) (pre rest:List Value),Hn k ps cs→(∀ c∈cs,c.length=sz)→pre.length=k * sz→rest.length=cs.length * sz →
  Instr.fill (fun j=>some (j * sz,sz)) (pre++rest).toArray ps=some (pre++cs.flatten).toArray
 | [],[],k,pre,rest,_,_,_,hr=>by
  have:rest=[]:=List.eq_nil_of_length_eq_zero (by simpa using hr);subst this
  simp [Instr.fill]
 | p::ps,c::cs,k,pre,rest,h,hl,hp,hr=>by
  obtain ⟨i,v⟩:=p;obtain ⟨h1,h2,h3⟩:=h;simp only at h1 h2;subst h1;have hcl:c.length=sz:=hl c (by simp);have hr':rest.length=sz+cs.length * sz:=by simpa [Nat.add_mul,Nat.add_comm] using hr
  have hsplit:rest=rest.take sz++rest.drop sz:=by simp
  have hf:(c.toArray.zipIdx.foldl (fun (cs:Array Value) (cj:Value × Nat)=>cs.setIfInBounds (i * sz+cj.2) cj.1) (pre++rest).toArray)=((pre++c)++rest.drop sz).toArray:=by
   have:=W4 (i * sz) c 0 pre (rest.take sz) (rest.drop sz) (by rw [List.length_take];omega) (by omega);rw [← Array.foldl_toList,Array.toList_zipIdx];rw [← this]
   conv=>lhs;rw [hsplit]
   simp
  have hc:¬ (v.cells.size≠sz∨i * sz+v.cells.size > (pre++rest).toArray.size):=by
   rw [h2];simp only [List.size_toArray,List.length_append,hcl,hp,hr']
   omega
  simp only [Instr.fill];rw [if_neg (by simpa using hc),h2];have ih:=Uj ps cs (i+1) (pre++c) (rest.drop sz) h3 (fun c hc=>hl c (by simp [hc])) (by simp [hp,hcl,Nat.add_mul]) (by rw [List.length_drop];omega);rw [show (fun (cs:Array Value) (x:Value × Nat)=>match x with | (c,j)=>cs.setIfInBounds (i * sz+j) c)=(fun (cs:Array Value) (cj:Value × Nat)=>cs.setIfInBounds (i * sz+cj.2) cj.1) from rfl,hf,ih]
  simp
theorem Els.cons {α:Type} {rd:Rd α} {sz:Nat} {G:Aq} {c r:List Value} {x:α} {xs:List α} (h:rd G c x) (hl:c.length=sz) (hr:Els rd sz G r xs):Els rd sz G (c++r) (x::xs):=⟨c,r,rfl,hl,h,hr⟩
theorem Acj {sz:Nat}:∀ {cs:List (List Value)},(∀ c∈cs,c.length=sz)→cs.flatten.length=cs.length * sz
 | [],_=>by simp
 | c::cs,hl=>by
  have ih:=Acj (cs:=cs) (fun c hc=>hl c (by simp [hc]));have h0:=hl c (by simp);simp only [List.flatten_cons,List.length_append,List.length_cons,ih,h0,Nat.add_mul,Nat.one_mul]
  omega
section
variable {P:Program} {ops:Array Oper} {Q:Exit→Act→World→Prop} {n:Nat} {a:Act} {w w0:World} {e:Env} {G:Aq} {L:List Res}
 {d:Nat} {t:TypeId} {p:String} {af:Array Edge} {r:List Oper}
theorem B7 {s et:TypeId} {i:TI} {len:Nat} {parts:List (Nat × Operand)} {ps:List (Nat × Value)} {cs:List (List Value)} {fl:List Value} (F:Fits n a e) (M:Mem w0 G L w) (hs:tk P s=.slice et) (ht:TOK P et i)
  (hp:evp e parts=some ps) (hfl:cs.flatten=fl) (hP:Hn 0 ps cs) (hl:∀ c∈cs,c.length=i.size) (hlen:cs.length=len) (h1:∀ u∈fl,u.oneCell' = true) (hpos:0 < i.size) (hsm:len * i.size≤16777216) (hd:Nat.ble (d+1) n=true)
  (k:∀ v w' a',Mem w0 G (.row v len fl et i.size::L) w'→Fits n a' ((d,v)::e)→rl P ops Q r a' w') :
  rl P ops Q (⟨some d,.buildSlice s len parts.toArray,t,p,af,none⟩::r) a w:=by
 subst hfl;have hfl:cs.flatten.length=len * i.size:=by
  rw [← hlen];exact Acj hl
 refine Bf F (I7 (cs:=cs.flatten) hs ht hsm ?_) hd fun a' F'=>k _ _ a' ?_ F'
 ·rw [F.evp hp];have:=Uj (sz:=i.size) ps cs 0 [] ((Array.range (len * i.size)).map (i.zero.cells[· % i.zero.cells.size]!)).toList hP hl (by simp) (by simp [hlen]);rw [List.nil_append] at this;rw [show (Array.range (len * i.size)).map (i.zero.cells[· % i.zero.cells.size]!)=((Array.range (len * i.size)).map (i.zero.cells[· % i.zero.cells.size]!)).toList.toArray from rfl]
  simpa only [List.nil_append] using this
 ·have:=M.newrow (t:=et) (sz:=i.size) (cs:=cs.flatten) (spare:=[]) (n:=len) (c:=len) h1 hfl (by simpa using hfl) (Nat.le_refl _) ?_
  ·rw [List.append_nil] at this
   exact this
  ·simp only [maxLen];have:len * 1≤len * i.size:=Nat.mul_le_mul_left _ hpos
   omega
variable {ρ:Operand→Value} {dd:Option Tmp} {g:Option (Nat × Bool)}
theorem Aog {x y:Operand} {ty yt:TypeId} {k yk:IntKind} {a b:Int} {m:Nat} (hx:ρ x=.int k a) (hy:ρ y=.int yk b) (hb:b=(m:Int)) (hm:m≤k.bits) :
  (execOp ρ ⟨dd,.binOp .shr ty x y yt,t,p,af,g⟩).run P w=.ok (.value (.int k (a / 2 ^ m))) w:=by
 subst hb;have h0:¬ ((m:Int) < 0):=by omega
 have h1:(0:Int)≤2 ^ m:=Int.pow_nonneg (by decide)
 simp [execOp,hx,hy,eqGuard,binOp,Op.shift,h0,Nat.min_eq_left hm,Int.fdiv_eq_ediv_of_nonneg _ h1]
end
end Go.Y
namespace Go.Y
open Go Go.RowKit
def str (l:List UInt8):ByteArray:=⟨l.toArray⟩
theorem B5 (l:List UInt8):(str l).size=l.length:=by simp [str,ByteArray.size]
theorem Ks (l:List UInt8):(str l).toList=l:=by rw [Lib.toList_data];simp [str]
theorem D0 (l:List UInt8):(str l).data.toList=l:=by simp [str]
theorem Aea (l l':List UInt8):str l++str l' = str (l++l'):=by
 apply ByteArray.ext
 rw [ByteArray.data_append]
 simp [str]
theorem Jr (l:List UInt8) (a b:Nat):(str l).extract a b=str ((l.take b).drop a):=by
 rw [Lib.extract_eq,D0,str,List.drop_take]
theorem X3 (l:List UInt8) (i:Nat):(str l)[i]?=l[i]?:=by
 by_cases hi:i < l.length
 ·have h':i < (str l).size:=by rw [B5];exact hi
  rw [getElem?_pos (str l) i h',List.getElem?_eq_getElem hi]
  rfl
 ·have h':¬ i < (str l).size:=by rw [B5];exact hi
  rw [getElem?_neg (str l) i h',List.getElem?_eq_none (by omega)]
theorem bd (l l':List UInt8):(l==l')=decide (l=l'):=by
 by_cases h:l=l'
 ·subst h;simp
 ·simp [h]
def Cf:Rd (List UInt8):=fun _ cs x=>cs=[.string (str x)]∧x.length≤9223372036854775807
theorem Ay:Ho Cf:=fun _ _ _ _ _ h=>h
abbrev nb (b:UInt8):Int:=(b.toNat:Int)
theorem Wi (b:UInt8):nb b≤255:=by
 have:=b.toNat_lt;simp only [nb];omega
section
variable {P:Program} {w:World} {ρ:Operand→Value} {dd:Option Tmp} {t:TypeId} {p:String} {af:Array Edge} {g:Option (Nat × Bool)}
theorem S1 {ty:TypeId} {x:Operand} {l:List UInt8} (ht:tk P ty=.str) (hx:ρ x=.string (str l)) :
  (execOp ρ ⟨dd,.call ⟨.builtin .len,#[x],#[ty]⟩,t,p,af,g⟩).run P w=.ok (.value (.int .i64 (l.length:Nat))) w:=by
 simp [execOp,resolve,invoke,builtin,Builtin.len_,hx,B0 (Kf ht),goInt,B5]
theorem C4 {ty:TypeId} {x y:Operand} {l:List UInt8} {k:IntKind} {i:Nat} {b:UInt8} (ht:tk P ty=.str) (hx:ρ x=.string (str l)) (hy:ρ y=.int k (i:Int)) (hi:l[i]?=some b) :
  (execOp ρ ⟨dd,.index ty x y,t,p,af,g⟩).run P w=.ok (.value (.int .u8 (nb b))) w:=by
 have h0:(0:Int)≤(i:Int):=by omega
 simp [execOp,Instr.index,hx,hy,asIntOf,B0 (Kf ht),X3,hi]
theorem X8 {ty:TypeId} {x:Operand} {lo hi:Option Operand} {l:List UInt8} {a b:Nat} {ka kb:IntKind} {za zb:Int} (ht:tk P ty=.str) (hx:ρ x=.string (str l))
  (hl:match lo with | none=>a=0 | some y=>ρ y=.int ka za∧za=(a:Int)) (hh:match hi with | none=>b=l.length | some y=>ρ y=.int kb zb∧zb=(b:Int)) (h1:a≤b) (h2:b≤l.length) :
  (execOp ρ ⟨dd,.slice ty x lo hi none,t,p,af,g⟩).run P w=.ok (.value (.string (str ((l.take b).drop a)))) w:=by
 have hs':=B0 (w:=w) (Kf ht);have c1:(a:Int)≤(b:Int):=by omega
 have c2:(b:Int)≤(l.length:Int):=by omega
 cases lo with
 | none =>
  simp only at hl;subst hl
  cases hi with
  | none =>
   simp only at hh;subst hh
   simp [execOp,Instr.sliceAt,hs',Instr.slice,hx,Instr.sliceBounds,B5,Jr]
  | some y =>
   obtain ⟨hh,rfl⟩:=hh
   simp [execOp,Instr.sliceAt,hs',Instr.slice,hx,Instr.sliceBounds,Instr.sliceBound,hh,asIntOf,h2,B5,Jr]
 | some z =>
  obtain ⟨hl,rfl⟩:=hl
  cases hi with
  | none =>
   simp only at hh;subst hh
   simp [execOp,Instr.sliceAt,hs',Instr.slice,hx,Instr.sliceBounds,Instr.sliceBound,hl,asIntOf,h1,B5,Jr]
  | some y =>
   obtain ⟨hh,rfl⟩:=hh
   simp [execOp,Instr.sliceAt,hs',Instr.slice,hx,Instr.sliceBounds,Instr.sliceBound,hl,hh,asIntOf,h1,h2,B5,Jr]
theorem C1 {x y:Operand} {ty yt:TypeId} {l l':List UInt8} (hx:ρ x=.string (str l)) (hy:ρ y=.string (str l')) (h:l.length+l'.length≤9223372036854775807) :
  (execOp ρ ⟨dd,.binOp .add ty x y yt,t,p,af,g⟩).run P w=.ok (.value (.string (str (l++l')))) w:=by
 have h':((l.length:Int)+(l'.length:Int))≤9223372036854775807:=by omega
 simp [execOp,hx,hy,eqGuard,binOp,Op.stringOp,B5,Aea,h']
theorem Ajl {x y:Operand} {ty yt:TypeId} {l l':List UInt8} (hx:ρ x=.string (str l)) (hy:ρ y=.string (str l')) :
  (execOp ρ ⟨dd,.binOp .eql ty x y yt,t,p,af,g⟩).run P w=.ok (.value (.bool (decide (l=l')))) w:=by
 simp [execOp,hx,hy,eqGuard,binOp,Op.stringOp,Ks]
 exact bd _ _
theorem P0 {x y:Operand} {ty yt:TypeId} {l l':List UInt8} (hx:ρ x=.string (str l)) (hy:ρ y=.string (str l')) :
  (execOp ρ ⟨dd,.binOp .neq ty x y yt,t,p,af,g⟩).run P w=.ok (.value (.bool (!decide (l=l')))) w:=by
 simp [execOp,hx,hy,eqGuard,binOp,Op.stringOp,Ks]
 exact bd _ _
theorem Nt {x y:Operand} {ty yt:TypeId} {l l':List UInt8} (hx:ρ x=.string (str l)) (hy:ρ y=.string (str l')) :
  (execOp ρ ⟨dd,.binOp .geq ty x y yt,t,p,af,g⟩).run P w=.ok (.value (.bool (!Op.bytesLess l l'))) w:=by
 simp [execOp,hx,hy,eqGuard,binOp,Op.stringOp,Ks]
theorem Ns {x y:Operand} {ty yt:TypeId} {l l':List UInt8} (hx:ρ x=.string (str l)) (hy:ρ y=.string (str l')) :
  (execOp ρ ⟨dd,.binOp .leq ty x y yt,t,p,af,g⟩).run P w=.ok (.value (.bool (Op.bytesLess l l' || l==l'))) w:=by
 simp [execOp,hx,hy,eqGuard,binOp,Op.stringOp,Ks]
end
end Go.Y
namespace Go.Y
open Go Go.RowKit
def bc (l:List UInt8):List Value:=l.map fun b=>.int .u8 (nb b)
theorem Uy (l:List UInt8):(bc l).length=l.length:=by simp [bc]
theorem Amc (l l':List UInt8):bc (l++l')=bc l++bc l':=by simp [bc]
theorem bc_str (l:List UInt8):Lib.strCells (str l)=bc l:=by simp [Lib.strCells,bc,str,nb]
theorem bc_one (l:List UInt8):∀ u∈bc l,u.oneCell' = true:=by
 intro u hu;simp only [bc,List.mem_map] at hu;obtain ⟨b,_,rfl⟩:=hu
 rfl
def rdB:Rd UInt8:=fun _ cs x=>cs=[.int .u8 (nb x)]
theorem Cr:Ho rdB:=fun _ _ _ _ _ h=>h
section
variable {P:Program} {w0 w:World} {G:Aq} {L:List Res}
theorem Yu {w:World} {B:Nat} {e:TypeId} {sz:Nat} {v:Value} {n:Nat} {xs:List Value} (h:w.ownsRow B e sz v n xs):w.ownsRow 0 e sz v n xs:=by
 obtain ⟨h1,h2⟩:=h
 rcases h2 with h2 | ⟨g,cap,cur,h3,_,h5⟩
 ·exact ⟨h1,Or.inl h2⟩
 ·exact ⟨h1,Or.inr ⟨g,cap,cur,h3,Nat.zero_le _,h5⟩⟩
theorem Mem.appendStr (M:Mem w0 G L w) {k n:Nat} {v:Value} {cs:List Value} {t u ty e:TypeId} {i:TI} {l:List UInt8} (hk:L[k]?=some (.row v n cs e 1)) (ht:tk P t=.slice e) (hu:tk P u=.str) (hi:TOK P e i) (hz:i.zero=.int .u8 0) (hs:i.size=1) (hby:i.bytes=1)
  (h63:n+l.length≤140737488355328) :
  ∃ v' w',(Builtin.append_ #[t,u] ty #[v,.string (str l)]).run P w=.ok v' w'∧Mem w0 G (L.set k (.row v' (n+l.length) (cs++bc l) e 1)) w'∧(v' = .slice none 0 0↔v=.slice none 0 0∧l=[]):=by
 obtain ⟨x,hx1,hx2,hx3,hx4⟩:=hi.info;obtain ⟨hown,h2⟩:=M.row_at hk;have hus:=C9 ht;have huu:=Kf hu;rw [hz] at hx4;have hsz:=B5 l;have h64:n+(str l).size≤maxLen:=by rw [hsz];simp only [maxLen];omega
 have h65:n+(str l).size≤140737488355328:=by rw [hsz];exact h63
 have key:∀ v' w',(Builtin.append_ #[t,u] ty #[v,.string (str l)]).run P w=.ok v' w'→w'.ownsRow 0 e 1 v' (n+(str l).size) (cs++Lib.strCells (str l))→w.grownBy w' v.ownBlock→(∀ b,v'.ownBlock=some b→v.ownBlock=some b∨w.heap.size≤b)→(v' = .slice none 0 0↔v=.slice none 0 0∧(str l).size=0) →
   ∃ v' w',(Builtin.append_ #[t,u] ty #[v,.string (str l)]).run P w=.ok v' w'∧Mem w0 G (L.set k (.row v' (n+l.length) (cs++bc l) e 1)) w'∧(v' = .slice none 0 0↔v=.slice none 0 0∧l=[]):=by
  intro v' w' hr ho hg hf hn;rw [hsz,bc_str] at ho;refine ⟨v',w',hr,M.grow_at hk hf ⟨ho,fun u hu=>?_⟩ hg.os hg.tape hg.output hg.size (fun b hb hne=>hg.block b hb (fun e=>hne e.symm)),?_⟩
  ·rcases List.mem_append.1 hu with hu | hu
   ·exact h2 u hu
   ·exact bc_one l u hu
  ·rw [hn,hsz]
   constructor
   ·rintro ⟨h1,h2⟩;exact ⟨h1,List.eq_nil_of_length_eq_zero h2⟩
   ·rintro ⟨h1,h2⟩;exact ⟨h1,by rw [h2];rfl⟩
 rcases hown.2 with ⟨hv,hn0⟩ | ⟨g,cap,cur,hv,hbg,hgg,hnc,hcm,hcs,htake⟩
 ·obtain ⟨v',w',hr,ho,hg,hn⟩:=Lib.run_append_own_string (P:=P) w w.heap.size t u ty e x hus huu hx1 hx4 (by rw [hx2,hs]) (by rw [hx3,hby]) v n cs ⟨hown.1,Or.inl ⟨hv,hn0⟩⟩ (str l) h64 h65 (Nat.le_refl _);refine key v' w' hr (Yu ho) hg (fun b hb=>?_) hn
  rcases ho.2 with ⟨hv',_⟩ | ⟨g',cap',cur',hv',hbg',_⟩
  ·rw [hv'] at hb;simp [Value.ownBlock] at hb
  ·rw [hv'] at hb;simp only [Value.ownBlock,Option.some.injEq] at hb;subst hb;exact Or.inr hbg'
 ·obtain ⟨v',w',hr,ho,hg,hn⟩:=Lib.run_append_own_string (P:=P) w 0 t u ty e x hus huu hx1 hx4 (by rw [hx2,hs]) (by rw [hx3,hby]) v n cs hown (str l) h64 h65 (Nat.zero_le _);refine key v' w' hr ho hg (fun b hb=>?_) hn;subst hv;have hsz2:cap * 1=cur.size:=by first | exact hcs | exact hcs.symm
  by_cases hroom:n+(str l).size≤cap
  ·have:=Lib.run_append_room_string (P:=P) w t u ty e x hus huu hx1 (by rw [hx2,hs]) g n cap cur hgg (str l) hroom (by omega);rw [this] at hr;simp only [Result.ok.injEq] at hr;obtain ⟨rfl,_⟩:=hr
   exact Or.inl hb
  ·have holds:=hown.cells (g:=g) rfl;have:=Lib.run_append_grow_string (P:=P) w t u ty e x _ hus huu hx1 hx4 ⟨g,0,none⟩ n cap cs (by rw [hx2,hs];exact hown.1) holds (str l) (by omega) (by simp only [maxLen] at h64;omega)
    (by rw [hx3,hby];exact growslice_fits (by omega) (by omega))
   rw [this] at hr;simp only [Result.ok.injEq] at hr;obtain ⟨rfl,_⟩:=hr;simp only [Value.ownBlock,Option.some.injEq] at hb
   right;omega
theorem Mem.freezeRow (M:Mem w0 G L w) {k n c g:Nat} {cs:List Value} {e:TypeId} (hk:L[k]?=some (.row (.slice (some ⟨g,0,none⟩) n c) n cs e 1)) (m:Nat):Mem w0 G (L.eraseIdx k) (w.freeze ⟨g,0,none⟩ m):=by
 have M':=M.perm (Af L k _ hk)
 by_cases hm:m=0
 ·subst hm;have:w.freeze ⟨g,0,none⟩ 0=w:=by simp [World.freeze]
  rw [this]
  exact M'.weaken (List.sublist_cons_self _ _)
 ·have hh:∀ b,b≠g→(w.freeze ⟨g,0,none⟩ m).heap[b]?=w.heap[b]?:=fun b hb=>by
   simp only [World.freeze,hm,if_false,Array.getElem?_modify];rw [if_neg (fun e=>hb e.symm)]
  have hgo:∃ o,(w.freeze ⟨g,0,none⟩ m).heap[g]?=some o:=by
   obtain ⟨hown,_⟩:=M.row_at hk;have hlt:g < w.heap.size:=(hown.lt g rfl).2;have:g < (w.freeze ⟨g,0,none⟩ m).heap.size:=by simpa [World.freeze,hm] using hlt
   exact ⟨_,Array.getElem?_eq_getElem this⟩
  obtain ⟨o,ho⟩:=hgo;have:=M'.swap_head (y:=.obj g o) (w':=w.freeze ⟨g,0,none⟩ m) rfl ho (by simp [World.freeze,hm]) (by simp [World.freeze,hm]) (by simp [World.freeze,hm]) (by simp [World.freeze,hm]) (fun b hb=>hh b (fun e=>hb (by simp [Res.foot,Value.ownBlock,e])))
  exact this.weaken (List.sublist_cons_self _ _)
end
section
variable {P:Program} {ops:Array Oper} {Q:Exit→Act→World→Prop} {n:Nat} {a:Act} {w w0:World} {e:Env} {G:Aq} {L:List Res}
 {d:Nat} {t:TypeId} {p:String} {af:Array Edge} {r:List Oper}
theorem S9 {ρ:Operand→Value} {dd:Option Tmp} {g:Option (Nat × Bool)} {s u:TypeId} {x y:Operand} {v z v':Value} {w':World} (hx:ρ x=v) (hy:ρ y=z)
  (h:(Builtin.append_ #[s,u] t #[v,z]).run P w=.ok v' w'):(execOp ρ ⟨dd,.call ⟨.builtin .append,#[x,y],#[s,u]⟩,t,p,af,g⟩).run P w=.ok (.value v') w':=by
 simp [execOp,resolve,invoke,builtin,hx,hy,h]
theorem Yj {s u et:TypeId} {i:TI} {x y:Operand} {v:Value} {k m:Nat} {cs:List Value} {l:List UInt8}
  (F:Fits n a e) (M:Mem w0 G L w) (hk:L[k]?=some (.row v m cs et 1)) (hs:tk P s=.slice et) (hu:tk P u=.str) (ht:TOK P et i) (hz:i.zero=.int .u8 0) (h1:i.size=1) (hb:i.bytes=1)
  (hx:ev e x=some v) (hy:ev e y=some (.string (str l))) (hlen:m+l.length≤140737488355328) (hd:Nat.ble (d+1) n=true)
  (kk:∀ v' w' a',Mem w0 G (L.set k (.row v' (m+l.length) (cs++bc l) et 1)) w'→(v' = .slice none 0 0↔v=.slice none 0 0∧l=[])→Fits n a' ((d,v')::e)→rl P ops Q r a' w') :
  rl P ops Q (⟨some d,.call ⟨.builtin .append,#[x,y],#[s,u]⟩,t,p,af,none⟩::r) a w:=by
 obtain ⟨v',w',hr,M',hn⟩:=M.appendStr (P:=P) (ty:=t) (t:=s) (u:=u) hk hs hu ht hz h1 hb hlen
 exact Bf F (S9 (F.ev hx) (F.ev hy) hr) hd fun a' F'=>kk v' w' a' M' hn F'
theorem U5 {ρ:Operand→Value} {dd:Option Tmp} {g:Option (Nat × Bool)} {s:TypeId} {x:Operand} {ad:Addr} {m c:Nat} (hx:ρ x=.slice (some ad) m c) (hc:c≠0) :
  (execOp ρ ⟨dd,.call ⟨.builtin .unsafeSliceData,#[x],#[s]⟩,t,p,af,g⟩).run P w=.ok (.value (.pointer (some ad))) w:=by
 simp [execOp,resolve,invoke,builtin,hx,Lib.run_unsafeSliceData_row w #[s] t ad m c hc]
theorem Sy {ρ:Operand→Value} {dd:Option Tmp} {g:Option (Nat × Bool)} {s:TypeId} {x:Operand} {m c:Nat} (hx:ρ x=.slice none m c) :
  (execOp ρ ⟨dd,.call ⟨.builtin .unsafeSliceData,#[x],#[s]⟩,t,p,af,g⟩).run P w=.ok (.value (.pointer none)) w:=by
 simp [execOp,resolve,invoke,builtin,hx,Lib.run_unsafeSliceData_nil w #[s] t m c]
theorem Ss {ρ:Operand→Value} {dd:Option Tmp} {g:Option (Nat × Bool)} {s u:TypeId} {x y:Operand} (hx:ρ x=.pointer none) (hy:ρ y=.int .i64 0) :
  (execOp ρ ⟨dd,.call ⟨.builtin .unsafeString,#[x,y],#[s,u]⟩,t,p,af,g⟩).run P w=.ok (.value (.string (str []))) w:=by
 simp [execOp,resolve,invoke,builtin,hx,hy,Lib.run_unsafeString_none w s u t none]
 rfl
theorem Yg {s u et:TypeId} {i:TI} {x y:Operand} {k c g:Nat} {l:List UInt8} (F:Fits n a e) (M:Mem w0 G L w) (hk:L[k]?=some (.row (.slice (some ⟨g,0,none⟩) l.length c) l.length (bc l) et 1))
  (hp:tk P s=.ptr et) (ht:TOK P et i) (h1:i.size=1) (h0:l≠[]) (hx:ev e x=some (.pointer (some ⟨g,0,none⟩))) (hy:ev e y=some (.int .i64 (l.length:Nat))) (hd:Nat.ble (d+1) n=true)
  (kk:∀ w' a',Mem w0 G (L.eraseIdx k) w'→Fits n a' ((d,.string (str l))::e)→rl P ops Q r a' w') :
  rl P ops Q (⟨some d,.call ⟨.builtin .unsafeString,#[x,y],#[s,u]⟩,t,p,af,none⟩::r) a w:=by
 obtain ⟨hown,h2⟩:=M.row_at hk;have hc:P.cellsOf et=1:=by
  obtain ⟨z,hz1,hz2,_⟩:=ht.info
  simp [Program.cellsOf,hz1,hz2,h1]
 rcases hown.2 with ⟨hv,hn0⟩ | ⟨g',cap,cur,hv,hbg,hgg,hnc,hcm,hcs,htake⟩
 ·cases hv
 ·simp only [Value.slice.injEq,Option.some.injEq,Addr.mk.injEq,true_and,and_true] at hv;obtain ⟨rfl,rfl⟩:=hv;have hsh:w.shape? g=some (et,cur.size):=by simp [World.shape?,hgg]
  have holds:=hown.cells (g:=g) rfl;have hr:=Lib.run_unsafeString_row (P:=P) w s u t et (Kg hp) hc g cur.size hsh l h0 (by omega) (by simp only [maxLen] at hcm;omega) (fun j x hx=>holds j _ (by rw [bc,List.getElem?_map,hx];rfl));refine Bf F (w':=w.freeze ⟨g,0,none⟩ l.length) ?_ hd fun a' F'=>kk _ a' (M.freezeRow hk _) F';have hx':=F.ev hx;have hy':=F.ev hy;simp only [execOp,resolve,Sem.run_bind,Sem.run_pure,Result.andThen_ok,invoke,builtin]
  simp [hx',hy',hr]
  rfl
theorem S0 {ρ:Operand→Value} {dd:Option Tmp} {g:Option (Nat × Bool)} {ty yt te:TypeId} {i:TI} {x y:Operand} {ad:Addr} (hp:tk P ty=.ptr te) (ht:TOK P te i) (hx:ρ x=.pointer (some ad)) (hy:ρ y=.pointer (some ad)) :
  (execOp ρ ⟨dd,.binOp .neq ty x y yt,t,p,af,g⟩).run P w=.ok (.value (.bool false)) w:=by
 obtain ⟨z,hz,_⟩:=ht.info;have:=Lib.run_neq_ptr_same (P:=P) w ad (Kg hp) hz
 simp [execOp,hx,hy,eqGuard,this]
theorem X7 {ρ:Operand→Value} {dd:Option Tmp} {g:Option (Nat × Bool)} {src dst te bt:TypeId} {i:TI} {x:Operand} {b k o:Nat} {cs:List Value} (M:Mem w0 G L w) (hk:L[k]?=some (.blk b cs bt)) (ho:o < cs.length)
  (hs:tk P src=.ptr te) (hd:P.underlying dst=some .unsafePointer) (ht:TOK P te i) (h0:i.size≠0) (hx:ρ x=.pointer (some ⟨b,o,none⟩)) :
  (execOp ρ ⟨dd,.convert src dst x,t,p,af,g⟩).run P w=.ok (.value (.pointer (some ⟨b,o,none⟩))) w:=by
 obtain ⟨z,hz,hz2,_⟩:=ht.info;have hh:w.heap[b]?=some (.cells cs.toArray bt (0,0)):=M.own _ (List.mem_of_getElem? hk);have hsh:w.shape? b=some (bt,cs.length):=by simp [World.shape?,hh]
 have:=Lib.run_to_unsafe (P:=P) w ⟨b,o,none⟩ (Kg hs) hd hz (by rw [hz2];exact h0) hsh ho
 simp [execOp,hx,this]
theorem S4 {ρ:Operand→Value} {dd:Option Tmp} {g:Option (Nat × Bool)} {src dst te bt:TypeId} {i:TI} {x:Operand} {b k o:Nat} {cs:List Value} (M:Mem w0 G L w) (hk:L[k]?=some (.blk b cs bt))
  (hs:P.underlying src=some .unsafePointer) (hd:tk P dst=.ptr te) (ht:TOK P te i) (hl:liesAt P P.depth bt (cs.length / P.cellsOf bt) o te 1=true) (hx:ρ x=.pointer (some ⟨b,o,none⟩)) :
  (execOp ρ ⟨dd,.convert src dst x,t,p,af,g⟩).run P w=.ok (.value (.pointer (some ⟨b,o,none⟩))) w:=by
 obtain ⟨z,hz,_⟩:=ht.info;have hh:w.heap[b]?=some (.cells cs.toArray bt (0,0)):=M.own _ (List.mem_of_getElem? hk);have hsh:w.shape? b=some (bt,cs.length):=by simp [World.shape?,hh]
 have:=Lib.run_from_unsafe (P:=P) w ⟨b,o,none⟩ hs (Kg hd) hz hsh hl
 simp [execOp,hx,this]
theorem run_noEscape {ρ:Operand→Value} {dd:Option Tmp} {g:Option (Nat × Bool)} {f:FuncId} {fn:Func} {x:Operand} {ats:Array TypeId} {v:Value} (hf:P.funcs[f]?=some fn) (hname:(fn.name== "runtime.NumGoroutine")=false)
  (hb:fn.body.isNone=true) (hn:Extern.findNext fn=none) (he:Extern.find fn=some Extern.AbiNoEscape.same) (hx:ρ x=v) (hfo:ρ (.func f)=.func (.func f) #[] #[]) :
  (execOp ρ ⟨dd,.call ⟨.value (.func f),#[x],ats⟩,t,p,af,g⟩).run P w=.ok (.value v) w:=by
 have h2:=run_callFunc_extern (P:=P) hf hname hb hn he #[v] w;rw [Lib.run_noEscape] at h2;simp only [execOp,resolve,hfo,Deferred.ofValue,Sem.run_bind,Sem.run_pure,Result.andThen_ok,invoke]
 simp [hx,h2]
end
end Go.Y
namespace Go.Y
open Go Go.RowKit Go.Sort
section
variable {P:Program} {w0 w:World} {G:Aq} {L:List Res}
theorem Mem.below' (M:Mem w0 G L w) {w':World} (h:Below w.heap.size w w'):Mem w0 G L w':=M.same h.os h.tape h.output h.size h.block
theorem Mem.drewN (M:Mem w0 G L w) (n:Nat):Mem w0 G L (w.drewN n):=M.same rfl rfl rfl (Nat.le_refl _) (fun _ _=>rfl)
theorem Mem.grew (M:Mem w0 G L w) (os:Array Obj):Mem w0 G L (Go.Sort.grow w os) :=
 M.same rfl rfl rfl (by simp [Go.Sort.grow]) (fun b hb=>by
  show (w.heap++os)[b]?=_
  rw [Array.getElem?_append_left hb])
abbrev Aud:UInt8→Value:=fun b=>Value.int .u8 (b.toNat:Int)
theorem Mem.holdsB (M:Mem w0 G L w) {k b:Nat} {l:List UInt8} {t:TypeId} (hk:L[k]?=some (.blk b (bc l) t)) (m:Nat) (hm:m≤l.length):Holds Aud w b 0 (l.take m).toArray:=by
 intro j hj;have hj':j < m:=by simp only [List.size_toArray,List.length_take] at hj;omega
 have hjl:j < l.length:=by omega
 refine ⟨M.cellL hk ?_,M.frozenL hk _⟩;rw [Nat.zero_add,bc,List.getElem?_map,List.getElem?_eq_getElem hjl];rw [getElem!_pos _ j (by simpa using hj)]
 simp [Aud,nb]
theorem Mem.putRowB (M:Mem w0 G L w) {k b:Nat} {l:List UInt8} {t:TypeId} (hk:L[k]?=some (.blk b (bc l) t)) (dk:Array UInt8) (hm:dk.size≤l.length) (n:Nat) :
  Mem w0 G (L.set k (.blk b (bc (dk.toList++l.drop dk.size)) t)) ((putRow Aud w b 0 dk).drewN n):=by
 refine Mem.drewN ?_ n;have hh:w.heap[b]?=some (.cells (bc l).toArray t (0,0)):=M.own _ (List.mem_of_getElem? hk);refine M.swap_at hk rfl ?_ rfl rfl rfl (by simp [putRow,mapBlock]) ?_
 ·show (putRow Aud w b 0 dk).heap[b]?=_
  simp only [putRow,mapBlock,Array.getElem?_modify,hh,if_true,Option.map_some,onCells]
  congr 2
  apply Array.ext_getElem?
  intro j;simp only [putCells,Array.getElem?_mapIdx,List.getElem?_toArray]
  by_cases hj:j < l.length
  ·rw [bc,List.getElem?_map,List.getElem?_eq_getElem hj];simp only [Option.map_some]
   by_cases hd:j < dk.size
   ·rw [bc,List.getElem?_map,List.getElem?_append_left (by simpa using hd)];have:dk.toList[j]?=some dk[j]:=by simp [hd]
    rw [this]
    simp [hd,Aud,nb]
   ·rw [bc,List.getElem?_map,List.getElem?_append_right (by simpa using Nat.le_of_not_lt hd),List.getElem?_drop];have e:dk.size+(j - dk.toList.length)=j:=by simp;omega
    rw [e,List.getElem?_eq_getElem hj]
    simp [hd]
  ·rw [List.getElem?_eq_none (by rw [Uy];omega),List.getElem?_eq_none (by rw [Uy,List.length_append,List.length_drop];simp;omega)]
   rfl
 ·intro r hr;simp only [putRow,mapBlock,Array.getElem?_modify];rw [if_neg (fun e=>hr (by simp [Res.foot,e]))]
end
section
variable {P:Program} {w0 w:World} {G:Aq} {L:List Res} {ρ:Operand→Value} {dd:Option Tmp} {t:TypeId} {p:String} {af:Array Edge} {g:Option (Nat × Bool)}
theorem Apf (l:List UInt8):strOfNums (l.map fun b=>(b.toNat:Int))=str l:=by
 unfold strOfNums str;rw [List.map_map]
 congr 2
 conv=>rhs;rw [← List.map_id l]
 apply List.map_congr_left
 intro b _
 simp
def De:Value→Bool
 | .nilIface=>true
 | _=>false
theorem Oq {ta et:TypeId} {i:TI} {x y:Operand} {n b h:Nat} {k:IntKind} {z:Int} (ha:tk P ta=.array n et) (ht:TOK P et i) (hx:ρ x=.pointer (some ⟨b,0,none⟩)) (hy:ρ y=.int k z) (hz:z=(h:Int)) (hh:h≤n) :
  (execOp ρ ⟨dd,.slice ta x none (some y) none,t,p,af,g⟩).run P w=.ok (.value (.slice (some ⟨b,0,none⟩) h n)) w:=by
 subst hz;have h1:(h:Int)≤(n:Int):=by omega
 simp [execOp,Instr.sliceAt,B0 (Dz ha),hx,Instr.sureAddr,Instr.sliceBounds,Instr.sliceBound,hy,asIntOf,hh,ht.sizeOf,D9]
theorem Ut {src dst e:TypeId} {b o n c:Nat} {l:List UInt8} (hs:tk P src=.slice e) (he:tk P e=.int .u8) (hd:tk P dst=.str) (hl:l.length=n)
  (hc:∀ j,j < n→w.cell? ⟨b,o+j,none⟩=(bc l)[j]?):(convert src dst (.slice (some ⟨b,o,none⟩) n c)).run P w=.ok (.string (str l)) w:=by
 have:=run_convert_bytes_arg (P:=P) w src e (C9 hs) (Bo he) b o n c (l.map fun b=>(b.toNat:Int)) (by simpa using hl) (fun j hj=>by
  rw [hc j hj,bc,List.getElem?_map,List.getElem?_eq_getElem (by omega),List.getD_eq_getElem?_getD,List.getElem?_map,List.getElem?_eq_getElem (by omega)]
  rfl) dst (Kf hd)
 rw [this,Apf]
theorem X9 {src dst e bt:TypeId} {x:Operand} {k b n c:Nat} {l:List UInt8} (M:Mem w0 G L w) (hk:L[k]?=some (.blk b (bc l) bt)) (hs:tk P src=.slice e) (he:tk P e=.int .u8) (hd:tk P dst=.str)
  (hx:ρ x=.slice (some ⟨b,0,none⟩) n c) (hn:n≤l.length):(execOp ρ ⟨dd,.convert src dst x,t,p,af,g⟩).run P w=.ok (.value (.string (str (l.take n)))) w:=by
 have:=Ut (P:=P) (w:=w) (b:=b) (o:=0) (n:=n) (c:=c) (l:=l.take n) hs he hd (by rw [List.length_take];omega) (fun j hj=>by
  have h1:(bc (l.take n))[j]?=(bc l)[j]?:=by
   simp only [bc,List.getElem?_map,List.getElem?_take,if_pos hj]
  rw [h1,Nat.zero_add];have hjl:j < (bc l).length:=by rw [Uy];omega
  rw [List.getElem?_eq_getElem hjl]
  exact M.cellL hk (List.getElem?_eq_getElem hjl))
 simp [execOp,hx,this]
theorem P2 (n:Nat) {ty:TypeId} (hi:tk P ty=.iface) {v:Value} (hv:v=.nilIface∨∃ te u,v=.iface te u):(Op.equalIn (n+1) ty v .nilIface).run P w=.ok (De v) w:=by
 have hu:∃ m,P.underlying ty=some (.interface m):=by
  unfold tk at hi
  split at hi <;> simp_all
 obtain ⟨m,hu⟩:=hu
 rcases hv with rfl | ⟨te,u,rfl⟩
 ·simp only [Op.equalIn,Sem.run_bind,B0 hu,Result.andThen_ok,Sem.run_pure,De]
 ·simp only [Op.equalIn,Sem.run_bind,B0 hu,Result.andThen_ok,Sem.run_pure,De]
theorem Hk {ty:TypeId} (hi:tk P ty=.iface) {v:Value} (hv:v=.nilIface∨∃ te u,v=.iface te u):(Op.equal ty v .nilIface).run P w=.ok (De v) w:=P2 9999 hi hv
theorem Kw {x:Operand} {ty yt:TypeId} {v:Value} (hi:tk P ty=.iface) (hv:v=.nilIface∨∃ te u,v=.iface te u) (hx:ρ x=v) (hc:ρ (.const .nilIface)=.nilIface) :
  (execOp ρ ⟨dd,.binOp .eql ty x (.const .nilIface) yt,t,p,af,g⟩).run P w=.ok (.value (.bool (De v))) w:=by
 rcases hv with rfl | ⟨te,u,rfl⟩
 ·simp [execOp,hx,hc,eqGuard,binOp,Hk hi (Or.inl rfl),De]
 ·simp [execOp,hx,hc,eqGuard,binOp,Hk hi (Or.inr ⟨te,u,rfl⟩),De]
theorem Aej {x:Operand} {ty yt:TypeId} {v:Value} (hi:tk P ty=.iface) (hv:v=.nilIface∨∃ te u,v=.iface te u) (hx:ρ x=v) (hc:ρ (.const .nilIface)=.nilIface) :
  (execOp ρ ⟨dd,.binOp .neq ty x (.const .nilIface) yt,t,p,af,g⟩).run P w=.ok (.value (.bool (!(De v)))) w:=by
 rcases hv with rfl | ⟨te,u,rfl⟩
 ·simp [execOp,hx,hc,eqGuard,binOp,Hk hi (Or.inl rfl),De]
 ·simp [execOp,hx,hc,eqGuard,binOp,Hk hi (Or.inr ⟨te,u,rfl⟩),De]
end
structure Globs (gt gm gs gr:Nat) (G:Aq):Prop where
 tab:∃ t f,G gt=some (.cells (Lib.pow10Tab.map fun z=>Value.int .u64 z).toArray t f)
 max:∃ m,Hc G gm 0=some (.int .i64 m)
 syn:∃ ev,Hc G gs 0=some ev∧(ev=.nilIface∨∃ te pe,ev=.iface te pe)
 rng:∃ ev,Hc G gr 0=some ev∧(ev=.nilIface∨∃ te pe,ev=.iface te pe)
theorem Globs.mono {gt gm gs gr:Nat} {G G':Aq} (h:Globs gt gm gs gr G) (hg:Gle G G'):Globs gt gm gs gr G':=by
 obtain ⟨⟨t,f,h1⟩,⟨m,h2⟩,⟨e1,h3,h4⟩,⟨e2,h5,h6⟩⟩:=h
 exact ⟨⟨t,f,hg _ _ h1⟩,⟨m,K4 hg h2⟩,⟨e1,K4 hg h3,h4⟩,⟨e2,K4 hg h5,h6⟩⟩
section
variable {P:Program} {w0 w:World} {G:Aq} {L:List Res}
theorem Globs.tabIs {gt gm gs gr:Nat} (h:Globs gt gm gs gr G) (M:Mem w0 G L w) {name:String} (hn:P.globalNamed name=some gt):Lib.TabIs P w name .u64 Lib.pow10Tab:=by
 obtain ⟨t,f,h1⟩:=h.tab
 simp [Lib.TabIs,World.var?,hn,M.pers _ _ h1]
theorem Mem.bytesWorld (M:Mem w0 G L w) (e:TypeId) (s:ByteArray):Mem w0 G L (Lib.bytesWorld w e s):=by
 refine M.same rfl rfl rfl ?_ ?_
 ·simp only [Lib.bytesWorld,World.freeze,if_neg (by decide:¬ (1=0)),World.alloc,World.drew,Array.size_modify,Array.size_push];omega
 ·intro b hb;simp only [Lib.bytesWorld,World.freeze,if_neg (by decide:¬ (1=0)),World.alloc,World.drew,Array.getElem?_modify];rw [if_neg (by omega),Array.getElem?_push,if_neg (by omega)]
end
theorem Aow {M:Nat}:∀ (l:List UInt8) (acc u:Nat),acc≤M→Lib.parseUintM M acc l=.ok u→u≤M
 | [],acc,u,h,hu=>by
  simp only [Lib.parseUintM,Lib.NumEnd.ok.injEq] at hu
  omega
 | c::r,acc,u,h,hu=>by
  unfold Lib.parseUintM at hu
  split at hu
  ·split at hu
   ·cases hu
   ·split at hu
    ·cases hu
    ·exact Aow r _ u (by omega) hu
  ·cases hu
theorem pu64_le {l:List UInt8} {u:Nat} (h:Lib.parseUintB 64 l=.ok u):u≤18446744073709551615:=by
 unfold Lib.parseUintB at h
 split at h
 ·cases h
 ·exact Aow l 0 u (by omega) h
theorem Afn {u v:Nat} {dk:Array UInt8} (h:Lib.FmtInv (Lib.nDigits u) u 0 v dk):dk.toList=Lib.decDigits u:=by
 rw [Lib.decDigits_eq]
 apply List.ext_getElem?
 intro t;have hs:=h.size
 by_cases ht:t < Lib.nDigits u
 ·have h1:=h.done t (Nat.zero_le _) ht;rw [getElem!_pos dk t (by omega)] at h1;rw [List.getElem?_map,List.getElem?_range ht,Option.map_some,← h1]
  simp [show t < dk.size by omega]
 ·rw [List.getElem?_eq_none (by simp;omega),List.getElem?_eq_none (by simp;omega)]
end Go.Y
namespace Go.Y
open Go Go.RowKit
section
variable {P:Program} {ops:Array Oper} {Q:Exit→Act→World→Prop} {n:Nat} {a:Act} {w w0:World} {e:Env} {G:Aq} {L:List Res}
 {d:Nat} {t:TypeId} {p:String} {af:Array Edge} {r:List Oper}
theorem Aam {f:FuncId} {cal:Operand} {args:List Operand} {ats:Array TypeId} {vs first:List Value} {Φ:Value→Prop}
  (F:Fits n a e) (hE:Ent P f) (hc:ev e cal=some (.func (.func f) first.toArray #[])) (hv:evs e args=some vs) (hd:Nat.ble (d+1) n=true)
  (hs:Calls P f (first++vs).toArray w (Bu w0 G L Φ))
  (k:∀ v w' a',Mem w0 G L w'→Φ v→Fits n a' ((d,v)::e)→rl P ops Q r a' w') :
  rl P ops Q (⟨some d,.call ⟨.value cal,args.toArray,ats⟩,t,p,af,none⟩::r) a w:=by
 refine ⟨fun _=>?_,fun h=>by simp [Region.wanted] at h⟩;unfold Oper.wp;have hr:(execOp a.eval ⟨some d,.call ⟨.value cal,args.toArray,ats⟩,t,p,af,none⟩).run P w=.ok (.enter f (first++vs).toArray) w:=by
  have h1:=F.ev hc;have h2:=F.evs hv;simp only [execOp,resolve,h1,Deferred.ofValue,Sem.run_bind,Sem.run_pure,Result.andThen_ok,invoke];rw [show (first.toArray++Array.map a.eval args.toArray++#[])=(first++vs).toArray by simp [← h2]]
  exact P4 hE
 rw [hr];refine Calls.mono hs fun x w' hx=>?_
 cases x with
 | returned v=>obtain ⟨h1,h2⟩:=hx;exact k v w' _ h1 h2 (F.put hd)
 | panicked c=>exact hx.elim
 | outgrown=>exact hx.elim
variable {ρ:Operand→Value} {dd:Option Tmp} {g:Option (Nat × Bool)}
theorem U8 {fn:Fn} {x:Operand} {v:Value} (hv:ρ x=v):(execOp ρ ⟨dd,.makeFunc fn #[x] #[],t,p,af,g⟩).run P w=.ok (.value (.func fn #[v] #[])) w:=by
 simp [execOp,Instr.makeFunc,hv]
theorem Vx {t1:TypeId} {cs:Array Value} {o:Nat} {v:Value} (h:(tk P t1).agg=some false) (hv:cs[o]?=some v):(part t1 cs o).run P w=.ok v w:=by
 simp [part,Q7 h,hv]
theorem Sz {s et:TypeId} {i:TI} {x y z:Operand} {ad:Option Addr} {m c h q:Nat} {kh kq:IntKind} {zh zq:Int} (hs:tk P s=.slice et) (ht:TOK P et i) (hx:ρ x=.slice ad m c)
  (hy:ρ y=.int kh zh) (hzh:zh=(h:Int)) (hz:ρ z=.int kq zq) (hzq:zq=(q:Int)) (h1:h≤q) (h2:q≤c) :
  (execOp ρ ⟨dd,.slice s x none (some y) (some z),t,p,af,g⟩).run P w=.ok (.value (.slice ad h q)) w:=by
 subst hzh hzq;have c1:(h:Int)≤(q:Int):=by omega
 have c2:(q:Int)≤(c:Int):=by omega
 have e:(if q=0 then ad else ad.map (·.add (0 * i.size)))=ad:=by
  split
  ·rfl
  ·cases ad with
   | none=>rfl
   | some z=>simp [Addr.add]
 have hs':=B0 (w:=w) (C9 hs);simp only [execOp,Instr.sliceAt,Sem.run_bind,hs',Result.andThen_ok,Instr.slice,hx]
 simp [Instr.sliceBounds,Instr.sliceBound,hy,hz,asIntOf,h1,h2,ht.sizeOf,hs']
 rw [show (fun x:Addr=>x.add 0)=(fun x=>x) from by funext x;simp [Addr.add]] 
 cases ad <;> simp
theorem Bz {ta et:TypeId} {i:TI} {x y:Operand} {m b o:Nat} {k:IntKind} {z:Int} {j:Nat} (ha:tk P ta=.array m et) (ht:TOK P et i) (h1:i.size=1) (hx:ρ x=.pointer (some ⟨b,o,none⟩)) (hy:ρ y=.int k z) (hz:z=(j:Int)) (hj:j < m) :
  (execOp ρ ⟨dd,.indexAddr ta x y,t,p,af,g⟩).run P w=.ok (.value (.pointer (some ⟨b,o+j,none⟩))) w:=by
 subst hz;have c1:(0:Int)≤(j:Int):=by omega
 have c2:(j:Int) < (m:Int):=by omega
 simp [execOp,Instr.indexAt,hx,hy,asIntOf,B0 (Dz ha),hj,ht.sizeOf,h1,D9,Instr.sureAddr]
theorem Em {s et:TypeId} {i j:TI} {m:Nat} {parts:List (Nat × Operand)} {ps:List (Nat × Value)} {cs:List Value} {a:Act} {n:Nat} {e:Env} (F:Fits n a e) (hs:tk P s=.array m et) (ht:TOK P s i) (hte:TOK P et j) (hp:evp e parts=some ps)
  (hf:Instr.fill (fun k=>some (k * j.size,j.size)) i.zero.cells ps=some cs.toArray) :
  (execOp a.eval ⟨dd,.build s parts.toArray,t,p,af,g⟩).run P w=.ok (.value (.agg cs.toArray)) w:=by
 have hp':=F.evp hp;simp only [List.map_toArray] at hp';simp only [execOp,Instr.build,Sem.run_bind,ht.zeroValue,Result.andThen_ok,B0 (Dz hs),hte.sizeOf];rw [show (parts.toArray.map fun (x:Nat × Operand)=>(x.1,a.eval x.2)).toList=ps from by simpa using hp',hf]
 simp
theorem Ag.bound {α:Type} {rd:Rd α} {sz:Nat} {ad:Option Addr} {n c:Nat} {xs:List α} (S:Ag rd sz G (.slice ad n c) xs):n≤c∧c≤9223372036854775807:=by
 obtain ⟨a',c',h1,h2,h3,h4⟩:=S;simp only [Value.slice.injEq] at h1;obtain ⟨rfl,rfl,rfl⟩:=h1
 exact ⟨h2,h3⟩
theorem Ag.nilz {α:Type} {rd:Rd α} {sz:Nat} {ad:Option Addr} {n c:Nat} {xs:List α} (S:Ag rd sz G (.slice ad n c) xs) (h:ad.isNone=true):xs=[]:=by
 obtain ⟨a',c',h1,h2,h3,h4⟩:=S;simp only [Value.slice.injEq] at h1;obtain ⟨rfl,rfl,rfl⟩:=h1
 rcases h4 with ⟨_,h5⟩ | ⟨b,o,h5,_⟩
 ·exact h5
 ·rw [h5] at h;cases h
theorem Mem.row_bound (M:Mem w0 G L w) {k n c:Nat} {ad:Option Addr} {cs:List Value} {t:TypeId} {sz:Nat} (hk:L[k]?=some (.row (.slice ad n c) n cs t sz)):n≤c∧c≤9223372036854775807:=by
 obtain ⟨a',c',h1,h2,h3,_⟩:=M.row_shape hk;simp only [Value.slice.injEq] at h1;obtain ⟨_,_,rfl⟩:=h1
 exact ⟨h2,h3⟩
theorem Ag.clip {α:Type} {rd:Rd α} {sz:Nat} {ad:Option Addr} {n c:Nat} {xs:List α} (S:Ag rd sz G (.slice ad n c) xs):Ag rd sz G (.slice ad n n) xs:=by
 obtain ⟨a',c',h1,h2,h3,h4⟩:=S;simp only [Value.slice.injEq] at h1;obtain ⟨rfl,rfl,rfl⟩:=h1;refine ⟨_,_,rfl,Nat.le_refl _,by omega,?_⟩
 rcases h4 with ⟨rfl,rfl⟩ | ⟨b,o,h5,h6⟩
 ·exact Or.inl ⟨rfl,rfl⟩
 ·exact Or.inr ⟨b,o,h5,h6⟩
theorem S3 {ta et:TypeId} {i:TI} {x y:Operand} {m:Nat} {cs:Array Value} {k:IntKind} {z:Int} {j:Nat} {v:Value} (ha:tk P ta=.array m et) (ht:TOK P et i) (h1:i.size=1) (hag:i.k.agg=some false)
  (hx:ρ x=.agg cs) (hy:ρ y=.int k z) (hz:z=(j:Int)) (hj:j < m) (hv:cs[j]?=some v) :
  (execOp ρ ⟨dd,.index ta x y,t,p,af,g⟩).run P w=.ok (.value v) w:=by
 subst hz;have c1:(0:Int)≤(j:Int):=by omega
 have c2:(j:Int) < (m:Int):=by omega
 simp [execOp,Instr.index,hx,hy,asIntOf,B0 (Dz ha),hj,ht.sizeOf,h1,Vx (w:=w) (by rw [ht.k];exact hag) hv]
theorem Bs {fn:Func} {n:Nat} {a:Act} {e:Env} (F:Fits n a e) {t u ty k b:Nat} {i:TI} {cs:List Value} {x:Value} {R:Ending→World→Prop} (M:Mem w0 G L w) (hk:L[k]?=some (.blk b cs ty)) (hf:fn.results = #[.cell t ty,.tmp u])
  (hty:TOK P ty i) (hag:i.k.agg=some true) (hl:cs.length=i.size) (hv:look e t=some (.pointer (some ⟨b,0,none⟩))) (hx:look e u=some x) (h:R (.returned (.tuple #[.agg cs.toArray,x])) w):bodyPost P fn R .ret a w:=by
 refine K6 F (v:=.tuple #[.agg cs.toArray,x]) ?_ h;have h1:(loadVar ty ⟨b,0,none⟩).run P w=.ok (.agg cs.toArray) w:=Gl hty hag hl (M.cellsL hk (by rw [List.drop_zero,← hl,List.take_length]))
 simp [results,hf,F.slot _ _ hv,F.slot _ _ hx,asAddr,h1]
theorem Aeq {ops:Array Oper} {Q:Exit→Act→World→Prop} {n:Nat} {a:Act} {e:Env} {d:Nat} {r:List Oper} {op:Op} {j q:Nat} {want:Bool} (F:Fits n a e) (hj:(ops[j]?).bind (·.dst)=some q) (hb:look e q=some undef) (hd:Nat.ble (d+1) n=true)
  (k:∀ a',Fits n a' ((d,undef)::e)→rl P ops Q r a' w):rl P ops Q (⟨some d,op,t,p,af,some (j,want)⟩::r) a w:=by
 have hy:yielded ops a.tmps j=none:=by
  simp [yielded,hj,F.slot _ _ hb,undef]
 refine ⟨fun h=>?_,fun h=>k _ (F.put hd)⟩
 simp [Region.wanted,hy] at h
end
end Go.Y
namespace Go.Y
open Go Go.RowKit Go.WideShapes Go.ChangeShapes
def G0 (w:World):Aq:=fun r=>w.heap[r]?
theorem Mem.start (w:World):Mem w (G0 w) [] w :=
 ⟨rfl,rfl,rfl,Nat.le_refl _,fun _ _ h=>h,by simp,by simp,List.Pairwise.nil⟩
theorem Mem.below {w0 w:World} {L:List Res} (M:Mem w0 (G0 w0) L w):Below w0.heap.size w0 w :=
 ⟨M.os,M.tape,M.output,M.grow,fun k hk=>by
  have h:G0 w0 k=some w0.heap[k]:=Array.getElem?_eq_getElem hk;rw [M.pers k _ h];exact h.symm⟩
theorem Pc {w:World} {b o:Nat}:Hc (G0 w) b o=w.cell? ⟨b,o,none⟩:=by
 simp only [Hc,G0,World.cell?]
 cases w.heap[b]? with
 | none=>rfl
 | some x=>cases x <;> simp
section
variable {H:Type} {enc:TypeId × Value→H} {P:Program} {w:World} {sp:Nat→Bool} {hd:Bool}
theorem Sj {t:TypeId} {fs:List (Nat × Nat × Nat)} {fuel:Nat} {cs:List Value} {x:DataW H × List MemPlace} (ht:tk P t=.struct fs) (h:DataW.trod enc P w 0 sp hd fuel t cs=some x) :
  ∃ n,cs.length=P.cellsOf t∧∀ (i o c ty:Nat),fs[i]?=some (o,c,ty)→∃ y,DataW.trod enc P w 0 sp hd n ty ((cs.drop o).take c)=some y:=by
 obtain ⟨ff,hu,hff⟩:=Hg ht;obtain ⟨xs,n,_,_,hl,hxs,hf⟩:=DataW.trod_struct hu h;refine ⟨n,hl,fun i o c ty hi=>?_⟩;rw [← hff] at hi;simp only [List.getElem?_map,Option.map_eq_some_iff] at hi;obtain ⟨f,hfi,he⟩:=hi;simp only [Prod.mk.injEq] at he;obtain ⟨rfl,rfl,rfl⟩:=he;have hi2:ff[i]?=some f:=by simpa using hfi
 have hlt:i < xs.length:=by
  rw [hxs]
  rcases Nat.lt_or_ge i ff.size with h' | h'
  ·exact h'
  ·simp [Array.getElem?_eq_none h'] at hi2
 exact ⟨xs[i],by rw [hf i f hi2];exact List.getElem?_eq_getElem hlt⟩
theorem Ie {t:TypeId} {k:IntKind} {fuel:Nat} {cs:List Value} {x:DataW H × List MemPlace} (ht:tk P t=.int k) (h:DataW.trod enc P w 0 sp hd fuel t cs=some x):∃ n,cs=[.int k n]∧Au k n:=by
 obtain ⟨n,h1,_,h2⟩:=DataW.trod_int (Bo ht) h;simp only [Lit.wf,Bool.and_eq_true,decide_eq_true_eq] at h2
 exact ⟨n,h1,h2⟩
theorem Xv {α:Type} {rd:Rd α} {sz:Nat} {t e:TypeId} {fuel:Nat} {cs:List Value} {x:DataW H × List MemPlace} (ht:tk P t=.slice e) (hsz:P.cellsOf e=sz) (hpos:0 < sz)
  (el:∀ n cs y,DataW.trod enc P w 0 sp hd n e cs=some y→cs.length=sz→∃ X,rd (G0 w) cs X∧∀ u∈cs,u.oneCell' = true)
  (h:DataW.trod enc P w 0 sp hd fuel t cs=some x) (hsp:∀ b,sp b=true:=by intro;rfl):∃ a xs c,cs=[.slice a xs.length c]∧Ag rd sz (G0 w) (.slice a xs.length c) xs∧xs.length≤9223372036854775807:=by
 subst hsz
 rcases Deep.open_slice (C9 ht) h with ⟨rfl,_⟩ | ⟨a,len,cap,m,n,D,Pl,rfl,_,hlc,hcm,hm,_,hel⟩
 ·exact ⟨none,[],0,rfl,Ag.nil,by simp⟩
 have hlm:len≤m:=by rw [hm];split <;> omega
 have hX:∀ i,i < len→∃ X:α,∃ cs',w.cells? 0 (a.add (i * P.cellsOf e)) (P.cellsOf e)=some cs'∧cs'.length=P.cellsOf e∧rd (G0 w) cs' X∧(∀ u∈cs',u.oneCell' = true) ∧
   ∀ j u,cs'[j]?=some u→w.cell? (a.add (i * P.cellsOf e+j))=some u:=by
  intro i hi;obtain ⟨cs',h1,h2⟩:=hel i (by omega);have h3:=h1;simp only [World.cells?,Nat.zero_le,if_true] at h3;have hl:=mapM_some_length h3;obtain ⟨X,h4,h5⟩:=el n cs' _ h2 (by rw [hl];simp);refine ⟨X,cs',h1,by rw [hl];simp,h4,h5,fun j u hj=>?_⟩;have hjl:j < P.cellsOf e:=by
   have:=A0 hj;rw [hl] at this
   simpa using this
  have:=mapM_some_get h3 j j (by simp [hjl]);rw [hj] at this;rw [Deep.add_add] at this
  exact this
 by_cases h0:len=0
 ·subst h0
  by_cases hc:cap=0
  ·subst hc
   exact ⟨some a,[],0,rfl,⟨_,_,rfl,Nat.le_refl _,by omega,Or.inl ⟨rfl,rfl⟩⟩,by simp⟩
  ·rw [if_pos (hsp a.block)] at hm;obtain ⟨cs',h1,_⟩:=hel 0 (by omega);simp only [World.cells?,Nat.zero_le,if_true] at h1;have hl:=mapM_some_length h1;have hl':0 < cs'.length:=by rw [hl];simpa using hpos
   have h2:=mapM_some_get h1 0 0 (by simp [hpos]);rw [List.getElem?_eq_getElem hl'] at h2;have hsp:a.spot=none:=by
    have:=World.cell?_spot h2
    simpa [Addr.add] using this
   obtain ⟨b,o,s⟩:=a;simp only at hsp;subst hsp
   exact ⟨_,[],cap,rfl,⟨_,_,rfl,Nat.zero_le _,hcm,Or.inr ⟨b,o,rfl,by simp⟩⟩,by simp⟩
 ·haveI:Inhabited α:=⟨(hX 0 (by omega)).choose⟩
  obtain ⟨X,hX'⟩:=Deep.choose_lt hX;obtain ⟨cs0,_,hl0,_,_,hc0⟩:=hX' 0 (by omega);have h2:=hc0 0 cs0[0] (List.getElem?_eq_getElem (by omega));have hsp:a.spot=none:=by
   have:=World.cell?_spot h2
   simpa [Addr.add] using this
  obtain ⟨b,o,s⟩:=a;simp only at hsp;subst hsp;refine ⟨some ⟨b,o,none⟩,(List.range len).map X,cap,by simp,⟨_,_,by simp,by simpa using hlc,hcm,Or.inr ⟨b,o,rfl,fun i x hx=>?_⟩⟩,by simp only [List.length_map,List.length_range,maxLen] at *;omega⟩;have hi:i < len:=by have:=A0 hx;simpa using this
  have hxe:x=X i:=by
   rw [List.getElem?_map] at hx;simp only [List.getElem?_range hi,Option.map_some,Option.some.injEq] at hx
   exact hx.symm
  subst hxe;obtain ⟨cs',_,h5,h6,h7,h8⟩:=hX' i hi;refine ⟨cs',h5,h7,fun j v hj=>?_,h6⟩;rw [Pc];have:=h8 j v hj;rw [D9] at this;rw [Nat.add_assoc]
  exact this
theorem Nf {W':World} {sp':Nat→Bool} (hl:laidOutB P=true) (hb:Below w.heap.size w W'):∀ {ts:List TypeId} {vs:List Value} {ds:List (DataW H)} {ps:List MemPlace},
  (∀ t∈ts,P.readableRec t=true∧t < P.types.size)→DataW.TrodAll enc P w 0 (fun _=>true) true ts vs ds ps→(∀ p∈ps,p.block < w.heap.size)→(∀ p∈ps,sp' p.block=true)→DataW.TrodAll enc P W' 0 sp' true ts vs ds ps
 | [],[],[],ps,_,h,_,_=>h
 | t::ts,v::vs,d::ds,ps,ht,h,hp,hs=>by
  obtain ⟨p,q,h1,h2,rfl⟩:=h;refine ⟨p,q,WideElems.Trod_stays hl (ht t (by simp)).1 (ht t (by simp)).2 h1 (fun x hx=>hb.same (hp x (by simp [hx]))) (fun x hx=>hs x (by simp [hx])),?_,rfl⟩
  exact Nf hl hb (fun u hu=>ht u (by simp [hu])) h2 (fun x hx=>hp x (by simp [hx])) (fun x hx=>hs x (by simp [hx]))
 | [],[],_::_,_,_,h,_,_=>h.elim
 | [],_::_,_,_,_,h,_,_=>h.elim
 | _::_,[],_,_,_,h,_,_=>h.elim
 | _::_,_::_,[],_,_,h,_,_=>h.elim
theorem Akj {f:Func} {s:ChangeSpec} {apart fresh handsOn:Bool} {W':World} {args:Array Value} {ds gs:List (DataW H)} {before:List MemPlace} {tb:TypeId}
  (hl:laidOutB P=true) (hpar:f.params.toList.all (fun t=>P.readableRec t && decide (t < P.types.size))=true)
  (hW:DataW.Whole enc P f.params.toList s.vars apart w args.toList ds gs before) (hv:s.vars=[]) (hb:Below w.heap.size w W')
  (hs:(s.fn H (ds++gs)).results=[.lit (.bool true)]∧(s.fn H (ds++gs)).args=ds∧(s.fn H (ds++gs)).vars=[]) (hr:f.resultTypes = #[tb]) (hu:tk P tb=.bool) :
  s.post enc P f apart fresh handsOn false w args (.bool true) W':=by
 have hW':=hW;obtain ⟨p,q,hA,hV,rfl,hfz,hnd⟩:=hW;rw [hv] at hV;obtain ⟨rfl,rfl⟩:=trodVars_none hV;have hlt:=hW'.lt;refine ⟨ds,[],p++[],[],p,[],hW',?_,?_,?_,hb.frame _,fun h=>by cases h⟩
 ·rw [hs.1,hr];exact trodAll_mk1 (shut_bool (Si hu) true)
 ·rw [hs.2.1];refine Nf hl hb (fun t ht=>?_) hA (fun x hx=>hlt x (by simpa using hx)) (fun x hx=>by simpa using hlt x (by simpa using hx));have:=List.all_eq_true.1 hpar t ht
  simpa using this
 ·rw [hs.2.2,hv];rfl
end
end Go.Y
