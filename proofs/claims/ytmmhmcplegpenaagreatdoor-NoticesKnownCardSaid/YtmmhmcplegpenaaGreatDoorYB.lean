/- The generic core, second part: drawn regions, strings, builders, numbers. -/
import Derived.Test.YtmmhmcplegpenaaGreatDoorYA
import Derived.Lib.Strings
import Derived.Lib.AppendStr
import Derived.Lib.UnsafeStr
import Derived.Lib.Builder
import Derived.Laws.Externs
import Derived.Sort.Row
import Derived.Sort.Grow
import Derived.Laws.BytesArg
import Derived.Lib.ItoaNum
import Derived.Lib.Itoa
import Derived.Below
import Derived.Lib.LaidTab
import Derived.Lib.ParseIntB
import Derived.Lib.ConvBytes
import Derived.Laws.StructEq
import Derived.ProofKit
import Derived.Deep.Slices
set_option linter.unusedSimpArgs false
set_option linter.unusedVariables false
namespace Go.Y
open Go Go.RowKit
theorem fU {p:Prop} (h:p:=by refine F.to ?_;repeat (first | exact trivial | refine ⟨rfl,?_⟩)):p:=h
inductive PT where
 | fin
 | run (i:Nat) (r:PT)
 | act (i:Nat) (r alt:PT)
 | no
inductive PO where
 | fin
 | run (o:Oper) (r:PO)
 | act (o:Oper) (r alt:PO)
 | no
section
variable {P:Program} {ops:Array Oper} {Q:Exit→Act→World→Prop} {C:World→Prop}
def Rt (ops:Array Oper):PT→PO
 | .fin=>.fin
 | .no=>.no
 | .run i r=>match ops[i]? with
  | some o=>.run o (Rt ops r)
  | none=>.no
 | .act i r alt=>match ops[i]? with
  | some o=>.act o (Rt ops r) (Rt ops alt)
  | none=>.no
def ptl (P:Program) (ops:Array Oper) (Q:Exit→Act→World→Prop):(World→Prop)→PO→Act→World→Prop
 | _,.fin,a,w=>Q .normal a w
 | _,.no,_,_=>True
 | C,.run o r,a,w=>∃ v,Fm P ops C o v a∧ptl P ops Q C r (a.put o.dst v) w
 | C,.act o r alt,a,w =>
  ((Region.wanted o (yielded ops a.tmps)=true→o.wp P a w (fun a' w'=>∃ C':World→Prop,C' w'∧(∀ w,C' w→C w)∧ptl P ops Q C' r a' w') Q) ∧
  (Region.wanted o (yielded ops a.tmps)=false→ptl P ops Q C r (a.put o.dst undef) w))∧ptl P ops Q C alt a w
def Q1:PT→List Nat
 | .act i _ alt=>i::Q1 alt
 | _=>[]
def okT (ops:Array Oper):Bool→PT→Nat→Array Bool→Bool
 | top,.fin,n,listed=>top && Nat.beq n 0 && (Region.ready .any ops listed).isEmpty
 | top,.no,_,_=>!top
 | top,.run i r,n+1,listed=>top && Nat.ble (i+1) ops.size && (Region.ready .any ops listed).any (Nat.beq i) && Apf ops i listed && okT ops true r n (listed.setIfInBounds i true)
 | top,.act i r alt,n+1,listed=>(!top || (!(Region.ready .any ops listed).isEmpty && (Region.ready .any ops listed).all fun j=>(i::Q1 alt).any (Nat.beq j))) && Nat.ble (i+1) ops.size && okT ops true r n (listed.setIfInBounds i true) && okT ops false alt (n+1) listed
 | _,.run _ _,0,_=>false
 | _,.act _ _ _,0,_=>false
theorem Lp (hsel:∀ (j:Nat) (o:Oper) cs b,ops[j]?=some o→o.op≠.select cs b) (hQ:∀ c a d v w,Q (.panic c) (a.put d v) w→Q (.panic c) a w):∀ (t:PT),
  (∀ (n:Nat) (C:World→Prop) (listed:Array Bool) (a:Act) (w:World),okT ops true t n listed=true→C w→ptl P ops Q C (Rt ops t) a w→Aip P ops Q C n listed a w) ∧
  (∀ (n:Nat) (C:World→Prop) (listed:Array Bool) (a:Act) (w:World),okT ops false t (n+1) listed=true→C w→ptl P ops Q C (Rt ops t) a w →
   ∀ i∈Q1 t,wpOp P ops Q i (fun a' w'=>∃ C':World→Prop,C' w'∧(∀ w,C' w→C w)∧Aip P ops Q C' n (listed.setIfInBounds i true) a' w') a w)
 | .fin=>by
  refine ⟨fun n C listed a w hok hC h=>?_,fun n C listed a w hok hC h i hi=>by simp [Q1] at hi⟩;simp only [okT,Bool.and_eq_true,Bool.true_and] at hok;have hn:=Nat.eq_of_beq_eq_true hok.1;subst hn
  exact ⟨by simpa using hok.2,h⟩
 | .no=>by
  refine ⟨fun n C listed a w hok hC h=>by simp [okT] at hok,fun n C listed a w hok hC h i hi=>by simp [Q1] at hi⟩
 | .run i r=>by
  obtain ⟨ih,_⟩:=Lp hsel hQ r;refine ⟨fun n C listed a w hok hC h=>?_,fun n C listed a w hok hC h j hj=>by simp [Q1] at hj⟩
  cases n with
  | zero=>simp [okT] at hok
  | succ n =>
   simp only [okT,Bool.and_eq_true,Bool.true_and] at hok;obtain ⟨⟨⟨hlt,hr⟩,hf⟩,hok⟩:=hok;have hlt':i < ops.size:=Nat.le_of_ble_eq_true hlt;have hi:ops[i]?=some ops[i]:=Array.getElem?_eq_getElem hlt';simp only [Rt,hi] at h;obtain ⟨v,hy,h'⟩:=h;have hr':i∈Region.ready .any ops listed:=by
    obtain ⟨j,hj,hb⟩:=List.any_eq_true.1 hr;rw [Nat.eq_of_beq_eq_true hb];exact hj
   refine Yn hi hsel (fun c a w=>hQ c a _ v w) n C listed a w hC ?_ hr' hy (ih n C _ _ w hok hC h');intro j oj hj hji hun hno;unfold Apf at hf;simp only [hi] at hf;have hlj:j < ops.size:=by
    rcases Nat.lt_or_ge j ops.size with h' | h'
    ·exact h'
    ·rw [Array.getElem?_eq_none h'] at hj;cases hj
   have:=List.all_eq_true.1 hf j (List.mem_range.2 hlj);simp only [hj,Bool.or_eq_true] at this
   rcases this with ((h1 | h1) | h1) | h1
   ·exact absurd (Nat.eq_of_beq_eq_true h1) hji
   ·rw [h1] at hun;cases hun
   ·obtain ⟨e,he,hb⟩:=Array.any_eq_true'.1 h1;simp only [Bool.and_eq_true] at hb
    exact absurd (Nat.eq_of_beq_eq_true hb.2) (hno e he hb.1)
   ·exact h1
 | .act i r alt=>by
  obtain ⟨ih,_⟩:=Lp hsel hQ r;obtain ⟨_,ih2⟩:=Lp hsel hQ alt;have key:∀ (n:Nat) (C:World→Prop) (listed:Array Bool) (a:Act) (w:World),i < ops.size→okT ops true r n (listed.setIfInBounds i true)=true→okT ops false alt (n+1) listed=true→C w →
    ptl P ops Q C (Rt ops (.act i r alt)) a w→∀ j∈Q1 (.act i r alt),wpOp P ops Q j (fun a' w'=>∃ C':World→Prop,C' w'∧(∀ w,C' w→C w)∧Aip P ops Q C' n (listed.setIfInBounds j true) a' w') a w:=by
   intro n C listed a w hlt h1 h2 hC h j hj;have hi:ops[i]?=some ops[i]:=Array.getElem?_eq_getElem hlt;simp only [Rt,hi] at h;obtain ⟨⟨h3,h4⟩,h5⟩:=h
   rcases List.mem_cons.1 hj with rfl | hj
   ·unfold wpOp;simp only [hi]
    by_cases hw:Region.wanted ops[j] (yielded ops a.tmps)=true
    ·rw [if_pos hw]
     left
     exact Oper.wp_mono (fun a' w' hk=>by
      obtain ⟨C',h6,h7,h8⟩:=hk
      exact ⟨C',h6,h7,ih n C' _ a' w' h1 h6 h8⟩) (h3 hw)
    ·rw [if_neg hw]
     exact ⟨C,hC,fun _ h=>h,ih n C _ _ w h1 hC (h4 (by simpa using hw))⟩
   ·exact ih2 n C listed a w h2 hC h5 j hj
  refine ⟨fun n C listed a w hok hC h=>?_,fun n C listed a w hok hC h=>?_⟩
  ·cases n with
   | zero=>simp [okT] at hok
   | succ n =>
    simp only [okT,Bool.and_eq_true,Bool.not_true,Bool.false_or] at hok;obtain ⟨⟨⟨⟨hne,hall⟩,hlt⟩,h1⟩,h2⟩:=hok;have hk:=key n C listed a w (Nat.le_of_ble_eq_true hlt) h1 h2 hC h;refine ⟨fun h0=>by rw [h0] at hne;simp at hne,fun j hj=>hk j ?_⟩;have:=List.all_eq_true.1 hall j hj;obtain ⟨q,hq,hb⟩:=List.any_eq_true.1 this;rw [Nat.eq_of_beq_eq_true hb];exact hq
  ·simp only [okT,Bool.and_eq_true,Bool.not_false,Bool.true_or,Bool.true_and] at hok;obtain ⟨⟨hlt,h1⟩,h2⟩:=hok
   exact key n C listed a w (Nat.le_of_ble_eq_true hlt) h1 h2 hC h
def Zc (l:List Oper) (t:PT):Bool:=Region.noSelect l.toArray && okT l.toArray true t l.length (Array.replicate l.length false)
theorem Ik {id:Nat} {l:List Oper} {a:Act} {w:World} (t:PT) (C:World→Prop) (H:P.follows .mixedOrders=true) (A:Zc l t=true)
  (E:∀ c a d v w,Q (.panic c) (a.put d v) w→Q (.panic c) a w) (D:C { w with drawn:=w.drawn+1 }) (h:ptl P l.toArray Q C (Rt l.toArray t) a { w with drawn:=w.drawn+1 }):(Code.region id l.toArray true).wp P Q a w:=by
 simp only [Zc,Bool.and_eq_true] at A;refine wp_region_any H (O1 _ C _ _ _ ?_);have:=(Lp (P:=P) (Region.noSelect_spec A.1) E t).1 l.length C _ a _ A.2 D h
 simpa using this
end
section
variable {P:Program} {ops:Array Oper} {Q:Exit→Act→World→Prop} {C:World→Prop} {n:Nat} {a:Act} {w:World} {e:Env} {d:Nat} {t:TypeId} {p:String} {af:Array Edge} {r alt:PO}
theorem Bl:ptl P ops Q C .no a w:=trivial
theorem pt_run {op:Op} {v:Value} (F:Fits n a e) (E:∀ w,C w→(execOp a.eval ⟨some d,op,t,p,af,none⟩).run P w=.ok (.value v) w) (D:Nat.ble (d+1) n=true)
  (k:∀ A,Fits n A ((d,v)::e)→ptl P ops Q C r A w):ptl P ops Q C (.run ⟨some d,op,t,p,af,none⟩ r) a w :=
 ⟨v,Or.inl ⟨rfl,E⟩,k _ (F.put D)⟩
theorem Acu {op:Op} {v:Value} {j g:Nat} {A b:Bool} (F:Fits n a e) (I:(ops[j]?).bind (·.dst)=some g) (E:look e g=some (.bool b)) (hw:b=A)
  (N:∀ w,C w→(execOp a.eval ⟨some d,op,t,p,af,some (j,A)⟩).run P w=.ok (.value v) w) (H:Nat.ble (d+1) n=true)
  (k:∀ D,Fits n D ((d,v)::e)→ptl P ops Q C r D w):ptl P ops Q C (.run ⟨some d,op,t,p,af,some (j,A)⟩ r) a w:=by
 have O:yielded ops a.tmps j=some b:=by simp [yielded,I,F.slot _ _ E]
 subst hw
 exact ⟨v,Or.inl ⟨by simp [Region.wanted,O],N⟩,k _ (F.put H)⟩
theorem Y2 {op:Op} {j g:Nat} {A b:Bool} (F:Fits n a e) (N:(ops[j]?).bind (·.dst)=some g) (H:look e g=some (.bool b)) (hw:b = !A) (I:Nat.ble (d+1) n=true)
  (k:∀ E,Fits n E ((d,undef)::e)→ptl P ops Q C r E w):ptl P ops Q C (.run ⟨some d,op,t,p,af,some (j,A)⟩ r) a w:=by
 have O:yielded ops a.tmps j=some b:=by simp [yielded,N,F.slot _ _ H]
 have D:Region.wanted ⟨some d,op,t,p,af,some (j,A)⟩ (yielded ops a.tmps)=false:=by
  subst hw;cases A <;> simp [Region.wanted,O]
 exact ⟨undef,Or.inr ⟨D,rfl⟩,k _ (F.put I)⟩
theorem A0 {o:Oper} (h:rl P ops (fun e a w=>match e with | .normal=>∃ C':World→Prop,C' w∧(∀ w,C' w→C w)∧ptl P ops Q C' r a w | e=>Q e a w) [o] a w) (O:o.guard=none) (N:ptl P ops Q C alt a w) :
  ptl P ops Q C (.act o r alt) a w:=by
 obtain ⟨I,T⟩:=h;have hw:Region.wanted o (yielded ops a.tmps)=true:=by simp [Region.wanted,O]
 refine ⟨⟨fun _=>?_,fun h=>by rw [hw] at h;cases h⟩,N⟩;have A:=I hw;unfold Oper.wp at *
 generalize (execOp a.eval o).run P w=x at *
 cases x with
 | ok nx w' =>
  cases nx <;> simp only [Oper.upon] at A ⊢
  case value u=>exact A
  case skip=>exact A
  case defer d=>exact A
  case enter f args =>
   refine Calls.mono A fun e S D=>?_
   cases e with
   | returned u=>exact D
   | panicked c=>exact D
   | outgrown=>obtain ⟨E,w0,H⟩:=D;exact ⟨E,w0,H⟩
  case row row args=>exact A
 | halt x w'=>cases x <;> simp only [Oper.upon] at A ⊢ <;> exact A
end
end Go.Y
namespace Go.Y
open Go Go.RowKit
inductive PK where
 | free | pure | keep | chg
section
variable {P:Program} {ops:Array Oper} {Q:Exit→Act→World→Prop} {C:World→Prop} {ch:List Nat}
def inL (l:List Nat) (i:Nat):Bool:=l.any (Nat.beq i)
def Y9 (P:Program) (ops:Array Oper) (Q:Exit→Act→World→Prop) (ch:List Nat):(World→Prop)→Nat→Array Bool→Act→World→Prop
 | _,0,listed,a,w=>Region.ready .any ops listed=[]∧Q .normal a w
 | C,fuel+1,listed,a,w =>
  (Region.ready .any ops listed=[]→Q .normal a w) ∧
  ∀ i∈Region.ready .any ops listed,wpOp P ops Q i (fun a' w'=>∃ C':World→Prop,C' w'∧(inL ch i=false→∀ w,C' w→C w)∧Y9 P ops Q ch C' fuel (listed.setIfInBounds i true) a' w') a w
theorem O0:∀ (fuel:Nat) (C:World→Prop) (listed:Array Bool) (a:Act) (w:World),Y9 P ops Q ch C fuel listed a w→wpAny P .any ops Q fuel listed a w
 | 0,_,_,_,_,h=>h
 | fuel+1,_,_,_,_,h=>⟨h.1,fun i hi=>wpOp_mono (fun a' w' hk=>by obtain ⟨C',_,_,h'⟩:=hk;exact O0 fuel C' _ a' w' h') (h.2 i hi)⟩
theorem Uj {i j:Nat} {O:Oper} {A:Array Bool} (V:ops[j]?=some O) (Y:j∈Region.ready .any ops A) (U:i∈Region.ready .any ops A) {e:Edge} (T:e∈O.after) (S:Region.binds .any e=true) (I:e.on=i):False:=by
 obtain ⟨_,aa,D,H⟩:=mem_ready.1 Y;rw [V] at D;simp only [Option.some.injEq] at D;subst D;have E:=H e T S;have N:=(mem_ready.1 U).1;rw [I] at E
 by_cases hlt:i < A.size
 ·simp [hlt] at N E;rw [N] at E;cases E
 ·simp [Array.getElem?_eq_none (Nat.le_of_not_lt hlt)] at E
theorem Ym {i:Nat} {I:Oper} {v:Value} {fr:Bool} (hi:ops[i]?=some I) (S:∀ (j:Nat) (o:Oper) cs b,ops[j]?=some o→o.op≠.select cs b) (hQ:∀ c a w,Q (.panic c) (a.put I.dst v) w→Q (.panic c) a w) :
  ∀ (E:Nat) (C:World→Prop) (A:Array Bool) (a:Act) (w:World),C w →
   (∀ j Y,ops[j]?=some Y→j≠i→A.getD j true=false→(∀ e∈Y.after,Region.binds .any e=true→e.on≠i)→I.apart ops Y=true∧(fr=true∨inL ch j=false)) →
   i∈Region.ready .any ops A→(if fr=true then Fm P ops (fun _=>True) I v a else Fm P ops C I v a)→Y9 P ops Q ch C E (A.setIfInBounds i true) (a.put I.dst v) w→Y9 P ops Q ch C (E+1) A a w:=by
 have gC:∀ {C:World→Prop} {a:Act},(if fr=true then Fm P ops (fun _=>True) I v a else Fm P ops C I v a)→Fm P ops C I v a:=by
  intro C a h
  split at h
  ·exact h.mono fun _ _=>trivial
  ·exact h
 intro E
 induction E with
 | zero =>
  intro C A a w hC _ T V H;refine ⟨fun h=>(by rw [h] at T;cases T),fun j hj=>?_⟩
  by_cases hji:j=i
  ·subst hji;exact (gC V).op hi hC ⟨C,hC,fun _ _ h=>h,H⟩
  ·have:=ready_mono hj hji;rw [H.1] at this
   cases this
 | succ E ih =>
  intro C A a w hC hf T V H;refine ⟨fun h=>(by rw [h] at T;cases T),fun j hj=>?_⟩
  by_cases hji:j=i
  ·subst hji;exact (gC V).op hi hC ⟨C,hC,fun _ _ h=>h,H⟩
  ·obtain ⟨aa,Y,O,ak⟩:=mem_ready.1 hj;have aj:∀ e∈Y.after,Region.binds .any e=true→e.on≠i:=fun e he hb ag=>Uj O hj T he hb ag;obtain ⟨ae,ah⟩:=hf j Y O hji aa aj;have key:∀ {D:World→Prop},Fm P ops D I v a→(∀ (N:Act) (C':World→Prop),Fm P ops D I v N→(inL ch j=false→∀ w,C' w→C w)→(if fr=true then Fm P ops (fun _=>True) I v N else Fm P ops C' I v N)) →
     wpOp P ops Q j (fun N w'=>∃ C':World→Prop,C' w'∧(inL ch j=false→∀ w,C' w→C w)∧Y9 P ops Q ch C' (E+1) (A.setIfInBounds j true) N w') a w:=by
    intro D hg U;have h2:=Wt O ae (S i I · · hi) (S j Y · · O) hQ hg (H.2 j (ready_mono hj hji));refine wpOp_mono (fun N w' h3=>?_) h2;obtain ⟨h4,C',h5,h7,h6⟩:=h3;refine ⟨C',h5,h7,ih C' _ N w' h5 ?_ (ready_mono T (Ne.symm hji)) (U N C' h4 h7) ?_⟩
    ·intro k ok hk ai ac ab;refine hf k ok hk ai ?_ ab
     by_cases hjk:j=k
     ·subst hjk;exact aa
     ·rw [getD_set_ne true hjk] at ac;exact ac
    ·rw [Array.setIfInBounds_comm _ _ hji]
     exact h6
   cases fr with
   | true =>
    simp only [if_true] at V
    exact key V fun N C' h _=>by simpa using h
   | false =>
    simp only [Bool.false_eq_true,if_false] at V;have hk:inL ch j=false:=by simpa using ah
    exact key V fun N C' h h7=>by simpa using h.mono (h7 hk)
def pk (P:Program) (ops:Array Oper) (Q:Exit→Act→World→Prop):(World→Prop)→List (PK × Oper)→Act→World→Prop
 | _,[],a,w=>Q .normal a w
 | C,(.free,o)::r,a,w=>∃ v,Fm P ops (fun _=>True) o v a∧pk P ops Q C r (a.put o.dst v) w
 | C,(.pure,o)::r,a,w=>∃ v,Fm P ops C o v a∧pk P ops Q C r (a.put o.dst v) w
 | C,(.keep,o)::r,a,w =>
  (Region.wanted o (yielded ops a.tmps)=true→o.wp P a w (fun a' w'=>∃ C':World→Prop,C' w'∧(∀ w,C' w→C w)∧pk P ops Q C' r a' w') Q) ∧
  (Region.wanted o (yielded ops a.tmps)=false→pk P ops Q C r (a.put o.dst undef) w)
 | C,(.chg,o)::r,a,w =>
  (Region.wanted o (yielded ops a.tmps)=true→o.wp P a w (fun a' w'=>∃ C':World→Prop,C' w'∧pk P ops Q C' r a' w') Q) ∧
  (Region.wanted o (yielded ops a.tmps)=false→pk P ops Q C r (a.put o.dst undef) w)
def Ape (ops:Array Oper) (fr:Bool) (ch:List Nat) (i:Nat) (listed:Array Bool):Bool :=
 match ops[i]? with
 | none=>false
 | some oi=>(List.range ops.size).all fun j=>match ops[j]? with
  | none=>true
  | some oj=>Nat.beq j i || listed.getD j true || oj.after.any (fun e=>Region.binds .any e && Nat.beq e.on i) || (oi.apart ops oj && (fr || !inL ch j))
def Og (ops:Array Oper) (ch:List Nat):List (PK × Nat)→Array Bool→Bool
 | [],listed=>(Region.ready .any ops listed).isEmpty
 | (.free,i)::r,listed=>(Region.ready .any ops listed).any (Nat.beq i) && Ape ops true ch i listed && Og ops ch r (listed.setIfInBounds i true)
 | (.pure,i)::r,listed=>(Region.ready .any ops listed).any (Nat.beq i) && Ape ops false ch i listed && Og ops ch r (listed.setIfInBounds i true)
 | (.keep,i)::r,listed=>(match Region.ready .any ops listed with | [j]=>Nat.beq i j | _=>false) && Og ops ch r (listed.setIfInBounds i true)
 | (.chg,i)::r,listed=>inL ch i && (match Region.ready .any ops listed with | [j]=>Nat.beq i j | _=>false) && Og ops ch r (listed.setIfInBounds i true)
theorem Xv {fr:Bool} {i:Nat} {Y:Oper} {A:Array Bool} (hi:ops[i]?=some Y) (O:Ape ops fr ch i A=true) :
  ∀ j H,ops[j]?=some H→j≠i→A.getD j true=false→(∀ e∈H.after,Region.binds .any e=true→e.on≠i)→Y.apart ops H=true∧(fr=true∨inL ch j=false):=by
 intro j H S T E V;unfold Ape at O;simp only [hi] at O;have U:j < ops.size:=by
  rcases Nat.lt_or_ge j ops.size with I | I
  ·exact I
  ·rw [Array.getElem?_eq_none I] at S;cases S
 have:=List.all_eq_true.1 O j (List.mem_range.2 U);simp only [S,Bool.or_eq_true,Bool.and_eq_true] at this
 rcases this with ((D | D) | D) | D
 ·exact absurd (Nat.eq_of_beq_eq_true D) T
 ·rw [D] at E;cases E
 ·obtain ⟨e,he,N⟩:=Array.any_eq_true'.1 D;simp only [Bool.and_eq_true] at N
  exact absurd (Nat.eq_of_beq_eq_true N.2) (V e he N.1)
 ·exact ⟨D.1,by simpa using D.2⟩
theorem H6 (hsel:∀ (j:Nat) (o:Oper) cs b,ops[j]?=some o→o.op≠.select cs b) (hQ:∀ c a d v w,Q (.panic c) (a.put d v) w→Q (.panic c) a w) :
  ∀ (order:List (PK × Nat)) (C:World→Prop) (listed:Array Bool) (plan:List (PK × Oper)) (a:Act) (w:World),order.map (fun x=>(x.1,ops[x.2]?))=plan.map (fun x=>(x.1,some x.2))→Og ops ch order listed=true→C w →
   pk P ops Q C plan a w→Y9 P ops Q ch C order.length listed a w
 | [],C,listed,plan,a,w,hp,hok,_,h=>by
  cases plan with
  | nil=>exact ⟨by simpa [Og] using hok,h⟩
  | cons x y=>simp at hp
 | (k,i)::order,C,listed,plan,a,w,hp,hok,hC,h=>by
  cases plan with
  | nil=>simp at hp
  | cons x plan =>
   obtain ⟨b,o⟩:=x;simp only [List.map_cons,List.cons.injEq,Prod.mk.injEq] at hp;obtain ⟨⟨rfl,hi⟩,hp⟩:=hp;have hin:∀ {l:List Nat},l.any (Nat.beq i)=true→i∈l:=by
    intro l hl;obtain ⟨j,hj,hb⟩:=List.any_eq_true.1 hl;rw [Nat.eq_of_beq_eq_true hb];exact hj
   have one:(match Region.ready .any ops listed with | [j]=>Nat.beq i j | _=>false)=true→Region.ready .any ops listed=[i]:=by
    intro hr
    split at hr
    ·rename_i j hj;rw [hj,Nat.eq_of_beq_eq_true hr]
    ·cases hr
   cases k with
   | free =>
    simp only [Og,Bool.and_eq_true] at hok;obtain ⟨⟨hr,hf⟩,hok⟩:=hok;obtain ⟨v,hy,h'⟩:=h
    exact Ym (fr:=true) hi hsel (fun c a w=>hQ c a o.dst v w) _ C listed a w hC (Xv hi hf) (hin hr) (by simpa using hy) (H6 hsel hQ order C _ plan _ w hp hok hC h')
   | pure =>
    simp only [Og,Bool.and_eq_true] at hok;obtain ⟨⟨hr,hf⟩,hok⟩:=hok;obtain ⟨v,hy,h'⟩:=h
    exact Ym (fr:=false) hi hsel (fun c a w=>hQ c a o.dst v w) _ C listed a w hC (Xv hi hf) (hin hr) (by simpa using hy) (H6 hsel hQ order C _ plan _ w hp hok hC h')
   | keep =>
    simp only [Og,Bool.and_eq_true] at hok;obtain ⟨hr,hok⟩:=hok;have hready:=one hr;refine ⟨fun h0=>(by rw [hready] at h0;cases h0),fun j hj=>?_⟩;rw [hready] at hj;have hji:j=i:=by simpa using hj
    subst hji;obtain ⟨h1,h2⟩:=h;unfold wpOp;simp only [hi]
    by_cases hw:Region.wanted o (yielded ops a.tmps)=true
    ·rw [if_pos hw]
     left
     exact Oper.wp_mono (fun a' w' hk=>by
      obtain ⟨C',h3,h4,h5⟩:=hk
      exact ⟨C',h3,fun _=>h4,H6 hsel hQ order C' _ plan a' w' hp hok h3 h5⟩) (h1 hw)
    ·rw [if_neg hw]
     exact ⟨C,hC,fun _ _ h=>h,H6 hsel hQ order C _ plan _ w hp hok hC (h2 (by simpa using hw))⟩
   | chg =>
    simp only [Og,Bool.and_eq_true] at hok;obtain ⟨⟨hch,hr⟩,hok⟩:=hok;have hready:=one hr;refine ⟨fun h0=>(by rw [hready] at h0;cases h0),fun j hj=>?_⟩;rw [hready] at hj;have hji:j=i:=by simpa using hj
    subst hji;obtain ⟨h1,h2⟩:=h;unfold wpOp;simp only [hi]
    by_cases hw:Region.wanted o (yielded ops a.tmps)=true
    ·rw [if_pos hw]
     left
     exact Oper.wp_mono (fun a' w' hk=>by
      obtain ⟨C',h3,h5⟩:=hk
      exact ⟨C',h3,fun h=>(by rw [hch] at h;cases h),H6 hsel hQ order C' _ plan a' w' hp hok h3 h5⟩) (h1 hw)
    ·rw [if_neg hw]
     exact ⟨C,hC,fun h=>(by rw [hch] at h;cases h),H6 hsel hQ order C _ plan _ w hp hok hC (h2 (by simpa using hw))⟩
def Pf (ops:Array Oper):List (PK × Nat)→List (PK × Oper)
 | []=>[]
 | x::r=>match ops[x.2]? with
  | some o=>(x.1,o)::Pf ops r
  | none=>Pf ops r
theorem Of:∀ (order:List (PK × Nat)),order.all (fun x=>Nat.ble (x.2+1) ops.size)=true→order.map (fun x=>(x.1,ops[x.2]?))=(Pf ops order).map (fun x=>(x.1,some x.2))
 | [],_=>rfl
 | x::r,h=>by
  simp only [List.all_cons,Bool.and_eq_true] at h;have hlt:x.2 < ops.size:=Nat.le_of_ble_eq_true h.1;simp only [Pf,Array.getElem?_eq_getElem hlt,List.map_cons,Of r h.2]
def Wp (l:List Oper) (ch:List Nat) (order:List (PK × Nat)):Bool :=
 Region.noSelect l.toArray && order.all (fun x=>Nat.ble (x.2+1) l.length) && Nat.beq order.length l.length && Og l.toArray ch order (Array.replicate l.length false)
theorem D5 {id:Nat} {l:List Oper} {a:Act} {w:World} (A:List (PK × Nat)) (ch:List Nat) (C:World→Prop) (O:P.follows .mixedOrders=true) (H:Wp l ch A=true)
  (N:∀ c a d v w,Q (.panic c) (a.put d v) w→Q (.panic c) a w) (I:C { w with drawn:=w.drawn+1 }) (h:pk P l.toArray Q C (Pf l.toArray A) a { w with drawn:=w.drawn+1 }):(Code.region id l.toArray true).wp P Q a w:=by
 simp only [Wp,Bool.and_eq_true] at H;obtain ⟨⟨⟨U,T⟩,S⟩,E⟩:=H;refine wp_region_any O (O0 (ch:=ch) _ C _ _ _ ?_);have D:=Nat.eq_of_beq_eq_true S;have:=H6 (P:=P) (Region.noSelect_spec U) N A C (Array.replicate l.length false) _ a _ (Of A (by simpa using T)) E I h;rw [D] at this
 simpa using this
end
section
variable {P:Program} {ops:Array Oper} {Q:Exit→Act→World→Prop} {C:World→Prop} {n:Nat} {a:Act} {w w0:World} {e:Env} {G:Av} {L:List Res} {d:Nat} {t:TypeId} {p:String} {af:Array Edge} {r:List (PK × Oper)}
theorem pk_free {op:Op} {v:Value} (F:Fits n a e) (E:∀ w,True→(execOp a.eval ⟨some d,op,t,p,af,none⟩).run P w=.ok (.value v) w) (D:Nat.ble (d+1) n=true)
  (k:∀ A,Fits n A ((d,v)::e)→pk P ops Q C r A w):pk P ops Q C ((.free,⟨some d,op,t,p,af,none⟩)::r) a w :=
 ⟨v,Or.inl ⟨rfl,E⟩,k _ (F.put D)⟩
theorem pk_pure {op:Op} {v:Value} (F:Fits n a e) (E:∀ w,C w→(execOp a.eval ⟨some d,op,t,p,af,none⟩).run P w=.ok (.value v) w) (D:Nat.ble (d+1) n=true)
  (k:∀ A,Fits n A ((d,v)::e)→pk P ops Q C r A w):pk P ops Q C ((.pure,⟨some d,op,t,p,af,none⟩)::r) a w :=
 ⟨v,Or.inl ⟨rfl,E⟩,k _ (F.put D)⟩
theorem Arq {op:Op} {v:Value} {j g:Nat} {A b:Bool} (F:Fits n a e) (I:(ops[j]?).bind (·.dst)=some g) (E:look e g=some (.bool b)) (hw:b=A)
  (N:∀ w,True→(execOp a.eval ⟨some d,op,t,p,af,some (j,A)⟩).run P w=.ok (.value v) w) (H:Nat.ble (d+1) n=true)
  (k:∀ D,Fits n D ((d,v)::e)→pk P ops Q C r D w):pk P ops Q C ((.free,⟨some d,op,t,p,af,some (j,A)⟩)::r) a w:=by
 have O:yielded ops a.tmps j=some b:=by simp [yielded,I,F.slot _ _ E]
 subst hw
 exact ⟨v,Or.inl ⟨by simp [Region.wanted,O],N⟩,k _ (F.put H)⟩
theorem Arp {op:Op} {v:Value} {j g:Nat} {A b:Bool} (F:Fits n a e) (I:(ops[j]?).bind (·.dst)=some g) (E:look e g=some (.bool b)) (hw:b=A)
  (N:∀ w,C w→(execOp a.eval ⟨some d,op,t,p,af,some (j,A)⟩).run P w=.ok (.value v) w) (H:Nat.ble (d+1) n=true)
  (k:∀ D,Fits n D ((d,v)::e)→pk P ops Q C r D w):pk P ops Q C ((.pure,⟨some d,op,t,p,af,some (j,A)⟩)::r) a w:=by
 have O:yielded ops a.tmps j=some b:=by simp [yielded,I,F.slot _ _ E]
 subst hw
 exact ⟨v,Or.inl ⟨by simp [Region.wanted,O],N⟩,k _ (F.put H)⟩
theorem pk_skip {q:PK} {op:Op} {j g:Nat} {A b:Bool} (F:Fits n a e) (N:(ops[j]?).bind (·.dst)=some g) (I:look e g=some (.bool b)) (hw:b = !A) (E:Nat.ble (d+1) n=true)
  (k:∀ H,Fits n H ((d,undef)::e)→pk P ops Q C r H w):pk P ops Q C ((q,⟨some d,op,t,p,af,some (j,A)⟩)::r) a w:=by
 have O:yielded ops a.tmps j=some b:=by simp [yielded,N,F.slot _ _ I]
 have D:Region.wanted ⟨some d,op,t,p,af,some (j,A)⟩ (yielded ops a.tmps)=false:=by
  subst hw;cases A <;> simp [Region.wanted,O]
 cases q with
 | free=>exact ⟨undef,Or.inr ⟨D,rfl⟩,k _ (F.put E)⟩
 | pure=>exact ⟨undef,Or.inr ⟨D,rfl⟩,k _ (F.put E)⟩
 | keep=>exact ⟨fun h=>(by rw [D] at h;cases h),fun _=>k _ (F.put E)⟩
 | chg=>exact ⟨fun h=>(by rw [D] at h;cases h),fun _=>k _ (F.put E)⟩
theorem Wa {o:Oper} {K:Act→World→Prop} (hw:Region.wanted o (yielded ops a.tmps)=true) (h:rl P ops (fun e a w=>match e with | .normal=>K a w | e=>Q e a w) [o] a w):o.wp P a w K Q:=by
 have A:=h.1 hw;unfold Oper.wp at *
 generalize (execOp a.eval o).run P w=x at *
 cases x with
 | ok nx w' =>
  cases nx <;> simp only [Oper.upon] at A ⊢
  case value u=>exact A
  case skip=>exact A
  case defer d=>exact A
  case enter f args =>
   refine Calls.mono A fun e I D=>?_
   cases e with
   | returned u=>exact D
   | panicked c=>exact D
   | outgrown=>obtain ⟨E,w0,H⟩:=D;exact ⟨E,w0,H⟩
  case row row args=>exact A
 | halt x w'=>cases x <;> simp only [Oper.upon] at A ⊢ <;> exact A
theorem pk_keep {o:Oper} (h:rl P ops (fun e a w=>match e with | .normal=>∃ C':World→Prop,C' w∧(∀ w,C' w→C w)∧pk P ops Q C' r a w | e=>Q e a w) [o] a w) (D:o.guard=none) :
  pk P ops Q C ((.keep,o)::r) a w:=by
 have hw:Region.wanted o (yielded ops a.tmps)=true:=by simp [Region.wanted,D]
 exact ⟨fun A=>Wa hw h,fun A=>(by rw [hw] at A;cases A)⟩
theorem pk_chg {o:Oper} (h:rl P ops (fun e a w=>match e with | .normal=>∃ C':World→Prop,C' w∧pk P ops Q C' r a w | e=>Q e a w) [o] a w) (D:o.guard=none) :
  pk P ops Q C ((.chg,o)::r) a w:=by
 have hw:Region.wanted o (yielded ops a.tmps)=true:=by simp [Region.wanted,D]
 exact ⟨fun A=>Wa hw h,fun A=>(by rw [hw] at A;cases A)⟩
theorem Gj {op:Op} {j g:Nat} {A b:Bool} (F:Fits n a e) (I:(ops[j]?).bind (·.dst)=some g) (H:look e g=some (.bool b)) (hw:b=A)
  (h:rl P ops (fun e a w=>match e with | .normal=>∃ C':World→Prop,C' w∧(∀ w,C' w→C w)∧pk P ops Q C' r a w | e=>Q e a w) [⟨some d,op,t,p,af,some (j,A)⟩] a w) :
  pk P ops Q C ((.keep,⟨some d,op,t,p,af,some (j,A)⟩)::r) a w:=by
 have N:yielded ops a.tmps j=some b:=by simp [yielded,I,F.slot _ _ H]
 have D:Region.wanted ⟨some d,op,t,p,af,some (j,A)⟩ (yielded ops a.tmps)=true:=by subst hw;simp [Region.wanted,N]
 exact ⟨fun E=>Wa D h,fun E=>(by rw [D] at E;cases E)⟩
theorem Mem.atRowK {α:Type} {rd:Rd α} {sz:Nat} (M:Mem w0 G L w) {k m c:Nat} {ad:Option Addr} {cs:List Value} {N:TypeId} {xs:List α} (U:L[k]?=some (.row (.slice ad m c) m cs N sz)) (H:0 < sz) (E:Els rd sz G cs xs)
  {Lr:List Res} {k':Nat} (O:Lr[k']?=some (.row (.slice ad m c) m cs N sz)) {j:Nat} {X:α} (T:xs[j]?=some X) :
  ∃ b ch,Ix ad m j sz b (j * sz)∧m=xs.length∧ch.length=sz∧(∀ w,Keep G Lr w→∀ (q:Nat) (v:Value),ch[q]?=some v→w.cell? ⟨b,j * sz+q,none⟩=some v)∧rd G ch X:=by
 obtain ⟨l,ch,rr,Y,h2,h3,h4,h5⟩:=E.get T;have hm:m=xs.length:=by
  have S:=E.length;rw [(M.row_at U).1.1] at S
  exact Nat.eq_of_mul_eq_mul_right H S
 have aa:=A3 T;obtain ⟨b,rfl⟩:=M.row_some U tM;refine ⟨b,ch,⟨0,rfl,(Nat.zero_add _).symm,tM⟩,hm,h3,fun w hK q v V=>?_,h4⟩;have A:rowIs w (.slice (some ⟨b,0,none⟩) m c) m cs N sz:=hK.own _ (List.mem_of_getElem? O);have I:cs[j * sz+q]?=some v:=by
  rw [Y,List.append_assoc,List.getElem?_append_right tM,h2,Nat.add_sub_cancel_left,List.getElem?_append_left (A3 V),V]
 have D:=A3 I;rw [A.1.cellAt (j * sz+q) (by rw [← A.1.1];exact D),I]
end
end Go.Y
namespace Go.Y
open Go Go.RowKit
section
variable {P:Program} {ops:Array Oper} {Q:Exit→Act→World→Prop} {n:Nat} {a:Act} {w w0:World} {e:Env} {G:Av} {L:List Res}
 {d:Nat} {t:TypeId} {p:String} {af:Array Edge} {r:List Oper} {ρ:Operand→Value} {dd:Option Tmp} {g:Option (Nat × Bool)}
theorem S0 (n:Nat) {ty e:TypeId} {ad:Option Addr} {m c:Nat} (A:tk P ty=.slice e):(Op.equalIn (n+1) ty (.slice ad m c) (.slice none 0 0)).run P w=.ok ad.isNone w:=by
 cases ad <;> simp only [Op.equalIn,Sem.run_bind,B9 (Df A),Result.andThen_ok,Sem.run_pure] <;> rfl
theorem V4 {ty e:TypeId} {ad:Option Addr} {m c:Nat} (A:tk P ty=.slice e):(Op.equal ty (.slice ad m c) (.slice none 0 0)).run P w=.ok ad.isNone w:=S0 9999 A
theorem Aju {x y:Operand} {ty yt:TypeId} {e:TypeId} {ad:Option Addr} {n c:Nat} (A:tk P ty=.slice e) (D:ρ x=.slice ad n c) (E:ρ y=.slice none 0 0) :
  (execOp ρ ⟨dd,.binOp .eql ty x y yt,t,p,af,g⟩).run P w=.ok (.value (.bool ad.isNone)) w:=by
 simp [execOp,D,E,eqGuard,binOp,V4 A]
theorem Aqn {A:Array TypeId} {x y:Operand} {k:IntKind} {b c:Nat} (D:ρ x=.int k (b:Int)) (E:ρ y=.int k (c:Int)) :
  (execOp ρ ⟨dd,.call ⟨.builtin .max,#[x,y],A⟩,t,p,af,g⟩).run P w=.ok (.value (.int k ((max b c:Nat):Int))) w:=by
 rw [Afl D E,show ((max b c:Nat):Int)=max (b:Int) (c:Int) by omega]
theorem Zm {A:Array TypeId} {x y:Operand} {k:IntKind} {b c:Nat} (D:ρ x=.int k (b:Int)) (E:ρ y=.int k (c:Int)) :
  (execOp ρ ⟨dd,.call ⟨.builtin .min,#[x,y],A⟩,t,p,af,g⟩).run P w=.ok (.value (.int k ((min b c:Nat):Int))) w:=by
 rw [Awp D E,show ((min b c:Nat):Int)=min (b:Int) (c:Int) by omega]
theorem Mem.row_none (M:Mem w0 G L w) {k n c:Nat} {ad:Option Addr} {cs:List Value} {t:TypeId} {sz:Nat} (S:L[k]?=some (.row (.slice ad n c) n cs t sz)) (h:ad.isNone=true) :
  ad=none∧n=0∧c=0∧cs=[]:=by
 obtain ⟨⟨H,O⟩,_⟩:=M.row_at S
 rcases O with ⟨A,D⟩ | ⟨g,I,N,E,_⟩
 ·simp only [Value.slice.injEq] at A;refine ⟨A.1,D,A.2.2,?_⟩;rw [D,Nat.zero_mul] at H
  exact List.eq_nil_of_length_eq_zero H
 ·simp only [Value.slice.injEq] at E;rw [E.1] at h;simp at h
theorem Ta {f:FuncId} {A:Operand} {args:List Operand} {H:Array TypeId} {vs caps:List Value} {Φ:List Res→Value→Prop}
  (F:Fits n a e) (T:Ent P f) (U:ev e A=some (.func (.func f) #[] caps.toArray)) (hv:evs e args=some vs) (V:Nat.ble (d+1) n=true) (Y:Calls P f (vs++caps).toArray w (L4 w0 G Φ))
  (k:∀ v D w' E,Mem w0 G D w'→Φ D v→Fits n E ((d,v)::e)→rl P ops Q r E w') :
  rl P ops Q (⟨some d,.call ⟨.value A,args.toArray,H⟩,t,p,af,none⟩::r) a w:=by
 refine Jo F T U hv V Y fun x w' I=>?_
 cases x with
 | returned v=>obtain ⟨D,O,S⟩:=I;exact ⟨v,rfl,fun E N=>k v D w' E O S N⟩
 | panicked c=>exact I.elim
 | outgrown=>exact I.elim
end
end Go.Y
namespace Go.Y
open Go Go.RowKit
def Gt:Nat→List (Nat × Value)→List (List Value)→Prop
 | _,[],[]=>True
 | k,p::ps,c::cs=>p.1=k∧p.2.cells=c.toArray∧Gt (k+1) ps cs
 | _,_,_=>False
theorem Aar (off:Nat):∀ (c:List Value) (j:Nat) (pre mid post:List Value),mid.length=c.length→pre.length=off+j →
  (c.zipIdx j).foldl (fun (cs:Array Value) (cj:Value × Nat)=>cs.setIfInBounds (off+cj.2) cj.1) (pre++mid++post).toArray=(pre++c++post).toArray
 | [],j,pre,mid,post,h,_=>by
  have:mid=[]:=List.eq_nil_of_length_eq_zero h;subst this;rfl
 | x::c,j,pre,mid,post,h,hp=>by
  match mid,h with
  | m::mid,h =>
   simp only [List.zipIdx_cons,List.foldl_cons];have h1:(pre++m::mid++post).toArray.setIfInBounds (off+j) x=((pre++[x])++mid++post).toArray:=by
    rw [← hp]
    simp
   rw [h1,Aar off c (j+1) (pre++[x]) mid post (by simpa using h) (by simp [hp];omega)]
   simp
theorem Xw {sz:Nat}:∀ (ps:List (Nat × Value)) (cs:List (List Value)) (k:Nat) (pre rest:List Value),Gt k ps cs→(∀ c∈cs,c.length=sz)→pre.length=k * sz→rest.length=cs.length * sz →
  Instr.fill (fun j=>some (j * sz,sz)) (pre++rest).toArray ps=some (pre++cs.flatten).toArray
 | [],[],k,pre,rest,_,_,_,hr=>by
  have:rest=[]:=List.eq_nil_of_length_eq_zero (by simpa using hr);subst this
  simp [Instr.fill]
 | p::ps,c::cs,k,pre,rest,h,hl,hp,hr=>by
  obtain ⟨i,v⟩:=p;obtain ⟨h1,h2,h3⟩:=h;simp only at h1 h2;subst h1;have hcl:c.length=sz:=hl c (by simp);have hr':rest.length=sz+cs.length * sz:=by simpa [Nat.add_mul,Nat.add_comm] using hr
  have hsplit:rest=rest.take sz++rest.drop sz:=by simp
  have hf:(c.toArray.zipIdx.foldl (fun (cs:Array Value) (cj:Value × Nat)=>cs.setIfInBounds (i * sz+cj.2) cj.1) (pre++rest).toArray)=((pre++c)++rest.drop sz).toArray:=by
   have:=Aar (i * sz) c 0 pre (rest.take sz) (rest.drop sz) (by rw [List.length_take];omega) tM;rw [← Array.foldl_toList,Array.toList_zipIdx];rw [← this]
   conv=>lhs;rw [hsplit]
   simp
  have hc:¬ (v.cells.size≠sz∨i * sz+v.cells.size > (pre++rest).toArray.size):=by
   rw [h2];simp only [List.size_toArray,List.length_append,hcl,hp,hr']
   omega
  simp only [Instr.fill];rw [if_neg (by simpa using hc),h2];have ih:=Xw ps cs (i+1) (pre++c) (rest.drop sz) h3 (fun c hc=>hl c (by simp [hc])) (by simp [hp,hcl,Nat.add_mul]) (by rw [List.length_drop];omega);rw [show (fun (cs:Array Value) (x:Value × Nat)=>match x with | (c,j)=>cs.setIfInBounds (i * sz+j) c)=(fun (cs:Array Value) (cj:Value × Nat)=>cs.setIfInBounds (i * sz+cj.2) cj.1) from rfl,hf,ih]
  simp
theorem Els.cons {α:Type} {rd:Rd α} {sz:Nat} {G:Av} {c r:List Value} {x:α} {xs:List α} (h:rd G c x) (A:c.length=sz) (D:Els rd sz G r xs):Els rd sz G (c++r) (x::xs):=⟨c,r,rfl,A,h,D⟩
theorem Ahr {sz:Nat}:∀ {cs:List (List Value)},(∀ c∈cs,c.length=sz)→cs.flatten.length=cs.length * sz
 | [],_=>by simp
 | c::cs,hl=>by
  have ih:=Ahr (cs:=cs) (fun c hc=>hl c (by simp [hc]));have h0:=hl c (by simp);simp only [List.flatten_cons,List.length_append,List.length_cons,ih,h0,Nat.add_mul,Nat.one_mul]
  omega
section
variable {P:Program} {ops:Array Oper} {Q:Exit→Act→World→Prop} {n:Nat} {a:Act} {w w0:World} {e:Env} {G:Av} {L:List Res}
 {d:Nat} {t:TypeId} {p:String} {af:Array Edge} {r:List Oper}
theorem Bw {s et:TypeId} {i:TI} {A:Nat} {D:List (Nat × Operand)} {ps:List (Nat × Value)} {cs:List (List Value)} {fl:List Value} (F:Fits n a e) (M:Mem w0 G L w) (hs:tk P s=.slice et) (ht:TOK P et i)
  (hp:evp e D=some ps) (E:cs.flatten=fl) (V:Gt 0 ps cs) (S:∀ c∈cs,c.length=i.size) (H:cs.length=A) (U:∀ u∈fl,u.oneCell' = true) (I:0 < i.size) (O:A * i.size≤16777216) (Y:Nat.ble (d+1) n=true)
  (k:∀ v w' N,Mem w0 G (.row v A fl et i.size::L) w'→Fits n N ((d,v)::e)→rl P ops Q r N w') :
  rl P ops Q (⟨some d,.buildSlice s A D.toArray,t,p,af,none⟩::r) a w:=by
 subst E;have E:cs.flatten.length=A * i.size:=by
  rw [← H];exact Ahr S
 refine Bo F (Kl (cs:=cs.flatten) hs ht O ?_) Y fun N T=>k _ _ N ?_ T
 ·rw [F.evp hp];have:=Xw (sz:=i.size) ps cs 0 [] ((Array.range (A * i.size)).map (i.zero.cells[· % i.zero.cells.size]!)).toList V S (by simp) (by simp [H]);rw [List.nil_append] at this;rw [show (Array.range (A * i.size)).map (i.zero.cells[· % i.zero.cells.size]!)=((Array.range (A * i.size)).map (i.zero.cells[· % i.zero.cells.size]!)).toList.toArray from rfl]
  simpa only [List.nil_append] using this
 ·have:=M.newrow (t:=et) (sz:=i.size) (cs:=cs.flatten) (spare:=[]) (n:=A) (c:=A) U E (by simpa using E) (Nat.le_refl _) ?_
  ·rw [List.append_nil] at this
   exact this
  ·simp only [maxLen];have:A * 1≤A * i.size:=Nat.mul_le_mul_left _ I
   omega
variable {ρ:Operand→Value} {dd:Option Tmp} {g:Option (Nat × Bool)}
theorem Awl {x y:Operand} {ty yt:TypeId} {k O:IntKind} {a b:Int} {m:Nat} (I:ρ x=.int k a) (N:ρ y=.int O b) (E:b=(m:Int)) (H:m≤k.bits) :
  (execOp ρ ⟨dd,.binOp .shr ty x y yt,t,p,af,g⟩).run P w=.ok (.value (.int k (a / 2 ^ m))) w:=by
 subst E;have A:¬ ((m:Int) < 0):=by omega
 have D:(0:Int)≤2 ^ m:=Int.pow_nonneg tD
 simp [execOp,I,N,eqGuard,binOp,Op.shift,A,Nat.min_eq_left H,Int.fdiv_eq_ediv_of_nonneg _ D]
end
end Go.Y
namespace Go.Y
open Go Go.RowKit
def str (l:List UInt8):ByteArray:=⟨l.toArray⟩
theorem Cl (l:List UInt8):(str l).size=l.length:=by simp [str,ByteArray.size]
theorem Mu (l:List UInt8):(str l).toList=l:=by rw [Lib.toList_data];simp [str]
theorem Fc (l:List UInt8):(str l).data.toList=l:=by simp [str]
theorem Ajl (l A:List UInt8):str l++str A = str (l++A):=by
 apply ByteArray.ext
 rw [ByteArray.data_append]
 simp [str]
theorem La (l:List UInt8) (a b:Nat):(str l).extract a b=str ((l.take b).drop a):=by
 rw [Lib.extract_eq,Fc,str,List.drop_take]
theorem Abx (l:List UInt8) (i:Nat):(str l)[i]?=l[i]?:=by
 by_cases hi:i < l.length
 ·have A:i < (str l).size:=by rw [Cl];exact hi
  rw [getElem?_pos (str l) i A,List.getElem?_eq_getElem hi]
  rfl
 ·have A:¬ i < (str l).size:=by rw [Cl];exact hi
  rw [getElem?_neg (str l) i A,List.getElem?_eq_none tM]
theorem bd (l A:List UInt8):(l==A)=decide (l=A):=by
 by_cases h:l=A
 ·subst h;simp
 ·simp [h]
def Cr:Rd (List UInt8):=fun _ cs x=>cs=[.string (str x)]∧x.length≤9223372036854775807
theorem Au:Hx Cr:=fun _ _ _ _ _ h=>h
abbrev nb (b:UInt8):Int:=(b.toNat:Int)
theorem Ry (b:UInt8):nb b≤255:=by
 have:=b.toNat_lt;simp only [nb];omega
section
variable {P:Program} {w:World} {ρ:Operand→Value} {dd:Option Tmp} {t:TypeId} {p:String} {af:Array Edge} {g:Option (Nat × Bool)}
theorem Mz {ty:TypeId} {x:Operand} {l:List UInt8} (A:tk P ty=.str) (D:ρ x=.string (str l)) :
  (execOp ρ ⟨dd,.call ⟨.builtin .len,#[x],#[ty]⟩,t,p,af,g⟩).run P w=.ok (.value (.int .i64 (l.length:Nat))) w:=by
 simp [execOp,resolve,invoke,builtin,Builtin.len_,D,B9 (L6 A),goInt,Cl]
theorem Cu {ty:TypeId} {x y:Operand} {l:List UInt8} {k:IntKind} {i:Nat} {b:UInt8} (D:tk P ty=.str) (E:ρ x=.string (str l)) (H:ρ y=.int k (i:Int)) (A:l[i]?=some b) :
  (execOp ρ ⟨dd,.index ty x y,t,p,af,g⟩).run P w=.ok (.value (.int .u8 (nb b))) w:=by
 have I:(0:Int)≤(i:Int):=by omega
 simp [execOp,Instr.index,E,H,asIntOf,B9 (L6 D),Abx,A]
theorem Ip {ty:TypeId} {x:Operand} {N H:Option Operand} {l:List UInt8} {a b:Nat} {ka kb:IntKind} {za zb:Int} (T:tk P ty=.str) (I:ρ x=.string (str l))
  (E:match N with | none=>a=0 | some y=>ρ y=.int ka za∧za=(a:Int)) (A:match H with | none=>b=l.length | some y=>ρ y=.int kb zb∧zb=(b:Int)) (O:a≤b) (S:b≤l.length) :
  (execOp ρ ⟨dd,.slice ty x N H none,t,p,af,g⟩).run P w=.ok (.value (.string (str ((l.take b).drop a)))) w:=by
 have D:=B9 (w:=w) (L6 T);have U:(a:Int)≤(b:Int):=by omega
 have V:(b:Int)≤(l.length:Int):=by omega
 cases N with
 | none =>
  simp only at E;subst E
  cases H with
  | none =>
   simp only at A;subst A
   simp [execOp,Instr.sliceAt,D,Instr.slice,I,Instr.sliceBounds,Cl,La]
  | some y =>
   obtain ⟨A,rfl⟩:=A
   simp [execOp,Instr.sliceAt,D,Instr.slice,I,Instr.sliceBounds,Instr.sliceBound,A,asIntOf,S,Cl,La]
 | some z =>
  obtain ⟨E,rfl⟩:=E
  cases H with
  | none =>
   simp only at A;subst A
   simp [execOp,Instr.sliceAt,D,Instr.slice,I,Instr.sliceBounds,Instr.sliceBound,E,asIntOf,O,Cl,La]
  | some y =>
   obtain ⟨A,rfl⟩:=A
   simp [execOp,Instr.sliceAt,D,Instr.slice,I,Instr.sliceBounds,Instr.sliceBound,E,A,asIntOf,O,S,Cl,La]
theorem Bg {x y:Operand} {ty yt:TypeId} {l A:List UInt8} (E:ρ x=.string (str l)) (H:ρ y=.string (str A)) (h:l.length+A.length≤9223372036854775807) :
  (execOp ρ ⟨dd,.binOp .add ty x y yt,t,p,af,g⟩).run P w=.ok (.value (.string (str (l++A)))) w:=by
 have D:((l.length:Int)+(A.length:Int))≤9223372036854775807:=by omega
 simp [execOp,E,H,eqGuard,binOp,Op.stringOp,Cl,Ajl,D]
theorem Aqm {x y:Operand} {ty yt:TypeId} {l A:List UInt8} (D:ρ x=.string (str l)) (E:ρ y=.string (str A)) :
  (execOp ρ ⟨dd,.binOp .eql ty x y yt,t,p,af,g⟩).run P w=.ok (.value (.bool (decide (l=A)))) w:=by
 simp [execOp,D,E,eqGuard,binOp,Op.stringOp,Mu]
 exact bd _ _
theorem Sz {x y:Operand} {ty yt:TypeId} {l A:List UInt8} (D:ρ x=.string (str l)) (E:ρ y=.string (str A)) :
  (execOp ρ ⟨dd,.binOp .neq ty x y yt,t,p,af,g⟩).run P w=.ok (.value (.bool (!decide (l=A)))) w:=by
 simp [execOp,D,E,eqGuard,binOp,Op.stringOp,Mu]
 exact bd _ _
theorem Qk {x y:Operand} {ty yt:TypeId} {l A:List UInt8} (D:ρ x=.string (str l)) (E:ρ y=.string (str A)) :
  (execOp ρ ⟨dd,.binOp .geq ty x y yt,t,p,af,g⟩).run P w=.ok (.value (.bool (!Op.bytesLess l A))) w:=by
 simp [execOp,D,E,eqGuard,binOp,Op.stringOp,Mu]
theorem Qj {x y:Operand} {ty yt:TypeId} {l A:List UInt8} (D:ρ x=.string (str l)) (E:ρ y=.string (str A)) :
  (execOp ρ ⟨dd,.binOp .leq ty x y yt,t,p,af,g⟩).run P w=.ok (.value (.bool (Op.bytesLess l A || l==A))) w:=by
 simp [execOp,D,E,eqGuard,binOp,Op.stringOp,Mu]
end
end Go.Y
namespace Go.Y
open Go Go.RowKit
def bc (l:List UInt8):List Value:=l.map fun b=>.int .u8 (nb b)
theorem Yl (l:List UInt8):(bc l).length=l.length:=by simp [bc]
theorem Avh (l A:List UInt8):bc (l++A)=bc l++bc A:=by simp [bc]
theorem bc_str (l:List UInt8):Lib.strCells (str l)=bc l:=by simp [Lib.strCells,bc,str,nb]
theorem bc_one (l:List UInt8):∀ u∈bc l,u.oneCell' = true:=by
 intro u A;simp only [bc,List.mem_map] at A;obtain ⟨b,_,rfl⟩:=A
 rfl
def rdB:Rd UInt8:=fun _ cs x=>cs=[.int .u8 (nb x)]
theorem B7:Hx rdB:=fun _ _ _ _ _ h=>h
section
variable {P:Program} {w0 w:World} {G:Av} {L:List Res}
theorem Acw {w:World} {B:Nat} {e:TypeId} {sz:Nat} {v:Value} {n:Nat} {xs:List Value} (h:w.ownsRow B e sz v n xs):w.ownsRow 0 e sz v n xs:=by
 obtain ⟨H,E⟩:=h
 rcases E with E | ⟨g,A,D,I,_,N⟩
 ·exact ⟨H,Or.inl E⟩
 ·exact ⟨H,Or.inr ⟨g,A,D,I,Nat.zero_le _,N⟩⟩
theorem Mem.appendStr (M:Mem w0 G L w) {k n:Nat} {v:Value} {cs:List Value} {t u ty e:TypeId} {i:TI} {l:List UInt8} (hk:L[k]?=some (.row v n cs e 1)) (ht:tk P t=.slice e) (hu:tk P u=.str) (hi:TOK P e i) (hz:i.zero=.int .u8 0) (hs:i.size=1) (ab:i.bytes=1)
  (ak:n+l.length≤140737488355328) :
  ∃ A w',(Builtin.append_ #[t,u] ty #[v,.string (str l)]).run P w=.ok A w'∧Mem w0 G (L.set k (.row A (n+l.length) (cs++bc l) e 1)) w'∧(A = .slice none 0 0↔v=.slice none 0 0∧l=[]):=by
 obtain ⟨x,U,V,ae,Y⟩:=hi.info;obtain ⟨D,h2⟩:=M.row_at hk;have S:=Df ht;have T:=L6 hu;rw [hz] at Y;have O:=Cl l;have aa:n+(str l).size≤maxLen:=by rw [O];simp only [maxLen];omega
 have ah:n+(str l).size≤140737488355328:=by rw [O];exact ak
 have key:∀ A w',(Builtin.append_ #[t,u] ty #[v,.string (str l)]).run P w=.ok A w'→w'.ownsRow 0 e 1 A (n+(str l).size) (cs++Lib.strCells (str l))→w.grownBy w' v.ownBlock→(∀ b,A.ownBlock=some b→v.ownBlock=some b∨w.heap.size≤b)→(A = .slice none 0 0↔v=.slice none 0 0∧(str l).size=0) →
   ∃ A w',(Builtin.append_ #[t,u] ty #[v,.string (str l)]).run P w=.ok A w'∧Mem w0 G (L.set k (.row A (n+l.length) (cs++bc l) e 1)) w'∧(A = .slice none 0 0↔v=.slice none 0 0∧l=[]):=by
  intro A w' E ho N hf hn;rw [O,bc_str] at ho;refine ⟨A,w',E,M.grow_at hk hf ⟨ho,fun u hu=>?_⟩ N.os N.tape N.output N.size (fun b H an=>N.block b H (fun e=>an e.symm)),?_⟩
  ·rcases List.mem_append.1 hu with hu | hu
   ·exact h2 u hu
   ·exact bc_one l u hu
  ·rw [hn,O]
   constructor
   ·rintro ⟨h1,h2⟩;exact ⟨h1,List.eq_nil_of_length_eq_zero h2⟩
   ·rintro ⟨h1,h2⟩;exact ⟨h1,by rw [h2];rfl⟩
 rcases D.2 with ⟨hv,am⟩ | ⟨g,I,ag,hv,au,al,aw,av,aj,ao⟩
 ·obtain ⟨A,w',E,ho,N,hn⟩:=Lib.run_append_own_string (P:=P) w w.heap.size t u ty e x S T U Y (by rw [V,hs]) (by rw [ae,ab]) v n cs ⟨D.1,Or.inl ⟨hv,am⟩⟩ (str l) aa ah (Nat.le_refl _);refine key A w' E (Acw ho) N (fun b H=>?_) hn
  rcases ho.2 with ⟨ac,_⟩ | ⟨g',ap,aq,ac,ai,_⟩
  ·rw [ac] at H;simp [Value.ownBlock] at H
  ·rw [ac] at H;simp only [Value.ownBlock,Option.some.injEq] at H;subst H;exact Or.inr ai
 ·obtain ⟨A,w',E,ho,N,hn⟩:=Lib.run_append_own_string (P:=P) w 0 t u ty e x S T U Y (by rw [V,hs]) (by rw [ae,ab]) v n cs D (str l) aa ah (Nat.zero_le _);refine key A w' E ho N (fun b H=>?_) hn;subst hv;have ar:I * 1=ag.size:=by first | exact aj | exact aj.symm
  by_cases hroom:n+(str l).size≤I
  ·have:=Lib.run_append_room_string (P:=P) w t u ty e x S T U (by rw [V,hs]) g n I ag al (str l) hroom tM;rw [this] at E;simp only [Result.ok.injEq] at E;obtain ⟨rfl,_⟩:=E
   exact Or.inl H
  ·have holds:=D.cells (g:=g) rfl;have:=Lib.run_append_grow_string (P:=P) w t u ty e x _ S T U Y ⟨g,0,none⟩ n I cs (by rw [V,hs];exact D.1) holds (str l) tM (by simp only [maxLen] at aa;omega)
    (by rw [ae,ab];exact growslice_fits tM tM)
   rw [this] at E;simp only [Result.ok.injEq] at E;obtain ⟨rfl,_⟩:=E;simp only [Value.ownBlock,Option.some.injEq] at H
   right;omega
theorem Mem.freezeRow (M:Mem w0 G L w) {k n c g:Nat} {cs:List Value} {e:TypeId} (N:L[k]?=some (.row (.slice (some ⟨g,0,none⟩) n c) n cs e 1)) (m:Nat):Mem w0 G (L.eraseIdx k) (w.freeze ⟨g,0,none⟩ m):=by
 have I:=M.perm (Ah L k _ N)
 by_cases hm:m=0
 ·subst hm;have:w.freeze ⟨g,0,none⟩ 0=w:=by simp [World.freeze]
  rw [this]
  exact I.wn (List.sublist_cons_self _ _)
 ·have O:∀ b,b≠g→(w.freeze ⟨g,0,none⟩ m).heap[b]?=w.heap[b]?:=fun b D=>by
   simp only [World.freeze,hm,if_false,Array.getElem?_modify];rw [if_neg (fun e=>D e.symm)]
  have E:∃ o,(w.freeze ⟨g,0,none⟩ m).heap[g]?=some o:=by
   obtain ⟨A,_⟩:=M.row_at N;have H:g < w.heap.size:=(A.lt g rfl).2;have:g < (w.freeze ⟨g,0,none⟩ m).heap.size:=by simpa [World.freeze,hm] using H
   exact ⟨_,Array.getElem?_eq_getElem this⟩
  obtain ⟨o,S⟩:=E;have:=I.swap_head (y:=.obj g o) (w':=w.freeze ⟨g,0,none⟩ m) rfl S (by simp [World.freeze,hm]) (by simp [World.freeze,hm]) (by simp [World.freeze,hm]) (by simp [World.freeze,hm]) (fun b D=>O b (fun e=>D (by simp [Res.foot,Value.ownBlock,e])))
  exact this.wn (List.sublist_cons_self _ _)
end
section
variable {P:Program} {ops:Array Oper} {Q:Exit→Act→World→Prop} {n:Nat} {a:Act} {w w0:World} {e:Env} {G:Av} {L:List Res}
 {d:Nat} {t:TypeId} {p:String} {af:Array Edge} {r:List Oper}
theorem V7 {ρ:Operand→Value} {dd:Option Tmp} {g:Option (Nat × Bool)} {s u:TypeId} {x y:Operand} {v z A:Value} {w':World} (D:ρ x=v) (E:ρ y=z)
  (h:(Builtin.append_ #[s,u] t #[v,z]).run P w=.ok A w'):(execOp ρ ⟨dd,.call ⟨.builtin .append,#[x,y],#[s,u]⟩,t,p,af,g⟩).run P w=.ok (.value A) w':=by
 simp [execOp,resolve,invoke,builtin,D,E,h]
theorem Acm {s u et:TypeId} {i:TI} {x y:Operand} {v:Value} {k m:Nat} {cs:List Value} {l:List UInt8}
  (F:Fits n a e) (M:Mem w0 G L w) (T:L[k]?=some (.row v m cs et 1)) (Y:tk P s=.slice et) (hu:tk P u=.str) (ht:TOK P et i) (hz:i.zero=.int .u8 0) (N:i.size=1) (O:i.bytes=1)
  (hx:ev e x=some v) (hy:ev e y=some (.string (str l))) (A:m+l.length≤140737488355328) (S:Nat.ble (d+1) n=true)
  (kk:∀ D w' E,Mem w0 G (L.set k (.row D (m+l.length) (cs++bc l) et 1)) w'→(D = .slice none 0 0↔v=.slice none 0 0∧l=[])→Fits n E ((d,D)::e)→rl P ops Q r E w') :
  rl P ops Q (⟨some d,.call ⟨.builtin .append,#[x,y],#[s,u]⟩,t,p,af,none⟩::r) a w:=by
 obtain ⟨D,w',V,I,U⟩:=M.appendStr (P:=P) (ty:=t) (t:=s) (u:=u) T Y hu ht hz N O A
 exact Bo F (V7 (F.ev hx) (F.ev hy) V) S fun E H=>kk D w' E I U H
theorem Ys {ρ:Operand→Value} {dd:Option Tmp} {g:Option (Nat × Bool)} {s:TypeId} {x:Operand} {ad:Addr} {m c:Nat} (D:ρ x=.slice (some ad) m c) (A:c≠0) :
  (execOp ρ ⟨dd,.call ⟨.builtin .unsafeSliceData,#[x],#[s]⟩,t,p,af,g⟩).run P w=.ok (.value (.pointer (some ad))) w:=by
 simp [execOp,resolve,invoke,builtin,D,Lib.run_unsafeSliceData_row w #[s] t ad m c A]
theorem Vz {ρ:Operand→Value} {dd:Option Tmp} {g:Option (Nat × Bool)} {s:TypeId} {x:Operand} {m c:Nat} (A:ρ x=.slice none m c) :
  (execOp ρ ⟨dd,.call ⟨.builtin .unsafeSliceData,#[x],#[s]⟩,t,p,af,g⟩).run P w=.ok (.value (.pointer none)) w:=by
 simp [execOp,resolve,invoke,builtin,A,Lib.run_unsafeSliceData_nil w #[s] t m c]
theorem Vx {ρ:Operand→Value} {dd:Option Tmp} {g:Option (Nat × Bool)} {s u:TypeId} {x y:Operand} (A:ρ x=.pointer none) (D:ρ y=.int .i64 0) :
  (execOp ρ ⟨dd,.call ⟨.builtin .unsafeString,#[x,y],#[s,u]⟩,t,p,af,g⟩).run P w=.ok (.value (.string (str []))) w:=by
 simp [execOp,resolve,invoke,builtin,A,D,Lib.run_unsafeString_none w s u t none]
 rfl
theorem Ack {s u et:TypeId} {i:TI} {x y:Operand} {k c g:Nat} {l:List UInt8} (F:Fits n a e) (M:Mem w0 G L w) (hk:L[k]?=some (.row (.slice (some ⟨g,0,none⟩) l.length c) l.length (bc l) et 1))
  (hp:tk P s=.ptr et) (ht:TOK P et i) (h1:i.size=1) (h0:l≠[]) (T:ev e x=some (.pointer (some ⟨g,0,none⟩))) (hy:ev e y=some (.int .i64 (l.length:Nat))) (hd:Nat.ble (d+1) n=true)
  (kk:∀ w' E,Mem w0 G (L.eraseIdx k) w'→Fits n E ((d,.string (str l))::e)→rl P ops Q r E w') :
  rl P ops Q (⟨some d,.call ⟨.builtin .unsafeString,#[x,y],#[s,u]⟩,t,p,af,none⟩::r) a w:=by
 obtain ⟨A,h2⟩:=M.row_at hk;have hc:P.cellsOf et=1:=by
  obtain ⟨z,Y,aa,_⟩:=ht.info
  simp [Program.cellsOf,Y,aa,h1]
 rcases A.2 with ⟨H,ag⟩ | ⟨g',ab,D,H,ac,N,ah,I,ae,S⟩
 ·cases H
 ·simp only [Value.slice.injEq,Option.some.injEq,Addr.mk.injEq,true_and,and_true] at H;obtain ⟨rfl,rfl⟩:=H;have O:w.shape? g=some (et,D.size):=by simp [World.shape?,N]
  have holds:=A.cells (g:=g) rfl;have hr:=Lib.run_unsafeString_row (P:=P) w s u t et (L7 hp) hc g D.size O l h0 tM (by simp only [maxLen] at I;omega) (fun j x T=>holds j _ (by rw [bc,List.getElem?_map,T];rfl));refine Bo F (w':=w.freeze ⟨g,0,none⟩ l.length) ?_ hd fun E F'=>kk _ E (M.freezeRow hk _) F';have U:=F.ev T;have V:=F.ev hy;simp only [execOp,resolve,Sem.run_bind,Sem.run_pure,Result.andThen_ok,invoke,builtin]
  simp [U,V,hr]
  rfl
theorem V1 {ρ:Operand→Value} {dd:Option Tmp} {g:Option (Nat × Bool)} {ty yt A:TypeId} {i:TI} {x y:Operand} {ad:Addr} (D:tk P ty=.ptr A) (E:TOK P A i) (H:ρ x=.pointer (some ad)) (I:ρ y=.pointer (some ad)) :
  (execOp ρ ⟨dd,.binOp .neq ty x y yt,t,p,af,g⟩).run P w=.ok (.value (.bool false)) w:=by
 obtain ⟨z,N,_⟩:=E.info;have:=Lib.run_neq_ptr_same (P:=P) w ad (L7 D) N
 simp [execOp,H,I,eqGuard,this]
theorem Aca {ρ:Operand→Value} {dd:Option Tmp} {g:Option (Nat × Bool)} {D A N E:TypeId} {i:TI} {x:Operand} {b k o:Nat} {cs:List Value} (M:Mem w0 G L w) (U:L[k]?=some (.blk b cs E)) (V:o < cs.length)
  (Y:tk P D=.ptr N) (S:P.underlying A=some .unsafePointer) (ht:TOK P N i) (O:i.size≠0) (hx:ρ x=.pointer (some ⟨b,o,none⟩)) :
  (execOp ρ ⟨dd,.convert D A x,t,p,af,g⟩).run P w=.ok (.value (.pointer (some ⟨b,o,none⟩))) w:=by
 obtain ⟨z,hz,I,_⟩:=ht.info;have T:w.heap[b]?=some (.cells cs.toArray E (0,0)):=M.own _ (List.mem_of_getElem? U);have H:w.shape? b=some (E,cs.length):=by simp [World.shape?,T]
 have:=Lib.run_to_unsafe (P:=P) w ⟨b,o,none⟩ (L7 Y) S hz (by rw [I];exact O) H V
 simp [execOp,hx,this]
theorem V3 {ρ:Operand→Value} {dd:Option Tmp} {g:Option (Nat × Bool)} {E D I A:TypeId} {i:TI} {x:Operand} {b k o:Nat} {cs:List Value} (M:Mem w0 G L w) (S:L[k]?=some (.blk b cs A))
  (U:P.underlying E=some .unsafePointer) (N:tk P D=.ptr I) (V:TOK P I i) (T:liesAt P P.depth A (cs.length / P.cellsOf A) o I 1=true) (Y:ρ x=.pointer (some ⟨b,o,none⟩)) :
  (execOp ρ ⟨dd,.convert E D x,t,p,af,g⟩).run P w=.ok (.value (.pointer (some ⟨b,o,none⟩))) w:=by
 obtain ⟨z,hz,_⟩:=V.info;have O:w.heap[b]?=some (.cells cs.toArray A (0,0)):=M.own _ (List.mem_of_getElem? S);have H:w.shape? b=some (A,cs.length):=by simp [World.shape?,O]
 have:=Lib.run_from_unsafe (P:=P) w ⟨b,o,none⟩ U (L7 N) hz H T
 simp [execOp,Y,this]
theorem run_noEscape {ρ:Operand→Value} {dd:Option Tmp} {g:Option (Nat × Bool)} {f:FuncId} {D:Func} {x:Operand} {E:Array TypeId} {v:Value} (S:P.funcs[f]?=some D) (A:(D.name== "runtime.NumGoroutine")=false)
  (N:D.body.isNone=true) (T:Extern.findNext D=none) (O:Extern.find D=some Extern.AbiNoEscape.same) (U:ρ x=v) (H:ρ (.func f)=.func (.func f) #[] #[]) :
  (execOp ρ ⟨dd,.call ⟨.value (.func f),#[x],E⟩,t,p,af,g⟩).run P w=.ok (.value v) w:=by
 have I:=run_callFunc_extern (P:=P) S A N T O #[v] w;rw [Lib.run_noEscape] at I;simp only [execOp,resolve,H,Deferred.ofValue,Sem.run_bind,Sem.run_pure,Result.andThen_ok,invoke]
 simp [U,I]
end
end Go.Y
namespace Go.Y
open Go Go.RowKit Go.Sort
section
variable {P:Program} {w0 w:World} {G:Av} {L:List Res}
theorem Mem.below' (M:Mem w0 G L w) {w':World} (h:Below w.heap.size w w'):Mem w0 G L w':=M.same h.os h.tape h.output h.size h.block
theorem Mem.drewN (M:Mem w0 G L w) (n:Nat):Mem w0 G L (w.drewN n):=M.same rfl rfl rfl (Nat.le_refl _) (fun _ _=>rfl)
theorem Mem.grew (M:Mem w0 G L w) (os:Array Obj):Mem w0 G L (Go.Sort.grow w os) :=
 M.same rfl rfl rfl (by simp [Go.Sort.grow]) (fun b A=>by
  show (w.heap++os)[b]?=_
  rw [Array.getElem?_append_left A])
abbrev A1l:UInt8→Value:=fun b=>Value.int .u8 (b.toNat:Int)
theorem Mem.holdsB (M:Mem w0 G L w) {k b:Nat} {l:List UInt8} {t:TypeId} (E:L[k]?=some (.blk b (bc l) t)) (m:Nat) (I:m≤l.length):Holds A1l w b 0 (l.take m).toArray:=by
 intro j D;have H:j < m:=by simp only [List.size_toArray,List.length_take] at D;omega
 have A:j < l.length:=by omega
 refine ⟨M.cellL E ?_,M.frozenL E _⟩;rw [Nat.zero_add,bc,List.getElem?_map,List.getElem?_eq_getElem A];rw [getElem!_pos _ j (by simpa using D)]
 simp [A1l,nb]
theorem Mem.putRowB (M:Mem w0 G L w) {k b:Nat} {l:List UInt8} {t:TypeId} (D:L[k]?=some (.blk b (bc l) t)) (A:Array UInt8) (I:A.size≤l.length) (n:Nat) :
  Mem w0 G (L.set k (.blk b (bc (A.toList++l.drop A.size)) t)) ((putRow A1l w b 0 A).drewN n):=by
 refine Mem.drewN ?_ n;have E:w.heap[b]?=some (.cells (bc l).toArray t (0,0)):=M.own _ (List.mem_of_getElem? D);refine M.swap_at D rfl ?_ rfl rfl rfl (by simp [putRow,mapBlock]) ?_
 ·show (putRow A1l w b 0 A).heap[b]?=_
  simp only [putRow,mapBlock,Array.getElem?_modify,E,if_true,Option.map_some,onCells]
  congr 2
  apply Array.ext_getElem?
  intro j;simp only [putCells,Array.getElem?_mapIdx,List.getElem?_toArray]
  by_cases hj:j < l.length
  ·rw [bc,List.getElem?_map,List.getElem?_eq_getElem hj];simp only [Option.map_some]
   by_cases hd:j < A.size
   ·rw [bc,List.getElem?_map,List.getElem?_append_left (by simpa using hd)];have:A.toList[j]?=some A[j]:=by simp [hd]
    rw [this]
    simp [hd,A1l,nb]
   ·rw [bc,List.getElem?_map,List.getElem?_append_right (by simpa using Nat.le_of_not_lt hd),List.getElem?_drop];have e:A.size+(j - A.toList.length)=j:=by simp;omega
    rw [e,List.getElem?_eq_getElem hj]
    simp [hd]
  ·rw [List.getElem?_eq_none (by rw [Yl];omega),List.getElem?_eq_none (by rw [Yl,List.length_append,List.length_drop];simp;omega)]
   rfl
 ·intro r H;simp only [putRow,mapBlock,Array.getElem?_modify];rw [if_neg (fun e=>H (by simp [Res.foot,e]))]
end
section
variable {P:Program} {w0 w:World} {G:Av} {L:List Res} {ρ:Operand→Value} {dd:Option Tmp} {t:TypeId} {p:String} {af:Array Edge} {g:Option (Nat × Bool)}
theorem Axr (l:List UInt8):strOfNums (l.map fun b=>(b.toNat:Int))=str l:=by
 unfold strOfNums str;rw [List.map_map]
 congr 2
 conv=>rhs;rw [← List.map_id l]
 apply List.map_congr_left
 intro b _
 simp
def Dw:Value→Bool
 | .nilIface=>true
 | _=>false
theorem Rl {A et:TypeId} {i:TI} {x y:Operand} {n b h:Nat} {k:IntKind} {z:Int} (D:tk P A=.array n et) (H:TOK P et i) (I:ρ x=.pointer (some ⟨b,0,none⟩)) (N:ρ y=.int k z) (O:z=(h:Int)) (E:h≤n) :
  (execOp ρ ⟨dd,.slice A x none (some y) none,t,p,af,g⟩).run P w=.ok (.value (.slice (some ⟨b,0,none⟩) h n)) w:=by
 subst O;have S:(h:Int)≤(n:Int):=by omega
 simp [execOp,Instr.sliceAt,B9 (F7 D),I,Instr.sureAddr,Instr.sliceBounds,Instr.sliceBound,N,asIntOf,E,H.sizeOf,Fv]
theorem Yc {D A e:TypeId} {b o n c:Nat} {l:List UInt8} (S:tk P D=.slice e) (I:tk P e=.int .u8) (H:tk P A=.str) (O:l.length=n)
  (E:∀ j,j < n→w.cell? ⟨b,o+j,none⟩=(bc l)[j]?):(convert D A (.slice (some ⟨b,o,none⟩) n c)).run P w=.ok (.string (str l)) w:=by
 have:=run_convert_bytes_arg (P:=P) w D e (Df S) (Be I) b o n c (l.map fun b=>(b.toNat:Int)) (by simpa using O) (fun j N=>by
  rw [E j N,bc,List.getElem?_map,List.getElem?_eq_getElem tM,List.getD_eq_getElem?_getD,List.getElem?_map,List.getElem?_eq_getElem tM]
  rfl) A (L6 H)
 rw [this,Axr]
theorem Acb {E A e H:TypeId} {x:Operand} {k b n c:Nat} {l:List UInt8} (M:Mem w0 G L w) (T:L[k]?=some (.blk b (bc l) H)) (U:tk P E=.slice e) (O:tk P e=.int .u8) (N:tk P A=.str)
  (V:ρ x=.slice (some ⟨b,0,none⟩) n c) (Y:n≤l.length):(execOp ρ ⟨dd,.convert E A x,t,p,af,g⟩).run P w=.ok (.value (.string (str (l.take n)))) w:=by
 have:=Yc (P:=P) (w:=w) (b:=b) (o:=0) (n:=n) (c:=c) (l:=l.take n) U O N (by rw [List.length_take];omega) (fun j S=>by
  have I:(bc (l.take n))[j]?=(bc l)[j]?:=by
   simp only [bc,List.getElem?_map,List.getElem?_take,if_pos S]
  rw [I,Nat.zero_add];have D:j < (bc l).length:=by rw [Yl];omega
  rw [List.getElem?_eq_getElem D]
  exact M.cellL T (List.getElem?_eq_getElem D))
 simp [execOp,V,this]
theorem S3 (n:Nat) {ty:TypeId} (D:tk P ty=.iface) {v:Value} (H:v=.nilIface∨∃ E u,v=.iface E u):(Op.equalIn (n+1) ty v .nilIface).run P w=.ok (Dw v) w:=by
 have A:∃ m,P.underlying ty=some (.interface m):=by
  unfold tk at D
  split at D <;> simp_all
 obtain ⟨m,A⟩:=A
 rcases H with rfl | ⟨E,u,rfl⟩
 ·simp only [Op.equalIn,Sem.run_bind,B9 A,Result.andThen_ok,Sem.run_pure,Dw]
 ·simp only [Op.equalIn,Sem.run_bind,B9 A,Result.andThen_ok,Sem.run_pure,Dw]
theorem Ir {ty:TypeId} (A:tk P ty=.iface) {v:Value} (D:v=.nilIface∨∃ E u,v=.iface E u):(Op.equal ty v .nilIface).run P w=.ok (Dw v) w:=S3 9999 A D
theorem M0 {x:Operand} {ty yt:TypeId} {v:Value} (E:tk P ty=.iface) (I:v=.nilIface∨∃ A u,v=.iface A u) (H:ρ x=v) (D:ρ (.const .nilIface)=.nilIface) :
  (execOp ρ ⟨dd,.binOp .eql ty x (.const .nilIface) yt,t,p,af,g⟩).run P w=.ok (.value (.bool (Dw v))) w:=by
 rcases I with rfl | ⟨A,u,rfl⟩
 ·simp [execOp,H,D,eqGuard,binOp,Ir E (Or.inl rfl),Dw]
 ·simp [execOp,H,D,eqGuard,binOp,Ir E (Or.inr ⟨A,u,rfl⟩),Dw]
theorem Ajs {x:Operand} {ty yt:TypeId} {v:Value} (E:tk P ty=.iface) (I:v=.nilIface∨∃ A u,v=.iface A u) (H:ρ x=v) (D:ρ (.const .nilIface)=.nilIface) :
  (execOp ρ ⟨dd,.binOp .neq ty x (.const .nilIface) yt,t,p,af,g⟩).run P w=.ok (.value (.bool (!(Dw v)))) w:=by
 rcases I with rfl | ⟨A,u,rfl⟩
 ·simp [execOp,H,D,eqGuard,binOp,Ir E (Or.inl rfl),Dw]
 ·simp [execOp,H,D,eqGuard,binOp,Ir E (Or.inr ⟨A,u,rfl⟩),Dw]
end
structure Globs (gt gm gs gr:Nat) (G:Av):Prop where
 tab:∃ t f,G gt=some (.cells (Lib.pow10Tab.map fun z=>Value.int .u64 z).toArray t f)
 max:∃ m,Ic G gm 0=some (.int .i64 m)
 syn:∃ ev,Ic G gs 0=some ev∧(ev=.nilIface∨∃ te pe,ev=.iface te pe)
 rng:∃ ev,Ic G gr 0=some ev∧(ev=.nilIface∨∃ te pe,ev=.iface te pe)
theorem Globs.mono {N E I H:Nat} {G D:Av} (h:Globs N E I H G) (A:Gle G D):Globs N E I H D:=by
 obtain ⟨⟨t,f,T⟩,⟨m,U⟩,⟨O,V,Y⟩,⟨S,h5,h6⟩⟩:=h
 exact ⟨⟨t,f,A _ _ T⟩,⟨m,Nf A U⟩,⟨O,Nf A V,Y⟩,⟨S,Nf A h5,h6⟩⟩
section
variable {P:Program} {w0 w:World} {G:Av} {L:List Res}
theorem Globs.tabIs {D E I H:Nat} (h:Globs D E I H G) (M:Mem w0 G L w) {A:String} (O:P.globalNamed A=some D):Lib.TabIs P w A .u64 Lib.pow10Tab:=by
 obtain ⟨t,f,N⟩:=h.tab
 simp [Lib.TabIs,World.var?,O,M.pers _ _ N]
theorem Mem.bytesWorld (M:Mem w0 G L w) (e:TypeId) (s:ByteArray):Mem w0 G L (Lib.bytesWorld w e s):=by
 refine M.same rfl rfl rfl ?_ ?_
 ·simp only [Lib.bytesWorld,World.freeze,if_neg (by decide:¬ (1=0)),World.alloc,World.drew,Array.size_modify,Array.size_push];omega
 ·intro b A;simp only [Lib.bytesWorld,World.freeze,if_neg (by decide:¬ (1=0)),World.alloc,World.drew,Array.getElem?_modify];rw [if_neg tM,Array.getElem?_push,if_neg tM]
end
theorem Axi {M:Nat}:∀ (l:List UInt8) (acc u:Nat),acc≤M→Lib.parseUintM M acc l=.ok u→u≤M
 | [],acc,u,h,hu=>by
  simp only [Lib.parseUintM,Lib.NumEnd.ok.injEq] at hu
  omega
 | c::r,acc,u,h,hu=>by
  unfold Lib.parseUintM at hu
  split at hu
  ·split at hu
   ·cases hu
   ·split at hu
    ·cases hu
    ·exact Axi r _ u tM hu
  ·cases hu
theorem pu64_le {l:List UInt8} {u:Nat} (h:Lib.parseUintB 64 l=.ok u):u≤18446744073709551615:=by
 unfold Lib.parseUintB at h
 split at h
 ·cases h
 ·exact Axi l 0 u tM h
theorem Alf {u v:Nat} {A:Array UInt8} (h:Lib.FmtInv (Lib.nDigits u) u 0 v A):A.toList=Lib.decDigits u:=by
 rw [Lib.decDigits_eq]
 apply List.ext_getElem?
 intro t;have E:=h.size
 by_cases ht:t < Lib.nDigits u
 ·have D:=h.done t (Nat.zero_le _) ht;rw [getElem!_pos A t tM] at D;rw [List.getElem?_map,List.getElem?_range ht,Option.map_some,← D]
  simp [show t < A.size by omega]
 ·rw [List.getElem?_eq_none (by simp;omega),List.getElem?_eq_none (by simp;omega)]
end Go.Y
namespace Go.Y
open Go Go.RowKit
section
variable {P:Program} {ops:Array Oper} {Q:Exit→Act→World→Prop} {n:Nat} {a:Act} {w w0:World} {e:Env} {G:Av} {L:List Res}
 {d:Nat} {t:TypeId} {p:String} {af:Array Edge} {r:List Oper}
theorem Afu {f:FuncId} {A:Operand} {args:List Operand} {D:Array TypeId} {vs first:List Value} {Φ:Value→Prop}
  (F:Fits n a e) (O:Ent P f) (S:ev e A=some (.func (.func f) first.toArray #[])) (Y:evs e args=some vs) (T:Nat.ble (d+1) n=true)
  (V:Calls P f (first++vs).toArray w (B5 w0 G L Φ))
  (k:∀ v w' N,Mem w0 G L w'→Φ v→Fits n N ((d,v)::e)→rl P ops Q r N w') :
  rl P ops Q (⟨some d,.call ⟨.value A,args.toArray,D⟩,t,p,af,none⟩::r) a w:=by
 refine ⟨fun _=>?_,fun h=>by simp [Region.wanted] at h⟩;unfold Oper.wp;have U:(execOp a.eval ⟨some d,.call ⟨.value A,args.toArray,D⟩,t,p,af,none⟩).run P w=.ok (.enter f (first++vs).toArray) w:=by
  have E:=F.ev S;have H:=F.evs Y;simp only [execOp,resolve,E,Deferred.ofValue,Sem.run_bind,Sem.run_pure,Result.andThen_ok,invoke];rw [show (first.toArray++Array.map a.eval args.toArray++#[])=(first++vs).toArray by simp [← H]]
  exact S7 O
 rw [U];refine Calls.mono V fun x w' I=>?_
 cases x with
 | returned v=>obtain ⟨E,H⟩:=I;exact k v w' _ E H (F.put T)
 | panicked c=>exact I.elim
 | outgrown=>exact I.elim
variable {ρ:Operand→Value} {dd:Option Tmp} {g:Option (Nat × Bool)}
theorem Yv {A:Fn} {x:Operand} {v:Value} (D:ρ x=v):(execOp ρ ⟨dd,.makeFunc A #[x] #[],t,p,af,g⟩).run P w=.ok (.value (.func A #[v] #[])) w:=by
 simp [execOp,Instr.makeFunc,D]
theorem Zl {A:TypeId} {cs:Array Value} {o:Nat} {v:Value} (h:(tk P A).agg=some false) (D:cs[o]?=some v):(part A cs o).run P w=.ok v w:=by
 simp [part,Uf h,D]
theorem V0 {s et:TypeId} {i:TI} {x y z:Operand} {ad:Option Addr} {m c h q:Nat} {kh Y:IntKind} {zh H:Int} (O:tk P s=.slice et) (S:TOK P et i) (T:ρ x=.slice ad m c)
  (U:ρ y=.int kh zh) (D:zh=(h:Int)) (V:ρ z=.int Y H) (E:H=(q:Int)) (I:h≤q) (N:q≤c) :
  (execOp ρ ⟨dd,.slice s x none (some y) (some z),t,p,af,g⟩).run P w=.ok (.value (.slice ad h q)) w:=by
 subst D E;have c1:(h:Int)≤(q:Int):=by omega
 have c2:(q:Int)≤(c:Int):=by omega
 have e:(if q=0 then ad else ad.map (·.add (0 * i.size)))=ad:=by
  split
  ·rfl
  ·cases ad with
   | none=>rfl
   | some z=>simp [Addr.add]
 have A:=B9 (w:=w) (Df O);simp only [execOp,Instr.sliceAt,Sem.run_bind,A,Result.andThen_ok,Instr.slice,T]
 simp [Instr.sliceBounds,Instr.sliceBound,U,V,asIntOf,I,N,S.sizeOf,A]
 rw [show (fun x:Addr=>x.add 0)=(fun x=>x) from by funext x;simp [Addr.add]] 
 cases ad <;> simp
theorem Br {A et:TypeId} {i:TI} {x y:Operand} {m b o:Nat} {k:IntKind} {z:Int} {j:Nat} (E:tk P A=.array m et) (I:TOK P et i) (D:i.size=1) (N:ρ x=.pointer (some ⟨b,o,none⟩)) (O:ρ y=.int k z) (S:z=(j:Int)) (H:j < m) :
  (execOp ρ ⟨dd,.indexAddr A x y,t,p,af,g⟩).run P w=.ok (.value (.pointer (some ⟨b,o+j,none⟩))) w:=by
 subst S;have T:(0:Int)≤(j:Int):=by omega
 have U:(j:Int) < (m:Int):=by omega
 simp [execOp,Instr.indexAt,N,O,asIntOf,B9 (F7 E),H,I.sizeOf,D,Fv,Instr.sureAddr]
theorem C9 {s et:TypeId} {i j:TI} {m:Nat} {A:List (Nat × Operand)} {ps:List (Nat × Value)} {cs:List Value} {a:Act} {n:Nat} {e:Env} (F:Fits n a e) (N:tk P s=.array m et) (O:TOK P s i) (E:TOK P et j) (I:evp e A=some ps)
  (H:Instr.fill (fun k=>some (k * j.size,j.size)) i.zero.cells ps=some cs.toArray) :
  (execOp a.eval ⟨dd,.build s A.toArray,t,p,af,g⟩).run P w=.ok (.value (.agg cs.toArray)) w:=by
 have D:=F.evp I;simp only [List.map_toArray] at D;simp only [execOp,Instr.build,Sem.run_bind,O.zeroValue,Result.andThen_ok,B9 (F7 N),E.sizeOf];rw [show (A.toArray.map fun (x:Nat × Operand)=>(x.1,a.eval x.2)).toList=ps from by simpa using D,H]
 simp
theorem Aj.bound {α:Type} {rd:Rd α} {sz:Nat} {ad:Option Addr} {n c:Nat} {xs:List α} (S:Aj rd sz G (.slice ad n c) xs):n≤c∧c≤9223372036854775807:=by
 obtain ⟨H,I,A,D,E,N⟩:=S;simp only [Value.slice.injEq] at A;obtain ⟨rfl,rfl,rfl⟩:=A
 exact ⟨D,E⟩
theorem Aj.nilz {α:Type} {rd:Rd α} {sz:Nat} {ad:Option Addr} {n c:Nat} {xs:List α} (S:Aj rd sz G (.slice ad n c) xs) (h:ad.isNone=true):xs=[]:=by
 obtain ⟨H,I,D,N,O,E⟩:=S;simp only [Value.slice.injEq] at D;obtain ⟨rfl,rfl,rfl⟩:=D
 rcases E with ⟨_,A⟩ | ⟨b,o,A,_⟩
 ·exact A
 ·rw [A] at h;cases h
theorem Mem.row_bound (M:Mem w0 G L w) {k n c:Nat} {ad:Option Addr} {cs:List Value} {t:TypeId} {sz:Nat} (H:L[k]?=some (.row (.slice ad n c) n cs t sz)):n≤c∧c≤9223372036854775807:=by
 obtain ⟨I,N,A,D,E,_⟩:=M.rS H;simp only [Value.slice.injEq] at A;obtain ⟨_,_,rfl⟩:=A
 exact ⟨D,E⟩
theorem Aj.clip {α:Type} {rd:Rd α} {sz:Nat} {ad:Option Addr} {n c:Nat} {xs:List α} (S:Aj rd sz G (.slice ad n c) xs):Aj rd sz G (.slice ad n n) xs:=by
 obtain ⟨I,N,A,O,T,D⟩:=S;simp only [Value.slice.injEq] at A;obtain ⟨rfl,rfl,rfl⟩:=A;refine ⟨_,_,rfl,Nat.le_refl _,tM,?_⟩
 rcases D with ⟨rfl,rfl⟩ | ⟨b,o,E,H⟩
 ·exact Or.inl ⟨rfl,rfl⟩
 ·exact Or.inr ⟨b,o,E,H⟩
theorem V2 {E et:TypeId} {i:TI} {x y:Operand} {m:Nat} {cs:Array Value} {k:IntKind} {z:Int} {j:Nat} {v:Value} (I:tk P E=.array m et) (D:TOK P et i) (H:i.size=1) (A:i.k.agg=some false)
  (S:ρ x=.agg cs) (T:ρ y=.int k z) (U:z=(j:Int)) (N:j < m) (O:cs[j]?=some v) :
  (execOp ρ ⟨dd,.index E x y,t,p,af,g⟩).run P w=.ok (.value v) w:=by
 subst U;have V:(0:Int)≤(j:Int):=by omega
 have Y:(j:Int) < (m:Int):=by omega
 simp [execOp,Instr.index,S,T,asIntOf,B9 (F7 I),N,D.sizeOf,H,Zl (w:=w) (by rw [D.k];exact A) O]
theorem B1 {E:Func} {n:Nat} {a:Act} {e:Env} (F:Fits n a e) {t u ty k b:Nat} {i:TI} {cs:List Value} {x:Value} {R:Ending→World→Prop} (M:Mem w0 G L w) (O:L[k]?=some (.blk b cs ty)) (N:E.results = #[.cell t ty,.tmp u])
  (D:TOK P ty i) (A:i.k.agg=some true) (H:cs.length=i.size) (S:look e t=some (.pointer (some ⟨b,0,none⟩))) (T:look e u=some x) (h:R (.returned (.tuple #[.agg cs.toArray,x])) w):bodyPost P E R .ret a w:=by
 refine Nh F (v:=.tuple #[.agg cs.toArray,x]) ?_ h;have I:(loadVar ty ⟨b,0,none⟩).run P w=.ok (.agg cs.toArray) w:=Hr D A H (M.cellsL O (by rw [List.drop_zero,← H,List.take_length]))
 simp [results,N,F.slot _ _ S,F.slot _ _ T,asAddr,I]
theorem Akb {A:Array Oper} {Q:Exit→Act→World→Prop} {n:Nat} {a:Act} {e:Env} {d:Nat} {r:List Oper} {op:Op} {j q:Nat} {D:Bool} (F:Fits n a e) (N:(A[j]?).bind (·.dst)=some q) (H:look e q=some undef) (I:Nat.ble (d+1) n=true)
  (k:∀ E,Fits n E ((d,undef)::e)→rl P A Q r E w):rl P A Q (⟨some d,op,t,p,af,some (j,D)⟩::r) a w:=by
 have O:yielded A a.tmps j=none:=by
  simp [yielded,N,F.slot _ _ H,undef]
 refine ⟨fun h=>?_,fun h=>k _ (F.put I)⟩
 simp [Region.wanted,O] at h
end
end Go.Y
namespace Go.Y
open Go Go.RowKit Go.WideShapes Go.ChangeShapes
def G0 (w:World):Av:=fun r=>w.heap[r]?
theorem Mem.start (w:World):Mem w (G0 w) [] w :=
 ⟨rfl,rfl,rfl,Nat.le_refl _,fun _ _ h=>h,by simp,by simp,List.Pairwise.nil⟩
theorem Mem.below {w0 w:World} {L:List Res} (M:Mem w0 (G0 w0) L w):Below w0.heap.size w0 w :=
 ⟨M.os,M.tape,M.output,M.grow,fun k A=>by
  have h:G0 w0 k=some w0.heap[k]:=Array.getElem?_eq_getElem A;rw [M.pers k _ h];exact h.symm⟩
theorem Xt {w:World} {b o:Nat}:Ic (G0 w) b o=w.cell? ⟨b,o,none⟩:=by
 simp only [Ic,G0,World.cell?]
 cases w.heap[b]? with
 | none=>rfl
 | some x=>cases x <;> simp
section
variable {H:Type} {enc:TypeId × Value→H} {P:Program} {w:World} {sp:Nat→Bool} {hd:Bool}
theorem P5 {W':World} {sp':Nat→Bool} (hl:laidOutB P=true) (hb:Below w.heap.size w W'):∀ {ts:List TypeId} {vs:List Value} {ds:List (DataW H)} {ps:List MemPlace},
  (∀ t∈ts,P.readableRec t=true∧t < P.types.size)→DataW.TrodAll enc P w 0 (fun _=>true) true ts vs ds ps→(∀ p∈ps,p.block < w.heap.size)→(∀ p∈ps,sp' p.block=true)→DataW.TrodAll enc P W' 0 sp' true ts vs ds ps
 | [],[],[],ps,_,h,_,_=>h
 | t::ts,v::vs,d::ds,ps,ht,h,hp,hs=>by
  obtain ⟨p,q,h1,h2,rfl⟩:=h;refine ⟨p,q,WideElems.Trod_stays hl (ht t (by simp)).1 (ht t (by simp)).2 h1 (fun x hx=>hb.same (hp x (by simp [hx]))) (fun x hx=>hs x (by simp [hx])),?_,rfl⟩
  exact P5 hl hb (fun u hu=>ht u (by simp [hu])) h2 (fun x hx=>hp x (by simp [hx])) (fun x hx=>hs x (by simp [hx]))
 | [],[],_::_,_,_,h,_,_=>h.elim
 | [],_::_,_,_,_,h,_,_=>h.elim
 | _::_,[],_,_,_,h,_,_=>h.elim
 | _::_,_::_,[],_,_,h,_,_=>h.elim
theorem Arn {f:Func} {s:ChangeSpec} {A I D:Bool} {Y:World} {args:Array Value} {ds T:List (DataW H)} {E:List MemPlace} {tb:TypeId}
  (hl:laidOutB P=true) (S:f.params.toList.all (fun t=>P.readableRec t && decide (t < P.types.size))=true)
  (hW:DataW.Whole enc P f.params.toList s.vars A w args.toList ds T E) (hv:s.vars=[]) (hb:Below w.heap.size w Y)
  (U:(s.fn H (ds++T)).results=[.lit (.bool true)]∧(s.fn H (ds++T)).args=ds∧(s.fn H (ds++T)).vars=[]) (hr:f.resultTypes = #[tb]) (hu:tk P tb=.bool) :
  s.post enc P f A I D false w args (.bool true) Y:=by
 have N:=hW;obtain ⟨p,q,hA,hV,rfl,aa,ab⟩:=hW;rw [hv] at hV;obtain ⟨rfl,rfl⟩:=trodVars_none hV;have O:=N.lt;refine ⟨ds,[],p++[],[],p,[],N,?_,?_,?_,hb.frame _,fun h=>by cases h⟩
 ·rw [U.1,hr];exact trodAll_mk1 (shut_bool (Vl hu) true)
 ·rw [U.2.1];refine P5 hl hb (fun t ht=>?_) hA (fun x V=>O x (by simpa using V)) (fun x V=>by simpa using O x (by simpa using V));have:=List.all_eq_true.1 S t ht
  simpa using this
 ·rw [U.2.2,hv];rfl
end
end Go.Y
