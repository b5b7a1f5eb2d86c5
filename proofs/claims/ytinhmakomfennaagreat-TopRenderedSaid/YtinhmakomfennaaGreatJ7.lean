/- Own lemmas. -/
import Derived.Test.YtinhmakomfennaaGreatJ6
import Derived.MapKept
import Derived.Test.YtinhmakomfennaaGreatJ4
import Derived.Test.YtinhmakomfennaaGreatJ1
import Derived.Test.YtinhmakomfennaaGreatJ2
set_option linter.unusedSimpArgs false
set_option linter.unusedVariables false
set_option linter.unusedSectionVars false
set_option maxRecDepth 10000
namespace Go.V
open Go Go.Proofs Go.Proofs.YtinhmakomfennaaGreat
theorem ent176:Y.Ent Tryz.prog 176:=.mk' Tryz.func176 rfl rfl
theorem Akb {s:List UInt8}:Str s↔(Nat.ble s.length 64 && s.all Q0)=true:=by
 unfold Str;simp only [Bool.and_eq_true,Nat.ble_eq,List.all_eq_true];refine and_congr Iff.rfl ⟨fun h c z=>?_,fun h c z=>?_⟩
 ·have:=h c z;simp only [Q0,Bool.and_eq_true,decide_eq_true_eq];simp only [Abp,Y.nb] at this;omega
 ·have:=h c z;simp only [Q0,Bool.and_eq_true,decide_eq_true_eq] at this;simp only [Abp,Y.nb];omega
theorem Aqc {w0:World} {G:Y.Ghost} {vs:List AV} {h h':H} {v:AV} (z:Aqd vs h=some (v,h')) (ρ:Nm) (D:List Y.Res) (w:World) (us:List Value) (Z:VRs ρ vs us) (E:HR ρ w0 G D h w) (U:Bt ρ h.nx) :
  Calls Tryz.prog 176 us.toArray w fun x w'=>∃ u,x=.returned u∧∃ ρ',Aft ρ ρ' h.nx h'.nx∧HR ρ' w0 G D h' w'∧VR ρ' v u:=by
 unfold Aqd at z;split at z
 ·rename_i s;cases z;obtain ⟨u,r,rfl,rfl,rfl⟩:=Z;obtain ⟨L,O,M⟩:=E;refine Calls.mono (Acy M (s:=s)) fun x w' z=>?_;obtain ⟨v,rfl⟩:∃ v,x=.returned v:=by
   cases x with
   | returned v=>exact ⟨v,rfl⟩
   | _=>exact z.elim
  obtain ⟨J,b,rfl,I⟩:=z;refine ⟨_,rfl,ρ,.refl U,⟨L,O,J⟩,?_⟩;show Value.bool b=.bool _;rw [Akb] at I;congr 1;exact Bool.eq_iff_iff.2 I
 ·cases z
open Go Go.Proofs
abbrev SK:=MK × Int
def kA (x:SK):List AV:=[.int .u8 x.1.1,.str x.1.2.1,.str x.1.2.2,.int .i64 x.2]
def kL (x:SK):List Value:=[.int .u8 x.1.1,.string (Y.str x.1.2.1),.string (Y.str x.1.2.2),.int .i64 x.2]
def kv (x:SK):Value:=.agg (kL x).toArray
theorem kv_r (ρ:Nm) (x:SK):VRs ρ (kA x) (kL x):=⟨_,_,rfl,rfl,_,_,rfl,rfl,_,_,rfl,rfl,_,_,rfl,rfl,rfl⟩
theorem flat279:Aav Tryz.prog 279 [0,2,2,0]=true:=kR
theorem kv_eq {w:World} (x y:SK):(Op.equal 279 (kv x) (kv y)).run Tryz.prog w=.ok (decide (x=y)) w:=by
 have D:=flat279;obtain ⟨fs,Z⟩:∃ fs,Tryz.prog.underlying 279=some (.struct fs):=⟨_,Tryz.underlying279⟩;simp only [Aav,Z,Bool.and_eq_true,Bool.not_eq_true'] at D;obtain ⟨hg,U,D⟩:=D;have z:Tryz.prog.fieldsOf 279=fs:=by simp [Program.fieldsOf,Z]
 have Y:Tryz.prog.underlying 279=some (.struct (Tryz.prog.fieldsOf 279)):=by rw [z];exact Z
 have h:eqL [0,2,2,0] (kA x) (kA y)=some (decide (x=y)):=by
  obtain ⟨⟨a,b,c⟩,d⟩:=x;obtain ⟨⟨a',b',c'⟩,d'⟩:=y;simp only [kA,eqL,decide_true,Bool.and_true,Option.some.injEq];rw [Bool.eq_iff_iff];simp only [Bool.and_eq_true,decide_eq_true_eq,Prod.mk.injEq];constructor
  ·rintro ⟨E,I,J,O⟩;exact ⟨⟨E,I,J⟩,O⟩
  ·rintro ⟨⟨E,I,J⟩,O⟩;exact ⟨E,I,J,O⟩
 show (Op.equalIn 10000 279 (.agg (kL x).toArray) (.agg (kL y).toArray)).run _ w=_;rw [show 10000=9999+1 from rfl,run_equalIn_struct w 9999 279 _ _ Y U,z];exact Aek (ρ:=fun _=>none) (n:=9998) _ _ 0 _ _ _ D (kv_r _ x) (kv_r _ y) h
theorem Wy {w:World} (e:Bool) (x:SK):(Instr.checkKey e 10000 279 (kv x)).run Tryz.prog w=.ok () w:=by
 have p:∀ (t i:Nat) (v:Value),(Y.tk Tryz.prog t).agg=some false→(kL x)[i]?=some v→(part t (kL x).toArray i).run Tryz.prog w=.ok v w:=fun t i v I J=>Y.run_part1 I (by simpa using J);have U:=p 5 0 _ kR rfl;have Z:=p 9 1 _ kR rfl;have q9:=p 9 2 _ kR rfl;have O:=p 3 3 _ kR rfl;have D:(Instr.checkKey e 9999 5 (.int .u8 x.1.1)).run Tryz.prog w=.ok () w:=MapKept.run_checkKey Tryz.underlying5 (by first | rfl | trivial | exact ⟨_,rfl⟩) e 9998;have E:∀ s,(Instr.checkKey e 9999 9 (.string s)).run Tryz.prog w=.ok () w:=fun s=>MapKept.run_checkKey Tryz.underlying9 (by first | rfl | trivial | exact ⟨_,rfl⟩) e 9998;have z:(Instr.checkKey e 9999 3 (.int .i64 x.2)).run Tryz.prog w=.ok () w:=MapKept.run_checkKey Tryz.underlying3 (by first | rfl | trivial | exact ⟨_,rfl⟩) e 9998;unfold kv;show (Instr.checkKey e (9999+1) 279 _).run Tryz.prog w=_;rw [Instr.checkKey];simp only [Sem.run_bind,run_underlying Tryz.underlying279,Result.andThen_ok];simp [U,Z,q9,O,D,E,z]
theorem Ape (a:ByteArray):(a==a)=true:=by cases a;rename_i d;show (d==d)=true;simp
theorem kv_same (x:SK):Instr.sameBits 10000 (kv x) (kv x)=true:=by
 show Instr.sameBits (9999+1) (.agg _) (.agg _)=true;simp [Instr.sameBits,kL,Ape]
abbrev Dc:=List (SK × Int)
def toE (b:Nat):Dc→List MapEntry
 | []=>[]
 | x::l=>{ key:=kv x.1,val:=.int .i64 x.2,born:=b }::toE (b+1) l
def fst? (k:SK):Nat→Dc→Option (Nat × Int)
 | _,[]=>none
 | i,x::l=>if k=x.1 then some (i,x.2) else fst? k (i+1) l
theorem Awc {w:World} (k:SK):∀ (l:Dc) (b i:Nat),(Instr.findAsking 279 (kv k) (toE b l) i).run Tryz.prog w=.ok ((fst? k i l).map fun r=>(r.1,Value.int .i64 r.2)) w
 | [],b,i=>rfl
 | x::l,b,i=>by
  show (Instr.findAsking 279 (kv k) ({ key:=kv x.1,val:=.int .i64 x.2,born:=b }::toE (b+1) l) i).run Tryz.prog w=_;rw [Instr.findAsking];simp only [Sem.run_bind,kv_eq,Result.andThen_ok,fst?]
  by_cases h:k=x.1
  ·simp [h]
  ·simp [h,Awc k l (b+1) (i+1)]
theorem Pm {w:World} (k:SK) (l:Dc):(Instr.findKey 279 (kv k) (toE 0 l)).run Tryz.prog w=.ok ((fst? k 0 l).map fun r=>(r.1,Value.int .i64 r.2)) w:=by
 unfold Instr.findKey;simp only [Sem.run_bind,run_underlying Tryz.underlying279,Result.andThen_ok];cases l with
 | nil=>rfl
 | cons x l =>
  exact Awc k (x::l) 0 0
theorem Pe:∀ (l:Dc) (b:Nat),(toE b l).length=l.length
 | [],b=>rfl
 | x::l,b=>by show (toE (b+1) l).length+1=l.length+1;rw [Pe l (b+1)]
theorem J8:∀ (l:Dc) (b i:Nat),(toE b l)[i]?=(l[i]?).map fun x=>{ key:=kv x.1,val:=.int .i64 x.2,born:=b+i }
 | [],b,i=>rfl
 | x::l,b,0=>rfl
 | x::l,b,i+1=>by
  show (toE (b+1) l)[i]?=(l[i]?).map _;rw [J8 l (b+1) i,show b+1+i=b+(i+1) by omega]
theorem Uy:∀ (l m:Dc) (b:Nat),toE b (l++m)=toE b l++toE (b+l.length) m
 | [],m,b=>rfl
 | x::l,m,b=>by
  show _::toE (b+1) (l++m)=_::(toE (b+1) l++_);rw [Uy l m (b+1),List.length_cons,show b+1+l.length=b+(l.length+1) by omega]
theorem Mr:∀ {l:Dc} {k:SK} {i j:Nat} {v:Int},fst? k i l=some (j,v)→i≤j∧l[j - i]?=some (k,v)
 | [],k,i,j,v,h=>by cases h
 | x::l,k,i,j,v,h=>by
  unfold fst? at h;split at h
  ·rename_i hk;cases h;rw [Nat.sub_self];exact ⟨Nat.le_refl _,by rw [hk];rfl⟩
  ·obtain ⟨h1,h2⟩:=Mr h;refine ⟨tM,?_⟩;rw [show j - i=(j - (i+1))+1 by omega];exact h2
def mpO (l:Dc):Obj:=.map (toE 0 l).toArray l.length
theorem Sw {w:World} {b:Nat} {l:Dc} (D:w.heap[b]?=some (mpO l)) (k:SK) (z:Bool) :
  (Instr.lookup 274 (.map (some b)) (kv k) z).run Tryz.prog w=.ok (match fst? k 0 l with
   | some r=>if z then .tuple #[.int .i64 r.2,.bool true] else .int .i64 r.2
   | none=>if z then .tuple #[.int .i64 0,.bool false] else .int .i64 0) w:=by
 have E:(zeroValue 3).run Tryz.prog w=.ok (.int .i64 0) w:=Tryz.zeroValue3 w;simp only [Instr.lookup,Sem.run_bind,run_underlying Tryz.underlying274,Result.andThen_ok,MapKept.run_getObj_map D,Sem.run_pure,Wy,Pm];cases fst? k 0 l with
 | none=>simp only [Option.map_none,Sem.run_bind,E,Result.andThen_ok,Sem.run_pure]
 | some r=>simp only [Option.map_some,Sem.run_bind,Sem.run_pure,Result.andThen_ok]
theorem Aud {w:World} {b:Nat} {l:Dc} (z:w.heap[b]?=some (mpO l)) (k:SK) (v:Int) (D:fst? k 0 l=none) :
  (Instr.mapUpdate 274 (.map (some b)) (kv k) (.int .i64 v)).run Tryz.prog w=.ok () { w with heap:=w.heap.setIfInBounds b (mpO (l++[(k,v)])) }:=by
 simp only [Instr.mapUpdate,Sem.run_bind,run_underlying Tryz.underlying274,Result.andThen_ok,MapKept.run_getObj_map z,Sem.run_pure,Wy,Pm,D,Option.map_none,MapKept.run_setObj_map _ z];have:(toE 0 l).toArray.push { key:=kv k,val:=.int .i64 v,born:=l.length } = (toE 0 (l++[(k,v)])).toArray:=by
  apply Array.ext'
  rw [Uy];simp [toE]
 rw [this,mpO,List.length_append];rfl
theorem Auk {w:World} {b:Nat} {l:Dc} (z:w.heap[b]?=some (mpO l)) (k:SK) (D:fst? k 0 l=none) :
  (Instr.mapEntry 274 (.map (some b)) (kv k)).run Tryz.prog w=.ok (.tuple #[.int .i64 0,.int .i64 l.length]) { w with heap:=w.heap.setIfInBounds b (mpO (l++[(k,0)])) }:=by
 have E:∀ w,(zeroValue 3).run Tryz.prog w=.ok (.int .i64 0) w:=Tryz.zeroValue3;simp only [Instr.mapEntry,Sem.run_bind,run_underlying Tryz.underlying274,Result.andThen_ok,MapKept.run_getObj_map z,Sem.run_pure,Wy,Pm,D,Option.map_none,E,MapKept.run_setObj_map _ z];have:(toE 0 l).toArray.push { key:=kv k,val:=.int .i64 0,born:=l.length } = (toE 0 (l++[(k,0)])).toArray:=by
  apply Array.ext'
  rw [Uy];simp [toE]
 rw [this,mpO,List.length_append];rfl
theorem Auj {w:World} {b i:Nat} {l:Dc} {v:Int} (I:w.heap[b]?=some (mpO l)) (k:SK) (J:fst? k 0 l=some (i,v)) :
  (Instr.mapEntry 274 (.map (some b)) (kv k)).run Tryz.prog w=.ok (.tuple #[.int .i64 v,.int .i64 i]) { w with heap:=w.heap.setIfInBounds b (mpO l) }:=by
 obtain ⟨_,E⟩:=Mr J;rw [Nat.sub_zero] at E;have z:=J8 l 0 i;rw [E] at z;have D:(toE 0 l).toArray[i]?=some { key:=kv k,val:=.int .i64 v,born:=0+i }:=by simpa using z
 have hs:(Instr.keyThatStays (kv k) (kv k)).run Tryz.prog w=.ok (kv k) w:=by
  unfold Instr.keyThatStays;rw [kv_same];rfl
 have O:((toE 0 l).toArray.modify i fun e=>{ e with key:=kv k })=(toE 0 l).toArray:=by
  apply Array.ext'
  rw [Array.toList_modify]
  apply List.ext_getElem?
  intro j;rw [List.getElem?_modify]
  by_cases hj:i=j
  ·subst hj;simp [z]
  ·simp [hj]
 simp only [Instr.mapEntry,Sem.run_bind,run_underlying Tryz.underlying274,Result.andThen_ok,MapKept.run_getObj_map I,Sem.run_pure,Wy,Pm,J,Option.map_some,D,Option.getD_some,hs,MapKept.run_setObj_map _ I,O];rw [Nat.zero_add];rfl
theorem Aui {w:World} {b i:Nat} {l:Dc} {v u:Int} {k:SK} (J:w.heap[b]?=some (mpO l)) (E:l[i]?=some (k,v)) :
  (Instr.entryStore 274 (.map (some b)) (.int .i64 i) (.int .i64 u)).run Tryz.prog w=.ok () { w with heap:=w.heap.setIfInBounds b (mpO (l.set i (k,u))) }:=by
 have z:i < l.length:=Y.lt_of_get E;have O:((toE 0 l).toArray.findIdx? fun e=>(e.born:Int)==(i:Int))=some i:=by
  rw [List.findIdx?_toArray,List.findIdx?_eq_some_iff_getElem];refine ⟨by rw [Pe];exact z,?_,fun j I=>?_⟩
  ·have:=J8 l 0 i;rw [E,List.getElem?_eq_getElem (by rw [Pe];exact z)] at this;simp only [Option.map_some,Option.some.injEq] at this;rw [this];simp
  ·have D:j < l.length:=tM;have:=J8 l 0 j;rw [List.getElem?_eq_getElem (by rw [Pe];exact D),List.getElem?_eq_getElem D] at this;simp only [Option.map_some,Option.some.injEq] at this;rw [this];simp;omega
 have U:((toE 0 l).toArray.modify i fun e=>{ e with val:=.int .i64 u })=(toE 0 (l.set i (k,u))).toArray:=by
  apply Array.ext'
  rw [Array.toList_modify]
  apply List.ext_getElem?
  intro j;rw [List.getElem?_modify,J8,J8,List.getElem?_set]
  by_cases I:i=j
  ·subst I;simp [E,z,(List.getElem?_eq_some_iff.1 E).2]
  ·simp [I]
 simp only [Instr.entryStore,Sem.run_bind,MapKept.run_getObj_map J,Result.andThen_ok,asInt,asIntOf,Sem.run_pure,O,MapKept.run_setObj_map _ J,U];rw [mpO,List.length_set]
open Go.Y (Mem Fits rl upd)
def Es (l:Dc) (k:SK):Int:=match fst? k 0 l with
 | some r=>r.2
 | none=>0
def Oe (l:Dc) (k:SK):Dc:=match fst? k 0 l with
 | some _=>l
 | none=>l++[(k,0)]
def ixE (l:Dc) (k:SK):Nat:=match fst? k 0 l with
 | some r=>r.1
 | none=>l.length
def Ou (l:Dc) (k:SK):Dc:=(Oe l k).set (ixE l k) (k,Es l k+1)
theorem addE_at {l:Dc} {k:SK}:(Oe l k)[ixE l k]?=some (k,Es l k):=by
 unfold Oe ixE Es;cases h:fst? k 0 l with
 | none=>simp
 | some r=>simpa using (Mr h).2
theorem Xd:∀ (l m:Dc) (k:SK) (i:Nat),fst? k i l=none→fst? k i (l++m)=fst? k (i+l.length) m
 | [],m,k,i,h=>rfl
 | x::l,m,k,i,h=>by
  unfold fst? at h;split at h
  ·cases h
  ·rename_i hk;show (if k=x.1 then _ else fst? k (i+1) (l++m))=_;rw [if_neg hk,Xd l m k (i+1) h,List.length_cons,show i+1+l.length=i+(l.length+1) by omega]
theorem Aat:∀ (l m:Dc) (k:SK) (i:Nat) r,fst? k i l=some r→fst? k i (l++m)=some r
 | [],m,k,i,r,h=>by cases h
 | x::l,m,k,i,r,h=>by
  unfold fst? at h;show (if k=x.1 then _ else fst? k (i+1) (l++m))=_;split at h
  ·rename_i hk;rw [if_pos hk];exact h
  ·rename_i hk;rw [if_neg hk];exact Aat l m k (i+1) r h
theorem Ze {l:Dc} {k:SK} (y:SK):Es (Oe l k) y=Es l y:=by
 unfold Oe;cases h:fst? k 0 l with
 | some r=>rfl
 | none =>
  simp only;unfold Es;cases hy:fst? y 0 l with
  | some r=>rw [Aat l _ y 0 r hy]
  | none =>
   rw [Xd l _ y 0 hy]
   by_cases hyk:y=k <;> simp [fst?,hyk]
theorem Ahm:∀ (l:Dc) (k y:SK) (i j:Nat) (v u:Int),fst? k i l=some (i+j,v)→fst? y i (l.set j (k,u))=if y=k then some (i+j,u) else fst? y i l
 | [],k,y,i,j,v,u,h=>by cases h
 | x::l,k,y,i,0,v,u,h=>by
  have hx:k=x.1:=by
   have:=(Mr h).2;rw [show i+0 - i=0 by omega] at this;simp only [List.getElem?_cons_zero,Option.some.injEq] at this;rw [this]
  show (if y=k then some (i,u) else fst? y (i+1) l)=if y=k then some (i+0,u) else (if y=x.1 then some (i,x.2) else fst? y (i+1) l)
  by_cases hy:y=k
  ·rw [if_pos hy,if_pos hy];rfl
  ·rw [if_neg hy,if_neg hy,if_neg (by rw [← hx];exact hy)]
 | x::l,k,y,i,j+1,v,u,h=>by
  unfold fst? at h;split at h
  ·simp only [Option.some.injEq,Prod.mk.injEq] at h;omega
  ·rename_i hx;have ih:=Ahm l k y (i+1) j v u (by rw [h,show i+1+j=i+(j+1) by omega]);show (if y=x.1 then some (i,x.2) else fst? y (i+1) (l.set j (k,u)))=if y=k then some (i+(j+1),u) else (if y=x.1 then some (i,x.2) else fst? y (i+1) l);rw [ih]
   by_cases hy:y=k
   ·rw [if_pos hy,if_pos hy,if_neg (by rw [hy];exact hx),show i+1+j=i+(j+1) by omega]
   ·rw [if_neg hy,if_neg hy]
theorem Awo {l:Dc} {k:SK}:fst? k 0 (Oe l k)=some (0+ixE l k,Es l k):=by
 unfold Oe ixE Es;cases h:fst? k 0 l with
 | some r=>simp [h]
 | none=>simp only;rw [Xd l _ k 0 h];simp [fst?]
theorem Ajw {l:Dc} {k:SK} (y:SK):Es (Ou l k) y=if y=k then Es l k+1 else Es l y:=by
 unfold Ou;show (match fst? y 0 ((Oe l k).set (ixE l k) (k,Es l k+1)) with | some r=>r.2 | none=>0)=_;rw [Ahm _ k y 0 (ixE l k) (Es l k) _ Awo]
 by_cases hy:y=k
 ·rw [if_pos hy,if_pos hy]
 ·rw [if_neg hy,if_neg hy];exact Ze y
section
variable {w:World} {b:Nat} {l:Dc} {k:SK}
theorem Sv (z:w.heap[b]?=some (mpO l)):(Instr.lookup 274 (.map (some b)) (kv k) false).run Tryz.prog w=.ok (.int .i64 (Es l k)) w:=by
 rw [Sw z];unfold Es;cases fst? k 0 l <;> rfl
theorem run_ent (z:w.heap[b]?=some (mpO l)):∃ v,(Instr.mapEntry 274 (.map (some b)) (kv k)).run Tryz.prog w=.ok (.tuple #[v,.int .i64 (ixE l k)]) { w with heap:=w.heap.setIfInBounds b (mpO (Oe l k)) }:=by
 unfold ixE Oe;cases h:fst? k 0 l with
 | none=>exact ⟨_,Auk z k h⟩
 | some r=>exact ⟨_,Auj z k h⟩
end
theorem Kh {P:Program} {z:Array Oper} {Q:Exit→Act→World→Prop} {a:Act} {w:World} {d:Nat} {op:Op} {t:TypeId} {p:String} {D:Array Edge} {r:List Oper} {v:Value} {w':World}
  (E:(execOp a.eval ⟨some d,op,t,p,D,none⟩).run P w=.ok (.value v) w') (k:rl P z Q r (a.put (some d) v) w'):rl P z Q (⟨some d,op,t,p,D,none⟩::r) a w:=by
 refine ⟨fun _=>?_,fun h=>by simp [Region.wanted] at h⟩;unfold Oper.wp;rw [E];exact k
theorem Auq {P:Program} {z:Array Oper} {Q:Exit→Act→World→Prop} {a:Act} {w:World} {op:Op} {t:TypeId} {p:String} {D:Array Edge} {r:List Oper} {w':World}
  (E:(execOp a.eval ⟨none,op,t,p,D,none⟩).run P w=.ok .skip w') (k:rl P z Q r a w'):rl P z Q (⟨none,op,t,p,D,none⟩::r) a w:=by
 refine ⟨fun _=>?_,fun h=>by simp [Region.wanted] at h⟩;unfold Oper.wp;rw [E];exact k
theorem E8 {a:Act} {i:Nat} {v:Value} (h:a.tmps[i]?=some v):a.eval (.tmp i)=v:=by simp [Act.eval,Array.getD_eq_getD_getElem?,h]
theorem Auz {a:Act} {n d:Nat} {v:Value} {B:Y.Env} (F:Fits n a B) (hd:d < n):(a.put (some d) v).tmps[d]?=some v:=by
 have:d < a.tmps.size:=by rw [F.size];exact hd
 simp [Act.put,this]
theorem Gm {a:Act} {d i:Nat} {v u:Value} (z:a.tmps[i]?=some u) (hd:d≠i):(a.put (some d) v).tmps[i]?=some u:=by
 simp [Act.put,Array.getElem?_setIfInBounds_ne hd,z]
theorem Ava {a:Act} {n d:Nat} {v:Value} {B:Y.Env} (F:Fits n a B) (hd:d < n) (z:Y.look B d=none):Fits n (a.put (some d) v) B:=by
 refine ⟨by simp [Act.put,F.size],F.defers,fun i u D=>?_⟩;refine Gm (F.slot i u D) fun e=>?_;rw [e,D] at z;cases z
theorem mem_map {w0:World} {G:Y.Ghost} {b:Nat} {l l':Dc} {L:List Y.Res} {w:World} (M:Mem w0 G (.obj b (mpO l)::L) w):Mem w0 G (.obj b (mpO l')::L) { w with heap:=w.heap.setIfInBounds b (mpO l') }:=by
 have E:w.heap[b]?=some (mpO l):=M.own (.obj b (mpO l)) (by simp);have D:=MapKept.heap_set (o':=mpO l') E;exact M.swap_head (y:=.obj b (mpO l')) rfl D.1 rfl rfl rfl (by simp) (fun b' z=>D.2 b' (fun e=>z (by rw [e];rfl)))
def Rl:List (Option Tmp × Op × Option (Tmp × Bool)):=[(some 31,.move (.tmp 3),none),(some 32,.load 279 (.tmp 7),none),(some 33,.lookup 274 (.tmp 31) (.tmp 32) false,none),(some 34,.binOp .add 3 (.tmp 33) (.const (.int .i64 1)) 3,none),
 (some 35,.mapEntry 274 (.tmp 31) (.tmp 32),none),(some 36,.extract (.tmp 35) 1,none),(none,.entryStore 274 (.tmp 31) (.tmp 36) (.tmp 34),none)]
def Rm:List (List Nat):=[[],[],[0,1],[2],[0,1,0,1],[4],[0,5,3,4,0,1,2,3,4,5]]
def Aut (o:Oper):List Nat:=(o.after.toList.filter fun e=>Region.binds .any e).map (·.on)
structure CntI (w0:World) (G:Y.Ghost) (L:List Y.Res) (B:Y.Env) (mb:Nat) (l:Dc) (k:SK) (s:Nat→Bool) (a:Act) (w:World):Prop where
 F:Fits 43 a B
 s0:s 0=true→a.tmps[31]?=some (.map (some mb))
 s1:s 1=true→a.tmps[32]?=some (kv k)
 s2:s 2=true→a.tmps[33]?=some (.int .i64 (Es l k))
 s3:s 3=true→a.tmps[34]?=some (.int .i64 (Es l k+1))
 s4:s 4=true→∃ v,a.tmps[35]?=some (.tuple #[v,.int .i64 (ixE l k)])
 s5:s 5=true→a.tmps[36]?=some (.int .i64 (ixE l k))
 s6:s 6=true→∀ i,i < 6→s i=true
 M:Mem w0 G (.obj mb (mpO (if s 6 then Ou l k else if s 4 then Oe l k else l))::L) w
theorem CntI.put {w0 w w':World} {G:Y.Ghost} {L:List Y.Res} {B:Y.Env} {E j:Nat} {l:Dc} {k:SK} {s:Nat→Bool} {a:Act} {v:Value} (I:CntI w0 G L B E l k s a w) (hj:j < 6) (hB:Y.look B (31+j)=none)
  (h0:j=0→v=.map (some E)) (U:j=1→v=kv k) (Z:j=2→v=.int .i64 (Es l k)) (h3:j=3→v=.int .i64 (Es l k+1)) (h4:j=4→∃ u,v=.tuple #[u,.int .i64 (ixE l k)]) (h5:j=5→v=.int .i64 (ixE l k))
  (M:Mem w0 G (.obj E (mpO (if s 6 then Ou l k else if upd s j 4 then Oe l k else l))::L) w'):CntI w0 G L B E l k (upd s j) (a.put (some (31+j)) v) w':=by
 have D:(a.put (some (31+j)) v).tmps[31+j]?=some v:=Auz I.F tM;have z:∀ i,upd s j i=true→i≠j→s i=true:=fun i h J=>by rw [Y.upd_ne J] at h;exact h
 have O:upd s j 6=s 6:=Y.upd_ne tM;refine ⟨Ava I.F tM hB,fun h=>?_,fun h=>?_,fun h=>?_,fun h=>?_,fun h=>?_,fun h=>?_,fun h=>?_,by rw [O];exact M⟩
 ·by_cases e:j=0
  ·subst e;rw [D,h0 rfl]
  ·exact Gm (I.s0 (z 0 h (fun x=>e x.symm))) tM
 ·by_cases e:j=1
  ·subst e;rw [D,U rfl]
  ·exact Gm (I.s1 (z 1 h (fun x=>e x.symm))) tM
 ·by_cases e:j=2
  ·subst e;rw [D,Z rfl]
  ·exact Gm (I.s2 (z 2 h (fun x=>e x.symm))) tM
 ·by_cases e:j=3
  ·subst e;rw [D,h3 rfl]
  ·exact Gm (I.s3 (z 3 h (fun x=>e x.symm))) tM
 ·by_cases e:j=4
  ·subst e;obtain ⟨u,z⟩:=h4 rfl;exact ⟨u,by rw [D,z]⟩
  ·obtain ⟨u,z⟩:=I.s4 (z 4 h (fun x=>e x.symm));exact ⟨u,Gm z tM⟩
 ·by_cases e:j=5
  ·subst e;rw [D,h5 rfl]
  ·exact Gm (I.s5 (z 5 h (fun x=>e x.symm))) tM
 ·rw [O] at h;intro i J
  by_cases e:i=j
  ·subst e;exact Y.upd_eq
  ·rw [Y.upd_ne e];exact I.s6 h i J
theorem cnt_reg {w0 w:World} {G:Y.Ghost} {L:List Y.Res} {B:Y.Env} {Z b7 id q:Nat} {l:Dc} {k:SK} {a:Act} {Q:Exit→Act→World→Prop} {os:List Oper} (hm:Tryz.prog.follows .mixedOrders=true)
  (ho:os.map (fun o=>(o.dst,o.op,o.guard))=Rl) (hr:os.map Aut=Rm) (F:Fits 43 a B) (h3:Y.look B 3=some (.map (some Z))) (h7:Y.look B 7=some (.pointer (some ⟨b7,0,none⟩)))
  (hB:∀ d,31≤d→d≤36→Y.look B d=none) (hL:L[q]?=some (.blk b7 (kL k) 279)) (hv:0≤Es l k∧Es l k≤1000) (M:Mem w0 G (.obj Z (mpO l)::L) w)
  (hQ:∀ a' w',Fits 43 a' B→Mem w0 G (.obj Z (mpO (Ou l k))::L) w'→Q .normal a' w'):(Code.region id os.toArray true).wp Tryz.prog Q a w:=by
 have am:os.length=7:=by have:=congrArg List.length ho;simpa [Rl] using this
 have ac:∀ (j:Nat) (o:Oper),os[j]?=some o→Rl[j]?=some (o.dst,o.op,o.guard):=fun j o h=>by rw [← ho,List.getElem?_map,h];rfl
 have ag:∀ (j:Nat) (o:Oper),os[j]?=some o→Rm[j]?=some (Aut o):=fun j o h=>by rw [← hr,List.getElem?_map,h];rfl
 have aj:∀ {o:Oper} {e:Edge},e∈o.after→Region.binds .any e=true→e.on∈Aut o:=fun {o e} J E=>List.mem_map.2 ⟨e,List.mem_filter.2 ⟨by simpa using J,E⟩,rfl⟩;have ae:∀ {o:Oper} {i:Nat} {s:Nat→Bool},(∀ e∈o.after,Region.binds .any e=true→s e.on=true)→i∈Aut o→s i=true:=fun {o i s} J E=>by
  obtain ⟨e,he,rfl⟩:=List.mem_map.1 E;obtain ⟨ah,ai⟩:=List.mem_filter.1 he;exact J e (by simpa using ah) ai
 have ak:∀ (j:Nat) (r:List Nat) (i:Nat),Rm[j]?=some r→i∈r→i < j:=by
  intro j r i J E;rcases j with _ | _ | _ | _ | _ | _ | _ | j <;> simp [Rm] at J <;> subst J <;> simp at E <;> omega
 refine Y.w_inv (CntI w0 G L B Z l k) hm (fun j o U=>⟨?_,fun e he hb=>ak j _ _ (ag j o U) (aj he hb)⟩) ?_ ?_ ?_
 ·have:=ac j o U;rcases j with _ | _ | _ | _ | _ | _ | _ | j <;> simp [Rl] at this <;> exact this.2.2.symm
 ·exact ⟨F,fun h=>(by cases h),fun h=>(by cases h),fun h=>(by cases h),fun h=>(by cases h),fun h=>(by cases h),fun h=>(by cases h),fun h=>(by cases h),M.drew _⟩
 ·rintro s a w j o U hs he I;have J:=ac j o U;have E:=ag j o U;have D:∀ i,i∈Aut o→s i=true:=fun i hi=>ae he hi;obtain ⟨dst,op,t,p,af,g⟩:=o;have h6:j < 6→s 6=false:=fun U=>by
   cases h:s 6 with
   | false=>rfl
   | true=>rw [I.s6 h j U] at hs;cases hs
  have hM:j≠4→Mem w0 G (.obj Z (mpO (if s 6 then Ou l k else if upd s j 4 then Oe l k else l))::L) w:=fun U=>by
   rw [Y.upd_ne (fun e=>U e.symm)];exact I.M
  have aa:∀ {x:Obj} {w:World},Mem w0 G (.obj Z x::L) w→w.heap[Z]?=some x:=fun M=>M.own (.obj Z _) (by simp);rcases j with _ | _ | _ | _ | _ | _ | _ | j <;> simp [Rl] at J <;> simp [Rm] at E
  ·obtain ⟨rfl,rfl,rfl⟩:=J;refine Kh (Y.run_move (E8 (I.F.slot 3 _ h3))) ?_;exact I.put (j:=0) tM (hB _ tM tM) (fun _=>rfl) tM tM tM tM tM (hM tM)
  ·obtain ⟨rfl,rfl,rfl⟩:=J;refine Kh (Y.run_loadA Dx rfl (E8 (I.F.slot 7 _ h7)) (cs:=kL k) rfl (I.M.cellsL (k:=q+1) (show (_::L)[q+1]?=_ from hL) rfl)) ?_;exact I.put (j:=1) tM (hB _ tM tM) tM (fun _=>rfl) tM tM tM tM (hM tM)
  ·obtain ⟨rfl,rfl,rfl⟩:=J;have q0:=I.s0 (D 0 (by rw [← E];simp));have q1:=I.s1 (D 1 (by rw [← E];simp));have h6:=h6 tM;have O:(Instr.lookup 274 (.map (some Z)) (kv k) false).run Tryz.prog w=.ok (.int .i64 (Es l k)) w:=by
    have:=aa I.M;rw [h6] at this;rw [Sv this];cases h4:s 4 with
    | true=>exact congrArg (fun z=>Result.ok (Value.int .i64 z) w) (Ze k)
    | false=>rfl
   refine Kh (v:=.int .i64 (Es l k)) (w':=w) (by simp only [execOp,E8 q0,E8 q1,Sem.run_bind,O,Result.andThen_ok,Sem.run_pure]) ?_;exact I.put (j:=2) tM (hB _ tM tM) tM tM (fun _=>rfl) tM tM tM (hM tM)
  ·obtain ⟨rfl,rfl,rfl⟩:=J;have q2:=I.s2 (D 2 (by rw [← E];simp));refine Kh (Y.run_addi (E8 q2) (show Act.eval a (.const (.int .i64 1))=_ from rfl) (Y.in_i64 tM tM)) ?_;exact I.put (j:=3) tM (hB _ tM tM) tM tM tM (fun _=>rfl) tM tM (hM tM)
  ·obtain ⟨rfl,rfl,rfl⟩:=J;have q0:=I.s0 (D 0 (by rw [← E];simp));have q1:=I.s1 (D 1 (by rw [← E];simp));have h6:=h6 tM;have M:=I.M;rw [h6,hs] at M;obtain ⟨v,hv⟩:=run_ent (k:=k) (l:=l) (aa M);refine Kh (v:=.tuple #[v,.int .i64 (ixE l k)]) (by simp only [execOp,E8 q0,E8 q1,Sem.run_bind,hv,Result.andThen_ok,Sem.run_pure];rfl) ?_;exact I.put (j:=4) tM (hB _ tM tM) tM tM tM tM (fun _=>⟨v,rfl⟩) tM (by rw [h6,Y.upd_eq];exact mem_map M)
  ·obtain ⟨rfl,rfl,rfl⟩:=J;obtain ⟨v,q4⟩:=I.s4 (D 4 (by rw [← E];simp));refine Kh (Y.run_extract (E8 q4) (show (#[v,Value.int .i64 (ixE l k)]:Array Value)[1]?=some (.int .i64 (ixE l k)) from rfl)) ?_;exact I.put (j:=5) tM (hB _ tM tM) tM tM tM tM tM (fun _=>rfl) (hM tM)
  ·obtain ⟨rfl,rfl,rfl⟩:=J;have q0:=I.s0 (D 0 (by rw [← E];simp));have q3:=I.s3 (D 3 (by rw [← E];simp));have q4:=D 4 (by rw [← E];simp);have q5:=I.s5 (D 5 (by rw [← E];simp));have M:=I.M;rw [hs,q4] at M;have O:=Aui (u:=Es l k+1) (aa M) (addE_at (l:=l) (k:=k));refine Auq (by simp only [execOp,E8 q0,E8 q5,E8 q3,Sem.run_bind,O,Result.andThen_ok,Sem.run_pure];rfl) ?_;have hu:∀ i,upd s 6 i=true→i≠6→s i=true:=fun i h hi=>by rw [Y.upd_ne hi] at h;exact h
   exact ⟨I.F,fun h=>I.s0 (hu 0 h tM),fun h=>I.s1 (hu 1 h tM),fun h=>I.s2 (hu 2 h tM),fun h=>I.s3 (hu 3 h tM),fun h=>I.s4 (hu 4 h tM),fun h=>I.s5 (hu 5 h tM),fun _ i hi=>by
    rw [Y.upd_ne tM];rcases i with _ | _ | _ | _ | _ | _ | i
    all_goals first | (refine D _ ?_;rw [← E];simp;done) | omega,by rw [Y.upd_eq];exact mem_map M⟩
 ·intro s a w ab I;have a6:=ab 6 tM;have:=I.M;rw [if_pos a6] at this;exact hQ a w I.F this
open Go.Y
theorem Oh:∀ (l seen:List MK) (k:Nat) (x:MK),l[k]?=some x→(Av seen l)[k]?=some (x,match x.2.2 with | []=>((l.take k).count x+seen.count x) | _=>0)
 | [],seen,k,x,h=>by simp at h
 | y::l,seen,0,x,h=>by
  simp only [List.getElem?_cons_zero,Option.some.injEq] at h;subst h;show some (y,match y.2.2 with | []=>seen.count y | _=>0)=_;cases y.2.2 <;> simp
 | y::l,seen,k+1,x,h=>by
  have h:l[k]?=some x:=by simpa using h
  have ih:=Oh l (y::seen) k x h;show (Av (y::seen) l)[k]?=_;rw [ih];cases x.2.2 with
  | nil =>
   simp only [List.take_succ_cons,List.count_cons];congr 2;omega
  | cons=>rfl
def Abq (l:Dc) (seen:List MK):Prop:=∀ x:MK,x.2.2=[]→Es l (x,0)=((seen.count x:Nat):Int)
theorem Abq.keyed {l:Dc} {seen:List MK} {x:MK} (h:Abq l seen) (E:x.2.2≠[]):Abq l (seen++[x]):=fun y D=>by
 rw [h y D,List.count_append];have:List.count y [x]=0:=by
  rw [List.count_eq_zero];intro z;simp only [List.mem_singleton] at z;exact E (z ▸ D)
 rw [this];rfl
theorem Abq.bump {l:Dc} {seen:List MK} {x:MK} (h:Abq l seen) (D:x.2.2=[]):Abq (Ou l (x,0)) (seen++[x]):=fun y z=>by
 rw [Ajw,List.count_append]
 by_cases he:y=x
 ·subst he;rw [if_pos rfl,h y z];simp
 ·rw [if_neg (fun e=>he (Prod.mk.inj e).1),h y z];have:List.count y [x]=0:=by
   rw [List.count_eq_zero];simp [he]
  rw [this];rfl
theorem perm4 {α:Type} (O a b c:α):List.Perm [O,a,b,c] [b,a,c,O]:=(List.perm_append_comm (l₁:=[O]) (l₂:=[a,b,c])).trans (List.Perm.swap b a [c,O])
theorem Aro {w0:World} {G:Ghost} {lp b n c:Nat} {ad:Option Addr} {ns:List MK} (J:Nat→List Res→Prop) (hn:ns.length=n) (ap:n≤1000) {w:World} {L:List Res} (M:Mem w0 G L w) (hJ:J 0 L)
  (ac:∀ k L X W,J k L→Mem w0 G (X++L) W→W.cell? ⟨b,0,none⟩=some (.slice ad n c))
  (ao:∀ k L X W x,J k L→Mem w0 G (X++L) W→ns[k]?=some x→∃ q o D E I,ad=some ⟨q,o,none⟩∧(∀ v∈[D,E,I],v.oneCell' = true)∧∀ j,j < 6→W.cell? ⟨q,o+k * 6+j,none⟩=[Value.int .u8 x.1,.string (str x.2.1),.string (str x.2.2),D,E,I][j]?)
  (hy:∀ k L X W x,J k L→Mem w0 G (X++L) W→(Av [] ns)[k]?=some x→YieldAt Fence.wide 0 Tryz.prog lp #[.int .i64 (k:Int),kv (x.1,(x.2:Int))] W fun e W'=>e=.returned (.bool true)∧∃ L',J (k+1) L'∧Mem w0 G (X++L') W') :
  Calls Tryz.prog 220 #[.func (.yield lp) #[] #[],.pointer (some ⟨b,0,none⟩)] w fun e W'=>∃ v,e=.returned v∧∃ L',J n L'∧Mem w0 G L' W':=by
 have hz:(tk Tryz.prog 34).agg=some false:=kR;have aa:tk Tryz.prog 34=.slice 36:=tok34.k;have z:=Zh.k;have Z:=Dx.k;refine Iw (vs:=[_,_]) Tryz.func220 rfl (n:=43) rfl rfl ?_;intro a F;refine wpIn_seq (Ej ?_);refine Aa F (w':=_) (v:=_) (by simp only [execOp,Instr.makeMap,Option.map_none,Sem.run_bind,newObj,Sem.run,Result.andThen_ok];rfl) rfl ?_;clear F a;intro a F;have M:=M.new (.map #[] 0);generalize ae:w.heap.size=mb at M F;have hw:({ w with heap:=w.heap.push (.map #[] 0) }:World)=w.alloc (.map #[] 0):=rfl;refine Aa F (run_assign (F.ev rfl)) rfl ?_;clear F a;intro a F;refine Ak ?_;show Code.wpIn _ _ _ _ _ _ _;have M1:Mem w0 G ([.obj mb (mpO [])]++L) _:=M;refine wpIn_seq (Ej ?_);refine Aa F (run_load1 hz (F.ev rfl) (ac 0 L _ _ hJ M1)) rfl ?_;clear F a;intro a F;refine Aa F (Bu aa (F.ev rfl)) rfl ?_;clear F a;intro a F;refine Aa F (run_move (v:=.int .i64 0) rfl) rfl ?_;clear F a;intro a F;refine Ak ?_;show Code.wpIn _ _ _ _ _ _ _;refine wpIn_block (Zb (fun m a w=>∃ k l L e,m=n - k∧k≤n∧J k L∧Mem w0 G ([.obj mb (mpO l)]++L) w∧Abq l (ns.take k)∧Fits 43 a ((11,.int .i64 (k:Int))::e)∧Y.look e 0=some (.func (.yield lp) #[] #[])∧Y.look e 3=some (.map (some mb))∧Y.look e 9=some (.slice ad n c)∧Y.look e 10=some (.int .i64 n)∧∀ d,31≤d→d≤36→Y.look e d=none) n ⟨0,[],L,_,rfl,Nat.zero_le _,hJ,M1,fun x _=>by simp [Es,fst?],F,rfl,rfl,rfl,rfl,fun d h1 h2=>by rcases (show d=31∨d=32∨d=33∨d=34∨d=35∨d=36 by omega) with rfl | rfl | rfl | rfl | rfl | rfl <;> rfl⟩ ?_);clear F a M1 M hJ;rintro m a w ⟨k,l,L,e,rfl,hk,hJ,M,hC,F,e0,e3,e9,O,U⟩
 refine wpIn_seq (Ej ?_);refine Aa F (run_lss (F.ev rfl) (F.ev (x:=.tmp 10) O)) rfl ?_;clear F a;intro a F;refine Ak ?_;show Code.wpIn _ _ _ _ _ _ _
 by_cases hkn:k < n
 ·refine wpIn_seq (wpIn_cond_true ((F.ev rfl).trans (by simp;exact hkn)) (wpIn_skip ?_));obtain ⟨x,hx⟩:=get_of_lt (xs:=ns) (i:=k) tM;obtain ⟨q,o,D,E,I,am,ab,an⟩:=ao k L _ w x hJ M hx;subst am;show Code.wpIn _ _ _ _ _ _ _;refine wpIn_seq (wpIn_block (wpIn_seq (Ej ?_)));refine Aa F (run_move (F.ev rfl)) rfl ?_;clear F a;intro a F;refine Aa F (run_indexAddr aa Zh (F.ev (x:=.tmp 9) e9) (F.ev (x:=.tmp 11) rfl) hkn) rfl ?_;clear F a;intro a F;refine Aa F (run_loadA Zh rfl (F.ev rfl) (cs:=[.int .u8 x.1,.string (str x.2.1),.string (str x.2.2),D,E,I]) rfl an) rfl ?_;clear F a;intro a F;refine Ew F M Zh (cs:=[.int .u8 0,.string ⟨#[]⟩,.string ⟨#[]⟩,.slice none 0 0,.string ⟨#[]⟩,.slice none 0 0]) rfl rfl ?_;clear F M a;intro b5 w a M F;refine Aa F (run_assign (F.ev rfl)) rfl ?_;clear F a;intro a F;refine Fi F M Zh (k:=0) (us:=[.int .u8 x.1,.string (str x.2.1),.string (str x.2.2),D,E,I]) (o:=0) rfl rfl rfl rfl rfl (by simpa [Value.oneCell'] using ab) (by simp) ?_;clear F M a;intro w a M F;refine Ak ?_;show Code.wpIn _ _ _ _ _ _ _;have M:Mem w0 G (.blk b5 [.int .u8 x.1,.string (str x.2.1),.string (str x.2.2),D,E,I] 36::.obj mb (mpO l)::L) w:=M;refine wpIn_seq (Ej ?_);refine Aa F (run_fieldAddr z rfl rfl (F.ev (x:=.tmp 5) rfl)) rfl ?_;clear F a;intro a F;refine Aa F (run_load1 (agf M8 rfl) (F.ev rfl) (M.cellL (k:=0) rfl rfl)) rfl ?_;clear F a;intro a F;refine Aa F (run_fieldAddr z rfl rfl (F.ev (x:=.tmp 5) rfl)) rfl ?_;clear F a;intro a F;refine Aa F (run_load1 (agf Cs rfl) (F.ev rfl) (M.cellL (k:=0) rfl rfl)) rfl ?_;clear F a;intro a F
  refine Aa F (run_fieldAddr z rfl rfl (F.ev (x:=.tmp 5) rfl)) rfl ?_;clear F a;intro a F;refine Aa F (run_load1 (agf Cs rfl) (F.ev rfl) (M.cellL (k:=0) rfl rfl)) rfl ?_;clear F a;intro a F;refine Aa F (run_buildS (ps:=[(0,.int .u8 x.1),(1,.string (str x.2.1)),(2,.string (str x.2.2))]) (cs:=kL (x,0)) Z rfl Dx (by simp [F.ev (x:=.tmp 17) rfl,F.ev (x:=.tmp 19) rfl,F.ev (x:=.tmp 21) rfl]) rfl) rfl ?_;clear F a;intro a F;refine Ew F M Dx (cs:=[.int .u8 0,.string ⟨#[]⟩,.string ⟨#[]⟩,.int .i64 0]) rfl rfl ?_;clear F M a;intro b6 w a M F;refine Fi F M Dx (k:=0) (us:=kL (x,0)) (o:=0) rfl rfl rfl rfl rfl (by simp [kL,Value.oneCell']) (by simp [kL]) ?_;clear F M a;intro w a M F;refine Ak ?_;have M:Mem w0 G (.blk b6 (kL (x,0)) 279::.blk b5 [.int .u8 x.1,.string (str x.2.1),.string (str x.2.2),D,E,I] 36::.obj mb (mpO l)::L) w:=M;show Code.wpIn _ _ _ _ _ _ _;refine wpIn_seq (wpIn_seq (Ej ?_));refine Aa F (run_fieldAddr z rfl rfl (F.ev (x:=.tmp 5) rfl)) rfl ?_;clear F a;intro a F;refine Aa F (run_load1 (agf Cs rfl) (F.ev rfl) (M.cellL (k:=1) rfl rfl)) rfl ?_;clear F a;intro a F;refine Aa F (run_strEq (l':=[]) (F.ev rfl) rfl) rfl ?_;clear F a;intro a F;refine Ak ?_;show Code.wpIn _ _ _ _ _ _ _;have ag:=Oh ns [] k x hx;have ah:ns.take (k+1)=ns.take k++[x]:=by rw [List.take_add_one,hx];rfl
  refine wpIn_mono (show Code.wpIn W0 0 Tryz.prog _ (fun ex a' w'=>ex=.normal∧∃ (nth:Nat) (l':Dc) (X:List Res) (e':Y.Env),(Av [] ns)[k]?=some (x,nth)∧Abq l' (ns.take (k+1))∧Mem w0 G (.blk b6 (kL (x,(nth:Int))) 279::(X++.obj mb (mpO l')::L)) w'∧Fits 43 a' e' ∧
    Y.look e' 0=some (.func (.yield lp) #[] #[])∧Y.look e' 3=some (.map (some mb))∧Y.look e' 9=some (.slice (some ⟨q,o,none⟩) n c)∧Y.look e' 10=some (.int .i64 n)∧Y.look e' 4=some (.int .i64 (k:Int))∧Y.look e' 6=some (.pointer (some ⟨b6,0,none⟩))∧Y.look e' 11=some (.int .i64 (k:Int))∧∀ d,31≤d→d≤36→Y.look e' d=none) a w from ?_) ?_
  ·by_cases hky:x.2.2=[]
   ·refine wpIn_cond_true ((F.ev rfl).trans (by rw [decide_eq_true hky])) ?_;have hv:Es l (x,0)=(((ns.take k).count x:Nat):Int):=hC x hky;have aq:(ns.take k).count x≤k:=Nat.le_trans List.count_le_length (by rw [List.length_take];omega);refine wpIn_seq (Ej ?_);refine Aa F (run_loadA Dx rfl (F.ev (x:=.tmp 6) rfl) (cs:=kL (x,0)) rfl (M.cellsL (k:=0) rfl rfl)) rfl ?_;clear F a;intro a F;refine Ew F M Dx (cs:=[.int .u8 0,.string ⟨#[]⟩,.string ⟨#[]⟩,.int .i64 0]) rfl rfl ?_;clear F M a;intro b7 w a M F;refine Fi F M Dx (k:=0) (us:=kL (x,0)) (o:=0) rfl rfl rfl rfl rfl (by simp [kL,Value.oneCell']) (by simp [kL]) ?_;clear F M a;intro w a M F;refine Ak ?_;have M:Mem w0 G (.blk b7 (kL (x,0)) 279::.blk b6 (kL (x,0)) 279::.blk b5 [.int .u8 x.1,.string (str x.2.1),.string (str x.2.2),D,E,I] 36::.obj mb (mpO l)::L) w:=M;show Code.wpIn _ _ _ _ _ _ _;refine wpIn_seq (Ej ?_);refine Aa F (run_move (F.ev (x:=.tmp 3) e3)) rfl ?_;clear F a;intro a F;refine Aa F (run_loadA Dx rfl (F.ev (x:=.tmp 7) rfl) (cs:=kL (x,0)) rfl (M.cellsL (k:=0) rfl rfl)) rfl ?_;clear F a;intro a F;have ae:w.heap[mb]?=some (mpO l):=M.own (.obj mb (mpO l)) (by simp);refine Aa F (v:=.int .i64 (Es l (x,0))) (w':=w) (by simp only [execOp,F.ev (x:=.tmp 27) rfl,F.ev (x:=.tmp 28) rfl,Sem.run_bind,show Value.agg (kL (x,0)).toArray=kv (x,0) from rfl,Sv ae,Result.andThen_ok,Sem.run_pure]) rfl ?_;clear F a;intro a F;refine Aa F (run_fieldAddr Z rfl rfl (F.ev (x:=.tmp 6) rfl)) rfl ?_;clear F a;intro a F;refine Co F M tok3 rfl (k:=1) rfl rfl rfl rfl rfl ?_;clear F M a;intro w a M F
    refine Ak ?_;have M:Mem w0 G (.blk b7 (kL (x,0)) 279::.blk b6 (kL (x,Es l (x,0))) 279::.blk b5 [.int .u8 x.1,.string (str x.2.1),.string (str x.2.2),D,E,I] 36::.obj mb (mpO l)::L) w:=M;show Code.wpIn _ _ _ _ _ _ _;have M2:=M.perm (show List.Perm _ (.obj mb (mpO l)::([.blk b7 (kL (x,0)) 279,.blk b6 (kL (x,Es l (x,0))) 279,.blk b5 [.int .u8 x.1,.string (str x.2.1),.string (str x.2.2),D,E,I] 36]++L)) from List.perm_middle (l₁:=[_,_,_]));refine wpIn_wide.2 (cnt_reg (q:=0) rfl kR kR F (show Y.look _ 3=_ from e3) rfl (fun d h1 h2=>by rcases (show d=31∨d=32∨d=33∨d=34∨d=35∨d=36 by omega) with rfl | rfl | rfl | rfl | rfl | rfl <;> exact U _ tM tM) rfl tM M2 fun a' w' F' M'=>?_)
    ·refine ⟨rfl,(ns.take k).count x,Ou l (x,0),[.blk b7 (kL (x,0)) 279,.blk b5 [.int .u8 x.1,.string (str x.2.1),.string (str x.2.2),D,E,I] 36],_,?_,by rw [ah];exact hC.bump hky,?_,F',e0,e3,e9,O,rfl,rfl,rfl,fun d h1 h2=>by rcases (show d=31∨d=32∨d=33∨d=34∨d=35∨d=36 by omega) with rfl | rfl | rfl | rfl | rfl | rfl <;> exact U _ tM tM⟩
     ·rw [ag,hky];simp
     ·rw [hv] at M';exact M'.perm ((perm4 _ _ _ _).append_right L)
   ·refine wpIn_cond_false ((F.ev rfl).trans (by rw [decide_eq_false hky])) (wpIn_skip ?_);refine ⟨rfl,0,l,[.blk b5 [.int .u8 x.1,.string (str x.2.1),.string (str x.2.2),D,E,I] 36],_,?_,by rw [ah];exact hC.keyed hky,M,F,e0,e3,e9,O,rfl,rfl,rfl,fun d h1 h2=>by rcases (show d=31∨d=32∨d=33∨d=34∨d=35∨d=36 by omega) with rfl | rfl | rfl | rfl | rfl | rfl <;> exact U _ tM tM⟩;rw [ag];cases hh:x.2.2 with
    | nil=>exact absurd hh hky
    | cons=>rfl
  ·clear F M a;rintro ex a w ⟨rfl,nth,l',X,e',af,aj,M,F,e0,e3,e9,O,e4,e6,ai,U⟩;show Code.wpIn _ _ _ _ _ _ _;refine wpIn_seq (Aql ?_);refine Ey F (run_move (F.ev (x:=.tmp 0) e0)) rfl ?_;clear F a;intro a F;refine Ey F (run_move (F.ev (x:=.tmp 4) e4)) rfl ?_;clear F a;intro a F;refine Ey F (run_loadA Dx rfl (F.ev (x:=.tmp 6) e6) (cs:=kL (x,(nth:Int))) rfl (M.cellsL (k:=0) rfl rfl)) rfl ?_;clear F a;intro a F;have M2:Mem w0 G ((.blk b6 (kL (x,(nth:Int))) 279::(X++[.obj mb (mpO l')]))++L) w:=by simpa using M
   refine Sz (vs:=[.int .i64 (k:Int),kv (x,(nth:Int))]) F rfl rfl rfl (hy k L _ w (x,nth) hJ M2 af) ?_;rintro y w' ⟨rfl,L',ak,M'⟩;refine ⟨true,rfl,?_⟩;clear F M M2 a;intro a F;refine Ey F (run_not (F.ev rfl)) rfl ?_;clear F a;intro a F;show Code.wpIn _ _ _ _ _ _ _;refine wpIn_cond_false (F.ev rfl) (wpIn_skip ?_);show Code.wpIn _ _ _ _ _ _ _;refine Ej ?_;refine Aa F (run_addi (F.ev (x:=.tmp 11) ai) (show Act.eval a (.const (.int .i64 1))=_ from rfl) (in_i64 tM tM)) rfl ?_;clear F a;intro a F;refine Aa F (run_move (F.ev rfl)) rfl ?_;clear F a;intro a F;rw [show (k:Int)+1=((k+1:Nat):Int) by omega] at F;refine Ak ⟨n - (k+1),tM,k+1,l',L',_,rfl,hkn,ak,M'.weaken (show List.Sublist ([.obj mb (mpO l')]++L') (((.blk b6 (kL (x,(nth:Int))) 279::X)++[.obj mb (mpO l')])++L') from (List.sublist_append_right _ [.obj mb (mpO l')]).append_right L'),aj,F,e0,e3,e9,O,fun d h1 h2=>by rcases (show d=31∨d=32∨d=33∨d=34∨d=35∨d=36 by omega) with rfl | rfl | rfl | rfl | rfl | rfl <;> exact U _ tM tM⟩
 ·refine wpIn_seq (wpIn_cond_false ((F.ev rfl).trans (by simp;omega)) (wpIn_exit ?_));have:k=n:=tM;subst this;exact finB F (results_none rfl _ _ _) ⟨_,rfl,L,hJ,M.weaken (List.sublist_append_right _ _)⟩
end Go.V
namespace Go.Y
open Go
section
variable {P:Program} {ops:Array Oper} {Q:Exit→Act→World→Prop} {w0 w:World} {G:Ghost} {L:List Res} {n d:Nat} {a:Act} {e:Env}
def Ef (ds:List Deferred) (a:Act):Act:={ a with defers:=a.defers++ds }
theorem R3 (ds:List Deferred) (a:Act) (d:Option Tmp) (v:Value):(Ef ds a).put d v=Ef ds (a.put d v):=by cases d <;> rfl
theorem Va {Q:Exit→Act→World→Prop} {ds:List Deferred}:∀ (l:List Oper) (a:Act) (w:World),rl P ops (fun e a w=>Q e (Ef ds a) w) l a w→rl P ops Q l (Ef ds a) w
 | [],a,w,h=>h
 | o::l,a,w,h=>by
  refine ⟨fun hw=>?_,fun hw=>?_⟩
  ·have h1:=Oper.wp_mono (fun a w=>Va (Q:=Q) (ds:=ds) l a w) (h.1 hw);unfold Oper.wp at h1 ⊢;rw [show (Ef ds a).eval=a.eval from rfl];generalize (execOp a.eval o).run P w=r at h1 ⊢;cases r with
   | ok nx w' =>
    cases nx <;> simp only [Oper.upon,R3] at h1 ⊢
    case value u=>exact h1
    case skip=>exact h1
    case defer d=>rw [show ({ tmps:=(Ef ds a).tmps,defers:=d::(Ef ds a).defers }:Act)=Ef ds { tmps:=a.tmps,defers:=d::a.defers } from rfl,R3];exact h1
    case enter f args =>
     refine Calls.mono h1 fun e w'' he=>?_;cases e with
     | returned u=>exact he
     | panicked c=>exact he
     | outgrown=>obtain ⟨a0,w0,h0⟩:=he;exact ⟨_,w0,h0⟩
    case row row args=>exact h1
   | halt x w'=>cases x <;> simp only [Oper.upon] at h1 ⊢ <;> exact h1
  ·rw [R3];exact Va l _ _ (h.2 hw)
theorem Uu {m id:Nat} {ds:List Deferred} {os:List Oper} (h:rl P os.toArray (fun e a w=>Q e (Ef ds a) w) os a w):(Code.region id os.toArray false).wpIn W0 m P Q (Ef ds a) w:=wpIn_wide.2 (Ar (Va _ _ _ h))
end
end Go.Y
namespace Go.V
open Go Go.Proofs Go.Proofs.YtinhmakomfennaaGreat
open Go.Y
section
variable {w0 w:World} {G:Ghost} {L L0:List Res} {n0:Nat} {a:Act} {e:Y.Env} {ds:List Deferred}
theorem Axf:Ent Tryz.prog 196:=.mk' Tryz.func196 rfl rfl
theorem ent220:Ent Tryz.prog 220:=.mk' Tryz.func220 rfl rfl
theorem Qb {ad:Option Addr} {n c:Nat} (M:Mem w0 G L w):Calls Tryz.prog 196 #[.slice ad n c] w (RetL w0 G fun D v=>∃ z,v=.func (.func 220) #[] #[.pointer (some ⟨z,0,none⟩)]∧D = .blk z [.slice ad n c] 34::L):=by
 refine Bf (vs:=[_]) Tryz.func196 rfl (n:=4) rfl rfl ?_;intro a F;refine wp_seq<|Ar<|Aus F M rfl (cs:=[.slice ad n c]) rfl rfl ?_;clear F M a;intro b1 w a M F
 refine Aa F (run_assign (v:=.nilFunc) rfl) rfl fun a F=>?_;refine Ak<|Ay<|wp_seq<|Ar<|Aa F (U5 (vs:=#[.pointer (some ⟨b1,0,none⟩)]) (by simp [F.ev (x:=.tmp 1) rfl])) rfl fun a F=>?_
 refine Aa F (run_assign (F.ev rfl)) rfl fun a F=>?_;refine Ak<|Ay<|wp_ret<|O7 F rfl rfl ?_
 exact ⟨_,M,b1,rfl,rfl⟩
theorem Aez {Q:Exit→Act→World→Prop} {g:Operand} {t u:Tmp} {E I:Code} {b n c:Nat} {ad:Option Addr} {ns:List MK} {m:Nat} (F:Fits n0 a e) (M:Mem w0 G L0 w) (hg:Y.ev e g=some (.func (.func 220) #[] #[.pointer (some ⟨b,0,none⟩)]))
  (ht:Nat.ble (t+1) n0=true) (hu:Nat.ble (u+1) n0=true) (J:Nat→List Res→Prop) (hn:ns.length=n) (ah:n≤1000) (Z:J 0 L0)
  (ac:∀ k L X W,J k L→Mem w0 G (X++L) W→W.cell? ⟨b,0,none⟩=some (.slice ad n c))
  (ai:∀ k L X W x,J k L→Mem w0 G (X++L) W→ns[k]?=some x→∃ q o c3 c4 c5,ad=some ⟨q,o,none⟩∧(∀ v∈[c3,c4,c5],v.oneCell' = true)∧∀ j,j < 6→W.cell? ⟨q,o+k * 6+j,none⟩=[Value.int .u8 x.1,.string (str x.2.1),.string (str x.2.2),c3,c4,c5][j]?)
  (ab:∀ k x mm X O W a1 lp z,J k O→Mem w0 G (X++O) W→(Av [] ns)[k]?=some (x,mm)→Fits n0 a1 ((u,kv (x,(mm:Int)))::(t,.int .i64 (k:Int))::e) →
   E.wpIn (Rnd lp) z Tryz.prog (fun ex a2 w2=>ex=.normal∧∃ R,Mem w0 G (X++R) w2∧∀ X' W',Mem w0 G (X'++R) W'→I.wpIn (Rnd lp) z Tryz.prog (fun ex a3 w3=>ex=.normal∧∃ U,J (k+1) U∧Mem w0 G (X'++U) w3) a2 W') a1 W)
  (ae:∀ D O W,J n O→Mem w0 G (.obj D (.deferred (some []))::O) W→Q .normal (Ef (H4 D::ds) a) W) :
  (Code.rangeFunc g #[t,u] E I).wpIn W0 m Tryz.prog Q (Ef ds a) w:=by
 refine Za (lb:=[.pointer (some ⟨b,0,none⟩)]) M (F.ev hg) ent220 fun fn l D W M3=>?_;have key:=Aro (lp:=l) (b:=b) (c:=c) (ad:=ad) (fun k L'=>∃ O,L' = .obj l (.loop (Lrec (Ef ds a) #[t,u] E I fn D .ready none))::Ht D::O∧J k O) hn ah M3 ⟨_,rfl,Z⟩
  (fun k L' X W ⟨O,hL,Z⟩ M=>ac k O (X++[.obj l (.loop (Lrec (Ef ds a) #[t,u] E I fn D .ready none)),Ht D]) W Z (by subst hL;simpa using M))
  (fun k L' X W x ⟨O,hL,Z⟩ M hx=>ai k O (X++[.obj l (.loop (Lrec (Ef ds a) #[t,u] E I fn D .ready none)),Ht D]) W x Z (by subst hL;simpa using M) hx)
  (fun k L' X W x ⟨O,hL,Z⟩ M hx=>?_)
 ·refine Calls.mono key ?_;rintro x W' ⟨v,rfl,L',⟨O,rfl,aa⟩,M'⟩;refine ⟨v,rfl,M'.own (.obj l _) (by simp),fun o=>?_⟩;have M5:=(mem_put (o':=o) M' rfl).weaken (List.sublist_cons_self _ _);have:=ae D O _ aa M5;have hd:Ef (H4 D::ds) a = { (Ef ds a) with defers:=H4 D::(Ef ds a).defers }:=by unfold Ef;rw [F.defers];rfl
  rw [← hd];exact this
 ·subst hL;have M:Mem w0 G (.obj l (.loop (Lrec (Ef ds a) #[t,u] E I fn D .ready none))::(X++Ht D::O)) W:=M.perm List.perm_middle;have aj:W.heap[l]?=some (.loop (Lrec (Ef ds a) #[t,u] E I fn D .ready none)):=M.own (.obj l _) (by simp);have hz:((#[t,u]:Array Tmp).zip #[Value.int .i64 (k:Int),kv (x.1,(x.2:Int))]).foldl (fun tm (x:Tmp × Value)=>tm.setIfInBounds x.1 x.2) a.tmps=(a.tmps.setIfInBounds t (.int .i64 (k:Int))).setIfInBounds u (kv (x.1,(x.2:Int))):=by simp
  have hy:=run_yield (P:=Tryz.prog) (args:=#[Value.int .i64 (k:Int),kv (x.1,(x.2:Int))]) aj rfl;have ak:(Instr.yield l #[Value.int .i64 (k:Int),kv (x.1,(x.2:Int))]).run Tryz.prog W=.ok (.round l fn ((a.tmps.setIfInBounds t (.int .i64 (k:Int))).setIfInBounds u (kv (x.1,(x.2:Int)))) E I) W:=by rw [← hz];exact hy
  refine ⟨fn,_,E,I,ak,roundIn_of_wpIn trivial ?_⟩;have F2:=(F.put (v:=.int .i64 (k:Int)) ht).put (v:=kv (x.1,(x.2:Int))) hu;have M2:Mem w0 G ((.obj l (.loop (Lrec (Ef ds a) #[t,u] E I fn D .ready none))::(X++[Ht D]))++O) W:=by simpa using M
  refine wpIn_mono (ab k x.1 x.2 _ O W _ l _ Z M2 hx ⟨F2.size,rfl,F2.slot⟩) ?_;rintro ex a2 w2 ⟨rfl,R,M4,hb⟩;have af:w2.heap[l]?=some (.loop (Lrec (Ef ds a) #[t,u] E I fn D .ready none)):=M4.own (.obj l _) (by simp);refine ⟨_,run_beginRound af rfl,?_⟩;have M5:=mem_put (o':=.loop { Lrec (Ef ds a) #[t,u] E I fn D .ready none with state:=.busy }) (show Mem w0 G (.obj l _::((X++[Ht D])++R)) w2 from M4) rfl;refine wpIn_mono (hb (.obj l (.loop { Lrec (Ef ds a) #[t,u] E I fn D .ready none with state:=.busy })::(X++[Ht D])) _ M5) ?_;rintro ex a3 w3 ⟨rfl,U,aa,M6⟩;have ag:w3.heap[l]?=some (.loop { Lrec (Ef ds a) #[t,u] E I fn D .ready none with state:=.busy }):=M6.own (.obj l _) (by simp);refine ⟨_,_,run_endRound none ag,rfl,_,⟨U,rfl,aa⟩,?_⟩;have M7:=mem_put (o':=.loop (Lrec (Ef ds a) #[t,u] E I fn D .ready none)) (show Mem w0 G (.obj l _::((X++[Ht D])++U)) w3 from M6) rfl;rw [List.append_assoc] at M7;exact M7.perm List.perm_middle.symm
end
def Dw:Nat→List (MK × Nat)→Dc
 | _,[]=>[]
 | i,x::l=>((x.1,(x.2:Int)),(i:Int))::Dw (i+1) l
theorem Aas:∀ (l:List (MK × Nat)) (i:Nat) (x:MK × Nat),Dw i (l++[x])=Dw i l++[((x.1,(x.2:Int)),((i+l.length:Nat):Int))]
 | [],i,x=>rfl
 | y::l,i,x=>by
  show _::Dw (i+1) (l++[x])=_::(Dw (i+1) l++_);rw [Aas l (i+1) x,List.length_cons,show i+1+l.length=i+(l.length+1) by omega]
theorem sk_eq {x y:MK × Nat}:((x.1,(x.2:Int)):SK)=(y.1,(y.2:Int))↔x=y:=by
 obtain ⟨a,b⟩:=x;obtain ⟨c,d⟩:=y;simp only [Prod.mk.injEq];constructor
 ·rintro ⟨z,D⟩;exact ⟨z,tM⟩
 ·rintro ⟨z,D⟩;exact ⟨z,tM⟩
theorem Xb (x:MK × Nat):∀ (l:List (MK × Nat)) (i j:Nat),(match fst? (x.1,(x.2:Int)) j (Dw i l) with | some r=>r.2 | none=>-1)=ixS x i l∧(x ∉ l→fst? (x.1,(x.2:Int)) j (Dw i l)=none)
 | [],i,j=>⟨rfl,fun _=>rfl⟩
 | y::l,i,j=>by
  have ih:=Xb x l (i+1) (j+1)
  by_cases h:x=y
  ·subst h;refine ⟨?_,fun h=>absurd (List.mem_cons_self ..) h⟩;show (match (if _ then some (j,(i:Int)) else fst? _ (j+1) (Dw (i+1) l)) with | some r=>r.2 | none=>-1)=ixS x i (x::l);rw [if_pos rfl];show (i:Int)=(match decide (x=x) with | true=>(i:Int) | false=>ixS x (i+1) l);rw [decide_eq_true rfl]
  ·have hne:¬ ((x.1,(x.2:Int)):SK)=(y.1,(y.2:Int)):=fun e=>h (sk_eq.1 e);have e1:fst? (x.1,(x.2:Int)) j (Dw i (y::l))=fst? (x.1,(x.2:Int)) (j+1) (Dw (i+1) l):=by
    show (if _ then _ else _)=_;rw [if_neg hne]
   refine ⟨?_,fun h=>by rw [e1];exact ih.2 fun hm=>h (List.mem_cons_of_mem _ hm)⟩;rw [e1,ih.1];show _=(match decide (y=x) with | true=>(i:Int) | false=>ixS x (i+1) l);rw [decide_eq_false (fun e=>h e.symm)]
theorem Sn:∀ (l seen:List MK) (x:MK) (m:Nat),(x,m)∈Av seen l→x∈l
 | [],seen,x,m,h=>by cases h
 | y::l,seen,x,m,h=>by
  rcases List.mem_cons.1 h with h | h
  ·rw [(Prod.mk.inj h).1];exact List.mem_cons_self ..
  ·exact List.mem_cons_of_mem _ (Sn l _ x m h)
theorem Pw:∀ (l seen:List MK),Og l=true→(Av seen l).Nodup∧∀ x m,(x,m)∈Av seen l→x.2.2=[]→seen.count x≤m
 | [],seen,_=>⟨List.nodup_nil,fun x m h=>by cases h⟩
 | y::l,seen,hu=>by
  have hu:((y.2.2.isEmpty || l.all fun z=>!(z.2.2==y.2.2)) && Og l)=true:=hu;simp only [Bool.and_eq_true,Bool.or_eq_true] at hu;obtain ⟨h1,h2⟩:=Pw l (y::seen) hu.2;refine ⟨List.nodup_cons.2 ⟨fun hm=>?_,h1⟩,fun x m hx hk=>?_⟩
  ·by_cases hy:y.2.2=[]
   ·have:=h2 y _ hm hy;rw [hy] at this;simp only [List.count_cons_self] at this;omega
   ·have hin:=Sn l _ _ _ hm;rcases hu.1 with h | h
    ·exact hy (List.isEmpty_iff.1 h)
    ·have:=List.all_eq_true.1 h y hin;simp at this
  ·rcases List.mem_cons.1 hx with h | h
   ·obtain ⟨e1,e2⟩:=Prod.mk.inj h;subst e1;rw [e2,hk];exact Nat.le_refl _
   ·have:=h2 x m h hk;rw [List.count_cons] at this;omega
theorem Ob {w0 w:World} {G:Ghost} {L:List Res} {b t o:Nat} {cs:List Value} {v:Value} (M:Mem w0 G L w) (D:Res.blk b cs t∈L) (E:cs[o]?=some v):w.cell? ⟨b,o,none⟩=some v:=by
 obtain ⟨k,z⟩:=List.mem_iff_getElem?.1 D;exact M.cellL z E
theorem Ayr {n:Nat} {a:Act} {e:Y.Env} (F:Fits n a e):Ef [] a=a:=by
 obtain ⟨t,d⟩:=a;simp [Ef]
theorem Aml {w0 w:World} {G:Ghost} {z:Nat} {l l':Dc} {X A L:List Res} (M:Mem w0 G (X++(A++.obj z (mpO l)::L)) w):Mem w0 G (X++(A++.obj z (mpO l')::L)) { w with heap:=w.heap.setIfInBounds z (mpO l') }:=by
 rw [← List.append_assoc] at M ⊢;exact (mem_map (M.perm List.perm_middle)).perm List.perm_middle.symm
theorem Arf {sp:List (MK × Nat)} {k:Nat} {x:MK} {m:Nat} (h:sp[k]?=some (x,m)):Dw 0 (sp.take (k+1))=Dw 0 (sp.take k)++[((x,(m:Int)),(k:Int))]:=by
 have z:=lt_of_get h;rw [List.take_add_one,h];show Dw 0 (sp.take k++[(x,m)])=_;rw [Aas,List.length_take,Nat.min_eq_left tM,Nat.zero_add]
theorem Are {sp:List (MK × Nat)} {k:Nat} {y:MK × Nat} (hd:sp.Nodup) (h:sp[k]?=some y):y ∉ sp.take k:=fun E=>by
 obtain ⟨j,z⟩:=List.mem_iff_getElem?.1 E;rw [List.getElem?_take] at z;split at z
 ·rename_i D;exact List.pairwise_iff_getElem.1 hd j k (lt_of_get z) (lt_of_get h) D (by rw [(List.getElem?_eq_some_iff.1 z).2,(List.getElem?_eq_some_iff.1 h).2])
 ·cases z
def Kid (w:World) (ad:Option Addr) (k:Nat) (x:MK):Prop:=∃ q o c3 c4 c5,ad=some ⟨q,o,none⟩∧(∀ v∈[c3,c4,c5],v.oneCell' = true)∧∀ j,j < 6→w.cell? ⟨q,o+k * 6+j,none⟩=[Value.int .u8 x.1,.string (str x.2.1),.string (str x.2.2),c3,c4,c5][j]?
theorem Pf:∀ (l seen:List MK),(Av seen l).length=l.length
 | [],seen=>rfl
 | x::l,seen=>by show (Av (x::seen) l).length+1=l.length+1;rw [Pf l]
def wr2 (sp1 sp2:List (MK × Nat)) (n k:Nat):List Value:=((sp2.take k).map fun s=>Value.int .i64 (ixS s 0 sp1))++List.replicate (n - k) (.int .i64 0)
theorem wr2_set {z D:List (MK × Nat)} {n k:Nat} {s:MK × Nat} (h:D[k]?=some s) (I:k < n):(wr2 z D n k).set k (.int .i64 (ixS s 0 z))=wr2 z D n (k+1):=by
 have J:=lt_of_get h;have E:((D.take k).map fun s=>Value.int .i64 (ixS s 0 z)).length=k:=by rw [List.length_map,List.length_take];omega
 unfold wr2;rw [List.set_append_right _ _ tM,E,Nat.sub_self,show n - k=(n - (k+1))+1 by omega,List.replicate_succ,List.set_cons_zero,List.take_add_one,h];simp
theorem Acz {w0 w:World} {G:Ghost} {L:List Res} {ad1 ad2:Option Addr} {I c1 n2 c2:Nat} {os ns:List MK} (M:Mem w0 G L w) (ho:os.length=I) (hn:ns.length=n2) (h1:I≤64) (h2:n2≤64) (hu:Og os=true)
  (aj:∀ X W x k,Mem w0 G (X++L) W→os[k]?=some x→Kid W ad1 k x) (ak:∀ X W x k,Mem w0 G (X++L) W→ns[k]?=some x→Kid W ad2 k x) :
  Calls Tryz.prog 154 #[.slice ad1 I c1,.slice ad2 n2 c2] w (RetL w0 G fun L' v=>∃ b,v=.slice (some ⟨b,0,none⟩) n2 n2∧L' = .blk b ((Ek os ns).map (Value.int .i64)) 3::L):=by
 have ap:=Aca.k;have Abs:(tk Tryz.prog 274).agg=some false:=kR;have z77:(tk Tryz.prog 77).agg=some false:=kR;obtain ⟨sp1,Z⟩:∃ sp,sp=Av [] os:=⟨_,rfl⟩;obtain ⟨E,aa⟩:∃ sp,sp=Av [] ns:=⟨_,rfl⟩;refine Iw (vs:=[_,_]) Tryz.func154 rfl (n:=41) rfl rfl ?_;intro a F;refine wpIn_seq (Ej ?_);refine Aa F (run_assign (v:=.slice none 0 0) rfl) rfl ?_;clear F a;intro a F;refine Ak ?_;show Code.wpIn _ _ _ _ _ _ _;refine wpIn_seq (Ej ?_);refine Aa F (w':=_) (v:=_) (by simp only [execOp,Instr.makeMap,Option.map_none,Sem.run_bind,newObj,Sem.run,Result.andThen_ok];rfl) rfl ?_;clear F a;intro a F;have M:=M.new (.map #[] 0);generalize ac:w.heap.size=mb at M F;have M:Mem w0 G (.obj mb (mpO (Dw 0 (sp1.take 0)))::L) _:=M;refine Ew F M Aca (cs:=[.map none]) rfl rfl ?_;clear F M a ac;intro O w a M F;refine Co F M Aca rfl (k:=0) (o:=0) (v:=.map (some mb)) rfl rfl rfl rfl rfl ?_;clear F M a;intro w a M F;have M:Mem w0 G (.blk O [.map (some mb)] 274::.obj mb (mpO (Dw 0 (sp1.take 0)))::L) w:=M;refine Ak ?_;show Code.wpIn _ _ _ _ _ _ _;refine wpIn_seq (wpIn_seq (Ej ?_));refine Aa F (run_move (F.ev (x:=.tmp 0) rfl)) rfl ?_;clear F a;intro a F;refine Jn F Axf rfl rfl (Qb M) ?_;clear F M a;rintro _ _ w a M ⟨U,rfl,rfl⟩ F;refine Ak ?_;show Code.wpIn _ _ _ _ _ _ _;refine wpIn_block ?_;rw [← Ayr F];refine Aez (ns:=os) (ad:=ad1) (n:=I) (c:=c1) F M (g:=.tmp 15) rfl rfl rfl (fun k Lc=>Lc=[.blk U [.slice ad1 I c1] 34,.blk O [.map (some mb)] 274,.obj mb (mpO (Dw 0 (sp1.take k)))]++L) ho tM rfl ?_ ?_ ?_ ?_
 ·rintro k _ X W rfl M;exact Ob M (List.mem_append_right _ (List.mem_cons_self ..)) rfl
 ·rintro k _ X W x rfl M hx;exact aj _ W x k (by rw [← List.append_assoc] at M;exact M) hx
 ·rintro k x m X _ W a1 lp z rfl M hx F;have hx:sp1[k]?=some (x,m):=by rw [Z];exact hx
  have ao:sp1.Nodup:=by rw [Z];exact (Pw os [] hu).1
  have am:=(Xb (x,m) (sp1.take k) 0 0).2 (Are ao hx);refine wpIn_seq (w_regIn rfl ?_);refine Aa F (run_assign (F.ev (x:=.tmp 16) rfl)) rfl ?_;clear F;clear a1;intro a F;refine Ak ?_;show Code.wpIn _ _ _ _ _ _ _;refine w_regIn rfl ?_;refine Ew F M Dx (cs:=[.int .u8 0,.string ⟨#[]⟩,.string ⟨#[]⟩,.int .i64 0]) rfl rfl ?_;clear F M a;intro b7 w a M F;refine Fi F M Dx (k:=0) (us:=kL (x,(m:Int))) (o:=0) rfl rfl rfl rfl rfl (by simp [kL,Value.oneCell']) (by simp [kL]) ?_;clear F M a;intro w a M F;have M:Mem w0 G (.blk b7 (kL (x,(m:Int))) 279::(X++([.blk U [.slice ad1 I c1] 34,.blk O [.map (some mb)] 274,.obj mb (mpO (Dw 0 (sp1.take k)))]++L))) w:=M;refine Ak ⟨rfl,.blk b7 (kL (x,(m:Int))) 279::([.blk U [.slice ad1 I c1] 34,.blk O [.map (some mb)] 274,.obj mb (mpO (Dw 0 (sp1.take k)))]++L),M.perm List.perm_middle.symm,fun X' W' M'=>?_⟩;clear M;have ac:W'.heap[mb]?=some (mpO (Dw 0 (sp1.take k))):=M'.own (.obj mb _) (by simp);refine wpIn_block (w_regIn rfl ?_);refine Aa F (run_load1 Abs (F.ev (x:=.tmp 5) rfl) (Ob M' (b:=O) (cs:=[.map (some mb)]) (t:=274) (by simp) rfl)) rfl ?_;clear F a;intro a F;refine Aa F (run_loadA Dx rfl (F.ev (x:=.tmp 7) rfl) (cs:=kL (x,(m:Int))) rfl (M'.cellsL (k:=X'.length) (b:=b7) (t:=279) (cs:=kL (x,(m:Int))) (by simp) rfl)) rfl ?_;clear F a;intro a F;refine Aa F (run_move (F.ev (x:=.tmp 6) rfl)) rfl ?_;clear F a;intro a F;refine U8 F (w':={ W' with heap:=W'.heap.setIfInBounds mb (mpO (Dw 0 (sp1.take k)++[((x,(m:Int)),(k:Int))])) }) (by simp only [execOp,F.ev (x:=.tmp 18) rfl,F.ev (x:=.tmp 19) rfl,F.ev (x:=.tmp 20) rfl,Sem.run_bind,show Value.agg (kL (x,(m:Int))).toArray=kv (x,(m:Int)) from rfl,Aud ac _ _ am,Result.andThen_ok,Sem.run_pure]) ?_;clear F a;intro a F
  refine Ak ⟨rfl,_,rfl,?_⟩;rw [Arf hx];have M2:=Aml (l':=Dw 0 (sp1.take k)++[((x,(m:Int)),(k:Int))]) (A:=[.blk b7 (kL (x,(m:Int))) 279,.blk U [.slice ad1 I c1] 34,.blk O [.map (some mb)] 274]) (X:=X') M';exact M2.weaken ((List.sublist_cons_self _ _).append_left X')
 ·rintro D _ W rfl M;have ah:sp1.take I=sp1:=List.take_of_length_le (by rw [Z,Pf];omega);rw [ah] at M;have M:Mem w0 G (.obj D (.deferred (some []))::.blk U [.slice ad1 I c1] 34::.blk O [.map (some mb)] 274::.obj mb (mpO (Dw 0 sp1))::L) W:=M;show Code.wpIn _ _ _ _ _ _ _;refine wpIn_seq (Uu ?_);refine Aa F (run_move (F.ev (x:=.tmp 1) rfl)) rfl ?_;clear F a;intro a F;refine Aa F (Bu tok34.k (F.ev rfl)) rfl ?_;clear F a;intro a F;refine Aa F (run_make_op Afg.k tok3 (F.ev rfl) rfl (F.ev (x:=.tmp 22) rfl) rfl (Nat.le_refl _) (by show 8 * n2≤_;omega) tM) rfl ?_;clear F a;intro a F;have M2:=M.new (.cells (madeCells ti3.zero.cells (n2 * ti3.size)) 3 (0,0));have hm:madeCells ti3.zero.cells (n2 * ti3.size)=(wr2 sp1 E n2 0).toArray:=by
   apply Array.ext'
   refine (made_eq ti3.zero.cells n2).trans ?_;show (List.replicate n2 [Value.int .i64 0]).flatten=wr2 sp1 E n2 0;simp [wr2]
  rw [hm] at M2 ⊢;generalize hbs:W.heap.size=bs at M2 F;have M:Mem w0 G (.blk bs (wr2 sp1 E n2 0) 3::.obj D (.deferred (some []))::.blk U [.slice ad1 I c1] 34::.blk O [.map (some mb)] 274::.obj mb (mpO (Dw 0 sp1))::L) _:=M2.swap_head (x:=.obj _ _) rfl (M2.own (.obj _ _) (by simp)) rfl rfl rfl rfl (fun _ _=>rfl);refine Ew F M Afg (cs:=[.slice none 0 0]) rfl rfl ?_;clear F M M2 a hbs;intro b8 w a M F;refine Co F M Afg rfl (k:=0) (o:=0) (v:=.slice (some ⟨bs,0,none⟩) n2 n2) rfl rfl rfl rfl rfl ?_;clear F M a;intro w a M F;have M:Mem w0 G (.blk b8 [.slice (some ⟨bs,0,none⟩) n2 n2] 77::.blk bs (wr2 sp1 E n2 0) 3::.obj D (.deferred (some []))::.blk U [.slice ad1 I c1] 34::.blk O [.map (some mb)] 274::.obj mb (mpO (Dw 0 sp1))::L) w:=M;refine Ak ?_;show Code.wpIn _ _ _ _ _ _ _;refine wpIn_seq (wpIn_seq (Uu ?_));refine Aa F (run_move (F.ev (x:=.tmp 1) rfl)) rfl ?_;clear F a;intro a F;refine Jn F Axf rfl rfl (Qb M) ?_;clear F M a;rintro _ _ w a M ⟨J,rfl,rfl⟩ F;refine Ak ?_;show Code.wpIn _ _ _ _ _ _ _;refine wpIn_block ?_;refine Aez (ns:=ns) (ad:=ad2) (n:=n2) (c:=c2) F M (g:=.tmp 25) rfl rfl rfl (fun k Lc=>Lc=[.blk J [.slice ad2 n2 c2] 34,.blk b8 [.slice (some ⟨bs,0,none⟩) n2 n2] 77,.blk bs (wr2 sp1 E n2 k) 3,.obj D (.deferred (some [])),.blk U [.slice ad1 I c1] 34,.blk O [.map (some mb)] 274,.obj mb (mpO (Dw 0 sp1))]++L) hn tM rfl ?_ ?_ ?_ ?_
  ·rintro k _ X W rfl M;exact Ob M (List.mem_append_right _ (List.mem_cons_self ..)) rfl
  ·rintro k _ X W x rfl M hx;exact ak _ W x k (by rw [← List.append_assoc] at M;exact M) hx
  ·rintro k x m X _ W a1 lp z rfl M hx F;have hx:E[k]?=some (x,m):=by rw [aa];exact hx
   have hk:k < n2:=by have:=lt_of_get hx;rw [aa,Pf] at this;omega
   refine wpIn_seq (w_regIn rfl ?_);refine Aa F (run_assign (F.ev (x:=.tmp 26) rfl)) rfl ?_;clear F;clear a1;intro a F;refine Ak ?_;show Code.wpIn _ _ _ _ _ _ _;refine w_regIn rfl ?_;refine Ew F M Dx (cs:=[.int .u8 0,.string ⟨#[]⟩,.string ⟨#[]⟩,.int .i64 0]) rfl rfl ?_;clear F M a;intro b7 w a M F;refine Fi F M Dx (k:=0) (us:=kL (x,(m:Int))) (o:=0) rfl rfl rfl rfl rfl (by simp [kL,Value.oneCell']) (by simp [kL]) ?_;clear F M a;intro w a M F;have M:Mem w0 G (.blk b7 (kL (x,(m:Int))) 279::(X++([.blk J [.slice ad2 n2 c2] 34,.blk b8 [.slice (some ⟨bs,0,none⟩) n2 n2] 77,.blk bs (wr2 sp1 E n2 k) 3,.obj D (.deferred (some [])),.blk U [.slice ad1 I c1] 34,.blk O [.map (some mb)] 274,.obj mb (mpO (Dw 0 sp1))]++L))) w:=M;refine Ak ⟨rfl,.blk b7 (kL (x,(m:Int))) 279::([.blk J [.slice ad2 n2 c2] 34,.blk b8 [.slice (some ⟨bs,0,none⟩) n2 n2] 77,.blk bs (wr2 sp1 E n2 k) 3,.obj D (.deferred (some [])),.blk U [.slice ad1 I c1] 34,.blk O [.map (some mb)] 274,.obj mb (mpO (Dw 0 sp1))]++L),M.perm List.perm_middle.symm,fun X' W' M'=>?_⟩;clear M;have ac:W'.heap[mb]?=some (mpO (Dw 0 sp1)):=M'.own (.obj mb _) (by simp);have fx:=(Xb (x,m) sp1 0 0).1;have af:=Sw ac (x,(m:Int)) true;have c5:=Ob M' (b:=O) (o:=0) (cs:=[.map (some mb)]) (t:=274) (by simp) rfl;have c8:=Ob M' (b:=b8) (o:=0) (cs:=[.slice (some ⟨bs,0,none⟩) n2 n2]) (t:=77) (by simp) rfl;have c7:=M'.cellsL (k:=X'.length) (b:=b7) (t:=279) (cs:=kL (x,(m:Int))) (o:=0) (m:=4) (us:=kL (x,(m:Int))) (by simp) rfl;have MB:Mem w0 G (.blk bs (wr2 sp1 E n2 k) 3::((X'++[.blk b7 (kL (x,(m:Int))) 279,.blk J [.slice ad2 n2 c2] 34,.blk b8 [.slice (some ⟨bs,0,none⟩) n2 n2] 77])++([.obj D (.deferred (some [])),.blk U [.slice ad1 I c1] 34,.blk O [.map (some mb)] 274,.obj mb (mpO (Dw 0 sp1))]++L))) W':=by
    have:Mem w0 G ((X'++[.blk b7 (kL (x,(m:Int))) 279,.blk J [.slice ad2 n2 c2] 34,.blk b8 [.slice (some ⟨bs,0,none⟩) n2 n2] 77])++.blk bs (wr2 sp1 E n2 k) 3::([.obj D (.deferred (some [])),.blk U [.slice ad1 I c1] 34,.blk O [.map (some mb)] 274,.obj mb (mpO (Dw 0 sp1))]++L)) W':=by rw [List.append_assoc];exact M'
    exact this.perm List.perm_middle
   refine wpIn_block (wpIn_seq (w_regIn rfl ?_));refine Aa F (run_load1 Abs (F.ev (x:=.tmp 5) rfl) c5) rfl ?_;clear F a;intro a F;refine Aa F (run_loadA Dx rfl (F.ev (x:=.tmp 10) rfl) (cs:=kL (x,(m:Int))) rfl c7) rfl ?_;clear F a;intro a F;obtain ⟨lv,lb,an,ab⟩:∃ (lv:Int) (lb:Bool),(Instr.lookup 274 (.map (some mb)) (kv (x,(m:Int))) true).run Tryz.prog W' = .ok (.tuple #[.int .i64 lv,.bool lb]) W'∧(if lb then lv else -1)=ixS (x,m) 0 sp1:=by
    rw [← fx];cases hf:fst? (x,(m:Int)) 0 (Dw 0 sp1) with
    | none=>exact ⟨0,false,by rw [af,hf];rfl,rfl⟩
    | some r=>exact ⟨r.2,true,by rw [af,hf];rfl,rfl⟩
   refine Aa F (v:=.tuple #[.int .i64 lv,.bool lb]) (w':=W') (by simp only [execOp,F.ev (x:=.tmp 29) rfl,F.ev (x:=.tmp 30) rfl,Sem.run_bind,show Value.agg (kL (x,(m:Int))).toArray=kv (x,(m:Int)) from rfl,an,Result.andThen_ok,Sem.run_pure]) rfl ?_;clear F a;intro a F;refine Aa F (run_move (F.ev (x:=.tmp 31) rfl)) rfl ?_;clear F a;intro a F;refine Aa F (run_extract (F.ev (x:=.tmp 28) rfl) (show (#[Value.int .i64 lv,.bool lb]:Array Value)[0]?=some (.int .i64 lv) from rfl)) rfl ?_;clear F a;intro a F;refine Aa F (run_extract (F.ev (x:=.tmp 28) rfl) (show (#[Value.int .i64 lv,.bool lb]:Array Value)[1]?=some (.bool lb) from rfl)) rfl ?_;clear F a;intro a F;refine Aa F (run_assign (F.ev (x:=.tmp 32) rfl)) rfl ?_;clear F a;intro a F;refine Aa F (run_assign (F.ev (x:=.tmp 33) rfl)) rfl ?_;clear F a;intro a F;refine Ak ?_;show Code.wpIn _ _ _ _ _ _ _;refine wpIn_seq (wpIn_seq (w_regIn rfl ?_));refine Aa F (run_move (F.ev (x:=.tmp 12) rfl)) rfl ?_;clear F a;intro a F;refine Aa F (run_not (F.ev rfl)) rfl ?_;clear F a;intro a F;refine Ak ?_;show Code.wpIn _ _ _ _ _ _ _;refine wpIn_mono (show Code.wpIn _ _ Tryz.prog _ (fun ex a' w'=>ex=.normal∧w' = W'∧∃ e',Fits 41 a' e'∧Y.look e' 8=some (.pointer (some ⟨b8,0,none⟩))∧Y.look e' 9=some (.int .i64 (k:Int))∧Y.look e' 11=some (.int .i64 (ixS (x,m) 0 sp1))) a W' from ?_) ?_
   ·cases lb with
    | true =>
     have ab:lv=ixS (x,m) 0 sp1:=ab;subst ab;exact wpIn_cond_false (F.ev rfl) (wpIn_skip ⟨rfl,rfl,_,F,rfl,rfl,rfl⟩)
    | false =>
     have ab:-1=ixS (x,m) 0 sp1:=ab;refine wpIn_cond_true (F.ev rfl) (w_regIn rfl ?_);refine Aa F (run_assign (v:=.int .i64 (-1)) rfl) rfl ?_;clear F a;intro a F;rw [ab] at F;exact Ak ⟨rfl,rfl,_,F,rfl,rfl,rfl⟩
   ·clear F a;rintro ex a w ⟨rfl,rfl,e',F,e8,e9,ag⟩;show Code.wpIn _ _ _ _ _ _ _;refine w_regIn rfl ?_;refine Aa F (run_load1 z77 (F.ev (x:=.tmp 8) e8) c8) rfl ?_;clear F a;intro a F;refine Aa F (run_move (F.ev (x:=.tmp 9) e9)) rfl ?_;clear F a;intro a F;refine Aa F (run_move (F.ev (x:=.tmp 11) ag)) rfl ?_;clear F a;intro a F;refine Aa F (run_indexAddr Afg.k tok3 (F.ev (x:=.tmp 36) rfl) (F.ev (x:=.tmp 37) rfl) hk) rfl ?_;clear F a;intro a F;have ai:(wr2 sp1 E n2 k)[k]?=some (.int .i64 0):=by
     have aq:=lt_of_get hx;unfold wr2;rw [List.getElem?_append_right (by rw [List.length_map,List.length_take];omega),List.getElem?_replicate,if_pos (by rw [List.length_map,List.length_take];omega)]
    refine Co F MB tok3 rfl (k:=0) (o:=k) (v:=.int .i64 (ixS (x,m) 0 sp1)) rfl (by show some (Value.pointer (some ⟨bs,0+k * 1,none⟩))=_;rw [Nat.zero_add,Nat.mul_one]) rfl rfl ai ?_;clear F a;intro w a M F;refine Ak ⟨rfl,_,rfl,?_⟩;have M:Mem w0 G (.blk bs ((wr2 sp1 E n2 k).set k (.int .i64 (ixS (x,m) 0 sp1))) 3::((X'++[.blk b7 (kL (x,(m:Int))) 279,.blk J [.slice ad2 n2 c2] 34,.blk b8 [.slice (some ⟨bs,0,none⟩) n2 n2] 77])++([.obj D (.deferred (some [])),.blk U [.slice ad1 I c1] 34,.blk O [.map (some mb)] 274,.obj mb (mpO (Dw 0 sp1))]++L))) w:=M;rw [wr2_set hx hk] at M;have M3:=M.perm List.perm_middle.symm;rw [List.append_assoc] at M3;exact M3.weaken ((List.sublist_cons_self _ _).append_left X')
  ·rintro D2 _ W rfl M;have M:Mem w0 G (.obj D2 (.deferred (some []))::([.blk J [.slice ad2 n2 c2] 34,.blk b8 [.slice (some ⟨bs,0,none⟩) n2 n2] 77,.blk bs (wr2 sp1 E n2 n2) 3,.obj D (.deferred (some [])),.blk U [.slice ad1 I c1] 34,.blk O [.map (some mb)] 274,.obj mb (mpO (Dw 0 sp1))]++L)) W:=M;have c8:=Ob M (b:=b8) (o:=0) (cs:=[.slice (some ⟨bs,0,none⟩) n2 n2]) (t:=77) (by simp) rfl;show Code.wpIn _ _ _ _ _ _ _;refine wpIn_seq (Uu ?_);refine Aa F (run_load1 z77 (F.ev (x:=.tmp 8) rfl) c8) rfl ?_;clear F a;intro a F;refine Aa F (run_assign (F.ev (x:=.tmp 40) rfl)) rfl ?_;clear F a;intro a F;refine Ak ?_;show Code.wpIn _ _ _ _ _ _ _;refine wpIn_ret ?_;have ae:wr2 sp1 E n2 n2=(Ek os ns).map (Value.int .i64):=by
    unfold wr2 Ek;rw [Nat.sub_self,List.replicate_zero,List.append_nil,List.take_of_length_le (by rw [aa,Pf];omega),List.map_map,Z,aa];rfl
   have M2:=(mem_put (o':=.deferred none) M rfl).weaken (List.sublist_cons_self _ _);have M3:Mem w0 G (.obj D (.deferred (some []))::([.blk J [.slice ad2 n2 c2] 34,.blk b8 [.slice (some ⟨bs,0,none⟩) n2 n2] 77,.blk bs (wr2 sp1 E n2 n2) 3]++([.blk U [.slice ad1 I c1] 34,.blk O [.map (some mb)] 274,.obj mb (mpO (Dw 0 sp1))]++L))) _:=M2.perm (List.perm_middle (l₁:=[Res.blk J [.slice ad2 n2 c2] 34,Res.blk b8 [.slice (some ⟨bs,0,none⟩) n2 n2] 77,Res.blk bs (wr2 sp1 E n2 n2) 3]));have M4:=(mem_put (o':=.deferred none) M3 rfl).weaken (List.sublist_cons_self _ _);show LeavesInM _ _ _ _ _ _ (Ef (H4 D2::[H4 D]) a).defers _ _;rw [show (Ef (H4 D2::[H4 D]) a).defers=[H4 D2,H4 D] by unfold Ef;rw [F.defers];rfl];refine ⟨by simp,Or.inl ⟨D2,_,rfl,run_takeDeferred (M.own (.obj D2 (.deferred (some []))) (by simp)),by simp,Or.inl ⟨D,_,rfl,run_takeDeferred (M3.own (.obj D (.deferred (some []))) (by simp)),.slice (some ⟨bs,0,none⟩) n2 n2,by rw [results_tmp rfl];exact congrArg (fun z=>Result.ok z _) (Po F rfl),?_⟩⟩⟩;rw [ae] at M4;exact ⟨.blk bs ((Ek os ns).map (Value.int .i64)) 3::L,M4.weaken (.cons _ (.cons _ (.cons_cons _ (.cons _ (.cons _ (.cons _ (.refl L))))))),bs,rfl,rfl⟩
open Go Go.Proofs
section
variable {w0 w:World} {G:Y.Ghost} {Lf:List Y.Res} {ρ:Nm} {h:H}
theorem Ahf {a:AV} {u:Value} {n:Nat} (z:Db a=some n) (D:VR ρ a u):∃ ad c,u=.slice ad n c∧(ad=none∨∃ b o,ad=some ⟨b,o,none⟩):=by
 unfold Db at z;split at z
 ·cases z;obtain ⟨_,b,d,_,rfl⟩:=D;exact ⟨_,_,rfl,Or.inr ⟨b,_,rfl⟩⟩
 ·cases z;obtain ⟨b,d,_,_,rfl⟩:=D;exact ⟨_,_,rfl,Or.inr ⟨b,_,rfl⟩⟩
 ·cases z;obtain ⟨rfl,_⟩:=D;exact ⟨_,_,rfl,Or.inl rfl⟩
 ·cases z
theorem Ul:∀ {n:Nat} {ca:List AV} {la:List MK} {k:Nat} {x:MK},Hu n ca=some la→la[k]?=some x→∃ c3 c4 c5 r,ca.drop (k * 6)=.int .u8 x.1::.str x.2.1::.str x.2.2::c3::c4::c5::r
 | 0,ca,la,k,x,h,hx=>by
  have:la=[]:=(Option.some.inj (show some []=some la from h)).symm;subst this;simp at hx
 | n+1,ca,la,k,x,h,hx=>by
  unfold Hu at h;split at h
  ·rename_i e;cases e
  ·rename_i n' kd tg ky c3 c4 c5 r e;cases e;split at h
   ·rename_i l hl;cases h;cases k with
    | zero =>
     simp only [List.getElem?_cons_zero,Option.some.injEq] at hx;subst hx;exact ⟨c3,c4,c5,r,rfl⟩
    | succ k =>
     obtain ⟨d3,d4,d5,r',h1⟩:=Ul (k:=k) hl (by simpa using hx);refine ⟨d3,d4,d5,r',?_⟩;rw [← h1,show (k+1) * 6=k * 6+6 by omega];rfl
   ·cases h
  ·cases h
theorem Iv:∀ {n:Nat} {ca:List AV} {la:List MK},Hu n ca=some la→la.length=n
 | 0,ca,la,h=>by
  have:la=[]:=(Option.some.inj (show some []=some la from h)).symm;subst this;rfl
 | n+1,ca,la,h=>by
  unfold Hu at h;split at h
  ·rename_i e;cases e
  ·rename_i n' kd tg ky c3 c4 c5 r e;cases e;split at h
   ·rename_i l hl;cases h;rw [List.length_cons,Iv hl]
   ·cases h
  ·cases h
theorem Awd {a:AV} {n c:Nat} {D:List AV} {la:List MK} {ad:Option Addr} {k:Nat} {x:MK} (E:HR ρ w0 G Lf h w) (hf:Bp h 6 n a=some D) (I:VR ρ a (.slice ad n c)) (aa:ad=none∨∃ b o,ad=some ⟨b,o,none⟩) (hk:Hu n D=some la) (h1:Af D=true) (hx:la[k]?=some x):Kid w ad k x:=by
 obtain ⟨vs,g1,g2,g3⟩:=Ny E hf I;have af:k < n:=by rw [← Iv hk];exact Y.lt_of_get hx
 rcases g3 with ⟨ae,m,c',z,_,g4⟩ | ⟨rfl,_⟩
 ·simp only [Value.slice.injEq] at z;obtain ⟨rfl,rfl,rfl⟩:=z;rcases aa with h0 | ⟨b,o,h0⟩
  ·cases h0
  ·cases h0;obtain ⟨c3,c4,c5,r,hd⟩:=Ul hk hx;have hs:VRs ρ (D.drop (k * 6)) (vs.drop (k * 6)):=by
    have ab:D.length=n * 6:=by rw [← g2,g1.len]
    rw [← List.take_append_drop (k * 6) D] at g1;obtain ⟨p,q,z,J,e3⟩:=g1.split;have hp:p.length=k * 6:=by
     rw [J.len,List.length_take,ab];omega
    rw [z,List.drop_left' hp];exact e3
   rw [hd] at hs;obtain ⟨v0,r0,f0,Z,v1,r1,rfl,z,v2,r2,rfl,J,v3,r3,rfl,e3,v4,r4,rfl,e4,v5,r5,rfl,e5,e6⟩:=hs;have Z:v0=.int .u8 x.1:=Z;have z:v1=.string (Y.str x.2.1):=z;have J:v2=.string (Y.str x.2.2):=J;subst Z z J;have U:=Er h1 g1;have O:∀ v,v∈vs.drop (k * 6)→v.oneCell' = true:=fun v I=>U v (List.mem_of_mem_drop I);refine ⟨b,o,v3,v4,v5,rfl,fun v I=>O v (by rw [f0];simp at I;rcases I with rfl | rfl | rfl <;> simp),fun j hj=>?_⟩;have ac:∀ u,(vs.drop (k * 6))[j]?=some u→w.cell? ⟨b,o+k * 6+j,none⟩=some u:=fun u hu=>by
    rw [List.getElem?_drop] at hu;have:=g4 _ u hu;rw [Y.add_plain] at this;rw [Nat.add_assoc];exact this
   rcases j with _ | _ | _ | _ | _ | _ | j
   all_goals first | exact ac _ (by rw [f0];rfl) | omega
 ·omega
theorem HR.ext_f {X L:List Y.Res} {W:World} (z:Dh ρ h.m L) (M:Y.Mem w0 G (X++(L++Lf)) W):HR ρ w0 G (X++Lf) h W:=⟨L,z,M.perm (by rw [← List.append_assoc,← List.append_assoc];exact (List.perm_append_comm).append_right Lf)⟩
end
theorem ent154:Y.Ent Tryz.prog 154:=.mk' Tryz.func154 rfl rfl
theorem Ajt {w0:World} {G:Y.Ghost} {vs:List AV} {h h':H} {v:AV} (z:Pr vs h=some (v,h')) (ρ:Nm) (Lf:List Y.Res) (w:World) (us:List Value) (hv:VRs ρ vs us) (E:HR ρ w0 G Lf h w) (hn:Bt ρ h.nx) :
  Calls Tryz.prog 154 us.toArray w fun x w'=>∃ u,x=.returned u∧∃ ρ',Aft ρ ρ' h.nx h'.nx∧HR ρ' w0 G Lf h' w'∧VR ρ' v u:=by
 unfold Pr at z;split at z
 ·rename_i a b;split at z
  ·rename_i n m af ae;split at z
   ·rename_i ca cb D aa ab;split at z
    ·rename_i la lb O U;split at z
     ·rename_i hu;cases z;simp only [Bool.and_eq_true,Nat.ble_eq] at hu D;obtain ⟨u1,r1,rfl,v1,u2,r2,rfl,v2,rfl⟩:=hv;obtain ⟨ad1,c1,rfl,d1⟩:=Ahf af v1;obtain ⟨ad2,c2,rfl,d2⟩:=Ahf ae v2;obtain ⟨L,Z,M⟩:=E;have key:=Acz (ad1:=ad1) (c1:=c1) (ad2:=ad2) (c2:=c2) M (Iv O) (Iv U) D.1 D.2 hu.1.1 (fun X W x k I z=>Awd (HR.ext_f Z I) aa v1 d1 O hu.2.1 z) (fun X W x k I z=>Awd (HR.ext_f Z I) ab v2 d2 U hu.2.2 z);refine Calls.mono key fun x w' z=>?_;obtain ⟨u,rfl⟩:∃ u,x=.returned u:=by
       cases x with
       | returned u=>exact ⟨u,rfl⟩
       | _=>exact z.elim
      obtain ⟨L',I,J,rfl,rfl⟩:=z;have ac:Le ρ (up ρ h.nx (J,m)):=K6 (hn _ (Nat.le_refl _));have hA:Aft ρ (up ρ h.nx (J,m)) h.nx (h.nx+1):=⟨Nat.le_succ _,fun i hi=>up_ne tM,fun i hi=>by rw [up_ne tM];exact hn i tM⟩;refine ⟨_,rfl,up ρ h.nx (J,m),hA,⟨.blk J ((Ek la lb).map (Value.int .i64)) 3::L,?_,I⟩,Nat.le_refl _,J,m,Hv,rfl⟩;refine (Z.mono ac).cons ?_ Hv ⟨_,?_,rfl⟩
      ·cases hg:h.m.get h.nx with
       | none=>rfl
       | some k =>
        obtain ⟨q,r,b,c,_,e2,_⟩:=Z.at hg;rw [hn _ (Nat.le_refl _)] at e2;cases e2
      ·generalize Ek la lb=l
       induction l with
       | nil=>rfl
       | cons x l ih=>exact ⟨_,_,rfl,rfl,ih⟩
     ·cases z
    ·cases z
   ·cases z
  ·cases z
 ·cases z
theorem Axq {w0:World} {G:Y.Ghost}:Abr Tryz.prog w0 G ctx:=fun f vs h v h' z=>by
 have z:(match Aww f vs h with | some r=>r | none=>none)=some (v,h'):=z;unfold Aww at z;split at z
 ·rename_i r D;split at D
  ·cases D;exact Or.inl ⟨ent176,Aqc z⟩
  ·cases D;exact Or.inl ⟨Aiv,Aju z⟩
  ·cases D;exact Or.inl ⟨Yr,Abt z⟩
  ·cases D;exact Or.inl ⟨Ael,Abu z⟩
  ·cases D;exact Or.inl ⟨Aem,Abv z⟩
  ·cases D;exact Or.inl ⟨ent154,Ajt z⟩
  ·cases D;unfold Aey at z;split at z
   ·rename_i E;exact E w0 G 7 vs h v h' z
   ·cases z
  ·cases D
 ·cases z
theorem Abc {w0:World} {G:Y.Ghost}:Cx Tryz.prog w0 G (FW ctx):=fw_ok Axq rfl
open Go
theorem Ep:∀ l:List UInt8,Op.bytesLess l l=false
 | []=>rfl
 | a::l=>by simp [Op.bytesLess,Ep l]
theorem J1:∀ {a b c:List UInt8},Op.bytesLess a b=true→Op.bytesLess b c=true→Op.bytesLess a c=true
 | [],[],_,h,_=>by simp [Op.bytesLess] at h
 | [],_::_,[],_,h=>by simp [Op.bytesLess] at h
 | [],_::_,_::_,_,_=>by simp [Op.bytesLess]
 | _::_,[],_,h,_=>by simp [Op.bytesLess] at h
 | _::_,_::_,[],_,h=>by simp [Op.bytesLess] at h
 | x::a,y::b,z::c,h1,h2=>by
  simp only [Op.bytesLess,Bool.or_eq_true,Bool.and_eq_true,decide_eq_true_eq,beq_iff_eq] at h1 h2 ⊢;rcases h1 with h1 | ⟨rfl,h1⟩
  ·rcases h2 with h2 | ⟨rfl,h2⟩
   ·exact Or.inl (UInt8.lt_trans h1 h2)
   ·exact Or.inl h1
  ·rcases h2 with h2 | ⟨rfl,h2⟩
   ·exact Or.inl h2
   ·exact Or.inr ⟨rfl,J1 h1 h2⟩
theorem Rt:∀ (a b:List UInt8),Op.bytesLess a b=true∨a=b∨Op.bytesLess b a=true
 | [],[]=>Or.inr (Or.inl rfl)
 | [],_::_=>Or.inl rfl
 | _::_,[]=>Or.inr (Or.inr rfl)
 | x::a,y::b=>by
  simp only [Op.bytesLess,Bool.or_eq_true,Bool.and_eq_true,decide_eq_true_eq,beq_iff_eq,List.cons.injEq];rcases UInt8.lt_or_lt_of_ne (a:=x) (b:=y) |> fun f=>(Decidable.em (x=y)).symm.imp f id with h | h
  ·rcases h with h | h
   ·exact Or.inl (Or.inl h)
   ·exact Or.inr (Or.inr (Or.inl h))
  ·subst h;rcases Rt a b with h | h | h
   ·exact Or.inl (Or.inr ⟨rfl,h⟩)
   ·exact Or.inr (Or.inl ⟨rfl,h⟩)
   ·exact Or.inr (Or.inr (Or.inr ⟨rfl,h⟩))
theorem bl_le {a b:List UInt8}:(Op.bytesLess a b || a==b)=true↔¬ Op.bytesLess b a=true:=by
 constructor
 ·intro h D;simp only [Bool.or_eq_true,beq_iff_eq] at h;rcases h with h | rfl
  ·have:=J1 h D;rw [Ep] at this;cases this
  ·rw [Ep] at D;cases D
 ·intro h;simp only [Bool.or_eq_true,beq_iff_eq];rcases Rt a b with z | z | z
  ·exact Or.inl z
  ·exact Or.inr z
  ·exact absurd z h
end Go.V
