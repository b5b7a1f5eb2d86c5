/- Own lemmas. -/
import Derived.Test.YtinhmakomfennaaGreatJ13
set_option linter.unusedSimpArgs false
set_option linter.unusedVariables false
set_option linter.unusedSectionVars false
namespace Go.Y
open Go
section
variable {P:Program} {ops:Array Oper} {Q:Exit→Act→World→Prop} {w0 w:World} {G:Ghost} {L:List Res} {n d:Nat} {a:Act} {e:Env} {t:TypeId} {p:String} {af:Array Edge} {r:List Oper}
def unr (P:Program) (c:Code) (Q:Exit→Act→World→Prop):Nat→Act→World→Prop
 | 0=>fun _ _=>False
 | k+1=>fun a w=>c.wp P (Exit.then (unr P c Q k) Q) a w
theorem Y9 {c:Code} (k:Nat) (h:c.wp P (Exit.then (unr P c Q k) Q) a w):(Code.loop c).wp P Q a w:=by
 refine Aqn (σ:=Nat) (fun s a w=>unr P c Q s a w) id (k+1) h fun s a w hs=>?_;cases s with
 | zero=>exact hs.elim
 | succ s =>
  refine wp_mono hs fun e a w h=>?_;cases e <;> first | exact ⟨s,Nat.lt_succ_self s,h⟩ | exact h
theorem Acj {ρ:Operand→Value} {z:Option Tmp} {g:Option (Nat × Bool)} {x:Operand} {ty e:TypeId} {v:Value} (D:tk P ty=.ptr e) (E:ρ x=v) :
  (execOp ρ ⟨z,.makeInterface ty x,t,p,af,g⟩).run P w=.ok (.value (.iface ty v)) w:=by
 simp [execOp,E,Instr.makeInterface,run_under (Gc D)]
theorem Ack {f:FuncId} {z:Operand} {nm:String} {args:List Operand} {D:Array TypeId} {vs:List Value} {ty:TypeId} {x:Value} {Φ:Value→Prop}
  (F:Fits n a e) (Z:Ent P f) (hm:∀ w,(Go.method (P.types.size+Made.depth) ty x nm).run P w=.ok (f,x) w) (hc:ev e z=some (.iface ty x)) (hv:evs e args=some vs) (hd:Nat.ble (d+1) n=true)
  (hs:Calls P f (x::vs).toArray w (RetS w0 G L Φ))
  (k:∀ v w' I,Mem w0 G L w'→Φ v→Fits n I ((d,v)::e)→rl P ops Q r I w') :
  rl P ops Q (⟨some d,.call ⟨.invoke z nm,args.toArray,D⟩,t,p,af,none⟩::r) a w:=by
 refine ⟨fun _=>?_,fun h=>by simp [Region.wanted] at h⟩;unfold Oper.wp;have hr:(execOp a.eval ⟨some d,.call ⟨.invoke z nm,args.toArray,D⟩,t,p,af,none⟩).run P w=.ok (.enter f (x::vs).toArray) w:=by
  have J:=F.ev hc;have O:=F.evs hv;simp only [execOp,resolve,J,Sem.run_bind,Sem.run_pure,Result.andThen_ok,invoke];rw [show (#[Value.iface ty x]++Array.map a.eval args.toArray)=(Value.iface ty x::vs).toArray by simp [← O]];have U:=hm w;have Y:=run_enter (w:=w) (args:=(x::vs).toArray) Z;simp only [Sem.run_bind,Sem.run_pure,Result.andThen_ok,callMethod,List.size_toArray,List.getElem?_toArray,List.getElem?_cons_zero];rw [show (program:Sem Program).run P w=.ok P w from rfl];simp only [Result.andThen_ok,U];simpa using Y
 rw [hr];refine Calls.mono hs fun y w' E=>?_;cases y with
 | returned v=>exact k v w' _ E.1 E.2 (F.put hd)
 | panicked c=>exact E.elim
 | outgrown=>exact E.elim
theorem Ol {src dst D:TypeId} {x:Operand} {s:ByteArray} (F:Fits n a e) (M:Mem w0 G L w) (hs:tk P src=.str) (hds:tk P dst=.slice D) (E:tk P D=.int .u8) (I:ev e x=some (.string s)) (hd:Nat.ble (d+1) n=true)
  (k:∀ b c w' z,Mem w0 G L w'→Fits n z ((d,.slice (some ⟨b,0,none⟩) s.size c)::e)→rl P ops Q r z w') :
  rl P ops Q (⟨some d,.convert src dst x,t,p,af,none⟩::r) a w:=by
 have h:=run_bytes_of_string (P:=P) w src dst D s (Gb hs) (Bi hds) (J6 E);refine Aa F (w':=_) (v:=_) (by simp only [execOp,F.ev I,Sem.run_bind,h,Result.andThen_ok];rfl) hd fun z F'=>k _ _ _ z ?_ F';exact ((M.drew _).new _).weaken (.cons _ (List.Sublist.refl _))
structure TabIs (cs:List Value) (K:List Nat):Prop where
 len:cs.length=257
 nil:∀ j,j < 256→j ∉ K→cs[j]?=some (.slice none 0 0)
def Gy (v:Value):List Value:=List.replicate 256 (.slice none 0 0)++[v]
theorem Afi (v:Value):TabIs (Gy v) []:=⟨by rw [Gy,List.length_append,List.length_replicate];rfl,fun j z _=>by
 rw [Gy,List.getElem?_append_left (by rw [List.length_replicate];exact z),List.getElem?_replicate,if_pos z]⟩
theorem TabIs.put {cs:List Value} {K:List Nat} (T:TabIs cs K) (o:Nat) (v:Value) (D:List Nat) (h:∀ j,j < 256→j ∉ D→o≠j∧j ∉ K):TabIs (cs.set o v) D :=
 ⟨by rw [List.length_set];exact T.len,fun j z E=>by rw [List.getElem?_set_ne (h j z E).1];exact T.nil j z (h j z E).2⟩
theorem TabIs.last {cs:List Value} {K:List Nat} (T:TabIs cs K):∃ v,cs[256]?=some v:=⟨_,List.getElem?_eq_getElem (by rw [T.len];omega)⟩
end
end Go.Y
