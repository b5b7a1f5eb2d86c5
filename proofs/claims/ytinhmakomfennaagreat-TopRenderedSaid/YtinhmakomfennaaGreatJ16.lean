/- Own lemmas. -/
import Derived.Test.YtinhmakomfennaaGreatJ12
import Derived.Test.YtinhmakomfennaaGreatJ15
import Derived.Test.YtinhmakomfennaaGreatJ13
import Derived.KernelRfl
set_option linter.unusedSimpArgs false
set_option linter.unusedVariables false
set_option linter.unusedSectionVars false
set_option maxRecDepth 100000
namespace Go.V
open Go Go.Proofs Go.Proofs.YtinhmakomfennaaGreat
def xQuo (vs:List AV) (h:H):Option (AV × H):=match vs with
 | [.str s]=>match Nat.ble (s.length+1) 16 && s.all fun b=>!(b.toNat==34) && !(b.toNat==92) with
  | true=>some (.str (34::(s++[34])),h)
  | false=>none
 | _=>none
theorem ent140:Y.Ent Tryz.prog 140:=.mk' Tryz.func140 rfl rfl
theorem xQuo_ok {w0:World} {G:Y.Ghost} {vs:List AV} {h h':H} {v:AV} (z:xQuo vs h=some (v,h')) (ρ:Nm) (I:List Y.Res) (w:World) (us:List Value) (Z:VRs ρ vs us) (E:HR ρ w0 G I h w) (U:Bt ρ h.nx) :
  Calls Tryz.prog 140 us.toArray w fun x w'=>∃ u,x=.returned u∧∃ ρ',Aft ρ ρ' h.nx h'.nx∧HR ρ' w0 G I h' w'∧VR ρ' v u:=by
 unfold xQuo at z;split at z
 ·rename_i s;split at z
  ·rename_i hs;cases z;obtain ⟨u,r,rfl,rfl,rfl⟩:=Z;obtain ⟨L,D,M⟩:=E;simp only [Bool.and_eq_true,Nat.ble_eq,List.all_eq_true] at hs;have J:∀ c∈s,c.toNat≠34∧c.toNat≠92:=fun c D=>by
    have:=hs.2 c D;simpa using this
   refine Calls.mono (Zy M (s:=s) ⟨tM,J⟩) fun x w' z=>?_;obtain ⟨v,rfl⟩:∃ v,x=.returned v:=by
    cases x with
    | returned v=>exact ⟨v,rfl⟩
    | _=>exact z.elim
   obtain ⟨O,rfl⟩:=z;refine ⟨_,rfl,ρ,.refl U,⟨L,D,O⟩,?_⟩;show Value.string _=.string _;unfold Vg;rw [Lz J];rfl
  ·cases z
 ·cases z
noncomputable def arrS (h:H) (sz:Nat) (v:AV):Option (Nat × List AV):=match v with
 | .raw (.slice none 0 0)=>some (0,[])
 | .sl b o n c=>match Nat.ble n c,h.read b o (n * sz) with
  | true,some cs=>some (n,cs)
  | _,_=>none
 | .sr b o _ n=>match h.read b o (n * sz) with
  | some cs=>some (n,cs)
  | none=>none
 | _=>none
def attP:List AV→Option (List (List UInt8 × List UInt8))
 | []=>some []
 | .str a::.str b::l=>match attP l with
  | some r=>some ((a,b)::r)
  | none=>none
 | _=>none
noncomputable def Jt (g:List AV→Option T):Nat→List AV→Option (List T)
 | 0,[]=>some []
 | n+1,a::b::c::d::e::f::r=>match g [a,b,c,d,e,f],Jt g n r with
  | some t,some l=>some (t::l)
  | _,_=>none
 | _,_=>none
noncomputable def Aff (h:H):Nat→List AV→Option T
 | 0,_=>none
 | n+1,[.int .u8 kd,.str tg,.str ky,a,.str tx,c]=>match Eo kd,arrS h 2 a,arrS h 6 c with
  | some k,some (m,ca),some (q,cc)=>match attP ca,Jt (Aff h n) q cc with
   | some al,some ch=>match Nat.beq al.length m with
    | true=>some (.nd k tg ky tx al ch)
    | false=>none
   | _,_=>none
  | _,_,_=>none
 | _,_=>none
theorem Ajn {h:H} {sz n:Nat} {v:AV} {cs:List AV} (e:arrS h sz v=some (n,cs)):Arr (fun i=>h.m.get i) sz v n cs:=by
 unfold arrS at e;split at e
 ·cases e;exact Or.inl ⟨rfl,rfl,rfl⟩
 ·split at e
  ·rename_i z D;cases e;exact Or.inr ⟨_,_,Or.inl ⟨_,Nat.le_of_ble_eq_true z,rfl⟩,D⟩
  ·cases e
 ·split at e
  ·rename_i D;cases e;exact Or.inr ⟨_,_,Or.inr ⟨_,rfl⟩,D⟩
  ·cases e
 ·cases e
theorem Ajl:∀ {cs:List AV} {al:List (List UInt8 × List UInt8)},attP cs=some al→cs=Ax al
 | [],al,e=>by
  have:al=[]:=(Option.some.inj (show some []=some al from e)).symm;subst this;rfl
 | x::l,al,e=>by
  unfold attP at e;split at e
  ·rename_i h0;cases h0
  ·rename_i a b l' h0;cases h0;split at e
   ·rename_i r hr;cases e;rw [Ajl hr];rfl
   ·cases e
  ·cases e
theorem Aal {G:Fz} {g:List AV→Option T} (hg:∀ x t,g x=some t→RT G t x):∀ {n:Nat} {cs:List AV} {l:List T},Jt g n cs=some l→RTs G l cs∧l.length=n
 | 0,[],l,e=>by
  have:l=[]:=(Option.some.inj (show some []=some l from e)).symm;subst this;exact ⟨rfl,rfl⟩
 | 0,_::_,l,e=>by simp [Jt] at e
 | n+1,a::b::c::d::e'::f::r,l,e=>by
  have e:(match g [a,b,c,d,e',f],Jt g n r with | some t,some l=>some (t::l) | _,_=>none)=some l:=e;split at e
  ·rename_i t l' ht hl;cases e;obtain ⟨h1,h2⟩:=Aal hg hl;exact ⟨⟨[a,b,c,d,e',f],r,rfl,hg _ _ ht,h1⟩,by rw [List.length_cons,h2]⟩
  ·cases e
 | n+1,[],l,e=>by simp [Jt] at e
 | n+1,[_],l,e=>by simp [Jt] at e
 | n+1,[_,_],l,e=>by simp [Jt] at e
 | n+1,[_,_,_],l,e=>by simp [Jt] at e
 | n+1,[_,_,_,_],l,e=>by simp [Jt] at e
 | n+1,[_,_,_,_,_],l,e=>by simp [Jt] at e
theorem Zg {h:H}:∀ {n:Nat} {x:List AV} {t:T},Aff h n x=some t→RT (fun i=>h.m.get i) t x
 | 0,x,t,e=>by cases e
 | n+1,x,t,e=>by
  unfold Aff at e;split at e
  ·rename_i h0;cases h0
  ·rename_i n' kd tg ky a tx c h0;cases h0;split at e
   ·rename_i k m ca q cc hk ha hc;split at e
    ·rename_i al ch hal hch;split at e
     ·rename_i hm;cases e;have hm:al.length=m:=Nat.eq_of_beq_eq_true hm;have hk:kd=(k:Int):=by
       cases kd with
       | ofNat z=>cases hk;rfl
       | negSucc=>cases hk
      obtain ⟨h1,h2⟩:=Aal (fun x t=>Zg) hch;subst hk;exact ⟨a,c,cc,rfl,by rw [hm,← Ajl hal];exact Ajn ha,by rw [h2];exact Ajn hc,h1⟩
     ·cases e
    ·cases e
   ·cases e
  ·cases e
noncomputable def xCnt (vs:List AV) (h:H):Option (AV × H):=match vs with
 | [.agg x]=>match Aff h 20 x with
  | some t=>some (.int .i64 (Iu t:Int),h)
  | none=>none
 | _=>none
theorem ent20:Y.Ent Tryz.prog 20:=.mk' Tryz.func20 rfl rfl
theorem xCnt_ok {w0:World} {G:Y.Ghost} {vs:List AV} {h h':H} {v:AV} (z:xCnt vs h=some (v,h')) (ρ:Nm) (J:List Y.Res) (w:World) (us:List Value) (hv:VRs ρ vs us) (E:HR ρ w0 G J h w) (I:Bt ρ h.nx) :
  Calls Tryz.prog 20 us.toArray w fun x w'=>∃ u,x=.returned u∧∃ ρ',Aft ρ ρ' h.nx h'.nx∧HR ρ' w0 G J h' w'∧VR ρ' v u:=by
 unfold xCnt at z;split at z
 ·rename_i x;split at z
  ·rename_i t ht;cases z;have D:h.Ok:=fun i O=>by
    cases hg:h.m.get i with
    | none=>rfl
    | some k =>
     obtain ⟨b,c,r,U,_⟩:=E.sup i k hg;rw [I i O] at U;cases U
   obtain ⟨v,h1,e,rfl,g⟩:=count (G:=fun i=>h.m.get i) ⟨D,fun i b hb=>hb⟩ (Zg ht);refine Calls.mono (Abc.calls ent20 e hv E I) fun x w' z=>?_;obtain ⟨u,rfl,ρ',q1,q2,q3⟩:=z;refine ⟨u,rfl,ρ,.refl I,?_,q3⟩;have Z:HR ρ' w0 G J h w':=q2.sub (nx:=h.nx) (m':=h.m) (List.range' h.nx (h1.nx - h.nx)) fun i=>by
    by_cases O:i < h.nx
    ·rw [if_neg (by rw [List.mem_range'_1];omega),g.same i O (fun h=>h)]
    ·rw [D i tM];split
     ·rfl
     ·rename_i hm;rw [List.mem_range'_1] at hm;exact (g.st.1 i (by have:=g.nx;omega)).symm
   exact Z.back (q1.le I) E.sup
  ·cases z
 ·cases z
def Ary (i:Nat) (a:AV):Bool:=match a with
 | .raw (.pointer none)=>true
 | .ptr j 0=>Nat.beq i j
 | _=>false
noncomputable def wrN (h:H) (m:Tr Blk) (i:Nat) (x l:List UInt8):Option (AV × H) :=
 some (.tup [.int .i64 (x.length:Int),.raw .nilIface],⟨(m.set i (.cells [.ptr i 0,.sr h.nx 0 0 l.length] 169)).set h.nx (.row (u8C l) l.length 5 1),h.nx+1⟩)
noncomputable def bufQ (h:H) (i j n:Nat):Option (List UInt8):=match h.m.get j,Nat.beq i j with
 | some (.row cs k 5 1),false=>match I1 cs,Nat.beq k n && Nat.ble n 1000000000 with
  | some l,true=>some l
  | _,_=>none
 | _,_=>none
noncomputable def xWr (vs:List AV) (h:H):Option (AV × H):=match vs with
 | [.ptr i 0,.str x]=>match h.m.get i with
  | some (.cells [a,s] 169)=>match Ary i a && Nat.ble x.length 1000000000 with
   | true=>match s with
    | .raw (.slice none 0 0)=>match x with
     | []=>some (.tup [.int .i64 0,.raw .nilIface],⟨h.m.set i (.cells [.ptr i 0,.raw (.slice none 0 0)] 169),h.nx⟩)
     | _=>wrN h h.m i x x
    | .sr j 0 0 (n+1)=>match bufQ h i j (n+1) with
     | some l=>wrN h (h.m.del j) i x (l++x)
     | none=>none
    | _=>none
   | false=>none
  | _=>none
 | _=>none
noncomputable def xStr (vs:List AV) (h:H):Option (AV × H):=match vs with
 | [.ptr i 0]=>match h.m.get i with
  | some (.cells [a,s] 169)=>match s with
   | .raw (.slice none 0 0)=>some (.str [],⟨h.m.del i,h.nx⟩)
   | .sr j 0 0 (n+1)=>match bufQ h i j (n+1) with
    | some l=>some (.str l,⟨(h.m.del j).del i,h.nx⟩)
    | none=>none
   | _=>none
  | _=>none
 | _=>none
noncomputable def Aeg (f:Nat) (vs:List AV) (h:H):Option (Option (AV × H)):=match f with
 | 20=>some (xCnt vs h)
 | 140=>some (xQuo vs h)
 | 139=>some (xWr vs h)
 | 86=>some (xStr vs h)
 | 7=>none
 | _=>Aww f vs h
section
variable {w0 w:World} {G:Y.Ghost} {Lf:List Y.Res} {ρ:Nm} {h:H} {i j:Nat} {ki kj:Blk}
theorem HR.pull1 (E:HR ρ w0 G Lf h w) (hi:h.m.get i=some ki):∃ O bi I z,ρ i=some (bi,I)∧BR ρ bi I ki O∧Dh ρ (h.m.del i) z∧Y.Mem w0 G (O::(z++Lf)) w:=by
 obtain ⟨L,hc,M⟩:=E;obtain ⟨q,r,b,c,J,U,Z,_,h5⟩:=hc.at hi;have D:=M.perm (Y.perm_front _ q r (Cb J));rw [List.eraseIdx_append_of_lt_length (Y.lt_of_get J)] at D;exact ⟨r,b,c,_,U,Z,h5,D⟩
theorem HR.pull2 (E:HR ρ w0 G Lf h w) (hi:h.m.get i=some ki) (hj:h.m.get j=some kj) (hn:i≠j):∃ z bi D rj U Z J,ρ i=some (bi,D)∧BR ρ bi D ki z∧ρ j=some (U,Z)∧BR ρ U Z kj rj∧Dh ρ ((h.m.del i).del j) J∧Y.Mem w0 G (z::rj::(J++Lf)) w:=by
 obtain ⟨z,bi,D,L1,h2,h3,h5,M2⟩:=E.pull1 hi;have I:(h.m.del i).get j=some kj:=by rw [Tr.get_del,if_neg (fun e=>hn e.symm)];exact hj
 obtain ⟨q,r,b,c,g1,g2,g3,_,g5⟩:=h5.at I;have O:=M2.perm ((Y.perm_front _ q r (Cb (r:=Lf) g1)).cons z);rw [List.eraseIdx_append_of_lt_length (Y.lt_of_get g1)] at O;exact ⟨z,bi,D,r,b,c,_,h2,h3,g2,g3,g5,O⟩
end
theorem Zj:∀ {cs:List AV} {l:List UInt8},I1 cs=some l→cs=u8C l
 | [],l,e=>by
  have:l=[]:=(Option.some.inj (show some []=some l from e)).symm;subst this;rfl
 | x::cs,l,e=>by
  unfold I1 at e;split at e
  ·rename_i h0;cases h0
  ·rename_i n l' h0;cases h0;split at e
   ·rename_i s hn hs;cases e;have hn:=Nat.le_of_ble_eq_true hn;rw [Zj hs];show _=AV.int .u8 ((UInt8.ofNat n).toNat:Int)::u8C s;rw [UInt8.toNat_ofNat',Nat.mod_eq_of_lt tM];rfl
   ·cases e
  ·cases e
theorem Abx {ρ:Nm}:∀ {l:List UInt8} {vs:List Value},VRs ρ (u8C l) vs→vs=Y.bc l
 | [],vs,e=>e
 | b::l,vs,⟨v,r,e1,e2,e3⟩=>by
  have e2:v=.int .u8 (b.toNat:Int):=e2;rw [e1,e2,Abx e3];rfl
theorem u8C_r (ρ:Nm):∀ l:List UInt8,VRs ρ (u8C l) (Y.bc l)
 | []=>rfl
 | b::l=>⟨_,_,rfl,rfl,u8C_r ρ l⟩
theorem Ajh {h:H} {i j n:Nat} {l:List UInt8} (e:bufQ h i j n=some l):i≠j∧h.m.get j=some (.row (u8C l) n 5 1)∧n≤1000000000:=by
 unfold bufQ at e;split at e
 ·rename_i cs k I D;split at e
  ·rename_i l' hs z;cases e;simp only [Bool.and_eq_true] at z;have E:=Nat.eq_of_beq_eq_true z.1;subst E;exact ⟨fun e=>(by rw [e,Nat.beq_refl] at D;cases D),by rw [I,Zj hs],Nat.le_of_ble_eq_true z.2⟩
  ·cases e
 ·cases e
theorem ent86:Y.Ent Tryz.prog 86:=.mk' Tryz.func86 rfl rfl
theorem Afr {w0:World} {G:Y.Ghost} {L:List Y.Res} {Φ:Value→Prop} {x:Ending} {w:World} (h:Y.RetS w0 G L Φ x w):∃ v,x=.returned v∧Y.Mem w0 G L w∧Φ v:=by
 cases x with
 | returned v=>exact ⟨v,rfl,h.1,h.2⟩
 | _=>exact h.elim
theorem xStr_ok {w0:World} {G:Y.Ghost} {vs:List AV} {h h':H} {v:AV} (D:xStr vs h=some (v,h')) (ρ:Nm) (O:List Y.Res) (w:World) (us:List Value) (hv:VRs ρ vs us) (E:HR ρ w0 G O h w) (hn:Bt ρ h.nx) :
  Calls Tryz.prog 86 us.toArray w fun x w'=>∃ u,x=.returned u∧∃ ρ',Aft ρ ρ' h.nx h'.nx∧HR ρ' w0 G O h' w'∧VR ρ' v u:=by
 unfold xStr at D;split at D
 ·rename_i i;obtain ⟨u,r,rfl,⟨bi,ci,hρ,rfl⟩,rfl⟩:=hv;split at D
  ·rename_i a s hi;split at D
   ·cases D;obtain ⟨ri,b,c,J,I,⟨vs,Z,rfl⟩,hc,M⟩:=E.pull1 hi;rw [hρ] at I;cases I;obtain ⟨va,r1,rfl,ha,vb,r2,rfl,⟨rfl,_⟩,rfl⟩:=Z;have M2:Y.Mem w0 G (.blk bi [va,.slice none 0 0] 169::.row (.slice none 0 0) 0 (Y.bc []) 5 1::(J++O)) w:=(M.nilrow 5 1).perm (List.Perm.swap _ _ _);refine Calls.mono (Um M2 rfl (fun _=>rfl)) fun x w' D=>?_;obtain ⟨v,rfl,U,rfl⟩:=Afr D;exact ⟨_,rfl,ρ,.refl hn,⟨J,hc,U⟩,rfl⟩
   ·rename_i j n;split at D
    ·rename_i l hl;cases D;obtain ⟨aa,hj,ae⟩:=Ajh hl;obtain ⟨ri,b,c,rj,bj,cj,J,I,⟨vs,Z,rfl⟩,e3,⟨af,e4,rfl⟩,hc,M⟩:=E.pull2 hi hj aa;rw [hρ] at I;cases I;obtain ⟨va,r1,rfl,ha,vb,r2,rfl,⟨ab,ac,e5,_,rfl⟩,rfl⟩:=Z;rw [e3] at e5;cases e5;rw [Abx e4] at M;obtain ⟨_,_,_,_,_,z⟩:=M.row_shape (k:=1) rfl;have z:n+1=l.length:=by rw [Y.bc_len] at z;omega
     refine Calls.mono (Um (ad:=some ⟨bj,0,none⟩) (n:=n+1) (c:=cj) M z (fun e=>by rw [e] at z;cases z)) fun x w' D=>?_;obtain ⟨v,rfl,U,rfl⟩:=Afr D;refine ⟨_,rfl,ρ,.refl hn,⟨J,hc.ext fun x=>?_,U⟩,rfl⟩;rw [Tr.get_del,Tr.get_del,Tr.get_del,Tr.get_del]
     by_cases h1:x=i
     ·simp [h1]
     ·by_cases h2:x=j <;> simp [h1,h2]
    ·cases D
   ·cases D
  ·cases D
 ·cases D
theorem Vb {w0:World} {G:Y.Ghost} {Φ:List Y.Res→Value→Prop} {x:Ending} {w:World} (h:Y.RetL w0 G Φ x w):∃ v L,x=.returned v∧Y.Mem w0 G L w∧Φ L v:=by
 cases x with
 | returned v=>obtain ⟨L,z,D⟩:=h;exact ⟨v,L,rfl,z,D⟩
 | _=>exact h.elim
theorem Zs {ρ:Nm} {i bi E:Nat} {a:AV} {p:Value} (hs:Ary i a=true) (J:ρ i=some (bi,E)) (D:VR ρ a p):p=.pointer none∨p=.pointer (some ⟨bi,0,none⟩):=by
 unfold Ary at hs;split at hs
 ·exact Or.inl D.1
 ·have:=Nat.eq_of_beq_eq_true hs;subst this;obtain ⟨b,c,z,I⟩:=D;rw [J] at z;cases z;exact Or.inr I
 ·cases hs
theorem Aqi {w0:World} {G:Y.Ghost} {O D:List Y.Res} {ρ:Nm} {h:H} {w:World} {i bi E:Nat} {m m0:Tr Blk} {U:Option Addr} {n' c':Nat} {l:List UInt8} (Z:Bt ρ h.nx) (hρ:ρ i=some (bi,E)) (aa:i < h.nx) (hc:Dh ρ m0 D) (I:m0.get i=none) (J:m0.get h.nx=none) (hm:∀ x,x≠i→m.get x=m0.get x)
  (M:Y.Mem w0 G (.blk bi [.pointer (some ⟨bi,0,none⟩),.slice U n' c'] 169::.row (.slice U n' c') n' (Y.bc l) 5 1::(D++O)) w) (hl:n' = l.length) (h0:0 < l.length) :
  ∃ ρ',Aft ρ ρ' h.nx (h.nx+1)∧HR ρ' w0 G O ⟨(m.set i (.cells [.ptr i 0,.sr h.nx 0 0 l.length] 169)).set h.nx (.row (u8C l) l.length 5 1),h.nx+1⟩ w:=by
 subst hl;obtain ⟨gb,rfl⟩:=M.row_some (k:=1) rfl h0;obtain ⟨a2,c2,he,ab,_,_⟩:=M.row_shape (k:=1) rfl;cases he;have z:Le ρ (up ρ h.nx (gb,c')):=K6 (Z _ (Nat.le_refl _));refine ⟨up ρ h.nx (gb,c'),⟨Nat.le_succ _,fun x hx=>up_ne tM,fun x hx=>by rw [up_ne tM];exact Z x tM⟩,?_⟩;have C1:Dh (up ρ h.nx (gb,c')) (m0.set h.nx (.row (u8C l) l.length 5 1)) (.row (.slice (some ⟨gb,0,none⟩) l.length c') l.length (Y.bc l) 5 1::D):=(hc.mono z).cons J Hv ⟨_,u8C_r _ l,rfl⟩;have C2:=C1.cons (i:=i) (k:=.cells [.ptr i 0,.sr h.nx 0 0 l.length] 169) (r:=.blk bi [.pointer (some ⟨bi,0,none⟩),.slice (some ⟨gb,0,none⟩) l.length c'] 169) (b:=bi) (c:=E) (by rw [Tr.get_set,if_neg tM];exact I) (z _ _ hρ) ⟨_,⟨_,_,rfl,⟨bi,E,z _ _ hρ,rfl⟩,_,_,rfl,⟨gb,c',Hv,tM,rfl⟩,rfl⟩,rfl⟩;refine ⟨_,C2.ext fun x=>?_,M⟩;rw [Tr.get_set,Tr.get_set,Tr.get_set,Tr.get_set]
 by_cases h1:x=h.nx
 ·rw [if_pos h1,if_pos h1,if_neg tM]
 ·rw [if_neg h1,if_neg h1]
  by_cases h2:x=i
  ·rw [if_pos h2,if_pos h2]
  ·rw [if_neg h2,if_neg h2];exact hm x h2
theorem ent139:Y.Ent Tryz.prog 139:=.mk' Tryz.func139 rfl rfl
theorem xWr_ok {w0:World} {G:Y.Ghost} {vs:List AV} {h h':H} {v:AV} (D:xWr vs h=some (v,h')) (ρ:Nm) (Lf:List Y.Res) (w:World) (us:List Value) (hv:VRs ρ vs us) (E:HR ρ w0 G Lf h w) (hn:Bt ρ h.nx) :
  Calls Tryz.prog 139 us.toArray w fun x w'=>∃ u,x=.returned u∧∃ ρ',Aft ρ ρ' h.nx h'.nx∧HR ρ' w0 G Lf h' w'∧VR ρ' v u:=by
 unfold xWr at D;split at D
 ·rename_i i x;obtain ⟨u,r,rfl,⟨bi,ci,Z,rfl⟩,u2,r2,rfl,rfl,rfl⟩:=hv;split at D
  ·rename_i a s hi;have ab:=E.lt hn hi;have ac:h.m.get h.nx=none:=by
    cases hg:h.m.get h.nx with
    | none=>rfl
    | some k=>exact absurd (E.lt hn hg) (Nat.lt_irrefl _)
   have aa:∀ (ρ':Nm) (z:Nat),VR ρ' (.tup [.int .i64 (z:Int),.raw .nilIface]) (.tuple #[.int .i64 (z:Int),.nilIface]):=fun ρ' z=>⟨_,⟨_,_,rfl,rfl,_,_,rfl,⟨rfl,rfl⟩,rfl⟩,rfl⟩;split at D
   ·rename_i hg;simp only [Bool.and_eq_true] at hg;obtain ⟨O,ae⟩:=hg;have ae:=Nat.le_of_ble_eq_true ae;split at D
    ·obtain ⟨ri,b,c,L2,e1,⟨vs,e2,rfl⟩,hc,M⟩:=E.pull1 hi;rw [Z] at e1;cases e1;obtain ⟨va,r1,rfl,ha,vb,r2,rfl,⟨rfl,_⟩,rfl⟩:=e2;have M2:Y.Mem w0 G (.blk bi [va,.slice none 0 0] 169::.row (.slice none 0 0) 0 (Y.bc []) 5 1::(L2++Lf)) w:=(M.nilrow 5 1).perm (List.Perm.swap _ _ _);have key:=Si (s:=x) (Zs O Z ha) M2 rfl (fun _=>rfl) (by simp;omega);split at D
     ·cases D;refine Calls.mono key fun y w' hy=>?_;obtain ⟨v,L',rfl,M',rfl,a',n',c',rfl,U,J⟩:=Vb hy;have af:=J rfl;subst af;obtain ⟨_,e3,e4,_⟩:=M'.row_none (k:=1) rfl rfl;subst e3 e4;refine ⟨_,rfl,ρ,.refl hn,⟨.blk bi [.pointer (some ⟨bi,0,none⟩),.slice none 0 0] 169::L2,?_,M'.weaken ((List.sublist_cons_self _ _).cons_cons _)⟩,aa _ 0⟩;have C2:=hc.cons (i:=i) (k:=.cells [.ptr i 0,.raw (.slice none 0 0)] 169) (r:=.blk bi [.pointer (some ⟨bi,0,none⟩),.slice none 0 0] 169) (b:=bi) (c:=ci) (by rw [Tr.get_del,if_pos rfl]) Z ⟨_,⟨_,_,rfl,⟨bi,ci,Z,rfl⟩,_,_,rfl,⟨rfl,rfl⟩,rfl⟩,rfl⟩;exact C2.ext fun x=>by
       rw [Tr.get_set,Tr.get_set,Tr.get_del]
       by_cases h2:x=i <;> simp [h2]
     ·rename_i ah;unfold wrN at D;cases D;have h0:0 < x.length:=by
       cases x with
       | nil=>exact absurd rfl ah
       | cons=>simp
      refine Calls.mono key fun y w' hy=>?_;obtain ⟨v,L',rfl,M',rfl,a',n',c',rfl,U,J⟩:=Vb hy;obtain ⟨ρ',q1,q2⟩:=Aqi (m:=h.m) (m0:=h.m.del i) hn Z ab hc (by rw [Tr.get_del,if_pos rfl]) (by rw [Tr.get_del];split <;> first | rfl | exact ac) (fun x D=>by rw [Tr.get_del,if_neg D]) M' U h0;exact ⟨_,rfl,ρ',q1,q2,aa _ _⟩
    ·rename_i j n;split at D
     ·rename_i l hl;unfold wrN at D;cases D;obtain ⟨ag,hj,ak⟩:=Ajh hl;obtain ⟨ri,b,c,rj,bj,cj,L2,e1,⟨vs,e2,rfl⟩,e3,⟨am,e4,rfl⟩,hc,M⟩:=E.pull2 hi hj ag;rw [Z] at e1;cases e1;obtain ⟨va,r1,rfl,ha,vb,r2,rfl,⟨ai,aj,e5,_,rfl⟩,rfl⟩:=e2;rw [e3] at e5;cases e5;rw [Abx e4] at M;obtain ⟨_,_,_,_,_,I⟩:=M.row_shape (k:=1) rfl;have I:n+1=l.length:=by rw [Y.bc_len] at I;omega
      have key:=Si (s:=x) (ad:=some ⟨bj,0,none⟩) (n:=n+1) (c:=cj) (Zs O Z ha) M I (fun e=>by rw [e] at I;cases I) tM;refine Calls.mono key fun y w' hy=>?_;obtain ⟨v,L',rfl,M',rfl,a',n',c',rfl,U,J⟩:=Vb hy;obtain ⟨ρ',q1,q2⟩:=Aqi (m:=h.m.del j) (m0:=(h.m.del i).del j) hn Z ab hc (by rw [Tr.get_del];split <;> first | rfl | (rw [Tr.get_del,if_pos rfl])) (by rw [Tr.get_del];split <;> first | rfl | (rw [Tr.get_del];split <;> first | rfl | exact ac)) (fun x D=>by rw [Tr.get_del,Tr.get_del,Tr.get_del,if_neg D]) M' U (by rw [List.length_append];omega);exact ⟨_,rfl,ρ',q1,q2,aa _ _⟩
     ·cases D
    ·cases D
   ·cases D
  ·cases D
 ·cases D
theorem ext2_ok {C:Ctx} (E:C.ext=Aeg) {w0:World} {G:Y.Ghost}:Abr Tryz.prog w0 G C:=fun f vs h v h' z=>by
 have z:(match Aeg f vs h with | some r=>r | none=>none)=some (v,h'):=by rw [← E];exact z
 unfold Aeg at z;split at z
 ·rename_i r D;split at D
  ·cases D;exact Or.inl ⟨ent20,xCnt_ok z⟩
  ·cases D;exact Or.inl ⟨ent140,xQuo_ok z⟩
  ·cases D;exact Or.inl ⟨ent139,xWr_ok z⟩
  ·cases D;exact Or.inl ⟨ent86,xStr_ok z⟩
  ·cases D
  ·exact Axq f vs h v h' (by show (match Aww f vs h with | some r=>r | none=>none)=_;rw [D];exact z)
 ·cases z
theorem ent7:Y.Ent Tryz.prog 7:=.mk' Tryz.func7 rfl rfl
theorem live_of {F:Bj} (Y:∀ w0 G,Cx Tryz.prog w0 G F) {U:H} (hr:F 7 [] ⟨.lf,0⟩=some (.bool true,U)):LiveP:=fun w0 G f vs h v h' z=>by
 unfold Awa at z;split at z
 ·cases z;refine Or.inl ⟨ent7,fun ρ J w us D E hn=>?_⟩;have D:us=[]:=D;subst D;obtain ⟨L,Z,M⟩:=E;have I:HR (fun _=>none) w0 G (L++J) ⟨.lf,0⟩ w:=⟨[],Dh.lf,M⟩;refine Calls.mono ((Y w0 G).calls ent7 hr (us:=[]) rfl I (fun _ _=>rfl)) fun x w' z=>?_;obtain ⟨u,rfl,ρ',q1,⟨L',aa,O⟩,q3⟩:=z;exact ⟨u,rfl,ρ,.refl hn,⟨L,Z,O.weaken (List.sublist_append_right _ _)⟩,q3⟩
 ·cases z
open Go Go.Proofs
noncomputable def Aeo:Ctx:={ Yu Tryz.prog Aeg with eqa:=eqA }
theorem cok2:COK Tryz.prog Aeo:=⟨(Yw (p:=Tryz.prog) (ext:=Aeg)).ty,(Yw (p:=Tryz.prog) (ext:=Aeg)).flat,Axe⟩
theorem fok2:FOK Tryz.prog Aeo:=⟨(fokP (p:=Tryz.prog) (ext:=Aeg)).fn⟩
theorem bok2:BOK Aeo:=⟨rfl,rfl,kR,kR,kR⟩
theorem evF2_ok (n:Nat):∀ w0 G,Cx Tryz.prog w0 G (evF Aeo n):=fun w0 G=>Aej cok2 fok2 (ext2_ok rfl) rfl (fun F D z=>Auo cok2 bok2 z) n
def okB:Option (AV × H)→Bool
 | some (.bool b,_)=>b
 | _=>false
theorem live_if (h:okB (evF Aeo 1000 7 [] ⟨.lf,0⟩)=true):LiveP:=by
 cases hr:evF Aeo 1000 7 [] ⟨.lf,0⟩ with
 | none=>rw [hr] at h;cases h
 | some r =>
  obtain ⟨v,z⟩:=r;rw [hr] at h;cases v with
  | bool b=>cases b with
   | true=>exact live_of (evF2_ok 1000) hr
   | false=>cases h
  | _=>cases h
end Go.V
