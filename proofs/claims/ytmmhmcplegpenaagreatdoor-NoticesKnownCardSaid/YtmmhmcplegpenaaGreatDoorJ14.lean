/- Own lemmas and walks. -/
import Derived.Shelf.Strconv.AtoiAll
import Derived.Test.YtmmhmcplegpenaaGreatDoorJ1
import Derived.Test.YtmmhmcplegpenaaGreatDoorJ13
import Derived.Test.YtmmhmcplegpenaaGreatDoorJ2
import Derived.Test.YtmmhmcplegpenaaGreatDoorJ11
set_option linter.unusedSimpArgs false
set_option linter.unusedVariables false
set_option maxRecDepth 10000
set_option maxHeartbeats 1600000
open Go.Value renaming slice→vS,string→vT,int→vI,bool→vB,pointer→vP
open Go.IntKind renaming i64→kI,u64→kU
open Go.Lib renaming cut→xC
open Go.Proofs.Tryz renaming prog→pG
open Go.Y.Res renaming blk→rB,row→rR
open Go.Y (pP qT iI iB iU sN)
open List renaming length_append→lA,length_cons→lC,length_nil→lN,length_take→lT,length_drop→lD,mem_of_getElem?→mG,mem_cons→mC,length_map→lM
namespace Go.Proofs
open Go.Shelf
def Tryz.laysC172_ren:Go.Shelf.Ren:=⟨fun | 172=>136 | 244=>167 | 245=>147 | 247=>195 | 279=>177 | 280=>178 | 281=>179 | 282=>180 | 287=>146 | 316=>206 | 171=>83 | 205=>207 | 321=>175 | 322=>176 | 243=>133 | 246=>166 | 283=>170 | 284=>171 | 285=>172 | 286=>173 | 129=>198 | 317=>197 | 318=>199 | 319=>200 | 320=>201 | 337=>222 | 338=>223 | n=>n,fun | 9=>9 | 3=>3 | 75=>103 | 76=>104 | 4=>4 | 5=>5 | 167=>250 | 37=>32 | 0=>0 | 85=>265 | 2=>2 | 168=>253 | 53=>23 | 175=>178 | 46=>252 | 210=>277 | 127=>174 | 145=>296 | 143=>294 | 21=>21 | 171=>244 | 173=>247 | 212=>269 | 51=>270 | 20=>20 | 213=>271 | 232=>307 | 233=>308 | 80=>107 | n=>n,fun | 15=>2 | 16=>3 | 17=>0 | 18=>4 | 19=>5 | n=>n⟩
theorem Tryz.laysC172:Go.Proofs.LaysC.n172 pG Tryz.laysC172_ren:={
 mixed:=by kernel_rfl
 f129:=Tryz.func198.trans (congrArg some Y.kR)
 f171:=Tryz.func83.trans (congrArg some Y.kR)
 f172:=Tryz.func136.trans (congrArg some Y.kR)
 f205:=Tryz.func207.trans (congrArg some Y.kR)
 f243:=Tryz.func133.trans (congrArg some Y.kR)
 f244:=Tryz.func167.trans (congrArg some Y.kR)
 f245:=Tryz.func147.trans (congrArg some Y.kR)
 f246:=Tryz.func166.trans (congrArg some Y.kR)
 f247:=Tryz.func195.trans (congrArg some Y.kR)
 f279:=Tryz.func177.trans (congrArg some Y.kR)
 f280:=Tryz.func178.trans (congrArg some Y.kR)
 f281:=Tryz.func179.trans (congrArg some Y.kR)
 f282:=Tryz.func180.trans (congrArg some Y.kR)
 f283:=Tryz.func170.trans (congrArg some Y.kR)
 f284:=Tryz.func171.trans (congrArg some Y.kR)
 f285:=Tryz.func172.trans (congrArg some Y.kR)
 f286:=Tryz.func173.trans (congrArg some Y.kR)
 f287:=Tryz.func146.trans (congrArg some Y.kR)
 f316:=Tryz.func206.trans (congrArg some Y.kR)
 f317:=Tryz.func197.trans (congrArg some Y.kR)
 f318:=Tryz.func199.trans (congrArg some Y.kR)
 f319:=Tryz.func200.trans (congrArg some Y.kR)
 f320:=Tryz.func201.trans (congrArg some Y.kR)
 f321:=Tryz.func175.trans (congrArg some Y.kR)
 f322:=Tryz.func176.trans (congrArg some Y.kR)
 f337:=Tryz.func222.trans (congrArg some Y.kR)
 f338:=Tryz.func223.trans (congrArg some Y.kR)
 t0:=Tryz.underlying0
 a0:=Tryz.isAgg0
 z0:=Tryz.sizeOf0
 v0:=Tryz.zeroValue0
 t2:=Tryz.underlying2
 a2:=Tryz.isAgg2
 z2:=Tryz.sizeOf2
 v2:=Tryz.zeroValue2
 t3:=Tryz.underlying3
 a3:=Tryz.isAgg3
 z3:=Tryz.sizeOf3
 v3:=Tryz.zeroValue3
 t4:=Tryz.underlying4
 a4:=Tryz.isAgg4
 z4:=Tryz.sizeOf4
 v4:=Tryz.zeroValue4
 t5:=Tryz.underlying5
 a5:=Tryz.isAgg5
 z5:=Tryz.sizeOf5
 v5:=Tryz.zeroValue5
 t9:=Tryz.underlying9
 a9:=Tryz.isAgg9
 z9:=Tryz.sizeOf9
 v9:=Tryz.zeroValue9
 t20:=Tryz.underlying20
 a20:=Tryz.isAgg20
 z20:=Tryz.sizeOf20
 v20:=Tryz.zeroValue20
 t21:=Tryz.underlying21
 a21:=Tryz.isAgg21
 z21:=Tryz.sizeOf21
 v21:=Tryz.zeroValue21
 t37:=Tryz.underlying32
 a37:=Tryz.isAgg32
 z37:=Tryz.sizeOf32
 v37:=Tryz.zeroValue32
 t46:=Tryz.underlying252
 a46:=Tryz.isAgg252
 z46:=Tryz.sizeOf252
 v46:=Tryz.zeroValue252
 t51:=Tryz.underlying270
 a51:=Tryz.isAgg270
 z51:=Tryz.sizeOf270
 v51:=Tryz.zeroValue270
 t53:=Tryz.underlying23
 a53:=Tryz.isAgg23
 z53:=Tryz.sizeOf23
 v53:=Tryz.zeroValue23
 t75:=Tryz.underlying103
 a75:=Tryz.isAgg103
 z75:=Tryz.sizeOf103
 v75:=Tryz.zeroValue103
 t76:=Tryz.underlying104
 a76:=Tryz.isAgg104
 z76:=Tryz.sizeOf104
 v76:=Tryz.zeroValue104
 t85:=Tryz.underlying265
 a85:=Tryz.isAgg265
 z85:=Tryz.sizeOf265
 v85:=Tryz.zeroValue265
 t127:=Tryz.underlying174
 a127:=Tryz.isAgg174
 z127:=Tryz.sizeOf174
 v127:=Tryz.zeroValue174
 t143:=Tryz.underlying294
 a143:=Tryz.isAgg294
 z143:=Tryz.sizeOf294
 v143:=Tryz.zeroValue294
 t145:=Tryz.underlying296
 a145:=Tryz.isAgg296
 z145:=Tryz.sizeOf296
 v145:=Tryz.zeroValue296
 t167:=Tryz.underlying250
 a167:=Tryz.isAgg250
 z167:=Tryz.sizeOf250
 v167:=Tryz.zeroValue250
 t168:=Tryz.underlying253
 a168:=Tryz.isAgg253
 z168:=Tryz.sizeOf253
 v168:=Tryz.zeroValue253
 t171:=Tryz.underlying244
 a171:=Tryz.isAgg244
 z171:=Tryz.sizeOf244
 v171:=Tryz.zeroValue244
 t173:=Tryz.underlying247
 a173:=Tryz.isAgg247
 z173:=Tryz.sizeOf247
 v173:=Tryz.zeroValue247
 t175:=Tryz.underlying178
 a175:=Tryz.isAgg178
 z175:=Tryz.sizeOf178
 v175:=Tryz.zeroValue178
 t210:=Tryz.underlying277
 a210:=Tryz.isAgg277
 z210:=Tryz.sizeOf277
 v210:=Tryz.zeroValue277
 t212:=Tryz.underlying269
 a212:=Tryz.isAgg269
 z212:=Tryz.sizeOf269
 v212:=Tryz.zeroValue269
 t213:=Tryz.underlying271
 a213:=Tryz.isAgg271
 z213:=Tryz.sizeOf271
 t232:=Tryz.underlying307
 a232:=Tryz.isAgg307
 z232:=Tryz.sizeOf307
 v232:=Tryz.zeroValue307
 t233:=Tryz.underlying308
 a233:=Tryz.isAgg308
 z233:=Tryz.sizeOf308
 v233:=Tryz.zeroValue308
 g15:=by kernel_rfl
 g16:=by kernel_rfl
 g17:=by kernel_rfl
 g18:=by kernel_rfl
 g19:=by kernel_rfl
 t80:=Tryz.underlying107
 a80:=Tryz.isAgg107
 z80:=Tryz.sizeOf107
 v80:=Tryz.zeroValue107
 i0:=by kernel_rfl
 i2:=by kernel_rfl
 i3:=by kernel_rfl
 i4:=by kernel_rfl
 i5:=by kernel_rfl
 i9:=by kernel_rfl
 i20:=by kernel_rfl
 i21:=by kernel_rfl
 i37:=by kernel_rfl
 i46:=by kernel_rfl
 i51:=by kernel_rfl
 i53:=by kernel_rfl
 i75:=by kernel_rfl
 i76:=by kernel_rfl
 i80:=by kernel_rfl
 i85:=by kernel_rfl
 i127:=by kernel_rfl
 i143:=by kernel_rfl
 i145:=by kernel_rfl
 i167:=by kernel_rfl
 i168:=by kernel_rfl
 i171:=by kernel_rfl
 i173:=by kernel_rfl
 i175:=by kernel_rfl
 i210:=by kernel_rfl
 i212:=by kernel_rfl
 i232:=by kernel_rfl
 i233:=by kernel_rfl
 m15:=by kernel_rfl
 m16:=by kernel_rfl
 m17:=by kernel_rfl
 m18:=by kernel_rfl
 m19:=by kernel_rfl
 c0:=by kernel_rfl
 c2:=by kernel_rfl
 c3:=by kernel_rfl
 c4:=by kernel_rfl
 c5:=by kernel_rfl
 c9:=by kernel_rfl
 c20:=by kernel_rfl
 c21:=by kernel_rfl
 c37:=by kernel_rfl
 c46:=by kernel_rfl
 c51:=by kernel_rfl
 c53:=by kernel_rfl
 c75:=by kernel_rfl
 c76:=by kernel_rfl
 c80:=by kernel_rfl
 c85:=by kernel_rfl
 c127:=by kernel_rfl
 c143:=by kernel_rfl
 c145:=by kernel_rfl
 c167:=by kernel_rfl
 c168:=by kernel_rfl
 c171:=by kernel_rfl
 c173:=by kernel_rfl
 c175:=by kernel_rfl
 c210:=by kernel_rfl
 c212:=by kernel_rfl
 c213:=by kernel_rfl
 c232:=by kernel_rfl
 c233:=by kernel_rfl }
end Go.Proofs
namespace Go.Proofs.YtmmhmcplegpenaaGreatDoor
open Go Go.Y Go.Proofs
variable {w0 w:World} {G:Av} {L:List Res}
theorem Z8 {w0 w:World} {G:Av} {L:List Res} {b l:Nat} {c:List UInt8} (M:Mem w0 G (rB b [qT c,iI ((l:Nat):Int)] 155::L) w) (HG:Globs 0 1 2 3 G) (D:c.length≤1048576) (E:l≤9000000) :
  Calls pG 86 #[pP b] w (B5 w0 G (rB b [qT ((xC c [10]).2.1),iI ((((l+1):Nat):Int))] 155::L) fun v=>v=.tuple #[qT (xC c [10]).1,vB (xC c [10]).2.2]):=by
 refine Ap (vs:=[_]) Tryz.func86 rfl (n:=29) rfl rfl<|wk ?_;refine D0 Cj M 0 rfl rfl rfl rfl rfl rfl<|?_;clear M;intro w M
 refine wk ?_;refine A2 X6 rfl rfl (Oy (s:=c) (sep:=([10]:List UInt8)) M HG tM)<|?_;clear M;rintro _ w M rfl
 have A:=E8 10 c;refine wk ?_;refine D0 Dg M 0 rfl rfl rfl rfl rfl rfl<|?_;clear M;intro w M
 refine wk ?_;refine Co rfl rfl rfl<|?_
 exact ⟨M,rfl⟩
theorem Avj (M:Mem w0 G L w) (HG:Globs 0 1 2 3 G) {s:List UInt8} (U:s.length≤281474976710656) :
  Calls pG 136 #[qT s] w (B5 w0 G L fun v=>∃ (z:Int) (A:Value),v=.tuple #[iI z,A]∧(A=.nilIface∨∃ T S,A=.iface T S)∧((Lib.atoiAll s=.ok z∧Dw A=true)∨((∀ x,Lib.atoiAll s≠.ok x)∧Dw A=false))):=by
 have I:(str s).data.toList=s:=Fc s
 cases h:Lib.atoiAll s with
 | ok u =>
  refine (Any.strconv_Atoi_ok Tryz.laysC172 (str s) (by rw [Cl];omega) u (by rw [I];exact h) w).mono ?_;rintro e w' ⟨rfl,hw⟩;refine ⟨?_,u,_,rfl,Or.inl rfl,Or.inl ⟨rfl,rfl⟩⟩
  rcases hw with rfl | ⟨t,rfl⟩
  ·exact M
  ·exact M.bytesWorld _ _
 | range =>
  obtain ⟨ev,D,E⟩:=HG.rng;refine (Any.strconv_Atoi_range Tryz.laysC172 (str s) (by rw [Cl];omega) (by rw [I];exact h) ev w (M.cell D) E).mono ?_;rintro e w' ⟨N,rfl,_,_,H⟩
  exact ⟨M.below' H,_,_,rfl,Or.inr ⟨_,_,rfl⟩,Or.inr ⟨(fun x O=>by cases O),rfl⟩⟩
 | _ =>
  obtain ⟨ev,D,E⟩:=HG.syn;refine (Any.strconv_Atoi_syntax Tryz.laysC172 (str s) (by rw [Cl];omega) (by rw [I];exact h) ev w (M.cell D) E).mono ?_;rintro e w' ⟨N,rfl,_,_,H⟩
  exact ⟨M.below' H,_,_,rfl,Or.inr ⟨_,_,rfl⟩,Or.inr ⟨(fun x O=>by cases O),rfl⟩⟩
theorem Zj (s:List UInt8):(Lib.splitB (str [32]) 0 (Lib.countB (str s) (str [32])) (str s)).map Value.string=(Cy s).map (fun x=>Value.string (str x)):=by
 have h:=Lib.splitB_data (str [32]) 0 (Lib.countB (str s) (str [32])) (str s);rw [Fc,Fc] at h;have A:Lib.countB (str s) (str [32])=Lib.count s [32]:=by
  show Lib.count (str s).data.toList (str [32]).data.toList=_
  rw [Fc,Fc]
 rw [A] at h ⊢
 show _=(Lib.splitK [32] 0 (Lib.count s [32]) s).map _
 rw [← h,List.map_map]
 exact List.map_congr_left fun x _=>rfl
theorem Afa (M:Mem w0 G L w) (HG:Globs 0 1 2 3 G) {s:List UInt8} (V:s.length < 4294967281) :
  Calls pG 102 #[qT s,qT [32]] w (Ret w0 G L fun A v=>∃ a:Option Addr,v=vS a (Cy s).length (Cy s).length∧Aj Cr 1 A (vS a (Cy s).length (Cy s).length) (Cy s)):=by
 obtain ⟨m,U⟩:=HG.max;refine (Any.strings_Split Tryz.lays146 kR (str s) (str [32]) m w (by rw [Cl];exact V) (M.cell U) (by rw [Cl];decide)).mono ?_;rintro e w' ⟨rfl,rfl⟩;have O:(Cy s).length=Lib.countB (str s) (str [32])+1:=by
  have I:=Lib.splitB_all (str [32]) (by rw [Cl];decide) 0 _ (str s) rfl;rw [← I,← lM (f:=Value.string),Zj,lM]
 rw [Zj,← O];have D:=Lib.countB_le (str [32]) (by rw [Cl];decide) (str s).size (str s) (Nat.le_refl _);rw [Cl] at D;have T:(Cy s).length≤4294967281:=by omega
 have E:=M.newrow (t:=Tryz.lays146_ren.t 9) (sz:=1) (n:=(Cy s).length) (c:=(Cy s).length) (cs:=(Cy s).map fun x=>Value.string (str x)) (spare:=[])
  (by intro u Y;obtain ⟨x,_,rfl⟩:=List.mem_map.1 Y;rfl) (by simp) (by simp) (Nat.le_refl _) (by unfold maxLen;omega)
 rw [List.append_nil] at E;obtain ⟨_,A,a,c,N,he,S,H⟩:=E.fZ Au (k:=0) rfl (Hp (Cy s) (fun x hx=>by have:=Vq hx;omega)) tD
 exact ⟨A,N,H,_,rfl,S⟩
theorem n1_spec {w0 w:World} {G:Av} {L:List Res} {E:Nat} {nm:List UInt8} {k1 k2 k3 O:Bool} {I:Value} (aa:Value.oneCell' I=true) {D:Option Addr} {H:Nat} {A:List (List UInt8)} (S:Aj Cr 1 G (vS D A.length H) A) (M:Mem w0 G (rB E [vS D A.length H] 24::L) w) {W:List UInt8} (hW:A[0]?=some W) :
  Calls pG 135 #[.agg #[qT nm,vB k1,vB k2,vB k3,vB O,I],pP E] w (B5 w0 G (rB E [vS D A.length H] 24::L) fun v=>v=vB (decide (nm=W))):=by
 refine Ap (vs:=[_,_]) Tryz.func135 rfl (n:=10) rfl rfl<|?_
 refine Bt<|?_
 refine Ch M rfl rfl rfl<|?_;clear M;intro V w M
 refine wk ?_;refine fun a F=>Dv [(true,0),(true,1),(true,2),(true,3),(true,4),(true,5),(true,6)] (Keep G [rB V [qT nm,vB k1,vB k2,vB k3,vB O,I] 138,rB E [vS D A.length H] 24]) rfl kR kF (Aw (M.drew _)) ?_;replace M:=M.drew (w.drawn+1);revert a;refine wk ?_;obtain ⟨Y,ab,_,U,_,T,⟨rfl,N⟩⟩:=S.at hW;refine wk ?_
 generalize ({ w with drawn:=w.drawn+1 }:World)=w at M ⊢
 refine wk ?_;refine Af rfl rfl<|?_
 exact ⟨M.wn tW,rfl⟩
theorem To {w0 w:World} {G:Av} {L:List Res} {A D:Nat} {H:Option Addr} {I:Nat} {E:List (List UInt8)} (S:Aj Cr 1 G (vS H E.length I) E) (M:Mem w0 G (rB A Lu 139::rB D [vS H E.length I] 24::L) w) {W:List UInt8} (V:E[0]?=some W) :
  Calls pG 134 #[vS (some ⟨A,0,none⟩) 6 6,.func (.func 135) #[] #[pP D]] w (B5 w0 G (rB A Lu 139::rB D [vS H E.length I] 24::L) fun v=>∃ z:Int,v=iI z∧((z = -1∧∀ j,j < 6→Cb j≠W)∨∃ k:Nat,k < 6∧z=((k:Nat):Int)∧Cb k=W∧∀ j,j < k→Cb j≠W)):=by
 refine Ap (vs:=[_,_]) Tryz.func134 rfl (n:=19) rfl rfl<|wk ?_;refine fun a F=>Bd (fun m U w'=>∃ (i:Nat),m=6 - i∧Fits 19 U [(0,vS (some ⟨A,0,none⟩) 6 6),(1,.func (.func 135) #[] #[pP D]),(6,vS (some ⟨A,0,none⟩) 6 6),(7,iI ((6:Nat):Int)),(8,iI ((i:Nat):Int))]∧Mem w0 G (rB A Lu 139::rB D [vS H E.length I] 24::L) w'∧(i≤6)∧(∀ j,j < i→Cb j≠W)) _ ⟨0,rfl,fU,M,tM,fun j h=>by omega⟩ ?_;clear F M;rintro m a w ⟨i,rfl,F,M,hi,N⟩;revert a;refine wk ?_;refine qD rfl ?_ ?_
 ·intro Y;refine wk ?_;refine Ak (fun a F=>Fw (b:=A) (o:=0+i * 6) Avx.k C4 (F.ev rfl) (F.ev rfl) tM ⟨0,rfl,rfl,tM⟩) rfl<|Ak (fun a F=>Cv C4 rfl (F.ev rfl) (cs:=[qT (Cb i),vB (decide (uAt i)),vB (decide (uCo i)),vB (decide (uTo i)),vB (decide (uIt i)),kfn i]) rfl (M.cellsL (k:=0) rfl (Xe (k:=i) tM))) rfl<|?_
  replace M:=M.perm (Ah _ 1 _ rfl);replace M:=z_M M;refine Ajq ent135 (caps:=[pP D]) rfl rfl rfl (n1_spec (nm:=Cb i) (by unfold kfn;split <;> rfl) S M V)<|?_;clear M;rintro _ w M rfl
  refine Ao<|Gd<|?_
  refine qD rfl ?_ ?_
  ·intro h2;refine wk ?_;refine Af rfl rfl<|?_
   replace M:=M.perm (Ah _ 1 _ rfl);replace M:=z_M M
   exact ⟨M,_,rfl,Or.inr ⟨i,tM,rfl,tA,N⟩⟩
  intro h3;refine wk ?_;replace M:=M.perm (Ah _ 1 _ rfl);replace M:=z_M M;intro a F
  exact ⟨_,tM,i+1,rfl,fU,(M.wn tW),tM,fun j T=>by rcases Nat.lt_succ_iff_lt_or_eq.1 T with O | O;exact N j O;subst O;assumption⟩
 intro h4;refine wk ?_;refine Af rfl rfl<|?_
 replace M:=M.perm (Ah _ 1 _ rfl);replace M:=M.perm (Ah _ 1 _ rfl);replace M:=z_M M
 exact ⟨M,_,rfl,Or.inl ⟨rfl,fun j T=>N j tM⟩⟩
def NRes (b:Nat) (c:List UInt8) (l:Nat) (L:List Res) (G':Av) (L':List Res) (v:Value):Prop :=
  ∃ (k:Nat) (a1 c1 t1:Int) (ad:Option Addr) (ln cn:Nat) (ok:Bool) (c':List UInt8) (l':Nat),v=.tuple #[.agg #[iB ((k:Nat):Int),iI a1,iI c1,iI t1,vS ad ln cn],vB ok]∧L' = (rB b [qT c',iI ((l':Nat):Int)] 155::L)∧c'.length≤c.length∧l'≤l+1025 ∧
  ((ok=true∧∃ x sz ys,Head x sz∧okI ys∧((ys.length:Nat):Int)=sz∧c=Cm x sz++(Ce ys++c')∧l' = l+1+ys.length∧Ct G' [iB ((k:Nat):Int),iI a1,iI c1,iI t1,vS ad ln cn] { x with iZ:=ys }) ∨
   (ok=false∧((¬ H7 c∧l' = l+1)∨∃ x sz ys r,Head x sz∧okI ys∧((ys.length:Nat):Int) < sz∧l' = l+1+ys.length+1∧c=Cm x sz++(Ce ys++r)∧¬ O4 r)))
theorem Axo {ys:List ItemD} {y:ItemD} (h:okI ys) (D:ItemOk 8 y∧y.key < 18446744073709551616∧y.typ < 256):okI (ys++[y]):=by
 intro z A
 rcases List.mem_append.1 A with A | A
 ·exact h z A
 rw [List.mem_singleton.1 A];exact D
theorem Agj {w0 w:World} {G:Av} {L:List Res} {b l:Nat} {c:List UInt8} (M:Mem w0 G (rB b [qT c,iI ((l:Nat):Int)] 155::L) w) (HG:Globs 0 1 2 3 G) (cE:c.length≤1048576) (cF:l≤2000000) :
  Calls pG 85 #[.func (.func 86) #[pP b] #[]] w (I5 w0 G (NRes b c l L)):=by
 refine Ap (vs:=[_]) Tryz.func85 rfl (n:=133) rfl rfl<|?_
 refine Bt<|?_
 refine B0 M Ba rfl rfl<|?_;clear M;intro S w M
 refine wk ?_;replace M:=M.perm (Ah _ 1 _ rfl);replace M:=z_M M;intro a F;refine Afu F ent86 (first:=[pP b]) rfl rfl rfl (Z8 (c:=c) (l:=l) M HG tM tM) ?_;clear F M a;rintro _ w a M rfl F;have bp:=E8 10 c;revert a;refine wk ?_;refine C3 A1j rfl rfl (Afa (s:=(xC c [10]).1) M HG tM)<|?_;clear M;rintro _ ck w I M ⟨ah,rfl,Sp4⟩
 replace HG:=HG.mono I;refine B0 M Dx rfl rfl<|?_;clear M;intro b5 w M
 refine D0 Dx M 0 rfl rfl rfl rfl rfl rfl<|?_;clear M;intro w M
 refine wk ?_;refine A2 Sb rfl rfl (Gv M)<|?_;clear M;rintro _ w M rfl
 refine B0 M Ha rfl rfl<|?_;clear M;intro b7 w M
 intro a F;refine Zt F M Ha (k:=0) rfl rfl rfl (us:=Lu) rfl rfl (by simp [Lu,Value.oneCell']) (Nat.le_refl 36)<|sZ ?_;clear F M a;intro w M;refine wk ?_;obtain ⟨W,wr,Y,cd⟩:=Ua (xC c [10]).1;have hW:(Cy (xC c [10]).1)[0]?=some W:=by rw [Y];rfl
 have aK:=congrArg List.length Y;intro a F;rw [lC] at aK;revert a;refine wk ?_;refine Ak (fun a F=>Yu Ha.k C4 (F.ev rfl)) rfl<|Ak (fun a F=>Dh (vs:=#[pP b5]) (by simp only [List.map_toArray,List.map_cons,List.map_nil,F.ev (x:=.tmp 6) rfl])) rfl<|?_
 replace M:=M.perm (Ah _ 1 _ rfl);replace M:=M.perm (Ah _ 1 _ rfl);replace M:=z_M M;refine A2 ent134 rfl rfl (To Sp4 M hW)<|?_;clear M;rintro _ w M ⟨cP,rfl,ay⟩
 refine wk ?_
 rcases bE (!((xC c [10]).2.2)) with a5 | a6
 ·skip
  have cl:=Ad a5;have bP:((xC c [10]).2.2)=false:=(Ad a5);refine wk ?_;intro a F;refine Bf F M Ba 3<|sZ ?_;clear F M a;intro w M;refine wk ?_;refine fun a F=>B1 F M (k:=3) rfl rfl Ba rfl rfl rfl rfl ?_;replace M:=M.perm (Ah _ 2 _ rfl);replace M:=z_M M
  exact ⟨_,_,I,M.wn tW,0,0,0,0,none,0,0,false,_,_,rfl,rfl,tM,tM,Or.inr ⟨rfl,Or.inl ⟨W4 Y ay (by first | exact Or.inl tA | exact Or.inr tM),rfl⟩⟩⟩
 have cm:=Ae a6;have bQ:((xC c [10]).2.2)=true:=(Ae a6);refine wk ?_;refine qD rfl ?_ ?_
 ·intro cn;refine wk ?_;intro a F;refine Bf F M Ba 3<|sZ ?_;clear F M a;intro w M;refine wk ?_;refine fun a F=>B1 F M (k:=3) rfl rfl Ba rfl rfl rfl rfl ?_;replace M:=M.perm (Ah _ 2 _ rfl);replace M:=z_M M
  exact ⟨_,_,I,M.wn tW,0,0,0,0,none,0,0,false,_,_,rfl,rfl,tM,tM,Or.inr ⟨rfl,Or.inl ⟨W4 Y ay (by first | exact Or.inl tA | exact Or.inr tM),rfl⟩⟩⟩
 intro co;refine wk ?_;have b6:(xC c [10]).2.2=true:=by assumption
 obtain ⟨k,hk,b9,ap⟩:=Aug ay tA;subst b9;refine wk ?_;refine B0 M Cj rfl rfl<|?_;clear M;intro A w M
 refine D0 Cj M 0 rfl rfl rfl rfl rfl rfl<|?_;clear M;intro w M
 refine wk ?_;refine Ak (fun a F=>Bb Cp.k ⟨_,by rw [Be Cj.k]⟩ (F.ev rfl) (Ho tM tM)) rfl<|wk ?_;refine D0 Cp M 4 rfl rfl rfl rfl rfl rfl<|?_;clear M;intro w M
 refine wk ?_;refine Ak (fun a F=>Afm (j:=k) Ha.k C4 (F.ev rfl) (F.ev rfl) rfl tM) rfl<|Ak (fun a F=>Cv C4 rfl (F.ev rfl) (cs:=[qT (Cb k),vB (decide (uAt k)),vB (decide (uCo k)),vB (decide (uTo k)),vB (decide (uIt k)),kfn k]) rfl (M.cellsL (k:=1) rfl (Xe (k:=k) tM))) rfl<|fun a F=>?_
 rw [kfn_pos hk.1] at F;revert a;refine C3 ent82 rfl rfl (Z4 (k:=k) (b:=S) (b2:=A) M)<|?_;clear M;rintro _ ae w D M ⟨ak,am,rfl,Sq16⟩
 replace HG:=HG.mono D;replace Sp4:=Sp4.mono Au D;refine wk ?_;have br:=Tq (Hh k S A);intro a F;rw [show (Hh k S A).length=4 from rfl] at br;revert a;refine wk ?_;refine Ag rfl ?_ ?_
 ·intro a7;have cp:=dF (Ad a7);have bR:(decide ((((Cy ((xC c [10]).1)).length:Nat):Int)=((((fm (Hh k S A)).length:Nat):Int))+1))=false:=(Ad a7);refine wk ?_;intro a F;refine Bf F M Ba 4<|sZ ?_;clear F M a;intro w M;refine wk ?_;refine fun a F=>B1 F M (k:=4) rfl rfl Ba rfl rfl rfl rfl ?_;replace M:=M.perm (Ah _ 3 _ rfl);replace M:=z_M M
  exact ⟨_,_,(I.trans D),M.wn tW,k,0,0,0,none,0,0,false,_,_,rfl,rfl,tM,tM,Or.inr ⟨rfl,Or.inl ⟨Agp (b:=S) (b2:=A) Y hk ap tM,rfl⟩⟩⟩
 intro a8;have cq:=dT (Ae a8);have bS:(decide ((((Cy ((xC c [10]).1)).length:Nat):Int)=((((fm (Hh k S A)).length:Nat):Int))+1))=true:=(Ae a8);refine wk ?_;have cG:wr.length=(fm (Hh k S A)).length:=by omega
 refine wk ?_;refine fun a F=>Bd (fun m a' w'=>∃ (i:Nat),∃ (x:NotD),∃ (sz:Int),m=(fm (Hh k S A)).length - i∧Fits 133 a' [(0,.func (.func 86) #[pP b] #[]),(2,pP S),(6,pP b5),(7,pP b7),(9,pP A),(10,vS ak ((fm (Hh k S A)).length) (am)),(52,vS ak ((fm (Hh k S A)).length) (am)),(53,iI ((((fm (Hh k S A)).length:Nat):Int))),(54,iI ((i:Nat):Int))]∧Mem w0 ae (rB A [iI sz] 3::rB b7 Lu 139::rB b5 [vS ah ((Cy ((xC c [10]).1)).length) ((Cy ((xC c [10]).1)).length)] 24::rB b [qT ((xC c [10]).2.1),iI ((((l+1):Nat):Int))] 155::rB S [iB ((x.kind:Nat):Int),iI x.at_,iI x.count,iI x.to,sN] 65::L) w'∧(i≤(fm (Hh k S A)).length)∧(x.kind=k)∧(FlH x sz)∧(Wd wr x sz i)) _ ⟨0,⟨k,0,0,0,[]⟩,0,rfl,fU,M,Nat.zero_le _,rfl,fl_zero hk,fun j z h=>by omega⟩ ?_;clear F M;rintro m a w ⟨i,x,sz,rfl,F,M,hi,au,a1,bf⟩;revert a;refine wk ?_;refine qD rfl ?_ ?_
 ·intro ct;refine wk ?_;obtain ⟨Xe20,aw⟩:=Aq (xs:=(fm (Hh k S A))) (i:=i) tM;obtain ⟨bL,ce,_,bG,_,bA,rfl⟩:=Sq16.at aw;refine wk ?_;obtain ⟨Xe21,ab⟩:=Aq (xs:=Cy ((xC c [10]).1)) (i:=i+1) (by (have cD:=aK;omega));obtain ⟨bM,cf,_,bH,_,bB,⟨rfl,bm⟩⟩:=Sp4.at ab;refine wk ?_;have aR:wr[i]?=some Xe21:=by have h_:=ab;rw [Y] at h_;simpa using h_
  have cK:=Vq (mG ab);refine A2 ent136 rfl rfl (Avj (s:=Xe21) M HG tM)<|?_;clear M;rintro _ w M ⟨N,ai,rfl,aM,ac⟩
  refine wk ?_;refine fun a F=>Mq [(.free,0),(.free,1),(.free,2),(.free,3),(.pure,5),(.free,6),(.free,7),(.free,8),(.pure,9),(.keep,4),(.free,10),(.free,11)] [] (Keep ae [rB b5 [vS ah ((Cy ((xC c [10]).1)).length) ((Cy ((xC c [10]).1)).length)] 24]) rfl kR kF (Aw (M.drew _)) ?_;replace M:=M.drew (w.drawn+1);revert a;refine wk ?_;refine k_f (fun a F w _=>Ajs Sr.k aM (F.ev rfl) rfl) rfl<|wk ?_
  rcases bE (!(Dw ai)) with a9 | aA
  ·skip
   have cu:=Ad a9;have bT:(Dw ai)=false:=(Ad a9);refine wk ?_
   generalize ({ w with drawn:=w.drawn+1 }:World)=w at M ⊢
   refine wk ?_;intro a F;refine Bf F M Ba 4<|sZ ?_;clear F M a;intro w M;refine wk ?_;refine fun a F=>B1 F M (k:=4) rfl rfl Ba rfl rfl rfl rfl ?_;replace M:=M.perm (Ah _ 3 _ rfl);replace M:=z_M M
   exact ⟨_,_,(I.trans D),M.wn tW,x.kind,x.at_,x.count,x.to,none,0,0,false,_,_,rfl,rfl,tM,tM,Or.inr ⟨rfl,Or.inl ⟨Ago Y hk ap aR ac (by first | exact Or.inl tA | exact Or.inr tA),rfl⟩⟩⟩
  have cv:=Ae aA;have ba:(Dw ai)=true:=(Ae aA);refine wk ?_;obtain ⟨bN,cg,_,bI,_,bC,⟨rfl,bn⟩⟩:=Sp4.at ab;refine wk ?_;refine fun a F=>Gj F rfl rfl (Ge ba) ?_;revert a;refine wk ?_;refine A2 Apk rfl rfl (Xn (z:=N) M HG (Aim (ok_of ac tA)))<|?_;clear M;rintro _ w M rfl
  refine Ao<|?_
  refine eQ (Aw M)<|wk ?_;refine Ag rfl ?_ ?_
  ·intro aB;have cw:=dF (Ad aB);have bU:(decide ((Lib.itoa N)=Xe21))=false:=(Ad aB);refine wk ?_;intro a F;refine Bf F M Ba 4<|sZ ?_;clear F M a;intro w M;refine wk ?_;refine fun a F=>B1 F M (k:=4) rfl rfl Ba rfl rfl rfl rfl ?_;replace M:=M.perm (Ah _ 3 _ rfl);replace M:=z_M M
   exact ⟨_,_,(I.trans D),M.wn tW,x.kind,x.at_,x.count,x.to,none,0,0,false,_,_,rfl,rfl,tM,tM,Or.inr ⟨rfl,Or.inl ⟨Ago Y hk ap aR ac (by first | exact Or.inl tA | exact Or.inr tA),rfl⟩⟩⟩
  intro aC;have cx:=dT (Ae aC);have bV:(decide ((Lib.itoa N)=Xe21))=true:=(Ae aC);refine D8<|Gd<|?_
  have bo:=ok_of ac tA;have bu:Lib.itoa N=Xe21:=by assumption
  have aJ:(fm (Hh x.kind S A))[i]?=some Xe20:=by rw [au];exact aw
  obtain ⟨b0,bz,b4⟩:=put_ok aJ a1 bf (Aim bo) (by rw [bu];exact aR);obtain ⟨cJ,b3⟩:=Amy (sz:=sz) (v:=N) aJ;intro a F;refine I6 (fun a' w'=>Fits 133 a' [(0,.func (.func 86) #[pP b] #[]),(2,pP S),(6,pP b5),(7,pP b7),(9,pP A),(10,vS ak ((fm (Hh k S A)).length) (am)),(52,vS ak ((fm (Hh k S A)).length) (am)),(53,iI ((((fm (Hh k S A)).length:Nat):Int))),(54,iI ((i:Nat):Int))]∧Mem w0 ae (rB A [iI ((Oe x sz Xe20.2 N).2)] 3::rB b7 Lu 139::rB b5 [vS ah ((Cy ((xC c [10]).1)).length) ((Cy ((xC c [10]).1)).length)] 24::rB b [qT ((xC c [10]).2.1),iI ((((l+1):Nat):Int))] 155::rB S [iB ((((Oe x sz Xe20.2 N).1.kind:Nat):Int)),iI ((Oe x sz Xe20.2 N).1.at_),iI ((Oe x sz Xe20.2 N).1.count),iI ((Oe x sz Xe20.2 N).1.to),sN] 65::L) w') ?_ ?_
  ·skip
   rcases b3 with ⟨rfl,_⟩ | ⟨rfl,_⟩ | ⟨rfl,_⟩ | ⟨rfl,_⟩
   ·skip
    revert a;refine wk ?_;refine D0 Cj M 4 rfl rfl rfl rfl rfl rfl<|?_;clear M;intro w M
    refine Ao<|?_
    intro a F
    exact ⟨fU,M⟩
   ·skip
    revert a;refine wk ?_;refine D0 Cj M 4 rfl rfl rfl rfl rfl rfl<|?_;clear M;intro w M
    refine Ao<|?_
    intro a F
    exact ⟨fU,M⟩
   ·skip
    revert a;refine wk ?_;refine D0 Cj M 4 rfl rfl rfl rfl rfl rfl<|?_;clear M;intro w M
    refine Ao<|?_
    intro a F
    exact ⟨fU,M⟩
   revert a;refine wk ?_;refine D0 Cj M 0 rfl rfl rfl rfl rfl rfl<|?_;clear M;intro w M
   refine Ao<|?_
   intro a F
   exact ⟨fU,M⟩
  clear F M;rintro a w ⟨F,M⟩;revert a;refine wk ?_;intro a F
  exact ⟨_,tM,i+1,(Oe x sz Xe20.2 N).1,(Oe x sz Xe20.2 N).2,rfl,fU,M,tM,b0.trans au,bz,b4⟩
 intro cy;refine wk ?_;have bt:=Ve (x:=x) (b:=S) (b2:=A) (sz:=sz);intro a F;rw [au] at bt;have aS:=wd_all bf tM tM;revert a;refine wk ?_
 rcases bE (decide (sz < 0)) with bb | be
 ·skip
  have cz:=dT bb;refine wk ?_;intro a F;refine Bf F M Ba 4<|sZ ?_;clear F M a;intro w M;refine wk ?_;refine fun a F=>B1 F M (k:=4) rfl rfl Ba rfl rfl rfl rfl ?_;replace M:=M.perm (Ah _ 3 _ rfl);replace M:=z_M M
  exact ⟨_,_,(I.trans D),M.wn tW,x.kind,x.at_,x.count,x.to,none,0,0,false,_,_,rfl,rfl,tM,tM,Or.inr ⟨rfl,Or.inl ⟨Agn Y a1 (by rw [au];exact ap) aS tM,rfl⟩⟩⟩
 have c0:=dF be;refine wk ?_;refine qD rfl ?_ ?_
 ·intro c1;refine wk ?_;intro a F;refine Bf F M Ba 4<|sZ ?_;clear F M a;intro w M;refine wk ?_;refine fun a F=>B1 F M (k:=4) rfl rfl Ba rfl rfl rfl rfl ?_;replace M:=M.perm (Ah _ 3 _ rfl);replace M:=z_M M
  exact ⟨_,_,(I.trans D),M.wn tW,x.kind,x.at_,x.count,x.to,none,0,0,false,_,_,rfl,rfl,tM,tM,Or.inr ⟨rfl,Or.inl ⟨Agn Y a1 (by rw [au];exact ap) aS tM,rfl⟩⟩⟩
 intro c2;refine wk ?_;have hh:=a1.head tM;have a0:=head_of Y (by rw [au];exact ap) aS b6;obtain ⟨p,hp⟩:=Int.eq_ofNat_of_zero_le hh.rs.1;subst hp;have cI:=hh.rs.2;refine wk ?_;have M:=M.nilrow 26 4;replace M:=z_M M;intro a F;refine Bd (fun m a' w'=>∃ (j:Nat),∃ (ys:List ItemD),∃ (T:List UInt8),∃ (ar:Option Addr),∃ (nr:Nat),∃ (cr:Nat),∃ (ao:List Value),m=p - j∧∃ az,Gle ae az∧Fits 133 a' [(0,.func (.func 86) #[pP b] #[]),(2,pP S),(92,iI ((p:Nat):Int)),(93,iI ((j:Nat):Int))]∧Mem w0 az (rR (vS ar nr cr) (nr) (ao) 26 4::rB A [iI ((p:Nat):Int)] 3::rB b7 Lu 139::rB b5 [vS ah ((Cy ((xC c [10]).1)).length) ((Cy ((xC c [10]).1)).length)] 24::rB b [qT T,iI ((((l+1+j):Nat):Int))] 155::rB S [iB ((x.kind:Nat):Int),iI x.at_,iI x.count,iI x.to,vS ar nr cr] 65::L) w'∧(j≤p)∧(ys.length=j)∧(okI ys)∧((xC c [10]).2.1=Ce ys++T)∧(T.length≤c.length)∧(Els Bp 4 az ao ys)∧(nr≤j)) _ ⟨0,[],_,none,0,0,[],rfl,ae,Gle.refl _,fU,M,Nat.zero_le _,rfl,(fun y hy=>by cases hy),rfl,tM,Els.nil,tM⟩ ?_;clear F M;rintro m a w ⟨j,ys,T,ar,nr,cr,ao,rfl,az,U,F,M,hj,cL,aq,ax,cc,Er,cH⟩;replace HG:=HG.mono U;revert a;refine wk ?_;refine qD rfl ?_ ?_
 ·intro c4;refine wk ?_;replace M:=M.perm (Ah _ 4 _ rfl);replace M:=z_M M;intro a F;refine Afu F ent86 (first:=[pP b]) rfl rfl rfl (Z8 (c:=T) (l:=(l+1+j)) M HG tM tM) ?_;clear F M a;rintro _ w a M rfl F;have bj:=E8 10 T;revert a;refine wk ?_;refine Ak (fun a F=>Bg (F.ev rfl) (F.ev rfl) (by (first | omega | (simp only [lA,lC,lN];omega)))) rfl<|C3 ent12 rfl rfl (Ako (s:=(((xC T [10]).1)++([10]:List UInt8))) M HG (by (first | omega | (simp only [lA,lC,lN];omega))))<|?_;clear M;rintro _ ag w O M ⟨bK,rfl,aW⟩
  replace HG:=HG.mono O;replace Er:=Er.mono Ac O;refine wk ?_
  rcases bE (!((xC T [10]).2.2)) with aD | aE
  ·skip
   have c5:=Ad aD;have bW:((xC T [10]).2.2)=false:=(Ad aD);refine wk ?_;intro a F;refine Bf F M Ba 5<|sZ ?_;clear F M a;intro w M;refine wk ?_;refine fun a F=>B1 F M (k:=5) rfl rfl Ba rfl rfl rfl rfl ?_;replace M:=z_M M
   exact ⟨_,_,(((I.trans D).trans U).trans O),M.wn tW,x.kind,x.at_,x.count,x.to,ar,nr,cr,false,_,_,rfl,rfl,tM,tM,Or.inr ⟨rfl,Or.inr ⟨x,_,ys,T,hh,aq,tM,tM,by rw [← ax];exact a0,Adq (c:=T) tM (by first | exact Or.inl tA | exact Or.inr (Or.inl tA) | exact Or.inr (Or.inl tM) | exact Or.inr (Or.inr tM))⟩⟩⟩
  have c6:=Ae aE;have bX:((xC T [10]).2.2)=true:=(Ae aE);refine wk ?_
  rcases bE (!(decide ((D1 (((xC T [10]).1)++([10]:List UInt8))).2.2=0))) with aF | aG
  ·skip
   have c7:=dF (Ad aF);have bY:(decide ((D1 (((xC T [10]).1)++([10]:List UInt8))).2.2=0))=false:=(Ad aF);refine wk ?_;intro a F;refine Bf F M Ba 5<|sZ ?_;clear F M a;intro w M;refine wk ?_;refine fun a F=>B1 F M (k:=5) rfl rfl Ba rfl rfl rfl rfl ?_;replace M:=z_M M
   exact ⟨_,_,(((I.trans D).trans U).trans O),M.wn tW,x.kind,x.at_,x.count,x.to,ar,nr,cr,false,_,_,rfl,rfl,tM,tM,Or.inr ⟨rfl,Or.inr ⟨x,_,ys,T,hh,aq,tM,tM,by rw [← ax];exact a0,Adq (c:=T) tM (by first | exact Or.inl tA | exact Or.inr (Or.inl tA) | exact Or.inr (Or.inl tM) | exact Or.inr (Or.inr tM))⟩⟩⟩
  have c8:=dT (Ae aG);have bZ:(decide ((D1 (((xC T [10]).1)++([10]:List UInt8))).2.2=0))=true:=(Ae aG);refine wk ?_;refine Ag rfl ?_ ?_
  ·intro aH;have c9:=dF (Ad aH);have ca:(decide ((((D1 (((xC T [10]).1)++([10]:List UInt8))).1.length:Nat):Int)=1))=false:=(Ad aH);refine wk ?_;intro a F;refine Bf F M Ba 5<|sZ ?_;clear F M a;intro w M;refine wk ?_;refine fun a F=>B1 F M (k:=5) rfl rfl Ba rfl rfl rfl rfl ?_;replace M:=z_M M
   exact ⟨_,_,(((I.trans D).trans U).trans O),M.wn tW,x.kind,x.at_,x.count,x.to,ar,nr,cr,false,_,_,rfl,rfl,tM,tM,Or.inr ⟨rfl,Or.inr ⟨x,_,ys,T,hh,aq,tM,tM,by rw [← ax];exact a0,Adq (c:=T) tM (by first | exact Or.inl tA | exact Or.inr (Or.inl tA) | exact Or.inr (Or.inl tM) | exact Or.inr (Or.inr tM))⟩⟩⟩
  intro aI;have cA:=dT (Ae aI);have cb:(decide ((((D1 (((xC T [10]).1)++([10]:List UInt8))).1.length:Nat):Int)=1))=true:=(Ae aI);refine D8<|Gd<|?_
  obtain ⟨y,b8,bg,bq⟩:=Azf (c:=T) tA tM tM tM;intro a F;refine Mq [(.free,0),(.pure,1),(.free,2),(.free,3),(.pure,4),(.keep,5),(.chg,6),(.free,7),(.chg,8)] [6,8] (Keep ag [rB S [iB ((x.kind:Nat):Int),iI x.at_,iI x.count,iI x.to,vS ar nr cr] 65]) rfl kR kF (Aw (M.drew _)) ?_;replace M:=M.drew (w.drawn+1);revert a;refine wk ?_;obtain ⟨bO,ci,_,bJ,_,bD,aL⟩:=aW.at (show (D1 ((xC T [10]).1++[10])).1[0]?=some y by rw [b8];rfl);obtain ⟨E,H,rfl,aO,aQ,aT,bx,av⟩:=aL;have aj:(y.key < 18446744073709551616∧y.typ < 256∧y.text.length≤9223372036854775807):=⟨aO,aQ,aT⟩;refine wk ?_;refine k_k rfl<|fun a F=>?_
  refine Ar F M Ci.k Bc rfl rfl (cs:=[iU ((y.key:Nat):Int),iB ((y.typ:Nat):Int),qT y.text,vS E y.mZ.length H]) rfl rfl tS tD rfl ?_;clear F M a;intro cM w a M F;obtain ⟨a3,a4,rfl,bk,bh,bv⟩:=M.rS (k:=0) rfl;revert a;refine Ao<|?_
  refine eQ (Aw M)<|?_
  have Eb:Els Bp 4 ag [iU ((y.key:Nat):Int),iB ((y.typ:Nat):Int),qT y.text,vS E y.mZ.length H] [y]:=⟨[iU ((y.key:Nat):Int),iB ((y.typ:Nat):Int),qT y.text,vS E y.mZ.length H],[],rfl,rfl,⟨E,H,rfl,aj.1,aj.2.1,aj.2.2,(by have h_:=av.bound;omega),av⟩,rfl⟩;refine k_c rfl<|fun a F=>?_
  refine A4 F M (k:=2) (k2:=0) rfl rfl Ci.k Bc rfl rfl tD rfl rfl tX tO rfl ?_;clear F M a;intro cO w a M F;have aU:=Els.append Er Eb;obtain ⟨al,an,rfl,bl,bi,bw⟩:=M.rS (k:=2) rfl;revert a;refine Ao<|?_
  replace M:=z_M M;intro a F;refine ⟨Keep ag [rR (vS a3 1 (a4)) 1 ([iU ((y.key:Nat):Int),iB ((y.typ:Nat):Int),qT y.text,vS E y.mZ.length H]) 26 4,rB b [qT ((xC T [10]).2.1),iI (((((l+1+j)+1):Nat):Int))] 155,rR (vS al (nr+1) (an)) (nr+1) (ao++([iU ((y.key:Nat):Int),iB ((y.typ:Nat):Int),qT y.text,vS E y.mZ.length H])) 26 4,rB A [iI ((p:Nat):Int)] 3,rB b7 Lu 139,rB b5 [vS ah ((Cy ((xC c [10]).1)).length) ((Cy ((xC c [10]).1)).length)] 24,rB S [iB ((x.kind:Nat):Int),iI x.at_,iI x.count,iI x.to,vS ar nr cr] 65],M.keep (Gle.refl _) (by simp),?_⟩;revert a;refine wk ?_;refine k_c rfl<|D0 Ci M 6 rfl rfl rfl rfl rfl rfl<|?_;clear M;intro w M
  refine Ao<|?_
  replace M:=z_M M;intro a F;refine ⟨Keep ag [rR (vS a3 1 (a4)) 1 ([iU ((y.key:Nat):Int),iB ((y.typ:Nat):Int),qT y.text,vS E y.mZ.length H]) 26 4,rB b [qT ((xC T [10]).2.1),iI (((((l+1+j)+1):Nat):Int))] 155,rR (vS al (nr+1) (an)) (nr+1) (ao++([iU ((y.key:Nat):Int),iB ((y.typ:Nat):Int),qT y.text,vS E y.mZ.length H])) 26 4,rB A [iI ((p:Nat):Int)] 3,rB b7 Lu 139,rB b5 [vS ah ((Cy ((xC c [10]).1)).length) ((Cy ((xC c [10]).1)).length)] 24,rB S [iB ((x.kind:Nat):Int),iI x.at_,iI x.count,iI x.to,vS al (nr+1) (an)] 65],M.keep (Gle.refl _) (by simp),?_⟩;revert a;refine wk ?_;replace M:=M.perm (Ah _ 6 _ rfl);replace M:=M.perm (Ah _ 2 _ rfl);replace M:=M.perm (Ah _ 6 _ rfl);replace M:=M.perm (Ah _ 6 _ rfl);replace M:=M.perm (Ah _ 6 _ rfl);replace M:=M.perm (Ah _ 6 _ rfl);replace M:=z_M M;intro a F
  exact ⟨_,tM,j+1,(ys++[y]),_,(al),(nr+1),(an),ao++([iU ((y.key:Nat):Int),iB ((y.typ:Nat):Int),qT y.text,vS E y.mZ.length H]),rfl,ag,(U.trans O),fU,(M.wn tW),tM,by rw [lA];simp only [lC,lN];omega,Axo aq bg,by rw [ax,Su,List.append_assoc,← bq],tM,aU,tM⟩
 intro cB;refine X8<|Aee<|Aee<|A1p<|Ca<|?_
 obtain ⟨aP,aV,aY,aZ,aa,aN,Sz47,M⟩:=M.fZ Ac (k:=0) rfl Er tD;clear aN aY aZ;replace HG:=HG.mono aa;intro a F;rw [aP] at M Sz47;change Mem w0 aV (rB A [iI ((p:Nat):Int)] 3::rB b7 Lu 139::rB b5 [vS ah ((Cy ((xC c [10]).1)).length) ((Cy ((xC c [10]).1)).length)] 24::rB b [qT T,iI ((((l+1+j):Nat):Int))] 155::rB S [iB ((x.kind:Nat):Int),iI x.at_,iI x.count,iI x.to,vS ar ys.length cr] 65::L) _ at M;revert a;refine Hg<|Io Ba.k rfl rfl<|Ns Ci M 4 rfl rfl rfl rfl<|?_
 refine C3 A1a rfl rfl (Aaz (xs:=ys) M Sz47 tM (fun x hx=>by have:=(aq x hx).1.2.2.2.1;omega))<|?_;clear M;rintro _ bF w V M ⟨a2,rfl,aX⟩
 replace HG:=HG.mono V;refine wk ?_;refine D0 Ci M 4 rfl rfl rfl rfl rfl rfl<|?_;clear M;intro w M
 refine wk ?_;intro a F;refine Bf F M Ba 4<|sZ ?_;clear F M a;intro w M;refine wk ?_;refine fun a F=>B1 F M (k:=4) rfl rfl Ba rfl rfl rfl rfl ?_;replace M:=M.perm (Ah _ 3 _ rfl);replace M:=z_M M
 exact ⟨_,_,((((I.trans D).trans U).trans aa).trans V),M.wn tW,x.kind,x.at_,x.count,x.to,a2,ys.length,ys.length,true,_,_,rfl,rfl,tM,tM,Or.inl ⟨rfl,x,_,ys,hh,aq,tM,by rw [← ax];exact a0,tM,⟨a2,ys.length,rfl,(by have:=hh.kd;show x.kind < 256;omega),hh.ra,hh.rc,hh.rt,(by show ys.length≤_;omega),aX⟩⟩⟩
theorem Aku (M:Mem w0 G L w) {n c:Nat} {ad:Option Addr} (h:n≤c) (A:c≤9223372036854775807):Calls pG 87 #[vS ad n c] w (B5 w0 G L fun v=>v=vS ad n n):=by
 refine Ap (vs:=[_]) Tryz.func87 rfl (n:=9) rfl rfl<|wk ?_;refine Ak (fun a F=>V0 (h:=n) (q:=n) Du.k Ba (F.ev rfl) (F.ev rfl) tM (F.ev rfl) tM tM tM) rfl<|wk ?_;refine Af rfl rfl<|?_
 exact ⟨M,rfl⟩
theorem Agq (M:Mem w0 G L w) {E:Option Addr} {cn:Nat} {ns:List NotD} (V:Aj Ct 5 G (vS E ns.length cn) ns) (ab:ns.length≤1000000) :
  Calls pG 88 #[vS E ns.length cn] w (L4 w0 G fun L' v=>∃ Y H c' D,v=vS Y H c'∧L' = (rR (vS Y H c') H D 65 5::L)∧H = ns.length∧Els Ct 5 G D ns):=by
 refine Ap (vs:=[_]) Tryz.func88 rfl (n:=8) rfl rfl<|wk ?_;refine Ak (fun a F=>Aju Du.k (F.ev rfl) (F.ev rfl)) rfl<|?_
 refine Ao<|Gd<|?_
 refine Ag rfl ?_ ?_
 ·intro I;have h1:((E).isNone)=true:=I;refine wk ?_;refine Af rfl rfl<|?_
  have h0:=V.nilz tA
  exact ⟨_,M.nilrow 65 5,none,0,0,[],rfl,rfl,by rw [h0];rfl,by rw [h0];exact Els.nil⟩
 intro N;have h2:((E).isNone)=false:=N;refine wk ?_;intro a F;refine Wh F M Du.k Ba rfl ?_;clear F M a;intro v3 w a M F;obtain ⟨ag,ai,rfl,T,O,ac⟩:=M.rS (k:=0) rfl;revert a;refine Cd rfl<|?_
 intro a F;refine Kc F M (k:=0) rfl Du.k Ba rfl rfl tD rfl V rfl tX tO rfl ?_;clear F M a;intro v4 aa w a M A F;have A:=Els.append Els.nil A;obtain ⟨ah,aj,rfl,U,S,ae⟩:=M.rS (k:=0) rfl;revert a;refine wk ?_;refine Af rfl rfl<|?_
 replace M:=z_M M;simp only [Nat.zero_add,List.nil_append] at M ⊢
 exact ⟨_,M,_,_,_,_,rfl,rfl,rfl,by have h:=A;simp only [List.nil_append] at h;exact h⟩
def PF (s:List UInt8) (r:List NotD × Nat × Int):Prop:=(1048576 < s.length∧r=([],0,3))∨(s.length≤1048576∧PR [] s r)
theorem PF.uniq {s:List UInt8} {a b:List NotD × Nat × Int} (A:PF s a) (D:PF s b):a=b:=by
 rcases A with ⟨A,rfl⟩ | ⟨A,E⟩ <;> rcases D with ⟨D,rfl⟩ | ⟨D,H⟩
 ·rfl
 ·omega
 ·omega
 exact E.uniq H
theorem Ays (x:NotD) (sz:Int):1≤(Cm x sz).length:=by unfold Cm;simp only [lA,lC,lN];omega
theorem Hm (M:Mem w0 G L w) (HG:Globs 0 1 2 3 G) {s:List UInt8} (hs:s.length≤9223372036854775807):Calls pG 33 #[qT s] w (Ret w0 G L fun G' v=>∃ (a:Option Addr) (ys:List NotD) (ln:Nat) (e:Int),v=.tuple #[vS a ys.length ys.length,iI ((ln:Nat):Int),iI e]∧Aj Ct 5 G' (vS a ys.length ys.length) ys∧PF s (ys,ln,e)):=by
 refine Ap (vs:=[_]) Tryz.func33 rfl (n:=61) rfl rfl<|wk ?_;refine qD rfl ?_ ?_
 ·intro h1;refine wk ?_;refine Hc rfl rfl rfl rfl<|?_
  exact ⟨_,(Gle.refl _),M,none,[],0,_,rfl,Aj.nil,Or.inl ⟨tM,rfl⟩⟩
 intro h2;refine wk ?_;refine Ak (fun a F=>Am (cs:=[qT s,iI 0]) Aje.k rfl Aje (F.evp rfl) rfl) rfl<|Ch M rfl rfl rfl<|?_;clear M;intro b3 w M
 refine wk ?_;have M:=M.nilrow 65 5;replace M:=z_M M;intro a F;refine Bd (fun m a' w'=>∃ (xs:List NotD),∃ (cj:List UInt8),∃ (ar:Option Addr),∃ (nr:Nat),∃ (cr:Nat),∃ (ae:List Value),m=cj.length∧∃ G4,Gle G G4∧Fits 61 a' [(5,pP b3),(2,vS ar nr cr)]∧Mem w0 G4 (rR (vS ar nr cr) (nr) (ae) 65 5::rB b3 [qT cj,iI ((((nlN xs):Nat):Int))] 155::L) w'∧(∀ r,PR xs cj r→PR [] s r)∧(xs.length≤32)∧(cj.length≤1048576)∧(nlN xs≤1025 * xs.length)∧(Els Ct 5 G4 ae xs)∧(nr=xs.length)) _ ⟨[],s,none,0,0,[],rfl,G,Gle.refl _,fU,M,fun r h=>h,tD,tM,tD,Els.nil,rfl⟩ ?_;clear F M;rintro m a w ⟨xs,cj,ar,nr,cr,ae,rfl,G4,ah,F,M,hP,b4,b0,hnl,Er,aX⟩;replace HG:=HG.mono ah;revert a;refine wk ?_;refine Ag rfl ?_ ?_
 ·intro aH;have h5:=dF (Ad aH);have bx:(decide (cj=([]:List UInt8)))=false:=(Ad aH);refine wk ?_;refine Ak (fun a F=>Yv (F.ev rfl)) rfl<|?_
  replace M:=M.perm (Ah _ 1 _ rfl);replace M:=z_M M;intro a F;refine Cs F ent85 rfl rfl (Agj (c:=cj) (l:=(nlN xs)) M HG tM tM) ?_;clear F M a;rintro _ aj _ w a U M ⟨ab,E,I,S,H,O,N,D,aq,ac,rfl,rfl,aR,aS,aa⟩ F;replace HG:=HG.mono U;replace Er:=Er.mono Aa U;replace M:=z_M M;revert a;refine wk ?_;refine B0 M Ba rfl rfl<|?_;clear M;intro b7 w M
  intro a F;refine Bf F M Ba 0<|sZ ?_;clear F M a;intro w M;refine Dq rfl<|Ca<|H2<|Ca<|?_
  refine fun a F=>I6 (fun a' w'=>∃ (bb:Bool),Fits 61 a' [(2,vS ar nr cr),(5,pP b3),(6,iI (((((nlN xs):Nat):Int))+1)),(7,pP b7),(8,vB D),(31,vB bb)]∧Mem w0 aj (rB b7 [iB ((ab:Nat):Int),iI E,iI I,iI S,vS H O N] 65::rB b3 [qT aq,iI ((ac:Nat):Int)] 155::rR (vS ar nr cr) (nr) (ae) 65 5::L) w'∧(bb=true↔xs.length=32∧(D=true∨nlN xs+1 < ac))) ?_ ?_
  ·skip
   revert a;refine wk ?_
   rcases bE (decide (((nr:Nat):Int)=32)) with av | aD
   ·skip
    have h9:=dT av;refine wk ?_
    rcases bE (D) with A | aC
    ·skip
     have bo:(D)=true:=A;refine g_f rfl A<|g_f rfl A<|g_f rfl A<|g_f rfl A<|g_f rfl A<|g_f rfl A<|g_t rfl av<|Aql rfl A rfl<|Aql rfl av rfl<|Dq rfl<|Ao<|?_
     intro a F
     exact ⟨true,fU,M,by clear F M;first | (simp only [Bool.true_eq_false,true_iff,false_iff,Bool.false_eq_true,decide_eq_true_eq];first | exact ⟨tM,Or.inl tA⟩ | (rintro ⟨ag,T⟩;omega) | grind) | grind⟩
    have bp:(D)=false:=aC;refine wk ?_;intro a F
    exact ⟨(decide (((((nlN xs):Nat):Int))+1 < ((ac:Nat):Int))),fU,M,by clear F M;first | (simp only [Bool.true_eq_false,true_iff,false_iff,Bool.false_eq_true,decide_eq_true_eq];first | exact ⟨tM,Or.inl tA⟩ | (rintro ⟨ag,T⟩;omega) | grind) | grind⟩
   have bq:=dF aD;refine wk ?_;intro a F
   exact ⟨false,fU,M,by clear F M;first | (simp only [Bool.true_eq_false,true_iff,false_iff,Bool.false_eq_true,decide_eq_true_eq];first | exact ⟨tM,Or.inl tA⟩ | (rintro ⟨ag,T⟩;omega) | grind) | grind⟩
  clear F M;rintro a w ⟨bb,F,M,aw⟩;revert a;refine Gd<|?_
  refine Ag rfl ?_ ?_
  ·intro aE;have br:(bb)=true:=aE;refine wk ?_;refine Hc rfl rfl rfl rfl<|?_
   exact ⟨_,(ah.trans U),M.wn dS3,none,[],((nlN xs)+1),_,rfl,Aj.nil,Or.inr ⟨tM,hP _ (by obtain ⟨ag,T⟩:=aw.1 tA;rcases aa with ⟨_,x,sz,ys,hh,_,_,V,_⟩ | ⟨au,⟨_,aG⟩ | ⟨x,sz,ys,r,hh,_,_,_,V,_⟩⟩;exact PR.full ⟨x,sz,_,hh,V⟩ ag;(exfalso;rcases T with T | T;(rw [au] at T;cases T);omega);exact PR.full ⟨x,sz,_,hh,V⟩ ag)⟩⟩
  intro aF;have bt:(bb)=false:=aF;refine wk ?_;refine Ag rfl ?_ ?_
  ·intro al;have bu:=Ad al;have bi:(D)=false:=(Ad al);refine Ca<|?_
   refine fun a F=>Dv [(true,0),(true,1),(true,2),(true,3),(true,4),(true,5),(true,6)] (Keep aj [rB b7 [iB ((ab:Nat):Int),iI E,iI I,iI S,vS H O N] 65,rB b3 [qT aq,iI ((ac:Nat):Int)] 155]) rfl kR kF (Aw (M.drew _)) ?_;replace M:=M.drew (w.drawn+1);revert a;refine wk ?_
   generalize ({ w with drawn:=w.drawn+1 }:World)=w at M ⊢
   refine wk ?_;refine Hc rfl rfl rfl rfl<|?_
   exact ⟨_,(ah.trans U),M.wn dS3,none,[],ac,_,rfl,Aj.nil,Or.inr ⟨tM,hP _ (by rcases aa with ⟨au,_⟩ | ⟨au,⟨aO,aG⟩ | ⟨x,sz,ys,r,hh,a1,aT,hl,V,aW⟩⟩;(exfalso;simp_all);(rw [aG];exact PR.nohead tA aO);(rw [hl];exact PR.bad hh (fun h_=>absurd (aw.2 ⟨h_,Or.inr tM⟩) (by simp_all)) V a1 aT aW))⟩⟩
  intro am;have bv:=Ae am;have bj:(D)=true:=(Ae am);refine wk ?_;have ao:D=true:=by first | assumption | simp_all
  rcases aa with ⟨_,x,sz,ys,hh,a1,ba,V,b1,aZ⟩ | ⟨h_,_⟩
  intro a F
  case inr=>rw [ao] at h_;cases h_
  have bl:xs.length≠32:=fun h_=>absurd (aw.2 ⟨h_,Or.inl ao⟩) (by simp_all);have aQ:ac=nlN (xs++[{ x with iZ:=ys }]):=by rw [Oj];show _=_+(1+ys.length);omega
  have bm:ys.length≤1024:=by have:=hh.rs;omega
  subst aQ;revert a;refine wk ?_;intro a F;refine Ar F M Du.k Ba rfl rfl (cs:=[iB ((ab:Nat):Int),iI E,iI I,iI S,vS H O N]) rfl rfl tS tD rfl ?_;clear F M a;intro b5 w a M F;obtain ⟨bf,bh,rfl,aK,aI,aU⟩:=M.rS (k:=0) rfl;have Eb:Els Ct 5 aj [iB ((ab:Nat):Int),iI E,iI I,iI S,vS H O N] [{ x with iZ:=ys }]:=⟨[iB ((ab:Nat):Int),iI E,iI I,iI S,vS H O N],[],rfl,rfl,aZ,rfl⟩;refine A4 F M (k:=3) (k2:=0) rfl rfl Du.k Ba rfl rfl tD rfl rfl tX tO rfl ?_;clear F M a;intro b6 w a M F;have a3:=Els.append Er Eb;obtain ⟨a6,a9,rfl,aL,aJ,aV⟩:=M.rS (k:=3) rfl;revert a;refine wk ?_;replace M:=M.perm (Ah _ 2 _ rfl);replace M:=M.perm (Ah _ 3 _ rfl);replace M:=z_M M;intro a F
  exact ⟨_,(by have aP:=congrArg List.length V;have bz:=Ays x sz;simp only [lA] at aP;omega),(xs++[{ x with iZ:=ys }]),aq,(a6),(nr+1),(a9),ae++([iB ((ab:Nat):Int),iI E,iI I,iI S,vS H O N]),rfl,aj,(ah.trans U),fU,(M.wn (cC (.cons_cons _ (cN (.cons _ (sR _)))))),fun r h=>hP r (PR.step hh tM V a1 ba h),by rw [lA];simp only [lC,lN];omega,tM,by rw [Oj,lA];simp only [lC,lN];omega,a3,by rw [lA,aX];rfl⟩
 intro an;have bw:=dT (Ae an);have bk:(decide (cj=([]:List UInt8)))=true:=(Ae an);refine wk ?_;obtain ⟨a0,be,a7,aA,ai,ax,Sz20,M⟩:=M.fZ Aa (k:=0) rfl Er tD;clear ax a7 aA;replace HG:=HG.mono ai;intro a F;rw [a0] at F Sz20;revert a;refine wk ?_;refine Sy ent88 rfl rfl (Agq (ns:=xs) M Sz20 tM)<|?_;clear M;rintro _ _ w M ⟨ak,bn,bg,aN,rfl,rfl,az,a2⟩
 subst az;have ap:=M.row_bound (k:=0) rfl;refine A2 ent87 rfl rfl (Aku M ap.1 ap.2)<|?_;clear M;rintro _ w M rfl
 obtain ⟨aY,a4,a8,aB,Y,ay,a5,M⟩:=M.fZ Aa (k:=0) rfl a2 tD;clear ay a8 aB;replace HG:=HG.mono Y;have aM:Aj Ct 5 a4 (vS ak ((xs).length) ((xs).length)) (xs):=a5.clip;refine wk ?_;refine Hc rfl rfl rfl rfl<|?_
 exact ⟨_,((ah.trans ai).trans Y),M.wn dS1,ak,xs,0,0,rfl,aM,Or.inr ⟨tM,hP _ (by rw [show cj=[] from (by first | assumption | simp_all)];exact PR.done)⟩⟩
end Go.Proofs.YtmmhmcplegpenaaGreatDoor
namespace Go.Proofs.YtmmhmcplegpenaaGreatDoor.T
open Go Go.Y Go.Proofs
instance instNameB:DecidablePred Dl:=fun c=>by unfold Dl;infer_instance
instance instName:DecidablePred C2:=fun s=>by unfold C2;infer_instance
instance instStrB:DecidablePred J7:=fun c=>by unfold J7;infer_instance
instance instStr:DecidablePred Str:=fun s=>by unfold Str;infer_instance
instance instEqAttr:DecidableEq AttrD:=fun a b=>decidable_of_iff (a.n=b.n∧a.v=b.v) (by cases a;cases b;simp)
instance instEqSlot:DecidableEq SlotD:=fun a b=>decidable_of_iff (a.n=b.n∧a.src=b.src∧a.v=b.v) (by cases a;cases b;simp)
def Q7 {α:Type} (p:α→Bool) (q:α→α→Bool):List α→Bool
 | []=>true
 | [a]=>p a
 | a::b::l=>p a && q a b && Q7 p q (b::l)
theorem Q6 {α:Type} {p:α→Bool} {q:α→α→Bool}:∀ l:List α,Q7 p q l=true↔∀ (i:Nat) (x:α),l[i]?=some x→p x=true∧∀ y,0 < i→l[i - 1]?=some y→q y x=true
 | []=>by simp [Q7]
 | [a]=>by
  simp only [Q7]
  constructor
  ·intro h i x hx
   match i with
   | 0=>simp only [List.getElem?_cons_zero,Option.some.injEq] at hx;subst hx;exact ⟨h,fun y h0=>by omega⟩
   | i+1=>simp at hx
  ·intro h;exact (h 0 a rfl).1
 | a::b::l=>by
  simp only [Q7,Bool.and_eq_true,Q6 (b::l)]
  constructor
  ·rintro ⟨⟨h1,h2⟩,h3⟩ i x hx
   match i with
   | 0=>simp only [List.getElem?_cons_zero,Option.some.injEq] at hx;subst hx;exact ⟨h1,fun y h0=>by omega⟩
   | 1 =>
    simp only [List.getElem?_cons_succ,List.getElem?_cons_zero,Option.some.injEq] at hx;subst hx;refine ⟨(h3 0 b rfl).1,fun y _ hy=>?_⟩;simp only [Nat.sub_self,List.getElem?_cons_zero,Option.some.injEq] at hy;subst hy;exact h2
   | i+2 =>
    simp only [List.getElem?_cons_succ] at hx;obtain ⟨h4,h5⟩:=h3 (i+1) x (by simpa using hx)
    exact ⟨h4,fun y _ hy=>h5 y tM (by simpa using hy)⟩
  ·intro h;refine ⟨⟨(h 0 a rfl).1,(h 1 b rfl).2 a tD rfl⟩,fun i x hx=>?_⟩;obtain ⟨h4,h5⟩:=h (i+1) x (by simpa using hx)
   exact ⟨h4,fun y h0 hy=>h5 y tM (by
    obtain ⟨i',rfl⟩:∃ i',i=i' + 1:=⟨i - 1,tM⟩
    simpa using hy)⟩
instance instAttrsOk:DecidablePred I3:=fun l=>decidable_of_iff (Q7 (fun x=>decide (C2 x.n∧Str x.v)) (fun y x=>Op.bytesLess y.n x.n) l=true) (by
 rw [Q6];unfold I3;simp only [decide_eq_true_eq])
instance instSlotAt:DecidablePred Fg:=fun x=>by unfold Fg;infer_instance
instance instSlotsOk:DecidablePred H3:=fun l=>decidable_of_iff (l.length≤8∧Q7 (fun x=>decide (Fg x)) (fun y x=>Op.bytesLess y.n x.n) l=true) (by
 rw [Q6];unfold H3 Hw;simp only [decide_eq_true_eq]
 exact ⟨fun h=>⟨h.1,fun m x _ hx=>h.2 m x hx⟩,fun h=>⟨h.1,fun m x hx=>h.2 m x (A3 hx) hx⟩⟩)
instance instKeysOk:DecidablePred Ra:=fun l=>decidable_of_iff (l.Pairwise fun a b=>b.key≠[]→a.key≠b.key) (by
 rw [List.pairwise_iff_getElem];unfold Ra
 constructor
 ·intro h i j a b hij ha hb;obtain ⟨h1,rfl⟩:=List.getElem?_eq_some_iff.1 ha;obtain ⟨h2,rfl⟩:=List.getElem?_eq_some_iff.1 hb
  exact h i j h1 h2 hij
 intro h i j h1 h2 hij
 exact h i j _ _ hij (List.getElem?_eq_getElem h1) (List.getElem?_eq_getElem h2))
instance instAlone:DecidablePred I4:=fun x=>by unfold I4;infer_instance
instance instAloneP:DecidablePred Bm:=fun x=>by unfold Bm;infer_instance
def decOk {β:Type} (A:Tr β→Prop) [DecidablePred A]:(n:Nat)→(x:Tr β)→Decidable (Tr.Ok A n x)
 | 0,_=>isFalse id
 | n+1,x=>by
  have:∀ c,Decidable (Tr.Ok A n c):=decOk A n
  exact inferInstanceAs (Decidable (A x∧∀ c∈x.kids,Tr.Ok A n c))
instance instOk {β:Type} (A:Tr β→Prop) [DecidablePred A] (n:Nat):DecidablePred (Tr.Ok A n):=decOk A n
instance instValid:DecidablePred I1:=fun x=>by unfold I1;infer_instance
instance instValidP:DecidablePred ValidP:=fun x=>by unfold ValidP;infer_instance
instance instItemOk:DecidablePred ItemOk:=fun x=>by unfold ItemOk;infer_instance
end Go.Proofs.YtmmhmcplegpenaaGreatDoor.T
namespace Go.Proofs.YtmmhmcplegpenaaGreatDoor
open Go Go.Y Go.RowKit
def Aci:T.PT:=.mk 1 [114,111,119] [] [] [] []
def c3:RulesD:=⟨[⟨Aci,10,false,0⟩],1⟩
def it3 (k:Nat):ItemD:=⟨k,0,[],[]⟩
def en3 (k:Nat):EntD:=⟨it3 k,10,false⟩
def l3:List EntD:=[en3 1,en3 2,en3 3]
theorem Zs:T.ValidP Aci:=⟨rfl,tD,tD⟩
theorem Aij:Dd c3:=⟨⟨tD,tD⟩,fun k A=>by rw [show k=⟨Aci,10,false,0⟩ by simpa [c3] using A];exact ⟨tD,Zs⟩⟩
theorem row_one {x:T.ItemD}:T.cntF (T.node1 x Aci)=1:=by
 have h:T.node1 x Aci=.mk 1 [114,111,119] [] [] [] []:=by simp [T.node1,Aci,T.madesF,Tr.kids,Tr.as,Tr.tag,Tr.key]
 rw [h];unfold T.cntF;rw [if_pos tD];rfl
theorem A2a {x:ItemD} (h:ItemOk 1 x):Hz c3 x=0:=by
 have D:=h.2.1;have A:x.typ=0:=by omega
 rw [Qp (k:=⟨Aci,10,false,0⟩) (by rw [A];rfl)]
 exact T.rend_ok tD Zs (tI_ok h) (by rw [row_one];decide)
theorem Apy {x:ItemD} (h:ItemOk 1 x):Dt c3 x=10:=by
 have D:=h.2.1;have A:x.typ=0:=by omega
 rw [Jk (k:=⟨Aci,10,false,0⟩) (by rw [A];rfl)]
theorem Sj {k:Nat} (h:ItemOk 1 (it3 k)):B8 c3 (it3 k)=en3 k:=by unfold B8;rw [Apy h];rfl
theorem A2b {l:List EntD} {xs:List ItemD} (D:∀ x∈xs,ItemOk 1 x) (E:∀ i x,xs[i]?=some x→¬ (Dj l x.key∨Kx (xs.take i) x.key)):Nv c3 l xs=0:=by
 refine Ds.2 fun i H=>?_;obtain ⟨x,A⟩:=Aq H;rw [Q0 A]
 exact Lj (D x (mG A)) (E i x A) (A2a (D x (mG A)))
theorem ok3 {k:Nat} (h:¬ k=0):ItemOk 1 (it3 k):=by
 have A:Str ([]:List UInt8):=by decide
 have D:∀ s∈([]:List (List UInt8)),C2 s:=fun s E=>by cases E
 exact ⟨h,(show ((0:Nat):Int) < 1 by decide),A,Nat.zero_le _,D⟩
theorem res3:Gy c3 [] 0 [it3 1,it3 2,it3 3]=(l3,0):=by
 have E:∀ x∈[it3 1,it3 2,it3 3],ItemOk 1 x:=by
  intro x A;simp only [mC,List.not_mem_nil,or_false] at A
  rcases A with rfl | rfl | rfl <;> exact ok3 tD
 have D:[it3 1,it3 2,it3 3].map (B8 c3)=l3:=by
  simp only [List.map_cons,List.map_nil,Sj (ok3 (show ¬ 1=0 by decide)),Sj (ok3 (show ¬ 2=0 by decide)),Sj (ok3 (show ¬ 3=0 by decide))];rfl
 rw [Aao tD tD (A2b E ?_) (by rw [D];decide),D]
 ·rfl
 intro i x A
 rcases i with _ | _ | _ | i <;> simp only [List.getElem?_cons_zero,List.getElem?_cons_succ,List.getElem?_nil,Option.some.injEq,reduceCtorEq] at A
 ·subst A;simp [Dj,Kx]
 ·subst A;simp [Dj,Kx,it3]
 subst A;simp [Dj,Kx,it3]
theorem ins9:Gy c3 [en3 2,en3 3] 2 [it3 9]=([en3 2,en3 3,en3 9],0):=by
 have E:∀ x∈[it3 9],ItemOk 1 x:=by intro x A;rw [List.mem_singleton.1 A];exact ok3 tD
 have D:[it3 9].map (B8 c3)=[en3 9]:=by simp only [List.map_cons,List.map_nil,Sj (ok3 (show ¬ 9=0 by decide))]
 rw [Aao tD tD (A2b E ?_) (by rw [D];decide),D]
 ·rfl
 intro i x A
 rcases i with _ | i <;> simp only [List.getElem?_cons_zero,List.getElem?_cons_succ,List.getElem?_nil,Option.some.injEq,reduceCtorEq] at A
 subst A;simp [Dj,Kx,it3,en3]
def Ud:List NotD:=[⟨2,0,1,0,[]⟩,⟨1,2,0,0,[it3 9]⟩,⟨3,0,1,2,[]⟩]
def Z6:List NotD:=[⟨2,0,1,0,[]⟩,⟨2,2,1,0,[]⟩]
theorem Aej:Bh c3 l3=0:=by
 refine G8.2 ⟨Aij,tD,?_,tD,tD⟩;intro x D;have E:∀ k:Nat,¬ k=0→Sm c3 (en3 k):=fun k A=>⟨⟨ok3 A,A2a (ok3 A)⟩,by unfold Jh;rw [show Dt c3 (en3 k).item=10 from Apy (ok3 A)];exact ⟨⟨by show (1:Int)≤10;decide,by show (10:Int)≤_;decide⟩,Or.inr rfl⟩⟩;simp only [l3,mC,List.not_mem_nil,or_false] at D
 rcases D with rfl | rfl | rfl <;> exact E _ tD
theorem run1 {ns:List NotD} (h:ns[0]?=some ⟨2,0,1,0,[]⟩):Ck c3 l3 ns 1=([en3 2,en3 3],0):=by
 rw [Hk rfl h,Abf tD rfl];rfl
theorem all3:O2 c3 l3 Ud=([en3 3,en3 9,en3 2],3,0):=by
 have A:=run1 (ns:=Ud) rfl;have D:Ck c3 l3 Ud 2=([en3 2,en3 3,en3 9],0):=by
  rw [Hk (by rw [A]) (show Ud[1]?=some ⟨1,2,0,0,[it3 9]⟩ from rfl),Aio tD rfl,A];exact ins9
 have E:Ck c3 l3 Ud 3=([en3 3,en3 9,en3 2],0):=by
  rw [Hk (by rw [D]) (show Ud[2]?=some ⟨3,0,1,2,[]⟩ from rfl),Abe tD rfl,D];rfl
 rw [Lt Aej,Abh (i:=3) tD (by rw [E]) rfl,E];rfl
theorem all3b:O2 c3 l3 Z6=([],1,4):=by
 have A:=run1 (ns:=Z6) rfl;have D:Ck c3 l3 Z6 2=([],4):=by
  rw [Hk (by rw [A]) (show Z6[1]?=some ⟨2,2,1,0,[]⟩ from rfl),Abf tD rfl,A];rfl
 rw [Lt Aej,Aqc (i:=1) tD (by rw [A]) tD (by rw [D];decide),D]
theorem ia0:Lib.itoa 0=[48]:=by rw [show (0:Int)=((0:Nat):Int) from rfl,Lib.itoa_nonneg,Lib.decDigits,dif_pos tD];rfl
theorem ia1:Lib.itoa 1=[49]:=by rw [show (1:Int)=((1:Nat):Int) from rfl,Lib.itoa_nonneg,Lib.decDigits,dif_pos tD];rfl
theorem ia2:Lib.itoa 2=[50]:=by rw [show (2:Int)=((2:Nat):Int) from rfl,Lib.itoa_nonneg,Lib.decDigits,dif_pos tD];rfl
theorem dd9:Lib.decDigits 9=[57]:=by rw [Lib.decDigits,dif_pos tD];rfl
theorem dd0:Lib.decDigits 0=[48]:=by rw [Lib.decDigits,dif_pos tD];rfl
theorem wn2 {a b:Int}:Bn [a,b]=32::Lib.itoa a++(32::Lib.itoa b):=by simp [Bn]
theorem wn1 {a:Int}:Bn [a]=32::Lib.itoa a:=by simp [Bn]
theorem Ayq:Cm ⟨1,0,0,0,[]⟩ 1=[105,110,115,101,114,116,32,48,32,49,10]:=by
 unfold Cm;rw [show fm (nuK ⟨1,0,0,0,[]⟩ 1)=[0,1] from rfl,wn2,ia0,ia1];rfl
theorem Ayp:Cm ⟨1,2,0,0,[⟨9,0,[120],[]⟩]⟩ 1=[105,110,115,101,114,116,32,50,32,49,10]:=by
 unfold Cm;rw [show fm (nuK ⟨1,2,0,0,[⟨9,0,[120],[]⟩]⟩ 1)=[2,1] from rfl,wn2,ia2,ia1];rfl
theorem Ayo:Cm ⟨2,0,1,0,[]⟩ 0=[114,101,109,111,118,101,32,48,32,49,10]:=by
 unfold Cm;rw [show fm (nuK ⟨2,0,1,0,[]⟩ 0)=[0,1] from rfl,wn2,ia0,ia1];rfl
theorem ln_res0:Cm ⟨5,0,0,0,[]⟩ 0=[114,101,115,101,116,32,48,10]:=by
 unfold Cm;rw [show fm (nuK ⟨5,0,0,0,[]⟩ 0)=[0] from rfl,wn1,ia0];rfl
def N2:List NotD:=[⟨1,2,0,0,[⟨9,0,[120],[]⟩]⟩,⟨2,0,1,0,[]⟩]
theorem Amf:Bz N2=[105,110,115,101,114,116,32,50,32,49,10,57,32,48,32,45,32,120,10,114,101,109,111,118,101,32,48,32,49,10]:=by
 have A:It ⟨1,2,0,0,[⟨9,0,[120],[]⟩]⟩=Cm ⟨1,2,0,0,[⟨9,0,[120],[]⟩]⟩ 1++Ce [⟨9,0,[120],[]⟩]:=rfl;have D:It ⟨2,0,1,0,[]⟩=Cm ⟨2,0,1,0,[]⟩ 0++Ce []:=rfl;have E:Ce [⟨9,0,[120],[]⟩]=[57,32,48,32,45,32,120,10]:=by
  simp only [Ce,List.map_cons,List.map_nil,Cx,dd9,dd0];rfl
 unfold Bz N2;simp only [List.flatMap_cons,List.flatMap_nil];rw [A,D,E,Ayp,Ayo];rfl
theorem Aew:Dk N2=0∧D2 N2=[105,110,115,101,114,116,32,50,32,49,10,57,32,48,32,45,32,120,10,114,101,109,111,118,101,32,48,32,49,10]:=by
 have h:=Axu (l:=N2) (i:=2) tD tD rfl (by rw [show N2.take 2=N2 from rfl,Amf];decide);rw [show N2.take 2=N2 from rfl,Amf] at h
 exact h
def Avi:List (List UInt8):=[[105,110,115,101,114,116,32,48,32,49,10],[114,101,109,111,118,101,32,48,10],[114,101,115,101,116,32,48,10,102,111,111,10]]
theorem no_item:¬ O4 []:=by
 rintro ⟨y,r,_,h⟩;have:=congrArg List.length h
 simp at this
theorem hd_ins:Head ⟨1,0,0,0,[]⟩ 1:=⟨tD,Or.inr rfl,Or.inr rfl,Or.inr rfl,Or.inl tD,rfl,Bi (n:=0) tD tD,Bi (n:=0) tD tD,Bi (n:=0) tD tD,tD⟩
theorem hd_res:Head ⟨5,0,0,0,[]⟩ 0:=⟨tD,Or.inr rfl,Or.inr rfl,Or.inr rfl,Or.inr rfl,rfl,Bi (n:=0) tD tD,Bi (n:=0) tD tD,Bi (n:=0) tD tD,tD⟩
theorem badN1:PR [] [105,110,115,101,114,116,32,48,32,49,10] ([],2,5) :=
 PR.bad (ys:=[]) (r:=[]) hd_ins tD (by rw [Ayq];rfl) (fun y A=>by cases A) tD no_item
theorem badN2:PR [] [114,101,109,111,118,101,32,48,10] ([],1,5) :=
 PR.nohead tD (Agp (k:=2) (b:=0) (b2:=1) (W:=[114,101,109,111,118,101]) (wr:=[[48]]) tD tD tD tD)
theorem badN3:PR [] [114,101,115,101,116,32,48,10,102,111,111,10] ([],2,5) :=
 PR.step (ys:=[]) (r:=[102,111,111,10]) hd_res tD (by rw [ln_res0];rfl) (fun y A=>by cases A) rfl
  (PR.nohead tD (W4 (z:=-1) (W:=[102,111,111]) (wr:=[]) tD (Or.inl ⟨rfl,tD⟩) (Or.inr tD)))
def lnN:List Nat:=[2,1,2]
theorem A2c {i:Nat} {s:List UInt8} (h:Avi[i]?=some s):∃ n,lnN[i]?=some n∧PF s ([],n,5):=by
 rcases i with _ | _ | _ | i <;> simp only [Avi,List.getElem?_cons_zero,List.getElem?_cons_succ,List.getElem?_nil,Option.some.injEq,reduceCtorEq] at h
 ·subst h;exact ⟨2,rfl,Or.inr ⟨tD,badN1⟩⟩
 ·subst h;exact ⟨1,rfl,Or.inr ⟨tD,badN2⟩⟩
 subst h;exact ⟨2,rfl,Or.inr ⟨tD,badN3⟩⟩
open Go Go.Y Go.Proofs
variable {w0 w:World} {G:Av} {L:List Res}
theorem Azx {P:Program} {fn:Func} {n:Nat} {a:Act} {e:Env} {w0 w:World} {G:Av} {L:List Res} (F:Fits n a e) {t u E H k1 k2 O b2:Nat} {i1 i2:TI} {A D:List Value} {R:Ending→World→Prop} (M:Mem w0 G L w)
  (U:L[k1]?=some (rB O A E)) (V:L[k2]?=some (rB b2 D H)) (hf:fn.results = #[.cell t E,.cell u H]) (aa:TOK P E i1) (ab:TOK P H i2) (S:i1.k.agg=some true) (T:i2.k.agg=some true)
  (I:A.length=i1.size) (N:D.length=i2.size) (ac:Y.look e t=some (pP O)) (ae:Y.look e u=some (pP b2)) (h:R (.returned (.tuple #[.agg A.toArray,.agg D.toArray])) w):bodyPost P fn R .ret a w:=by
 refine Nh F (v:=.tuple #[.agg A.toArray,.agg D.toArray]) ?_ h;have h1:(loadVar E ⟨O,0,none⟩).run P w=.ok (.agg A.toArray) w:=Hr aa S I (M.cellsL U (by rw [List.drop_zero,← I,List.take_length]));have h2:(loadVar H ⟨b2,0,none⟩).run P w=.ok (.agg D.toArray) w:=Hr ab T N (M.cellsL V (by rw [List.drop_zero,← N,List.take_length]))
 simp [results,hf,F.slot _ _ ac,F.slot _ _ ae,asAddr,h1,h2]
theorem lreset3 (M:Mem w0 G L w) {ka:Option Addr} {A:Nat} (H:Aj Cq 9 G (vS ka c3.kZ.length A) c3.kZ) {D:Option Addr} {E:Nat} (T:Aj Bp 4 G (vS D 3 E) [it3 1,it3 2,it3 3]) :
  Calls pG 92 #[.agg #[vS ka c3.kZ.length A,iI 1],.agg #[sN],vS D 3 E] w (I5 w0 G (K5 L (l3,0))):=by
 rw [← res3]
 exact Uo (c:=c3) (l:=[]) M H Aj.nil (Px Aij) T tD
theorem Vo (M:Mem w0 G L w):Calls pG 36 #[] w (Ret w0 G L fun G' v=>∃ (ka:Option Addr) (kc:Nat) (la:Option Addr) (lc:Nat),v=.tuple #[.agg #[vS ka c3.kZ.length kc,iI 1],.agg #[vS la l3.length lc]]∧Aj Cq 9 G' (vS ka c3.kZ.length kc) c3.kZ∧Aj Bj 6 G' (vS la l3.length lc) l3):=by
 refine Ap (vs:=[]) Tryz.func36 rfl (n:=21) rfl rfl<|?_
 refine Bt<|?_
 refine B0 M Fo rfl rfl<|?_;clear M;intro b1 w M
 refine B0 M Az rfl rfl<|?_;clear M;intro b3 w M
 refine wk ?_;refine Ak (fun a F=>Am (cs:=[iB 1,qT [114,111,119],qT [],sN,qT [],sN]) E6.k rfl E6 (F.evp rfl) rfl) rfl<|Ak (fun a F=>Am (cs:=[iB 1,qT [114,111,119],qT [],sN,qT [],sN,iI 10,vB false,iI 0]) N0.k rfl N0 (F.evp rfl) rfl) rfl<|fun a F=>?_
 refine Ar F M Avv.k N0 rfl rfl (cs:=[iB 1,qT [114,111,119],qT [],sN,qT [],sN,iI 10,vB false,iI 0]) rfl rfl tS tD rfl ?_;clear F M a;intro v5 w a M F;obtain ⟨I,O,rfl,am,ak,ar⟩:=M.rS (k:=0) rfl;have Ek:Els Cq 9 G [iB 1,qT [114,111,119],qT [],sN,qT [],sN,iI 10,vB false,iI 0] c3.kZ:=Els.one ⟨[iB 1,qT [114,111,119],qT [],sN,qT [],sN],rfl,F5 (x:=Aci) ⟨tD,tD⟩ ⟨tD,tD,tD⟩ Aj.nil Aj.nil,⟨tD,tD⟩⟩ rfl;obtain ⟨av,ah,ai,aj,ae,ag,Sz6,M⟩:=M.fZ Ai (k:=0) rfl Ek tD;clear ag ai aj;revert a;refine Ak (fun a F=>Am (cs:=[vS I 1 (O),iI 1]) Fo.k rfl Fo (F.evp rfl) rfl) rfl<|B0 M Fo rfl rfl<|?_;clear M;intro b7 w M
 intro a F;refine Bf F M Fo 0<|sZ ?_;clear F M a;intro w M;refine wk ?_;refine Ak (fun a F=>Am (cs:=[sN]) Az.k rfl Az (F.evp rfl) rfl) rfl<|Ak (fun a F=>Am (cs:=[iU 1,iB 0,qT [],sN]) Bc.k rfl Bc (F.evp rfl) rfl) rfl<|Ak (fun a F=>Am (cs:=[iU 2,iB 0,qT [],sN]) Bc.k rfl Bc (F.evp rfl) rfl) rfl<|Ak (fun a F=>Am (cs:=[iU 3,iB 0,qT [],sN]) Bc.k rfl Bc (F.evp rfl) rfl) rfl<|fun a F=>?_
 refine Bw F M Ci.k Bc (ps:=[(0,.agg #[iU 1,iB 0,qT [],sN]),(1,.agg #[iU 2,iB 0,qT [],sN]),(2,.agg #[iU 3,iB 0,qT [],sN])]) (cs:=[[iU 1,iB 0,qT [],sN],[iU 2,iB 0,qT [],sN],[iU 3,iB 0,qT [],sN]]) (fl:=[iU 1,iB 0,qT [],sN,iU 2,iB 0,qT [],sN,iU 3,iB 0,qT [],sN]) rfl rfl (by simp [Gt,Value.cells]) (by simp [ti26]) rfl tS tD tD rfl ?_;clear F M a;intro v9 w a M F;obtain ⟨aw,ax,rfl,an,al,au⟩:=M.rS (k:=0) rfl;have Ei:Els Bp 4 ah [iU 1,iB 0,qT [],sN,iU 2,iB 0,qT [],sN,iU 3,iB 0,qT [],sN] [it3 1,it3 2,it3 3]:=⟨[iU 1,iB 0,qT [],sN],_,rfl,rfl,⟨none,0,rfl,tD,tD,tD,tD,Aj.nil⟩,⟨[iU 2,iB 0,qT [],sN],_,rfl,rfl,⟨none,0,rfl,tD,tD,tD,tD,Aj.nil⟩,⟨[iU 3,iB 0,qT [],sN],_,rfl,rfl,⟨none,0,rfl,tD,tD,tD,tD,Aj.nil⟩,rfl⟩⟩⟩;obtain ⟨ao,aq,aa,ac,S,Y,Sz10,M⟩:=M.fZ Ac (k:=0) rfl Ei tD;clear Y aa ac
 replace Sz6:=Sz6.mono Ai S;refine Cs F ent92 rfl rfl (lreset3 M Sz6 Sz10) ?_;clear F M a;rintro _ ap _ w a E M ⟨A,N,H,rfl,rfl,T⟩ F;replace Sz6:=Sz6.mono Ai E;have M:=M.perm (Bk (C0 A ((l3,(0:Int))).1.length N::H) [rB b7 [vS I 1 (O),iI 1] 51,rB b3 [sN] 54,rB b1 [sN,iI 0] 51] L);replace M:=z_M M;revert a;refine wk ?_;refine B0 M Az rfl rfl<|?_;clear M;intro ab w M
 intro a F;refine Bf F M Az 0<|sZ ?_;clear F M a;intro w M;refine wk ?_;obtain ⟨U,D,M,V⟩:=Gl (M.perm (Bk [rB ab [vS A (((l3,(0:Int))).1.length) (((l3,(0:Int))).1.length)] 54,rB b7 [vS I 1 (O),iI 1] 51,rB b3 [sN] 54,rB b1 [sN,iI 0] 51] (C0 A ((l3,(0:Int))).1.length N::H) L)) T;replace Sz6:=Sz6.mono Ai D;replace M:=z_M M;intro a F;refine Dv [(true,0),(true,1),(false,2),(false,3)] (Keep U [rB ab [vS A ((l3,(0:Int)).1.length) ((l3,(0:Int)).1.length)] 54,rB b7 [vS I 1 (O),iI 1] 51]) rfl kR kF (Aw (M.drew _)) ?_;replace M:=M.drew (w.drawn+1);revert a;refine wk ?_;refine l_a rfl<|fun a F=>?_
 refine Bf F M Fo 3<|sZ ?_;clear F M a;intro w M;refine Ao<|?_
 refine eQ (Aw M)<|l_a rfl<|fun a F=>?_
 refine Bf F M Az 2<|sZ ?_;clear F M a;intro w M;refine Ao<|?_
 refine eQ (Aw M)<|wk ?_;refine fun a F=>Azx F M (k1:=3) (k2:=2) rfl rfl rfl Fo Az rfl rfl rfl rfl rfl rfl ?_
 exact ⟨_,(((ae.trans S).trans E).trans D),M.wn dS4,_,_,_,_,rfl,Sz6,V⟩
end Go.Proofs.YtmmhmcplegpenaaGreatDoor
