/- The walks, part LU. · The walks, part LV. · The walks, part LW. · The walks, part LX. · What is valid can be decided, and the examples of chapter 14. · Notices: the examples of the chapter. · Notices: the examples of the chapter, texts. · The walks, part LY. -/
import Derived.Test.YtmmhmcplegpenaaGreatDoorJ12
import Derived.Test.YtmmhmcplegpenaaGreatDoorJ3
import Derived.Test.YtmmhmcplegpenaaGreatDoorJ10
namespace Go.Proofs.YtmmhmcplegpenaaGreatDoor
open Go Go.Y Go.Proofs
variable {w0 w:World} {G:A4} {L:List Res}
set_option linter.unusedSimpArgs false
set_option linter.unusedVariables false
theorem Vl {w0 w:World} {G:A4} {L:List Res} {b l:Nat} {c:List UInt8} (M:Mem w0 G (.blk b [.string (str c),.int .i64 ((l:Nat):Int)] 155::L) w) (HG:Globs 0 1 2 3 G) (hc:c.length≤1048576) (hl:l≤9000000) :
  Calls Tryz.prog 86 #[.pointer (some ⟨b,0,none⟩)] w (Cl w0 G (.blk b [.string (str ((Lib.cut c [10]).2.1)),.int .i64 ((((l+1):Nat):Int))] 155::L) fun v=>v=.tuple #[.string (str (Lib.cut c [10]).1),.bool (Lib.cut c [10]).2.2]):=by
 refine Az (vs:=[_]) Tryz.func86 rfl (n:=29) rfl rfl<|Ab<|Ac<|Af rfl<|Af rfl<|Aa<|Ad<|Ab<|Ac<|Ae rfl<|Ep rfl<|Bc J4.k rfl rfl<|Bl B7 M 0 rfl rfl rfl rfl<|B9 rfl rfl<|Ep rfl<|Bc J4.k rfl rfl<|Fo B7 M 0 rfl rfl rfl rfl rfl rfl<|?_;clear M;intro w M
 refine Aa<|Ad<|Ab<|Ac<|Ae rfl<|Ep rfl<|Bc J4.k rfl rfl<|Bl Bq M 0 rfl rfl rfl rfl<|Br Ts rfl rfl (Mg (s:=c) (sep:=([10]:List UInt8)) M HG (by omega))<|?_;clear M;rintro _ w M rfl
 have hclc1:=El 10 c
 refine Ae rfl<|Ch rfl rfl<|Ch rfl rfl<|Ch rfl rfl<|Af rfl<|Af rfl<|Af rfl<|Aa<|Ad<|Ab<|Ac<|Ae rfl<|Ae rfl<|Ep rfl<|Bc J4.k rfl rfl<|Fo Bq M 0 rfl rfl rfl rfl rfl rfl<|?_;clear M;intro w M
 refine Aa<|Ad<|Ab<|Ac<|Ae rfl<|Ae rfl<|Af rfl<|Af rfl<|Aa<|Ad<|Aj<|Fx rfl rfl rfl<|?_
 exact ⟨M,rfl⟩
theorem Ahy (M:Mem w0 G L w) (HG:Globs 0 1 2 3 G) {s:List UInt8} (hs:s.length≤281474976710656) :
  Calls Tryz.prog 136 #[.string (str s)] w (Cl w0 G L fun v=>∃ (z:Int) (er:Value),v=.tuple #[.int .i64 z,er]∧(er=.nilIface∨∃ te pe,er=.iface te pe)∧((Lib.atoiAll s=.ok z∧D5 er=true)∨((∀ x,Lib.atoiAll s≠.ok x)∧D5 er=false))):=by
 have hd:(str s).data.toList=s:=E1 s
 cases h:Lib.atoiAll s with
 | ok u =>
  refine (Any.strconv_Atoi_ok Tryz.laysC172 (str s) (by rw [Cp];omega) u (by rw [hd];exact h) w).mono ?_
  rintro e w' ⟨rfl,hw⟩
  refine ⟨?_,u,_,rfl,Or.inl rfl,Or.inl ⟨rfl,rfl⟩⟩
  rcases hw with rfl | ⟨t,rfl⟩
  ·exact M
  ·exact M.bytesWorld _ _
 | range =>
  obtain ⟨ev,h1,h2⟩:=HG.rng
  refine (Any.strconv_Atoi_range Tryz.laysC172 (str s) (by rw [Cp];omega) (by rw [hd];exact h) ev w (M.cell h1) h2).mono ?_
  rintro e w' ⟨N,rfl,_,_,hb⟩
  exact ⟨M.below' hb,_,_,rfl,Or.inr ⟨_,_,rfl⟩,Or.inr ⟨(fun x hx=>by cases hx),rfl⟩⟩
 | _ =>
  obtain ⟨ev,h1,h2⟩:=HG.syn
  refine (Any.strconv_Atoi_syntax Tryz.laysC172 (str s) (by rw [Cp];omega) (by rw [hd];exact h) ev w (M.cell h1) h2).mono ?_
  rintro e w' ⟨N,rfl,_,_,hb⟩
  exact ⟨M.below' hb,_,_,rfl,Or.inr ⟨_,_,rfl⟩,Or.inr ⟨(fun x hx=>by cases hx),rfl⟩⟩
theorem Uz (s:List UInt8):(Lib.splitB (str [32]) 0 (Lib.countB (str s) (str [32])) (str s)).map Value.string=(Bt s).map (fun x=>Value.string (str x)):=by
 have h:=Lib.splitB_data (str [32]) 0 (Lib.countB (str s) (str [32])) (str s)
 rw [E1,E1] at h
 have h2:Lib.countB (str s) (str [32])=Lib.count s [32]:=by
  show Lib.count (str s).data.toList (str [32]).data.toList=_
  rw [E1,E1]
 rw [h2] at h ⊢
 show _=(Lib.splitK [32] 0 (Lib.count s [32]) s).map _
 rw [← h,List.map_map]
 exact List.map_congr_left fun x _=>rfl
theorem X9 (M:Mem w0 G L w) (HG:Globs 0 1 2 3 G) {s:List UInt8} (hs:s.length < 4294967281) :
  Calls Tryz.prog 102 #[.string (str s),.string (str [32])] w (Ret w0 G L fun G' v=>∃ a:Option Addr,v=.slice a (Bt s).length (Bt s).length∧Ay Dw 1 G' (.slice a (Bt s).length (Bt s).length) (Bt s)):=by
 obtain ⟨m,hm⟩:=HG.max
 refine (Any.strings_Split Tryz.lays146 (by kernel_rfl) (str s) (str [32]) m w (by rw [Cp];exact hs) (M.cell hm) (by rw [Cp];decide)).mono ?_
 rintro e w' ⟨rfl,rfl⟩
 have hl:(Bt s).length=Lib.countB (str s) (str [32])+1:=by
  have h1:=Lib.splitB_all (str [32]) (by rw [Cp];decide) 0 _ (str s) rfl
  rw [← h1,← List.length_map (f:=Value.string),Uz,List.length_map]
 rw [Uz,← hl]
 have hcb:=Lib.countB_le (str [32]) (by rw [Cp];decide) (str s).size (str s) (Nat.le_refl _)
 rw [Cp] at hcb
 have hle:(Bt s).length≤4294967281:=by omega
 have M1:=M.newrow (t:=Tryz.lays146_ren.t 9) (sz:=1) (n:=(Bt s).length) (c:=(Bt s).length) (cs:=(Bt s).map fun x=>Value.string (str x)) (spare:=[])
  (by intro u hu;obtain ⟨x,_,rfl⟩:=List.mem_map.1 hu;rfl) (by simp) (by simp) (Nat.le_refl _) (by unfold maxLen;omega)
 rw [List.append_nil] at M1
 obtain ⟨_,G',a,c,hG,he,S,M2⟩:=M1.freeze_row Bn (k:=0) rfl (Kn (Bt s) (fun x hx=>by have:=Rr hx;omega)) (by decide)
 exact ⟨G',hG,M2,_,rfl,S⟩
theorem n1_spec {w0 w:World} {G:A4} {L:List Res} {b6:Nat} {nm:List UInt8} {k1 k2 k3 k4:Bool} {fv:Value} (hfv:Value.oneCell' fv=true) {aw:Option Addr} {cw:Nat} {ws:List (List UInt8)} (S:Ay Dw 1 G (.slice aw ws.length cw) ws) (M:Mem w0 G (.blk b6 [.slice aw ws.length cw] 24::L) w) {W:List UInt8} (hW:ws[0]?=some W) :
  Calls Tryz.prog 135 #[.agg #[.string (str nm),.bool k1,.bool k2,.bool k3,.bool k4,fv],.pointer (some ⟨b6,0,none⟩)] w (Cl w0 G (.blk b6 [.slice aw ws.length cw] 24::L) fun v=>v=.bool (decide (nm=W))):=by
 refine Az (vs:=[_,_]) Tryz.func135 rfl (n:=10) rfl rfl<|Ab<|Ac<|C4 M rfl rfl rfl<|?_;clear M;intro b1 w M
 refine Af rfl<|Aa<|Ad<|Ab<|fun a F=>Fw [(true,0),(true,1),(true,2),(true,3),(true,4),(true,5),(true,6)] (Keep G [.blk b1 [.string (str nm),.bool k1,.bool k2,.bool k3,.bool k4,fv] 138,.blk b6 [.slice aw ws.length cw] 24]) rfl (by kernel_rfl) (fun c a d v w h=>by cases d <;> exact h) ((M.drew _).keep (Gle.refl _) (by simp)) ?_
 replace M:=M.drew (w.drawn+1)
 revert a
 refine l_r (fun a F w M=>Co Cc.k rfl F rfl) rfl<|l_r (fun a F w M=>Aq (agf Bq rfl) (F.ev rfl) (M.cellL (k:=0) rfl rfl)) rfl<|l_r (fun a F w M=>Aq (agf Cd rfl) (F.ev rfl) (M.cellL (k:=1) rfl rfl)) rfl<|?_
 obtain ⟨be2,oe2,_,Ie2,_,Ae2,⟨rfl,hsle2⟩⟩:=S.at hW
 refine l_r (fun a F w M=>Ca Cd.k Bq (F.ev rfl) (F.ev rfl) (by omega) Ie2) rfl<|l_r (fun a F w M=>Aq (agf Bq rfl) (F.ev rfl) (M.cellA Ae2 0 (by omega) rfl)) rfl<|l_r (fun a F w M=>Kd (F.ev rfl) (F.ev rfl)) rfl<|l_r (fun a F w M=>Gm F rfl) rfl<|Gx<|?_
 generalize ({ w with drawn:=w.drawn+1 }:World)=w at M ⊢
 refine Ad<|Aj<|Al rfl rfl<|?_
 exact ⟨M.weaken (.cons _ (.cons_cons _ (sR _))),rfl⟩
open Go Go.Y Go.Proofs
set_option linter.unusedSimpArgs false
set_option linter.unusedVariables false
theorem P1 {w0 w:World} {G:A4} {L:List Res} {b7 b6:Nat} {aw:Option Addr} {cw:Nat} {ws:List (List UInt8)} (S:Ay Dw 1 G (.slice aw ws.length cw) ws) (M:Mem w0 G (.blk b7 H6 139::.blk b6 [.slice aw ws.length cw] 24::L) w) {W:List UInt8} (hW:ws[0]?=some W) :
  Calls Tryz.prog 134 #[.slice (some ⟨b7,0,none⟩) 6 6,.func (.func 135) #[] #[.pointer (some ⟨b6,0,none⟩)]] w (Cl w0 G (.blk b7 H6 139::.blk b6 [.slice aw ws.length cw] 24::L) fun v=>∃ z:Int,v=.int .i64 z∧((z = -1∧∀ j,j < 6→Bz j≠W)∨∃ k:Nat,k < 6∧z=((k:Nat):Int)∧Bz k=W∧∀ j,j < k→Bz j≠W)):=by
 refine Az (vs:=[_,_]) Tryz.func134 rfl (n:=19) rfl rfl<|Ab<|Ac<|Af rfl<|Aa<|Ad<|Ab<|Ab<|Ac<|Ae rfl<|Cg Aik.k rfl<|Ae rfl<|Aa<|Ad<|A3<|fun a F=>B8 (fun m a' w'=>∃ (i:Nat),m=6 - i∧Fits 19 a' [(0,.slice (some ⟨b7,0,none⟩) 6 6),(1,.func (.func 135) #[] #[.pointer (some ⟨b6,0,none⟩)]),(6,.slice (some ⟨b7,0,none⟩) 6 6),(7,.int .i64 ((6:Nat):Int)),(8,.int .i64 ((i:Nat):Int))]∧Mem w0 G (.blk b7 H6 139::.blk b6 [.slice aw ws.length cw] 24::L) w'∧(i≤6)∧(∀ j,j < i→Bz j≠W)) _ ⟨0,rfl,F.to ⟨rfl,rfl,rfl,rfl,rfl,trivial⟩,M,by omega,fun j h=>by omega⟩ ?_
 clear F M
 rintro m a w ⟨i,rfl,F,M,hi,hA⟩
 revert a
 refine Ab<|Ac<|Df rfl rfl<|Aa<|Ad<|Ab<|Av rfl ?_ ?_
 ·intro h1b
  have h1:=dT h1b
  refine Au<|Ad<|Ab<|A3<|Ab<|Ac<|Ae rfl<|Af rfl<|Aa<|Ad<|Ab<|Ac<|Ae rfl<|Ae rfl<|Ae rfl<|Ap (fun a F=>Ca (b:=b7) (o:=0+i * 6) Aik.k Cc (F.ev rfl) (F.ev rfl) (by omega) ⟨0,rfl,rfl,by omega⟩) rfl<|Ap (fun a F=>Am Cc rfl (F.ev rfl) (cs:=[.string (str (Bz i)),.bool (decide (uAt i)),.bool (decide (uCo i)),.bool (decide (uTo i)),.bool (decide (uIt i)),kfn i]) rfl (M.cellsL (k:=0) rfl (S4 (k:=i) (by omega)))) rfl<|?_
  replace M:=M.perm (Ao _ 1 _ rfl)
  change Mem w0 G (_::_::L) _ at M
  refine Abg ent135 (caps:=[.pointer (some ⟨b6,0,none⟩)]) rfl rfl rfl (n1_spec (nm:=Bz i) (by unfold kfn;split <;> rfl) S M hW)<|?_;clear M;rintro _ w M rfl
  refine Aa<|Ad<|Av rfl ?_ ?_
  ·intro h2b
   have h2:=dT h2b
   refine Ab<|Ac<|Ae rfl<|Af rfl<|Aa<|Ad<|Aj<|Bo<|Aw<|Aw<|Bo<|Aw<|Al rfl rfl<|?_
   replace M:=M.perm (Ao _ 1 _ rfl)
   change Mem w0 G (_::_::L) _ at M
   exact ⟨M,_,rfl,Or.inr ⟨i,by omega,rfl,by assumption,hA⟩⟩
  ·intro h3b
   have h3:=dF h3b
   refine Au<|C0<|Ad<|Ac<|B9 rfl rfl<|Ae rfl<|Aa<|Ad<|?_
   replace M:=M.perm (Ao _ 1 _ rfl)
   change Mem w0 G (_::_::L) _ at M
   intro a F
   exact ⟨_,by omega,i+1,rfl,F.to ⟨rfl,rfl,rfl,rfl,rfl,trivial⟩,(M.weaken (.cons_cons _ (.cons_cons _ (sR _)))),by omega,fun j hj=>by rcases Nat.lt_succ_iff_lt_or_eq.1 hj with h_ | h_;exact hA j h_;subst h_;assumption⟩
 ·intro h4b
  have h4:=dF h4b
  refine B1<|Bx<|Bx<|Dj<|Ad<|Ab<|Ac<|Af rfl<|Aa<|Ad<|Aj<|Al rfl rfl<|?_
  replace M:=M.perm (Ao _ 1 _ rfl)
  replace M:=M.perm (Ao _ 1 _ rfl)
  change Mem w0 G (_::_::L) _ at M
  exact ⟨M,_,rfl,Or.inl ⟨rfl,fun j hj=>hA j (by omega)⟩⟩
open Go Go.Y Go.Proofs
set_option linter.unusedSimpArgs false
set_option linter.unusedVariables false
def NRes (b:Nat) (c:List UInt8) (l:Nat) (L:List Res) (G':A4) (L':List Res) (v:Value):Prop :=
  ∃ (k:Nat) (a1 c1 t1:Int) (ad:Option Addr) (ln cn:Nat) (ok:Bool) (c':List UInt8) (l':Nat),v=.tuple #[.agg #[.int .u8 ((k:Nat):Int),.int .i64 a1,.int .i64 c1,.int .i64 t1,.slice ad ln cn],.bool ok]∧L' = (.blk b [.string (str c'),.int .i64 ((l':Nat):Int)] 155::L)∧c'.length≤c.length∧l'≤l+1025 ∧
  ((ok=true∧∃ x sz ys,Head x sz∧okI ys∧((ys.length:Nat):Int)=sz∧c=Di x sz++(C1 ys++c')∧l' = l+1+ys.length∧Fb G' [.int .u8 ((k:Nat):Int),.int .i64 a1,.int .i64 c1,.int .i64 t1,.slice ad ln cn] { x with items:=ys }) ∨
   (ok=false∧((¬ H0 c∧l' = l+1)∨∃ x sz ys r,Head x sz∧okI ys∧((ys.length:Nat):Int) < sz∧l' = l+1+ys.length+1∧c=Di x sz++(C1 ys++r)∧¬ Mk r)))
theorem Ajo {ys:List ItemD} {y:ItemD} (h:okI ys) (hy:ItemOk 8 y∧y.key < 18446744073709551616∧y.typ < 256):okI (ys++[y]):=by
 intro z hz
 rcases List.mem_append.1 hz with hz | hz
 ·exact h z hz
 ·rw [List.mem_singleton.1 hz];exact hy
theorem Y4 {w0 w:World} {G:A4} {L:List Res} {b l:Nat} {c:List UInt8} (M:Mem w0 G (.blk b [.string (str c),.int .i64 ((l:Nat):Int)] 155::L) w) (HG:Globs 0 1 2 3 G) (hcl:c.length≤1048576) (hll:l≤2000000) :
  Calls Tryz.prog 85 #[.func (.func 86) #[.pointer (some ⟨b,0,none⟩)] #[]] w (Ij w0 G (NRes b c l L)):=by
 refine Az (vs:=[_]) Tryz.func85 rfl (n:=133) rfl rfl<|Ab<|Ac<|Cz M Bf rfl rfl<|?_;clear M;intro b1 w M
 refine Af rfl<|Aa<|Ad<|Ab<|Ac<|Ae rfl<|?_
 replace M:=M.perm (Ao _ 1 _ rfl)
 change Mem w0 G (_::_::L) _ at M
 intro a F
 refine Yr F ent86 (first:=[.pointer (some ⟨b,0,none⟩)]) rfl rfl rfl (Vl (c:=c) (l:=l) M HG (by omega) (by omega)) ?_;clear F M a;rintro _ w a M rfl F
 have hctk3:=El 10 c
 revert a
 refine Ae rfl<|Ch rfl rfl<|Ch rfl rfl<|Af rfl<|Af rfl<|Aa<|Ad<|Ab<|Ac<|Ae rfl<|Hq Ami rfl rfl (X9 (s:=(Lib.cut c [10]).1) M HG (by omega))<|?_;clear M;rintro _ Gp4 w hGp4 M ⟨ap4,rfl,Sp4⟩
 replace HG:=HG.mono hGp4
 refine Cz M Cd rfl rfl<|?_;clear M;intro b5 w M
 refine Fo Cd M 0 rfl rfl rfl rfl rfl rfl<|?_;clear M;intro w M
 refine Aa<|Ad<|Ab<|Ac<|Br O6 rfl rfl (F8 M)<|?_;clear M;rintro _ w M rfl
 refine Cz M Gj rfl rfl<|?_;clear M;intro b7 w M
 intro a F
 refine Ar F M Gj (k:=0) rfl rfl rfl (us:=H6) rfl rfl (by simp [H6,Value.oneCell']) (Nat.le_refl 36) ?_;clear F M a;intro w a M F
 change Mem w0 Gp4 (.blk b7 H6 139::.blk b5 [.slice ap4 ((Bt ((Lib.cut c [10]).1)).length) ((Bt ((Lib.cut c [10]).1)).length)] 24::.blk b [.string (str ((Lib.cut c [10]).2.1)),.int .i64 ((((l+1):Nat):Int))] 155::.blk b1 [.int .u8 0,.int .i64 0,.int .i64 0,.int .i64 0,.slice none 0 0] 65::L) _ at M
 revert a
 refine Aa<|Ad<|Ab<|?_
 obtain ⟨W,wr,hws,hwsb⟩:=Qg (Lib.cut c [10]).1
 have hW:(Bt (Lib.cut c [10]).1)[0]?=some W:=by rw [hws];rfl
 have hwsl:=congrArg List.length hws
 intro a F
 rw [List.length_cons] at hwsl
 revert a
 refine Ac<|Ap (fun a F=>Ub Gj.k Cc (F.ev rfl)) rfl<|Ap (fun a F=>Dk (vs:=#[.pointer (some ⟨b5,0,none⟩)]) (by simp only [List.map_toArray,List.map_cons,List.map_nil,F.ev (x:=.tmp 6) rfl])) rfl<|?_
 replace M:=M.perm (Ao _ 1 _ rfl)
 replace M:=M.perm (Ao _ 1 _ rfl)
 change Mem w0 Gp4 (_::.blk b5 [.slice ap4 ((Bt ((Lib.cut c [10]).1)).length) ((Bt ((Lib.cut c [10]).1)).length)] 24::_::_::L) _ at M
 refine Br ent134 rfl rfl (P1 Sp4 M hW)<|?_;clear M;rintro _ w M ⟨zz9,rfl,hzz9⟩
 refine Af rfl<|Aa<|Ad<|Ab<|Ab<|Ac<|Ae rfl<|C9 rfl<|Ae rfl<|?_
 rcases bE (!((Lib.cut c [10]).2.2)) with h10b | h11b
 ·skip
  have h10:=Ag h10b
  have h10c:((Lib.cut c [10]).2.2)=false:=(Ag h10b)
  refine g_f rfl (Ak h10c)<|g_f rfl (Ak h10c)<|Bi rfl (Ak h10c) rfl<|Aa<|Ad<|Bk rfl rfl<|Ab<|Ac<|Ap (fun a F=>Am Bf rfl (F.ev rfl) (cs:=[.int .u8 0,.int .i64 0,.int .i64 0,.int .i64 0,.slice none 0 0]) rfl (M.cellsL (k:=3) rfl rfl)) rfl<|fun a F=>?_
  refine Ar F M Bf (k:=3) rfl rfl rfl (us:=[.int .u8 0,.int .i64 0,.int .i64 0,.int .i64 0,.slice none 0 0]) rfl rfl (by simp [Value.oneCell']) (by simp) ?_;clear F M a;intro w a M F
  change Mem w0 Gp4 (_::.blk b5 [.slice ap4 ((Bt ((Lib.cut c [10]).1)).length) ((Bt ((Lib.cut c [10]).1)).length)] 24::_::.blk b1 [.int .u8 0,.int .i64 0,.int .i64 0,.int .i64 0,.slice none 0 0] 65::L) _ at M
  revert a
  refine Af rfl<|Aa<|Ad<|Aj<|Aw<|fun a F=>Cb F M (k:=3) rfl rfl Bf rfl rfl rfl rfl ?_
  replace M:=M.perm (Ao _ 2 _ rfl)
  change Mem w0 Gp4 (_::_::.blk b5 [.slice ap4 ((Bt ((Lib.cut c [10]).1)).length) ((Bt ((Lib.cut c [10]).1)).length)] 24::.blk b1 [.int .u8 0,.int .i64 0,.int .i64 0,.int .i64 0,.slice none 0 0] 65::L) _ at M
  exact ⟨_,_,hGp4,M.weaken (.cons_cons _ (.cons _ (.cons _ (.cons _ (sR _))))),0,0,0,0,none,0,0,false,_,_,rfl,rfl,by omega,by omega,Or.inr ⟨rfl,Or.inl ⟨Sv hws hzz9 (by first | exact Or.inl (by assumption) | exact Or.inr (by omega)),rfl⟩⟩⟩
 ·skip
  have h11:=Ah h11b
  have h11c:((Lib.cut c [10]).2.2)=true:=(Ah h11b)
  refine g_t rfl (Ai h11c)<|Ae rfl<|g_t rfl (Ai h11c)<|Df rfl rfl<|Bh rfl (Ai h11c) rfl<|Aa<|Ad<|Av rfl ?_ ?_
  ·intro h12b
   have h12:=dT h12b
   refine Ab<|Ac<|Ap (fun a F=>Am Bf rfl (F.ev rfl) (cs:=[.int .u8 0,.int .i64 0,.int .i64 0,.int .i64 0,.slice none 0 0]) rfl (M.cellsL (k:=3) rfl rfl)) rfl<|fun a F=>?_
   refine Ar F M Bf (k:=3) rfl rfl rfl (us:=[.int .u8 0,.int .i64 0,.int .i64 0,.int .i64 0,.slice none 0 0]) rfl rfl (by simp [Value.oneCell']) (by simp) ?_;clear F M a;intro w a M F
   change Mem w0 Gp4 (_::.blk b5 [.slice ap4 ((Bt ((Lib.cut c [10]).1)).length) ((Bt ((Lib.cut c [10]).1)).length)] 24::_::.blk b1 [.int .u8 0,.int .i64 0,.int .i64 0,.int .i64 0,.slice none 0 0] 65::L) _ at M
   revert a
   refine Af rfl<|Aa<|Ad<|Aj<|Aw<|fun a F=>Cb F M (k:=3) rfl rfl Bf rfl rfl rfl rfl ?_
   replace M:=M.perm (Ao _ 2 _ rfl)
   change Mem w0 Gp4 (_::_::.blk b5 [.slice ap4 ((Bt ((Lib.cut c [10]).1)).length) ((Bt ((Lib.cut c [10]).1)).length)] 24::.blk b1 [.int .u8 0,.int .i64 0,.int .i64 0,.int .i64 0,.slice none 0 0] 65::L) _ at M
   exact ⟨_,_,hGp4,M.weaken (.cons_cons _ (.cons _ (.cons _ (.cons _ (sR _))))),0,0,0,0,none,0,0,false,_,_,rfl,rfl,by omega,by omega,Or.inr ⟨rfl,Or.inl ⟨Sv hws hzz9 (by first | exact Or.inl (by assumption) | exact Or.inr (by omega)),rfl⟩⟩⟩
  ·intro h13b
   have h13:=dF h13b
   refine Au<|Ad<|Ab<|?_
   have hwt:(Lib.cut c [10]).2.2=true:=by assumption
   obtain ⟨k,hk,hzk,hkW⟩:=Agv hzz9 (by assumption)
   subst hzk
   refine Ac<|Cz M B7 rfl rfl<|?_;clear M;intro b14 w M
   refine Fo B7 M 0 rfl rfl rfl rfl rfl rfl<|?_;clear M;intro w M
   refine Aa<|Ad<|Ab<|Ac<|Ae rfl<|Ap (fun a F=>Dl Ew.k ⟨_,by rw [C5 B7.k]⟩ (F.ev rfl) (Zq (by omega) (by omega))) rfl<|Bc Bf.k rfl rfl<|Fo Ew M 4 rfl rfl rfl rfl rfl rfl<|?_;clear M;intro w M
   refine Aa<|Ad<|Ab<|Ac<|Ae rfl<|Ap (fun a F=>Yj (j:=k) Gj.k Cc (F.ev rfl) (F.ev rfl) rfl (by omega)) rfl<|Ap (fun a F=>Am Cc rfl (F.ev rfl) (cs:=[.string (str (Bz k)),.bool (decide (uAt k)),.bool (decide (uCo k)),.bool (decide (uTo k)),.bool (decide (uIt k)),kfn k]) rfl (M.cellsL (k:=1) rfl (S4 (k:=k) (by omega)))) rfl<|fun a F=>?_
   rw [kfn_pos hk.1] at F
   revert a
   refine Hq ent82 rfl rfl (Vi (k:=k) (b:=b1) (b2:=b14) M)<|?_;clear M;rintro _ Gq16 w hGq16 M ⟨aq16,cq16,rfl,Sq16⟩
   replace HG:=HG.mono hGq16
   replace Sp4:=Sp4.mono Bn hGq16
   refine Af rfl<|Aa<|Ad<|Ab<|Ab<|?_
   have hf4:=Tl (Gi k b1 b14)
   intro a F
   rw [show (Gi k b1 b14).length=4 from rfl] at hf4
   revert a
   refine Ac<|Bl Cd M 2 rfl rfl rfl rfl<|Cg Cd.k rfl<|Ae rfl<|Cg Nr.k rfl<|B9 rfl rfl<|D9 rfl rfl<|Aa<|Ad<|Av rfl ?_ ?_
   ·intro h17b
    have h17:=dF (Ag h17b)
    have h17c:(decide ((((Bt ((Lib.cut c [10]).1)).length:Nat):Int)=((((fm (Gi k b1 b14)).length:Nat):Int))+1))=false:=(Ag h17b)
    refine Ab<|Ac<|Ap (fun a F=>Am Bf rfl (F.ev rfl) (cs:=[.int .u8 ((k:Nat):Int),.int .i64 0,.int .i64 0,.int .i64 0,.slice none 0 0]) rfl (M.cellsL (k:=4) rfl rfl)) rfl<|fun a F=>?_
    refine Ar F M Bf (k:=4) rfl rfl rfl (us:=[.int .u8 ((k:Nat):Int),.int .i64 0,.int .i64 0,.int .i64 0,.slice none 0 0]) rfl rfl (by simp [Value.oneCell']) (by simp) ?_;clear F M a;intro w a M F
    change Mem w0 Gq16 (.blk b14 [.int .i64 0] 3::_::.blk b5 [.slice ap4 ((Bt ((Lib.cut c [10]).1)).length) ((Bt ((Lib.cut c [10]).1)).length)] 24::_::.blk b1 [.int .u8 ((k:Nat):Int),.int .i64 0,.int .i64 0,.int .i64 0,.slice none 0 0] 65::L) _ at M
    revert a
    refine Af rfl<|Aa<|Ad<|Aj<|Aw<|fun a F=>Cb F M (k:=4) rfl rfl Bf rfl rfl rfl rfl ?_
    replace M:=M.perm (Ao _ 3 _ rfl)
    change Mem w0 Gq16 (_::.blk b14 [.int .i64 0] 3::_::.blk b5 [.slice ap4 ((Bt ((Lib.cut c [10]).1)).length) ((Bt ((Lib.cut c [10]).1)).length)] 24::.blk b1 [.int .u8 ((k:Nat):Int),.int .i64 0,.int .i64 0,.int .i64 0,.slice none 0 0] 65::L) _ at M
    exact ⟨_,_,(hGp4.trans hGq16),M.weaken (.cons_cons _ (.cons _ (.cons _ (.cons _ (.cons _ (sR _)))))),k,0,0,0,none,0,0,false,_,_,rfl,rfl,by omega,by omega,Or.inr ⟨rfl,Or.inl ⟨Y8 (b:=b1) (b2:=b14) hws hk hkW (by omega),rfl⟩⟩⟩
   ·intro h18b
    have h18:=dT (Ah h18b)
    have h18c:(decide ((((Bt ((Lib.cut c [10]).1)).length:Nat):Int)=((((fm (Gi k b1 b14)).length:Nat):Int))+1))=true:=(Ah h18b)
    refine Au<|Ad<|Ab<|Ab<|?_
    have hlw:wr.length=(fm (Gi k b1 b14)).length:=by omega
    refine Ac<|Ae rfl<|Cg Nr.k rfl<|Ae rfl<|Aa<|Ad<|A3<|fun a F=>B8 (fun m a' w'=>∃ (i:Nat),∃ (x:NotD),∃ (sz:Int),m=(fm (Gi k b1 b14)).length - i∧Fits 133 a' [(0,.func (.func 86) #[.pointer (some ⟨b,0,none⟩)] #[]),(2,.pointer (some ⟨b1,0,none⟩)),(6,.pointer (some ⟨b5,0,none⟩)),(7,.pointer (some ⟨b7,0,none⟩)),(9,.pointer (some ⟨b14,0,none⟩)),(10,.slice aq16 ((fm (Gi k b1 b14)).length) (cq16)),(52,.slice aq16 ((fm (Gi k b1 b14)).length) (cq16)),(53,.int .i64 ((((fm (Gi k b1 b14)).length:Nat):Int))),(54,.int .i64 ((i:Nat):Int))]∧Mem w0 Gq16 (.blk b14 [.int .i64 sz] 3::.blk b7 H6 139::.blk b5 [.slice ap4 ((Bt ((Lib.cut c [10]).1)).length) ((Bt ((Lib.cut c [10]).1)).length)] 24::.blk b [.string (str ((Lib.cut c [10]).2.1)),.int .i64 ((((l+1):Nat):Int))] 155::.blk b1 [.int .u8 ((x.kind:Nat):Int),.int .i64 x.at_,.int .i64 x.count,.int .i64 x.to,.slice none 0 0] 65::L) w'∧(i≤(fm (Gi k b1 b14)).length)∧(x.kind=k)∧(FlH x sz)∧(Wd wr x sz i)) _ ⟨0,⟨k,0,0,0,[]⟩,0,rfl,F.to ⟨rfl,rfl,rfl,rfl,rfl,rfl,rfl,rfl,rfl,trivial⟩,M,Nat.zero_le _,rfl,fl_zero hk,fun j z h=>by omega⟩ ?_
    clear F M
    rintro m a w ⟨i,x,sz,rfl,F,M,hi,hxk,hfl,hwd⟩
    revert a
    refine Ab<|Ac<|Df rfl rfl<|Aa<|Ad<|Ab<|Av rfl ?_ ?_
    ·intro h19b
     have h19:=dT h19b
     refine Au<|Ad<|Ab<|A3<|Ab<|Ac<|Ae rfl<|?_
     obtain ⟨Xe20,hXe20⟩:=Be (xs:=(fm (Gi k b1 b14))) (i:=i) (by omega)
     obtain ⟨be20,oe20,_,Ie20,_,Ae20,rfl⟩:=Sq16.at hXe20
     refine Fp Nr.k Nq Ie20 rfl rfl<|D4 Nq M Ae20 0 rfl rfl (by omega) rfl<|Af rfl<|Af rfl<|Aa<|Ad<|Ab<|Ac<|Bl Cd M 2 rfl rfl rfl rfl<|Ae rfl<|B9 rfl rfl<|?_
     obtain ⟨Xe21,hXe21⟩:=Be (xs:=Bt ((Lib.cut c [10]).1)) (i:=i+1) (by (have h9_:=hwsl;omega))
     obtain ⟨be21,oe21,_,Ie21,_,Ae21,⟨rfl,hsle21⟩⟩:=Sp4.at hXe21
     refine Fp Cd.k Bq Ie21 rfl rfl<|D4 Bq M Ae21 0 rfl rfl (by omega) rfl<|?_
     have hwi:wr[i]?=some Xe21:=by have h_:=hXe21;rw [hws] at h_;simpa using h_
     have hwl:=Rr (List.mem_of_getElem? hXe21)
     refine Br ent136 rfl rfl (Ahy (s:=Xe21) M HG (by omega))<|?_;clear M;rintro _ w M ⟨zt22,ert22,rfl,het22,hat22⟩
     refine Ae rfl<|Ch rfl rfl<|Ch rfl rfl<|Af rfl<|Af rfl<|Aa<|Ad<|Ab<|Ab<|fun a F=>Of [(.free,0),(.free,1),(.free,2),(.free,3),(.pure,5),(.free,6),(.free,7),(.free,8),(.pure,9),(.keep,4),(.free,10),(.free,11)] [] (Keep Gq16 [.blk b5 [.slice ap4 ((Bt ((Lib.cut c [10]).1)).length) ((Bt ((Lib.cut c [10]).1)).length)] 24]) rfl (by kernel_rfl) (fun c a d v w h=>by cases d <;> exact h) ((M.drew _).keep (Gle.refl _) (by simp)) ?_
     replace M:=M.drew (w.drawn+1)
     revert a
     refine k_f (fun a F w _=>Cj F rfl) rfl<|k_f (fun a F w _=>Abj Rm.k het22 (F.ev rfl) rfl) rfl<|k_f (fun a F w _=>Cj F rfl) rfl<|?_
     rcases bE (!(D5 ert22)) with h23b | h24b
     ·skip
      have h23:=Ag h23b
      have h23c:(D5 ert22)=false:=(Ag h23b)
      refine k_s rfl (Ak h23c)<|k_s rfl (Ak h23c)<|k_s rfl (Ak h23c)<|k_s rfl (Ak h23c)<|k_s rfl (Ak h23c)<|k_s rfl (Ak h23c)<|k_s rfl (Ak h23c)<|k_s rfl (Ak h23c)<|k_f (fun a F w _=>H4 F rfl (Ak h23c) rfl) rfl<|D1<|?_
      generalize ({ w with drawn:=w.drawn+1 }:World)=w at M ⊢
      refine Ad<|Bk rfl rfl<|Ab<|Ac<|Ap (fun a F=>Am Bf rfl (F.ev rfl) (cs:=[.int .u8 ((x.kind:Nat):Int),.int .i64 x.at_,.int .i64 x.count,.int .i64 x.to,.slice none 0 0]) rfl (M.cellsL (k:=4) rfl rfl)) rfl<|fun a F=>?_
      refine Ar F M Bf (k:=4) rfl rfl rfl (us:=[.int .u8 ((x.kind:Nat):Int),.int .i64 x.at_,.int .i64 x.count,.int .i64 x.to,.slice none 0 0]) rfl rfl (by simp [Value.oneCell']) (by simp) ?_;clear F M a;intro w a M F
      change Mem w0 Gq16 (_::_::.blk b5 [.slice ap4 ((Bt ((Lib.cut c [10]).1)).length) ((Bt ((Lib.cut c [10]).1)).length)] 24::_::.blk b1 [.int .u8 ((x.kind:Nat):Int),.int .i64 x.at_,.int .i64 x.count,.int .i64 x.to,.slice none 0 0] 65::L) _ at M
      revert a
      refine Af rfl<|Aa<|Ad<|Aj<|Aw<|Bo<|Aw<|Aw<|Bo<|Aw<|fun a F=>Cb F M (k:=4) rfl rfl Bf rfl rfl rfl rfl ?_
      replace M:=M.perm (Ao _ 3 _ rfl)
      change Mem w0 Gq16 (_::_::_::.blk b5 [.slice ap4 ((Bt ((Lib.cut c [10]).1)).length) ((Bt ((Lib.cut c [10]).1)).length)] 24::.blk b1 [.int .u8 ((x.kind:Nat):Int),.int .i64 x.at_,.int .i64 x.count,.int .i64 x.to,.slice none 0 0] 65::L) _ at M
      exact ⟨_,_,(hGp4.trans hGq16),M.weaken (.cons_cons _ (.cons _ (.cons _ (.cons _ (.cons _ (sR _)))))),x.kind,x.at_,x.count,x.to,none,0,0,false,_,_,rfl,rfl,by omega,by omega,Or.inr ⟨rfl,Or.inl ⟨Y7 hws hk hkW hwi hat22 (by first | exact Or.inl (by assumption) | exact Or.inr (by assumption)),rfl⟩⟩⟩
     ·skip
      have h24:=Ah h24b
      have h24c:(D5 ert22)=true:=(Ah h24b)
      refine Db rfl (Ai h24c) (fun a F w _=>Cj F rfl)<|Ig rfl (Ai h24c) (fun a F w M=>Aq (agf Cd rfl) (F.ev rfl) (M.cellL (k:=0) rfl rfl))<|Db rfl (Ai h24c) (fun a F w _=>Cj F rfl)<|Db rfl (Ai h24c) (fun a F w _=>Fj (F.ev rfl) (F.ev rfl) (Cr (by omega) (by omega)))<|?_
      obtain ⟨be25,oe25,_,Ie25,_,Ae25,⟨rfl,hsle25⟩⟩:=Sp4.at hXe21
      refine Db rfl (Ai h24c) (fun a F w _=>Ca Cd.k Bq (F.ev rfl) (F.ev rfl) (by omega) Ie25)<|Ig rfl (Ai h24c) (fun a F w M=>Aq (agf Bq rfl) (F.ev rfl) (M.cellA Ae25 0 (by omega) rfl))<|fun a F=>Hi F rfl rfl (Ai h24c) ?_
      revert a
      refine g_t rfl (Ai h24c)<|Br Aet rfl rfl (Tb (z:=zt22) M HG (Aae (ok_of hat22 (by assumption))))<|?_;clear M;rintro _ w M rfl
      refine Aa<|eK (C':=Keep Gq16 [.blk b5 [.slice ap4 ((Bt ((Lib.cut c [10]).1)).length) ((Bt ((Lib.cut c [10]).1)).length)] 24]) (M.keep (Gle.refl _) (by simp)) (fun w h=>h.mono (Gle.refl _) (by simp))<|Db rfl (Ai h24c) (fun a F w _=>Jd (F.ev rfl) (F.ev rfl))<|k_f (fun a F w _=>Gy F rfl (Ai h24c) rfl) rfl<|D1<|Ad<|Av rfl ?_ ?_
      ·intro h26b
       have h26:=dF (Ag h26b)
       have h26c:(decide ((Lib.itoa zt22)=Xe21))=false:=(Ag h26b)
       refine Ab<|Ac<|Ap (fun a F=>Am Bf rfl (F.ev rfl) (cs:=[.int .u8 ((x.kind:Nat):Int),.int .i64 x.at_,.int .i64 x.count,.int .i64 x.to,.slice none 0 0]) rfl (M.cellsL (k:=4) rfl rfl)) rfl<|fun a F=>?_
       refine Ar F M Bf (k:=4) rfl rfl rfl (us:=[.int .u8 ((x.kind:Nat):Int),.int .i64 x.at_,.int .i64 x.count,.int .i64 x.to,.slice none 0 0]) rfl rfl (by simp [Value.oneCell']) (by simp) ?_;clear F M a;intro w a M F
       change Mem w0 Gq16 (_::_::.blk b5 [.slice ap4 ((Bt ((Lib.cut c [10]).1)).length) ((Bt ((Lib.cut c [10]).1)).length)] 24::_::.blk b1 [.int .u8 ((x.kind:Nat):Int),.int .i64 x.at_,.int .i64 x.count,.int .i64 x.to,.slice none 0 0] 65::L) _ at M
       revert a
       refine Af rfl<|Aa<|Ad<|Aj<|Aw<|Bo<|Aw<|Aw<|Bo<|Aw<|fun a F=>Cb F M (k:=4) rfl rfl Bf rfl rfl rfl rfl ?_
       replace M:=M.perm (Ao _ 3 _ rfl)
       change Mem w0 Gq16 (_::_::_::.blk b5 [.slice ap4 ((Bt ((Lib.cut c [10]).1)).length) ((Bt ((Lib.cut c [10]).1)).length)] 24::.blk b1 [.int .u8 ((x.kind:Nat):Int),.int .i64 x.at_,.int .i64 x.count,.int .i64 x.to,.slice none 0 0] 65::L) _ at M
       exact ⟨_,_,(hGp4.trans hGq16),M.weaken (.cons_cons _ (.cons _ (.cons _ (.cons _ (.cons _ (sR _)))))),x.kind,x.at_,x.count,x.to,none,0,0,false,_,_,rfl,rfl,by omega,by omega,Or.inr ⟨rfl,Or.inl ⟨Y7 hws hk hkW hwi hat22 (by first | exact Or.inl (by assumption) | exact Or.inr (by assumption)),rfl⟩⟩⟩
      ·intro h27b
       have h27:=dT (Ah h27b)
       have h27c:(decide ((Lib.itoa zt22)=Xe21))=true:=(Ah h27b)
       refine Au<|Ad<|?_
       have hao:=ok_of hat22 (by assumption)
       have hiw:Lib.itoa zt22=Xe21:=by assumption
       have hXp2:(fm (Gi x.kind b1 b14))[i]?=some Xe20:=by rw [hxk];exact hXe20
       obtain ⟨hpk,hpf,hpw⟩:=put_ok hXp2 hfl hwd (Aae hao) (by rw [hiw];exact hwi)
       obtain ⟨hpa,hpp⟩:=Adr (sz:=sz) (v:=zt22) hXp2
       intro a F
       refine Qd (fun a' w'=>Fits 133 a' [(0,.func (.func 86) #[.pointer (some ⟨b,0,none⟩)] #[]),(2,.pointer (some ⟨b1,0,none⟩)),(6,.pointer (some ⟨b5,0,none⟩)),(7,.pointer (some ⟨b7,0,none⟩)),(9,.pointer (some ⟨b14,0,none⟩)),(10,.slice aq16 ((fm (Gi k b1 b14)).length) (cq16)),(52,.slice aq16 ((fm (Gi k b1 b14)).length) (cq16)),(53,.int .i64 ((((fm (Gi k b1 b14)).length:Nat):Int))),(54,.int .i64 ((i:Nat):Int))]∧Mem w0 Gq16 (.blk b14 [.int .i64 ((L4 x sz Xe20.2 zt22).2)] 3::.blk b7 H6 139::.blk b5 [.slice ap4 ((Bt ((Lib.cut c [10]).1)).length) ((Bt ((Lib.cut c [10]).1)).length)] 24::.blk b [.string (str ((Lib.cut c [10]).2.1)),.int .i64 ((((l+1):Nat):Int))] 155::.blk b1 [.int .u8 ((((L4 x sz Xe20.2 zt22).1.kind:Nat):Int)),.int .i64 ((L4 x sz Xe20.2 zt22).1.at_),.int .i64 ((L4 x sz Xe20.2 zt22).1.count),.int .i64 ((L4 x sz Xe20.2 zt22).1.to),.slice none 0 0] 65::L) w') ?_ ?_
       ·skip
        rcases hpp with ⟨rfl,_⟩ | ⟨rfl,_⟩ | ⟨rfl,_⟩ | ⟨rfl,_⟩
        ·skip
         revert a
         refine Ac<|Ae rfl<|Ae rfl<|Ep rfl<|Fo B7 M 4 rfl rfl rfl rfl rfl rfl<|?_;clear M;intro w M
         refine Aa<|fun a F=>?_
         exact ⟨F.to ⟨rfl,rfl,rfl,rfl,rfl,rfl,rfl,rfl,rfl,trivial⟩,M⟩
        ·skip
         revert a
         refine Ac<|Ae rfl<|Ae rfl<|Ep rfl<|Fo B7 M 4 rfl rfl rfl rfl rfl rfl<|?_;clear M;intro w M
         refine Aa<|fun a F=>?_
         exact ⟨F.to ⟨rfl,rfl,rfl,rfl,rfl,rfl,rfl,rfl,rfl,trivial⟩,M⟩
        ·skip
         revert a
         refine Ac<|Ae rfl<|Ae rfl<|Ep rfl<|Fo B7 M 4 rfl rfl rfl rfl rfl rfl<|?_;clear M;intro w M
         refine Aa<|fun a F=>?_
         exact ⟨F.to ⟨rfl,rfl,rfl,rfl,rfl,rfl,rfl,rfl,rfl,trivial⟩,M⟩
        ·skip
         revert a
         refine Ac<|Ae rfl<|Ae rfl<|Ep rfl<|Fo B7 M 0 rfl rfl rfl rfl rfl rfl<|?_;clear M;intro w M
         refine Aa<|fun a F=>?_
         exact ⟨F.to ⟨rfl,rfl,rfl,rfl,rfl,rfl,rfl,rfl,rfl,trivial⟩,M⟩
       ·clear F M
        rintro a w ⟨F,M⟩
        revert a
        refine C0<|Ad<|Ac<|B9 rfl rfl<|Ae rfl<|Aa<|Ad<|fun a F=>?_
        exact ⟨_,by omega,i+1,(L4 x sz Xe20.2 zt22).1,(L4 x sz Xe20.2 zt22).2,rfl,F.to ⟨rfl,rfl,rfl,rfl,rfl,rfl,rfl,rfl,rfl,trivial⟩,M,by omega,hpk.trans hxk,hpf,hpw⟩
    ·intro h28b
     have h28:=dF h28b
     refine B1<|Bx<|Bx<|Dj<|Ad<|Ab<|Ab<|?_
     have hfe:=Rh (x:=x) (b:=b1) (b2:=b14) (sz:=sz)
     intro a F
     rw [hxk] at hfe
     have hwr:=wd_all hwd (by omega) (by omega)
     revert a
     refine Ac<|Bl B7 M 0 rfl rfl rfl rfl<|Df rfl rfl<|Ae rfl<|?_
     rcases bE (decide (sz < 0)) with h29b | h30b
     ·skip
      have h29:=dT h29b
      refine g_f rfl h29b<|g_f rfl h29b<|Bi rfl h29b rfl<|Aa<|Ad<|Bk rfl rfl<|Ab<|Ac<|Ap (fun a F=>Am Bf rfl (F.ev rfl) (cs:=[.int .u8 ((x.kind:Nat):Int),.int .i64 x.at_,.int .i64 x.count,.int .i64 x.to,.slice none 0 0]) rfl (M.cellsL (k:=4) rfl rfl)) rfl<|fun a F=>?_
      refine Ar F M Bf (k:=4) rfl rfl rfl (us:=[.int .u8 ((x.kind:Nat):Int),.int .i64 x.at_,.int .i64 x.count,.int .i64 x.to,.slice none 0 0]) rfl rfl (by simp [Value.oneCell']) (by simp) ?_;clear F M a;intro w a M F
      change Mem w0 Gq16 (_::_::.blk b5 [.slice ap4 ((Bt ((Lib.cut c [10]).1)).length) ((Bt ((Lib.cut c [10]).1)).length)] 24::_::.blk b1 [.int .u8 ((x.kind:Nat):Int),.int .i64 x.at_,.int .i64 x.count,.int .i64 x.to,.slice none 0 0] 65::L) _ at M
      revert a
      refine Af rfl<|Aa<|Ad<|Aj<|Aw<|fun a F=>Cb F M (k:=4) rfl rfl Bf rfl rfl rfl rfl ?_
      replace M:=M.perm (Ao _ 3 _ rfl)
      change Mem w0 Gq16 (_::_::_::.blk b5 [.slice ap4 ((Bt ((Lib.cut c [10]).1)).length) ((Bt ((Lib.cut c [10]).1)).length)] 24::.blk b1 [.int .u8 ((x.kind:Nat):Int),.int .i64 x.at_,.int .i64 x.count,.int .i64 x.to,.slice none 0 0] 65::L) _ at M
      exact ⟨_,_,(hGp4.trans hGq16),M.weaken (.cons_cons _ (.cons _ (.cons _ (.cons _ (.cons _ (sR _)))))),x.kind,x.at_,x.count,x.to,none,0,0,false,_,_,rfl,rfl,by omega,by omega,Or.inr ⟨rfl,Or.inl ⟨Y6 hws hfl (by rw [hxk];exact hkW) hwr (by omega),rfl⟩⟩⟩
     ·skip
      have h30:=dF h30b
      refine g_t rfl h30b<|Bl B7 M 0 rfl rfl rfl rfl<|g_t rfl h30b<|Dn rfl rfl<|Bh rfl h30b rfl<|Aa<|Ad<|Av rfl ?_ ?_
      ·intro h31b
       have h31:=dT h31b
       refine Ab<|Ac<|Ap (fun a F=>Am Bf rfl (F.ev rfl) (cs:=[.int .u8 ((x.kind:Nat):Int),.int .i64 x.at_,.int .i64 x.count,.int .i64 x.to,.slice none 0 0]) rfl (M.cellsL (k:=4) rfl rfl)) rfl<|fun a F=>?_
       refine Ar F M Bf (k:=4) rfl rfl rfl (us:=[.int .u8 ((x.kind:Nat):Int),.int .i64 x.at_,.int .i64 x.count,.int .i64 x.to,.slice none 0 0]) rfl rfl (by simp [Value.oneCell']) (by simp) ?_;clear F M a;intro w a M F
       change Mem w0 Gq16 (_::_::.blk b5 [.slice ap4 ((Bt ((Lib.cut c [10]).1)).length) ((Bt ((Lib.cut c [10]).1)).length)] 24::_::.blk b1 [.int .u8 ((x.kind:Nat):Int),.int .i64 x.at_,.int .i64 x.count,.int .i64 x.to,.slice none 0 0] 65::L) _ at M
       revert a
       refine Af rfl<|Aa<|Ad<|Aj<|Aw<|fun a F=>Cb F M (k:=4) rfl rfl Bf rfl rfl rfl rfl ?_
       replace M:=M.perm (Ao _ 3 _ rfl)
       change Mem w0 Gq16 (_::_::_::.blk b5 [.slice ap4 ((Bt ((Lib.cut c [10]).1)).length) ((Bt ((Lib.cut c [10]).1)).length)] 24::.blk b1 [.int .u8 ((x.kind:Nat):Int),.int .i64 x.at_,.int .i64 x.count,.int .i64 x.to,.slice none 0 0] 65::L) _ at M
       exact ⟨_,_,(hGp4.trans hGq16),M.weaken (.cons_cons _ (.cons _ (.cons _ (.cons _ (.cons _ (sR _)))))),x.kind,x.at_,x.count,x.to,none,0,0,false,_,_,rfl,rfl,by omega,by omega,Or.inr ⟨rfl,Or.inl ⟨Y6 hws hfl (by rw [hxk];exact hkW) hwr (by omega),rfl⟩⟩⟩
      ·intro h32b
       have h32:=dF h32b
       refine Au<|Ad<|Ab<|Ab<|?_
       have hh:=hfl.head (by omega)
       have hcc:=head_of hws (by rw [hxk];exact hkW) hwr hwt
       obtain ⟨p,hp⟩:=Int.eq_ofNat_of_zero_le hh.rs.1
       subst hp
       have hp4:=hh.rs.2
       refine Ac<|Bl B7 M 0 rfl rfl rfl rfl<|Ae rfl<|Aa<|Ad<|A3<|?_
       have M:=M.nilrow 26 4
       change Mem w0 Gq16 (.row (.slice none 0 0) 0 ([]) 26 4::.blk b14 [.int .i64 ((p:Nat):Int)] 3::.blk b7 H6 139::.blk b5 [.slice ap4 ((Bt ((Lib.cut c [10]).1)).length) ((Bt ((Lib.cut c [10]).1)).length)] 24::.blk b [.string (str ((Lib.cut c [10]).2.1)),.int .i64 ((((l+1):Nat):Int))] 155::.blk b1 [.int .u8 ((x.kind:Nat):Int),.int .i64 x.at_,.int .i64 x.count,.int .i64 x.to,.slice none 0 0] 65::L) _ at M
       intro a F
       refine B8 (fun m a' w'=>∃ (j:Nat),∃ (ys:List ItemD),∃ (cj:List UInt8),∃ (ar:Option Addr),∃ (nr:Nat),∃ (cr:Nat),∃ (csr:List Value),m=p - j∧∃ G33,Gle Gq16 G33∧Fits 133 a' [(0,.func (.func 86) #[.pointer (some ⟨b,0,none⟩)] #[]),(2,.pointer (some ⟨b1,0,none⟩)),(92,.int .i64 ((p:Nat):Int)),(93,.int .i64 ((j:Nat):Int))]∧Mem w0 G33 (.row (.slice ar nr cr) (nr) (csr) 26 4::.blk b14 [.int .i64 ((p:Nat):Int)] 3::.blk b7 H6 139::.blk b5 [.slice ap4 ((Bt ((Lib.cut c [10]).1)).length) ((Bt ((Lib.cut c [10]).1)).length)] 24::.blk b [.string (str cj),.int .i64 ((((l+1+j):Nat):Int))] 155::.blk b1 [.int .u8 ((x.kind:Nat):Int),.int .i64 x.at_,.int .i64 x.count,.int .i64 x.to,.slice ar nr cr] 65::L) w'∧(j≤p)∧(ys.length=j)∧(okI ys)∧((Lib.cut c [10]).2.1=C1 ys++cj)∧(cj.length≤c.length)∧(Els Cn 4 G33 csr ys)∧(nr≤j)) _ ⟨0,[],_,none,0,0,[],rfl,Gq16,Gle.refl _,F.to ⟨rfl,rfl,rfl,rfl,trivial⟩,M,Nat.zero_le _,rfl,(fun y hy=>by cases hy),rfl,by omega,Els.nil,by omega⟩ ?_
       clear F M
       rintro m a w ⟨j,ys,cj,ar,nr,cr,csr,rfl,G33,hG33,F,M,hj,hyl,hok,hcj,hcl2,Er,hnr⟩
       replace HG:=HG.mono hG33
       replace Sp4:=Sp4.mono Bn hG33
       replace Sq16:=Sq16.mono Kg hG33
       revert a
       refine Ab<|Ac<|Df rfl rfl<|Aa<|Ad<|Ab<|Av rfl ?_ ?_
       ·intro h34b
        have h34:=dT h34b
        refine Au<|Ad<|Ab<|A3<|Ab<|Ac<|Ae rfl<|?_
        replace M:=M.perm (Ao _ 4 _ rfl)
        change Mem w0 G33 (_::_::_::_::_::_::L) _ at M
        intro a F
        refine Yr F ent86 (first:=[.pointer (some ⟨b,0,none⟩)]) rfl rfl rfl (Vl (c:=cj) (l:=(l+1+j)) M HG (by omega) (by omega)) ?_;clear F M a;rintro _ w a M rfl F
        have hctk35:=El 10 cj
        revert a
        refine Ae rfl<|Ch rfl rfl<|Ch rfl rfl<|Af rfl<|Af rfl<|Aa<|Ad<|Ab<|Ac<|Ae rfl<|Ap (fun a F=>Bv (F.ev rfl) (F.ev rfl) (by (first | omega | (simp only [List.length_append,List.length_cons,List.length_nil];omega)))) rfl<|Hq ent12 rfl rfl (Abw (s:=(((Lib.cut cj [10]).1)++([10]:List UInt8))) M HG (by (first | omega | (simp only [List.length_append,List.length_cons,List.length_nil];omega))))<|?_;clear M;rintro _ Gq36 w hGq36 M ⟨aq36,rfl,Sq36⟩
        replace HG:=HG.mono hGq36
        replace Sp4:=Sp4.mono Bn hGq36
        replace Sq16:=Sq16.mono Kg hGq36
        replace Er:=Er.mono A0 hGq36
        refine Ae rfl<|Ch rfl rfl<|Ch rfl rfl<|Ch rfl rfl<|Af rfl<|Af rfl<|Af rfl<|Aa<|Ad<|Ab<|Ab<|Ac<|Ae rfl<|C9 rfl<|Ae rfl<|?_
        rcases bE (!((Lib.cut cj [10]).2.2)) with h37b | h38b
        ·skip
         have h37:=Ag h37b
         have h37c:((Lib.cut cj [10]).2.2)=false:=(Ag h37b)
         refine g_f rfl (Ak h37c)<|g_f rfl (Ak h37c)<|Bi rfl (Ak h37c) rfl<|Ae rfl<|g_f rfl rfl<|g_f rfl rfl<|g_f rfl rfl<|Bi rfl rfl rfl<|Aa<|Ad<|Bk rfl rfl<|Ab<|Ac<|Ap (fun a F=>Am Bf rfl (F.ev rfl) (cs:=[.int .u8 ((x.kind:Nat):Int),.int .i64 x.at_,.int .i64 x.count,.int .i64 x.to,.slice ar nr cr]) rfl (M.cellsL (k:=5) rfl rfl)) rfl<|fun a F=>?_
         refine Ar F M Bf (k:=5) rfl rfl rfl (us:=[.int .u8 ((x.kind:Nat):Int),.int .i64 x.at_,.int .i64 x.count,.int .i64 x.to,.slice ar nr cr]) rfl rfl (by simp [Value.oneCell']) (by simp) ?_;clear F M a;intro w a M F
         change Mem w0 Gq36 (_::_::_::_::_::.blk b1 [.int .u8 ((x.kind:Nat):Int),.int .i64 x.at_,.int .i64 x.count,.int .i64 x.to,.slice ar nr cr] 65::L) _ at M
         revert a
         refine Af rfl<|Aa<|Ad<|Aj<|Aw<|Bo<|Aw<|Aw<|Bo<|Aw<|fun a F=>Cb F M (k:=5) rfl rfl Bf rfl rfl rfl rfl ?_
         change Mem w0 Gq36 (_::_::_::_::_::.blk b1 [.int .u8 ((x.kind:Nat):Int),.int .i64 x.at_,.int .i64 x.count,.int .i64 x.to,.slice ar nr cr] 65::L) _ at M
         exact ⟨_,_,(((hGp4.trans hGq16).trans hG33).trans hGq36),M.weaken (.cons_cons _ (.cons _ (.cons _ (.cons _ (.cons _ (.cons _ (sR _))))))),x.kind,x.at_,x.count,x.to,ar,nr,cr,false,_,_,rfl,rfl,by omega,by omega,Or.inr ⟨rfl,Or.inr ⟨x,_,ys,cj,hh,hok,by omega,by omega,by rw [← hcj];exact hcc,Xg (c:=cj) (by omega) (by first | exact Or.inl (by assumption) | exact Or.inr (Or.inl (by assumption)) | exact Or.inr (Or.inl (by omega)) | exact Or.inr (Or.inr (by omega)))⟩⟩⟩
        ·skip
         have h38:=Ah h38b
         have h38c:((Lib.cut cj [10]).2.2)=true:=(Ah h38b)
         refine g_t rfl (Ai h38c)<|Ae rfl<|g_t rfl (Ai h38c)<|D9 rfl rfl<|Bh rfl (Ai h38c) rfl<|Ae rfl<|?_
         rcases bE (!(decide ((D8 (((Lib.cut cj [10]).1)++([10]:List UInt8))).2.2=0))) with h39b | h40b
         ·skip
          have h39:=dF (Ag h39b)
          have h39c:(decide ((D8 (((Lib.cut cj [10]).1)++([10]:List UInt8))).2.2=0))=false:=(Ag h39b)
          refine g_f rfl (Ak h39c)<|g_f rfl (Ak h39c)<|g_f rfl (Ak h39c)<|Bi rfl (Ak h39c) rfl<|Aa<|Ad<|Bk rfl rfl<|Ab<|Ac<|Ap (fun a F=>Am Bf rfl (F.ev rfl) (cs:=[.int .u8 ((x.kind:Nat):Int),.int .i64 x.at_,.int .i64 x.count,.int .i64 x.to,.slice ar nr cr]) rfl (M.cellsL (k:=5) rfl rfl)) rfl<|fun a F=>?_
          refine Ar F M Bf (k:=5) rfl rfl rfl (us:=[.int .u8 ((x.kind:Nat):Int),.int .i64 x.at_,.int .i64 x.count,.int .i64 x.to,.slice ar nr cr]) rfl rfl (by simp [Value.oneCell']) (by simp) ?_;clear F M a;intro w a M F
          change Mem w0 Gq36 (_::_::_::_::_::.blk b1 [.int .u8 ((x.kind:Nat):Int),.int .i64 x.at_,.int .i64 x.count,.int .i64 x.to,.slice ar nr cr] 65::L) _ at M
          revert a
          refine Af rfl<|Aa<|Ad<|Aj<|Aw<|Bo<|Aw<|Aw<|Bo<|Aw<|fun a F=>Cb F M (k:=5) rfl rfl Bf rfl rfl rfl rfl ?_
          change Mem w0 Gq36 (_::_::_::_::_::.blk b1 [.int .u8 ((x.kind:Nat):Int),.int .i64 x.at_,.int .i64 x.count,.int .i64 x.to,.slice ar nr cr] 65::L) _ at M
          exact ⟨_,_,(((hGp4.trans hGq16).trans hG33).trans hGq36),M.weaken (.cons_cons _ (.cons _ (.cons _ (.cons _ (.cons _ (.cons _ (sR _))))))),x.kind,x.at_,x.count,x.to,ar,nr,cr,false,_,_,rfl,rfl,by omega,by omega,Or.inr ⟨rfl,Or.inr ⟨x,_,ys,cj,hh,hok,by omega,by omega,by rw [← hcj];exact hcc,Xg (c:=cj) (by omega) (by first | exact Or.inl (by assumption) | exact Or.inr (Or.inl (by assumption)) | exact Or.inr (Or.inl (by omega)) | exact Or.inr (Or.inr (by omega)))⟩⟩⟩
         ·skip
          have h40:=dT (Ah h40b)
          have h40c:(decide ((D8 (((Lib.cut cj [10]).1)++([10]:List UInt8))).2.2=0))=true:=(Ah h40b)
          refine g_t rfl (Ai h40c)<|Ae rfl<|g_t rfl (Ai h40c)<|Cg B5.k rfl<|g_t rfl (Ai h40c)<|D9 rfl rfl<|Bh rfl (Ai h40c) rfl<|Aa<|Ad<|Av rfl ?_ ?_
          ·intro h41b
           have h41:=dF (Ag h41b)
           have h41c:(decide ((((D8 (((Lib.cut cj [10]).1)++([10]:List UInt8))).1.length:Nat):Int)=1))=false:=(Ag h41b)
           refine Ab<|Ac<|Ap (fun a F=>Am Bf rfl (F.ev rfl) (cs:=[.int .u8 ((x.kind:Nat):Int),.int .i64 x.at_,.int .i64 x.count,.int .i64 x.to,.slice ar nr cr]) rfl (M.cellsL (k:=5) rfl rfl)) rfl<|fun a F=>?_
           refine Ar F M Bf (k:=5) rfl rfl rfl (us:=[.int .u8 ((x.kind:Nat):Int),.int .i64 x.at_,.int .i64 x.count,.int .i64 x.to,.slice ar nr cr]) rfl rfl (by simp [Value.oneCell']) (by simp) ?_;clear F M a;intro w a M F
           change Mem w0 Gq36 (_::_::_::_::_::.blk b1 [.int .u8 ((x.kind:Nat):Int),.int .i64 x.at_,.int .i64 x.count,.int .i64 x.to,.slice ar nr cr] 65::L) _ at M
           revert a
           refine Af rfl<|Aa<|Ad<|Aj<|Aw<|Bo<|Aw<|Aw<|Bo<|Aw<|fun a F=>Cb F M (k:=5) rfl rfl Bf rfl rfl rfl rfl ?_
           change Mem w0 Gq36 (_::_::_::_::_::.blk b1 [.int .u8 ((x.kind:Nat):Int),.int .i64 x.at_,.int .i64 x.count,.int .i64 x.to,.slice ar nr cr] 65::L) _ at M
           exact ⟨_,_,(((hGp4.trans hGq16).trans hG33).trans hGq36),M.weaken (.cons_cons _ (.cons _ (.cons _ (.cons _ (.cons _ (.cons _ (sR _))))))),x.kind,x.at_,x.count,x.to,ar,nr,cr,false,_,_,rfl,rfl,by omega,by omega,Or.inr ⟨rfl,Or.inr ⟨x,_,ys,cj,hh,hok,by omega,by omega,by rw [← hcj];exact hcc,Xg (c:=cj) (by omega) (by first | exact Or.inl (by assumption) | exact Or.inr (Or.inl (by assumption)) | exact Or.inr (Or.inl (by omega)) | exact Or.inr (Or.inr (by omega)))⟩⟩⟩
          ·intro h42b
           have h42:=dT (Ah h42b)
           have h42c:(decide ((((D8 (((Lib.cut cj [10]).1)++([10]:List UInt8))).1.length:Nat):Int)=1))=true:=(Ah h42b)
           refine Au<|Ad<|?_
           obtain ⟨y,hy1,hyok,hcy⟩:=Aks (c:=cj) (by assumption) (by omega) (by omega) (by omega)
           intro a F
           refine Of [(.free,0),(.pure,1),(.free,2),(.free,3),(.pure,4),(.keep,5),(.chg,6),(.free,7),(.chg,8)] [6,8] (Keep Gq36 [.blk b1 [.int .u8 ((x.kind:Nat):Int),.int .i64 x.at_,.int .i64 x.count,.int .i64 x.to,.slice ar nr cr] 65]) rfl (by kernel_rfl) (fun c a d v w h=>by cases d <;> exact h) ((M.drew _).keep (Gle.refl _) (by simp)) ?_
           replace M:=M.drew (w.drawn+1)
           revert a
           refine k_f (fun a F w _=>Co Bf.k rfl F rfl) rfl<|k_p (fun a F w M=>Aq (agf B5 rfl) (F.ev rfl) (M.cellL (k:=0) rfl rfl)) rfl<|k_f (fun a F w _=>Cj F rfl) rfl<|?_
           obtain ⟨be43,oe43,_,Ie43,_,Ae43,hTe43⟩:=Sq36.at (show (D8 ((Lib.cut cj [10]).1++[10])).1[0]?=some y by rw [hy1];rfl)
           obtain ⟨mae43,mce43,rfl,hke43,hte43,hxe43,hne43,SMe43⟩:=hTe43
           have hIe43:(y.key < 18446744073709551616∧y.typ < 256∧y.text.length≤9223372036854775807):=⟨hke43,hte43,hxe43⟩
           refine k_f (fun a F w _=>Ca B5.k A1 (F.ev rfl) (F.ev rfl) (by omega) Ie43) rfl<|k_p (fun a F w M=>Am A1 rfl (F.ev rfl) (cs:=[.int .u64 ((y.key:Nat):Int),.int .u8 ((y.typ:Nat):Int),.string (str y.text),.slice mae43 y.marks.length mce43]) rfl (M.cellsA Ae43 0 (by omega) rfl)) rfl<|k_k rfl<|fun a F=>?_
           refine Ci F M B5.k A1 rfl rfl (cs:=[.int .u64 ((y.key:Nat):Int),.int .u8 ((y.typ:Nat):Int),.string (str y.text),.slice mae43 y.marks.length mce43]) rfl rfl (by simp [Value.oneCell']) (by decide) rfl ?_;clear F M a;intro v44 w a M F
           obtain ⟨av44,cv44,rfl,hlev44,hcmv44,hlv44⟩:=M.row_shape (k:=0) rfl
           revert a
           refine Aa<|eK (C':=Keep Gq36 [.blk b1 [.int .u8 ((x.kind:Nat):Int),.int .i64 x.at_,.int .i64 x.count,.int .i64 x.to,.slice ar nr cr] 65]) (M.keep (Gle.refl _) (by simp)) (fun w h=>h.mono (Gle.refl _) (by simp))<|?_
           have Eb:Els Cn 4 Gq36 [.int .u64 ((y.key:Nat):Int),.int .u8 ((y.typ:Nat):Int),.string (str y.text),.slice mae43 y.marks.length mce43] [y]:=⟨[.int .u64 ((y.key:Nat):Int),.int .u8 ((y.typ:Nat):Int),.string (str y.text),.slice mae43 y.marks.length mce43],[],rfl,rfl,⟨mae43,mce43,rfl,hIe43.1,hIe43.2.1,hIe43.2.2,(by have h_:=SMe43.bound;omega),SMe43⟩,rfl⟩
           refine k_c rfl<|fun a F=>?_
           refine Dh F M (k:=2) (k2:=0) rfl rfl B5.k A1 rfl rfl (by decide) rfl rfl (by show _ * 56≤_;(try simp only [List.length_drop,List.length_take,List.length_append,List.length_cons,List.length_nil]);omega) (by (try simp only [List.length_drop,List.length_take,List.length_append,List.length_cons,List.length_nil]);omega) rfl ?_;clear F M a;intro v45 w a M F
           have Ev45:=Els.append Er Eb
           obtain ⟨av45,cv45,rfl,hlev45,hcmv45,hlv45⟩:=M.row_shape (k:=2) rfl
           revert a
           refine Aa<|?_
           change Mem w0 Gq36 (.row (.slice av44 1 (cv44)) 1 ([.int .u64 ((y.key:Nat):Int),.int .u8 ((y.typ:Nat):Int),.string (str y.text),.slice mae43 y.marks.length mce43]) 26 4::.blk b [.string (str ((Lib.cut cj [10]).2.1)),.int .i64 (((((l+1+j)+1):Nat):Int))] 155::.row (.slice av45 (nr+1) (cv45)) (nr+1) (csr++([.int .u64 ((y.key:Nat):Int),.int .u8 ((y.typ:Nat):Int),.string (str y.text),.slice mae43 y.marks.length mce43])) 26 4::.blk b14 [.int .i64 ((p:Nat):Int)] 3::.blk b7 H6 139::.blk b5 [.slice ap4 ((Bt ((Lib.cut c [10]).1)).length) ((Bt ((Lib.cut c [10]).1)).length)] 24::.blk b1 [.int .u8 ((x.kind:Nat):Int),.int .i64 x.at_,.int .i64 x.count,.int .i64 x.to,.slice ar nr cr] 65::L) _ at M
           intro a F
           refine ⟨Keep Gq36 [.row (.slice av44 1 (cv44)) 1 ([.int .u64 ((y.key:Nat):Int),.int .u8 ((y.typ:Nat):Int),.string (str y.text),.slice mae43 y.marks.length mce43]) 26 4,.blk b [.string (str ((Lib.cut cj [10]).2.1)),.int .i64 (((((l+1+j)+1):Nat):Int))] 155,.row (.slice av45 (nr+1) (cv45)) (nr+1) (csr++([.int .u64 ((y.key:Nat):Int),.int .u8 ((y.typ:Nat):Int),.string (str y.text),.slice mae43 y.marks.length mce43])) 26 4,.blk b14 [.int .i64 ((p:Nat):Int)] 3,.blk b7 H6 139,.blk b5 [.slice ap4 ((Bt ((Lib.cut c [10]).1)).length) ((Bt ((Lib.cut c [10]).1)).length)] 24,.blk b1 [.int .u8 ((x.kind:Nat):Int),.int .i64 x.at_,.int .i64 x.count,.int .i64 x.to,.slice ar nr cr] 65],M.keep (Gle.refl _) (by simp),?_⟩
           revert a
           refine k_f (fun a F w _=>Co Bf.k rfl F rfl) rfl<|k_c rfl<|Fo B5 M 6 rfl rfl rfl rfl rfl rfl<|?_;clear M;intro w M
           refine Aa<|?_
           change Mem w0 Gq36 (.row (.slice av44 1 (cv44)) 1 ([.int .u64 ((y.key:Nat):Int),.int .u8 ((y.typ:Nat):Int),.string (str y.text),.slice mae43 y.marks.length mce43]) 26 4::.blk b [.string (str ((Lib.cut cj [10]).2.1)),.int .i64 (((((l+1+j)+1):Nat):Int))] 155::.row (.slice av45 (nr+1) (cv45)) (nr+1) (csr++([.int .u64 ((y.key:Nat):Int),.int .u8 ((y.typ:Nat):Int),.string (str y.text),.slice mae43 y.marks.length mce43])) 26 4::.blk b14 [.int .i64 ((p:Nat):Int)] 3::.blk b7 H6 139::.blk b5 [.slice ap4 ((Bt ((Lib.cut c [10]).1)).length) ((Bt ((Lib.cut c [10]).1)).length)] 24::.blk b1 [.int .u8 ((x.kind:Nat):Int),.int .i64 x.at_,.int .i64 x.count,.int .i64 x.to,.slice av45 (nr+1) (cv45)] 65::L) _ at M
           intro a F
           refine ⟨Keep Gq36 [.row (.slice av44 1 (cv44)) 1 ([.int .u64 ((y.key:Nat):Int),.int .u8 ((y.typ:Nat):Int),.string (str y.text),.slice mae43 y.marks.length mce43]) 26 4,.blk b [.string (str ((Lib.cut cj [10]).2.1)),.int .i64 (((((l+1+j)+1):Nat):Int))] 155,.row (.slice av45 (nr+1) (cv45)) (nr+1) (csr++([.int .u64 ((y.key:Nat):Int),.int .u8 ((y.typ:Nat):Int),.string (str y.text),.slice mae43 y.marks.length mce43])) 26 4,.blk b14 [.int .i64 ((p:Nat):Int)] 3,.blk b7 H6 139,.blk b5 [.slice ap4 ((Bt ((Lib.cut c [10]).1)).length) ((Bt ((Lib.cut c [10]).1)).length)] 24,.blk b1 [.int .u8 ((x.kind:Nat):Int),.int .i64 x.at_,.int .i64 x.count,.int .i64 x.to,.slice av45 (nr+1) (cv45)] 65],M.keep (Gle.refl _) (by simp),?_⟩
           revert a
           refine D1<|C0<|Ad<|Ac<|B9 rfl rfl<|Ae rfl<|Aa<|Ad<|?_
           replace M:=M.perm (Ao _ 6 _ rfl)
           replace M:=M.perm (Ao _ 2 _ rfl)
           replace M:=M.perm (Ao _ 6 _ rfl)
           replace M:=M.perm (Ao _ 6 _ rfl)
           replace M:=M.perm (Ao _ 6 _ rfl)
           replace M:=M.perm (Ao _ 6 _ rfl)
           change Mem w0 Gq36 (_::_::_::_::_::.blk b1 [.int .u8 ((x.kind:Nat):Int),.int .i64 x.at_,.int .i64 x.count,.int .i64 x.to,.slice av45 (nr+1) (cv45)] 65::_::L) _ at M
           intro a F
           exact ⟨_,by omega,j+1,(ys++[y]),_,(av45),(nr+1),(cv45),csr++([.int .u64 ((y.key:Nat):Int),.int .u8 ((y.typ:Nat):Int),.string (str y.text),.slice mae43 y.marks.length mce43]),rfl,Gq36,(hG33.trans hGq36),F.to ⟨rfl,rfl,rfl,rfl,trivial⟩,(M.weaken (.cons_cons _ (.cons_cons _ (.cons_cons _ (.cons_cons _ (.cons_cons _ (.cons_cons _ (.cons _ (sR _))))))))),by omega,by rw [List.length_append];simp only [List.length_cons,List.length_nil];omega,Ajo hok hyok,by rw [hcj,Ph,List.append_assoc,← hcy],by omega,Ev45,by omega⟩
       ·intro h46b
        have h46:=dF h46b
        refine B1<|Bx<|Bx<|Dj<|Ad<|Ab<|?_
        obtain ⟨hnz47,Gz47,az47,cz47,hGz47,hez47,Sz47,M⟩:=M.freeze_row A0 (k:=0) rfl Er (by decide)
        clear hez47 az47 cz47
        replace HG:=HG.mono hGz47
        replace Sp4:=Sp4.mono Bn hGz47
        replace Sq16:=Sq16.mono Kg hGz47
        intro a F
        rw [hnz47] at M Sz47
        change Mem w0 Gz47 (.blk b14 [.int .i64 ((p:Nat):Int)] 3::.blk b7 H6 139::.blk b5 [.slice ap4 ((Bt ((Lib.cut c [10]).1)).length) ((Bt ((Lib.cut c [10]).1)).length)] 24::.blk b [.string (str cj),.int .i64 ((((l+1+j):Nat):Int))] 155::.blk b1 [.int .u8 ((x.kind:Nat):Int),.int .i64 x.at_,.int .i64 x.count,.int .i64 x.to,.slice ar ys.length cr] 65::L) _ at M
        revert a
        refine Ac<|Bc Bf.k rfl rfl<|Bl B5 M 4 rfl rfl rfl rfl<|Hq Amc rfl rfl (V7 (xs:=ys) M Sz47 (by omega) (fun x hx=>by have:=(hok x hx).1.2.2.2.1;omega))<|?_;clear M;rintro _ Gq48 w hGq48 M ⟨aq48,rfl,Sq48⟩
        replace HG:=HG.mono hGq48
        replace Sp4:=Sp4.mono Bn hGq48
        replace Sq16:=Sq16.mono Kg hGq48
        replace Sz47:=Sz47.mono A0 hGq48
        refine Bc Bf.k rfl rfl<|Fo B5 M 4 rfl rfl rfl rfl rfl rfl<|?_;clear M;intro w M
        refine Aa<|Ad<|Ab<|Ac<|Ap (fun a F=>Am Bf rfl (F.ev rfl) (cs:=[.int .u8 ((x.kind:Nat):Int),.int .i64 x.at_,.int .i64 x.count,.int .i64 x.to,.slice aq48 ys.length ys.length]) rfl (M.cellsL (k:=4) rfl rfl)) rfl<|fun a F=>?_
        refine Ar F M Bf (k:=4) rfl rfl rfl (us:=[.int .u8 ((x.kind:Nat):Int),.int .i64 x.at_,.int .i64 x.count,.int .i64 x.to,.slice aq48 ys.length ys.length]) rfl rfl (by simp [Value.oneCell']) (by simp) ?_;clear F M a;intro w a M F
        change Mem w0 Gq48 (_::_::_::_::.blk b1 [.int .u8 ((x.kind:Nat):Int),.int .i64 x.at_,.int .i64 x.count,.int .i64 x.to,.slice aq48 ys.length ys.length] 65::L) _ at M
        revert a
        refine Af rfl<|Aa<|Ad<|Aj<|fun a F=>Cb F M (k:=4) rfl rfl Bf rfl rfl rfl rfl ?_
        replace M:=M.perm (Ao _ 3 _ rfl)
        change Mem w0 Gq48 (_::_::_::_::.blk b1 [.int .u8 ((x.kind:Nat):Int),.int .i64 x.at_,.int .i64 x.count,.int .i64 x.to,.slice aq48 ys.length ys.length] 65::L) _ at M
        exact ⟨_,_,((((hGp4.trans hGq16).trans hG33).trans hGz47).trans hGq48),M.weaken (.cons_cons _ (.cons _ (.cons _ (.cons _ (.cons _ (sR _)))))),x.kind,x.at_,x.count,x.to,aq48,ys.length,ys.length,true,_,_,rfl,rfl,by omega,by omega,Or.inl ⟨rfl,x,_,ys,hh,hok,by omega,by rw [← hcj];exact hcc,by omega,⟨aq48,ys.length,rfl,(by have:=hh.kd;show x.kind < 256;omega),hh.ra,hh.rc,hh.rt,(by show ys.length≤_;omega),Sq48⟩⟩⟩
open Go Go.Y Go.Proofs
variable {w0 w:World} {G:A4} {L:List Res}
set_option linter.unusedSimpArgs false
set_option linter.unusedVariables false
theorem Aca (M:Mem w0 G L w) {n c:Nat} {ad:Option Addr} (h:n≤c) (hc:c≤9223372036854775807):Calls Tryz.prog 87 #[.slice ad n c] w (Cl w0 G L fun v=>v=.slice ad n n):=by
 refine Az (vs:=[_]) Tryz.func87 rfl (n:=9) rfl rfl<|Ab<|Ac<|Af rfl<|Aa<|Ad<|Ab<|Ac<|Ae rfl<|Ae rfl<|Cg E5.k rfl<|Ae rfl<|Cg E5.k rfl<|Ap (fun a F=>R1 (h:=n) (q:=n) E5.k Bf (F.ev rfl) (F.ev rfl) (by omega) (F.ev rfl) (by omega) (by omega) (by omega)) rfl<|Af rfl<|Aa<|Ad<|Aj<|Al rfl rfl<|?_
 exact ⟨M,rfl⟩
theorem Y9 (M:Mem w0 G L w) {an:Option Addr} {cn:Nat} {ns:List NotD} (SN:Ay Fb 5 G (.slice an ns.length cn) ns) (hlen:ns.length≤1000000) :
  Calls Tryz.prog 88 #[.slice an ns.length cn] w (J7 w0 G fun L' v=>∃ a' n' c' cs',v=.slice a' n' c'∧L' = (.row (.slice a' n' c') n' cs' 65 5::L)∧n' = ns.length∧Els Fb 5 G cs' ns):=by
 refine Az (vs:=[_]) Tryz.func88 rfl (n:=8) rfl rfl<|Ab<|Ac<|Af rfl<|Aa<|Ad<|Ab<|Ab<|Ac<|Ae rfl<|Ap (fun a F=>Abl E5.k (F.ev rfl) (F.ev rfl)) rfl<|Aa<|Ad<|Av rfl ?_ ?_
 ·intro h1b
  have h1:((an).isNone)=true:=h1b
  refine Ab<|Ac<|Af rfl<|Aa<|Ad<|Aj<|Aw<|Al rfl rfl<|?_
  have h0:=SN.nilz (by assumption)
  exact ⟨_,M.nilrow 65 5,none,0,0,[],rfl,rfl,by rw [h0];rfl,by rw [h0];exact Els.nil⟩
 ·intro h2b
  have h2:((an).isNone)=false:=h2b
  refine Au<|Ad<|Ab<|Ac<|fun a F=>?_
  refine Sf F M E5.k Bf rfl ?_;clear F M a;intro v3 w a M F
  obtain ⟨av3,cv3,rfl,hlev3,hcmv3,hlv3⟩:=M.row_shape (k:=0) rfl
  revert a
  refine Ae rfl<|fun a F=>?_
  refine Mq F M (k:=0) rfl E5.k Bf rfl rfl (by decide) rfl SN rfl (by show _ * 56≤_;(try simp only [List.length_drop,List.length_take,List.length_append,List.length_cons,List.length_nil]);omega) (by (try simp only [List.length_drop,List.length_take,List.length_append,List.length_cons,List.length_nil]);omega) rfl ?_;clear F M a;intro v4 csv4 w a M Ev4 F
  have Ev4:=Els.append Els.nil Ev4
  obtain ⟨av4,cv4,rfl,hlev4,hcmv4,hlv4⟩:=M.row_shape (k:=0) rfl
  revert a
  refine Af rfl<|Aa<|Ad<|Aj<|Al rfl rfl<|?_
  change Mem w0 G (_::L) _ at M
  simp only [Nat.zero_add,List.nil_append] at M ⊢
  exact ⟨_,M,_,_,_,_,rfl,rfl,rfl,by have h:=Ev4;simp only [List.nil_append] at h;exact h⟩
def PF (s:List UInt8) (r:List NotD × Nat × Int):Prop:=(1048576 < s.length∧r=([],0,3))∨(s.length≤1048576∧PR [] s r)
theorem PF.uniq {s:List UInt8} {a b:List NotD × Nat × Int} (h1:PF s a) (h2:PF s b):a=b:=by
 rcases h1 with ⟨h1,rfl⟩ | ⟨h1,h3⟩ <;> rcases h2 with ⟨h2,rfl⟩ | ⟨h2,h4⟩
 ·rfl
 ·omega
 ·omega
 ·exact h3.uniq h4
theorem Akl (x:NotD) (sz:Int):1≤(Di x sz).length:=by unfold Di;simp only [List.length_append,List.length_cons,List.length_nil];omega
theorem Qp (M:Mem w0 G L w) (HG:Globs 0 1 2 3 G) {s:List UInt8} (hs:s.length≤9223372036854775807):Calls Tryz.prog 33 #[.string (str s)] w (Ret w0 G L fun G' v=>∃ (a:Option Addr) (ys:List NotD) (ln:Nat) (e:Int),v=.tuple #[.slice a ys.length ys.length,.int .i64 ((ln:Nat):Int),.int .i64 e]∧Ay Fb 5 G' (.slice a ys.length ys.length) ys∧PF s (ys,ln,e)):=by
 refine Az (vs:=[_]) Tryz.func33 rfl (n:=61) rfl rfl<|Ab<|Ac<|Af rfl<|Af rfl<|Af rfl<|Aa<|Ad<|Ab<|Ab<|Ac<|Ae rfl<|Ap (fun a F=>Cq Bq.k (F.ev rfl)) rfl<|Dn rfl rfl<|Aa<|Ad<|Av rfl ?_ ?_
 ·intro h1b
  have h1:=dT h1b
  refine Ab<|Ac<|Af rfl<|Af rfl<|Af rfl<|Aa<|Ad<|Aj<|Aw<|Hf rfl rfl rfl rfl<|?_
  exact ⟨_,(Gle.refl _),M,none,[],0,_,rfl,Ay.nil,Or.inl ⟨by omega,rfl⟩⟩
 ·intro h2b
  have h2:=dF h2b
  refine Au<|Ad<|Ab<|Ac<|Ae rfl<|Ap (fun a F=>Ba (cs:=[.string (str s),.int .i64 0]) (ps:=[(0,.string (str s))]) J4.k rfl J4 (F.evp rfl) rfl) rfl<|C4 M rfl rfl rfl<|?_;clear M;intro b3 w M
  refine Af rfl<|Aa<|Ad<|Ab<|A3<|?_
  have M:=M.nilrow 65 5
  change Mem w0 G (.row (.slice none 0 0) 0 ([]) 65 5::.blk b3 [.string (str s),.int .i64 0] 155::L) _ at M
  intro a F
  refine B8 (fun m a' w'=>∃ (xs:List NotD),∃ (cj:List UInt8),∃ (ar:Option Addr),∃ (nr:Nat),∃ (cr:Nat),∃ (csr:List Value),m=cj.length∧∃ G4,Gle G G4∧Fits 61 a' [(5,.pointer (some ⟨b3,0,none⟩)),(2,.slice ar nr cr)]∧Mem w0 G4 (.row (.slice ar nr cr) (nr) (csr) 65 5::.blk b3 [.string (str cj),.int .i64 ((((nlN xs):Nat):Int))] 155::L) w'∧(∀ r,PR xs cj r→PR [] s r)∧(xs.length≤32)∧(cj.length≤1048576)∧(nlN xs≤1025 * xs.length)∧(Els Fb 5 G4 csr xs)∧(nr=xs.length)) _ ⟨[],s,none,0,0,[],rfl,G,Gle.refl _,F.to ⟨rfl,rfl,trivial⟩,M,fun r h=>h,by decide,by omega,by decide,Els.nil,rfl⟩ ?_
  clear F M
  rintro m a w ⟨xs,cj,ar,nr,cr,csr,rfl,G4,hG4,F,M,hP,hxl,hcj,hnl,Er,hnr⟩
  replace HG:=HG.mono hG4
  revert a
  refine Ab<|Ab<|Ac<|Ae rfl<|Ep rfl<|Bc J4.k rfl rfl<|Bl Bq M 1 rfl rfl rfl rfl<|Gw rfl rfl<|Aa<|Ad<|Av rfl ?_ ?_
  ·intro h5b
   have h5:=dF (Ag h5b)
   have h5c:(decide (cj=([]:List UInt8)))=false:=(Ag h5b)
   refine Au<|Ad<|A3<|Ab<|Ac<|Ae rfl<|Ep rfl<|Bc J4.k rfl rfl<|Bl B7 M 1 rfl rfl rfl rfl<|B9 rfl rfl<|Af rfl<|Aa<|Ad<|Ab<|Ac<|Ae rfl<|Ap (fun a F=>Uc (F.ev rfl)) rfl<|?_
   replace M:=M.perm (Ao _ 1 _ rfl)
   change Mem w0 G4 (_::_::L) _ at M
   intro a F
   refine Dz F ent85 rfl rfl (Y4 (c:=cj) (l:=(nlN xs)) M HG (by omega) (by omega)) ?_;clear F M a;rintro _ Gq6 _ w a hGq6 M ⟨kq6,a1q6,b1q6,t1q6,adq6,lnq6,cnq6,okq6,cq6,lq6,rfl,rfl,hlcq6,hllq6,hokq6⟩ F
   replace HG:=HG.mono hGq6
   replace Er:=Er.mono Bm hGq6
   change Mem w0 Gq6 (.blk b3 [.string (str cq6),.int .i64 ((lq6:Nat):Int)] 155::.row (.slice ar nr cr) (nr) (csr) 65 5::L) _ at M
   revert a
   refine Ae rfl<|Ch rfl rfl<|Ch rfl rfl<|Cz M Bf rfl rfl<|?_;clear M;intro b7 w M
   intro a F
   refine Ar F M Bf (k:=0) rfl rfl rfl (us:=[.int .u8 ((kq6:Nat):Int),.int .i64 a1q6,.int .i64 b1q6,.int .i64 t1q6,.slice adq6 lnq6 cnq6]) rfl rfl (by simp [Value.oneCell']) (by simp) ?_;clear F M a;intro w a M F
   change Mem w0 Gq6 (.blk b7 [.int .u8 ((kq6:Nat):Int),.int .i64 a1q6,.int .i64 b1q6,.int .i64 t1q6,.slice adq6 lnq6 cnq6] 65::_::_::L) _ at M
   revert a
   refine Af rfl<|Aa<|Ad<|Ab<|A3<|Ab<|fun a F=>Qd (fun a' w'=>∃ (bb:Bool),Fits 61 a' [(2,.slice ar nr cr),(5,.pointer (some ⟨b3,0,none⟩)),(6,.int .i64 (((((nlN xs):Nat):Int))+1)),(7,.pointer (some ⟨b7,0,none⟩)),(8,.bool okq6),(31,.bool bb)]∧Mem w0 Gq6 (.blk b7 [.int .u8 ((kq6:Nat):Int),.int .i64 a1q6,.int .i64 b1q6,.int .i64 t1q6,.slice adq6 lnq6 cnq6] 65::.blk b3 [.string (str cq6),.int .i64 ((lq6:Nat):Int)] 155::.row (.slice ar nr cr) (nr) (csr) 65 5::L) w'∧(bb=true↔xs.length=32∧(okq6=true∨nlN xs+1 < lq6))) ?_ ?_
   ·skip
    revert a
    refine Ac<|Ae rfl<|Cg E5.k rfl<|Dc rfl rfl<|Ae rfl<|?_
    rcases bE (decide (((nr:Nat):Int)=32)) with h9b | h12b
    ·skip
     have h9:=dT h9b
     refine g_t rfl h9b<|Ae rfl<|g_t rfl h9b<|Ae rfl<|?_
     rcases bE (okq6) with h10b | h11b
     ·skip
      have h10:(okq6)=true:=h10b
      refine g_f rfl h10b<|g_f rfl h10b<|g_f rfl h10b<|g_f rfl h10b<|g_f rfl h10b<|g_f rfl h10b<|g_t rfl h9b<|Bi rfl h10b rfl<|Bi rfl h9b rfl<|Af rfl<|Aa<|fun a F=>?_
      exact ⟨true,F.to ⟨rfl,rfl,rfl,rfl,rfl,rfl,trivial⟩,M,by clear F M;first | (simp only [Bool.true_eq_false,true_iff,false_iff,Bool.false_eq_true,decide_eq_true_eq];first | exact ⟨by omega,Or.inl (by assumption)⟩ | (rintro ⟨h1_,h2_⟩;omega) | grind) | grind⟩
     ·skip
      have h11:(okq6)=false:=h11b
      refine g_t rfl h11b<|Ae rfl<|g_t rfl h11b<|Ep rfl<|g_t rfl h11b<|Bc J4.k rfl rfl<|g_t rfl h11b<|Bl B7 M 1 rfl rfl rfl rfl<|g_t rfl h11b<|Ae rfl<|g_t rfl h11b<|Dn rfl rfl<|g_t rfl h9b<|Bh rfl h11b rfl<|Bi rfl h9b rfl<|Af rfl<|Aa<|fun a F=>?_
      exact ⟨(decide (((((nlN xs):Nat):Int))+1 < ((lq6:Nat):Int))),F.to ⟨rfl,rfl,rfl,rfl,rfl,rfl,trivial⟩,M,by clear F M;first | (simp only [Bool.true_eq_false,true_iff,false_iff,Bool.false_eq_true,decide_eq_true_eq];first | exact ⟨by omega,Or.inl (by assumption)⟩ | (rintro ⟨h1_,h2_⟩;omega) | grind) | grind⟩
    ·skip
     have h12:=dF h12b
     refine g_f rfl h12b<|g_f rfl h12b<|g_u rfl<|g_u rfl<|g_u rfl<|g_u rfl<|g_u rfl<|g_u rfl<|g_f rfl h12b<|Bh rfl h12b rfl<|Af rfl<|Aa<|fun a F=>?_
     exact ⟨false,F.to ⟨rfl,rfl,rfl,rfl,rfl,rfl,trivial⟩,M,by clear F M;first | (simp only [Bool.true_eq_false,true_iff,false_iff,Bool.false_eq_true,decide_eq_true_eq];first | exact ⟨by omega,Or.inl (by assumption)⟩ | (rintro ⟨h1_,h2_⟩;omega) | grind) | grind⟩
   ·clear F M
    rintro a w ⟨bb,F,M,hbb⟩
    revert a
    refine Ad<|Av rfl ?_ ?_
    ·intro h13b
     have h13:(bb)=true:=h13b
     refine Ab<|Ac<|Ae rfl<|Af rfl<|Af rfl<|Af rfl<|Aa<|Ad<|Aj<|Bo<|Aw<|Bo<|Aw<|Bo<|Aw<|Hf rfl rfl rfl rfl<|?_
     exact ⟨_,(hG4.trans hGq6),M.weaken (.cons _ (.cons _ (.cons _ (sR _)))),none,[],((nlN xs)+1),_,rfl,Ay.nil,Or.inr ⟨by omega,hP _ (by obtain ⟨h1_,h2_⟩:=hbb.1 (by assumption);rcases hokq6 with ⟨_,x,sz,ys,hh,_,_,hce,_⟩ | ⟨h3_,⟨_,h4_⟩ | ⟨x,sz,ys,r,hh,_,_,_,hce,_⟩⟩;exact PR.full ⟨x,sz,_,hh,hce⟩ h1_;(exfalso;rcases h2_ with h2_ | h2_;(rw [h3_] at h2_;cases h2_);omega);exact PR.full ⟨x,sz,_,hh,hce⟩ h1_)⟩⟩
    ·intro h14b
     have h14:(bb)=false:=h14b
     refine Ab<|Ac<|Ae rfl<|C9 rfl<|Af rfl<|Aa<|Ad<|Av rfl ?_ ?_
     ·intro h15b
      have h15:=Ag h15b
      have h15c:(okq6)=false:=(Ag h15b)
      refine Ab<|fun a F=>Fw [(true,0),(true,1),(true,2),(true,3),(true,4),(true,5),(true,6)] (Keep Gq6 [.blk b7 [.int .u8 ((kq6:Nat):Int),.int .i64 a1q6,.int .i64 b1q6,.int .i64 t1q6,.slice adq6 lnq6 cnq6] 65,.blk b3 [.string (str cq6),.int .i64 ((lq6:Nat):Int)] 155]) rfl (by kernel_rfl) (fun c a d v w h=>by cases d <;> exact h) ((M.drew _).keep (Gle.refl _) (by simp)) ?_
      replace M:=M.drew (w.drawn+1)
      revert a
      refine l_r (fun a F w M=>Cj F rfl) rfl<|l_r (fun a F w M=>D3 (F.ev rfl)) rfl<|l_r (fun a F w M=>Co J4.k rfl F rfl) rfl<|l_r (fun a F w M=>Aq (agf B7 rfl) (F.ev rfl) (M.cellL (k:=1) rfl rfl)) rfl<|l_r (fun a F w M=>Gm F rfl) rfl<|l_r (fun a F w M=>Gm F rfl) rfl<|l_r (fun a F w M=>Gm F rfl) rfl<|Gx<|?_
      generalize ({ w with drawn:=w.drawn+1 }:World)=w at M ⊢
      refine Ad<|Aj<|Bo<|Aw<|Bo<|Aw<|Bo<|Aw<|Hf rfl rfl rfl rfl<|?_
      exact ⟨_,(hG4.trans hGq6),M.weaken (.cons _ (.cons _ (.cons _ (sR _)))),none,[],lq6,_,rfl,Ay.nil,Or.inr ⟨by omega,hP _ (by rcases hokq6 with ⟨h3_,_⟩ | ⟨h3_,⟨h5_,h4_⟩ | ⟨x,sz,ys,r,hh,hoi,hlt,hl,hce,hni⟩⟩;(exfalso;simp_all);(rw [h4_];exact PR.nohead (by assumption) h5_);(rw [hl];exact PR.bad hh (fun h_=>absurd (hbb.2 ⟨h_,Or.inr (by omega)⟩) (by simp_all)) hce hoi hlt hni))⟩⟩
     ·intro h16b
      have h16:=Ah h16b
      have h16c:(okq6)=true:=(Ah h16b)
      refine Au<|C0<|Ad<|?_
      have hokt:okq6=true:=by first | assumption | simp_all
      rcases hokq6 with ⟨_,x,sz,ys,hh,hoi,hyl,hce,hle,hrd⟩ | ⟨h_,_⟩
      intro a F
      case inr=>rw [hokt] at h_;cases h_
      have hx32:xs.length≠32:=fun h_=>absurd (hbb.2 ⟨h_,Or.inl hokt⟩) (by simp_all)
      have hl9:lq6=nlN (xs++[{ x with items:=ys }]):=by rw [Ow];show _=_+(1+ys.length);omega
      have hyl2:ys.length≤1024:=by have:=hh.rs;omega
      subst hl9
      revert a
      refine Ac<|Ae rfl<|Ap (fun a F=>Am Bf rfl (F.ev rfl) (cs:=[.int .u8 ((kq6:Nat):Int),.int .i64 a1q6,.int .i64 b1q6,.int .i64 t1q6,.slice adq6 lnq6 cnq6]) rfl (M.cellsL (k:=0) rfl rfl)) rfl<|fun a F=>?_
      refine Ci F M E5.k Bf rfl rfl (cs:=[.int .u8 ((kq6:Nat):Int),.int .i64 a1q6,.int .i64 b1q6,.int .i64 t1q6,.slice adq6 lnq6 cnq6]) rfl rfl (by simp [Value.oneCell']) (by decide) rfl ?_;clear F M a;intro v17 w a M F
      obtain ⟨av17,cv17,rfl,hlev17,hcmv17,hlv17⟩:=M.row_shape (k:=0) rfl
      have Eb:Els Fb 5 Gq6 [.int .u8 ((kq6:Nat):Int),.int .i64 a1q6,.int .i64 b1q6,.int .i64 t1q6,.slice adq6 lnq6 cnq6] [{ x with items:=ys }]:=⟨[.int .u8 ((kq6:Nat):Int),.int .i64 a1q6,.int .i64 b1q6,.int .i64 t1q6,.slice adq6 lnq6 cnq6],[],rfl,rfl,hrd,rfl⟩
      refine Dh F M (k:=3) (k2:=0) rfl rfl E5.k Bf rfl rfl (by decide) rfl rfl (by show _ * 56≤_;(try simp only [List.length_drop,List.length_take,List.length_append,List.length_cons,List.length_nil]);omega) (by (try simp only [List.length_drop,List.length_take,List.length_append,List.length_cons,List.length_nil]);omega) rfl ?_;clear F M a;intro v18 w a M F
      have Ev18:=Els.append Er Eb
      obtain ⟨av18,cv18,rfl,hlev18,hcmv18,hlv18⟩:=M.row_shape (k:=3) rfl
      revert a
      refine Af rfl<|Aa<|C0<|Ad<|?_
      replace M:=M.perm (Ao _ 2 _ rfl)
      replace M:=M.perm (Ao _ 3 _ rfl)
      change Mem w0 Gq6 (_::_::_::.blk b7 [.int .u8 ((kq6:Nat):Int),.int .i64 a1q6,.int .i64 b1q6,.int .i64 t1q6,.slice adq6 lnq6 cnq6] 65::L) _ at M
      intro a F
      exact ⟨_,(by have h9_:=congrArg List.length hce;have h8_:=Akl x sz;simp only [List.length_append] at h9_;omega),(xs++[{ x with items:=ys }]),cq6,(av18),(nr+1),(cv18),csr++([.int .u8 ((kq6:Nat):Int),.int .i64 a1q6,.int .i64 b1q6,.int .i64 t1q6,.slice adq6 lnq6 cnq6]),rfl,Gq6,(hG4.trans hGq6),F.to ⟨rfl,rfl,trivial⟩,(M.weaken (.cons_cons _ (.cons_cons _ (.cons _ (.cons _ (sR _)))))),fun r h=>hP r (PR.step hh (by omega) hce hoi hyl h),by rw [List.length_append];simp only [List.length_cons,List.length_nil];omega,by omega,by rw [Ow,List.length_append];simp only [List.length_cons,List.length_nil];omega,Ev18,by rw [List.length_append,hnr];rfl⟩
  ·intro h19b
   have h19:=dT (Ah h19b)
   have h19c:(decide (cj=([]:List UInt8)))=true:=(Ah h19b)
   refine B1<|Bx<|Bx<|Dj<|Ad<|Ab<|?_
   obtain ⟨hnz20,Gz20,az20,cz20,hGz20,hez20,Sz20,M⟩:=M.freeze_row Bm (k:=0) rfl Er (by decide)
   clear hez20 az20 cz20
   replace HG:=HG.mono hGz20
   intro a F
   rw [hnz20] at F Sz20
   revert a
   refine Ac<|Ae rfl<|Pi ent88 rfl rfl (Y9 (ns:=xs) M Sz20 (by omega))<|?_;clear M;rintro _ _ w M ⟨ak21,nk21,ck21,csk21,rfl,rfl,hnk21,Ek21⟩
   subst hnk21
   have sh22:=M.row_bound (k:=0) rfl
   refine Br ent87 rfl rfl (Aca M sh22.1 sh22.2)<|?_;clear M;rintro _ w M rfl
   obtain ⟨hnz23,Gz23,az23,cz23,hGz23,hez23,Sz23,M⟩:=M.freeze_row Bm (k:=0) rfl Ek21 (by decide)
   clear hez23 az23 cz23
   replace HG:=HG.mono hGz23
   replace Sz20:=Sz20.mono Bm hGz23
   have S24:Ay Fb 5 Gz23 (.slice ak21 ((xs).length) ((xs).length)) (xs):=Sz23.clip
   refine Af rfl<|Af rfl<|Af rfl<|Aa<|Ad<|Aj<|Hf rfl rfl rfl rfl<|?_
   exact ⟨_,((hG4.trans hGz20).trans hGz23),M.weaken (.cons _ (sR _)),ak21,xs,0,0,rfl,S24,Or.inr ⟨by omega,hP _ (by rw [show cj=[] from (by first | assumption | simp_all)];exact PR.done)⟩⟩
end Go.Proofs.YtmmhmcplegpenaaGreatDoor
namespace Go.Proofs.YtmmhmcplegpenaaGreatDoor.T
open Go Go.Y Go.Proofs
set_option linter.unusedSimpArgs false
instance instNameB:DecidablePred Dq:=fun c=>by unfold Dq;infer_instance
instance instName:DecidablePred Dd:=fun s=>by unfold Dd;infer_instance
instance instStrB:DecidablePred I8:=fun c=>by unfold I8;infer_instance
instance instStr:DecidablePred Str:=fun s=>by unfold Str;infer_instance
instance instEqAttr:DecidableEq AttrD:=fun a b=>decidable_of_iff (a.n=b.n∧a.v=b.v) (by cases a;cases b;simp)
instance instEqSlot:DecidableEq SlotD:=fun a b=>decidable_of_iff (a.n=b.n∧a.src=b.src∧a.v=b.v) (by cases a;cases b;simp)
/-- All elements, each with the one before it. -/
def Oa {α:Type} (p:α→Bool) (q:α→α→Bool):List α→Bool
 | []=>true
 | [a]=>p a
 | a::b::l=>p a && q a b && Oa p q (b::l)
theorem N9 {α:Type} {p:α→Bool} {q:α→α→Bool}:∀ l:List α,Oa p q l=true↔∀ (i:Nat) (x:α),l[i]?=some x→p x=true∧∀ y,0 < i→l[i - 1]?=some y→q y x=true
 | []=>by simp [Oa]
 | [a]=>by
  simp only [Oa]
  constructor
  ·intro h i x hx
   match i with
   | 0=>simp only [List.getElem?_cons_zero,Option.some.injEq] at hx;subst hx;exact ⟨h,fun y h0=>by omega⟩
   | i+1=>simp at hx
  ·intro h;exact (h 0 a rfl).1
 | a::b::l=>by
  simp only [Oa,Bool.and_eq_true,N9 (b::l)]
  constructor
  ·rintro ⟨⟨h1,h2⟩,h3⟩ i x hx
   match i with
   | 0=>simp only [List.getElem?_cons_zero,Option.some.injEq] at hx;subst hx;exact ⟨h1,fun y h0=>by omega⟩
   | 1 =>
    simp only [List.getElem?_cons_succ,List.getElem?_cons_zero,Option.some.injEq] at hx;subst hx
    refine ⟨(h3 0 b rfl).1,fun y _ hy=>?_⟩
    simp only [Nat.sub_self,List.getElem?_cons_zero,Option.some.injEq] at hy;subst hy;exact h2
   | i+2 =>
    simp only [List.getElem?_cons_succ] at hx
    obtain ⟨h4,h5⟩:=h3 (i+1) x (by simpa using hx)
    exact ⟨h4,fun y _ hy=>h5 y (by omega) (by simpa using hy)⟩
  ·intro h
   refine ⟨⟨(h 0 a rfl).1,(h 1 b rfl).2 a (by decide) rfl⟩,fun i x hx=>?_⟩
   obtain ⟨h4,h5⟩:=h (i+1) x (by simpa using hx)
   exact ⟨h4,fun y h0 hy=>h5 y (by omega) (by
    obtain ⟨i',rfl⟩:∃ i',i=i' + 1:=⟨i - 1,by omega⟩
    simpa using hy)⟩
instance instAttrsOk:DecidablePred H2:=fun l=>decidable_of_iff (Oa (fun x=>decide (Dd x.n∧Str x.v)) (fun y x=>Op.bytesLess y.n x.n) l=true) (by
 rw [N9];unfold H2;simp only [decide_eq_true_eq])
instance instSlotAt:DecidablePred G7:=fun x=>by unfold G7;infer_instance
instance instSlotsOk:DecidablePred Hz:=fun l=>decidable_of_iff (l.length≤8∧Oa (fun x=>decide (G7 x)) (fun y x=>Op.bytesLess y.n x.n) l=true) (by
 rw [N9];unfold Hz Hy;simp only [decide_eq_true_eq]
 exact ⟨fun h=>⟨h.1,fun m x _ hx=>h.2 m x hx⟩,fun h=>⟨h.1,fun m x hx=>h.2 m x (Bj hx) hx⟩⟩)
instance instKeysOk:DecidablePred Od:=fun l=>decidable_of_iff (l.Pairwise fun a b=>b.key≠[]→a.key≠b.key) (by
 rw [List.pairwise_iff_getElem];unfold Od
 constructor
 ·intro h i j a b hij ha hb
  obtain ⟨h1,rfl⟩:=List.getElem?_eq_some_iff.1 ha
  obtain ⟨h2,rfl⟩:=List.getElem?_eq_some_iff.1 hb
  exact h i j h1 h2 hij
 ·intro h i j h1 h2 hij
  exact h i j _ _ hij (List.getElem?_eq_getElem h1) (List.getElem?_eq_getElem h2))
instance instAlone:DecidablePred H3:=fun x=>by unfold H3;infer_instance
instance instAloneP:DecidablePred Cv:=fun x=>by unfold Cv;infer_instance
def decOk {β:Type} (A:Tr β→Prop) [DecidablePred A]:(n:Nat)→(x:Tr β)→Decidable (Tr.Ok A n x)
 | 0,_=>isFalse id
 | n+1,x=>by
  have:∀ c,Decidable (Tr.Ok A n c):=decOk A n
  exact inferInstanceAs (Decidable (A x∧∀ c∈x.kids,Tr.Ok A n c))
instance instOk {β:Type} (A:Tr β→Prop) [DecidablePred A] (n:Nat):DecidablePred (Tr.Ok A n):=decOk A n
instance instValid:DecidablePred Hx:=fun x=>by unfold Hx;infer_instance
instance instValidP:DecidablePred ValidP:=fun x=>by unfold ValidP;infer_instance
instance instItemOk:DecidablePred ItemOk:=fun x=>by unfold ItemOk;infer_instance
end Go.Proofs.YtmmhmcplegpenaaGreatDoor.T
namespace Go.Proofs.YtmmhmcplegpenaaGreatDoor
open Go Go.Y Go.RowKit
set_option linter.unusedSimpArgs false
set_option linter.unusedVariables false
def Wu:T.PT:=.mk 1 [114,111,119] [] [] [] []
def c3:RulesD:=⟨[⟨Wu,10,false,0⟩],1⟩
def it3 (k:Nat):ItemD:=⟨k,0,[],[]⟩
def en3 (k:Nat):EntD:=⟨it3 k,10,false⟩
def l3:List EntD:=[en3 1,en3 2,en3 3]
theorem U7:T.ValidP Wu:=⟨rfl,by decide,by decide⟩
theorem Aac:E4 c3:=⟨⟨by decide,by decide⟩,fun k hk=>by rw [show k=⟨Wu,10,false,0⟩ by simpa [c3] using hk];exact ⟨by decide,U7⟩⟩
theorem row_one {x:T.ItemD}:T.cntF (T.node1 x Wu)=1:=by
 have h:T.node1 x Wu=.mk 1 [114,111,119] [] [] [] []:=by simp [T.node1,Wu,T.madesF,Tr.kids,Tr.as,Tr.tag,Tr.key]
 rw [h]
 unfold T.cntF
 rw [if_pos (by decide)];rfl
theorem Aoa {x:ItemD} (h:ItemOk 1 x):Iu c3 x=0:=by
 have ht:=h.2.1
 have h0:x.typ=0:=by omega
 rw [Abq (k:=⟨Wu,10,false,0⟩) (by rw [h0];rfl)]
 exact T.rend_ok (by decide) U7 (tI_ok h) (by rw [row_one];decide)
theorem Afc {x:ItemD} (h:ItemOk 1 x):Ob c3 x=10:=by
 have ht:=h.2.1
 have h0:x.typ=0:=by omega
 rw [J1 (k:=⟨Wu,10,false,0⟩) (by rw [h0];rfl)]
theorem Pb {k:Nat} (h:ItemOk 1 (it3 k)):C8 c3 (it3 k)=en3 k:=by unfold C8;rw [Afc h];rfl
theorem Aob {l:List EntD} {xs:List ItemD} (h1:∀ x∈xs,ItemOk 1 x) (h2:∀ i x,xs[i]?=some x→¬ (Dr l x.key∨Mc (xs.take i) x.key)):Tf c3 l xs=0:=by
 refine E3.2 fun i hi=>?_
 obtain ⟨x,hx⟩:=Be hi
 rw [Ach hx]
 exact Rg (h1 x (List.mem_of_getElem? hx)) (h2 i x hx) (Aoa (h1 x (List.mem_of_getElem? hx)))
theorem ok3 {k:Nat} (h:¬ k=0):ItemOk 1 (it3 k):=by
 have h1:Str ([]:List UInt8):=by decide
 have h2:∀ s∈([]:List (List UInt8)),Dd s:=fun s hs=>by cases hs
 exact ⟨h,(show ((0:Nat):Int) < 1 by decide),h1,Nat.zero_le _,h2⟩
theorem res3:Eg c3 [] 0 [it3 1,it3 2,it3 3]=(l3,0):=by
 have h1:∀ x∈[it3 1,it3 2,it3 3],ItemOk 1 x:=by
  intro x hx
  simp only [List.mem_cons,List.not_mem_nil,or_false] at hx
  rcases hx with rfl | rfl | rfl <;> exact ok3 (by decide)
 have h2:[it3 1,it3 2,it3 3].map (C8 c3)=l3:=by
  simp only [List.map_cons,List.map_nil,Pb (ok3 (show ¬ 1=0 by decide)),Pb (ok3 (show ¬ 2=0 by decide)),Pb (ok3 (show ¬ 3=0 by decide))];rfl
 rw [Aee (by decide) (by decide) (Aob h1 ?_) (by rw [h2];decide),h2]
 ·rfl
 ·intro i x hx
  rcases i with _ | _ | _ | i <;> simp only [List.getElem?_cons_zero,List.getElem?_cons_succ,List.getElem?_nil,Option.some.injEq,reduceCtorEq] at hx
  ·subst hx;simp [Dr,Mc]
  ·subst hx;simp [Dr,Mc,it3]
  ·subst hx;simp [Dr,Mc,it3]
theorem ins9:Eg c3 [en3 2,en3 3] 2 [it3 9]=([en3 2,en3 3,en3 9],0):=by
 have h1:∀ x∈[it3 9],ItemOk 1 x:=by intro x hx;rw [List.mem_singleton.1 hx];exact ok3 (by decide)
 have h2:[it3 9].map (C8 c3)=[en3 9]:=by simp only [List.map_cons,List.map_nil,Pb (ok3 (show ¬ 9=0 by decide))]
 rw [Aee (by decide) (by decide) (Aob h1 ?_) (by rw [h2];decide),h2]
 ·rfl
 ·intro i x hx
  rcases i with _ | i <;> simp only [List.getElem?_cons_zero,List.getElem?_cons_succ,List.getElem?_nil,Option.some.injEq,reduceCtorEq] at hx
  subst hx;simp [Dr,Mc,it3,en3]
def Qj:List NotD:=[⟨2,0,1,0,[]⟩,⟨1,2,0,0,[it3 9]⟩,⟨3,0,1,2,[]⟩]
def Vj:List NotD:=[⟨2,0,1,0,[]⟩,⟨2,2,1,0,[]⟩]
theorem Amx:Bw c3 l3=0:=by
 refine Gv.2 ⟨Aac,by decide,?_,by decide,by decide⟩
 intro x hx
 have hb:∀ k:Nat,¬ k=0→T5 c3 (en3 k):=fun k hk=>⟨⟨ok3 hk,Aoa (ok3 hk)⟩,by unfold I1;rw [show Ob c3 (en3 k).item=10 from Afc (ok3 hk)];exact ⟨⟨by show (1:Int)≤10;decide,by show (10:Int)≤_;decide⟩,Or.inr rfl⟩⟩
 simp only [l3,List.mem_cons,List.not_mem_nil,or_false] at hx
 rcases hx with rfl | rfl | rfl <;> exact hb _ (by decide)
theorem run1 {ns:List NotD} (h:ns[0]?=some ⟨2,0,1,0,[]⟩):C7 c3 l3 ns 1=([en3 2,en3 3],0):=by
 rw [Ir rfl h,Afd (by decide) rfl];rfl
theorem all3:P9 c3 l3 Qj=([en3 3,en3 9,en3 2],3,0):=by
 have h1:=run1 (ns:=Qj) rfl
 have h2:C7 c3 l3 Qj 2=([en3 2,en3 3,en3 9],0):=by
  rw [Ir (by rw [h1]) (show Qj[1]?=some ⟨1,2,0,0,[it3 9]⟩ from rfl),Aoe (by decide) rfl,h1];exact ins9
 have h3:C7 c3 l3 Qj 3=([en3 3,en3 9,en3 2],0):=by
  rw [Ir (by rw [h2]) (show Qj[2]?=some ⟨3,0,1,2,[]⟩ from rfl),Aod (by decide) rfl,h2];rfl
 rw [Pd Amx,all_0 (i:=3) (by decide) (by rw [h3]) rfl,h3];rfl
theorem all3b:P9 c3 l3 Vj=([],1,4):=by
 have h1:=run1 (ns:=Vj) rfl
 have h2:C7 c3 l3 Vj 2=([],4):=by
  rw [Ir (by rw [h1]) (show Vj[1]?=some ⟨2,2,1,0,[]⟩ from rfl),Afd (by decide) rfl,h1];rfl
 rw [Pd Amx,all_x (i:=1) (by decide) (by rw [h1]) (by decide) (by rw [h2];decide),h2]
open Go Go.Y Go.RowKit
set_option linter.unusedSimpArgs false
set_option linter.unusedVariables false
theorem ia0:Lib.itoa 0=[48]:=by rw [show (0:Int)=((0:Nat):Int) from rfl,Lib.itoa_nonneg,Lib.decDigits,dif_pos (by decide)];rfl
theorem ia1:Lib.itoa 1=[49]:=by rw [show (1:Int)=((1:Nat):Int) from rfl,Lib.itoa_nonneg,Lib.decDigits,dif_pos (by decide)];rfl
theorem ia2:Lib.itoa 2=[50]:=by rw [show (2:Int)=((2:Nat):Int) from rfl,Lib.itoa_nonneg,Lib.decDigits,dif_pos (by decide)];rfl
theorem dd9:Lib.decDigits 9=[57]:=by rw [Lib.decDigits,dif_pos (by decide)];rfl
theorem dd0:Lib.decDigits 0=[48]:=by rw [Lib.decDigits,dif_pos (by decide)];rfl
theorem wn2 {a b:Int}:Bu [a,b]=32::Lib.itoa a++(32::Lib.itoa b):=by simp [Bu]
theorem wn1 {a:Int}:Bu [a]=32::Lib.itoa a:=by simp [Bu]
theorem Akj:Di ⟨1,0,0,0,[]⟩ 1=[105,110,115,101,114,116,32,48,32,49,10]:=by
 unfold Di
 rw [show fm (nuK ⟨1,0,0,0,[]⟩ 1)=[0,1] from rfl,wn2,ia0,ia1];rfl
theorem Aki:Di ⟨1,2,0,0,[⟨9,0,[120],[]⟩]⟩ 1=[105,110,115,101,114,116,32,50,32,49,10]:=by
 unfold Di
 rw [show fm (nuK ⟨1,2,0,0,[⟨9,0,[120],[]⟩]⟩ 1)=[2,1] from rfl,wn2,ia2,ia1];rfl
theorem Akh:Di ⟨2,0,1,0,[]⟩ 0=[114,101,109,111,118,101,32,48,32,49,10]:=by
 unfold Di
 rw [show fm (nuK ⟨2,0,1,0,[]⟩ 0)=[0,1] from rfl,wn2,ia0,ia1];rfl
theorem ln_res0:Di ⟨5,0,0,0,[]⟩ 0=[114,101,115,101,116,32,48,10]:=by
 unfold Di
 rw [show fm (nuK ⟨5,0,0,0,[]⟩ 0)=[0] from rfl,wn1,ia0];rfl
def Lp:List NotD:=[⟨1,2,0,0,[⟨9,0,[120],[]⟩]⟩,⟨2,0,1,0,[]⟩]
theorem Adf:D0 Lp=[105,110,115,101,114,116,32,50,32,49,10,57,32,48,32,45,32,120,10,114,101,109,111,118,101,32,48,32,49,10]:=by
 have h1:Ss ⟨1,2,0,0,[⟨9,0,[120],[]⟩]⟩=Di ⟨1,2,0,0,[⟨9,0,[120],[]⟩]⟩ 1++C1 [⟨9,0,[120],[]⟩]:=rfl
 have h2:Ss ⟨2,0,1,0,[]⟩=Di ⟨2,0,1,0,[]⟩ 0++C1 []:=rfl
 have h3:C1 [⟨9,0,[120],[]⟩]=[57,32,48,32,45,32,120,10]:=by
  simp only [C1,List.map_cons,List.map_nil,Da,dd9,dd0];rfl
 unfold D0 Lp
 simp only [List.flatMap_cons,List.flatMap_nil]
 rw [h1,h2,h3,Aki,Akh];rfl
theorem X5:F4 Lp=0∧Ic Lp=[105,110,115,101,114,116,32,50,32,49,10,57,32,48,32,45,32,120,10,114,101,109,111,118,101,32,48,32,49,10]:=by
 have h:=nt_0 (l:=Lp) (i:=2) (by decide) (by decide) rfl (by rw [show Lp.take 2=Lp from rfl,Adf];decide)
 rw [show Lp.take 2=Lp from rfl,Adf] at h
 exact h
def Ahw:List (List UInt8):=[[105,110,115,101,114,116,32,48,32,49,10],[114,101,109,111,118,101,32,48,10],[114,101,115,101,116,32,48,10,102,111,111,10]]
theorem no_item:¬ Mk []:=by
 rintro ⟨y,r,_,h⟩
 have:=congrArg List.length h
 simp at this
theorem hd_ins:Head ⟨1,0,0,0,[]⟩ 1:=⟨by decide,Or.inr rfl,Or.inr rfl,Or.inr rfl,Or.inl (by decide),rfl,Cr (n:=0) (by decide) (by decide),Cr (n:=0) (by decide) (by decide),Cr (n:=0) (by decide) (by decide),by decide⟩
theorem hd_res:Head ⟨5,0,0,0,[]⟩ 0:=⟨by decide,Or.inr rfl,Or.inr rfl,Or.inr rfl,Or.inr rfl,rfl,Cr (n:=0) (by decide) (by decide),Cr (n:=0) (by decide) (by decide),Cr (n:=0) (by decide) (by decide),by decide⟩
theorem badN1:PR [] [105,110,115,101,114,116,32,48,32,49,10] ([],2,5) :=
 PR.bad (ys:=[]) (r:=[]) hd_ins (by decide) (by rw [Akj];rfl) (fun y hy=>by cases hy) (by decide) no_item
theorem badN2:PR [] [114,101,109,111,118,101,32,48,10] ([],1,5) :=
 PR.nohead (by decide) (Y8 (k:=2) (b:=0) (b2:=1) (W:=[114,101,109,111,118,101]) (wr:=[[48]]) (by decide) (by decide) (by decide) (by decide))
theorem badN3:PR [] [114,101,115,101,116,32,48,10,102,111,111,10] ([],2,5) :=
 PR.step (ys:=[]) (r:=[102,111,111,10]) hd_res (by decide) (by rw [ln_res0];rfl) (fun y hy=>by cases hy) rfl
  (PR.nohead (by decide) (Sv (z:=-1) (W:=[102,111,111]) (wr:=[]) (by decide) (Or.inl ⟨rfl,by decide⟩) (Or.inr (by decide))))
def lnN:List Nat:=[2,1,2]
theorem Aoc {i:Nat} {s:List UInt8} (h:Ahw[i]?=some s):∃ n,lnN[i]?=some n∧PF s ([],n,5):=by
 rcases i with _ | _ | _ | i <;> simp only [Ahw,List.getElem?_cons_zero,List.getElem?_cons_succ,List.getElem?_nil,Option.some.injEq,reduceCtorEq] at h
 ·subst h;exact ⟨2,rfl,Or.inr ⟨by decide,badN1⟩⟩
 ·subst h;exact ⟨1,rfl,Or.inr ⟨by decide,badN2⟩⟩
 ·subst h;exact ⟨2,rfl,Or.inr ⟨by decide,badN3⟩⟩
open Go Go.Y Go.Proofs
variable {w0 w:World} {G:A4} {L:List Res}
set_option linter.unusedSimpArgs false
set_option linter.unusedVariables false
theorem fin_aa {P:Program} {fn:Func} {n:Nat} {a:Act} {e:Env} {w0 w:World} {G:A4} {L:List Res} (F:Fits n a e) {t u ty1 ty2 k1 k2 b1 b2:Nat} {i1 i2:TI} {cs1 cs2:List Value} {R:Ending→World→Prop} (M:Mem w0 G L w)
  (hk1:L[k1]?=some (.blk b1 cs1 ty1)) (hk2:L[k2]?=some (.blk b2 cs2 ty2)) (hf:fn.results = #[.cell t ty1,.cell u ty2]) (ht1:TOK P ty1 i1) (ht2:TOK P ty2 i2) (ha1:i1.k.agg=some true) (ha2:i2.k.agg=some true)
  (hl1:cs1.length=i1.size) (hl2:cs2.length=i2.size) (hv1:Y.look e t=some (.pointer (some ⟨b1,0,none⟩))) (hv2:Y.look e u=some (.pointer (some ⟨b2,0,none⟩))) (h:R (.returned (.tuple #[.agg cs1.toArray,.agg cs2.toArray])) w):bodyPost P fn R .ret a w:=by
 refine K8 F (v:=.tuple #[.agg cs1.toArray,.agg cs2.toArray]) ?_ h
 have h1:(loadVar ty1 ⟨b1,0,none⟩).run P w=.ok (.agg cs1.toArray) w:=Gp ht1 ha1 hl1 (M.cellsL hk1 (by rw [List.drop_zero,← hl1,List.take_length]))
 have h2:(loadVar ty2 ⟨b2,0,none⟩).run P w=.ok (.agg cs2.toArray) w:=Gp ht2 ha2 hl2 (M.cellsL hk2 (by rw [List.drop_zero,← hl2,List.take_length]))
 simp [results,hf,F.slot _ _ hv1,F.slot _ _ hv2,asAddr,h1,h2]
theorem lreset3 (M:Mem w0 G L w) {ka:Option Addr} {kc:Nat} (SC:Ay Du 9 G (.slice ka c3.kinds.length kc) c3.kinds) {ta:Option Addr} {tc:Nat} (T:Ay Cn 4 G (.slice ta 3 tc) [it3 1,it3 2,it3 3]) :
  Calls Tryz.prog 92 #[.agg #[.slice ka c3.kinds.length kc,.int .i64 1],.agg #[.slice none 0 0],.slice ta 3 tc] w (Ij w0 G (Jp L (l3,0))):=by
 rw [← res3]
 exact Qs (c:=c3) (l:=[]) M SC Ay.nil (V9 Aac) T (by decide)
theorem Aav (M:Mem w0 G L w):Calls Tryz.prog 36 #[] w (Ret w0 G L fun G' v=>∃ (ka:Option Addr) (kc:Nat) (la:Option Addr) (lc:Nat),v=.tuple #[.agg #[.slice ka c3.kinds.length kc,.int .i64 1],.agg #[.slice la l3.length lc]]∧Ay Du 9 G' (.slice ka c3.kinds.length kc) c3.kinds∧Ay C2 6 G' (.slice la l3.length lc) l3):=by
 refine Az (vs:=[]) Tryz.func36 rfl (n:=21) rfl rfl<|Ab<|Ac<|Cz M Dv rfl rfl<|?_;clear M;intro b1 w M
 refine Cz M Bb rfl rfl<|?_;clear M;intro b3 w M
 refine Aa<|Ad<|Ab<|Ac<|Ap (fun a F=>Ba (cs:=[.int .u8 1,.string (str ([114,111,119]:List UInt8)),.string (str ([]:List UInt8)),.slice none 0 0,.string (str ([]:List UInt8)),.slice none 0 0]) (ps:=[(0,.int .u8 1),(1,.string (str ([114,111,119]:List UInt8)))]) Cf.k rfl Cf (F.evp rfl) rfl) rfl<|Ap (fun a F=>Ba (cs:=[.int .u8 1,.string (str ([114,111,119]:List UInt8)),.string (str ([]:List UInt8)),.slice none 0 0,.string (str ([]:List UInt8)),.slice none 0 0,.int .i64 10,.bool false,.int .i64 0]) (ps:=[(0,.agg #[.int .u8 1,.string (str ([114,111,119]:List UInt8)),.string (str ([]:List UInt8)),.slice none 0 0,.string (str ([]:List UInt8)),.slice none 0 0]),(1,.int .i64 10)]) Kb.k rfl Kb (F.evp rfl) rfl) rfl<|fun a F=>?_
 refine Ci F M H5.k Kb rfl rfl (cs:=[.int .u8 1,.string (str ([114,111,119]:List UInt8)),.string (str ([]:List UInt8)),.slice none 0 0,.string (str ([]:List UInt8)),.slice none 0 0,.int .i64 10,.bool false,.int .i64 0]) rfl rfl (by simp [Value.oneCell']) (by decide) rfl ?_;clear F M a;intro v5 w a M F
 obtain ⟨av5,cv5,rfl,hlev5,hcmv5,hlv5⟩:=M.row_shape (k:=0) rfl
 have Ek:Els Du 9 G [.int .u8 1,.string (str ([114,111,119]:List UInt8)),.string (str ([]:List UInt8)),.slice none 0 0,.string (str ([]:List UInt8)),.slice none 0 0,.int .i64 10,.bool false,.int .i64 0] c3.kinds:=Els.one ⟨[.int .u8 1,.string (str ([114,111,119]:List UInt8)),.string (str ([]:List UInt8)),.slice none 0 0,.string (str ([]:List UInt8)),.slice none 0 0],rfl,Va (x:=Wu) ⟨by decide,by decide⟩ ⟨by decide,by decide,by decide⟩ Ay.nil Ay.nil,⟨by decide,by decide⟩⟩ rfl
 obtain ⟨hnz6,Gz6,az6,cz6,hGz6,hez6,Sz6,M⟩:=M.freeze_row Bg (k:=0) rfl Ek (by decide)
 clear hez6 az6 cz6
 revert a
 refine Ap (fun a F=>Ba (cs:=[.slice av5 1 (cv5),.int .i64 1]) (ps:=[(0,.slice av5 1 (cv5)),(1,.int .i64 1)]) Dv.k rfl Dv (F.evp rfl) rfl) rfl<|Cz M Dv rfl rfl<|?_;clear M;intro b7 w M
 intro a F
 refine Ar F M Dv (k:=0) rfl rfl rfl (us:=[.slice av5 1 (cv5),.int .i64 1]) rfl rfl (by simp [Value.oneCell']) (by simp) ?_;clear F M a;intro w a M F
 change Mem w0 Gz6 (.blk b7 [.slice av5 1 (cv5),.int .i64 1] 51::_::_::L) _ at M
 revert a
 refine Aa<|Ad<|Ab<|Ac<|Ap (fun a F=>Am Dv rfl (F.ev rfl) (cs:=[.slice av5 1 (cv5),.int .i64 1]) rfl (M.cellsL (k:=0) rfl rfl)) rfl<|Ap (fun a F=>Ba (cs:=[.slice none 0 0]) (ps:=[]) Bb.k rfl Bb (F.evp rfl) rfl) rfl<|Ap (fun a F=>Ba (cs:=[.int .u64 1,.int .u8 0,.string (str ([]:List UInt8)),.slice none 0 0]) (ps:=[(0,.int .u64 1)]) A1.k rfl A1 (F.evp rfl) rfl) rfl<|Ap (fun a F=>Ba (cs:=[.int .u64 2,.int .u8 0,.string (str ([]:List UInt8)),.slice none 0 0]) (ps:=[(0,.int .u64 2)]) A1.k rfl A1 (F.evp rfl) rfl) rfl<|Ap (fun a F=>Ba (cs:=[.int .u64 3,.int .u8 0,.string (str ([]:List UInt8)),.slice none 0 0]) (ps:=[(0,.int .u64 3)]) A1.k rfl A1 (F.evp rfl) rfl) rfl<|fun a F=>?_
 refine Ef F M B5.k A1 (ps:=[(0,.agg #[.int .u64 1,.int .u8 0,.string (str ([]:List UInt8)),.slice none 0 0]),(1,.agg #[.int .u64 2,.int .u8 0,.string (str ([]:List UInt8)),.slice none 0 0]),(2,.agg #[.int .u64 3,.int .u8 0,.string (str ([]:List UInt8)),.slice none 0 0])]) (cs:=[[.int .u64 1,.int .u8 0,.string (str ([]:List UInt8)),.slice none 0 0],[.int .u64 2,.int .u8 0,.string (str ([]:List UInt8)),.slice none 0 0],[.int .u64 3,.int .u8 0,.string (str ([]:List UInt8)),.slice none 0 0]]) (fl:=[.int .u64 1,.int .u8 0,.string (str ([]:List UInt8)),.slice none 0 0,.int .u64 2,.int .u8 0,.string (str ([]:List UInt8)),.slice none 0 0,.int .u64 3,.int .u8 0,.string (str ([]:List UInt8)),.slice none 0 0]) rfl rfl (by simp [Lh,Value.cells]) (by simp [ti26]) rfl (by simp [Value.oneCell']) (by decide) (by decide) rfl ?_;clear F M a;intro v9 w a M F
 obtain ⟨av9,cv9,rfl,hlev9,hcmv9,hlv9⟩:=M.row_shape (k:=0) rfl
 have Ei:Els Cn 4 Gz6 [.int .u64 1,.int .u8 0,.string (str ([]:List UInt8)),.slice none 0 0,.int .u64 2,.int .u8 0,.string (str ([]:List UInt8)),.slice none 0 0,.int .u64 3,.int .u8 0,.string (str ([]:List UInt8)),.slice none 0 0] [it3 1,it3 2,it3 3]:=⟨[.int .u64 1,.int .u8 0,.string (str []),.slice none 0 0],_,rfl,rfl,⟨none,0,rfl,by decide,by decide,by decide,by decide,Ay.nil⟩,⟨[.int .u64 2,.int .u8 0,.string (str []),.slice none 0 0],_,rfl,rfl,⟨none,0,rfl,by decide,by decide,by decide,by decide,Ay.nil⟩,⟨[.int .u64 3,.int .u8 0,.string (str []),.slice none 0 0],_,rfl,rfl,⟨none,0,rfl,by decide,by decide,by decide,by decide,Ay.nil⟩,rfl⟩⟩⟩
 obtain ⟨hnz10,Gz10,az10,cz10,hGz10,hez10,Sz10,M⟩:=M.freeze_row A0 (k:=0) rfl Ei (by decide)
 clear hez10 az10 cz10
 replace Sz6:=Sz6.mono Bg hGz10
 refine Dz F ent92 rfl rfl (lreset3 M Sz6 Sz10) ?_;clear F M a;rintro _ Gq11 _ w a hGq11 M ⟨aoq11,csq11,Loq11,rfl,rfl,Eoq11⟩ F
 replace Sz6:=Sz6.mono Bg hGq11
 replace Sz10:=Sz10.mono A0 hGq11
 have M:=M.perm (Cm (Cw aoq11 ((l3,(0:Int))).1.length csq11::Loq11) [.blk b7 [.slice av5 1 (cv5),.int .i64 1] 51,.blk b3 [.slice none 0 0] 54,.blk b1 [.slice none 0 0,.int .i64 0] 51] L)
 change Mem w0 Gq11 (.blk b7 [.slice av5 1 (cv5),.int .i64 1] 51::.blk b3 [.slice none 0 0] 54::.blk b1 [.slice none 0 0,.int .i64 0] 51::((Cw aoq11 ((l3,(0:Int))).1.length csq11::Loq11)++L)) _ at M
 revert a
 refine Ae rfl<|Ch rfl rfl<|Ch rfl rfl<|Cz M Bb rfl rfl<|?_;clear M;intro b12 w M
 intro a F
 refine Ar F M Bb (k:=0) rfl rfl rfl (us:=[.slice aoq11 (((l3,(0:Int))).1.length) (((l3,(0:Int))).1.length)]) rfl rfl (by simp [Value.oneCell']) (by simp) ?_;clear F M a;intro w a M F
 change Mem w0 Gq11 (.blk b12 [.slice aoq11 (((l3,(0:Int))).1.length) (((l3,(0:Int))).1.length)] 54::.blk b7 [.slice av5 1 (cv5),.int .i64 1] 51::_::_::((Cw aoq11 ((l3,(0:Int))).1.length csq11::Loq11)++L)) _ at M
 revert a
 refine Af rfl<|Aa<|Ad<|Ab<|?_
 obtain ⟨Ggq11,hGgq11,M,Sgq11⟩:=Ou (M.perm (Cm [.blk b12 [.slice aoq11 (((l3,(0:Int))).1.length) (((l3,(0:Int))).1.length)] 54,.blk b7 [.slice av5 1 (cv5),.int .i64 1] 51,.blk b3 [.slice none 0 0] 54,.blk b1 [.slice none 0 0,.int .i64 0] 51] (Cw aoq11 ((l3,(0:Int))).1.length csq11::Loq11) L)) Eoq11
 replace Sz6:=Sz6.mono Bg hGgq11
 replace Sz10:=Sz10.mono A0 hGgq11
 change Mem w0 Ggq11 (.blk b12 [.slice aoq11 ((l3,(0:Int)).1.length) ((l3,(0:Int)).1.length)] 54::.blk b7 [.slice av5 1 (cv5),.int .i64 1] 51::.blk b3 [.slice none 0 0] 54::.blk b1 [.slice none 0 0,.int .i64 0] 51::L) _ at M
 intro a F
 refine Fw [(true,0),(true,1),(false,2),(false,3)] (Keep Ggq11 [.blk b12 [.slice aoq11 ((l3,(0:Int)).1.length) ((l3,(0:Int)).1.length)] 54,.blk b7 [.slice av5 1 (cv5),.int .i64 1] 51]) rfl (by kernel_rfl) (fun c a d v w h=>by cases d <;> exact h) ((M.drew _).keep (Gle.refl _) (by simp)) ?_
 replace M:=M.drew (w.drawn+1)
 revert a
 refine l_r (fun a F w M=>Am Dv rfl (F.ev rfl) (cs:=[.slice av5 1 (cv5),.int .i64 1]) rfl (M.cellsL (k:=1) rfl rfl)) rfl<|l_r (fun a F w M=>Am Bb rfl (F.ev rfl) (cs:=[.slice aoq11 ((l3,(0:Int)).1.length) ((l3,(0:Int)).1.length)]) rfl (M.cellsL (k:=0) rfl rfl)) rfl<|l_a rfl<|fun a F=>?_
 refine Ar F M Dv (k:=3) rfl rfl rfl (us:=[.slice av5 1 (cv5),.int .i64 1]) rfl rfl (by simp [Value.oneCell']) (by simp) ?_;clear F M a;intro w a M F
 change Mem w0 Ggq11 (_::.blk b7 [.slice av5 1 (cv5),.int .i64 1] 51::_::.blk b1 [.slice av5 1 (cv5),.int .i64 1] 51::L) _ at M
 revert a
 refine Aa<|eK (C':=Keep Ggq11 [.blk b12 [.slice aoq11 ((l3,(0:Int)).1.length) ((l3,(0:Int)).1.length)] 54,.blk b7 [.slice av5 1 (cv5),.int .i64 1] 51]) (M.keep (Gle.refl _) (by simp)) (fun w h=>h.mono (Gle.refl _) (by simp))<|l_a rfl<|fun a F=>?_
 refine Ar F M Bb (k:=2) rfl rfl rfl (us:=[.slice aoq11 ((l3,(0:Int)).1.length) ((l3,(0:Int)).1.length)]) rfl rfl (by simp [Value.oneCell']) (by simp) ?_;clear F M a;intro w a M F
 change Mem w0 Ggq11 (_::.blk b7 [.slice av5 1 (cv5),.int .i64 1] 51::.blk b3 [.slice aoq11 ((l3,(0:Int)).1.length) ((l3,(0:Int)).1.length)] 54::.blk b1 [.slice av5 1 (cv5),.int .i64 1] 51::L) _ at M
 revert a
 refine Aa<|eK (C':=Keep Ggq11 [.blk b12 [.slice aoq11 ((l3,(0:Int)).1.length) ((l3,(0:Int)).1.length)] 54,.blk b7 [.slice av5 1 (cv5),.int .i64 1] 51]) (M.keep (Gle.refl _) (by simp)) (fun w h=>h.mono (Gle.refl _) (by simp))<|Gx<|Ad<|Aj<|fun a F=>fin_aa F M (k1:=3) (k2:=2) rfl rfl rfl Dv Bb rfl rfl rfl rfl rfl rfl ?_
 exact ⟨_,(((hGz6.trans hGz10).trans hGq11).trans hGgq11),M.weaken (.cons _ (.cons _ (.cons _ (.cons _ (sR _))))),_,_,_,_,rfl,Sz6,Sgq11⟩
end Go.Proofs.YtmmhmcplegpenaaGreatDoor
