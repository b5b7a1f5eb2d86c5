/- More layings of library functions (strconv.Atoi): began as written by lay-shelf.mjs. · The walks, part LU. · The walks, part LV. · The walks, part LW. · The walks, part LX. · What is valid can be decided, and the examples of chapter 14. · Notices: the examples of the chapter. · Notices: the examples of the chapter, texts. · The walks, part LY. -/
import Derived.Shelf.Strconv.AtoiAll
import Derived.Test.YtmmhmcplegpenaaGreatDoorJ1
import Derived.Test.YtmmhmcplegpenaaGreatDoorJ10
import Derived.Test.YtmmhmcplegpenaaGreatDoorJ2
import Derived.Test.YtmmhmcplegpenaaGreatDoorJ8
namespace Go.Proofs
open Go.Shelf
def Tryz.laysC172_ren:Go.Shelf.Ren:=⟨fun | 172=>136 | 244=>167 | 245=>147 | 247=>195 | 279=>177 | 280=>178 | 281=>179 | 282=>180 | 287=>146 | 316=>206 | 171=>83 | 205=>207 | 321=>175 | 322=>176 | 243=>133 | 246=>166 | 283=>170 | 284=>171 | 285=>172 | 286=>173 | 129=>198 | 317=>197 | 318=>199 | 319=>200 | 320=>201 | 337=>222 | 338=>223 | n=>n,fun | 9=>9 | 3=>3 | 75=>103 | 76=>104 | 4=>4 | 5=>5 | 167=>250 | 37=>32 | 0=>0 | 85=>265 | 2=>2 | 168=>253 | 53=>23 | 175=>178 | 46=>252 | 210=>277 | 127=>174 | 145=>296 | 143=>294 | 21=>21 | 171=>244 | 173=>247 | 212=>269 | 51=>270 | 20=>20 | 213=>271 | 232=>307 | 233=>308 | 80=>107 | n=>n,fun | 15=>2 | 16=>3 | 17=>0 | 18=>4 | 19=>5 | n=>n⟩
theorem Tryz.laysC172:Go.Proofs.LaysC.n172 Tryz.prog Tryz.laysC172_ren:={
 mixed:=by kernel_rfl
 f129:=Tryz.func198.trans (congrArg some (by kernel_rfl))
 f171:=Tryz.func83.trans (congrArg some (by kernel_rfl))
 f172:=Tryz.func136.trans (congrArg some (by kernel_rfl))
 f205:=Tryz.func207.trans (congrArg some (by kernel_rfl))
 f243:=Tryz.func133.trans (congrArg some (by kernel_rfl))
 f244:=Tryz.func167.trans (congrArg some (by kernel_rfl))
 f245:=Tryz.func147.trans (congrArg some (by kernel_rfl))
 f246:=Tryz.func166.trans (congrArg some (by kernel_rfl))
 f247:=Tryz.func195.trans (congrArg some (by kernel_rfl))
 f279:=Tryz.func177.trans (congrArg some (by kernel_rfl))
 f280:=Tryz.func178.trans (congrArg some (by kernel_rfl))
 f281:=Tryz.func179.trans (congrArg some (by kernel_rfl))
 f282:=Tryz.func180.trans (congrArg some (by kernel_rfl))
 f283:=Tryz.func170.trans (congrArg some (by kernel_rfl))
 f284:=Tryz.func171.trans (congrArg some (by kernel_rfl))
 f285:=Tryz.func172.trans (congrArg some (by kernel_rfl))
 f286:=Tryz.func173.trans (congrArg some (by kernel_rfl))
 f287:=Tryz.func146.trans (congrArg some (by kernel_rfl))
 f316:=Tryz.func206.trans (congrArg some (by kernel_rfl))
 f317:=Tryz.func197.trans (congrArg some (by kernel_rfl))
 f318:=Tryz.func199.trans (congrArg some (by kernel_rfl))
 f319:=Tryz.func200.trans (congrArg some (by kernel_rfl))
 f320:=Tryz.func201.trans (congrArg some (by kernel_rfl))
 f321:=Tryz.func175.trans (congrArg some (by kernel_rfl))
 f322:=Tryz.func176.trans (congrArg some (by kernel_rfl))
 f337:=Tryz.func222.trans (congrArg some (by kernel_rfl))
 f338:=Tryz.func223.trans (congrArg some (by kernel_rfl))
 t0:=Tryz.underlying0
 a0:=Tryz.isAgg0
 z0:=Tryz.sizeOf0
 v0:=Tryz.zeroValue0
 t2:=Tryz.underlying2
 a2:=Tryz.isAgg2
 z2:=Tryz.sizeOf2
 v2:=Tryz.zeroValue2
 t3:=Tryz.underlying3
 a3:=Tryz.isAgg3
 z3:=Tryz.sizeOf3
 v3:=Tryz.zeroValue3
 t4:=Tryz.underlying4
 a4:=Tryz.isAgg4
 z4:=Tryz.sizeOf4
 v4:=Tryz.zeroValue4
 t5:=Tryz.underlying5
 a5:=Tryz.isAgg5
 z5:=Tryz.sizeOf5
 v5:=Tryz.zeroValue5
 t9:=Tryz.underlying9
 a9:=Tryz.isAgg9
 z9:=Tryz.sizeOf9
 v9:=Tryz.zeroValue9
 t20:=Tryz.underlying20
 a20:=Tryz.isAgg20
 z20:=Tryz.sizeOf20
 v20:=Tryz.zeroValue20
 t21:=Tryz.underlying21
 a21:=Tryz.isAgg21
 z21:=Tryz.sizeOf21
 v21:=Tryz.zeroValue21
 t37:=Tryz.underlying32
 a37:=Tryz.isAgg32
 z37:=Tryz.sizeOf32
 v37:=Tryz.zeroValue32
 t46:=Tryz.underlying252
 a46:=Tryz.isAgg252
 z46:=Tryz.sizeOf252
 v46:=Tryz.zeroValue252
 t51:=Tryz.underlying270
 a51:=Tryz.isAgg270
 z51:=Tryz.sizeOf270
 v51:=Tryz.zeroValue270
 t53:=Tryz.underlying23
 a53:=Tryz.isAgg23
 z53:=Tryz.sizeOf23
 v53:=Tryz.zeroValue23
 t75:=Tryz.underlying103
 a75:=Tryz.isAgg103
 z75:=Tryz.sizeOf103
 v75:=Tryz.zeroValue103
 t76:=Tryz.underlying104
 a76:=Tryz.isAgg104
 z76:=Tryz.sizeOf104
 v76:=Tryz.zeroValue104
 t85:=Tryz.underlying265
 a85:=Tryz.isAgg265
 z85:=Tryz.sizeOf265
 v85:=Tryz.zeroValue265
 t127:=Tryz.underlying174
 a127:=Tryz.isAgg174
 z127:=Tryz.sizeOf174
 v127:=Tryz.zeroValue174
 t143:=Tryz.underlying294
 a143:=Tryz.isAgg294
 z143:=Tryz.sizeOf294
 v143:=Tryz.zeroValue294
 t145:=Tryz.underlying296
 a145:=Tryz.isAgg296
 z145:=Tryz.sizeOf296
 v145:=Tryz.zeroValue296
 t167:=Tryz.underlying250
 a167:=Tryz.isAgg250
 z167:=Tryz.sizeOf250
 v167:=Tryz.zeroValue250
 t168:=Tryz.underlying253
 a168:=Tryz.isAgg253
 z168:=Tryz.sizeOf253
 v168:=Tryz.zeroValue253
 t171:=Tryz.underlying244
 a171:=Tryz.isAgg244
 z171:=Tryz.sizeOf244
 v171:=Tryz.zeroValue244
 t173:=Tryz.underlying247
 a173:=Tryz.isAgg247
 z173:=Tryz.sizeOf247
 v173:=Tryz.zeroValue247
 t175:=Tryz.underlying178
 a175:=Tryz.isAgg178
 z175:=Tryz.sizeOf178
 v175:=Tryz.zeroValue178
 t210:=Tryz.underlying277
 a210:=Tryz.isAgg277
 z210:=Tryz.sizeOf277
 v210:=Tryz.zeroValue277
 t212:=Tryz.underlying269
 a212:=Tryz.isAgg269
 z212:=Tryz.sizeOf269
 v212:=Tryz.zeroValue269
 t213:=Tryz.underlying271
 a213:=Tryz.isAgg271
 z213:=Tryz.sizeOf271
 t232:=Tryz.underlying307
 a232:=Tryz.isAgg307
 z232:=Tryz.sizeOf307
 v232:=Tryz.zeroValue307
 t233:=Tryz.underlying308
 a233:=Tryz.isAgg308
 z233:=Tryz.sizeOf308
 v233:=Tryz.zeroValue308
 g15:=by kernel_rfl
 g16:=by kernel_rfl
 g17:=by kernel_rfl
 g18:=by kernel_rfl
 g19:=by kernel_rfl
 t80:=Tryz.underlying107
 a80:=Tryz.isAgg107
 z80:=Tryz.sizeOf107
 v80:=Tryz.zeroValue107
 i0:=by kernel_rfl
 i2:=by kernel_rfl
 i3:=by kernel_rfl
 i4:=by kernel_rfl
 i5:=by kernel_rfl
 i9:=by kernel_rfl
 i20:=by kernel_rfl
 i21:=by kernel_rfl
 i37:=by kernel_rfl
 i46:=by kernel_rfl
 i51:=by kernel_rfl
 i53:=by kernel_rfl
 i75:=by kernel_rfl
 i76:=by kernel_rfl
 i80:=by kernel_rfl
 i85:=by kernel_rfl
 i127:=by kernel_rfl
 i143:=by kernel_rfl
 i145:=by kernel_rfl
 i167:=by kernel_rfl
 i168:=by kernel_rfl
 i171:=by kernel_rfl
 i173:=by kernel_rfl
 i175:=by kernel_rfl
 i210:=by kernel_rfl
 i212:=by kernel_rfl
 i232:=by kernel_rfl
 i233:=by kernel_rfl
 m15:=by kernel_rfl
 m16:=by kernel_rfl
 m17:=by kernel_rfl
 m18:=by kernel_rfl
 m19:=by kernel_rfl
 c0:=by kernel_rfl
 c2:=by kernel_rfl
 c3:=by kernel_rfl
 c4:=by kernel_rfl
 c5:=by kernel_rfl
 c9:=by kernel_rfl
 c20:=by kernel_rfl
 c21:=by kernel_rfl
 c37:=by kernel_rfl
 c46:=by kernel_rfl
 c51:=by kernel_rfl
 c53:=by kernel_rfl
 c75:=by kernel_rfl
 c76:=by kernel_rfl
 c80:=by kernel_rfl
 c85:=by kernel_rfl
 c127:=by kernel_rfl
 c143:=by kernel_rfl
 c145:=by kernel_rfl
 c167:=by kernel_rfl
 c168:=by kernel_rfl
 c171:=by kernel_rfl
 c173:=by kernel_rfl
 c175:=by kernel_rfl
 c210:=by kernel_rfl
 c212:=by kernel_rfl
 c213:=by kernel_rfl
 c232:=by kernel_rfl
 c233:=by kernel_rfl }
end Go.Proofs
namespace Go.Proofs.YtmmhmcplegpenaaGreatDoor
open Go Go.Y Go.Proofs
set_option linter.unusedSimpArgs false
set_option linter.unusedVariables false
theorem next_spec {w0 w:World} {G:Ghost} {L:List Res} {b l:Nat} {c:List UInt8} (M:Mem w0 G (.blk b [.string (str (c)),.int .i64 (((l:Nat):Int))] 155::L) w) (HG:Globs 0 1 2 3 G) (hc:c.length≤1048576) (hl:l≤9000000) :
  Calls Tryz.prog 86 #[.pointer (some ⟨b,0,none⟩)] w (RetS w0 G (.blk b [.string (str ((Lib.cut c [10]).2.1)),.int .i64 ((((l+1):Nat):Int))] 155::L) fun v=>v=.tuple #[.string (str (Lib.cut c [10]).1),.bool (Lib.cut c [10]).2.2]):=by
 refine e_start (vs:=[_]) Tryz.func86 rfl (n:=29) rfl rfl<|e_seq<|e_reg<|s_as rfl<|s_as rfl<|e_nil<|e_tn<|e_seq<|e_reg<|s_mv rfl<|s_nc rfl<|s_fa tok155.k rfl rfl<|s_ld tok3 M 0 rfl rfl rfl rfl<|s_add rfl rfl<|s_nc rfl<|s_fa tok155.k rfl rfl<|s_st tok3 M 0 rfl rfl rfl rfl rfl rfl<|?_;clear M;intro w M
 refine e_nil<|e_tn<|e_seq<|e_reg<|s_mv rfl<|s_nc rfl<|s_fa tok155.k rfl rfl<|s_ld tok9 M 0 rfl rfl rfl rfl<|s_cS ent100 rfl rfl (cut_spec (s:=c) (sep:=([10]:List UInt8)) M HG (by omega))<|?_;clear M;rintro _ w M rfl
 have hclc1:=cut_lens 10 c
 refine s_mv rfl<|s_ex rfl rfl<|s_ex rfl rfl<|s_ex rfl rfl<|s_as rfl<|s_as rfl<|s_as rfl<|e_nil<|e_tn<|e_seq<|e_reg<|s_mv rfl<|s_mv rfl<|s_nc rfl<|s_fa tok155.k rfl rfl<|s_st tok9 M 0 rfl rfl rfl rfl rfl rfl<|?_;clear M;intro w M
 refine e_nil<|e_tn<|e_seq<|e_reg<|s_mv rfl<|s_mv rfl<|s_as rfl<|s_as rfl<|e_nil<|e_tn<|e_ret<|e_fin2 rfl rfl rfl<|?_
 exact ⟨M,rfl⟩
theorem atoi_spec {w0 w:World} {G:Ghost} {L:List Res} (M:Mem w0 G L w) (HG:Globs 0 1 2 3 G) {s:List UInt8} (hs:s.length≤281474976710656) :
  Calls Tryz.prog 136 #[.string (str s)] w (RetS w0 G L fun v=>∃ (z:Int) (er:Value),v=.tuple #[.int .i64 z,er]∧(er=.nilIface∨∃ te pe,er=.iface te pe)∧((Lib.atoiAll s=.ok z∧isNilI er=true)∨((∀ x,Lib.atoiAll s≠.ok x)∧isNilI er=false))):=by
 have hd:(str s).data.toList=s:=str_data s
 cases h:Lib.atoiAll s with
 | ok u =>
  refine (Any.strconv_Atoi_ok Tryz.laysC172 (str s) (by rw [str_size];omega) u (by rw [hd];exact h) w).mono ?_
  rintro e w' ⟨rfl,hw⟩
  refine ⟨?_,u,_,rfl,Or.inl rfl,Or.inl ⟨rfl,rfl⟩⟩
  rcases hw with rfl | ⟨t,rfl⟩
  ·exact M
  ·exact M.bytesWorld _ _
 | range =>
  obtain ⟨ev,h1,h2⟩:=HG.rng
  refine (Any.strconv_Atoi_range Tryz.laysC172 (str s) (by rw [str_size];omega) (by rw [hd];exact h) ev w (M.cell h1) h2).mono ?_
  rintro e w' ⟨N,rfl,_,_,hb⟩
  exact ⟨M.below' hb,_,_,rfl,Or.inr ⟨_,_,rfl⟩,Or.inr ⟨(fun x hx=>by cases hx),rfl⟩⟩
 | _ =>
  obtain ⟨ev,h1,h2⟩:=HG.syn
  refine (Any.strconv_Atoi_syntax Tryz.laysC172 (str s) (by rw [str_size];omega) (by rw [hd];exact h) ev w (M.cell h1) h2).mono ?_
  rintro e w' ⟨N,rfl,_,_,hb⟩
  exact ⟨M.below' hb,_,_,rfl,Or.inr ⟨_,_,rfl⟩,Or.inr ⟨(fun x hx=>by cases hx),rfl⟩⟩
theorem splitBW_F (s:List UInt8):(Lib.splitB (str [32]) 0 (Lib.countB (str s) (str [32])) (str s)).map Value.string=(splitW s).map (fun x=>Value.string (str x)):=by
 have h:=Lib.splitB_data (str [32]) 0 (Lib.countB (str s) (str [32])) (str s)
 rw [str_data,str_data] at h
 have h2:Lib.countB (str s) (str [32])=Lib.count s [32]:=by
  show Lib.count (str s).data.toList (str [32]).data.toList=_
  rw [str_data,str_data]
 rw [h2] at h ⊢
 show _=(Lib.splitK [32] 0 (Lib.count s [32]) s).map _
 rw [← h,List.map_map]
 exact List.map_congr_left fun x _=>rfl
theorem splitw_spec {w0 w:World} {G:Ghost} {L:List Res} (M:Mem w0 G L w) (HG:Globs 0 1 2 3 G) {s:List UInt8} (hs:s.length < 4294967281) :
  Calls Tryz.prog 102 #[.string (str s),.string (str [32])] w (Ret w0 G L fun G' v=>∃ a:Option Addr,v=.slice a (splitW s).length (splitW s).length∧RdSl rdStr 1 G' (.slice a (splitW s).length (splitW s).length) (splitW s)):=by
 obtain ⟨m,hm⟩:=HG.max
 refine (Any.strings_Split Tryz.lays146 (by kernel_rfl) (str s) (str [32]) m w (by rw [str_size];exact hs) (M.cell hm) (by rw [str_size];decide)).mono ?_
 rintro e w' ⟨rfl,rfl⟩
 have hl:(splitW s).length=Lib.countB (str s) (str [32])+1:=by
  have h1:=Lib.splitB_all (str [32]) (by rw [str_size];decide) 0 _ (str s) rfl
  rw [← h1,← List.length_map (f:=Value.string),splitBW_F,List.length_map]
 rw [splitBW_F,← hl]
 have hcb:=Lib.countB_le (str [32]) (by rw [str_size];decide) (str s).size (str s) (Nat.le_refl _)
 rw [str_size] at hcb
 have hle:(splitW s).length≤4294967281:=by omega
 have M1:=M.newrow (t:=Tryz.lays146_ren.t 9) (sz:=1) (n:=(splitW s).length) (c:=(splitW s).length) (cs:=(splitW s).map fun x=>Value.string (str x)) (spare:=[])
  (by intro u hu;obtain ⟨x,_,rfl⟩:=List.mem_map.1 hu;rfl) (by simp) (by simp) (Nat.le_refl _) (by unfold maxLen;omega)
 rw [List.append_nil] at M1
 obtain ⟨_,G',a,c,hG,he,S,M2⟩:=M1.freeze_row mono_rdStr (k:=0) rfl (els_strs (splitW s) (fun x hx=>by have:=splitW_len hx;omega)) (by decide)
 exact ⟨G',hG,M2,_,rfl,S⟩
theorem n1_spec {w0 w:World} {G:Ghost} {L:List Res} {b6:Nat} {nm:List UInt8} {k1 k2 k3 k4:Bool} {fv:Value} (hfv:Value.oneCell' fv=true) {aw:Option Addr} {cw:Nat} {ws:List (List UInt8)} (S:RdSl rdStr 1 G (.slice aw ws.length cw) ws) (M:Mem w0 G (.blk b6 [.slice (aw) (ws.length) (cw)] 24::L) w) {W:List UInt8} (hW:ws[0]?=some W) :
  Calls Tryz.prog 135 #[.agg #[.string (str (nm)),.bool (k1),.bool (k2),.bool (k3),.bool (k4),fv],.pointer (some ⟨b6,0,none⟩)] w (RetS w0 G (.blk b6 [.slice (aw) (ws.length) (cw)] 24::L) fun v=>v=.bool (decide (nm=W))):=by
 refine e_start (vs:=[_,_]) Tryz.func135 rfl (n:=10) rfl rfl<|e_seq<|e_reg<|s_bx M rfl rfl rfl<|?_;clear M;intro b1 w M
 refine s_as rfl<|e_nil<|e_tn<|e_seq<|fun a F=>w_plan [(true,0),(true,1),(true,2),(true,3),(true,4),(true,5),(true,6)] (Keep G [.blk b1 [.string (str (nm)),.bool (k1),.bool (k2),.bool (k3),.bool (k4),fv] 138,.blk b6 [.slice (aw) (ws.length) (cw)] 24]) rfl (by kernel_rfl) (fun c a d v w h=>by cases d <;> exact h) ((M.drew _).keep (Gle.refl _) (by simp)) ?_
 replace M:=M.drew (w.drawn+1)
 revert a
 refine l_r (fun a F w M=>x_fa tok138.k rfl F rfl) rfl<|l_r (fun a F w M=>run_load1 (agf tok9 rfl) (F.ev rfl) (M.cellL (k:=0) rfl rfl)) rfl<|l_r (fun a F w M=>run_load1 (agf tok24 rfl) (F.ev rfl) (M.cellL (k:=1) rfl rfl)) rfl<|?_
 obtain ⟨be2,oe2,_,Ie2,_,Ae2,⟨rfl,hsle2⟩⟩:=S.at hW
 refine l_r (fun a F w M=>run_indexI tok24.k tok9 (F.ev rfl) (F.ev rfl) (by omega) Ie2) rfl<|l_r (fun a F w M=>run_load1 (agf tok9 rfl) (F.ev rfl) (M.cellA Ae2 0 (by omega) rfl)) rfl<|l_r (fun a F w M=>run_strEq (F.ev rfl) (F.ev rfl)) rfl<|l_r (fun a F w M=>x_as F rfl) rfl<|l_nil<|?_
 generalize ({ w with drawn:=w.drawn+1 }:World)=w at M ⊢
 refine e_tn<|e_ret<|e_fin1 rfl rfl<|?_
 exact ⟨M.weaken (.cons _ (.cons_cons _ (List.Sublist.refl _))),rfl⟩
open Go Go.Y Go.Proofs
set_option linter.unusedSimpArgs false
set_option linter.unusedVariables false
theorem idxn_spec {w0 w:World} {G:Ghost} {L:List Res} {b7 b6:Nat} {aw:Option Addr} {cw:Nat} {ws:List (List UInt8)} (S:RdSl rdStr 1 G (.slice aw ws.length cw) ws) (M:Mem w0 G (.blk b7 KINDS 139::.blk b6 [.slice (aw) (ws.length) (cw)] 24::L) w) {W:List UInt8} (hW:ws[0]?=some W) :
  Calls Tryz.prog 134 #[.slice (some ⟨b7,0,none⟩) 6 6,.func (.func 135) #[] #[.pointer (some ⟨b6,0,none⟩)]] w (RetS w0 G (.blk b7 KINDS 139::.blk b6 [.slice (aw) (ws.length) (cw)] 24::L) fun v=>∃ z:Int,v=.int .i64 z∧((z = -1∧∀ j,j < 6→nameK j≠W)∨∃ k:Nat,k < 6∧z=((k:Nat):Int)∧nameK k=W∧∀ j,j < k→nameK j≠W)):=by
 refine e_start (vs:=[_,_]) Tryz.func134 rfl (n:=19) rfl rfl<|e_seq<|e_reg<|s_as rfl<|e_nil<|e_tn<|e_seq<|e_seq<|e_reg<|s_mv rfl<|s_ls tok219.k rfl<|s_mv rfl<|e_nil<|e_tn<|e_block<|fun a F=>w_loopN (fun m a' w'=>∃ (i:Nat),m=6 - i∧Fits 19 a' [(0,.slice (some ⟨b7,0,none⟩) 6 6),(1,.func (.func 135) #[] #[.pointer (some ⟨b6,0,none⟩)]),(6,.slice (some ⟨b7,0,none⟩) 6 6),(7,.int .i64 (((6:Nat):Int))),(8,.int .i64 (((i:Nat):Int)))]∧Mem w0 G (.blk b7 KINDS 139::.blk b6 [.slice (aw) (ws.length) (cw)] 24::L) w'∧(i≤6)∧(∀ j,j < i→nameK j≠W)) _ ⟨0,rfl,F.to ⟨rfl,rfl,rfl,rfl,rfl,trivial⟩,M,by omega,fun j h=>by omega⟩ ?_
 clear F M
 rintro m a w ⟨i,rfl,F,M,hi,hA⟩
 revert a
 refine e_seq<|e_reg<|s_lt rfl rfl<|e_nil<|e_tn<|e_seq<|e_cond rfl ?_ ?_
 ·intro hc
  have h1b:=hc;clear hc
  have h1:((i:Nat):Int) < ((6:Nat):Int):=of_decide_eq_true h1b
  refine e_skip<|e_tn<|e_seq<|e_block<|e_seq<|e_reg<|s_mv rfl<|s_as rfl<|e_nil<|e_tn<|e_seq<|e_reg<|s_mv rfl<|s_mv rfl<|s_mv rfl<|e_run (fun a F=>run_indexI (b:=b7) (o:=0+i * 6) tok219.k tok138 (F.ev rfl) (F.ev rfl) (by omega) ⟨0,rfl,rfl,by omega⟩) rfl<|e_run (fun a F=>run_loadA tok138 rfl (F.ev rfl) (cs:=[.string (str (nameK i)),.bool (decide (uAt i)),.bool (decide (uCo i)),.bool (decide (uTo i)),.bool (decide (uIt i)),kfn i]) rfl (M.cellsL (k:=0) rfl (kinds_drop (k:=i) (by omega)))) rfl<|?_
  replace M:=M.perm (perm_front _ 1 _ rfl)
  change Mem w0 G (_::_::L) _ at M
  refine s_vS ent135 (caps:=[.pointer (some ⟨b6,0,none⟩)]) rfl rfl rfl (n1_spec (nm:=nameK i) (by unfold kfn;split <;> rfl) S M hW)<|?_;clear M;rintro _ w M rfl
  refine e_nil<|e_tn<|e_cond rfl ?_ ?_
  ·intro hc
   have h2b:=hc;clear hc
   have h2:nameK i=W:=of_decide_eq_true h2b
   refine e_seq<|e_reg<|s_mv rfl<|s_as rfl<|e_nil<|e_tn<|e_ret<|e_br<|e_tr<|e_tr<|e_br<|e_tr<|e_fin1 rfl rfl<|?_
   replace M:=M.perm (perm_front _ 1 _ rfl)
   change Mem w0 G (_::_::L) _ at M
   exact ⟨M,_,rfl,Or.inr ⟨i,by omega,rfl,by assumption,hA⟩⟩
  ·intro hc
   have h3b:=hc;clear hc
   have h3:¬ (nameK i=W):=of_decide_eq_false h3b
   refine e_skip<|e_bn<|e_tn<|e_reg<|s_add rfl rfl<|s_mv rfl<|e_nil<|e_tn<|?_
   replace M:=M.perm (perm_front _ 1 _ rfl)
   change Mem w0 G (_::_::L) _ at M
   intro a F
   exact ⟨_,by omega,i+1,rfl,F.to ⟨rfl,rfl,rfl,rfl,rfl,trivial⟩,(M.weaken (.cons_cons _ (.cons_cons _ (List.Sublist.refl _)))),by omega,fun j hj=>by rcases Nat.lt_succ_iff_lt_or_eq.1 hj with h_ | h_;exact hA j h_;subst h_;assumption⟩
 ·intro hc
  have h4b:=hc;clear hc
  have h4:¬ (((i:Nat):Int) < ((6:Nat):Int)):=of_decide_eq_false h4b
  refine e_exit<|e_te<|e_te<|e_bh<|e_tn<|e_seq<|e_reg<|s_as rfl<|e_nil<|e_tn<|e_ret<|e_fin1 rfl rfl<|?_
  replace M:=M.perm (perm_front _ 1 _ rfl)
  replace M:=M.perm (perm_front _ 1 _ rfl)
  change Mem w0 G (_::_::L) _ at M
  exact ⟨M,_,rfl,Or.inl ⟨rfl,fun j hj=>hA j (by omega)⟩⟩
open Go Go.Y Go.Proofs
set_option linter.unusedSimpArgs false
set_option linter.unusedVariables false
def NRes (b:Nat) (c:List UInt8) (l:Nat) (L:List Res) (G':Ghost) (L':List Res) (v:Value):Prop :=
  ∃ (k:Nat) (a1 c1 t1:Int) (ad:Option Addr) (ln cn:Nat) (ok:Bool) (c':List UInt8) (l':Nat),v=.tuple #[.agg #[.int .u8 (((k:Nat):Int)),.int .i64 (a1),.int .i64 (c1),.int .i64 (t1),.slice (ad) (ln) (cn)],.bool ok]∧L' = (.blk b [.string (str (c')),.int .i64 (((l':Nat):Int))] 155::L)∧c'.length≤c.length∧l'≤l+1025 ∧
  ((ok=true∧∃ x sz ys,Head x sz∧okI ys∧((ys.length:Nat):Int)=sz∧c=lineN x sz++(textF ys++c')∧l' = l+1+ys.length∧rdNote G' [.int .u8 (((k:Nat):Int)),.int .i64 (a1),.int .i64 (c1),.int .i64 (t1),.slice (ad) (ln) (cn)] { x with items:=ys }) ∨
   (ok=false∧((¬ HeadAt c∧l' = l+1)∨∃ x sz ys r,Head x sz∧okI ys∧((ys.length:Nat):Int) < sz∧l' = l+1+ys.length+1∧c=lineN x sz++(textF ys++r)∧¬ ItemAt r)))
theorem okI_snoc {ys:List ItemD} {y:ItemD} (h:okI ys) (hy:ItemOk 8 y∧y.key < 18446744073709551616∧y.typ < 256):okI (ys++[y]):=by
 intro z hz
 rcases List.mem_append.1 hz with hz | hz
 ·exact h z hz
 ·rw [List.mem_singleton.1 hz];exact hy
theorem notice_spec {w0 w:World} {G:Ghost} {L:List Res} {b l:Nat} {c:List UInt8} (M:Mem w0 G (.blk b [.string (str (c)),.int .i64 (((l:Nat):Int))] 155::L) w) (HG:Globs 0 1 2 3 G) (hcl:c.length≤1048576) (hll:l≤2000000) :
  Calls Tryz.prog 85 #[.func (.func 86) #[.pointer (some ⟨b,0,none⟩)] #[]] w (RetM w0 G (NRes b c l L)):=by
 refine e_start (vs:=[_]) Tryz.func85 rfl (n:=133) rfl rfl<|e_seq<|e_reg<|s_al M tok65 rfl rfl<|?_;clear M;intro b1 w M
 refine s_as rfl<|e_nil<|e_tn<|e_seq<|e_reg<|s_mv rfl<|?_
 replace M:=M.perm (perm_front _ 1 _ rfl)
 change Mem w0 G (_::_::L) _ at M
 intro a F
 refine rl_callF F ent86 (first:=[.pointer (some ⟨b,0,none⟩)]) rfl rfl rfl (next_spec (c:=c) (l:=l) M HG (by omega) (by omega)) ?_;clear F M a;rintro _ w a M rfl F
 have hctk3:=cut_lens 10 c
 revert a
 refine s_mv rfl<|s_ex rfl rfl<|s_ex rfl rfl<|s_as rfl<|s_as rfl<|e_nil<|e_tn<|e_seq<|e_reg<|s_mv rfl<|s_cR ent102 rfl rfl (splitw_spec (s:=(Lib.cut c [10]).1) M HG (by omega))<|?_;clear M;rintro _ Gp4 w hGp4 M ⟨ap4,rfl,Sp4⟩
 replace HG:=HG.mono hGp4
 refine s_al M tok24 rfl rfl<|?_;clear M;intro b5 w M
 refine s_st tok24 M 0 rfl rfl rfl rfl rfl rfl<|?_;clear M;intro w M
 refine e_nil<|e_tn<|e_seq<|e_reg<|s_cS ent75 rfl rfl (kinds_spec M)<|?_;clear M;rintro _ w M rfl
 refine s_al M tok139 rfl rfl<|?_;clear M;intro b7 w M
 intro a F
 refine rl_storeA F M tok139 (k:=0) rfl rfl rfl (us:=KINDS) rfl rfl (by simp [KINDS,Value.oneCell']) (Nat.le_refl 36) ?_;clear F M a;intro w a M F
 change Mem w0 Gp4 (.blk b7 KINDS 139::.blk b5 [.slice (ap4) ((splitW ((Lib.cut c [10]).1)).length) ((splitW ((Lib.cut c [10]).1)).length)] 24::.blk b [.string (str ((Lib.cut c [10]).2.1)),.int .i64 ((((l+1):Nat):Int))] 155::.blk b1 [.int .u8 0,.int .i64 0,.int .i64 0,.int .i64 0,.slice none 0 0] 65::L) _ at M
 revert a
 refine e_nil<|e_tn<|e_seq<|?_
 obtain ⟨W,wr,hws,hwsb⟩:=splitW_back (Lib.cut c [10]).1
 have hW:(splitW (Lib.cut c [10]).1)[0]?=some W:=by rw [hws];rfl
 have hwsl:=congrArg List.length hws
 intro a F
 rw [List.length_cons] at hwsl
 revert a
 refine e_reg<|e_run (fun a F=>run_sliceArr0 tok139.k tok138 (F.ev rfl)) rfl<|e_run (fun a F=>run_makeFunc (vs:=#[.pointer (some ⟨b5,0,none⟩)]) (by simp only [List.map_toArray,List.map_cons,List.map_nil,F.ev (x:=.tmp 6) rfl])) rfl<|?_
 replace M:=M.perm (perm_front _ 1 _ rfl)
 replace M:=M.perm (perm_front _ 1 _ rfl)
 change Mem w0 Gp4 (_::.blk b5 [.slice (ap4) ((splitW ((Lib.cut c [10]).1)).length) ((splitW ((Lib.cut c [10]).1)).length)] 24::_::_::L) _ at M
 refine s_cS ent134 rfl rfl (idxn_spec Sp4 M hW)<|?_;clear M;rintro _ w M ⟨zz9,rfl,hzz9⟩
 refine s_as rfl<|e_nil<|e_tn<|e_seq<|e_seq<|e_reg<|s_mv rfl<|s_not rfl<|s_mv rfl<|?_
 rcases Bool.eq_false_or_eq_true (!((Lib.cut c [10]).2.2)) with hc | hc
 ·skip
  have h10b:=hc;clear hc
  have h10:((Lib.cut c [10]).2.2)=false:=(of_not_t h10b)
  have h10c:((Lib.cut c [10]).2.2)=false:=(of_not_t h10b)
  refine g_f rfl (not_t h10c)<|g_f rfl (not_t h10c)<|s_pt rfl (not_t h10c) rfl<|e_nil<|e_tn<|e_cond_t rfl rfl<|e_seq<|e_reg<|e_run (fun a F=>run_loadA tok65 rfl (F.ev rfl) (cs:=[.int .u8 0,.int .i64 0,.int .i64 0,.int .i64 0,.slice none 0 0]) rfl (M.cellsL (k:=3) rfl rfl)) rfl<|fun a F=>?_
  refine rl_storeA F M tok65 (k:=3) rfl rfl rfl (us:=[.int .u8 0,.int .i64 0,.int .i64 0,.int .i64 0,.slice none 0 0]) rfl rfl (by simp [Value.oneCell']) (by simp) ?_;clear F M a;intro w a M F
  change Mem w0 Gp4 (_::.blk b5 [.slice (ap4) ((splitW ((Lib.cut c [10]).1)).length) ((splitW ((Lib.cut c [10]).1)).length)] 24::_::.blk b1 [.int .u8 0,.int .i64 0,.int .i64 0,.int .i64 0,.slice none 0 0] 65::L) _ at M
  revert a
  refine s_as rfl<|e_nil<|e_tn<|e_ret<|e_tr<|fun a F=>fin_ct F M (k:=3) rfl rfl tok65 rfl rfl rfl rfl ?_
  replace M:=M.perm (perm_front _ 2 _ rfl)
  change Mem w0 Gp4 (_::_::.blk b5 [.slice (ap4) ((splitW ((Lib.cut c [10]).1)).length) ((splitW ((Lib.cut c [10]).1)).length)] 24::.blk b1 [.int .u8 0,.int .i64 0,.int .i64 0,.int .i64 0,.slice none 0 0] 65::L) _ at M
  exact ⟨_,_,hGp4,M.weaken (.cons_cons _ (.cons _ (.cons _ (.cons _ (List.Sublist.refl _))))),0,0,0,0,none,0,0,false,_,_,rfl,rfl,by omega,by omega,Or.inr ⟨rfl,Or.inl ⟨nohead_1 hws hzz9 (by first | exact Or.inl (by assumption) | exact Or.inr (by omega)),rfl⟩⟩⟩
 ·skip
  have h11b:=hc;clear hc
  have h11:((Lib.cut c [10]).2.2)=true:=(of_not_f h11b)
  have h11c:((Lib.cut c [10]).2.2)=true:=(of_not_f h11b)
  refine g_t rfl (not_f h11c)<|s_mv rfl<|g_t rfl (not_f h11c)<|s_lt rfl rfl<|s_pf rfl (not_f h11c) rfl<|e_nil<|e_tn<|e_cond rfl ?_ ?_
  ·intro hc
   have h12b:=hc;clear hc
   have h12:zz9 < 1:=of_decide_eq_true h12b
   refine e_seq<|e_reg<|e_run (fun a F=>run_loadA tok65 rfl (F.ev rfl) (cs:=[.int .u8 0,.int .i64 0,.int .i64 0,.int .i64 0,.slice none 0 0]) rfl (M.cellsL (k:=3) rfl rfl)) rfl<|fun a F=>?_
   refine rl_storeA F M tok65 (k:=3) rfl rfl rfl (us:=[.int .u8 0,.int .i64 0,.int .i64 0,.int .i64 0,.slice none 0 0]) rfl rfl (by simp [Value.oneCell']) (by simp) ?_;clear F M a;intro w a M F
   change Mem w0 Gp4 (_::.blk b5 [.slice (ap4) ((splitW ((Lib.cut c [10]).1)).length) ((splitW ((Lib.cut c [10]).1)).length)] 24::_::.blk b1 [.int .u8 0,.int .i64 0,.int .i64 0,.int .i64 0,.slice none 0 0] 65::L) _ at M
   revert a
   refine s_as rfl<|e_nil<|e_tn<|e_ret<|e_tr<|fun a F=>fin_ct F M (k:=3) rfl rfl tok65 rfl rfl rfl rfl ?_
   replace M:=M.perm (perm_front _ 2 _ rfl)
   change Mem w0 Gp4 (_::_::.blk b5 [.slice (ap4) ((splitW ((Lib.cut c [10]).1)).length) ((splitW ((Lib.cut c [10]).1)).length)] 24::.blk b1 [.int .u8 0,.int .i64 0,.int .i64 0,.int .i64 0,.slice none 0 0] 65::L) _ at M
   exact ⟨_,_,hGp4,M.weaken (.cons_cons _ (.cons _ (.cons _ (.cons _ (List.Sublist.refl _))))),0,0,0,0,none,0,0,false,_,_,rfl,rfl,by omega,by omega,Or.inr ⟨rfl,Or.inl ⟨nohead_1 hws hzz9 (by first | exact Or.inl (by assumption) | exact Or.inr (by omega)),rfl⟩⟩⟩
  ·intro hc
   have h13b:=hc;clear hc
   have h13:¬ (zz9 < 1):=of_decide_eq_false h13b
   refine e_skip<|e_tn<|e_seq<|?_
   have hwt:(Lib.cut c [10]).2.2=true:=by assumption
   obtain ⟨k,hk,hzk,hkW⟩:=kind_of_z hzz9 (by assumption)
   subst hzk
   refine e_reg<|s_al M tok3 rfl rfl<|?_;clear M;intro b14 w M
   refine s_st tok3 M 0 rfl rfl rfl rfl rfl rfl<|?_;clear M;intro w M
   refine e_nil<|e_tn<|e_seq<|e_reg<|s_mv rfl<|e_run (fun a F=>run_conv_int tok5.k ⟨_,by rw [under_int tok3.k]⟩ (F.ev rfl) (in_u8 (by omega) (by omega))) rfl<|s_fa tok65.k rfl rfl<|s_st tok5 M 4 rfl rfl rfl rfl rfl rfl<|?_;clear M;intro w M
   refine e_nil<|e_tn<|e_seq<|e_reg<|s_mv rfl<|e_run (fun a F=>run_idxPtrA (j:=k) tok139.k tok138 (F.ev rfl) (F.ev rfl) rfl (by omega)) rfl<|e_run (fun a F=>run_loadA tok138 rfl (F.ev rfl) (cs:=[.string (str (nameK k)),.bool (decide (uAt k)),.bool (decide (uCo k)),.bool (decide (uTo k)),.bool (decide (uIt k)),kfn k]) rfl (M.cellsL (k:=1) rfl (kinds_drop (k:=k) (by omega)))) rfl<|fun a F=>?_
   rw [kfn_pos hk.1] at F
   revert a
   refine s_cR ent82 rfl rfl (nums_spec (k:=k) (b:=b1) (b2:=b14) M)<|?_;clear M;rintro _ Gq16 w hGq16 M ⟨aq16,cq16,rfl,Sq16⟩
   replace HG:=HG.mono hGq16
   replace Sp4:=Sp4.mono mono_rdStr hGq16
   refine s_as rfl<|e_nil<|e_tn<|e_seq<|e_seq<|?_
   have hf4:=fm_len (upsK k b1 b14)
   intro a F
   rw [show (upsK k b1 b14).length=4 from rfl] at hf4
   revert a
   refine e_reg<|s_ld tok24 M 2 rfl rfl rfl rfl<|s_ls tok24.k rfl<|s_mv rfl<|s_ls tok147.k rfl<|s_add rfl rfl<|s_ne rfl rfl<|e_nil<|e_tn<|e_cond rfl ?_ ?_
   ·intro hc
    have h17b:=hc;clear hc
    have h17:¬ ((((splitW ((Lib.cut c [10]).1)).length:Nat):Int)=((((fm (upsK k b1 b14)).length:Nat):Int))+1):=of_decide_eq_false (of_not_t h17b)
    have h17c:(decide ((((splitW ((Lib.cut c [10]).1)).length:Nat):Int)=((((fm (upsK k b1 b14)).length:Nat):Int))+1))=false:=(of_not_t h17b)
    refine e_seq<|e_reg<|e_run (fun a F=>run_loadA tok65 rfl (F.ev rfl) (cs:=[.int .u8 (((k:Nat):Int)),.int .i64 0,.int .i64 0,.int .i64 0,.slice none 0 0]) rfl (M.cellsL (k:=4) rfl rfl)) rfl<|fun a F=>?_
    refine rl_storeA F M tok65 (k:=4) rfl rfl rfl (us:=[.int .u8 (((k:Nat):Int)),.int .i64 0,.int .i64 0,.int .i64 0,.slice none 0 0]) rfl rfl (by simp [Value.oneCell']) (by simp) ?_;clear F M a;intro w a M F
    change Mem w0 Gq16 (.blk b14 [.int .i64 0] 3::_::.blk b5 [.slice (ap4) ((splitW ((Lib.cut c [10]).1)).length) ((splitW ((Lib.cut c [10]).1)).length)] 24::_::.blk b1 [.int .u8 (((k:Nat):Int)),.int .i64 0,.int .i64 0,.int .i64 0,.slice none 0 0] 65::L) _ at M
    revert a
    refine s_as rfl<|e_nil<|e_tn<|e_ret<|e_tr<|fun a F=>fin_ct F M (k:=4) rfl rfl tok65 rfl rfl rfl rfl ?_
    replace M:=M.perm (perm_front _ 3 _ rfl)
    change Mem w0 Gq16 (_::.blk b14 [.int .i64 0] 3::_::.blk b5 [.slice (ap4) ((splitW ((Lib.cut c [10]).1)).length) ((splitW ((Lib.cut c [10]).1)).length)] 24::.blk b1 [.int .u8 (((k:Nat):Int)),.int .i64 0,.int .i64 0,.int .i64 0,.slice none 0 0] 65::L) _ at M
    exact ⟨_,_,(hGp4.trans hGq16),M.weaken (.cons_cons _ (.cons _ (.cons _ (.cons _ (.cons _ (List.Sublist.refl _)))))),k,0,0,0,none,0,0,false,_,_,rfl,rfl,by omega,by omega,Or.inr ⟨rfl,Or.inl ⟨nohead_2 (b:=b1) (b2:=b14) hws hk hkW (by omega),rfl⟩⟩⟩
   ·intro hc
    have h18b:=hc;clear hc
    have h18:(((splitW ((Lib.cut c [10]).1)).length:Nat):Int)=((((fm (upsK k b1 b14)).length:Nat):Int))+1:=of_decide_eq_true (of_not_f h18b)
    have h18c:(decide ((((splitW ((Lib.cut c [10]).1)).length:Nat):Int)=((((fm (upsK k b1 b14)).length:Nat):Int))+1))=true:=(of_not_f h18b)
    refine e_skip<|e_tn<|e_seq<|e_seq<|?_
    have hlw:wr.length=(fm (upsK k b1 b14)).length:=by omega
    refine e_reg<|s_mv rfl<|s_ls tok147.k rfl<|s_mv rfl<|e_nil<|e_tn<|e_block<|fun a F=>w_loopN (fun m a' w'=>∃ (i:Nat),∃ (x:NotD),∃ (sz:Int),m=(fm (upsK k b1 b14)).length - i∧Fits 133 a' [(0,.func (.func 86) #[.pointer (some ⟨b,0,none⟩)] #[]),(2,.pointer (some ⟨b1,0,none⟩)),(6,.pointer (some ⟨b5,0,none⟩)),(7,.pointer (some ⟨b7,0,none⟩)),(9,.pointer (some ⟨b14,0,none⟩)),(10,.slice (aq16) ((fm (upsK k b1 b14)).length) (cq16)),(52,.slice (aq16) ((fm (upsK k b1 b14)).length) (cq16)),(53,.int .i64 ((((fm (upsK k b1 b14)).length:Nat):Int))),(54,.int .i64 (((i:Nat):Int)))]∧Mem w0 Gq16 (.blk b14 [.int .i64 (sz)] 3::.blk b7 KINDS 139::.blk b5 [.slice (ap4) ((splitW ((Lib.cut c [10]).1)).length) ((splitW ((Lib.cut c [10]).1)).length)] 24::.blk b [.string (str ((Lib.cut c [10]).2.1)),.int .i64 ((((l+1):Nat):Int))] 155::.blk b1 [.int .u8 (((x.kind:Nat):Int)),.int .i64 (x.at_),.int .i64 (x.count),.int .i64 (x.to),.slice none 0 0] 65::L) w'∧(i≤(fm (upsK k b1 b14)).length)∧(x.kind=k)∧(FlH x sz)∧(Wd wr x sz i)) _ ⟨0,⟨k,0,0,0,[]⟩,0,rfl,F.to ⟨rfl,rfl,rfl,rfl,rfl,rfl,rfl,rfl,rfl,trivial⟩,M,Nat.zero_le _,rfl,fl_zero hk,fun j z h=>by omega⟩ ?_
    clear F M
    rintro m a w ⟨i,x,sz,rfl,F,M,hi,hxk,hfl,hwd⟩
    revert a
    refine e_seq<|e_reg<|s_lt rfl rfl<|e_nil<|e_tn<|e_seq<|e_cond rfl ?_ ?_
    ·intro hc
     have h19b:=hc;clear hc
     have h19:((i:Nat):Int) < (((fm (upsK k b1 b14)).length:Nat):Int):=of_decide_eq_true h19b
     refine e_skip<|e_tn<|e_seq<|e_block<|e_seq<|e_reg<|s_mv rfl<|?_
     obtain ⟨Xe20,hXe20⟩:=get_of_lt (xs:=(fm (upsK k b1 b14))) (i:=i) (by omega)
     obtain ⟨be20,oe20,_,Ie20,_,Ae20,rfl⟩:=Sq16.at hXe20
     refine s_ix tok147.k tok150 Ie20 rfl rfl<|s_la tok150 M Ae20 0 rfl rfl (by omega) rfl<|s_as rfl<|s_as rfl<|e_nil<|e_tn<|e_seq<|e_reg<|s_ld tok24 M 2 rfl rfl rfl rfl<|s_mv rfl<|s_add rfl rfl<|?_
     obtain ⟨Xe21,hXe21⟩:=get_of_lt (xs:=splitW ((Lib.cut c [10]).1)) (i:=i+1) (by (have h9_:=hwsl;omega))
     obtain ⟨be21,oe21,_,Ie21,_,Ae21,⟨rfl,hsle21⟩⟩:=Sp4.at hXe21
     refine s_ix tok24.k tok9 Ie21 rfl rfl<|s_la tok9 M Ae21 0 rfl rfl (by omega) rfl<|?_
     have hwi:wr[i]?=some Xe21:=by have h_:=hXe21;rw [hws] at h_;simpa using h_
     have hwl:=splitW_len (List.mem_of_getElem? hXe21)
     refine s_cS ent136 rfl rfl (atoi_spec (s:=Xe21) M HG (by omega))<|?_;clear M;rintro _ w M ⟨zt22,ert22,rfl,het22,hat22⟩
     refine s_mv rfl<|s_ex rfl rfl<|s_ex rfl rfl<|s_as rfl<|s_as rfl<|e_nil<|e_tn<|e_seq<|e_seq<|fun a F=>w_plan3 [(.free,0),(.free,1),(.free,2),(.free,3),(.pure,5),(.free,6),(.free,7),(.free,8),(.pure,9),(.keep,4),(.free,10),(.free,11)] [] (Keep Gq16 [.blk b5 [.slice (ap4) ((splitW ((Lib.cut c [10]).1)).length) ((splitW ((Lib.cut c [10]).1)).length)] 24]) rfl (by kernel_rfl) (fun c a d v w h=>by cases d <;> exact h) ((M.drew _).keep (Gle.refl _) (by simp)) ?_
     replace M:=M.drew (w.drawn+1)
     revert a
     refine k_f (fun a F w _=>x_mv F rfl) rfl<|k_f (fun a F w _=>run_neNilI tok103.k het22 (F.ev rfl) rfl) rfl<|k_f (fun a F w _=>x_mv F rfl) rfl<|?_
     rcases Bool.eq_false_or_eq_true (!(isNilI ert22)) with hc | hc
     ·skip
      have h23b:=hc;clear hc
      have h23:(isNilI ert22)=false:=(of_not_t h23b)
      have h23c:(isNilI ert22)=false:=(of_not_t h23b)
      refine k_s rfl (not_t h23c)<|k_s rfl (not_t h23c)<|k_s rfl (not_t h23c)<|k_s rfl (not_t h23c)<|k_s rfl (not_t h23c)<|k_s rfl (not_t h23c)<|k_s rfl (not_t h23c)<|k_s rfl (not_t h23c)<|k_f (fun a F w _=>x_pt F rfl (not_t h23c) rfl) rfl<|k_nil<|?_
      generalize ({ w with drawn:=w.drawn+1 }:World)=w at M ⊢
      refine e_tn<|e_cond_t rfl rfl<|e_seq<|e_reg<|e_run (fun a F=>run_loadA tok65 rfl (F.ev rfl) (cs:=[.int .u8 (((x.kind:Nat):Int)),.int .i64 (x.at_),.int .i64 (x.count),.int .i64 (x.to),.slice none 0 0]) rfl (M.cellsL (k:=4) rfl rfl)) rfl<|fun a F=>?_
      refine rl_storeA F M tok65 (k:=4) rfl rfl rfl (us:=[.int .u8 (((x.kind:Nat):Int)),.int .i64 (x.at_),.int .i64 (x.count),.int .i64 (x.to),.slice none 0 0]) rfl rfl (by simp [Value.oneCell']) (by simp) ?_;clear F M a;intro w a M F
      change Mem w0 Gq16 (_::_::.blk b5 [.slice (ap4) ((splitW ((Lib.cut c [10]).1)).length) ((splitW ((Lib.cut c [10]).1)).length)] 24::_::.blk b1 [.int .u8 (((x.kind:Nat):Int)),.int .i64 (x.at_),.int .i64 (x.count),.int .i64 (x.to),.slice none 0 0] 65::L) _ at M
      revert a
      refine s_as rfl<|e_nil<|e_tn<|e_ret<|e_tr<|e_br<|e_tr<|e_tr<|e_br<|e_tr<|fun a F=>fin_ct F M (k:=4) rfl rfl tok65 rfl rfl rfl rfl ?_
      replace M:=M.perm (perm_front _ 3 _ rfl)
      change Mem w0 Gq16 (_::_::_::.blk b5 [.slice (ap4) ((splitW ((Lib.cut c [10]).1)).length) ((splitW ((Lib.cut c [10]).1)).length)] 24::.blk b1 [.int .u8 (((x.kind:Nat):Int)),.int .i64 (x.at_),.int .i64 (x.count),.int .i64 (x.to),.slice none 0 0] 65::L) _ at M
      exact ⟨_,_,(hGp4.trans hGq16),M.weaken (.cons_cons _ (.cons _ (.cons _ (.cons _ (.cons _ (List.Sublist.refl _)))))),x.kind,x.at_,x.count,x.to,none,0,0,false,_,_,rfl,rfl,by omega,by omega,Or.inr ⟨rfl,Or.inl ⟨nohead_3 hws hk hkW hwi hat22 (by first | exact Or.inl (by assumption) | exact Or.inr (by assumption)),rfl⟩⟩⟩
     ·skip
      have h24b:=hc;clear hc
      have h24:(isNilI ert22)=true:=(of_not_f h24b)
      have h24c:(isNilI ert22)=true:=(of_not_f h24b)
      refine k_fg rfl (not_f h24c) (fun a F w _=>x_mv F rfl)<|k_pg rfl (not_f h24c) (fun a F w M=>run_load1 (agf tok24 rfl) (F.ev rfl) (M.cellL (k:=0) rfl rfl))<|k_fg rfl (not_f h24c) (fun a F w _=>x_mv F rfl)<|k_fg rfl (not_f h24c) (fun a F w _=>run_addi (F.ev rfl) (F.ev rfl) (in_i64 (by omega) (by omega)))<|?_
      obtain ⟨be25,oe25,_,Ie25,_,Ae25,⟨rfl,hsle25⟩⟩:=Sp4.at hXe21
      refine k_fg rfl (not_f h24c) (fun a F w _=>run_indexI tok24.k tok9 (F.ev rfl) (F.ev rfl) (by omega) Ie25)<|k_pg rfl (not_f h24c) (fun a F w M=>run_load1 (agf tok9 rfl) (F.ev rfl) (M.cellA Ae25 0 (by omega) rfl))<|fun a F=>pk_keep_g F rfl rfl (not_f h24c) ?_
      revert a
      refine g_t rfl (not_f h24c)<|s_cS ent83 rfl rfl (itoaZ_spec (z:=zt22) M HG (atoi_ink (ok_of hat22 (by assumption))))<|?_;clear M;rintro _ w M rfl
      refine e_nil<|eK (C':=Keep Gq16 [.blk b5 [.slice (ap4) ((splitW ((Lib.cut c [10]).1)).length) ((splitW ((Lib.cut c [10]).1)).length)] 24]) (M.keep (Gle.refl _) (by simp)) (fun w h=>h.mono (Gle.refl _) (by simp))<|k_fg rfl (not_f h24c) (fun a F w _=>run_strNe (F.ev rfl) (F.ev rfl))<|k_f (fun a F w _=>x_pf F rfl (not_f h24c) rfl) rfl<|k_nil<|e_tn<|e_cond rfl ?_ ?_
      ·intro hc
       have h26b:=hc;clear hc
       have h26:¬ ((Lib.itoa zt22)=Xe21):=of_decide_eq_false (of_not_t h26b)
       have h26c:(decide ((Lib.itoa zt22)=Xe21))=false:=(of_not_t h26b)
       refine e_seq<|e_reg<|e_run (fun a F=>run_loadA tok65 rfl (F.ev rfl) (cs:=[.int .u8 (((x.kind:Nat):Int)),.int .i64 (x.at_),.int .i64 (x.count),.int .i64 (x.to),.slice none 0 0]) rfl (M.cellsL (k:=4) rfl rfl)) rfl<|fun a F=>?_
       refine rl_storeA F M tok65 (k:=4) rfl rfl rfl (us:=[.int .u8 (((x.kind:Nat):Int)),.int .i64 (x.at_),.int .i64 (x.count),.int .i64 (x.to),.slice none 0 0]) rfl rfl (by simp [Value.oneCell']) (by simp) ?_;clear F M a;intro w a M F
       change Mem w0 Gq16 (_::_::.blk b5 [.slice (ap4) ((splitW ((Lib.cut c [10]).1)).length) ((splitW ((Lib.cut c [10]).1)).length)] 24::_::.blk b1 [.int .u8 (((x.kind:Nat):Int)),.int .i64 (x.at_),.int .i64 (x.count),.int .i64 (x.to),.slice none 0 0] 65::L) _ at M
       revert a
       refine s_as rfl<|e_nil<|e_tn<|e_ret<|e_tr<|e_br<|e_tr<|e_tr<|e_br<|e_tr<|fun a F=>fin_ct F M (k:=4) rfl rfl tok65 rfl rfl rfl rfl ?_
       replace M:=M.perm (perm_front _ 3 _ rfl)
       change Mem w0 Gq16 (_::_::_::.blk b5 [.slice (ap4) ((splitW ((Lib.cut c [10]).1)).length) ((splitW ((Lib.cut c [10]).1)).length)] 24::.blk b1 [.int .u8 (((x.kind:Nat):Int)),.int .i64 (x.at_),.int .i64 (x.count),.int .i64 (x.to),.slice none 0 0] 65::L) _ at M
       exact ⟨_,_,(hGp4.trans hGq16),M.weaken (.cons_cons _ (.cons _ (.cons _ (.cons _ (.cons _ (List.Sublist.refl _)))))),x.kind,x.at_,x.count,x.to,none,0,0,false,_,_,rfl,rfl,by omega,by omega,Or.inr ⟨rfl,Or.inl ⟨nohead_3 hws hk hkW hwi hat22 (by first | exact Or.inl (by assumption) | exact Or.inr (by assumption)),rfl⟩⟩⟩
      ·intro hc
       have h27b:=hc;clear hc
       have h27:(Lib.itoa zt22)=Xe21:=of_decide_eq_true (of_not_f h27b)
       have h27c:(decide ((Lib.itoa zt22)=Xe21))=true:=(of_not_f h27b)
       refine e_skip<|e_tn<|?_
       have hao:=ok_of hat22 (by assumption)
       have hiw:Lib.itoa zt22=Xe21:=by assumption
       have hXp2:(fm (upsK x.kind b1 b14))[i]?=some Xe20:=by rw [hxk];exact hXe20
       obtain ⟨hpk,hpf,hpw⟩:=put_ok hXp2 hfl hwd (atoi_ink hao) (by rw [hiw];exact hwi)
       obtain ⟨hpa,hpp⟩:=put_all (sz:=sz) (v:=zt22) hXp2
       intro a F
       refine w_cut (fun a' w'=>Fits 133 a' [(0,.func (.func 86) #[.pointer (some ⟨b,0,none⟩)] #[]),(2,.pointer (some ⟨b1,0,none⟩)),(6,.pointer (some ⟨b5,0,none⟩)),(7,.pointer (some ⟨b7,0,none⟩)),(9,.pointer (some ⟨b14,0,none⟩)),(10,.slice (aq16) ((fm (upsK k b1 b14)).length) (cq16)),(52,.slice (aq16) ((fm (upsK k b1 b14)).length) (cq16)),(53,.int .i64 ((((fm (upsK k b1 b14)).length:Nat):Int))),(54,.int .i64 (((i:Nat):Int)))]∧Mem w0 Gq16 (.blk b14 [.int .i64 ((putF x sz Xe20.2 zt22).2)] 3::.blk b7 KINDS 139::.blk b5 [.slice (ap4) ((splitW ((Lib.cut c [10]).1)).length) ((splitW ((Lib.cut c [10]).1)).length)] 24::.blk b [.string (str ((Lib.cut c [10]).2.1)),.int .i64 ((((l+1):Nat):Int))] 155::.blk b1 [.int .u8 ((((putF x sz Xe20.2 zt22).1.kind:Nat):Int)),.int .i64 ((putF x sz Xe20.2 zt22).1.at_),.int .i64 ((putF x sz Xe20.2 zt22).1.count),.int .i64 ((putF x sz Xe20.2 zt22).1.to),.slice none 0 0] 65::L) w') ?_ ?_
       ·skip
        rcases hpp with ⟨rfl,_⟩ | ⟨rfl,_⟩ | ⟨rfl,_⟩ | ⟨rfl,_⟩
        ·skip
         revert a
         refine e_reg<|s_mv rfl<|s_mv rfl<|s_nc rfl<|s_st tok3 M 4 rfl rfl rfl rfl rfl rfl<|?_;clear M;intro w M
         refine e_nil<|fun a F=>?_
         exact ⟨F.to ⟨rfl,rfl,rfl,rfl,rfl,rfl,rfl,rfl,rfl,trivial⟩,M⟩
        ·skip
         revert a
         refine e_reg<|s_mv rfl<|s_mv rfl<|s_nc rfl<|s_st tok3 M 4 rfl rfl rfl rfl rfl rfl<|?_;clear M;intro w M
         refine e_nil<|fun a F=>?_
         exact ⟨F.to ⟨rfl,rfl,rfl,rfl,rfl,rfl,rfl,rfl,rfl,trivial⟩,M⟩
        ·skip
         revert a
         refine e_reg<|s_mv rfl<|s_mv rfl<|s_nc rfl<|s_st tok3 M 4 rfl rfl rfl rfl rfl rfl<|?_;clear M;intro w M
         refine e_nil<|fun a F=>?_
         exact ⟨F.to ⟨rfl,rfl,rfl,rfl,rfl,rfl,rfl,rfl,rfl,trivial⟩,M⟩
        ·skip
         revert a
         refine e_reg<|s_mv rfl<|s_mv rfl<|s_nc rfl<|s_st tok3 M 0 rfl rfl rfl rfl rfl rfl<|?_;clear M;intro w M
         refine e_nil<|fun a F=>?_
         exact ⟨F.to ⟨rfl,rfl,rfl,rfl,rfl,rfl,rfl,rfl,rfl,trivial⟩,M⟩
       ·clear F M
        rintro a w ⟨F,M⟩
        revert a
        refine e_bn<|e_tn<|e_reg<|s_add rfl rfl<|s_mv rfl<|e_nil<|e_tn<|fun a F=>?_
        exact ⟨_,by omega,i+1,(putF x sz Xe20.2 zt22).1,(putF x sz Xe20.2 zt22).2,rfl,F.to ⟨rfl,rfl,rfl,rfl,rfl,rfl,rfl,rfl,rfl,trivial⟩,M,by omega,hpk.trans hxk,hpf,hpw⟩
    ·intro hc
     have h28b:=hc;clear hc
     have h28:¬ (((i:Nat):Int) < (((fm (upsK k b1 b14)).length:Nat):Int)):=of_decide_eq_false h28b
     refine e_exit<|e_te<|e_te<|e_bh<|e_tn<|e_seq<|e_seq<|?_
     have hfe:=fld_len (x:=x) (b:=b1) (b2:=b14) (sz:=sz)
     intro a F
     rw [hxk] at hfe
     have hwr:=wd_all hwd (by omega) (by omega)
     revert a
     refine e_reg<|s_ld tok3 M 0 rfl rfl rfl rfl<|s_lt rfl rfl<|s_mv rfl<|?_
     rcases Bool.eq_false_or_eq_true (decide (sz < 0)) with hc | hc
     ·skip
      have h29b:=hc;clear hc
      have h29:sz < 0:=of_decide_eq_true h29b
      refine g_f rfl h29b<|g_f rfl h29b<|s_pt rfl h29b rfl<|e_nil<|e_tn<|e_cond_t rfl rfl<|e_seq<|e_reg<|e_run (fun a F=>run_loadA tok65 rfl (F.ev rfl) (cs:=[.int .u8 (((x.kind:Nat):Int)),.int .i64 (x.at_),.int .i64 (x.count),.int .i64 (x.to),.slice none 0 0]) rfl (M.cellsL (k:=4) rfl rfl)) rfl<|fun a F=>?_
      refine rl_storeA F M tok65 (k:=4) rfl rfl rfl (us:=[.int .u8 (((x.kind:Nat):Int)),.int .i64 (x.at_),.int .i64 (x.count),.int .i64 (x.to),.slice none 0 0]) rfl rfl (by simp [Value.oneCell']) (by simp) ?_;clear F M a;intro w a M F
      change Mem w0 Gq16 (_::_::.blk b5 [.slice (ap4) ((splitW ((Lib.cut c [10]).1)).length) ((splitW ((Lib.cut c [10]).1)).length)] 24::_::.blk b1 [.int .u8 (((x.kind:Nat):Int)),.int .i64 (x.at_),.int .i64 (x.count),.int .i64 (x.to),.slice none 0 0] 65::L) _ at M
      revert a
      refine s_as rfl<|e_nil<|e_tn<|e_ret<|e_tr<|fun a F=>fin_ct F M (k:=4) rfl rfl tok65 rfl rfl rfl rfl ?_
      replace M:=M.perm (perm_front _ 3 _ rfl)
      change Mem w0 Gq16 (_::_::_::.blk b5 [.slice (ap4) ((splitW ((Lib.cut c [10]).1)).length) ((splitW ((Lib.cut c [10]).1)).length)] 24::.blk b1 [.int .u8 (((x.kind:Nat):Int)),.int .i64 (x.at_),.int .i64 (x.count),.int .i64 (x.to),.slice none 0 0] 65::L) _ at M
      exact ⟨_,_,(hGp4.trans hGq16),M.weaken (.cons_cons _ (.cons _ (.cons _ (.cons _ (.cons _ (List.Sublist.refl _)))))),x.kind,x.at_,x.count,x.to,none,0,0,false,_,_,rfl,rfl,by omega,by omega,Or.inr ⟨rfl,Or.inl ⟨nohead_4 hws hfl (by rw [hxk];exact hkW) hwr (by omega),rfl⟩⟩⟩
     ·skip
      have h30b:=hc;clear hc
      have h30:¬ (sz < 0):=of_decide_eq_false h30b
      refine g_t rfl h30b<|s_ld tok3 M 0 rfl rfl rfl rfl<|g_t rfl h30b<|s_gt rfl rfl<|s_pf rfl h30b rfl<|e_nil<|e_tn<|e_cond rfl ?_ ?_
      ·intro hc
       have h31b:=hc;clear hc
       have h31:1024 < sz:=of_decide_eq_true h31b
       refine e_seq<|e_reg<|e_run (fun a F=>run_loadA tok65 rfl (F.ev rfl) (cs:=[.int .u8 (((x.kind:Nat):Int)),.int .i64 (x.at_),.int .i64 (x.count),.int .i64 (x.to),.slice none 0 0]) rfl (M.cellsL (k:=4) rfl rfl)) rfl<|fun a F=>?_
       refine rl_storeA F M tok65 (k:=4) rfl rfl rfl (us:=[.int .u8 (((x.kind:Nat):Int)),.int .i64 (x.at_),.int .i64 (x.count),.int .i64 (x.to),.slice none 0 0]) rfl rfl (by simp [Value.oneCell']) (by simp) ?_;clear F M a;intro w a M F
       change Mem w0 Gq16 (_::_::.blk b5 [.slice (ap4) ((splitW ((Lib.cut c [10]).1)).length) ((splitW ((Lib.cut c [10]).1)).length)] 24::_::.blk b1 [.int .u8 (((x.kind:Nat):Int)),.int .i64 (x.at_),.int .i64 (x.count),.int .i64 (x.to),.slice none 0 0] 65::L) _ at M
       revert a
       refine s_as rfl<|e_nil<|e_tn<|e_ret<|e_tr<|fun a F=>fin_ct F M (k:=4) rfl rfl tok65 rfl rfl rfl rfl ?_
       replace M:=M.perm (perm_front _ 3 _ rfl)
       change Mem w0 Gq16 (_::_::_::.blk b5 [.slice (ap4) ((splitW ((Lib.cut c [10]).1)).length) ((splitW ((Lib.cut c [10]).1)).length)] 24::.blk b1 [.int .u8 (((x.kind:Nat):Int)),.int .i64 (x.at_),.int .i64 (x.count),.int .i64 (x.to),.slice none 0 0] 65::L) _ at M
       exact ⟨_,_,(hGp4.trans hGq16),M.weaken (.cons_cons _ (.cons _ (.cons _ (.cons _ (.cons _ (List.Sublist.refl _)))))),x.kind,x.at_,x.count,x.to,none,0,0,false,_,_,rfl,rfl,by omega,by omega,Or.inr ⟨rfl,Or.inl ⟨nohead_4 hws hfl (by rw [hxk];exact hkW) hwr (by omega),rfl⟩⟩⟩
      ·intro hc
       have h32b:=hc;clear hc
       have h32:¬ (1024 < sz):=of_decide_eq_false h32b
       refine e_skip<|e_tn<|e_seq<|e_seq<|?_
       have hh:=hfl.head (by omega)
       have hcc:=head_of hws (by rw [hxk];exact hkW) hwr hwt
       obtain ⟨p,hp⟩:=Int.eq_ofNat_of_zero_le hh.rs.1
       subst hp
       have hp4:=hh.rs.2
       refine e_reg<|s_ld tok3 M 0 rfl rfl rfl rfl<|s_mv rfl<|e_nil<|e_tn<|e_block<|?_
       have M:=M.nilrow 26 4
       change Mem w0 Gq16 (.row (.slice none 0 0) 0 ([]) 26 4::.blk b14 [.int .i64 (((p:Nat):Int))] 3::.blk b7 KINDS 139::.blk b5 [.slice (ap4) ((splitW ((Lib.cut c [10]).1)).length) ((splitW ((Lib.cut c [10]).1)).length)] 24::.blk b [.string (str ((Lib.cut c [10]).2.1)),.int .i64 ((((l+1):Nat):Int))] 155::.blk b1 [.int .u8 (((x.kind:Nat):Int)),.int .i64 (x.at_),.int .i64 (x.count),.int .i64 (x.to),.slice none 0 0] 65::L) _ at M
       intro a F
       refine w_loopN (fun m a' w'=>∃ (j:Nat),∃ (ys:List ItemD),∃ (cj:List UInt8),∃ (ar:Option Addr),∃ (nr:Nat),∃ (cr:Nat),∃ (csr:List Value),m=p - j∧∃ G33,Gle Gq16 G33∧Fits 133 a' [(0,.func (.func 86) #[.pointer (some ⟨b,0,none⟩)] #[]),(2,.pointer (some ⟨b1,0,none⟩)),(92,.int .i64 (((p:Nat):Int))),(93,.int .i64 (((j:Nat):Int)))]∧Mem w0 G33 (.row (.slice (ar) (nr) (cr)) (nr) (csr) 26 4::.blk b14 [.int .i64 (((p:Nat):Int))] 3::.blk b7 KINDS 139::.blk b5 [.slice (ap4) ((splitW ((Lib.cut c [10]).1)).length) ((splitW ((Lib.cut c [10]).1)).length)] 24::.blk b [.string (str (cj)),.int .i64 ((((l+1+j):Nat):Int))] 155::.blk b1 [.int .u8 (((x.kind:Nat):Int)),.int .i64 (x.at_),.int .i64 (x.count),.int .i64 (x.to),.slice (ar) (nr) (cr)] 65::L) w'∧(j≤p)∧(ys.length=j)∧(okI ys)∧((Lib.cut c [10]).2.1=textF ys++cj)∧(cj.length≤c.length)∧(Els rdItem 4 G33 csr ys)∧(nr≤j)) _ ⟨0,[],_,none,0,0,[],rfl,Gq16,Gle.refl _,F.to ⟨rfl,rfl,rfl,rfl,trivial⟩,M,Nat.zero_le _,rfl,(fun y hy=>by cases hy),rfl,by omega,Els.nil,by omega⟩ ?_
       clear F M
       rintro m a w ⟨j,ys,cj,ar,nr,cr,csr,rfl,G33,hG33,F,M,hj,hyl,hok,hcj,hcl2,Er,hnr⟩
       replace HG:=HG.mono hG33
       replace Sp4:=Sp4.mono mono_rdStr hG33
       replace Sq16:=Sq16.mono mono_rdPt hG33
       revert a
       refine e_seq<|e_reg<|s_lt rfl rfl<|e_nil<|e_tn<|e_seq<|e_cond rfl ?_ ?_
       ·intro hc
        have h34b:=hc;clear hc
        have h34:((j:Nat):Int) < ((p:Nat):Int):=of_decide_eq_true h34b
        refine e_skip<|e_tn<|e_seq<|e_block<|e_seq<|e_reg<|s_mv rfl<|?_
        replace M:=M.perm (perm_front _ 4 _ rfl)
        change Mem w0 G33 (_::_::_::_::_::_::L) _ at M
        intro a F
        refine rl_callF F ent86 (first:=[.pointer (some ⟨b,0,none⟩)]) rfl rfl rfl (next_spec (c:=cj) (l:=(l+1+j)) M HG (by omega) (by omega)) ?_;clear F M a;rintro _ w a M rfl F
        have hctk35:=cut_lens 10 cj
        revert a
        refine s_mv rfl<|s_ex rfl rfl<|s_ex rfl rfl<|s_as rfl<|s_as rfl<|e_nil<|e_tn<|e_seq<|e_reg<|s_mv rfl<|e_run (fun a F=>run_strAdd (F.ev rfl) (F.ev rfl) (by (first | omega | (simp only [List.length_append,List.length_cons,List.length_nil];omega)))) rfl<|s_cR ent12 rfl rfl (parse_spec (s:=(((Lib.cut cj [10]).1)++([10]:List UInt8))) M HG (by (first | omega | (simp only [List.length_append,List.length_cons,List.length_nil];omega))))<|?_;clear M;rintro _ Gq36 w hGq36 M ⟨aq36,rfl,Sq36⟩
        replace HG:=HG.mono hGq36
        replace Sp4:=Sp4.mono mono_rdStr hGq36
        replace Sq16:=Sq16.mono mono_rdPt hGq36
        replace Er:=Er.mono mono_rdItem hGq36
        refine s_mv rfl<|s_ex rfl rfl<|s_ex rfl rfl<|s_ex rfl rfl<|s_as rfl<|s_as rfl<|s_as rfl<|e_nil<|e_tn<|e_seq<|e_seq<|e_reg<|s_mv rfl<|s_not rfl<|s_mv rfl<|?_
        rcases Bool.eq_false_or_eq_true (!((Lib.cut cj [10]).2.2)) with hc | hc
        ·skip
         have h37b:=hc;clear hc
         have h37:((Lib.cut cj [10]).2.2)=false:=(of_not_t h37b)
         have h37c:((Lib.cut cj [10]).2.2)=false:=(of_not_t h37b)
         refine g_f rfl (not_t h37c)<|g_f rfl (not_t h37c)<|s_pt rfl (not_t h37c) rfl<|s_mv rfl<|g_f rfl rfl<|g_f rfl rfl<|g_f rfl rfl<|s_pt rfl rfl rfl<|e_nil<|e_tn<|e_cond_t rfl rfl<|e_seq<|e_reg<|e_run (fun a F=>run_loadA tok65 rfl (F.ev rfl) (cs:=[.int .u8 (((x.kind:Nat):Int)),.int .i64 (x.at_),.int .i64 (x.count),.int .i64 (x.to),.slice (ar) (nr) (cr)]) rfl (M.cellsL (k:=5) rfl rfl)) rfl<|fun a F=>?_
         refine rl_storeA F M tok65 (k:=5) rfl rfl rfl (us:=[.int .u8 (((x.kind:Nat):Int)),.int .i64 (x.at_),.int .i64 (x.count),.int .i64 (x.to),.slice (ar) (nr) (cr)]) rfl rfl (by simp [Value.oneCell']) (by simp) ?_;clear F M a;intro w a M F
         change Mem w0 Gq36 (_::_::_::_::_::.blk b1 [.int .u8 (((x.kind:Nat):Int)),.int .i64 (x.at_),.int .i64 (x.count),.int .i64 (x.to),.slice (ar) (nr) (cr)] 65::L) _ at M
         revert a
         refine s_as rfl<|e_nil<|e_tn<|e_ret<|e_tr<|e_br<|e_tr<|e_tr<|e_br<|e_tr<|fun a F=>fin_ct F M (k:=5) rfl rfl tok65 rfl rfl rfl rfl ?_
         change Mem w0 Gq36 (_::_::_::_::_::.blk b1 [.int .u8 (((x.kind:Nat):Int)),.int .i64 (x.at_),.int .i64 (x.count),.int .i64 (x.to),.slice (ar) (nr) (cr)] 65::L) _ at M
         exact ⟨_,_,(((hGp4.trans hGq16).trans hG33).trans hGq36),M.weaken (.cons_cons _ (.cons _ (.cons _ (.cons _ (.cons _ (.cons _ (List.Sublist.refl _))))))),x.kind,x.at_,x.count,x.to,ar,nr,cr,false,_,_,rfl,rfl,by omega,by omega,Or.inr ⟨rfl,Or.inr ⟨x,_,ys,cj,hh,hok,by omega,by omega,by rw [← hcj];exact hcc,item_no (c:=cj) (by omega) (by first | exact Or.inl (by assumption) | exact Or.inr (Or.inl (by assumption)) | exact Or.inr (Or.inl (by omega)) | exact Or.inr (Or.inr (by omega)))⟩⟩⟩
        ·skip
         have h38b:=hc;clear hc
         have h38:((Lib.cut cj [10]).2.2)=true:=(of_not_f h38b)
         have h38c:((Lib.cut cj [10]).2.2)=true:=(of_not_f h38b)
         refine g_t rfl (not_f h38c)<|s_mv rfl<|g_t rfl (not_f h38c)<|s_ne rfl rfl<|s_pf rfl (not_f h38c) rfl<|s_mv rfl<|?_
         rcases Bool.eq_false_or_eq_true (!(decide ((parseF (((Lib.cut cj [10]).1)++([10]:List UInt8))).2.2=0))) with hc | hc
         ·skip
          have h39b:=hc;clear hc
          have h39:¬ ((parseF (((Lib.cut cj [10]).1)++([10]:List UInt8))).2.2=0):=of_decide_eq_false (of_not_t h39b)
          have h39c:(decide ((parseF (((Lib.cut cj [10]).1)++([10]:List UInt8))).2.2=0))=false:=(of_not_t h39b)
          refine g_f rfl (not_t h39c)<|g_f rfl (not_t h39c)<|g_f rfl (not_t h39c)<|s_pt rfl (not_t h39c) rfl<|e_nil<|e_tn<|e_cond_t rfl rfl<|e_seq<|e_reg<|e_run (fun a F=>run_loadA tok65 rfl (F.ev rfl) (cs:=[.int .u8 (((x.kind:Nat):Int)),.int .i64 (x.at_),.int .i64 (x.count),.int .i64 (x.to),.slice (ar) (nr) (cr)]) rfl (M.cellsL (k:=5) rfl rfl)) rfl<|fun a F=>?_
          refine rl_storeA F M tok65 (k:=5) rfl rfl rfl (us:=[.int .u8 (((x.kind:Nat):Int)),.int .i64 (x.at_),.int .i64 (x.count),.int .i64 (x.to),.slice (ar) (nr) (cr)]) rfl rfl (by simp [Value.oneCell']) (by simp) ?_;clear F M a;intro w a M F
          change Mem w0 Gq36 (_::_::_::_::_::.blk b1 [.int .u8 (((x.kind:Nat):Int)),.int .i64 (x.at_),.int .i64 (x.count),.int .i64 (x.to),.slice (ar) (nr) (cr)] 65::L) _ at M
          revert a
          refine s_as rfl<|e_nil<|e_tn<|e_ret<|e_tr<|e_br<|e_tr<|e_tr<|e_br<|e_tr<|fun a F=>fin_ct F M (k:=5) rfl rfl tok65 rfl rfl rfl rfl ?_
          change Mem w0 Gq36 (_::_::_::_::_::.blk b1 [.int .u8 (((x.kind:Nat):Int)),.int .i64 (x.at_),.int .i64 (x.count),.int .i64 (x.to),.slice (ar) (nr) (cr)] 65::L) _ at M
          exact ⟨_,_,(((hGp4.trans hGq16).trans hG33).trans hGq36),M.weaken (.cons_cons _ (.cons _ (.cons _ (.cons _ (.cons _ (.cons _ (List.Sublist.refl _))))))),x.kind,x.at_,x.count,x.to,ar,nr,cr,false,_,_,rfl,rfl,by omega,by omega,Or.inr ⟨rfl,Or.inr ⟨x,_,ys,cj,hh,hok,by omega,by omega,by rw [← hcj];exact hcc,item_no (c:=cj) (by omega) (by first | exact Or.inl (by assumption) | exact Or.inr (Or.inl (by assumption)) | exact Or.inr (Or.inl (by omega)) | exact Or.inr (Or.inr (by omega)))⟩⟩⟩
         ·skip
          have h40b:=hc;clear hc
          have h40:(parseF (((Lib.cut cj [10]).1)++([10]:List UInt8))).2.2=0:=of_decide_eq_true (of_not_f h40b)
          have h40c:(decide ((parseF (((Lib.cut cj [10]).1)++([10]:List UInt8))).2.2=0))=true:=(of_not_f h40b)
          refine g_t rfl (not_f h40c)<|s_mv rfl<|g_t rfl (not_f h40c)<|s_ls tok22.k rfl<|g_t rfl (not_f h40c)<|s_ne rfl rfl<|s_pf rfl (not_f h40c) rfl<|e_nil<|e_tn<|e_cond rfl ?_ ?_
          ·intro hc
           have h41b:=hc;clear hc
           have h41:¬ ((((parseF (((Lib.cut cj [10]).1)++([10]:List UInt8))).1.length:Nat):Int)=1):=of_decide_eq_false (of_not_t h41b)
           have h41c:(decide ((((parseF (((Lib.cut cj [10]).1)++([10]:List UInt8))).1.length:Nat):Int)=1))=false:=(of_not_t h41b)
           refine e_seq<|e_reg<|e_run (fun a F=>run_loadA tok65 rfl (F.ev rfl) (cs:=[.int .u8 (((x.kind:Nat):Int)),.int .i64 (x.at_),.int .i64 (x.count),.int .i64 (x.to),.slice (ar) (nr) (cr)]) rfl (M.cellsL (k:=5) rfl rfl)) rfl<|fun a F=>?_
           refine rl_storeA F M tok65 (k:=5) rfl rfl rfl (us:=[.int .u8 (((x.kind:Nat):Int)),.int .i64 (x.at_),.int .i64 (x.count),.int .i64 (x.to),.slice (ar) (nr) (cr)]) rfl rfl (by simp [Value.oneCell']) (by simp) ?_;clear F M a;intro w a M F
           change Mem w0 Gq36 (_::_::_::_::_::.blk b1 [.int .u8 (((x.kind:Nat):Int)),.int .i64 (x.at_),.int .i64 (x.count),.int .i64 (x.to),.slice (ar) (nr) (cr)] 65::L) _ at M
           revert a
           refine s_as rfl<|e_nil<|e_tn<|e_ret<|e_tr<|e_br<|e_tr<|e_tr<|e_br<|e_tr<|fun a F=>fin_ct F M (k:=5) rfl rfl tok65 rfl rfl rfl rfl ?_
           change Mem w0 Gq36 (_::_::_::_::_::.blk b1 [.int .u8 (((x.kind:Nat):Int)),.int .i64 (x.at_),.int .i64 (x.count),.int .i64 (x.to),.slice (ar) (nr) (cr)] 65::L) _ at M
           exact ⟨_,_,(((hGp4.trans hGq16).trans hG33).trans hGq36),M.weaken (.cons_cons _ (.cons _ (.cons _ (.cons _ (.cons _ (.cons _ (List.Sublist.refl _))))))),x.kind,x.at_,x.count,x.to,ar,nr,cr,false,_,_,rfl,rfl,by omega,by omega,Or.inr ⟨rfl,Or.inr ⟨x,_,ys,cj,hh,hok,by omega,by omega,by rw [← hcj];exact hcc,item_no (c:=cj) (by omega) (by first | exact Or.inl (by assumption) | exact Or.inr (Or.inl (by assumption)) | exact Or.inr (Or.inl (by omega)) | exact Or.inr (Or.inr (by omega)))⟩⟩⟩
          ·intro hc
           have h42b:=hc;clear hc
           have h42:(((parseF (((Lib.cut cj [10]).1)++([10]:List UInt8))).1.length:Nat):Int)=1:=of_decide_eq_true (of_not_f h42b)
           have h42c:(decide ((((parseF (((Lib.cut cj [10]).1)++([10]:List UInt8))).1.length:Nat):Int)=1))=true:=(of_not_f h42b)
           refine e_skip<|e_tn<|?_
           obtain ⟨y,hy1,hyok,hcy⟩:=item_yes (c:=cj) (by assumption) (by omega) (by omega) (by omega)
           intro a F
           refine w_plan3 [(.free,0),(.pure,1),(.free,2),(.free,3),(.pure,4),(.keep,5),(.chg,6),(.free,7),(.chg,8)] [6,8] (Keep Gq36 [.blk b1 [.int .u8 (((x.kind:Nat):Int)),.int .i64 (x.at_),.int .i64 (x.count),.int .i64 (x.to),.slice (ar) (nr) (cr)] 65]) rfl (by kernel_rfl) (fun c a d v w h=>by cases d <;> exact h) ((M.drew _).keep (Gle.refl _) (by simp)) ?_
           replace M:=M.drew (w.drawn+1)
           revert a
           refine k_f (fun a F w _=>x_fa tok65.k rfl F rfl) rfl<|k_p (fun a F w M=>run_load1 (agf tok22 rfl) (F.ev rfl) (M.cellL (k:=0) rfl rfl)) rfl<|k_f (fun a F w _=>x_mv F rfl) rfl<|?_
           obtain ⟨be43,oe43,_,Ie43,_,Ae43,hTe43⟩:=Sq36.at (show (parseF ((Lib.cut cj [10]).1++[10])).1[0]?=some y by rw [hy1];rfl)
           obtain ⟨mae43,mce43,rfl,hke43,hte43,hxe43,hne43,SMe43⟩:=hTe43
           have hIe43:(y.key < 18446744073709551616∧y.typ < 256∧y.text.length≤9223372036854775807):=⟨hke43,hte43,hxe43⟩
           refine k_f (fun a F w _=>run_indexI tok22.k tok26 (F.ev rfl) (F.ev rfl) (by omega) Ie43) rfl<|k_p (fun a F w M=>run_loadA tok26 rfl (F.ev rfl) (cs:=[.int .u64 (((y.key:Nat):Int)),.int .u8 (((y.typ:Nat):Int)),.string (str (y.text)),.slice (mae43) (y.marks.length) (mce43)]) rfl (M.cellsA Ae43 0 (by omega) rfl)) rfl<|k_k rfl<|fun a F=>?_
           refine rl_buildSlice1 F M tok22.k tok26 rfl rfl (cs:=[.int .u64 (((y.key:Nat):Int)),.int .u8 (((y.typ:Nat):Int)),.string (str (y.text)),.slice (mae43) (y.marks.length) (mce43)]) rfl rfl (by simp [Value.oneCell']) (by decide) rfl ?_;clear F M a;intro v44 w a M F
           obtain ⟨av44,cv44,rfl,hlev44,hcmv44,hlv44⟩:=M.row_shape (k:=0) rfl
           revert a
           refine e_nil<|eK (C':=Keep Gq36 [.blk b1 [.int .u8 (((x.kind:Nat):Int)),.int .i64 (x.at_),.int .i64 (x.count),.int .i64 (x.to),.slice (ar) (nr) (cr)] 65]) (M.keep (Gle.refl _) (by simp)) (fun w h=>h.mono (Gle.refl _) (by simp))<|?_
           have Eb:Els rdItem 4 Gq36 [.int .u64 (((y.key:Nat):Int)),.int .u8 (((y.typ:Nat):Int)),.string (str (y.text)),.slice (mae43) (y.marks.length) (mce43)] [y]:=⟨[.int .u64 (((y.key:Nat):Int)),.int .u8 (((y.typ:Nat):Int)),.string (str (y.text)),.slice (mae43) (y.marks.length) (mce43)],[],rfl,rfl,⟨mae43,mce43,rfl,hIe43.1,hIe43.2.1,hIe43.2.2,(by have h_:=SMe43.bound;omega),SMe43⟩,rfl⟩
           refine k_c rfl<|fun a F=>?_
           refine rl_append_row F M (k:=2) (k2:=0) rfl rfl tok22.k tok26 rfl rfl (by decide) rfl rfl (by show _ * 56≤_;(try simp only [List.length_drop,List.length_take,List.length_append,List.length_cons,List.length_nil]);omega) (by (try simp only [List.length_drop,List.length_take,List.length_append,List.length_cons,List.length_nil]);omega) rfl ?_;clear F M a;intro v45 w a M F
           have Ev45:=Els.append Er Eb
           obtain ⟨av45,cv45,rfl,hlev45,hcmv45,hlv45⟩:=M.row_shape (k:=2) rfl
           revert a
           refine e_nil<|?_
           change Mem w0 Gq36 (.row (.slice (av44) 1 (cv44)) 1 ([.int .u64 (((y.key:Nat):Int)),.int .u8 (((y.typ:Nat):Int)),.string (str (y.text)),.slice (mae43) (y.marks.length) (mce43)]) 26 4::.blk b [.string (str ((Lib.cut cj [10]).2.1)),.int .i64 (((((l+1+j)+1):Nat):Int))] 155::.row (.slice (av45) (nr+1) (cv45)) (nr+1) (csr++([.int .u64 (((y.key:Nat):Int)),.int .u8 (((y.typ:Nat):Int)),.string (str (y.text)),.slice (mae43) (y.marks.length) (mce43)])) 26 4::.blk b14 [.int .i64 (((p:Nat):Int))] 3::.blk b7 KINDS 139::.blk b5 [.slice (ap4) ((splitW ((Lib.cut c [10]).1)).length) ((splitW ((Lib.cut c [10]).1)).length)] 24::.blk b1 [.int .u8 (((x.kind:Nat):Int)),.int .i64 (x.at_),.int .i64 (x.count),.int .i64 (x.to),.slice (ar) (nr) (cr)] 65::L) _ at M
           intro a F
           refine ⟨Keep Gq36 [.row (.slice (av44) 1 (cv44)) 1 ([.int .u64 (((y.key:Nat):Int)),.int .u8 (((y.typ:Nat):Int)),.string (str (y.text)),.slice (mae43) (y.marks.length) (mce43)]) 26 4,.blk b [.string (str ((Lib.cut cj [10]).2.1)),.int .i64 (((((l+1+j)+1):Nat):Int))] 155,.row (.slice (av45) (nr+1) (cv45)) (nr+1) (csr++([.int .u64 (((y.key:Nat):Int)),.int .u8 (((y.typ:Nat):Int)),.string (str (y.text)),.slice (mae43) (y.marks.length) (mce43)])) 26 4,.blk b14 [.int .i64 (((p:Nat):Int))] 3,.blk b7 KINDS 139,.blk b5 [.slice (ap4) ((splitW ((Lib.cut c [10]).1)).length) ((splitW ((Lib.cut c [10]).1)).length)] 24,.blk b1 [.int .u8 (((x.kind:Nat):Int)),.int .i64 (x.at_),.int .i64 (x.count),.int .i64 (x.to),.slice (ar) (nr) (cr)] 65],M.keep (Gle.refl _) (by simp),?_⟩
           revert a
           refine k_f (fun a F w _=>x_fa tok65.k rfl F rfl) rfl<|k_c rfl<|s_st tok22 M 6 rfl rfl rfl rfl rfl rfl<|?_;clear M;intro w M
           refine e_nil<|?_
           change Mem w0 Gq36 (.row (.slice (av44) 1 (cv44)) 1 ([.int .u64 (((y.key:Nat):Int)),.int .u8 (((y.typ:Nat):Int)),.string (str (y.text)),.slice (mae43) (y.marks.length) (mce43)]) 26 4::.blk b [.string (str ((Lib.cut cj [10]).2.1)),.int .i64 (((((l+1+j)+1):Nat):Int))] 155::.row (.slice (av45) (nr+1) (cv45)) (nr+1) (csr++([.int .u64 (((y.key:Nat):Int)),.int .u8 (((y.typ:Nat):Int)),.string (str (y.text)),.slice (mae43) (y.marks.length) (mce43)])) 26 4::.blk b14 [.int .i64 (((p:Nat):Int))] 3::.blk b7 KINDS 139::.blk b5 [.slice (ap4) ((splitW ((Lib.cut c [10]).1)).length) ((splitW ((Lib.cut c [10]).1)).length)] 24::.blk b1 [.int .u8 (((x.kind:Nat):Int)),.int .i64 (x.at_),.int .i64 (x.count),.int .i64 (x.to),.slice (av45) (nr+1) (cv45)] 65::L) _ at M
           intro a F
           refine ⟨Keep Gq36 [.row (.slice (av44) 1 (cv44)) 1 ([.int .u64 (((y.key:Nat):Int)),.int .u8 (((y.typ:Nat):Int)),.string (str (y.text)),.slice (mae43) (y.marks.length) (mce43)]) 26 4,.blk b [.string (str ((Lib.cut cj [10]).2.1)),.int .i64 (((((l+1+j)+1):Nat):Int))] 155,.row (.slice (av45) (nr+1) (cv45)) (nr+1) (csr++([.int .u64 (((y.key:Nat):Int)),.int .u8 (((y.typ:Nat):Int)),.string (str (y.text)),.slice (mae43) (y.marks.length) (mce43)])) 26 4,.blk b14 [.int .i64 (((p:Nat):Int))] 3,.blk b7 KINDS 139,.blk b5 [.slice (ap4) ((splitW ((Lib.cut c [10]).1)).length) ((splitW ((Lib.cut c [10]).1)).length)] 24,.blk b1 [.int .u8 (((x.kind:Nat):Int)),.int .i64 (x.at_),.int .i64 (x.count),.int .i64 (x.to),.slice (av45) (nr+1) (cv45)] 65],M.keep (Gle.refl _) (by simp),?_⟩
           revert a
           refine k_nil<|e_bn<|e_tn<|e_reg<|s_add rfl rfl<|s_mv rfl<|e_nil<|e_tn<|?_
           replace M:=M.perm (perm_front _ 6 _ rfl)
           replace M:=M.perm (perm_front _ 2 _ rfl)
           replace M:=M.perm (perm_front _ 6 _ rfl)
           replace M:=M.perm (perm_front _ 6 _ rfl)
           replace M:=M.perm (perm_front _ 6 _ rfl)
           replace M:=M.perm (perm_front _ 6 _ rfl)
           change Mem w0 Gq36 (_::_::_::_::_::.blk b1 [.int .u8 (((x.kind:Nat):Int)),.int .i64 (x.at_),.int .i64 (x.count),.int .i64 (x.to),.slice (av45) (nr+1) (cv45)] 65::_::L) _ at M
           intro a F
           exact ⟨_,by omega,j+1,(ys++[y]),_,(av45),(nr+1),(cv45),csr++([.int .u64 (((y.key:Nat):Int)),.int .u8 (((y.typ:Nat):Int)),.string (str (y.text)),.slice (mae43) (y.marks.length) (mce43)]),rfl,Gq36,(hG33.trans hGq36),F.to ⟨rfl,rfl,rfl,rfl,trivial⟩,(M.weaken (.cons_cons _ (.cons_cons _ (.cons_cons _ (.cons_cons _ (.cons_cons _ (.cons_cons _ (.cons _ (List.Sublist.refl _))))))))),by omega,by rw [List.length_append];simp only [List.length_cons,List.length_nil];omega,okI_snoc hok hyok,by rw [hcj,textF_two,List.append_assoc,← hcy],by omega,Ev45,by omega⟩
       ·intro hc
        have h46b:=hc;clear hc
        have h46:¬ (((j:Nat):Int) < ((p:Nat):Int)):=of_decide_eq_false h46b
        refine e_exit<|e_te<|e_te<|e_bh<|e_tn<|e_seq<|?_
        obtain ⟨hnz47,Gz47,az47,cz47,hGz47,hez47,Sz47,M⟩:=M.freeze_row mono_rdItem (k:=0) rfl Er (by decide)
        clear hez47 az47 cz47
        replace HG:=HG.mono hGz47
        replace Sp4:=Sp4.mono mono_rdStr hGz47
        replace Sq16:=Sq16.mono mono_rdPt hGz47
        intro a F
        rw [hnz47] at M Sz47
        change Mem w0 Gz47 (.blk b14 [.int .i64 (((p:Nat):Int))] 3::.blk b7 KINDS 139::.blk b5 [.slice (ap4) ((splitW ((Lib.cut c [10]).1)).length) ((splitW ((Lib.cut c [10]).1)).length)] 24::.blk b [.string (str (cj)),.int .i64 ((((l+1+j):Nat):Int))] 155::.blk b1 [.int .u8 (((x.kind:Nat):Int)),.int .i64 (x.at_),.int .i64 (x.count),.int .i64 (x.to),.slice (ar) (ys.length) (cr)] 65::L) _ at M
        revert a
        refine e_reg<|s_fa tok65.k rfl rfl<|s_ld tok22 M 4 rfl rfl rfl rfl<|s_cR ent15 rfl rfl (copy_spec (xs:=ys) M Sz47 (by omega) (fun x hx=>by have:=(hok x hx).1.2.2.2.1;omega))<|?_;clear M;rintro _ Gq48 w hGq48 M ⟨aq48,rfl,Sq48⟩
        replace HG:=HG.mono hGq48
        replace Sp4:=Sp4.mono mono_rdStr hGq48
        replace Sq16:=Sq16.mono mono_rdPt hGq48
        replace Sz47:=Sz47.mono mono_rdItem hGq48
        refine s_fa tok65.k rfl rfl<|s_st tok22 M 4 rfl rfl rfl rfl rfl rfl<|?_;clear M;intro w M
        refine e_nil<|e_tn<|e_seq<|e_reg<|e_run (fun a F=>run_loadA tok65 rfl (F.ev rfl) (cs:=[.int .u8 (((x.kind:Nat):Int)),.int .i64 (x.at_),.int .i64 (x.count),.int .i64 (x.to),.slice (aq48) (ys.length) (ys.length)]) rfl (M.cellsL (k:=4) rfl rfl)) rfl<|fun a F=>?_
        refine rl_storeA F M tok65 (k:=4) rfl rfl rfl (us:=[.int .u8 (((x.kind:Nat):Int)),.int .i64 (x.at_),.int .i64 (x.count),.int .i64 (x.to),.slice (aq48) (ys.length) (ys.length)]) rfl rfl (by simp [Value.oneCell']) (by simp) ?_;clear F M a;intro w a M F
        change Mem w0 Gq48 (_::_::_::_::.blk b1 [.int .u8 (((x.kind:Nat):Int)),.int .i64 (x.at_),.int .i64 (x.count),.int .i64 (x.to),.slice (aq48) (ys.length) (ys.length)] 65::L) _ at M
        revert a
        refine s_as rfl<|e_nil<|e_tn<|e_ret<|fun a F=>fin_ct F M (k:=4) rfl rfl tok65 rfl rfl rfl rfl ?_
        replace M:=M.perm (perm_front _ 3 _ rfl)
        change Mem w0 Gq48 (_::_::_::_::.blk b1 [.int .u8 (((x.kind:Nat):Int)),.int .i64 (x.at_),.int .i64 (x.count),.int .i64 (x.to),.slice (aq48) (ys.length) (ys.length)] 65::L) _ at M
        exact ⟨_,_,((((hGp4.trans hGq16).trans hG33).trans hGz47).trans hGq48),M.weaken (.cons_cons _ (.cons _ (.cons _ (.cons _ (.cons _ (List.Sublist.refl _)))))),x.kind,x.at_,x.count,x.to,aq48,ys.length,ys.length,true,_,_,rfl,rfl,by omega,by omega,Or.inl ⟨rfl,x,_,ys,hh,hok,by omega,by rw [← hcj];exact hcc,by omega,⟨aq48,ys.length,rfl,(by have:=hh.kd;show x.kind < 256;omega),hh.ra,hh.rc,hh.rt,(by show ys.length≤_;omega),Sq48⟩⟩⟩
open Go Go.Y Go.Proofs
set_option linter.unusedSimpArgs false
set_option linter.unusedVariables false
theorem nclip_spec {w0 w:World} {G:Ghost} {L:List Res} (M:Mem w0 G L w) {n c:Nat} {ad:Option Addr} (h:n≤c) (hc:c≤9223372036854775807):Calls Tryz.prog 87 #[.slice ad n c] w (RetS w0 G L fun v=>v=.slice ad n n):=by
 refine e_start (vs:=[_]) Tryz.func87 rfl (n:=9) rfl rfl<|e_seq<|e_reg<|s_as rfl<|e_nil<|e_tn<|e_seq<|e_reg<|s_mv rfl<|s_mv rfl<|s_ls tok47.k rfl<|s_mv rfl<|s_ls tok47.k rfl<|e_run (fun a F=>run_slice3 (h:=n) (q:=n) tok47.k tok65 (F.ev rfl) (F.ev rfl) (by omega) (F.ev rfl) (by omega) (by omega) (by omega)) rfl<|s_as rfl<|e_nil<|e_tn<|e_ret<|e_fin1 rfl rfl<|?_
 exact ⟨M,rfl⟩
theorem nclone_spec {w0 w:World} {G:Ghost} {L:List Res} (M:Mem w0 G L w) {an:Option Addr} {cn:Nat} {ns:List NotD} (SN:RdSl rdNote 5 G (.slice an ns.length cn) ns) (hlen:ns.length≤1000000) :
  Calls Tryz.prog 88 #[.slice an ns.length cn] w (RetL w0 G fun L' v=>∃ a' n' c' cs',v=.slice a' n' c'∧L' = (.row (.slice a' n' c') n' cs' 65 5::L)∧n' = ns.length∧Els rdNote 5 G cs' ns):=by
 refine e_start (vs:=[_]) Tryz.func88 rfl (n:=8) rfl rfl<|e_seq<|e_reg<|s_as rfl<|e_nil<|e_tn<|e_seq<|e_seq<|e_reg<|s_mv rfl<|e_run (fun a F=>run_eqnilS tok47.k (F.ev rfl) (F.ev rfl)) rfl<|e_nil<|e_tn<|e_cond rfl ?_ ?_
 ·intro hc
  have h1b:=hc;clear hc
  have h1:((an).isNone)=true:=h1b
  refine e_seq<|e_reg<|s_as rfl<|e_nil<|e_tn<|e_ret<|e_tr<|e_fin1 rfl rfl<|?_
  have h0:=SN.nilz (by assumption)
  exact ⟨_,M.nilrow 65 5,none,0,0,[],rfl,rfl,by rw [h0];rfl,by rw [h0];exact Els.nil⟩
 ·intro hc
  have h2b:=hc;clear hc
  have h2:((an).isNone)=false:=h2b
  refine e_skip<|e_tn<|e_seq<|e_reg<|fun a F=>?_
  refine rl_buildSlice0 F M tok47.k tok65 rfl ?_;clear F M a;intro v3 w a M F
  obtain ⟨av3,cv3,rfl,hlev3,hcmv3,hlv3⟩:=M.row_shape (k:=0) rfl
  revert a
  refine s_mv rfl<|fun a F=>?_
  refine rl_append F M (k:=0) rfl tok47.k tok65 rfl rfl (by decide) rfl SN rfl (by show _ * 56≤_;(try simp only [List.length_drop,List.length_take,List.length_append,List.length_cons,List.length_nil]);omega) (by (try simp only [List.length_drop,List.length_take,List.length_append,List.length_cons,List.length_nil]);omega) rfl ?_;clear F M a;intro v4 csv4 w a M Ev4 F
  have Ev4:=Els.append Els.nil Ev4
  obtain ⟨av4,cv4,rfl,hlev4,hcmv4,hlv4⟩:=M.row_shape (k:=0) rfl
  revert a
  refine s_as rfl<|e_nil<|e_tn<|e_ret<|e_fin1 rfl rfl<|?_
  change Mem w0 G (_::L) _ at M
  simp only [Nat.zero_add,List.nil_append] at M ⊢
  exact ⟨_,M,_,_,_,_,rfl,rfl,rfl,by have h:=Ev4;simp only [List.nil_append] at h;exact h⟩
def PF (s:List UInt8) (r:List NotD × Nat × Int):Prop:=(1048576 < s.length∧r=([],0,3))∨(s.length≤1048576∧PR [] s r)
theorem PF.uniq {s:List UInt8} {a b:List NotD × Nat × Int} (h1:PF s a) (h2:PF s b):a=b:=by
 rcases h1 with ⟨h1,rfl⟩ | ⟨h1,h3⟩ <;> rcases h2 with ⟨h2,rfl⟩ | ⟨h2,h4⟩
 ·rfl
 ·omega
 ·omega
 ·exact h3.uniq h4
theorem line_pos (x:NotD) (sz:Int):1≤(lineN x sz).length:=by unfold lineN;simp only [List.length_append,List.length_cons,List.length_nil];omega
theorem nparse_spec {w0 w:World} {G:Ghost} {L:List Res} (M:Mem w0 G L w) (HG:Globs 0 1 2 3 G) {s:List UInt8} (hs:s.length≤9223372036854775807):Calls Tryz.prog 33 #[.string (str s)] w (Ret w0 G L fun G' v=>∃ (a:Option Addr) (ys:List NotD) (ln:Nat) (e:Int),v=.tuple #[.slice a ys.length ys.length,.int .i64 ((ln:Nat):Int),.int .i64 e]∧RdSl rdNote 5 G' (.slice a ys.length ys.length) ys∧PF s (ys,ln,e)):=by
 refine e_start (vs:=[_]) Tryz.func33 rfl (n:=61) rfl rfl<|e_seq<|e_reg<|s_as rfl<|s_as rfl<|s_as rfl<|e_nil<|e_tn<|e_seq<|e_seq<|e_reg<|s_mv rfl<|e_run (fun a F=>run_lenStr tok9.k (F.ev rfl)) rfl<|s_gt rfl rfl<|e_nil<|e_tn<|e_cond rfl ?_ ?_
 ·intro hc
  have h1b:=hc;clear hc
  have h1:1048576 < (((s).length:Nat):Int):=of_decide_eq_true h1b
  refine e_seq<|e_reg<|s_as rfl<|s_as rfl<|s_as rfl<|e_nil<|e_tn<|e_ret<|e_tr<|e_fin3 rfl rfl rfl rfl<|?_
  exact ⟨_,(Gle.refl _),M,none,[],0,_,rfl,RdSl.nil,Or.inl ⟨by omega,rfl⟩⟩
 ·intro hc
  have h2b:=hc;clear hc
  have h2:¬ (1048576 < (((s).length:Nat):Int)):=of_decide_eq_false h2b
  refine e_skip<|e_tn<|e_seq<|e_reg<|s_mv rfl<|e_run (fun a F=>run_buildS (cs:=[.string (str (s)),.int .i64 0]) (ps:=[(0,.string (str (s)))]) tok155.k rfl tok155 (F.evp rfl) rfl) rfl<|s_bx M rfl rfl rfl<|?_;clear M;intro b3 w M
  refine s_as rfl<|e_nil<|e_tn<|e_seq<|e_block<|?_
  have M:=M.nilrow 65 5
  change Mem w0 G (.row (.slice none 0 0) 0 ([]) 65 5::.blk b3 [.string (str (s)),.int .i64 0] 155::L) _ at M
  intro a F
  refine w_loopN (fun m a' w'=>∃ (xs:List NotD),∃ (cj:List UInt8),∃ (ar:Option Addr),∃ (nr:Nat),∃ (cr:Nat),∃ (csr:List Value),m=cj.length∧∃ G4,Gle G G4∧Fits 61 a' [(5,.pointer (some ⟨b3,0,none⟩)),(2,.slice (ar) (nr) (cr))]∧Mem w0 G4 (.row (.slice (ar) (nr) (cr)) (nr) (csr) 65 5::.blk b3 [.string (str (cj)),.int .i64 ((((nlN xs):Nat):Int))] 155::L) w'∧(∀ r,PR xs cj r→PR [] s r)∧(xs.length≤32)∧(cj.length≤1048576)∧(nlN xs≤1025 * xs.length)∧(Els rdNote 5 G4 csr xs)∧(nr=xs.length)) _ ⟨[],s,none,0,0,[],rfl,G,Gle.refl _,F.to ⟨rfl,rfl,trivial⟩,M,fun r h=>h,by decide,by omega,by decide,Els.nil,rfl⟩ ?_
  clear F M
  rintro m a w ⟨xs,cj,ar,nr,cr,csr,rfl,G4,hG4,F,M,hP,hxl,hcj,hnl,Er,hnr⟩
  replace HG:=HG.mono hG4
  revert a
  refine e_seq<|e_seq<|e_reg<|s_mv rfl<|s_nc rfl<|s_fa tok155.k rfl rfl<|s_ld tok9 M 1 rfl rfl rfl rfl<|s_sne rfl rfl<|e_nil<|e_tn<|e_cond rfl ?_ ?_
  ·intro hc
   have h5b:=hc;clear hc
   have h5:¬ (cj=([]:List UInt8)):=of_decide_eq_false (of_not_t h5b)
   have h5c:(decide (cj=([]:List UInt8)))=false:=(of_not_t h5b)
   refine e_skip<|e_tn<|e_block<|e_seq<|e_reg<|s_mv rfl<|s_nc rfl<|s_fa tok155.k rfl rfl<|s_ld tok3 M 1 rfl rfl rfl rfl<|s_add rfl rfl<|s_as rfl<|e_nil<|e_tn<|e_seq<|e_reg<|s_mv rfl<|e_run (fun a F=>run_makeFunc1 (F.ev rfl)) rfl<|?_
   replace M:=M.perm (perm_front _ 1 _ rfl)
   change Mem w0 G4 (_::_::L) _ at M
   intro a F
   refine rl_callM F ent85 rfl rfl (notice_spec (c:=cj) (l:=(nlN xs)) M HG (by omega) (by omega)) ?_;clear F M a;rintro _ Gq6 _ w a hGq6 M ⟨kq6,a1q6,b1q6,t1q6,adq6,lnq6,cnq6,okq6,cq6,lq6,rfl,rfl,hlcq6,hllq6,hokq6⟩ F
   replace HG:=HG.mono hGq6
   replace Er:=Er.mono mono_rdNote hGq6
   change Mem w0 Gq6 (.blk b3 [.string (str (cq6)),.int .i64 (((lq6:Nat):Int))] 155::.row (.slice (ar) (nr) (cr)) (nr) (csr) 65 5::L) _ at M
   revert a
   refine s_mv rfl<|s_ex rfl rfl<|s_ex rfl rfl<|s_al M tok65 rfl rfl<|?_;clear M;intro b7 w M
   intro a F
   refine rl_storeA F M tok65 (k:=0) rfl rfl rfl (us:=[.int .u8 (((kq6:Nat):Int)),.int .i64 (a1q6),.int .i64 (b1q6),.int .i64 (t1q6),.slice (adq6) (lnq6) (cnq6)]) rfl rfl (by simp [Value.oneCell']) (by simp) ?_;clear F M a;intro w a M F
   change Mem w0 Gq6 (.blk b7 [.int .u8 (((kq6:Nat):Int)),.int .i64 (a1q6),.int .i64 (b1q6),.int .i64 (t1q6),.slice (adq6) (lnq6) (cnq6)] 65::_::_::L) _ at M
   revert a
   refine s_as rfl<|e_nil<|e_tn<|e_seq<|e_block<|e_seq<|fun a F=>w_cut (fun a' w'=>∃ (bb:Bool),Fits 61 a' [(2,.slice (ar) (nr) (cr)),(5,.pointer (some ⟨b3,0,none⟩)),(6,.int .i64 (((((nlN xs):Nat):Int))+1)),(7,.pointer (some ⟨b7,0,none⟩)),(8,.bool (okq6)),(31,.bool (bb))]∧Mem w0 Gq6 (.blk b7 [.int .u8 (((kq6:Nat):Int)),.int .i64 (a1q6),.int .i64 (b1q6),.int .i64 (t1q6),.slice (adq6) (lnq6) (cnq6)] 65::.blk b3 [.string (str (cq6)),.int .i64 (((lq6:Nat):Int))] 155::.row (.slice (ar) (nr) (cr)) (nr) (csr) 65 5::L) w'∧(bb=true↔xs.length=32∧(okq6=true∨nlN xs+1 < lq6))) ?_ ?_
   ·skip
    revert a
    refine e_reg<|s_mv rfl<|s_ls tok47.k rfl<|s_eq rfl rfl<|s_mv rfl<|?_
    rcases Bool.eq_false_or_eq_true (decide (((nr:Nat):Int)=32)) with hc | hc
    ·skip
     have h9b:=hc;clear hc
     have h9:((nr:Nat):Int)=32:=of_decide_eq_true h9b
     refine g_t rfl h9b<|s_mv rfl<|g_t rfl h9b<|s_mv rfl<|?_
     rcases Bool.eq_false_or_eq_true (okq6) with hc | hc
     ·skip
      have h10b:=hc;clear hc
      have h10:(okq6)=true:=h10b
      refine g_f rfl h10b<|g_f rfl h10b<|g_f rfl h10b<|g_f rfl h10b<|g_f rfl h10b<|g_f rfl h10b<|g_t rfl h9b<|s_pt rfl h10b rfl<|s_pt rfl h9b rfl<|s_as rfl<|e_nil<|fun a F=>?_
      exact ⟨true,F.to ⟨rfl,rfl,rfl,rfl,rfl,rfl,trivial⟩,M,by clear F M;first | (simp only [Bool.true_eq_false,true_iff,false_iff,Bool.false_eq_true,decide_eq_true_eq];first | exact ⟨by omega,Or.inl (by assumption)⟩ | (rintro ⟨h1_,h2_⟩;omega) | grind) | grind⟩
     ·skip
      have h11b:=hc;clear hc
      have h11:(okq6)=false:=h11b
      refine g_t rfl h11b<|s_mv rfl<|g_t rfl h11b<|s_nc rfl<|g_t rfl h11b<|s_fa tok155.k rfl rfl<|g_t rfl h11b<|s_ld tok3 M 1 rfl rfl rfl rfl<|g_t rfl h11b<|s_mv rfl<|g_t rfl h11b<|s_gt rfl rfl<|g_t rfl h9b<|s_pf rfl h11b rfl<|s_pt rfl h9b rfl<|s_as rfl<|e_nil<|fun a F=>?_
      exact ⟨(decide (((((nlN xs):Nat):Int))+1 < ((lq6:Nat):Int))),F.to ⟨rfl,rfl,rfl,rfl,rfl,rfl,trivial⟩,M,by clear F M;first | (simp only [Bool.true_eq_false,true_iff,false_iff,Bool.false_eq_true,decide_eq_true_eq];first | exact ⟨by omega,Or.inl (by assumption)⟩ | (rintro ⟨h1_,h2_⟩;omega) | grind) | grind⟩
    ·skip
     have h12b:=hc;clear hc
     have h12:¬ (((nr:Nat):Int)=32):=of_decide_eq_false h12b
     refine g_f rfl h12b<|g_f rfl h12b<|g_u rfl<|g_u rfl<|g_u rfl<|g_u rfl<|g_u rfl<|g_u rfl<|g_f rfl h12b<|s_pf rfl h12b rfl<|s_as rfl<|e_nil<|fun a F=>?_
     exact ⟨false,F.to ⟨rfl,rfl,rfl,rfl,rfl,rfl,trivial⟩,M,by clear F M;first | (simp only [Bool.true_eq_false,true_iff,false_iff,Bool.false_eq_true,decide_eq_true_eq];first | exact ⟨by omega,Or.inl (by assumption)⟩ | (rintro ⟨h1_,h2_⟩;omega) | grind) | grind⟩
   ·clear F M
    rintro a w ⟨bb,F,M,hbb⟩
    revert a
    refine e_tn<|e_cond rfl ?_ ?_
    ·intro hc
     have h13b:=hc;clear hc
     have h13:(bb)=true:=h13b
     refine e_seq<|e_reg<|s_mv rfl<|s_as rfl<|s_as rfl<|s_as rfl<|e_nil<|e_tn<|e_ret<|e_br<|e_tr<|e_br<|e_tr<|e_br<|e_tr<|e_fin3 rfl rfl rfl rfl<|?_
     exact ⟨_,(hG4.trans hGq6),M.weaken (.cons _ (.cons _ (.cons _ (List.Sublist.refl _)))),none,[],((nlN xs)+1),_,rfl,RdSl.nil,Or.inr ⟨by omega,hP _ (by obtain ⟨h1_,h2_⟩:=hbb.1 (by assumption);rcases hokq6 with ⟨_,x,sz,ys,hh,_,_,hce,_⟩ | ⟨h3_,⟨_,h4_⟩ | ⟨x,sz,ys,r,hh,_,_,_,hce,_⟩⟩;exact PR.full ⟨x,sz,_,hh,hce⟩ h1_;(exfalso;rcases h2_ with h2_ | h2_;(rw [h3_] at h2_;cases h2_);omega);exact PR.full ⟨x,sz,_,hh,hce⟩ h1_)⟩⟩
    ·intro hc
     have h14b:=hc;clear hc
     have h14:(bb)=false:=h14b
     refine e_seq<|e_reg<|s_mv rfl<|s_not rfl<|s_as rfl<|e_nil<|e_tn<|e_cond rfl ?_ ?_
     ·intro hc
      have h15b:=hc;clear hc
      have h15:(okq6)=false:=(of_not_t h15b)
      have h15c:(okq6)=false:=(of_not_t h15b)
      refine e_seq<|fun a F=>w_plan [(true,0),(true,1),(true,2),(true,3),(true,4),(true,5),(true,6)] (Keep Gq6 [.blk b7 [.int .u8 (((kq6:Nat):Int)),.int .i64 (a1q6),.int .i64 (b1q6),.int .i64 (t1q6),.slice (adq6) (lnq6) (cnq6)] 65,.blk b3 [.string (str (cq6)),.int .i64 (((lq6:Nat):Int))] 155]) rfl (by kernel_rfl) (fun c a d v w h=>by cases d <;> exact h) ((M.drew _).keep (Gle.refl _) (by simp)) ?_
      replace M:=M.drew (w.drawn+1)
      revert a
      refine l_r (fun a F w M=>x_mv F rfl) rfl<|l_r (fun a F w M=>run_nilCheck (F.ev rfl)) rfl<|l_r (fun a F w M=>x_fa tok155.k rfl F rfl) rfl<|l_r (fun a F w M=>run_load1 (agf tok3 rfl) (F.ev rfl) (M.cellL (k:=1) rfl rfl)) rfl<|l_r (fun a F w M=>x_as F rfl) rfl<|l_r (fun a F w M=>x_as F rfl) rfl<|l_r (fun a F w M=>x_as F rfl) rfl<|l_nil<|?_
      generalize ({ w with drawn:=w.drawn+1 }:World)=w at M ⊢
      refine e_tn<|e_ret<|e_br<|e_tr<|e_br<|e_tr<|e_br<|e_tr<|e_fin3 rfl rfl rfl rfl<|?_
      exact ⟨_,(hG4.trans hGq6),M.weaken (.cons _ (.cons _ (.cons _ (List.Sublist.refl _)))),none,[],lq6,_,rfl,RdSl.nil,Or.inr ⟨by omega,hP _ (by rcases hokq6 with ⟨h3_,_⟩ | ⟨h3_,⟨h5_,h4_⟩ | ⟨x,sz,ys,r,hh,hoi,hlt,hl,hce,hni⟩⟩;(exfalso;simp_all);(rw [h4_];exact PR.nohead (by assumption) h5_);(rw [hl];exact PR.bad hh (fun h_=>absurd (hbb.2 ⟨h_,Or.inr (by omega)⟩) (by simp_all)) hce hoi hlt hni))⟩⟩
     ·intro hc
      have h16b:=hc;clear hc
      have h16:(okq6)=true:=(of_not_f h16b)
      have h16c:(okq6)=true:=(of_not_f h16b)
      refine e_skip<|e_bn<|e_tn<|?_
      have hokt:okq6=true:=by first | assumption | simp_all
      rcases hokq6 with ⟨_,x,sz,ys,hh,hoi,hyl,hce,hle,hrd⟩ | ⟨h_,_⟩
      intro a F
      case inr=>rw [hokt] at h_;cases h_
      have hx32:xs.length≠32:=fun h_=>absurd (hbb.2 ⟨h_,Or.inl hokt⟩) (by simp_all)
      have hl9:lq6=nlN (xs++[{ x with items:=ys }]):=by rw [nlN_snoc];show _=_+(1+ys.length);omega
      have hyl2:ys.length≤1024:=by have:=hh.rs;omega
      subst hl9
      revert a
      refine e_reg<|s_mv rfl<|e_run (fun a F=>run_loadA tok65 rfl (F.ev rfl) (cs:=[.int .u8 (((kq6:Nat):Int)),.int .i64 (a1q6),.int .i64 (b1q6),.int .i64 (t1q6),.slice (adq6) (lnq6) (cnq6)]) rfl (M.cellsL (k:=0) rfl rfl)) rfl<|fun a F=>?_
      refine rl_buildSlice1 F M tok47.k tok65 rfl rfl (cs:=[.int .u8 (((kq6:Nat):Int)),.int .i64 (a1q6),.int .i64 (b1q6),.int .i64 (t1q6),.slice (adq6) (lnq6) (cnq6)]) rfl rfl (by simp [Value.oneCell']) (by decide) rfl ?_;clear F M a;intro v17 w a M F
      obtain ⟨av17,cv17,rfl,hlev17,hcmv17,hlv17⟩:=M.row_shape (k:=0) rfl
      have Eb:Els rdNote 5 Gq6 [.int .u8 (((kq6:Nat):Int)),.int .i64 (a1q6),.int .i64 (b1q6),.int .i64 (t1q6),.slice (adq6) (lnq6) (cnq6)] [{ x with items:=ys }]:=⟨[.int .u8 (((kq6:Nat):Int)),.int .i64 (a1q6),.int .i64 (b1q6),.int .i64 (t1q6),.slice (adq6) (lnq6) (cnq6)],[],rfl,rfl,hrd,rfl⟩
      refine rl_append_row F M (k:=3) (k2:=0) rfl rfl tok47.k tok65 rfl rfl (by decide) rfl rfl (by show _ * 56≤_;(try simp only [List.length_drop,List.length_take,List.length_append,List.length_cons,List.length_nil]);omega) (by (try simp only [List.length_drop,List.length_take,List.length_append,List.length_cons,List.length_nil]);omega) rfl ?_;clear F M a;intro v18 w a M F
      have Ev18:=Els.append Er Eb
      obtain ⟨av18,cv18,rfl,hlev18,hcmv18,hlv18⟩:=M.row_shape (k:=3) rfl
      revert a
      refine s_as rfl<|e_nil<|e_bn<|e_tn<|?_
      replace M:=M.perm (perm_front _ 2 _ rfl)
      replace M:=M.perm (perm_front _ 3 _ rfl)
      change Mem w0 Gq6 (_::_::_::.blk b7 [.int .u8 (((kq6:Nat):Int)),.int .i64 (a1q6),.int .i64 (b1q6),.int .i64 (t1q6),.slice (adq6) (lnq6) (cnq6)] 65::L) _ at M
      intro a F
      exact ⟨_,(by have h9_:=congrArg List.length hce;have h8_:=line_pos x sz;simp only [List.length_append] at h9_;omega),(xs++[{ x with items:=ys }]),cq6,(av18),(nr+1),(cv18),csr++([.int .u8 (((kq6:Nat):Int)),.int .i64 (a1q6),.int .i64 (b1q6),.int .i64 (t1q6),.slice (adq6) (lnq6) (cnq6)]),rfl,Gq6,(hG4.trans hGq6),F.to ⟨rfl,rfl,trivial⟩,(M.weaken (.cons_cons _ (.cons_cons _ (.cons _ (.cons _ (List.Sublist.refl _)))))),fun r h=>hP r (PR.step hh (by omega) hce hoi hyl h),by rw [List.length_append];simp only [List.length_cons,List.length_nil];omega,by omega,by rw [nlN_snoc,List.length_append];simp only [List.length_cons,List.length_nil];omega,Ev18,by rw [List.length_append,hnr];rfl⟩
  ·intro hc
   have h19b:=hc;clear hc
   have h19:cj=([]:List UInt8):=of_decide_eq_true (of_not_f h19b)
   have h19c:(decide (cj=([]:List UInt8)))=true:=(of_not_f h19b)
   refine e_exit<|e_te<|e_te<|e_bh<|e_tn<|e_seq<|?_
   obtain ⟨hnz20,Gz20,az20,cz20,hGz20,hez20,Sz20,M⟩:=M.freeze_row mono_rdNote (k:=0) rfl Er (by decide)
   clear hez20 az20 cz20
   replace HG:=HG.mono hGz20
   intro a F
   rw [hnz20] at F Sz20
   revert a
   refine e_reg<|s_mv rfl<|s_cL ent88 rfl rfl (nclone_spec (ns:=xs) M Sz20 (by omega))<|?_;clear M;rintro _ _ w M ⟨ak21,nk21,ck21,csk21,rfl,rfl,hnk21,Ek21⟩
   subst hnk21
   have sh22:=M.row_bound (k:=0) rfl
   refine s_cS ent87 rfl rfl (nclip_spec M sh22.1 sh22.2)<|?_;clear M;rintro _ w M rfl
   obtain ⟨hnz23,Gz23,az23,cz23,hGz23,hez23,Sz23,M⟩:=M.freeze_row mono_rdNote (k:=0) rfl Ek21 (by decide)
   clear hez23 az23 cz23
   replace HG:=HG.mono hGz23
   replace Sz20:=Sz20.mono mono_rdNote hGz23
   have S24:RdSl rdNote 5 Gz23 (.slice (ak21) ((xs).length) ((xs).length)) (xs):=Sz23.clip
   refine s_as rfl<|s_as rfl<|s_as rfl<|e_nil<|e_tn<|e_ret<|e_fin3 rfl rfl rfl rfl<|?_
   exact ⟨_,((hG4.trans hGz20).trans hGz23),M.weaken (.cons _ (List.Sublist.refl _)),ak21,xs,0,0,rfl,S24,Or.inr ⟨by omega,hP _ (by rw [show cj=[] from (by first | assumption | simp_all)];exact PR.done)⟩⟩
end Go.Proofs.YtmmhmcplegpenaaGreatDoor
namespace Go.Proofs.YtmmhmcplegpenaaGreatDoor.T
open Go Go.Y Go.Proofs
set_option linter.unusedSimpArgs false
instance instNameB:DecidablePred NameB:=fun c=>by unfold NameB;infer_instance
instance instName:DecidablePred Name:=fun s=>by unfold Name;infer_instance
instance instStrB:DecidablePred StrB:=fun c=>by unfold StrB;infer_instance
instance instStr:DecidablePred Str:=fun s=>by unfold Str;infer_instance
instance instEqAttr:DecidableEq AttrD:=fun a b=>decidable_of_iff (a.n=b.n∧a.v=b.v) (by cases a;cases b;simp)
instance instEqSlot:DecidableEq SlotD:=fun a b=>decidable_of_iff (a.n=b.n∧a.src=b.src∧a.v=b.v) (by cases a;cases b;simp)
/-- All elements, each with the one before it. -/
def chainB {α:Type} (p:α→Bool) (q:α→α→Bool):List α→Bool
 | []=>true
 | [a]=>p a
 | a::b::l=>p a && q a b && chainB p q (b::l)
theorem chainB_iff {α:Type} {p:α→Bool} {q:α→α→Bool}:∀ l:List α,chainB p q l=true↔∀ (i:Nat) (x:α),l[i]?=some x→p x=true∧∀ y,0 < i→l[i - 1]?=some y→q y x=true
 | []=>by simp [chainB]
 | [a]=>by
  simp only [chainB]
  constructor
  ·intro h i x hx
   match i with
   | 0=>simp only [List.getElem?_cons_zero,Option.some.injEq] at hx;subst hx;exact ⟨h,fun y h0=>by omega⟩
   | i+1=>simp at hx
  ·intro h;exact (h 0 a rfl).1
 | a::b::l=>by
  simp only [chainB,Bool.and_eq_true,chainB_iff (b::l)]
  constructor
  ·rintro ⟨⟨h1,h2⟩,h3⟩ i x hx
   match i with
   | 0=>simp only [List.getElem?_cons_zero,Option.some.injEq] at hx;subst hx;exact ⟨h1,fun y h0=>by omega⟩
   | 1 =>
    simp only [List.getElem?_cons_succ,List.getElem?_cons_zero,Option.some.injEq] at hx;subst hx
    refine ⟨(h3 0 b rfl).1,fun y _ hy=>?_⟩
    simp only [Nat.sub_self,List.getElem?_cons_zero,Option.some.injEq] at hy;subst hy;exact h2
   | i+2 =>
    simp only [List.getElem?_cons_succ] at hx
    obtain ⟨h4,h5⟩:=h3 (i+1) x (by simpa using hx)
    exact ⟨h4,fun y _ hy=>h5 y (by omega) (by simpa using hy)⟩
  ·intro h
   refine ⟨⟨(h 0 a rfl).1,(h 1 b rfl).2 a (by decide) rfl⟩,fun i x hx=>?_⟩
   obtain ⟨h4,h5⟩:=h (i+1) x (by simpa using hx)
   exact ⟨h4,fun y h0 hy=>h5 y (by omega) (by
    obtain ⟨i',rfl⟩:∃ i',i=i' + 1:=⟨i - 1,by omega⟩
    simpa using hy)⟩
instance instAttrsOk:DecidablePred AttrsOk:=fun l=>decidable_of_iff (chainB (fun x=>decide (Name x.n∧Str x.v)) (fun y x=>Op.bytesLess y.n x.n) l=true) (by
 rw [chainB_iff];unfold AttrsOk;simp only [decide_eq_true_eq])
instance instSlotAt:DecidablePred SlotAt:=fun x=>by unfold SlotAt;infer_instance
instance instSlotsOk:DecidablePred SlotsOk:=fun l=>decidable_of_iff (l.length≤8∧chainB (fun x=>decide (SlotAt x)) (fun y x=>Op.bytesLess y.n x.n) l=true) (by
 rw [chainB_iff];unfold SlotsOk SlotsTo;simp only [decide_eq_true_eq]
 exact ⟨fun h=>⟨h.1,fun m x _ hx=>h.2 m x hx⟩,fun h=>⟨h.1,fun m x hx=>h.2 m x (lt_of_get hx) hx⟩⟩)
instance instKeysOk:DecidablePred KeysOk:=fun l=>decidable_of_iff (l.Pairwise fun a b=>b.key≠[]→a.key≠b.key) (by
 rw [List.pairwise_iff_getElem];unfold KeysOk
 constructor
 ·intro h i j a b hij ha hb
  obtain ⟨h1,rfl⟩:=List.getElem?_eq_some_iff.1 ha
  obtain ⟨h2,rfl⟩:=List.getElem?_eq_some_iff.1 hb
  exact h i j h1 h2 hij
 ·intro h i j h1 h2 hij
  exact h i j _ _ hij (List.getElem?_eq_getElem h1) (List.getElem?_eq_getElem h2))
instance instAlone:DecidablePred Alone:=fun x=>by unfold Alone;infer_instance
instance instAloneP:DecidablePred AloneP:=fun x=>by unfold AloneP;infer_instance
def decOk {β:Type} (A:Tr β→Prop) [DecidablePred A]:(n:Nat)→(x:Tr β)→Decidable (Tr.Ok A n x)
 | 0,_=>isFalse id
 | n+1,x=>by
  have:∀ c,Decidable (Tr.Ok A n c):=decOk A n
  exact inferInstanceAs (Decidable (A x∧∀ c∈x.kids,Tr.Ok A n c))
instance instOk {β:Type} (A:Tr β→Prop) [DecidablePred A] (n:Nat):DecidablePred (Tr.Ok A n):=decOk A n
instance instValid:DecidablePred Valid:=fun x=>by unfold Valid;infer_instance
instance instValidP:DecidablePred ValidP:=fun x=>by unfold ValidP;infer_instance
instance instItemOk:DecidablePred ItemOk:=fun x=>by unfold ItemOk;infer_instance
end Go.Proofs.YtmmhmcplegpenaaGreatDoor.T
namespace Go.Proofs.YtmmhmcplegpenaaGreatDoor
open Go Go.Y Go.RowKit
set_option linter.unusedSimpArgs false
set_option linter.unusedVariables false
def rowP:T.PT:=.mk 1 [114,111,119] [] [] [] []
def c3:RulesD:=⟨[⟨rowP,10,false,0⟩],1⟩
def it3 (k:Nat):ItemD:=⟨k,0,[],[]⟩
def en3 (k:Nat):EntD:=⟨it3 k,10,false⟩
def l3:List EntD:=[en3 1,en3 2,en3 3]
theorem row_valid:T.ValidP rowP:=⟨rfl,by decide,by decide⟩
theorem c3_valid:ValidC c3:=⟨⟨by decide,by decide⟩,fun k hk=>by rw [show k=⟨rowP,10,false,0⟩ by simpa [c3] using hk];exact ⟨by decide,row_valid⟩⟩
theorem row_one {x:T.ItemD}:T.cntF (T.node1 x rowP)=1:=by
 have h:T.node1 x rowP=.mk 1 [114,111,119] [] [] [] []:=by simp [T.node1,rowP,T.madesF,Tr.kids,Tr.as,Tr.tag,Tr.key]
 rw [h]
 unfold T.cntF
 rw [if_pos (by decide)];rfl
theorem c3_ren {x:ItemD} (h:ItemOk 1 x):renE c3 x=0:=by
 have ht:=h.2.1
 have h0:x.typ=0:=by omega
 rw [ren_at (k:=⟨rowP,10,false,0⟩) (by rw [h0];rfl)]
 exact T.rend_ok (by decide) row_valid (tI_ok h) (by rw [row_one];decide)
theorem c3_base {x:ItemD} (h:ItemOk 1 x):baseOf c3 x=10:=by
 have ht:=h.2.1
 have h0:x.typ=0:=by omega
 rw [base_at (k:=⟨rowP,10,false,0⟩) (by rw [h0];rfl)]
theorem c3_fresh {k:Nat} (h:ItemOk 1 (it3 k)):freshF c3 (it3 k)=en3 k:=by unfold freshF;rw [c3_base h];rfl
theorem c3_inc {l:List EntD} {xs:List ItemD} (h1:∀ x∈xs,ItemOk 1 x) (h2:∀ i x,xs[i]?=some x→¬ (hasKey l x.key∨hasI (xs.take i) x.key)):incE c3 l xs=0:=by
 refine firstE_zero.2 fun i hi=>?_
 obtain ⟨x,hx⟩:=get_of_lt hi
 rw [inc_at hx]
 exact itemE_0 (h1 x (List.mem_of_getElem? hx)) (h2 i x hx) (c3_ren (h1 x (List.mem_of_getElem? hx)))
theorem ok3 {k:Nat} (h:¬ k=0):ItemOk 1 (it3 k):=by
 have h1:Str ([]:List UInt8):=by decide
 have h2:∀ s∈([]:List (List UInt8)),Name s:=fun s hs=>by cases hs
 exact ⟨h,(show (((0:Nat):Int)) < 1 by decide),h1,Nat.zero_le _,h2⟩
theorem res3:insR c3 [] 0 [it3 1,it3 2,it3 3]=(l3,0):=by
 have h1:∀ x∈[it3 1,it3 2,it3 3],ItemOk 1 x:=by
  intro x hx
  simp only [List.mem_cons,List.not_mem_nil,or_false] at hx
  rcases hx with rfl | rfl | rfl <;> exact ok3 (by decide)
 have h2:[it3 1,it3 2,it3 3].map (freshF c3)=l3:=by
  simp only [List.map_cons,List.map_nil,c3_fresh (ok3 (show ¬ 1=0 by decide)),c3_fresh (ok3 (show ¬ 2=0 by decide)),c3_fresh (ok3 (show ¬ 3=0 by decide))];rfl
 rw [ins_0 (by decide) (by decide) (c3_inc h1 ?_) (by rw [h2];decide),h2]
 ·rfl
 ·intro i x hx
  rcases i with _ | _ | _ | i <;> simp only [List.getElem?_cons_zero,List.getElem?_cons_succ,List.getElem?_nil,Option.some.injEq,reduceCtorEq] at hx
  ·subst hx;simp [hasKey,hasI]
  ·subst hx;simp [hasKey,hasI,it3]
  ·subst hx;simp [hasKey,hasI,it3]
theorem ins9:insR c3 [en3 2,en3 3] 2 [it3 9]=([en3 2,en3 3,en3 9],0):=by
 have h1:∀ x∈[it3 9],ItemOk 1 x:=by intro x hx;rw [List.mem_singleton.1 hx];exact ok3 (by decide)
 have h2:[it3 9].map (freshF c3)=[en3 9]:=by simp only [List.map_cons,List.map_nil,c3_fresh (ok3 (show ¬ 9=0 by decide))]
 rw [ins_0 (by decide) (by decide) (c3_inc h1 ?_) (by rw [h2];decide),h2]
 ·rfl
 ·intro i x hx
  rcases i with _ | i <;> simp only [List.getElem?_cons_zero,List.getElem?_cons_succ,List.getElem?_nil,Option.some.injEq,reduceCtorEq] at hx
  subst hx;simp [hasKey,hasI,it3,en3]
def some3:List NotD:=[⟨2,0,1,0,[]⟩,⟨1,2,0,0,[it3 9]⟩,⟨3,0,1,2,[]⟩]
def none3:List NotD:=[⟨2,0,1,0,[]⟩,⟨2,2,1,0,[]⟩]
theorem check3:checkE c3 l3=0:=by
 refine check_iff.2 ⟨c3_valid,by decide,?_,by decide,by decide⟩
 intro x hx
 have hb:∀ k:Nat,¬ k=0→EntOk c3 (en3 k):=fun k hk=>⟨⟨ok3 hk,c3_ren (ok3 hk)⟩,by unfold SizeOk;rw [show baseOf c3 (en3 k).item=10 from c3_base (ok3 hk)];exact ⟨⟨by show (1:Int)≤10;decide,by show (10:Int)≤_;decide⟩,Or.inr rfl⟩⟩
 simp only [l3,List.mem_cons,List.not_mem_nil,or_false] at hx
 rcases hx with rfl | rfl | rfl <;> exact hb _ (by decide)
theorem run1 {ns:List NotD} (h:ns[0]?=some ⟨2,0,1,0,[]⟩):runR c3 l3 ns 1=([en3 2,en3 3],0):=by
 rw [run_step rfl h,app_2 (by decide) rfl];rfl
theorem all3:allE c3 l3 some3=([en3 3,en3 9,en3 2],3,0):=by
 have h1:=run1 (ns:=some3) rfl
 have h2:runR c3 l3 some3 2=([en3 2,en3 3,en3 9],0):=by
  rw [run_step (by rw [h1]) (show some3[1]?=some ⟨1,2,0,0,[it3 9]⟩ from rfl),app_1 (by decide) rfl,h1];exact ins9
 have h3:runR c3 l3 some3 3=([en3 3,en3 9,en3 2],0):=by
  rw [run_step (by rw [h2]) (show some3[2]?=some ⟨3,0,1,2,[]⟩ from rfl),app_3 (by decide) rfl,h2];rfl
 rw [allE_ok check3,all_0 (i:=3) (by decide) (by rw [h3]) rfl,h3];rfl
theorem all3b:allE c3 l3 none3=([],1,4):=by
 have h1:=run1 (ns:=none3) rfl
 have h2:runR c3 l3 none3 2=([],4):=by
  rw [run_step (by rw [h1]) (show none3[1]?=some ⟨2,2,1,0,[]⟩ from rfl),app_2 (by decide) rfl,h1];rfl
 rw [allE_ok check3,all_x (i:=1) (by decide) (by rw [h1]) (by decide) (by rw [h2];decide),h2]
open Go Go.Y Go.RowKit
set_option linter.unusedSimpArgs false
set_option linter.unusedVariables false
theorem ia0:Lib.itoa 0=[48]:=by rw [show (0:Int)=((0:Nat):Int) from rfl,Lib.itoa_nonneg,Lib.decDigits,dif_pos (by decide)];rfl
theorem ia1:Lib.itoa 1=[49]:=by rw [show (1:Int)=((1:Nat):Int) from rfl,Lib.itoa_nonneg,Lib.decDigits,dif_pos (by decide)];rfl
theorem ia2:Lib.itoa 2=[50]:=by rw [show (2:Int)=((2:Nat):Int) from rfl,Lib.itoa_nonneg,Lib.decDigits,dif_pos (by decide)];rfl
theorem dd9:Lib.decDigits 9=[57]:=by rw [Lib.decDigits,dif_pos (by decide)];rfl
theorem dd0:Lib.decDigits 0=[48]:=by rw [Lib.decDigits,dif_pos (by decide)];rfl
theorem wn2 {a b:Int}:wordsN [a,b]=32::Lib.itoa a++(32::Lib.itoa b):=by simp [wordsN]
theorem wn1 {a:Int}:wordsN [a]=32::Lib.itoa a:=by simp [wordsN]
theorem ln_ins01:lineN ⟨1,0,0,0,[]⟩ 1=[105,110,115,101,114,116,32,48,32,49,10]:=by
 unfold lineN
 rw [show fm (nuK ⟨1,0,0,0,[]⟩ 1)=[0,1] from rfl,wn2,ia0,ia1];rfl
theorem ln_ins21:lineN ⟨1,2,0,0,[⟨9,0,[120],[]⟩]⟩ 1=[105,110,115,101,114,116,32,50,32,49,10]:=by
 unfold lineN
 rw [show fm (nuK ⟨1,2,0,0,[⟨9,0,[120],[]⟩]⟩ 1)=[2,1] from rfl,wn2,ia2,ia1];rfl
theorem ln_rem01:lineN ⟨2,0,1,0,[]⟩ 0=[114,101,109,111,118,101,32,48,32,49,10]:=by
 unfold lineN
 rw [show fm (nuK ⟨2,0,1,0,[]⟩ 0)=[0,1] from rfl,wn2,ia0,ia1];rfl
theorem ln_res0:lineN ⟨5,0,0,0,[]⟩ 0=[114,101,115,101,116,32,48,10]:=by
 unfold lineN
 rw [show fm (nuK ⟨5,0,0,0,[]⟩ 0)=[0] from rfl,wn1,ia0];rfl
def textL:List NotD:=[⟨1,2,0,0,[⟨9,0,[120],[]⟩]⟩,⟨2,0,1,0,[]⟩]
theorem textL_T:notesT textL=[105,110,115,101,114,116,32,50,32,49,10,57,32,48,32,45,32,120,10,114,101,109,111,118,101,32,48,32,49,10]:=by
 have h1:noteT ⟨1,2,0,0,[⟨9,0,[120],[]⟩]⟩=lineN ⟨1,2,0,0,[⟨9,0,[120],[]⟩]⟩ 1++textF [⟨9,0,[120],[]⟩]:=rfl
 have h2:noteT ⟨2,0,1,0,[]⟩=lineN ⟨2,0,1,0,[]⟩ 0++textF []:=rfl
 have h3:textF [⟨9,0,[120],[]⟩]=[57,32,48,32,45,32,120,10]:=by
  simp only [textF,List.map_cons,List.map_nil,lineF,dd9,dd0];rfl
 unfold notesT textL
 simp only [List.flatMap_cons,List.flatMap_nil]
 rw [h1,h2,h3,ln_ins21,ln_rem01];rfl
theorem textL_ok:ntextE textL=0∧ntextR textL=[105,110,115,101,114,116,32,50,32,49,10,57,32,48,32,45,32,120,10,114,101,109,111,118,101,32,48,32,49,10]:=by
 have h:=nt_0 (l:=textL) (i:=2) (by decide) (by decide) rfl (by rw [show textL.take 2=textL from rfl,textL_T];decide)
 rw [show textL.take 2=textL from rfl,textL_T] at h
 exact h
def badT:List (List UInt8):=[[105,110,115,101,114,116,32,48,32,49,10],[114,101,109,111,118,101,32,48,10],[114,101,115,101,116,32,48,10,102,111,111,10]]
theorem no_item:¬ ItemAt []:=by
 rintro ⟨y,r,_,h⟩
 have:=congrArg List.length h
 simp at this
theorem hd_ins:Head ⟨1,0,0,0,[]⟩ 1:=⟨by decide,Or.inr rfl,Or.inr rfl,Or.inr rfl,Or.inl (by decide),rfl,in_i64 (n:=0) (by decide) (by decide),in_i64 (n:=0) (by decide) (by decide),in_i64 (n:=0) (by decide) (by decide),by decide⟩
theorem hd_res:Head ⟨5,0,0,0,[]⟩ 0:=⟨by decide,Or.inr rfl,Or.inr rfl,Or.inr rfl,Or.inr rfl,rfl,in_i64 (n:=0) (by decide) (by decide),in_i64 (n:=0) (by decide) (by decide),in_i64 (n:=0) (by decide) (by decide),by decide⟩
theorem badN1:PR [] [105,110,115,101,114,116,32,48,32,49,10] ([],2,5) :=
 PR.bad (ys:=[]) (r:=[]) hd_ins (by decide) (by rw [ln_ins01];rfl) (fun y hy=>by cases hy) (by decide) no_item
theorem badN2:PR [] [114,101,109,111,118,101,32,48,10] ([],1,5) :=
 PR.nohead (by decide) (nohead_2 (k:=2) (b:=0) (b2:=1) (W:=[114,101,109,111,118,101]) (wr:=[[48]]) (by decide) (by decide) (by decide) (by decide))
theorem badN3:PR [] [114,101,115,101,116,32,48,10,102,111,111,10] ([],2,5) :=
 PR.step (ys:=[]) (r:=[102,111,111,10]) hd_res (by decide) (by rw [ln_res0];rfl) (fun y hy=>by cases hy) rfl
  (PR.nohead (by decide) (nohead_1 (z:=-1) (W:=[102,111,111]) (wr:=[]) (by decide) (Or.inl ⟨rfl,by decide⟩) (Or.inr (by decide))))
def lnN:List Nat:=[2,1,2]
theorem badN_all {i:Nat} {s:List UInt8} (h:badT[i]?=some s):∃ n,lnN[i]?=some n∧PF s ([],n,5):=by
 rcases i with _ | _ | _ | i <;> simp only [badT,List.getElem?_cons_zero,List.getElem?_cons_succ,List.getElem?_nil,Option.some.injEq,reduceCtorEq] at h
 ·subst h;exact ⟨2,rfl,Or.inr ⟨by decide,badN1⟩⟩
 ·subst h;exact ⟨1,rfl,Or.inr ⟨by decide,badN2⟩⟩
 ·subst h;exact ⟨2,rfl,Or.inr ⟨by decide,badN3⟩⟩
open Go Go.Y Go.Proofs
set_option linter.unusedSimpArgs false
set_option linter.unusedVariables false
theorem fin_aa {P:Program} {fn:Func} {n:Nat} {a:Act} {e:Env} {w0 w:World} {G:Ghost} {L:List Res} (F:Fits n a e) {t u ty1 ty2 k1 k2 b1 b2:Nat} {i1 i2:TI} {cs1 cs2:List Value} {R:Ending→World→Prop} (M:Mem w0 G L w)
  (hk1:L[k1]?=some (.blk b1 cs1 ty1)) (hk2:L[k2]?=some (.blk b2 cs2 ty2)) (hf:fn.results = #[.cell t ty1,.cell u ty2]) (ht1:TOK P ty1 i1) (ht2:TOK P ty2 i2) (ha1:i1.k.agg=some true) (ha2:i2.k.agg=some true)
  (hl1:cs1.length=i1.size) (hl2:cs2.length=i2.size) (hv1:Y.look e t=some (.pointer (some ⟨b1,0,none⟩))) (hv2:Y.look e u=some (.pointer (some ⟨b2,0,none⟩))) (h:R (.returned (.tuple #[.agg cs1.toArray,.agg cs2.toArray])) w):bodyPost P fn R .ret a w:=by
 refine fin_of F (v:=.tuple #[.agg cs1.toArray,.agg cs2.toArray]) ?_ h
 have h1:(loadVar ty1 ⟨b1,0,none⟩).run P w=.ok (.agg cs1.toArray) w:=run_loadVarA ht1 ha1 hl1 (M.cellsL hk1 (by rw [List.drop_zero,← hl1,List.take_length]))
 have h2:(loadVar ty2 ⟨b2,0,none⟩).run P w=.ok (.agg cs2.toArray) w:=run_loadVarA ht2 ha2 hl2 (M.cellsL hk2 (by rw [List.drop_zero,← hl2,List.take_length]))
 simp [results,hf,F.slot _ _ hv1,F.slot _ _ hv2,asAddr,h1,h2]
theorem lreset3 {w0 w:World} {G:Ghost} {L:List Res} (M:Mem w0 G L w) {ka:Option Addr} {kc:Nat} (SC:RdSl rdKind 9 G (.slice ka c3.kinds.length kc) c3.kinds) {ta:Option Addr} {tc:Nat} (T:RdSl rdItem 4 G (.slice ta 3 tc) [it3 1,it3 2,it3 3]) :
  Calls Tryz.prog 92 #[.agg #[.slice ka c3.kinds.length kc,.int .i64 1],.agg #[.slice none 0 0],.slice ta 3 tc] w (RetM w0 G (OwnR L (l3,0))):=by
 rw [← res3]
 exact lreset_spec (c:=c3) (l:=[]) M SC RdSl.nil (check_nil c3_valid) T (by decide)
theorem three_spec {w0 w:World} {G:Ghost} {L:List Res} (M:Mem w0 G L w):Calls Tryz.prog 36 #[] w (Ret w0 G L fun G' v=>∃ (ka:Option Addr) (kc:Nat) (la:Option Addr) (lc:Nat),v=.tuple #[.agg #[.slice ka c3.kinds.length kc,.int .i64 1],.agg #[.slice la l3.length lc]]∧RdSl rdKind 9 G' (.slice ka c3.kinds.length kc) c3.kinds∧RdSl rdEnt 6 G' (.slice la l3.length lc) l3):=by
 refine e_start (vs:=[]) Tryz.func36 rfl (n:=21) rfl rfl<|e_seq<|e_reg<|s_al M tok51 rfl rfl<|?_;clear M;intro b1 w M
 refine s_al M tok54 rfl rfl<|?_;clear M;intro b3 w M
 refine e_nil<|e_tn<|e_seq<|e_reg<|e_run (fun a F=>run_buildS (cs:=[.int .u8 1,.string (str ([114,111,119]:List UInt8)),.string (str ([]:List UInt8)),.slice none 0 0,.string (str ([]:List UInt8)),.slice none 0 0]) (ps:=[(0,.int .u8 1),(1,.string (str ([114,111,119]:List UInt8)))]) tok79.k rfl tok79 (F.evp rfl) rfl) rfl<|e_run (fun a F=>run_buildS (cs:=[.int .u8 1,.string (str ([114,111,119]:List UInt8)),.string (str ([]:List UInt8)),.slice none 0 0,.string (str ([]:List UInt8)),.slice none 0 0,.int .i64 10,.bool false,.int .i64 0]) (ps:=[(0,.agg #[.int .u8 1,.string (str ([114,111,119]:List UInt8)),.string (str ([]:List UInt8)),.slice none 0 0,.string (str ([]:List UInt8)),.slice none 0 0]),(1,.int .i64 10)]) tok81.k rfl tok81 (F.evp rfl) rfl) rfl<|fun a F=>?_
 refine rl_buildSlice1 F M tok49.k tok81 rfl rfl (cs:=[.int .u8 1,.string (str ([114,111,119]:List UInt8)),.string (str ([]:List UInt8)),.slice none 0 0,.string (str ([]:List UInt8)),.slice none 0 0,.int .i64 10,.bool false,.int .i64 0]) rfl rfl (by simp [Value.oneCell']) (by decide) rfl ?_;clear F M a;intro v5 w a M F
 obtain ⟨av5,cv5,rfl,hlev5,hcmv5,hlv5⟩:=M.row_shape (k:=0) rfl
 have Ek:Els rdKind 9 G [.int .u8 1,.string (str ([114,111,119]:List UInt8)),.string (str ([]:List UInt8)),.slice none 0 0,.string (str ([]:List UInt8)),.slice none 0 0,.int .i64 10,.bool false,.int .i64 0] c3.kinds:=Els.one ⟨[.int .u8 1,.string (str ([114,111,119]:List UInt8)),.string (str ([]:List UInt8)),.slice none 0 0,.string (str ([]:List UInt8)),.slice none 0 0],rfl,rdT_close (x:=rowP) ⟨by decide,by decide⟩ ⟨by decide,by decide,by decide⟩ RdSl.nil RdSl.nil,⟨by decide,by decide⟩⟩ rfl
 obtain ⟨hnz6,Gz6,az6,cz6,hGz6,hez6,Sz6,M⟩:=M.freeze_row mono_rdKind (k:=0) rfl Ek (by decide)
 clear hez6 az6 cz6
 revert a
 refine e_run (fun a F=>run_buildS (cs:=[.slice (av5) 1 (cv5),.int .i64 1]) (ps:=[(0,.slice (av5) 1 (cv5)),(1,.int .i64 1)]) tok51.k rfl tok51 (F.evp rfl) rfl) rfl<|s_al M tok51 rfl rfl<|?_;clear M;intro b7 w M
 intro a F
 refine rl_storeA F M tok51 (k:=0) rfl rfl rfl (us:=[.slice (av5) 1 (cv5),.int .i64 1]) rfl rfl (by simp [Value.oneCell']) (by simp) ?_;clear F M a;intro w a M F
 change Mem w0 Gz6 (.blk b7 [.slice (av5) 1 (cv5),.int .i64 1] 51::_::_::L) _ at M
 revert a
 refine e_nil<|e_tn<|e_seq<|e_reg<|e_run (fun a F=>run_loadA tok51 rfl (F.ev rfl) (cs:=[.slice (av5) 1 (cv5),.int .i64 1]) rfl (M.cellsL (k:=0) rfl rfl)) rfl<|e_run (fun a F=>run_buildS (cs:=[.slice none 0 0]) (ps:=[]) tok54.k rfl tok54 (F.evp rfl) rfl) rfl<|e_run (fun a F=>run_buildS (cs:=[.int .u64 1,.int .u8 0,.string (str ([]:List UInt8)),.slice none 0 0]) (ps:=[(0,.int .u64 1)]) tok26.k rfl tok26 (F.evp rfl) rfl) rfl<|e_run (fun a F=>run_buildS (cs:=[.int .u64 2,.int .u8 0,.string (str ([]:List UInt8)),.slice none 0 0]) (ps:=[(0,.int .u64 2)]) tok26.k rfl tok26 (F.evp rfl) rfl) rfl<|e_run (fun a F=>run_buildS (cs:=[.int .u64 3,.int .u8 0,.string (str ([]:List UInt8)),.slice none 0 0]) (ps:=[(0,.int .u64 3)]) tok26.k rfl tok26 (F.evp rfl) rfl) rfl<|fun a F=>?_
 refine rl_buildSliceN F M tok22.k tok26 (ps:=[(0,.agg #[.int .u64 1,.int .u8 0,.string (str ([]:List UInt8)),.slice none 0 0]),(1,.agg #[.int .u64 2,.int .u8 0,.string (str ([]:List UInt8)),.slice none 0 0]),(2,.agg #[.int .u64 3,.int .u8 0,.string (str ([]:List UInt8)),.slice none 0 0])]) (cs:=[[.int .u64 1,.int .u8 0,.string (str ([]:List UInt8)),.slice none 0 0],[.int .u64 2,.int .u8 0,.string (str ([]:List UInt8)),.slice none 0 0],[.int .u64 3,.int .u8 0,.string (str ([]:List UInt8)),.slice none 0 0]]) (fl:=[.int .u64 1,.int .u8 0,.string (str ([]:List UInt8)),.slice none 0 0,.int .u64 2,.int .u8 0,.string (str ([]:List UInt8)),.slice none 0 0,.int .u64 3,.int .u8 0,.string (str ([]:List UInt8)),.slice none 0 0]) rfl rfl (by simp [Parts,Value.cells]) (by simp [ti26]) rfl (by simp [Value.oneCell']) (by decide) (by decide) rfl ?_;clear F M a;intro v9 w a M F
 obtain ⟨av9,cv9,rfl,hlev9,hcmv9,hlv9⟩:=M.row_shape (k:=0) rfl
 have Ei:Els rdItem 4 Gz6 [.int .u64 1,.int .u8 0,.string (str ([]:List UInt8)),.slice none 0 0,.int .u64 2,.int .u8 0,.string (str ([]:List UInt8)),.slice none 0 0,.int .u64 3,.int .u8 0,.string (str ([]:List UInt8)),.slice none 0 0] [it3 1,it3 2,it3 3]:=⟨[.int .u64 1,.int .u8 0,.string (str []),.slice none 0 0],_,rfl,rfl,⟨none,0,rfl,by decide,by decide,by decide,by decide,RdSl.nil⟩,⟨[.int .u64 2,.int .u8 0,.string (str []),.slice none 0 0],_,rfl,rfl,⟨none,0,rfl,by decide,by decide,by decide,by decide,RdSl.nil⟩,⟨[.int .u64 3,.int .u8 0,.string (str []),.slice none 0 0],_,rfl,rfl,⟨none,0,rfl,by decide,by decide,by decide,by decide,RdSl.nil⟩,rfl⟩⟩⟩
 obtain ⟨hnz10,Gz10,az10,cz10,hGz10,hez10,Sz10,M⟩:=M.freeze_row mono_rdItem (k:=0) rfl Ei (by decide)
 clear hez10 az10 cz10
 replace Sz6:=Sz6.mono mono_rdKind hGz10
 refine rl_callM F ent92 rfl rfl (lreset3 M Sz6 Sz10) ?_;clear F M a;rintro _ Gq11 _ w a hGq11 M ⟨aoq11,csq11,Loq11,rfl,rfl,Eoq11⟩ F
 replace Sz6:=Sz6.mono mono_rdKind hGq11
 replace Sz10:=Sz10.mono mono_rdItem hGq11
 have M:=M.perm (perm_mid (OWNR aoq11 ((l3,(0:Int))).1.length csq11::Loq11) [.blk b7 [.slice (av5) 1 (cv5),.int .i64 1] 51,.blk b3 [.slice none 0 0] 54,.blk b1 [.slice none 0 0,.int .i64 0] 51] L)
 change Mem w0 Gq11 (.blk b7 [.slice (av5) 1 (cv5),.int .i64 1] 51::.blk b3 [.slice none 0 0] 54::.blk b1 [.slice none 0 0,.int .i64 0] 51::((OWNR aoq11 ((l3,(0:Int))).1.length csq11::Loq11)++L)) _ at M
 revert a
 refine s_mv rfl<|s_ex rfl rfl<|s_ex rfl rfl<|s_al M tok54 rfl rfl<|?_;clear M;intro b12 w M
 intro a F
 refine rl_storeA F M tok54 (k:=0) rfl rfl rfl (us:=[.slice (aoq11) (((l3,(0:Int))).1.length) (((l3,(0:Int))).1.length)]) rfl rfl (by simp [Value.oneCell']) (by simp) ?_;clear F M a;intro w a M F
 change Mem w0 Gq11 (.blk b12 [.slice (aoq11) (((l3,(0:Int))).1.length) (((l3,(0:Int))).1.length)] 54::.blk b7 [.slice (av5) 1 (cv5),.int .i64 1] 51::_::_::((OWNR aoq11 ((l3,(0:Int))).1.length csq11::Loq11)++L)) _ at M
 revert a
 refine s_as rfl<|e_nil<|e_tn<|e_seq<|?_
 obtain ⟨Ggq11,hGgq11,M,Sgq11⟩:=own_give (M.perm (perm_mid [.blk b12 [.slice (aoq11) (((l3,(0:Int))).1.length) (((l3,(0:Int))).1.length)] 54,.blk b7 [.slice (av5) 1 (cv5),.int .i64 1] 51,.blk b3 [.slice none 0 0] 54,.blk b1 [.slice none 0 0,.int .i64 0] 51] (OWNR aoq11 ((l3,(0:Int))).1.length csq11::Loq11) L)) Eoq11
 replace Sz6:=Sz6.mono mono_rdKind hGgq11
 replace Sz10:=Sz10.mono mono_rdItem hGgq11
 change Mem w0 Ggq11 (.blk b12 [.slice (aoq11) ((l3,(0:Int)).1.length) ((l3,(0:Int)).1.length)] 54::.blk b7 [.slice (av5) 1 (cv5),.int .i64 1] 51::.blk b3 [.slice none 0 0] 54::.blk b1 [.slice none 0 0,.int .i64 0] 51::L) _ at M
 intro a F
 refine w_plan [(true,0),(true,1),(false,2),(false,3)] (Keep Ggq11 [.blk b12 [.slice (aoq11) ((l3,(0:Int)).1.length) ((l3,(0:Int)).1.length)] 54,.blk b7 [.slice (av5) 1 (cv5),.int .i64 1] 51]) rfl (by kernel_rfl) (fun c a d v w h=>by cases d <;> exact h) ((M.drew _).keep (Gle.refl _) (by simp)) ?_
 replace M:=M.drew (w.drawn+1)
 revert a
 refine l_r (fun a F w M=>run_loadA tok51 rfl (F.ev rfl) (cs:=[.slice (av5) 1 (cv5),.int .i64 1]) rfl (M.cellsL (k:=1) rfl rfl)) rfl<|l_r (fun a F w M=>run_loadA tok54 rfl (F.ev rfl) (cs:=[.slice (aoq11) ((l3,(0:Int)).1.length) ((l3,(0:Int)).1.length)]) rfl (M.cellsL (k:=0) rfl rfl)) rfl<|l_a rfl<|fun a F=>?_
 refine rl_storeA F M tok51 (k:=3) rfl rfl rfl (us:=[.slice (av5) 1 (cv5),.int .i64 1]) rfl rfl (by simp [Value.oneCell']) (by simp) ?_;clear F M a;intro w a M F
 change Mem w0 Ggq11 (_::.blk b7 [.slice (av5) 1 (cv5),.int .i64 1] 51::_::.blk b1 [.slice (av5) 1 (cv5),.int .i64 1] 51::L) _ at M
 revert a
 refine e_nil<|eK (C':=Keep Ggq11 [.blk b12 [.slice (aoq11) ((l3,(0:Int)).1.length) ((l3,(0:Int)).1.length)] 54,.blk b7 [.slice (av5) 1 (cv5),.int .i64 1] 51]) (M.keep (Gle.refl _) (by simp)) (fun w h=>h.mono (Gle.refl _) (by simp))<|l_a rfl<|fun a F=>?_
 refine rl_storeA F M tok54 (k:=2) rfl rfl rfl (us:=[.slice (aoq11) ((l3,(0:Int)).1.length) ((l3,(0:Int)).1.length)]) rfl rfl (by simp [Value.oneCell']) (by simp) ?_;clear F M a;intro w a M F
 change Mem w0 Ggq11 (_::.blk b7 [.slice (av5) 1 (cv5),.int .i64 1] 51::.blk b3 [.slice (aoq11) ((l3,(0:Int)).1.length) ((l3,(0:Int)).1.length)] 54::.blk b1 [.slice (av5) 1 (cv5),.int .i64 1] 51::L) _ at M
 revert a
 refine e_nil<|eK (C':=Keep Ggq11 [.blk b12 [.slice (aoq11) ((l3,(0:Int)).1.length) ((l3,(0:Int)).1.length)] 54,.blk b7 [.slice (av5) 1 (cv5),.int .i64 1] 51]) (M.keep (Gle.refl _) (by simp)) (fun w h=>h.mono (Gle.refl _) (by simp))<|l_nil<|e_tn<|e_ret<|fun a F=>fin_aa F M (k1:=3) (k2:=2) rfl rfl rfl tok51 tok54 rfl rfl rfl rfl rfl rfl ?_
 exact ⟨_,(((hGz6.trans hGz10).trans hGq11).trans hGgq11),M.weaken (.cons _ (.cons _ (.cons _ (.cons _ (List.Sublist.refl _))))),_,_,_,_,rfl,Sz6,Sgq11⟩
end Go.Proofs.YtmmhmcplegpenaaGreatDoor
