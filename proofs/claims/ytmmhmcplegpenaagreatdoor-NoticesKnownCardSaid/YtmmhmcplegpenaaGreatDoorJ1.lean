/- Own lemmas and walks. -/
import Derived.Test.YtmmhmcplegpenaaGreatDoorRows
import Derived.Test.YtmmhmcplegpenaaGreatDoorYC
import Derived.Test.YtmmhmcplegpenaaGreatDoorTie
import Derived.Test.YtmmhmcplegpenaaGreatDoorYB
import Derived.LaidMore
import Derived.Lay
import Derived.OpenShut
import Derived.Stop.Joined
import Derived.Laws.RangeAny
import Derived.Laws.RangeString
import Derived.Shelf.GgClosure.StringsIndexFunc
import Derived.Shelf.Strings.Builder1
import Derived.Shelf.Strings.OnBuilder
import Derived.Shelf.Strconv.Itoa0
import Derived.Shelf.Strconv.Itoa1
import Derived.Shelf.LaysM
import Derived.Shelf.Strconv.Itoa2
import Derived.Shelf.Strconv.Itoa3
import Derived.Ground.MpProg
import Derived.Shelf.Pu.ParseUintPublic10
import Derived.Shelf.Strings.Search1
import Derived.Shelf.Strings.Search2
import Derived.Shelf.Strings.Cut
import Derived.Ground.GgwProg
import Derived.Shelf.GgClosure.StringsIndexFuncTop
import Derived.Shelf.Strings.Split
import Derived.Shelf.Slices.Equal
import Derived.Test.YtmmhmcplegpenaaGreatDoorProg
set_option linter.unusedSimpArgs false
set_option linter.unusedVariables false
set_option maxRecDepth 10000
set_option maxHeartbeats 1600000
open Go.Value renaming slice→vS,string→vT,int→vI,bool→vB,pointer→vP
open Go.IntKind renaming i64→kI,u64→kU
open Go.Lib renaming cut→xC
open Go.Proofs.Tryz renaming prog→pG
open Go.Y.Res renaming blk→rB,row→rR
open Go.Y (pP qT iI iB iU sN)
open List renaming length_append→lA,length_cons→lC,length_nil→lN,length_take→lT,length_drop→lD,mem_of_getElem?→mG,mem_cons→mC,length_map→lM
namespace Go.Proofs.YtmmhmcplegpenaaGreatDoor
open Go Go.Y Go.Proofs
abbrev ti3:TI:=⟨.int .i64,1,8,iI 0⟩
theorem Cj:TOK pG 3 ti3:=⟨kR,kR,kR⟩
abbrev ti4:TI:=⟨.bool,1,1,vB false⟩
theorem Avw:TOK pG 4 ti4:=⟨kR,kR,kR⟩
abbrev ti5:TI:=⟨.int .u8,1,1,iB 0⟩
theorem Cp:TOK pG 5 ti5:=⟨kR,kR,kR⟩
abbrev ti9:TI:=⟨.str,1,16,vT ⟨#[]⟩⟩
theorem Dg:TOK pG 9 ti9:=⟨kR,kR,kR⟩
abbrev ti22:TI:=⟨.slice 26,1,24,sN⟩
theorem Ci:TOK pG 22 ti22:=⟨kR,kR,kR⟩
abbrev ti23:TI:=⟨.int .u64,1,8,iU 0⟩
theorem Gh:TOK pG 23 ti23:=⟨kR,kR,kR⟩
abbrev ti24:TI:=⟨.slice 9,1,24,sN⟩
theorem Dx:TOK pG 24 ti24:=⟨kR,kR,kR⟩
abbrev ti26:TI:=⟨.struct [(0,1,23),(1,1,5),(2,1,9),(3,1,24)],4,56,.agg #[iU 0,iB 0,vT ⟨#[]⟩,sN]⟩
theorem Bc:TOK pG 26 ti26:=⟨kR,kR,kR⟩
abbrev ti27:TI:=⟨.int .i64,1,8,iI 0⟩
theorem P6:TOK pG 27 ti27:=⟨kR,kR,kR⟩
abbrev ti32:TI:=⟨.slice 5,1,24,sN⟩
theorem Nn:TOK pG 32 ti32:=⟨kR,kR,kR⟩
abbrev ti76:TI:=⟨.slice 189,1,24,sN⟩
theorem Rh:TOK pG 76 ti76:=⟨kR,kR,kR⟩
abbrev ti77:TI:=⟨.slice 79,1,24,sN⟩
theorem T8:TOK pG 77 ti77:=⟨kR,kR,kR⟩
abbrev ti79:TI:=⟨.struct [(0,1,5),(1,1,9),(2,1,9),(3,1,76),(4,1,9),(5,1,77)],6,104,.agg #[iB 0,vT ⟨#[]⟩,vT ⟨#[]⟩,sN,vT ⟨#[]⟩,sN]⟩
theorem E6:TOK pG 79 ti79:=⟨kR,kR,kR⟩
abbrev ti99:TI:=⟨.ptr 101,1,8,vP none⟩
theorem Vm:TOK pG 99 ti99:=⟨kR,kR,kR⟩
abbrev ti101:TI:=⟨.struct [(0,1,99),(1,1,32)],2,32,.agg #[vP none,sN]⟩
theorem Ss:TOK pG 101 ti101:=⟨kR,kR,kR⟩
abbrev ti103:TI:=⟨.iface,1,16,.nilIface⟩
theorem Sr:TOK pG 103 ti103:=⟨kR,kR,kR⟩
abbrev ti174:TI:=⟨.ptr 5,1,8,vP none⟩
theorem Avz:TOK pG 174 ti174:=⟨kR,kR,kR⟩
abbrev ti185:TI:=⟨.map 23 4,1,8,.map none⟩
theorem N1:TOK pG 185 ti185:=⟨kR,kR,kR⟩
abbrev Awd:TI:=⟨.struct [(0,1,9),(1,1,5),(2,1,9)],3,40,.agg #[vT ⟨#[]⟩,iB 0,vT ⟨#[]⟩]⟩
theorem F1:TOK pG 189 Awd:=⟨kR,kR,kR⟩
abbrev ti190:TI:=⟨.slice 282,1,24,sN⟩
theorem Abu:TOK pG 190 ti190:=⟨kR,kR,kR⟩
abbrev ti191:TI:=⟨.slice 193,1,24,sN⟩
theorem D6:TOK pG 191 ti191:=⟨kR,kR,kR⟩
abbrev ti193:TI:=⟨.struct [(0,1,5),(1,1,9),(2,1,9),(3,1,190),(4,1,9),(5,1,191)],6,104,.agg #[iB 0,vT ⟨#[]⟩,vT ⟨#[]⟩,sN,vT ⟨#[]⟩,sN]⟩
theorem A1:TOK pG 193 ti193:=⟨kR,kR,kR⟩
abbrev ti244:TI:=⟨.array 24 5,24,24,.agg #[iB 0,iB 0,iB 0,iB 0,iB 0,iB 0,iB 0,iB 0,iB 0,iB 0,iB 0,iB 0,iB 0,iB 0,iB 0,iB 0,iB 0,iB 0,iB 0,iB 0,iB 0,iB 0,iB 0,iB 0]⟩
theorem Abt:TOK pG 244 ti244:=⟨kR,kR,kR⟩
abbrev ti262:TI:=⟨.struct [(0,4,26)],4,56,.agg #[iU 0,iB 0,vT ⟨#[]⟩,sN]⟩
theorem Ajc:TOK pG 262 ti262:=⟨kR,kR,kR⟩
abbrev Awb:TI:=⟨.struct [(0,1,9),(1,1,9)],2,32,.agg #[vT ⟨#[]⟩,vT ⟨#[]⟩]⟩
theorem Ki:TOK pG 282 Awb:=⟨kR,kR,kR⟩
abbrev ti286:TI:=⟨.func,1,8,.nilFunc⟩
theorem tok286:TOK pG 286 ti286:=⟨kR,kR,kR⟩
abbrev ti297:TI:=⟨.func,1,8,.nilFunc⟩
theorem Ajb:TOK pG 297 ti297:=⟨kR,kR,kR⟩
abbrev ti302:TI:=⟨.array 20 5,20,20,.agg #[iB 0,iB 0,iB 0,iB 0,iB 0,iB 0,iB 0,iB 0,iB 0,iB 0,iB 0,iB 0,iB 0,iB 0,iB 0,iB 0,iB 0,iB 0,iB 0,iB 0]⟩
theorem Abs:TOK pG 302 ti302:=⟨kR,kR,kR⟩
abbrev ti303:TI:=⟨.func,1,8,.nilFunc⟩
theorem Aja:TOK pG 303 ti303:=⟨kR,kR,kR⟩
abbrev ti313:TI:=⟨.array 4 9,4,64,.agg #[vT ⟨#[]⟩,vT ⟨#[]⟩,vT ⟨#[]⟩,vT ⟨#[]⟩]⟩
theorem Abr:TOK pG 313 ti313:=⟨kR,kR,kR⟩
theorem ent11:Ent pG 11:=.mk' Tryz.func11 kR kR
theorem ent12:Ent pG 12:=.mk' Tryz.func12 kR kR
theorem ent13:Ent pG 13:=.mk' Tryz.func13 kR kR
theorem Ahx:Ent pG 14:=.mk' Tryz.func14 kR kR
theorem A1a:Ent pG 15:=.mk' Tryz.func15 kR kR
theorem App:Ent pG 41:=.mk' Tryz.func41 kR kR
theorem A0h:Ent pG 42:=.mk' Tryz.func42 kR kR
theorem ent43:Ent pG 43:=.mk' Tryz.func43 kR kR
theorem ent44:Ent pG 44:=.mk' Tryz.func44 kR kR
theorem ent45:Ent pG 45:=.mk' Tryz.func45 kR kR
theorem ent46:Ent pG 46:=.mk' Tryz.func46 kR kR
theorem ent47:Ent pG 47:=.mk' Tryz.func47 kR kR
theorem ent48:Ent pG 48:=.mk' Tryz.func48 kR kR
theorem ent50:Ent pG 50:=.mk' Tryz.func50 kR kR
theorem ent51:Ent pG 51:=.mk' Tryz.func51 kR kR
theorem ent52:Ent pG 52:=.mk' Tryz.func52 kR kR
theorem ent53:Ent pG 53:=.mk' Tryz.func53 kR kR
theorem ent54:Ent pG 54:=.mk' Tryz.func54 kR kR
theorem ent55:Ent pG 55:=.mk' Tryz.func55 kR kR
theorem Apo:Ent pG 57:=.mk' Tryz.func57 kR kR
theorem A0g:Ent pG 59:=.mk' Tryz.func59 kR kR
theorem Apk:Ent pG 83:=.mk' Tryz.func83 kR kR
theorem Qd:Ent pG 89:=.mk' Tryz.func89 kR kR
theorem ent90:Ent pG 90:=.mk' Tryz.func90 kR kR
theorem ent96:Ent pG 96:=.mk' Tryz.func96 kR kR
theorem ent97:Ent pG 97:=.mk' Tryz.func97 kR kR
theorem ent98:Ent pG 98:=.mk' Tryz.func98 kR kR
theorem ent99:Ent pG 99:=.mk' Tryz.func99 kR kR
theorem X6:Ent pG 100:=.mk' Tryz.func100 kR kR
theorem A1k:Ent pG 101:=.mk' Tryz.func101 kR kR
theorem A1j:Ent pG 102:=.mk' Tryz.func102 kR kR
theorem Alq:Ent pG 103:=.mk' Tryz.func103 kR kR
theorem A1i:Ent pG 104:=.mk' Tryz.func104 kR kR
theorem ent106:Ent pG 106:=.mk' Tryz.func106 kR kR
theorem Aed:Ent pG 107:=.mk' Tryz.func107 kR kR
theorem Ov:Ent pG 108:=.mk' Tryz.func108 kR kR
theorem A1d:Ent pG 130:=.mk' Tryz.func130 kR kR
theorem A1c:Ent pG 133:=.mk' Tryz.func133 kR kR
theorem Aeb:Ent pG 137:=.mk' Tryz.func137 kR kR
theorem ent144:Ent pG 144:=.mk' Tryz.func144 kR kR
theorem A0z:Ent pG 150:=.mk' Tryz.func150 kR kR
theorem Alo:Ent pG 151:=.mk' Tryz.func151 kR kR
theorem ent152:Ent pG 152:=.mk' Tryz.func152 kR kR
theorem A0y:Ent pG 153:=.mk' Tryz.func153 kR kR
theorem A0x:Ent pG 155:=.mk' Tryz.func155 kR kR
theorem ent165:Ent pG 165:=.mk' Tryz.func165 kR kR
theorem A0v:Ent pG 166:=.mk' Tryz.func166 kR kR
theorem ent170:Ent pG 170:=.mk' Tryz.func170 kR kR
theorem ent171:Ent pG 171:=.mk' Tryz.func171 kR kR
theorem ent172:Ent pG 172:=.mk' Tryz.func172 kR kR
theorem X2:Ent pG 184:=.mk' Tryz.func184 kR kR
theorem Ou:Ent pG 185:=.mk' Tryz.func185 kR kR
theorem X1:Ent pG 186:=.mk' Tryz.func186 kR kR
theorem Adz:Ent pG 187:=.mk' Tryz.func187 kR kR
theorem A0t:Ent pG 188:=.mk' Tryz.func188 kR kR
theorem ent189:Ent pG 189:=.mk' Tryz.func189 kR kR
theorem ent191:Ent pG 191:=.mk' Tryz.func191 kR kR
theorem A0s:Ent pG 192:=.mk' Tryz.func192 kR kR
theorem A0r:Ent pG 193:=.mk' Tryz.func193 kR kR
theorem A0q:Ent pG 194:=.mk' Tryz.func194 kR kR
theorem ent211:Ent pG 211:=.mk' Tryz.func211 kR kR
theorem ent212:Ent pG 212:=.mk' Tryz.func212 kR kR
theorem ent213:Ent pG 213:=.mk' Tryz.func213 kR kR
theorem Aln:Ent pG 214:=.mk' Tryz.func214 kR kR
theorem ent215:Ent pG 215:=.mk' Tryz.func215 kR kR
theorem Tw:Ent pG 216:=.mk' Tryz.func216 kR kR
theorem A0p:Ent pG 217:=.mk' Tryz.func217 kR kR
theorem Ady:Ent pG 218:=.mk' Tryz.func218 kR kR
theorem Alm:Ent pG 219:=.mk' Tryz.func219 kR kR
theorem ent220:Ent pG 220:=.mk' Tryz.func220 kR kR
theorem ent221:Ent pG 221:=.mk' Tryz.func221 kR kR
theorem A0o:Ent pG 227:=.mk' Tryz.func227 kR kR
theorem ent228:Ent pG 228:=.mk' Tryz.func228 kR kR
theorem A0n:Ent pG 229:=.mk' Tryz.func229 kR kR
theorem ent230:Ent pG 230:=.mk' Tryz.func230 kR kR
theorem ent231:Ent pG 231:=.mk' Tryz.func231 kR kR
theorem A0m:Ent pG 232:=.mk' Tryz.func232 kR kR
theorem ent233:Ent pG 233:=.mk' Tryz.func233 kR kR
theorem Alk:Ent pG 234:=.mk' Tryz.func234 kR kR
theorem Alj:Ent pG 235:=.mk' Tryz.func235 kR kR
theorem A0l:Ent pG 236:=.mk' Tryz.func236 kR kR
theorem Ali:Ent pG 237:=.mk' Tryz.func237 kR kR
theorem ent238:Ent pG 238:=.mk' Tryz.func238 kR kR
theorem ent239:Ent pG 239:=.mk' Tryz.func239 kR kR
theorem ent241:Ent pG 241:=.mk' Tryz.func241 kR kR
theorem ent242:Ent pG 242:=.mk' Tryz.func242 kR kR
instance:CT pG 3 ti3:=⟨Cj⟩
instance:CT pG 4 ti4:=⟨Avw⟩
instance:CT pG 5 ti5:=⟨Cp⟩
instance:CT pG 9 ti9:=⟨Dg⟩
instance:CT pG 22 ti22:=⟨Ci⟩
instance:CT pG 23 ti23:=⟨Gh⟩
instance:CT pG 24 ti24:=⟨Dx⟩
instance:CT pG 26 ti26:=⟨Bc⟩
instance:CT pG 27 ti27:=⟨P6⟩
instance:CT pG 32 ti32:=⟨Nn⟩
instance:CT pG 76 ti76:=⟨Rh⟩
instance:CT pG 77 ti77:=⟨T8⟩
instance:CT pG 79 ti79:=⟨E6⟩
instance:CT pG 99 ti99:=⟨Vm⟩
instance:CT pG 101 ti101:=⟨Ss⟩
instance:CT pG 103 ti103:=⟨Sr⟩
instance:CT pG 174 ti174:=⟨Avz⟩
instance:CT pG 185 ti185:=⟨N1⟩
instance:CT pG 189 Awd:=⟨F1⟩
instance:CT pG 190 ti190:=⟨Abu⟩
instance:CT pG 191 ti191:=⟨D6⟩
instance:CT pG 193 ti193:=⟨A1⟩
instance:CT pG 244 ti244:=⟨Abt⟩
instance:CT pG 262 ti262:=⟨Ajc⟩
instance:CT pG 282 Awb:=⟨Ki⟩
instance:CT pG 286 ti286:=⟨tok286⟩
instance:CT pG 297 ti297:=⟨Ajb⟩
instance:CT pG 302 ti302:=⟨Abs⟩
instance:CT pG 303 ti303:=⟨Aja⟩
instance:CT pG 313 ti313:=⟨Abr⟩
open Go Go.Y Go.ChangeShapes Go.WideShapes Go.ChangeAt Go.RowKit
set_option maxRecDepth 100000
section
variable {H:Type} {enc:TypeId × Value→H}
theorem Y4 {a:Assume} {C:Checked} {os:Os} {f:FuncId} {fn:Func} {s:ChangeSpec} {S:List PathCond} {A T I O:Bool} {X:World→Array Value→Prop}
  (hX:∀ (w w':World) (args:Array Value),w.heap=w'.heap→X w args→X w' args)
  (own:ownKnob C.prog.godebug=none) (U:os.Started) (Y:C.prog.inits.idxOf? f=none) (ah:C.prog.funcs[f]?=some fn)
  (V:∃ (w:World) (D:Tape) (i:Input),w.os=os∧(w.forCall D i).Shaped C.prog∧i.vars=[]∧Input.okWide C.prog (w.forCall D i) .any w.heap.size f i ∧
   ((s.pre enc C.prog fn S A (w.forCall D i).memory i.args∧X (w.forCall D i).memory i.args)∧sizedMet enc C.prog fn (OpenSpec.ofChange s) A (w.forCall D i).memory i.args)∧a.holds C.prog (lone (Frame.enter C.prog f i.args .normal) [] (w.forCall D i)))
  (N:∀ (W:World) (aa:Nat) (args:Array Value) (ds gs:List (DataW H)) (E:List MemPlace),
   (∀ (j:Nat) t v,fn.params[j]?=some t→args[j]?=some v→Value.okWide C.prog W .any aa t v) →
   DataW.Whole enc C.prog fn.params.toList s.vars A W args.toList ds gs E→W.ShapedOpen C.prog→X W args →
   Calls C.prog f args W fun e W'=>∃ v,e=.returned v∧s.post enc C.prog fn A T I O W args v W') :
  ReturnsInHanded a C os f .any (fun w args=>(s.pre enc C.prog fn S A w args∧X w args)∧sizedMet enc C.prog fn (OpenSpec.ofChange s) A w args) (s.post enc C.prog fn A T I O):=by
 refine returnsInHanded_of_calls own U Y V ?_;intro w D i _ aj _ ai ac _;obtain ⟨_,_,_,ag,ab,_,_,_,_,ae⟩:=ai;have e:ag = fn:=Option.some.inj (ab.symm.trans ah);subst e;obtain ⟨⟨⟨ds,gs,E,hw,_⟩,hx⟩,_⟩:=ac;have ak:=DataW.Whole.of_heap (w':=w.forCall D i) (by rfl) hw;refine (N (w.forCall D i) w.heap.size i.args ds gs E ae ak aj (hX _ _ _ (by rfl) hx)).mono fun e W' ⟨v,he,hp⟩=>?_;subst he
 exact ChangeSpec.post_blind hp
end
abbrev Ahf:List (String × DataW Unit):=[("math/bits.deBruijn32tab",Rows.laid_math_bits_deBruijn32tab),("math/bits.deBruijn64tab",Rows.laid_math_bits_deBruijn64tab),("internal/strconv.uint64pow10",Rows.laid_internal_strconv_uint64pow10),("unicode/utf8.acceptRanges",Rows.laid_unicode_utf8_acceptRanges),("strconv.ErrRange",Rows.laid_strconv_ErrRange),("strconv.ErrSyntax",Rows.laid_strconv_ErrSyntax),("unicode/utf8.first",Rows.laid_unicode_utf8_first)]
theorem own:ownKnob Tryz.prog.godebug=none:=by kernel_rfl
theorem gTab:Tryz.prog.globalNamed "internal/strconv.uint64pow10" = some 0:=by kernel_rfl
theorem gSyn:Tryz.prog.globalNamed "strconv.ErrSyntax" = some 2:=by kernel_rfl
theorem gRng:Tryz.prog.globalNamed "strconv.ErrRange" = some 3:=by kernel_rfl
theorem tTab:((Tryz.prog.globals[0]?).map (·.type)).map (tk pG)=some (.array 20 23):=by kernel_rfl
theorem tSyn:((Tryz.prog.globals[2]?).map (·.type)).map (tk pG)=some .iface:=by kernel_rfl
theorem tRng:((Tryz.prog.globals[3]?).map (·.type)).map (tk pG)=some .iface:=by kernel_rfl
theorem nTab:((Tryz.prog.globals[0]?).map (·.type)).map Tryz.prog.cellsOf=some 20:=by kernel_rfl
theorem c27:Tryz.prog.cellsOf 23=1:=by kernel_rfl
theorem shMax:((begin pG (fun _ _=>0) default).world.heap[1]?).bind Obj.row?=some (#[iI 0],3):=by kernel_rfl
theorem szG:decide (1 < Tryz.prog.globals.size)=true:=by kernel_rfl
theorem bMax:Tryz.prog.buildable 3=true:=by kernel_rfl
theorem tyMax:Tryz.prog.cellTypes Tryz.prog.depth 3=some [3]:=by kernel_rfl
theorem Uq {P:Program} {ty:TypeId} (A:tk P ty=.iface):∃ D,P.underlying ty=some (.interface D):=by
 unfold tk at A
 split at A <;> simp_all
theorem Avs {P:Program} {W:World} {n:String} {g:Nat} {cs:Array Value} (D:P.globalNamed n=some g) (h:W.var? P n=some cs):∃ t f,W.heap[g]?=some (.cells cs t f):=by
 simp only [World.var?,D,Option.bind_some] at h
 split at h
 ·rename_i A t f E
  simp only [Option.some.injEq] at h;subst h
  exact ⟨t,f,E⟩
 cases h
theorem tabData:(Rows.laid_internal_strconv_uint64pow10:DataW Unit)=.agg (Lib.pow10Tab.map fun z=>.lit (.int .u64 z)):=by kernel_rfl
theorem Aqj {W:World} {t A:Nat} {cs:List Value} {p:List MemPlace} (ht:tk pG t=.array 20 23) (hn:Tryz.prog.cellsOf t=20)
  (h:DataW.trod (fun _=>()) pG W 0 (fun _=>true) false A t cs=some (Rows.laid_internal_strconv_uint64pow10,p)):cs=Lib.pow10Tab.map fun z=>Value.int .u64 z:=by
 obtain ⟨xs,m,_,S,H,aa,O⟩:=DataW.trod_array (F7 ht) h;rw [tabData] at S;simp only [Prod.mk.injEq,DataW.agg.injEq] at S;have T:=S.1;rw [hn] at H;have hp:=Lib.pow10Tab_length
 apply List.ext_getElem?
 intro i
 rcases Nat.lt_or_ge i 20 with V | V
 ·have I:=O i V;rw [c27,Nat.mul_one] at I;have E:i < xs.length:=by omega
  have D:i < Lib.pow10Tab.length:=by omega
  rw [List.getElem?_eq_getElem E] at I;obtain ⟨k,Y,e2,_⟩:=DataW.trod_int (Be Gh.k) I;have N:(xs.map (·.1))[i]?=some (.lit (.int .u64 k)):=by rw [List.getElem?_map,List.getElem?_eq_getElem E,e2];rfl
  rw [← T,List.getElem?_map,List.getElem?_eq_getElem D] at N;simp only [Option.map_some,Option.some.injEq,DataW.lit.injEq,Lit.int.injEq,true_and] at N;have h3:cs[i]?=some (iU k):=by
   have U:((cs.drop i).take 1)[0]?=some (iU k):=by rw [Y];rfl
   rw [List.getElem?_take,if_pos tM,List.getElem?_drop] at U
   simpa using U
  rw [h3,List.getElem?_map,List.getElem?_eq_getElem D,← N]
  rfl
 rw [List.getElem?_eq_none tM,List.getElem?_eq_none (by rw [lM];omega)]
theorem Azt {W:World} (h:laidMetH pG Ahf W) (hs:W.ShapedOpen pG):Globs 0 1 2 3 (G0 W):=by
 rw [MakeChecks.laidMetH_plain _ _ _ kR] at h;obtain ⟨ps,⟨_,_,_,_,_,_,_,_,_,_,⟨_,_,_,_,_,_,_,_,_,_,⟨g2,t2,ag,f2,p2,q2,D,V,ab,O,⟨_,_,_,_,_,_,_,_,_,_,⟨g3,t3,ah,f3,p3,q3,E,Y,ac,S,⟨g4,t4,ai,f4,p4,q4,H,aa,ae,T,_⟩,_⟩,_⟩,_⟩,_⟩,_⟩,_⟩:=h;obtain rfl:=Option.some.inj (gTab.symm.trans D);obtain rfl:=Option.some.inj (gRng.symm.trans E);obtain rfl:=Option.some.inj (gSyn.symm.trans H);have k2:=tTab;have n2:=nTab;have k3:=tRng;have k4:=tSyn;rw [V] at k2 n2;rw [Y] at k3;rw [aa] at k4;simp only [Option.map_some,Option.some.injEq] at k2 n2 k3 k4;refine ⟨?_,?_,?_,?_⟩
 ·obtain ⟨t,f,hh⟩:=Avs D ab;have:=Aqj k2 n2 O;refine ⟨t,f,?_⟩
  show W.heap[0]?=_
  rw [hh,← this]
 ·obtain ⟨cs,h1,h2,h3⟩:=hs.1 1 _ _ (dT szG) shMax;obtain ⟨ts,N,_,e3⟩:=h3 bMax;rw [tyMax] at N;simp only [Option.some.injEq] at N;subst N;have hz:0 < cs.size:=by rw [h2];exact Nat.one_pos
  obtain ⟨v,h0⟩:∃ v,cs[0]?=some v:=⟨_,Array.getElem?_eq_getElem hz⟩;obtain ⟨u,e4,I⟩:=e3 0 v h0
  simp at e4
  subst e4;have A:Ic (G0 W) 1 0=some v:=by
   rw [Xt]
   simp [World.cell?,h1,h0]
  unfold Cell.ok at I;rw [Be Cj.k] at I;rw [A]
  cases v <;> simp at I
  obtain ⟨rfl,_⟩:=I
  exact ⟨_,rfl⟩
 ·obtain ⟨ms,U⟩:=Uq k4;obtain ⟨_,u,v,A,_⟩:=iface_of_trod U T;refine ⟨.iface u v,?_,Or.inr ⟨_,_,rfl⟩⟩;rw [Xt];have:=World.var?_cell H ae 0;rw [Array.eq_one_of_toList A] at this
  simpa using this
 obtain ⟨ms,U⟩:=Uq k3;obtain ⟨_,u,v,A,_⟩:=iface_of_trod U S;refine ⟨.iface u v,?_,Or.inr ⟨_,_,rfl⟩⟩;rw [Xt];have:=World.var?_cell E ac 0;rw [Array.eq_one_of_toList A] at this
 simpa using this
end Go.Proofs.YtmmhmcplegpenaaGreatDoor
namespace Go.Proofs.YtmmhmcplegpenaaGreatDoor.T
open Go Go.Y
structure AttrD where
 n:List UInt8
 v:List UInt8
def Fa:Rd AttrD:=fun _ cs x=>cs=[qT x.n,qT x.v]∧x.n.length≤9223372036854775807∧x.v.length≤9223372036854775807
theorem Dy:Hx Fa:=fun _ _ _ _ _ h=>h
structure SlotD where
 n:List UInt8
 src:Int
 v:List UInt8
def rdSlot:Rd SlotD:=fun _ cs x=>cs=[qT x.n,iB x.src,qT x.v]∧x.n.length≤9223372036854775807∧Al .u8 x.src∧x.v.length≤9223372036854775807
theorem mono_rdSlot:Hx rdSlot:=fun _ _ _ _ _ h=>h
abbrev NT:=Tr AttrD
abbrev PT:=Tr SlotD
abbrev rdN:Rd NT:=rdT Fa 2
abbrev rdP:Rd PT:=rdT rdSlot 3
theorem Ff:Hx rdN:=Agv Dy
theorem mono_rdP:Hx rdP:=Agv mono_rdSlot
def Dl (c:UInt8):Prop:=(97≤nb c∧nb c≤122)∨(48≤nb c∧nb c≤57)
def C2 (s:List UInt8):Prop:=(1≤s.length∧s.length≤16)∧∀ c∈s,Dl c
def J7 (c:UInt8):Prop:=32≤nb c∧nb c≤126
def Str (s:List UInt8):Prop:=s.length≤64∧∀ c∈s,J7 c
theorem Str.nil:Str []:=⟨by simp,by simp⟩
theorem D9 {p:UInt8→Prop} {s:List UInt8} {i:Nat} {c:UInt8} (h:∀ (m:Nat) (b:UInt8),m < i→s[m]?=some b→p b) (E:s[i]?=some c) (H:p c):∀ (m:Nat) (b:UInt8),m < i+1→s[m]?=some b→p b:=by
 intro m b I A
 rcases Nat.lt_or_ge m i with D | D
 ·exact h m b D A
 have:m=i:=by omega
 subst this;rw [E] at A;simp only [Option.some.injEq] at A;subst A;exact H
theorem E3 {p:UInt8→Prop} {s:List UInt8} {i:Nat} (h:∀ (m:Nat) (b:UInt8),m < i→s[m]?=some b→p b) (E:s.length≤i):∀ c∈s,p c:=by
 intro c D;obtain ⟨m,A⟩:=List.mem_iff_getElem?.1 D
 exact h m c (by have:=A3 A;omega) A
theorem He {p:UInt8→Prop} {s:List UInt8} {i:Nat} {c:UInt8} (A:s[i]?=some c) (D:¬ p c):¬ ∀ c∈s,p c:=fun h=>D (h c (mG A))
def Jg (r:Nat):Bool:=decide ((r:Int) < 32) || decide (126 < (r:Int))
theorem Apa (l:List UInt8):∀ (f pos:Nat),l.length≤pos+f→(Lib.idxFuncFrom Jg true (str l) f pos < 0↔∀ (m:Nat) (b:UInt8),pos≤m→l[m]?=some b→J7 b)
 | 0,pos,h=>by
  have:Lib.idxFuncFrom Jg true (str l) 0 pos = -1:=rfl;rw [this];refine ⟨fun _ m b hm hb=>?_,fun _=>by decide⟩;have:=A3 hb;omega
 | f+1,pos,h=>by
  unfold Lib.idxFuncFrom
  by_cases hp:pos < (str l).size
  ·rw [if_pos hp];have hl:pos < l.length:=by rw [Cl] at hp;exact hp
   have hb:l[pos]?=some ((str l)[pos]'hp):=by rw [← Abx,getElem?_pos (str l) pos hp]
   generalize hB:(str l)[pos]'hp=B at hb
   by_cases ha:B.toNat < 128
   ·have hd:=decode_ascii (str l) pos hp (by rw [hB];exact ha);rw [hB] at hd;rw [hd]
    by_cases hg:J7 B
    ·have hbad:Jg B.toNat=false:=by
      obtain ⟨h1,h2⟩:=hg;simp only [nb] at h1 h2;simp only [Jg,Bool.or_eq_false_iff,decide_eq_false_iff_not]
      omega
     simp only [hbad,Bool.false_eq_true,if_false];rw [Apa l f (pos+1) tM]
     constructor
     ·intro h1 m b hm hb'
      rcases Nat.eq_or_lt_of_le hm with e | e
      ·subst e;rw [hb] at hb';simp only [Option.some.injEq] at hb';subst hb';exact hg
      ·exact h1 m b tM hb'
     ·exact fun h1 m b hm hb'=>h1 m b tM hb'
    ·have hbad:Jg B.toNat=true:=by
      simp only [J7,nb] at hg;simp only [Jg,Bool.or_eq_true,decide_eq_true_eq]
      omega
     simp only [hbad,if_true];refine ⟨fun h1=>by omega,fun h1=>absurd (h1 pos B (Nat.le_refl _) hb) hg⟩
   ·have hd:=(decode_high (str l) pos hp (by rw [hB];omega)).1;have hbad:Jg (Utf8.decode (str l) pos).1=true:=by
     simp only [Jg,Bool.or_eq_true,decide_eq_true_eq]
     omega
    simp only [hbad,if_true];refine ⟨fun h1=>by omega,fun h1=>?_⟩;have:=(h1 pos B (Nat.le_refl _) hb).2;simp only [nb] at this;omega
  ·rw [if_neg hp];refine ⟨fun _ m b hm hb=>?_,fun _=>by decide⟩;have:=A3 hb;rw [Cl] at hp;omega
theorem Adu (l:List UInt8):Lib.idxFunc Jg true (str l) < 0↔∀ c∈l,J7 c:=by
 unfold Lib.idxFunc;rw [Apa l _ 0 (by rw [Cl];omega)]
 constructor
 ·intro h c D;obtain ⟨m,E⟩:=List.mem_iff_getElem?.1 D
  exact h m c (Nat.zero_le _) E
 exact fun h m b _ A=>h b (mG A)
theorem T1:∀ l:List UInt8,Op.bytesLess l l=false
 | []=>rfl
 | a::l=>by simp [Op.bytesLess,T1 l]
theorem Yj:∀ {a b c:List UInt8},Op.bytesLess a b=true→Op.bytesLess b c=true→Op.bytesLess a c=true
 | [],[],_,h,_=>by simp [Op.bytesLess] at h
 | [],_::_,[],_,h=>by simp [Op.bytesLess] at h
 | [],_::_,_::_,_,_=>by simp [Op.bytesLess]
 | _::_,[],_,h,_=>by simp [Op.bytesLess] at h
 | _::_,_::_,[],_,h=>by simp [Op.bytesLess] at h
 | x::a,y::b,z::c,h1,h2=>by
  simp only [Op.bytesLess,Bool.or_eq_true,Bool.and_eq_true,decide_eq_true_eq,beq_iff_eq] at h1 h2 ⊢
  rcases h1 with h1 | ⟨rfl,h1⟩
  ·rcases h2 with h2 | ⟨rfl,h2⟩
   ·exact Or.inl (UInt8.lt_trans h1 h2)
   ·exact Or.inl h1
  ·rcases h2 with h2 | ⟨rfl,h2⟩
   ·exact Or.inl h2
   ·exact Or.inr ⟨rfl,Yj h1 h2⟩
theorem Ail:∀ (a b:List UInt8),Op.bytesLess a b=true∨a=b∨Op.bytesLess b a=true
 | [],[]=>Or.inr (Or.inl rfl)
 | [],_::_=>Or.inl rfl
 | _::_,[]=>Or.inr (Or.inr rfl)
 | x::a,y::b=>by
  simp only [Op.bytesLess,Bool.or_eq_true,Bool.and_eq_true,decide_eq_true_eq,beq_iff_eq,List.cons.injEq]
  rcases UInt8.lt_or_lt_of_ne (a:=x) (b:=y) |> fun f=>(Decidable.em (x=y)).symm.imp f id with h | h
  ·rcases h with h | h
   ·exact Or.inl (Or.inl h)
   ·exact Or.inr (Or.inr (Or.inl h))
  ·subst h
   rcases Ail a b with h | h | h
   ·exact Or.inl (Or.inr ⟨rfl,h⟩)
   ·exact Or.inr (Or.inl ⟨rfl,h⟩)
   ·exact Or.inr (Or.inr (Or.inr ⟨rfl,h⟩))
theorem Gp {a b:List UInt8}:(Op.bytesLess a b || a==b)=true↔¬ Op.bytesLess b a=true:=by
 constructor
 ·intro h D;simp only [Bool.or_eq_true,beq_iff_eq] at h
  rcases h with h | rfl
  ·have:=Yj h D;rw [T1] at this;cases this
  rw [T1] at D;cases D
 intro h;simp only [Bool.or_eq_true,beq_iff_eq]
 rcases Ail a b with A | A | A
 ·exact Or.inl A
 ·exact Or.inr A
 exact absurd A h
def I3 (l:List AttrD):Prop:=∀ (i:Nat) (x:AttrD),l[i]?=some x→(C2 x.n∧Str x.v)∧∀ y,0 < i→l[i - 1]?=some y→Op.bytesLess y.n x.n=true
def Ra (l:List NT):Prop:=∀ (i j:Nat) (a b:NT),i < j→l[i]?=some a→l[j]?=some b→b.key≠[]→a.key≠b.key
def I4 (x:NT):Prop:=(x.kind=2∧Str x.text∧x.tag=[]∧x.key=[]∧x.as.length=0∧x.kids.length=0) ∨
 (¬ x.kind=2∧x.kind=1∧C2 x.tag∧(x.key=[]∨C2 x.key)∧x.text=[]∧x.as.length≤8∧x.kids.length≤16∧I3 x.as∧Ra x.kids)
def I1 (x:NT):Prop:=Tr.Ok I4 6 x∧x.size≤64
open Classical in
noncomputable def cntF (x:NT):Nat:=if I1 x then x.size else 0
theorem Oz {x:NT}:0 < cntF x↔I1 x:=by
 unfold cntF
 split
 ·rename_i h;exact ⟨fun _=>h,fun _=>Tr.size_pos x⟩
 rename_i h;exact ⟨fun A=>by omega,fun A=>absurd A h⟩
theorem I3.all {l:List AttrD} (h:I3 l):∀ (i k:Nat) (x y:AttrD),k < i→l[i]?=some x→l[k]?=some y→Op.bytesLess y.n x.n=true:=by
 intro i
 induction i with
 | zero=>intro k x y I;omega
 | succ i ih =>
  intro k x y I H A;obtain ⟨z,D⟩:=Aq (xs:=l) (i:=i) (by have:=A3 H;omega);have E:=(h (i+1) x H).2 z tM D
  rcases Nat.eq_or_lt_of_le (show k≤i by omega) with e | e
  ·subst e;rw [D] at A;simp only [Option.some.injEq] at A;subst A;exact E
  ·exact Yj (ih k z y e D A) E
def I2 (l:List AttrD) (i:Nat):Prop:=∀ (m:Nat) (x:AttrD),m < i→l[m]?=some x→(C2 x.n∧Str x.v)∧∀ y,0 < m→l[m - 1]?=some y→Op.bytesLess y.n x.n=true
theorem I2.zero (l:List AttrD):I2 l 0:=fun m x h=>by omega
theorem I2.step {l:List AttrD} {i:Nat} {x:AttrD} (h:I2 l i) (I:l[i]?=some x) (D:C2 x.n) (H:Str x.v) (E:∀ y,0 < i→l[i - 1]?=some y→Op.bytesLess y.n x.n=true):I2 l (i+1):=by
 intro m z N A
 rcases Nat.eq_or_lt_of_le (show m≤i by omega) with e | e
 ·subst e;rw [I] at A;simp only [Option.some.injEq] at A;subst A;exact ⟨⟨D,H⟩,E⟩
 exact h m z e A
theorem I2.all {l:List AttrD} {i:Nat} (h:I2 l i) (D:l.length≤i):I3 l:=fun m x A=>h m x (by have:=A3 A;omega) A
theorem Ig {l:List AttrD} {i:Nat} {x:AttrD} (D:l[i]?=some x) (h:¬ C2 x.n∨¬ Str x.v):¬ I3 l:=fun A=>by
 have:=(A i x D).1
 rcases h with h | h
 ·exact h this.1
 exact h this.2
theorem Py {l:List AttrD} {i k:Nat} {x y:AttrD} (E:l[i]?=some x) (H:l[k]?=some y) (A:k < i) (h:¬ Op.bytesLess y.n x.n=true):¬ I3 l:=fun D=>h (D.all i k x y A E H)
def F3 (l:List NT) (j:Nat):Prop:=∀ (i m:Nat) (a b:NT),i < m→m < j→l[i]?=some a→l[m]?=some b→b.key≠[]→a.key≠b.key
theorem F3.zero (l:List NT):F3 l 0:=fun i m a b A D=>by omega
theorem F3.step {l:List NT} {j:Nat} {x:NT} (h:F3 l j) (N:l[j]?=some x) (A:x.key=[]∨∀ i a,i < j→l[i]?=some a→a.key≠x.key):F3 l (j+1):=by
 intro i m a b E O H D I
 rcases Nat.eq_or_lt_of_le (show m≤j by omega) with e | e
 ·subst e;rw [N] at D;simp only [Option.some.injEq] at D;subst D
  rcases A with A | A
  ·exact absurd A I
  exact A i a E H
 exact h i m a b E e H D I
theorem F3.all {l:List NT} {j:Nat} (h:F3 l j) (H:l.length≤j):Ra l:=fun i m a b D E A=>h i m a b D (by have:=A3 A;omega) E A
theorem Ado {l:List NT} {i j:Nat} {a b:NT} (A:i < j) (D:l[i]?=some a) (E:l[j]?=some b) (I:b.key≠[]) (H:a.key=b.key):¬ Ra l:=fun h=>h i j a b A D E I H
def Aem (l:List NT) (k:List UInt8):Prop:=∃ d∈l,d.key=k
theorem Tp {l:List NT} {j:Nat} {x:NT} (I:l[j]?=some x) (H:x.key≠[]) (h:Aem (l.take j) x.key):¬ Ra l:=by
 obtain ⟨d,D,E⟩:=h;obtain ⟨i,A⟩:=List.mem_iff_getElem?.1 D;rw [List.getElem?_take] at A
 split at A
 ·exact Ado tA A I H E
 cases A
theorem Us {l:List NT} {j:Nat} {x:NT} (h:¬ Aem (l.take j) x.key):∀ i a,i < j→l[i]?=some a→a.key≠x.key:=by
 intro i a D A e
 exact h ⟨a,mG (by rw [List.getElem?_take,if_pos D];exact A),e⟩
def J8 (x:NT):Prop:=x.kind=1∧C2 x.tag∧(x.key=[]∨C2 x.key)∧x.text=[]∧x.as.length≤8∧x.kids.length≤16
theorem Fq {x:NT} (h:x.kind=2):I4 x↔(Str x.text∧x.tag=[]∧x.key=[]∧x.as.length=0∧x.kids.length=0):=by
 unfold I4
 constructor
 ·rintro (⟨_,h⟩ | ⟨A,_⟩)
  ·exact h
  exact absurd h A
 exact fun D=>Or.inl ⟨h,D⟩
theorem Fk {x:NT} (h:¬ x.kind=2):I4 x↔(J8 x∧I3 x.as∧Ra x.kids):=by
 unfold I4 J8
 constructor
 ·rintro (⟨A,_⟩ | ⟨_,a,b,c,d,e,f,g,i⟩)
  ·exact absurd A h
  exact ⟨⟨a,b,c,d,e,f⟩,g,i⟩
 rintro ⟨⟨a,b,c,d,e,f⟩,g,i⟩
 exact Or.inr ⟨h,a,b,c,d,e,f,g,i⟩
theorem Abg {x:NT} (h:I4 x):x.kids.length≤16∧x.as.length≤8:=by
 rcases h with ⟨_,_,_,_,A,D⟩ | ⟨_,_,_,_,_,A,D,_⟩ <;> omega
section
variable {β:Type} {A:Tr β→Prop}
theorem Axm {x:Tr β} {D:Nat} (h:D≤6):Tr.Ok A (7 - D) x↔A x∧∀ c∈x.kids,Tr.Ok A (7 - (D+1)) c:=by
 have e:7 - D=(7 - (D+1))+1:=by omega
 rw [e];exact Iff.rfl
theorem Mi {x:Tr β} {c D:Nat} (h:6 < D∨64 < c+1∨¬ A x):¬ (Tr.Ok A (7 - D) x∧c+x.size≤64):=by
 rintro ⟨E,I⟩;have:=Tr.size_pos x
 rcases h with h | h | h
 ·rw [show 7 - D=0 by omega] at E;exact E
 ·omega
 rcases Nat.lt_or_ge 6 D with H | H
 ·rw [show 7 - D=0 by omega] at E;exact E
 exact h ((Axm H).1 E).1
theorem Zk {x X:Tr β} {i:Nat} (A:x.kids[i]?=some X):Tr.sizes (x.kids.take i)+X.size+1≤x.size:=by
 have D:=Tr.sizes_snoc A;have E:=Tr.sizes_take_le x.kids (i+1);rw [Tr.size_eq x];omega
theorem Um {x X:Tr β} {i c D:Nat} (E:x.kids[i]?=some X) (I:D≤6) (h:¬ (Tr.Ok A (7 - (D+1)) X∧c+1+Tr.sizes (x.kids.take i)+X.size≤64)):¬ (Tr.Ok A (7 - D) x∧c+x.size≤64):=by
 rintro ⟨H,N⟩;have:=Zk E
 exact h ⟨((Axm I).1 H).2 X (mG E),tM⟩
theorem Aha {x:Tr β} {D i:Nat} (O:D≤6) (H:A x) (S:x.kids.length≤i) (I:∀ (m:Nat) (y:Tr β),m < i→x.kids[m]?=some y→Tr.Ok A (7 - (D+1)) y):Tr.Ok A (7 - D) x:=by
 refine (Axm O).2 ⟨H,fun c N=>?_⟩;obtain ⟨m,E⟩:=List.mem_iff_getElem?.1 N
 exact I m c (by have:=A3 E;omega) E
theorem Acy {l:List (Tr β)} {p:Tr β→Prop} {i:Nat} {X:Tr β} (h:∀ (m:Nat) (y:Tr β),m < i→l[m]?=some y→p y) (D:l[i]?=some X) (E:p X):∀ (m:Nat) (y:Tr β),m < i+1→l[m]?=some y→p y:=by
 intro m y H A
 rcases Nat.eq_or_lt_of_le (show m≤i by omega) with e | e
 ·subst e;rw [D] at A;simp only [Option.some.injEq] at A;subst A;exact E
 exact h m y e A
theorem Mv {x:Tr β} {i:Nat} (A:x.kids.length≤i):Tr.sizes (x.kids.take i)+1=x.size:=by rw [List.take_of_length_le A,Tr.size_eq]
theorem Aib {x:Tr β} {i:Nat} (A:x.kids.length≤i):Tr.depths (x.kids.take i)+1=x.depth:=by rw [List.take_of_length_le A,Tr.depth_eq]
structure Cnt (A:Tr β→Prop) (x:Tr β) (lev r:Nat):Prop where
 lo:1≤r
 hi:r≤1000+64 * lev
 ok:r≤64↔(Tr.Ok A lev x∧x.size≤64)
 eq:r≤64→r=x.size
theorem Cnt.bad {x:Tr β} {D:Nat} (h:D < 1∨¬ A x):Cnt A x D 1000:=by
  refine ⟨tM,tM,⟨fun E=>by omega,fun E=>?_⟩,fun E=>by omega⟩
  cases D with
  | zero=>exact E.1.elim
  | succ n => rcases h with h | h
              · omega
              · exact absurd E.1.1 h
structure CntL (A:Tr β→Prop) (x:Tr β) (lev i c:Nat):Prop where
 lo:1≤c
 hi:c≤1000+64 * lev
 good:c≤64→c=1+Tr.sizes (x.kids.take i)∧∀ (m:Nat) (y:Tr β),m < i→x.kids[m]?=some y→Tr.Ok A (lev - 1) y
 bad:64 < c→¬ (Tr.Ok A lev x∧x.size≤64)
theorem CntL.zero {A:Tr β→Prop} (x:Tr β) (D:Nat):CntL A x D 0 1:=⟨tM,tM,fun _=>⟨by simp [Tr.sizes],fun m y h=>by omega⟩,fun h=>by omega⟩
theorem CntL.step {x X:Tr β} {D i c r:Nat} (h:CntL A x D i c) (hl:1≤D) (U:c≤64) (I:x.kids[i]?=some X) (E:Cnt A X (D - 1) r):CntL A x D (i+1) (c+r):=by
 obtain ⟨g1,N⟩:=h.good U;have hs:=Tr.sizes_snoc I;have hk:=Zk I;have Y:=E.lo;have V:=E.hi;refine ⟨tM,tM,fun O=>?_,fun O=>?_⟩
 ·have H:r≤64:=by omega
  exact ⟨by rw [E.eq H];omega,Acy N I (E.ok.1 H).1⟩
 ·rintro ⟨H,h4⟩;have S:Tr.Ok A (D - 1) X:=by
   cases D with
   | zero=>omega
   | succ n=>exact H.2 X (mG I)
  have T:=E.ok.2 ⟨S,tM⟩;have:=E.eq T
  omega
theorem CntL.done {x:Tr β} {D i c:Nat} (h:CntL A x D i c) (Y:1≤D) (T:A x) (V:x.kids.length≤i∨64 < c):Cnt A x D c:=by
 refine ⟨h.lo,h.hi,⟨fun E=>?_,fun E=>?_⟩,fun E=>?_⟩
 ·obtain ⟨O,S⟩:=h.good E;have I:x.kids.length≤i:=by omega
  have:=Mv I;refine ⟨?_,tM⟩
  cases D with
  | zero=>omega
  | succ n =>
   refine ⟨T,fun y U=>?_⟩;obtain ⟨m,N⟩:=List.mem_iff_getElem?.1 U
   exact S m y (by have:=A3 N;omega) N
 ·rcases Nat.lt_or_ge 64 c with H | H
  ·exact absurd E (h.bad H)
  ·exact H
 ·obtain ⟨O,_⟩:=h.good E;have:=Mv (x:=x) (i:=i) tM
  omega
end
open Classical in
noncomputable def Auv (x:NT):Nat:=if I1 x then x.depth else 0
theorem Aig {x:NT} (h:I1 x):cntF x=x.size:=by unfold cntF;rw [if_pos h]
theorem Vg {x:NT} (h:¬ I1 x):cntF x=0:=by unfold cntF;rw [if_neg h]
theorem A1r {x:NT} (h:I1 x):Auv x=x.depth:=by unfold Auv;rw [if_pos h]
theorem depF_no {x:NT} (h:¬ I1 x):Auv x=0:=by unfold Auv;rw [if_neg h]
open Classical in
noncomputable def Yd (x:NT):Int:=if I1 x then 0 else 14
theorem Sh {x:NT} (h:I1 x):Yd x=0:=by unfold Yd;rw [if_pos h]
theorem Apt {x:NT} (h:¬ I1 x):Yd x=14:=by unfold Yd;rw [if_neg h]
theorem Cnt.cntF {x:NT} {r:Nat} (h:Cnt I4 x 6 r):(64 < r→cntF x=0)∧(r≤64→cntF x=r):=by
 refine ⟨fun A=>Vg fun D=>?_,fun A=>?_⟩
 ·have:=h.ok.2 D;omega
 rw [Aig (h.ok.1 A),h.eq A]
end Go.Proofs.YtmmhmcplegpenaaGreatDoor.T
namespace Go.Proofs
open Go.Shelf
def Tryz.lays283_ren:Go.Shelf.Ren:=⟨fun | 283=>170 | n=>n,fun | 3=>3 | 9=>9 | 4=>4 | n=>n,fun | n=>n⟩
theorem Tryz.lays283:Go.Proofs.Lays.n283 pG Tryz.lays283_ren:={
 mixed:=by kernel_rfl
 f283:=Tryz.func170.trans (congrArg some Y.kR)
 t3:=Tryz.underlying3
 a3:=Tryz.isAgg3
 z3:=Tryz.sizeOf3
 v3:=Tryz.zeroValue3
 t4:=Tryz.underlying4
 a4:=Tryz.isAgg4
 z4:=Tryz.sizeOf4
 v4:=Tryz.zeroValue4
 t9:=Tryz.underlying9
 a9:=Tryz.isAgg9
 z9:=Tryz.sizeOf9
 v9:=Tryz.zeroValue9 }
def Tryz.laysM284_ren:Go.Shelf.Ren:=⟨fun | 284=>171 | 129=>198 | 317=>197 | 318=>199 | n=>n,fun | 53=>23 | 3=>3 | 212=>269 | 0=>0 | 4=>4 | 46=>252 | 5=>5 | 9=>9 | n=>n,fun | 17=>0 | n=>n⟩
theorem Tryz.laysM284:Go.Proofs.LaysM.n284 pG Tryz.laysM284_ren:={
 mixed:=by kernel_rfl
 f129:=Tryz.func198.trans (congrArg some Y.kR)
 f284:=Tryz.func171.trans (congrArg some Y.kR)
 f317:=Tryz.func197.trans (congrArg some Y.kR)
 f318:=Tryz.func199.trans (congrArg some Y.kR)
 t0:=Tryz.underlying0
 a0:=Tryz.isAgg0
 z0:=Tryz.sizeOf0
 v0:=Tryz.zeroValue0
 t3:=Tryz.underlying3
 a3:=Tryz.isAgg3
 z3:=Tryz.sizeOf3
 v3:=Tryz.zeroValue3
 t4:=Tryz.underlying4
 a4:=Tryz.isAgg4
 z4:=Tryz.sizeOf4
 v4:=Tryz.zeroValue4
 t5:=Tryz.underlying5
 a5:=Tryz.isAgg5
 z5:=Tryz.sizeOf5
 v5:=Tryz.zeroValue5
 t9:=Tryz.underlying9
 a9:=Tryz.isAgg9
 z9:=Tryz.sizeOf9
 v9:=Tryz.zeroValue9
 t46:=Tryz.underlying252
 a46:=Tryz.isAgg252
 z46:=Tryz.sizeOf252
 v46:=Tryz.zeroValue252
 t53:=Tryz.underlying23
 a53:=Tryz.isAgg23
 z53:=Tryz.sizeOf23
 v53:=Tryz.zeroValue23
 t212:=Tryz.underlying269
 a212:=Tryz.isAgg269
 z212:=Tryz.sizeOf269
 v212:=Tryz.zeroValue269
 g17:=by kernel_rfl
 i0:=by kernel_rfl
 i3:=by kernel_rfl
 i4:=by kernel_rfl
 i5:=by kernel_rfl
 i9:=by kernel_rfl
 i46:=by kernel_rfl
 i53:=by kernel_rfl
 i212:=by kernel_rfl
 m17:=by kernel_rfl }
def Tryz.lays285_ren:Go.Shelf.Ren:=⟨fun | 285=>172 | n=>n,fun | 37=>32 | 53=>23 | 3=>3 | 4=>4 | 51=>270 | 9=>9 | 5=>5 | 0=>0 | n=>n,fun | n=>n⟩
theorem Tryz.lays285:Go.Proofs.Lays.n285 pG Tryz.lays285_ren:={
 mixed:=by kernel_rfl
 f285:=Tryz.func172.trans (congrArg some Y.kR)
 t0:=Tryz.underlying0
 a0:=Tryz.isAgg0
 z0:=Tryz.sizeOf0
 v0:=Tryz.zeroValue0
 t3:=Tryz.underlying3
 a3:=Tryz.isAgg3
 z3:=Tryz.sizeOf3
 v3:=Tryz.zeroValue3
 t4:=Tryz.underlying4
 a4:=Tryz.isAgg4
 z4:=Tryz.sizeOf4
 v4:=Tryz.zeroValue4
 t5:=Tryz.underlying5
 a5:=Tryz.isAgg5
 z5:=Tryz.sizeOf5
 v5:=Tryz.zeroValue5
 t9:=Tryz.underlying9
 a9:=Tryz.isAgg9
 z9:=Tryz.sizeOf9
 v9:=Tryz.zeroValue9
 t37:=Tryz.underlying32
 a37:=Tryz.isAgg32
 z37:=Tryz.sizeOf32
 v37:=Tryz.zeroValue32
 t51:=Tryz.underlying270
 a51:=Tryz.isAgg270
 z51:=Tryz.sizeOf270
 v51:=Tryz.zeroValue270
 t53:=Tryz.underlying23
 a53:=Tryz.isAgg23
 z53:=Tryz.sizeOf23
 v53:=Tryz.zeroValue23 }
def Tryz.laysM246_ren:Go.Shelf.Ren:=⟨fun | 246=>166 | 283=>170 | 284=>171 | 285=>172 | 286=>173 | 129=>198 | 317=>197 | 318=>199 | 319=>200 | 320=>201 | 337=>222 | 338=>223 | n=>n,fun | 2=>2 | 3=>3 | 9=>9 | 4=>4 | 171=>244 | 0=>0 | 53=>23 | 37=>32 | 5=>5 | 173=>247 | 212=>269 | 51=>270 | 20=>20 | 213=>271 | 46=>252 | 232=>307 | 233=>308 | n=>n,fun | 17=>0 | 18=>4 | 19=>5 | n=>n⟩
theorem Tryz.laysM246:Go.Proofs.LaysM.n246 pG Tryz.laysM246_ren:={
 mixed:=by kernel_rfl
 f129:=Tryz.func198.trans (congrArg some Y.kR)
 f246:=Tryz.func166.trans (congrArg some Y.kR)
 f283:=Tryz.func170.trans (congrArg some Y.kR)
 f284:=Tryz.func171.trans (congrArg some Y.kR)
 f285:=Tryz.func172.trans (congrArg some Y.kR)
 f286:=Tryz.func173.trans (congrArg some Y.kR)
 f317:=Tryz.func197.trans (congrArg some Y.kR)
 f318:=Tryz.func199.trans (congrArg some Y.kR)
 f319:=Tryz.func200.trans (congrArg some Y.kR)
 f320:=Tryz.func201.trans (congrArg some Y.kR)
 f337:=Tryz.func222.trans (congrArg some Y.kR)
 f338:=Tryz.func223.trans (congrArg some Y.kR)
 t0:=Tryz.underlying0
 a0:=Tryz.isAgg0
 z0:=Tryz.sizeOf0
 v0:=Tryz.zeroValue0
 t2:=Tryz.underlying2
 a2:=Tryz.isAgg2
 z2:=Tryz.sizeOf2
 v2:=Tryz.zeroValue2
 t3:=Tryz.underlying3
 a3:=Tryz.isAgg3
 z3:=Tryz.sizeOf3
 v3:=Tryz.zeroValue3
 t4:=Tryz.underlying4
 a4:=Tryz.isAgg4
 z4:=Tryz.sizeOf4
 v4:=Tryz.zeroValue4
 t5:=Tryz.underlying5
 a5:=Tryz.isAgg5
 z5:=Tryz.sizeOf5
 v5:=Tryz.zeroValue5
 t9:=Tryz.underlying9
 a9:=Tryz.isAgg9
 z9:=Tryz.sizeOf9
 v9:=Tryz.zeroValue9
 t20:=Tryz.underlying20
 a20:=Tryz.isAgg20
 z20:=Tryz.sizeOf20
 v20:=Tryz.zeroValue20
 t37:=Tryz.underlying32
 a37:=Tryz.isAgg32
 z37:=Tryz.sizeOf32
 v37:=Tryz.zeroValue32
 t46:=Tryz.underlying252
 a46:=Tryz.isAgg252
 z46:=Tryz.sizeOf252
 v46:=Tryz.zeroValue252
 t51:=Tryz.underlying270
 a51:=Tryz.isAgg270
 z51:=Tryz.sizeOf270
 v51:=Tryz.zeroValue270
 t53:=Tryz.underlying23
 a53:=Tryz.isAgg23
 z53:=Tryz.sizeOf23
 v53:=Tryz.zeroValue23
 t171:=Tryz.underlying244
 a171:=Tryz.isAgg244
 z171:=Tryz.sizeOf244
 v171:=Tryz.zeroValue244
 t173:=Tryz.underlying247
 a173:=Tryz.isAgg247
 z173:=Tryz.sizeOf247
 v173:=Tryz.zeroValue247
 t212:=Tryz.underlying269
 a212:=Tryz.isAgg269
 z212:=Tryz.sizeOf269
 v212:=Tryz.zeroValue269
 t213:=Tryz.underlying271
 a213:=Tryz.isAgg271
 z213:=Tryz.sizeOf271
 t232:=Tryz.underlying307
 a232:=Tryz.isAgg307
 z232:=Tryz.sizeOf307
 v232:=Tryz.zeroValue307
 t233:=Tryz.underlying308
 a233:=Tryz.isAgg308
 z233:=Tryz.sizeOf308
 v233:=Tryz.zeroValue308
 g17:=by kernel_rfl
 g18:=by kernel_rfl
 g19:=by kernel_rfl
 i0:=by kernel_rfl
 i2:=by kernel_rfl
 i3:=by kernel_rfl
 i4:=by kernel_rfl
 i5:=by kernel_rfl
 i9:=by kernel_rfl
 i20:=by kernel_rfl
 i37:=by kernel_rfl
 i46:=by kernel_rfl
 i51:=by kernel_rfl
 i53:=by kernel_rfl
 i171:=by kernel_rfl
 i173:=by kernel_rfl
 i212:=by kernel_rfl
 i232:=by kernel_rfl
 i233:=by kernel_rfl
 m17:=by kernel_rfl
 m18:=by kernel_rfl
 m19:=by kernel_rfl }
def Tryz.lays156_ren:Go.Shelf.Ren:=⟨fun | 156=>97 | 165=>143 | 166=>41 | 169=>43 | 240=>96 | 241=>169 | 276=>142 | 277=>196 | n=>n,fun | 31=>24 | 9=>9 | 3=>3 | 4=>4 | 0=>0 | 20=>20 | 72=>101 | 76=>104 | 70=>99 | 37=>32 | 75=>103 | 127=>174 | 164=>227 | 5=>5 | 80=>107 | n=>n,fun | n=>n⟩
theorem Tryz.lays156:Go.Proofs.Lays.n156 pG Tryz.lays156_ren:={
 mixed:=by kernel_rfl
 f156:=Tryz.func97.trans (congrArg some Y.kR)
 f165:=Tryz.func143.trans (congrArg some Y.kR)
 f166:=Tryz.func41.trans (congrArg some Y.kR)
 f169:=Tryz.func43.trans (congrArg some Y.kR)
 f240:=Tryz.func96.trans (congrArg some Y.kR)
 f241:=Tryz.func169.trans (congrArg some Y.kR)
 f276:=Tryz.func142.trans (congrArg some Y.kR)
 f277:=Tryz.func196.trans (congrArg some Y.kR)
 t0:=Tryz.underlying0
 a0:=Tryz.isAgg0
 z0:=Tryz.sizeOf0
 v0:=Tryz.zeroValue0
 t3:=Tryz.underlying3
 a3:=Tryz.isAgg3
 z3:=Tryz.sizeOf3
 v3:=Tryz.zeroValue3
 t4:=Tryz.underlying4
 a4:=Tryz.isAgg4
 z4:=Tryz.sizeOf4
 v4:=Tryz.zeroValue4
 t9:=Tryz.underlying9
 a9:=Tryz.isAgg9
 z9:=Tryz.sizeOf9
 v9:=Tryz.zeroValue9
 t20:=Tryz.underlying20
 a20:=Tryz.isAgg20
 z20:=Tryz.sizeOf20
 v20:=Tryz.zeroValue20
 t31:=Tryz.underlying24
 a31:=Tryz.isAgg24
 z31:=Tryz.sizeOf24
 v31:=Tryz.zeroValue24
 t37:=Tryz.underlying32
 a37:=Tryz.isAgg32
 z37:=Tryz.sizeOf32
 v37:=Tryz.zeroValue32
 t70:=Tryz.underlying99
 a70:=Tryz.isAgg99
 z70:=Tryz.sizeOf99
 v70:=Tryz.zeroValue99
 t72:=Tryz.underlying101
 a72:=Tryz.isAgg101
 z72:=Tryz.sizeOf101
 v72:=Tryz.zeroValue101
 t75:=Tryz.underlying103
 a75:=Tryz.isAgg103
 z75:=Tryz.sizeOf103
 v75:=Tryz.zeroValue103
 t76:=Tryz.underlying104
 a76:=Tryz.isAgg104
 z76:=Tryz.sizeOf104
 v76:=Tryz.zeroValue104
 t127:=Tryz.underlying174
 a127:=Tryz.isAgg174
 z127:=Tryz.sizeOf174
 v127:=Tryz.zeroValue174
 t164:=Tryz.underlying227
 a164:=Tryz.isAgg227
 z164:=Tryz.sizeOf227
 v164:=Tryz.zeroValue227 }
theorem Tryz.Builder_Extra_156:Builder.Extra pG Tryz.lays156_ren:={
 sizeBuilder:=by kernel_rfl
 liesBuilder:=by kernel_rfl
 t5:=Tryz.underlying5
 a5:=Tryz.isAgg5
 z5:=Tryz.sizeOf5
 v5:=Tryz.zeroValue5
 infoByte:=by kernel_rfl
 cellsByte:=by kernel_rfl
 sizeByte:=by kernel_rfl
 neB5:=by decide }
def Tryz.laysPu14_ren:Go.Shelf.Ren:=⟨fun | 14=>101 | 16=>146 | 17=>147 | 19=>175 | 20=>176 | 21=>177 | 22=>178 | 23=>179 | 24=>180 | 25=>206 | 27=>83 | 26=>207 | 28=>133 | 29=>166 | 30=>170 | 31=>171 | 32=>172 | 33=>173 | 35=>198 | 34=>197 | 36=>199 | 37=>200 | 38=>201 | 39=>222 | 40=>223 | n=>n,fun | 9=>9 | 3=>3 | 22=>23 | 24=>103 | 25=>178 | 4=>4 | 34=>250 | 5=>5 | 36=>252 | 37=>32 | 0=>0 | 39=>253 | 21=>21 | 44=>277 | 47=>174 | 50=>296 | 48=>294 | 2=>2 | 52=>244 | 55=>247 | 59=>269 | 60=>270 | 20=>20 | 61=>271 | 65=>307 | 66=>308 | 67=>107 | n=>n,fun | 0=>2 | 1=>3 | 2=>0 | 3=>4 | 4=>5 | n=>n⟩
theorem Tryz.laysPu14:Go.Proofs.LaysPu.n14 pG Tryz.laysPu14_ren:={
 mixed:=by kernel_rfl
 f14:=Tryz.func101.trans (congrArg some Y.kR)
 f16:=Tryz.func146.trans (congrArg some Y.kR)
 f17:=Tryz.func147.trans (congrArg some Y.kR)
 f19:=Tryz.func175.trans (congrArg some Y.kR)
 f20:=Tryz.func176.trans (congrArg some Y.kR)
 f21:=Tryz.func177.trans (congrArg some Y.kR)
 f22:=Tryz.func178.trans (congrArg some Y.kR)
 f23:=Tryz.func179.trans (congrArg some Y.kR)
 f24:=Tryz.func180.trans (congrArg some Y.kR)
 f25:=Tryz.func206.trans (congrArg some Y.kR)
 f26:=Tryz.func207.trans (congrArg some Y.kR)
 f27:=Tryz.func83.trans (congrArg some Y.kR)
 f28:=Tryz.func133.trans (congrArg some Y.kR)
 f29:=Tryz.func166.trans (congrArg some Y.kR)
 f30:=Tryz.func170.trans (congrArg some Y.kR)
 f31:=Tryz.func171.trans (congrArg some Y.kR)
 f32:=Tryz.func172.trans (congrArg some Y.kR)
 f33:=Tryz.func173.trans (congrArg some Y.kR)
 f34:=Tryz.func197.trans (congrArg some Y.kR)
 f35:=Tryz.func198.trans (congrArg some Y.kR)
 f36:=Tryz.func199.trans (congrArg some Y.kR)
 f37:=Tryz.func200.trans (congrArg some Y.kR)
 f38:=Tryz.func201.trans (congrArg some Y.kR)
 f39:=Tryz.func222.trans (congrArg some Y.kR)
 f40:=Tryz.func223.trans (congrArg some Y.kR)
 t0:=Tryz.underlying0
 a0:=Tryz.isAgg0
 z0:=Tryz.sizeOf0
 v0:=Tryz.zeroValue0
 i0:=by kernel_rfl
 t2:=Tryz.underlying2
 a2:=Tryz.isAgg2
 z2:=Tryz.sizeOf2
 v2:=Tryz.zeroValue2
 i2:=by kernel_rfl
 t3:=Tryz.underlying3
 a3:=Tryz.isAgg3
 z3:=Tryz.sizeOf3
 v3:=Tryz.zeroValue3
 i3:=by kernel_rfl
 t4:=Tryz.underlying4
 a4:=Tryz.isAgg4
 z4:=Tryz.sizeOf4
 v4:=Tryz.zeroValue4
 i4:=by kernel_rfl
 t5:=Tryz.underlying5
 a5:=Tryz.isAgg5
 z5:=Tryz.sizeOf5
 v5:=Tryz.zeroValue5
 i5:=by kernel_rfl
 t9:=Tryz.underlying9
 a9:=Tryz.isAgg9
 z9:=Tryz.sizeOf9
 v9:=Tryz.zeroValue9
 i9:=by kernel_rfl
 t20:=Tryz.underlying20
 a20:=Tryz.isAgg20
 z20:=Tryz.sizeOf20
 v20:=Tryz.zeroValue20
 i20:=by kernel_rfl
 t21:=Tryz.underlying21
 a21:=Tryz.isAgg21
 z21:=Tryz.sizeOf21
 v21:=Tryz.zeroValue21
 i21:=by kernel_rfl
 t22:=Tryz.underlying23
 a22:=Tryz.isAgg23
 z22:=Tryz.sizeOf23
 v22:=Tryz.zeroValue23
 i22:=by kernel_rfl
 t24:=Tryz.underlying103
 a24:=Tryz.isAgg103
 z24:=Tryz.sizeOf103
 v24:=Tryz.zeroValue103
 i24:=by kernel_rfl
 t25:=Tryz.underlying178
 a25:=Tryz.isAgg178
 z25:=Tryz.sizeOf178
 v25:=Tryz.zeroValue178
 i25:=by kernel_rfl
 t34:=Tryz.underlying250
 a34:=Tryz.isAgg250
 z34:=Tryz.sizeOf250
 v34:=Tryz.zeroValue250
 i34:=by kernel_rfl
 c34:=by kernel_rfl
 t36:=Tryz.underlying252
 a36:=Tryz.isAgg252
 z36:=Tryz.sizeOf252
 v36:=Tryz.zeroValue252
 i36:=by kernel_rfl
 t37:=Tryz.underlying32
 a37:=Tryz.isAgg32
 z37:=Tryz.sizeOf32
 v37:=Tryz.zeroValue32
 i37:=by kernel_rfl
 t39:=Tryz.underlying253
 a39:=Tryz.isAgg253
 z39:=Tryz.sizeOf253
 v39:=Tryz.zeroValue253
 i39:=by kernel_rfl
 t44:=Tryz.underlying277
 a44:=Tryz.isAgg277
 z44:=Tryz.sizeOf277
 v44:=Tryz.zeroValue277
 i44:=by kernel_rfl
 t47:=Tryz.underlying174
 a47:=Tryz.isAgg174
 z47:=Tryz.sizeOf174
 v47:=Tryz.zeroValue174
 i47:=by kernel_rfl
 t48:=Tryz.underlying294
 a48:=Tryz.isAgg294
 z48:=Tryz.sizeOf294
 v48:=Tryz.zeroValue294
 i48:=by kernel_rfl
 t50:=Tryz.underlying296
 a50:=Tryz.isAgg296
 z50:=Tryz.sizeOf296
 v50:=Tryz.zeroValue296
 i50:=by kernel_rfl
 t52:=Tryz.underlying244
 a52:=Tryz.isAgg244
 z52:=Tryz.sizeOf244
 v52:=Tryz.zeroValue244
 i52:=by kernel_rfl
 t55:=Tryz.underlying247
 a55:=Tryz.isAgg247
 z55:=Tryz.sizeOf247
 v55:=Tryz.zeroValue247
 i55:=by kernel_rfl
 t59:=Tryz.underlying269
 a59:=Tryz.isAgg269
 z59:=Tryz.sizeOf269
 v59:=Tryz.zeroValue269
 i59:=by kernel_rfl
 t60:=Tryz.underlying270
 a60:=Tryz.isAgg270
 z60:=Tryz.sizeOf270
 v60:=Tryz.zeroValue270
 i60:=by kernel_rfl
 t61:=Tryz.underlying271
 a61:=Tryz.isAgg271
 z61:=Tryz.sizeOf271
 t65:=Tryz.underlying307
 a65:=Tryz.isAgg307
 z65:=Tryz.sizeOf307
 v65:=Tryz.zeroValue307
 i65:=by kernel_rfl
 t66:=Tryz.underlying308
 a66:=Tryz.isAgg308
 z66:=Tryz.sizeOf308
 v66:=Tryz.zeroValue308
 i66:=by kernel_rfl
 t67:=Tryz.underlying107
 a67:=Tryz.isAgg107
 z67:=Tryz.sizeOf107
 v67:=Tryz.zeroValue107
 i67:=by kernel_rfl
 g0:=by kernel_rfl
 m0:=by kernel_rfl
 g1:=by kernel_rfl
 m1:=by kernel_rfl
 g2:=by kernel_rfl
 m2:=by kernel_rfl
 g3:=by kernel_rfl
 m3:=by kernel_rfl
 g4:=by kernel_rfl
 m4:=by kernel_rfl }
def Tryz.lays145_ren:Go.Shelf.Ren:=⟨fun | 145=>100 | 220=>145 | 219=>174 | 217=>202 | 225=>203 | 224=>204 | 267=>205 | 266=>224 | 314=>225 | n=>n,fun | 9=>9 | 4=>4 | 59=>176 | 3=>3 | 5=>5 | 46=>252 | 146=>292 | 51=>270 | n=>n,fun | 1=>1 | n=>n⟩
theorem Tryz.lays145:Go.Proofs.Lays.n145 pG Tryz.lays145_ren:={
 mixed:=by kernel_rfl
 f145:=Tryz.func100.trans (congrArg some Y.kR)
 f217:=Tryz.func202.trans (congrArg some Y.kR)
 f219:=Tryz.func174.trans (congrArg some Y.kR)
 f220:=Tryz.func145.trans (congrArg some Y.kR)
 f224:=Tryz.func204.trans (congrArg some Y.kR)
 f225:=Tryz.func203.trans (congrArg some Y.kR)
 f266:=Tryz.func224.trans (congrArg some Y.kR)
 f267:=Tryz.func205.trans (congrArg some Y.kR)
 f314:=Tryz.func225.trans (congrArg some Y.kR)
 t3:=Tryz.underlying3
 a3:=Tryz.isAgg3
 z3:=Tryz.sizeOf3
 v3:=Tryz.zeroValue3
 t4:=Tryz.underlying4
 a4:=Tryz.isAgg4
 z4:=Tryz.sizeOf4
 v4:=Tryz.zeroValue4
 t5:=Tryz.underlying5
 a5:=Tryz.isAgg5
 z5:=Tryz.sizeOf5
 v5:=Tryz.zeroValue5
 t9:=Tryz.underlying9
 a9:=Tryz.isAgg9
 z9:=Tryz.sizeOf9
 v9:=Tryz.zeroValue9
 t46:=Tryz.underlying252
 a46:=Tryz.isAgg252
 z46:=Tryz.sizeOf252
 v46:=Tryz.zeroValue252
 t51:=Tryz.underlying270
 a51:=Tryz.isAgg270
 z51:=Tryz.sizeOf270
 v51:=Tryz.zeroValue270
 t59:=Tryz.underlying176
 a59:=Tryz.isAgg176
 z59:=Tryz.sizeOf176
 v59:=Tryz.zeroValue176
 t146:=Tryz.underlying292
 a146:=Tryz.isAgg292
 z146:=Tryz.sizeOf292
 v146:=Tryz.zeroValue292
 g1:=by kernel_rfl }
def Tryz.lays146_ren:Go.Shelf.Ren:=⟨fun | 146=>102 | 221=>148 | 268=>181 | 138=>182 | 143=>183 | 195=>208 | 197=>209 | 218=>210 | 219=>174 | 260=>226 | 217=>202 | 225=>203 | 224=>204 | 267=>205 | 266=>224 | 314=>225 | n=>n,fun | 9=>9 | 31=>24 | 3=>3 | 4=>4 | 0=>0 | 105=>279 | 21=>21 | 5=>5 | 46=>252 | 119=>309 | 139=>312 | 138=>311 | 146=>292 | 51=>270 | n=>n,fun | 1=>1 | 3=>6 | 4=>7 | n=>n⟩
theorem Tryz.lays146:Go.Proofs.Lays.n146 pG Tryz.lays146_ren:={
 mixed:=by kernel_rfl
 f138:=Tryz.func182.trans (congrArg some Y.kR)
 f143:=Tryz.func183.trans (congrArg some Y.kR)
 f146:=Tryz.func102.trans (congrArg some Y.kR)
 f195:=Tryz.func208.trans (congrArg some Y.kR)
 f197:=Tryz.func209.trans (congrArg some Y.kR)
 f217:=Tryz.func202.trans (congrArg some Y.kR)
 f218:=Tryz.func210.trans (congrArg some Y.kR)
 f219:=Tryz.func174.trans (congrArg some Y.kR)
 f221:=Tryz.func148.trans (congrArg some Y.kR)
 f224:=Tryz.func204.trans (congrArg some Y.kR)
 f225:=Tryz.func203.trans (congrArg some Y.kR)
 f260:=Tryz.func226.trans (congrArg some Y.kR)
 f266:=Tryz.func224.trans (congrArg some Y.kR)
 f267:=Tryz.func205.trans (congrArg some Y.kR)
 f268:=Tryz.func181.trans (congrArg some Y.kR)
 f314:=Tryz.func225.trans (congrArg some Y.kR)
 t0:=Tryz.underlying0
 a0:=Tryz.isAgg0
 z0:=Tryz.sizeOf0
 v0:=Tryz.zeroValue0
 t3:=Tryz.underlying3
 a3:=Tryz.isAgg3
 z3:=Tryz.sizeOf3
 v3:=Tryz.zeroValue3
 t4:=Tryz.underlying4
 a4:=Tryz.isAgg4
 z4:=Tryz.sizeOf4
 v4:=Tryz.zeroValue4
 t5:=Tryz.underlying5
 a5:=Tryz.isAgg5
 z5:=Tryz.sizeOf5
 v5:=Tryz.zeroValue5
 t9:=Tryz.underlying9
 a9:=Tryz.isAgg9
 z9:=Tryz.sizeOf9
 v9:=Tryz.zeroValue9
 t21:=Tryz.underlying21
 a21:=Tryz.isAgg21
 z21:=Tryz.sizeOf21
 v21:=Tryz.zeroValue21
 t31:=Tryz.underlying24
 a31:=Tryz.isAgg24
 z31:=Tryz.sizeOf24
 v31:=Tryz.zeroValue24
 t46:=Tryz.underlying252
 a46:=Tryz.isAgg252
 z46:=Tryz.sizeOf252
 v46:=Tryz.zeroValue252
 t51:=Tryz.underlying270
 a51:=Tryz.isAgg270
 z51:=Tryz.sizeOf270
 v51:=Tryz.zeroValue270
 t105:=Tryz.underlying279
 a105:=Tryz.isAgg279
 z105:=Tryz.sizeOf279
 v105:=Tryz.zeroValue279
 t119:=Tryz.underlying309
 a119:=Tryz.isAgg309
 z119:=Tryz.sizeOf309
 t138:=Tryz.underlying311
 a138:=Tryz.isAgg311
 z138:=Tryz.sizeOf311
 v138:=Tryz.zeroValue311
 t139:=Tryz.underlying312
 a139:=Tryz.isAgg312
 z139:=Tryz.sizeOf312
 v139:=Tryz.zeroValue312
 t146:=Tryz.underlying292
 a146:=Tryz.isAgg292
 z146:=Tryz.sizeOf292
 v146:=Tryz.zeroValue292
 g1:=by kernel_rfl
 g3:=by kernel_rfl
 g4:=by kernel_rfl }
def Tryz.laysGw15_ren:Go.Shelf.Ren:=⟨fun | 15=>103 | 20=>149 | n=>n,fun | 9=>9 | 23=>115 | 3=>3 | 4=>4 | 0=>0 | 21=>21 | n=>n,fun | n=>n⟩
theorem Tryz.laysGw15:Go.Proofs.LaysGw.n15 pG Tryz.laysGw15_ren:={
 mixed:=by kernel_rfl
 f15:=Tryz.func103.trans (congrArg some Y.kR)
 f20:=Tryz.func149.trans (congrArg some Y.kR)
 t0:=Tryz.underlying0
 a0:=Tryz.isAgg0
 z0:=Tryz.sizeOf0
 v0:=Tryz.zeroValue0
 i0:=by kernel_rfl
 t3:=Tryz.underlying3
 a3:=Tryz.isAgg3
 z3:=Tryz.sizeOf3
 v3:=Tryz.zeroValue3
 i3:=by kernel_rfl
 t4:=Tryz.underlying4
 a4:=Tryz.isAgg4
 z4:=Tryz.sizeOf4
 v4:=Tryz.zeroValue4
 i4:=by kernel_rfl
 t9:=Tryz.underlying9
 a9:=Tryz.isAgg9
 z9:=Tryz.sizeOf9
 v9:=Tryz.zeroValue9
 i9:=by kernel_rfl
 t21:=Tryz.underlying21
 a21:=Tryz.isAgg21
 z21:=Tryz.sizeOf21
 v21:=Tryz.zeroValue21
 i21:=by kernel_rfl
 t23:=Tryz.underlying115
 a23:=Tryz.isAgg115
 z23:=Tryz.sizeOf115
 v23:=Tryz.zeroValue115
 i23:=by kernel_rfl }
end Go.Proofs
namespace Go.Proofs.YtmmhmcplegpenaaGreatDoor.T
open Go Go.Y Go.Proofs
variable {w0 w:World} {G:Av} {L:List Res}
theorem Ahl (M:Mem w0 G L w) {c:UInt8}:Calls pG 241 #[iB (nb c)] w (B5 w0 G L fun v=>∃ b:Bool,v=vB b∧(b=true↔Dl c)):=by
 refine Ap (vs:=[_]) Tryz.func241 rfl (n:=17) rfl rfl<|wk ?_
 rcases bE (decide (97≤nb c)) with D | O
 ·skip
  have U:=dT D;refine wk ?_
  rcases bE (decide (nb c≤122)) with E | H
  ·skip
   have V:=dT E;refine wk ?_;refine Af rfl rfl<|?_
   exact ⟨M,true,rfl,⟨fun A=>(by first | (cases A;done) | (have A:=dT A;unfold Dl;omega) | (unfold Dl;omega)),fun A=>(by unfold Dl at A;first | rfl | (exact decide_eq_true tM) | (exfalso;omega))⟩⟩
  have Y:=dF H;refine wk ?_
  rcases bE (decide (48≤nb c)) with I | N
  ·skip
   have h4:=dT I;refine wk ?_;refine Af rfl rfl<|?_
   exact ⟨M,(decide (nb c≤57)),rfl,⟨fun A=>(by first | (cases A;done) | (have A:=dT A;unfold Dl;omega) | (unfold Dl;omega)),fun A=>(by unfold Dl at A;first | rfl | (exact decide_eq_true tM) | (exfalso;omega))⟩⟩
  have h5:=dF N;refine wk ?_;refine Af rfl rfl<|?_
  exact ⟨M,false,rfl,⟨fun A=>(by first | (cases A;done) | (have A:=dT A;unfold Dl;omega) | (unfold Dl;omega)),fun A=>(by unfold Dl at A;first | rfl | (exact decide_eq_true tM) | (exfalso;omega))⟩⟩
 have h6:=dF O;refine wk ?_
 rcases bE (decide (48≤nb c)) with S | T
 ·skip
  have h7:=dT S;refine wk ?_;refine Af rfl rfl<|?_
  exact ⟨M,(decide (nb c≤57)),rfl,⟨fun A=>(by first | (cases A;done) | (have A:=dT A;unfold Dl;omega) | (unfold Dl;omega)),fun A=>(by unfold Dl at A;first | rfl | (exact decide_eq_true tM) | (exfalso;omega))⟩⟩
 have h8:=dF T;refine wk ?_;refine Af rfl rfl<|?_
 exact ⟨M,false,rfl,⟨fun A=>(by first | (cases A;done) | (have A:=dT A;unfold Dl;omega) | (unfold Dl;omega)),fun A=>(by unfold Dl at A;first | rfl | (exact decide_eq_true tM) | (exfalso;omega))⟩⟩
theorem Oi (M:Mem w0 G L w) {s:List UInt8} (hs:s.length≤9223372036854775807):Calls pG 237 #[qT s] w (B5 w0 G L fun v=>∃ b:Bool,v=vB b∧(b=true↔C2 s)):=by
 refine Ap (vs:=[_]) Tryz.func237 rfl (n:=23) rfl rfl<|wk ?_
 rcases bE (decide ((((s).length:Nat):Int) < 1)) with N | O
 ·skip
  have h1:=dT N;refine wk ?_;refine Af rfl rfl<|?_
  exact ⟨M,false,rfl,⟨fun A=>(by cases A),fun A=>(by have:=A.1;omega)⟩⟩
 have h2:=dF O;refine wk ?_;refine qD rfl ?_ ?_
 ·intro h3;refine wk ?_;refine Af rfl rfl<|?_
  exact ⟨M,false,rfl,⟨fun A=>(by cases A),fun A=>(by have:=A.1;omega)⟩⟩
 intro h4;refine wk ?_;refine fun a F=>Bd (fun m Y w'=>∃ (i:Nat),m=s.length - i∧Fits 23 Y [(0,qT s),(13,iI ((((s).length:Nat):Int))),(14,iI ((i:Nat):Int))]∧Mem w0 G (L) w'∧(i≤s.length)∧(∀ (m:Nat) (b:UInt8),m < i→s[m]?=some b→Dl b)) _ ⟨0,rfl,fU,M,Nat.zero_le _,fun m b h=>by omega⟩ ?_;clear F M;rintro m a w ⟨i,rfl,F,M,hi,V⟩;revert a;refine wk ?_;refine qD rfl ?_ ?_
 ·intro h5;refine wk ?_;obtain ⟨S,D⟩:=Aq (xs:=(s)) (i:=i) tM;have ae:=Ry S;refine Ak (fun a F=>Cu (i:=i) Dg.k (F.ev rfl) (F.ev rfl) D) rfl<|A2 ent241 rfl rfl (Ahl (c:=S) M)<|?_;clear M;rintro _ w M ⟨T,rfl,I⟩
  refine wk ?_;refine Ag rfl ?_ ?_
  ·intro E;have h8:=Ad E;have ab:(T)=false:=(Ad E);refine wk ?_;refine Af rfl rfl<|?_
   exact ⟨M,false,rfl,⟨fun A=>(by cases A),fun A=>absurd A.2 (He D (fun U=>by have h8:=I.2 U;simp_all))⟩⟩
  intro H;have U:=Ae H;have ac:(T)=true:=(Ae H);refine wk ?_;intro a F
  exact ⟨_,tM,i+1,rfl,fU,M,tM,D9 V D (by first | exact I.1 tA | (unfold Dl;omega))⟩
 intro aa;refine wk ?_;refine Af rfl rfl<|?_
 exact ⟨M,true,rfl,⟨fun _=>⟨tM,E3 V tM⟩,fun _=>rfl⟩⟩
theorem E9 (M:Mem w0 G L w) {s:List UInt8} (hs:s.length≤9223372036854775807):Calls pG 185 #[qT s] w (B5 w0 G L fun v=>∃ b:Bool,v=vB b∧(b=true↔C2 s)):=by
 refine Ap (vs:=[_]) Tryz.func185 rfl (n:=44) rfl rfl<|wk ?_;refine fun a F=>Bd (fun m a' w'=>∃ (i:Nat),m=s.length - i∧Fits 44 a' [(0,qT s),(3,iI ((i:Nat):Int))]∧Mem w0 G (L) w'∧(i≤s.length∧i≤17)∧(∀ (m:Nat) (b:UInt8),m < i→s[m]?=some b→Dl b)) _ ⟨0,rfl,fU,M,tM,fun m b h=>by omega⟩ ?_;clear F M;rintro m a w ⟨i,rfl,F,M,hi,E⟩;revert a;refine wk ?_
 rcases bE (decide (((i:Nat):Int) < (((s).length:Nat):Int))) with ab | V
 ·skip
  have h1:=dT ab;refine wk ?_;refine qD rfl ?_ ?_
  ·intro h2;refine wk ?_;obtain ⟨H,D⟩:=Aq (xs:=(s)) (i:=i) tM;have aw:=Ry H;refine Ak (fun a F=>Cu (i:=i) Dg.k (F.ev rfl) (F.ev rfl) D) rfl<|wk ?_
   rcases bE (decide (nb H < 97)) with ac | ah
   ·skip
    have h4:=dT ac;refine wk ?_;refine Ak (fun a F=>Cu (i:=i) Dg.k (F.ev rfl) (F.ev rfl) D) rfl<|wk ?_
    rcases bE (decide (nb H < 48)) with ae | ag
    ·skip
     have h5:=dT ae;refine wk ?_;refine Af rfl rfl<|?_
     exact ⟨M,false,rfl,⟨fun A=>(by cases A),fun A=>absurd A.2 (He D (by unfold Dl;omega))⟩⟩
    have h6:=dF ag;refine wk ?_;refine Ak (fun a F=>Cu (i:=i) Dg.k (F.ev rfl) (F.ev rfl) D) rfl<|wk ?_;refine qD rfl ?_ ?_
    ·intro h7;refine wk ?_;refine Af rfl rfl<|?_
     exact ⟨M,false,rfl,⟨fun A=>(by cases A),fun A=>absurd A.2 (He D (by unfold Dl;omega))⟩⟩
    intro h8;refine wk ?_;intro a F
    exact ⟨_,tM,i+1,rfl,fU,M,tM,D9 E D (by unfold Dl;omega)⟩
   have h9:=dF ah;refine wk ?_;refine Ak (fun a F=>Cu (i:=i) Dg.k (F.ev rfl) (F.ev rfl) D) rfl<|wk ?_
   rcases bE (decide (122 < nb H)) with I | S
   ·skip
    have ai:=dT I;refine wk ?_;refine Ak (fun a F=>Cu (i:=i) Dg.k (F.ev rfl) (F.ev rfl) D) rfl<|wk ?_
    rcases bE (decide (nb H < 48)) with N | O
    ·skip
     have aj:=dT N;refine wk ?_;refine Af rfl rfl<|?_
     exact ⟨M,false,rfl,⟨fun A=>(by cases A),fun A=>absurd A.2 (He D (by unfold Dl;omega))⟩⟩
    have ak:=dF O;refine wk ?_;refine Ak (fun a F=>Cu (i:=i) Dg.k (F.ev rfl) (F.ev rfl) D) rfl<|wk ?_;refine qD rfl ?_ ?_
    ·intro al;refine wk ?_;refine Af rfl rfl<|?_
     exact ⟨M,false,rfl,⟨fun A=>(by cases A),fun A=>absurd A.2 (He D (by unfold Dl;omega))⟩⟩
    intro am;refine wk ?_;intro a F
    exact ⟨_,tM,i+1,rfl,fU,M,tM,D9 E D (by unfold Dl;omega)⟩
   have an:=dF S;refine wk ?_;intro a F
   exact ⟨_,tM,i+1,rfl,fU,M,tM,D9 E D (by unfold Dl;omega)⟩
  intro ao;refine wk ?_
  rcases bE (decide (1≤(((s).length:Nat):Int))) with T | U
  ·skip
   have ap:=dT T;refine wk ?_;refine Af rfl rfl<|?_
   exact ⟨M,(decide ((((s).length:Nat):Int)≤16)),rfl,⟨fun A=>(by first | (cases A;done) | (have A:=dT A;exact ⟨tM,E3 E tM⟩) | exact ⟨tM,E3 E tM⟩),fun A=>(by have h9:=A.1;first | rfl | (exact decide_eq_true tM) | (exfalso;omega))⟩⟩
  have aq:=dF U;refine wk ?_;refine Af rfl rfl<|?_
  exact ⟨M,false,rfl,⟨fun A=>(by first | (cases A;done) | (have A:=dT A;exact ⟨tM,E3 E tM⟩) | exact ⟨tM,E3 E tM⟩),fun A=>(by have h9:=A.1;first | rfl | (exact decide_eq_true tM) | (exfalso;omega))⟩⟩
 have ar:=dF V;refine wk ?_
 rcases bE (decide (1≤(((s).length:Nat):Int))) with Y | aa
 ·skip
  have au:=dT Y;refine wk ?_;refine Af rfl rfl<|?_
  exact ⟨M,(decide ((((s).length:Nat):Int)≤16)),rfl,⟨fun A=>(by first | (cases A;done) | (have A:=dT A;exact ⟨tM,E3 E tM⟩) | exact ⟨tM,E3 E tM⟩),fun A=>(by have h9:=A.1;first | rfl | (exact decide_eq_true tM) | (exfalso;omega))⟩⟩
 have av:=dF aa;refine wk ?_;refine Af rfl rfl<|?_
 exact ⟨M,false,rfl,⟨fun A=>(by first | (cases A;done) | (have A:=dT A;exact ⟨tM,E3 E tM⟩) | exact ⟨tM,E3 E tM⟩),fun A=>(by have h9:=A.1;first | rfl | (exact decide_eq_true tM) | (exfalso;omega))⟩⟩
theorem Md (M:Mem w0 G L w) {s:List UInt8} (hs:s.length≤9223372036854775807):Calls pG 184 #[qT s] w (B5 w0 G L fun v=>∃ b:Bool,v=vB b∧(b=true↔Str s)):=by
 refine Ap (vs:=[_]) Tryz.func184 rfl (n:=23) rfl rfl<|wk ?_;refine qD rfl ?_ ?_
 ·intro T;refine wk ?_;refine Af rfl rfl<|?_
  exact ⟨M,false,rfl,⟨fun D=>(by cases D),fun D=>(by have:=D.1;omega)⟩⟩
 intro U;refine wk ?_;refine fun a F=>Bd (fun m O w'=>∃ (i:Nat),m=s.length - i∧Fits 23 O [(0,qT s),(3,iI ((i:Nat):Int))]∧Mem w0 G (L) w'∧(i≤s.length)∧(∀ (m:Nat) (b:UInt8),m < i→s[m]?=some b→J7 b)) _ ⟨0,rfl,fU,M,tM,fun m b h=>by omega⟩ ?_;clear F M;rintro m a w ⟨i,rfl,F,M,hi,N⟩;revert a;refine wk ?_;refine qD rfl ?_ ?_
 ·intro V;refine wk ?_;obtain ⟨I,A⟩:=Aq (xs:=(s)) (i:=i) tM;have S:=Ry I;refine Ak (fun a F=>Cu (i:=i) Dg.k (F.ev rfl) (F.ev rfl) A) rfl<|wk ?_
  rcases bE (decide (nb I < 32)) with E | H
  ·skip
   have Y:=dT E;refine wk ?_;refine Af rfl rfl<|?_
   exact ⟨M,false,rfl,⟨fun D=>(by cases D),fun D=>absurd D.2 (He A (by unfold J7;omega))⟩⟩
  have h6:=dF H;refine wk ?_;refine Ak (fun a F=>Cu (i:=i) Dg.k (F.ev rfl) (F.ev rfl) A) rfl<|wk ?_;refine qD rfl ?_ ?_
  ·intro h7;refine wk ?_;refine Af rfl rfl<|?_
   exact ⟨M,false,rfl,⟨fun D=>(by cases D),fun D=>absurd D.2 (He A (by unfold J7;omega))⟩⟩
  intro h8;refine wk ?_;intro a F
  exact ⟨_,tM,i+1,rfl,fU,M,tM,D9 N A (by unfold J7;omega)⟩
 intro h9;refine wk ?_;refine Af rfl rfl<|?_
 exact ⟨M,true,rfl,⟨fun _=>⟨tM,E3 N tM⟩,fun _=>rfl⟩⟩
theorem Agh {w:World} {x:Nat}:Calls pG 240 #[vI .i32 (x:Int)] w (fun e w'=>e=.returned (vB (Jg x))∧∃ q,w' = w.drewN q):=by
 refine Ap (vs:=[_]) Tryz.func240 rfl (n:=9) rfl rfl<|wk ?_
 rcases bE (decide ((x:Int) < 32)) with A | D
 ·skip
  have H:=dT A;refine wk ?_;refine Af rfl rfl<|?_
  exact ⟨by have E:Jg x=true:=(by unfold Jg;first | (simp_all;omega) | simp_all);rw [E],0,rfl⟩
 have I:=dF D;refine wk ?_;refine Af rfl rfl<|?_
 exact ⟨by have E:Jg x=(decide (126 < (x:Int))):=(by unfold Jg;first | (simp_all;omega) | simp_all);rw [E],0,rfl⟩
theorem Auo (M:Mem w0 G L w) {s:List UInt8}:Calls pG 103 #[qT s,.func (.func 240) #[] #[]] w (B5 w0 G L fun v=>∃ z:Int,v=iI z∧(z < 0↔∀ c∈s,J7 c)):=by
 have D:PredAt pG 240 #[] encR Jg w:=fun W x _=>(Agh (x:=x));refine (Any.strings_IndexFunc Tryz.laysGw15 240 #[] (Go.Proofs.enters_of Tryz.func240 kR rfl) Jg (str s) w D).mono ?_;rintro e w' ⟨rfl,A⟩
 exact ⟨M.below' A,_,rfl,Adu s⟩
theorem H5 (M:Mem w0 G L w) {s:List UInt8} (S:s.length≤9223372036854775807):Calls pG 236 #[qT s] w (B5 w0 G L fun v=>∃ b:Bool,v=vB b∧(b=true↔Str s)):=by
 refine Ap (vs:=[_]) Tryz.func236 rfl (n:=11) rfl rfl<|wk ?_
 rcases bE (decide ((((s).length:Nat):Int)≤64)) with E | H
 ·skip
  have N:=dT E;refine wk ?_;refine A2 Alq rfl rfl (Auo (s:=s) M)<|?_;clear M;rintro _ w M ⟨I,rfl,D⟩
  refine wk ?_;refine Af rfl rfl<|?_
  exact ⟨M,(decide (I < 0)),rfl,⟨fun A=>⟨tM,D.1 (dT A)⟩,fun A=>decide_eq_true (D.2 A.2)⟩⟩
 have O:=dF H;refine wk ?_;refine Af rfl rfl<|?_
 exact ⟨M,false,rfl,⟨fun A=>(by cases A),fun A=>(by have:=A.1;omega)⟩⟩
end Go.Proofs.YtmmhmcplegpenaaGreatDoor.T
