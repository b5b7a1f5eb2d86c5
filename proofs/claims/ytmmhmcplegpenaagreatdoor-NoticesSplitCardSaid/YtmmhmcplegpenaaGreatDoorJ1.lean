/- The types and functions of the translation that the walks name. · What a world that a row speaks of holds at the program's variables. · Virtual trees: names, strings, attributes; what a valid node is; how many nodes a valid tree has. · The layings of the library functions that the walks meet: what their contracts ask of the translation, by the kernel. · The walks, part TA. -/
import Derived.Test.YtmmhmcplegpenaaGreatDoorRows
import Derived.Test.YtmmhmcplegpenaaGreatDoorYC
import Derived.Test.YtmmhmcplegpenaaGreatDoorTie
import Derived.Test.YtmmhmcplegpenaaGreatDoorYB
import Derived.LaidMore
import Derived.Lay
import Derived.OpenShut
import Derived.Stop.Joined
import Derived.Laws.RangeAny
import Derived.Laws.RangeString
import Derived.Shelf.GgClosure.StringsIndexFunc
import Derived.Shelf.Strings.Builder1
import Derived.Shelf.Strings.OnBuilder
import Derived.Shelf.Strconv.Itoa0
import Derived.Shelf.Strconv.Itoa1
import Derived.Shelf.LaysM
import Derived.Shelf.Strconv.Itoa2
import Derived.Shelf.Strconv.Itoa3
import Derived.Ground.MpProg
import Derived.Shelf.Pu.ParseUintPublic10
import Derived.Shelf.Strings.Search1
import Derived.Shelf.Strings.Search2
import Derived.Shelf.Strings.Cut
import Derived.Ground.GgwProg
import Derived.Shelf.GgClosure.StringsIndexFuncTop
import Derived.Shelf.Strings.Split
import Derived.Shelf.Slices.Equal
import Derived.Test.YtmmhmcplegpenaaGreatDoorProg
set_option linter.unusedSimpArgs false
set_option linter.unusedVariables false
set_option maxRecDepth 10000
namespace Go.Proofs.YtmmhmcplegpenaaGreatDoor
open Go Go.Y Go.Proofs
abbrev ti3:TI:=⟨.int .i64,1,8,.int .i64 0⟩
theorem Cq:TOK Tryz.prog 3 ti3:=⟨by kernel_rfl,by kernel_rfl,by kernel_rfl⟩
abbrev ti4:TI:=⟨.bool,1,1,.bool false⟩
theorem Amq:TOK Tryz.prog 4 ti4:=⟨by kernel_rfl,by kernel_rfl,by kernel_rfl⟩
abbrev ti5:TI:=⟨.int .u8,1,1,.int .u8 0⟩
theorem Cl:TOK Tryz.prog 5 ti5:=⟨by kernel_rfl,by kernel_rfl,by kernel_rfl⟩
abbrev ti9:TI:=⟨.str,1,16,.string ⟨#[]⟩⟩
theorem Ej:TOK Tryz.prog 9 ti9:=⟨by kernel_rfl,by kernel_rfl,by kernel_rfl⟩
abbrev ti22:TI:=⟨.slice 26,1,24,.slice none 0 0⟩
theorem Co:TOK Tryz.prog 22 ti22:=⟨by kernel_rfl,by kernel_rfl,by kernel_rfl⟩
abbrev ti23:TI:=⟨.int .u64,1,8,.int .u64 0⟩
theorem H4:TOK Tryz.prog 23 ti23:=⟨by kernel_rfl,by kernel_rfl,by kernel_rfl⟩
abbrev ti24:TI:=⟨.slice 9,1,24,.slice none 0 0⟩
theorem E8:TOK Tryz.prog 24 ti24:=⟨by kernel_rfl,by kernel_rfl,by kernel_rfl⟩
abbrev ti26:TI:=⟨.struct [(0,1,23),(1,1,5),(2,1,9),(3,1,24)],4,56,.agg #[.int .u64 0,.int .u8 0,.string ⟨#[]⟩,.slice none 0 0]⟩
theorem Bi:TOK Tryz.prog 26 ti26:=⟨by kernel_rfl,by kernel_rfl,by kernel_rfl⟩
abbrev ti27:TI:=⟨.int .i64,1,8,.int .i64 0⟩
theorem Ng:TOK Tryz.prog 27 ti27:=⟨by kernel_rfl,by kernel_rfl,by kernel_rfl⟩
abbrev ti32:TI:=⟨.slice 5,1,24,.slice none 0 0⟩
theorem La:TOK Tryz.prog 32 ti32:=⟨by kernel_rfl,by kernel_rfl,by kernel_rfl⟩
abbrev ti76:TI:=⟨.slice 189,1,24,.slice none 0 0⟩
theorem Oj:TOK Tryz.prog 76 ti76:=⟨by kernel_rfl,by kernel_rfl,by kernel_rfl⟩
abbrev ti77:TI:=⟨.slice 79,1,24,.slice none 0 0⟩
theorem Qz:TOK Tryz.prog 77 ti77:=⟨by kernel_rfl,by kernel_rfl,by kernel_rfl⟩
abbrev ti79:TI:=⟨.struct [(0,1,5),(1,1,9),(2,1,9),(3,1,76),(4,1,9),(5,1,77)],6,104,.agg #[.int .u8 0,.string ⟨#[]⟩,.string ⟨#[]⟩,.slice none 0 0,.string ⟨#[]⟩,.slice none 0 0]⟩
theorem Du:TOK Tryz.prog 79 ti79:=⟨by kernel_rfl,by kernel_rfl,by kernel_rfl⟩
abbrev ti99:TI:=⟨.ptr 101,1,8,.pointer none⟩
theorem Sk:TOK Tryz.prog 99 ti99:=⟨by kernel_rfl,by kernel_rfl,by kernel_rfl⟩
abbrev ti101:TI:=⟨.struct [(0,1,99),(1,1,32)],2,32,.agg #[.pointer none,.slice none 0 0]⟩
theorem Pw:TOK Tryz.prog 101 ti101:=⟨by kernel_rfl,by kernel_rfl,by kernel_rfl⟩
abbrev ti103:TI:=⟨.iface,1,16,.nilIface⟩
theorem Pv:TOK Tryz.prog 103 ti103:=⟨by kernel_rfl,by kernel_rfl,by kernel_rfl⟩
abbrev ti174:TI:=⟨.ptr 5,1,8,.pointer none⟩
theorem Amt:TOK Tryz.prog 174 ti174:=⟨by kernel_rfl,by kernel_rfl,by kernel_rfl⟩
abbrev ti185:TI:=⟨.map 23 4,1,8,.map none⟩
theorem Lm:TOK Tryz.prog 185 ti185:=⟨by kernel_rfl,by kernel_rfl,by kernel_rfl⟩
abbrev Amy:TI:=⟨.struct [(0,1,9),(1,1,5),(2,1,9)],3,40,.agg #[.string ⟨#[]⟩,.int .u8 0,.string ⟨#[]⟩]⟩
theorem Fa:TOK Tryz.prog 189 Amy:=⟨by kernel_rfl,by kernel_rfl,by kernel_rfl⟩
abbrev ti190:TI:=⟨.slice 282,1,24,.slice none 0 0⟩
theorem X0:TOK Tryz.prog 190 ti190:=⟨by kernel_rfl,by kernel_rfl,by kernel_rfl⟩
abbrev ti191:TI:=⟨.slice 193,1,24,.slice none 0 0⟩
theorem Dl:TOK Tryz.prog 191 ti191:=⟨by kernel_rfl,by kernel_rfl,by kernel_rfl⟩
abbrev ti193:TI:=⟨.struct [(0,1,5),(1,1,9),(2,1,9),(3,1,190),(4,1,9),(5,1,191)],6,104,.agg #[.int .u8 0,.string ⟨#[]⟩,.string ⟨#[]⟩,.slice none 0 0,.string ⟨#[]⟩,.slice none 0 0]⟩
theorem Aw:TOK Tryz.prog 193 ti193:=⟨by kernel_rfl,by kernel_rfl,by kernel_rfl⟩
abbrev ti244:TI:=⟨.array 24 5,24,24,.agg #[.int .u8 0,.int .u8 0,.int .u8 0,.int .u8 0,.int .u8 0,.int .u8 0,.int .u8 0,.int .u8 0,.int .u8 0,.int .u8 0,.int .u8 0,.int .u8 0,.int .u8 0,.int .u8 0,.int .u8 0,.int .u8 0,.int .u8 0,.int .u8 0,.int .u8 0,.int .u8 0,.int .u8 0,.int .u8 0,.int .u8 0,.int .u8 0]⟩
theorem Xz:TOK Tryz.prog 244 ti244:=⟨by kernel_rfl,by kernel_rfl,by kernel_rfl⟩
abbrev ti262:TI:=⟨.struct [(0,4,26)],4,56,.agg #[.int .u64 0,.int .u8 0,.string ⟨#[]⟩,.slice none 0 0]⟩
theorem Adq:TOK Tryz.prog 262 ti262:=⟨by kernel_rfl,by kernel_rfl,by kernel_rfl⟩
abbrev Amw:TI:=⟨.struct [(0,1,9),(1,1,9)],2,32,.agg #[.string ⟨#[]⟩,.string ⟨#[]⟩]⟩
theorem I6:TOK Tryz.prog 282 Amw:=⟨by kernel_rfl,by kernel_rfl,by kernel_rfl⟩
abbrev ti286:TI:=⟨.func,1,8,.nilFunc⟩
theorem tok286:TOK Tryz.prog 286 ti286:=⟨by kernel_rfl,by kernel_rfl,by kernel_rfl⟩
abbrev ti297:TI:=⟨.func,1,8,.nilFunc⟩
theorem Adp:TOK Tryz.prog 297 ti297:=⟨by kernel_rfl,by kernel_rfl,by kernel_rfl⟩
abbrev ti302:TI:=⟨.array 20 5,20,20,.agg #[.int .u8 0,.int .u8 0,.int .u8 0,.int .u8 0,.int .u8 0,.int .u8 0,.int .u8 0,.int .u8 0,.int .u8 0,.int .u8 0,.int .u8 0,.int .u8 0,.int .u8 0,.int .u8 0,.int .u8 0,.int .u8 0,.int .u8 0,.int .u8 0,.int .u8 0,.int .u8 0]⟩
theorem Xy:TOK Tryz.prog 302 ti302:=⟨by kernel_rfl,by kernel_rfl,by kernel_rfl⟩
abbrev ti303:TI:=⟨.func,1,8,.nilFunc⟩
theorem Ado:TOK Tryz.prog 303 ti303:=⟨by kernel_rfl,by kernel_rfl,by kernel_rfl⟩
abbrev ti313:TI:=⟨.array 4 9,4,64,.agg #[.string ⟨#[]⟩,.string ⟨#[]⟩,.string ⟨#[]⟩,.string ⟨#[]⟩]⟩
theorem Xx:TOK Tryz.prog 313 ti313:=⟨by kernel_rfl,by kernel_rfl,by kernel_rfl⟩
theorem ent11:Ent Tryz.prog 11:=.mk' Tryz.func11 (by kernel_rfl) (by kernel_rfl)
theorem ent12:Ent Tryz.prog 12:=.mk' Tryz.func12 (by kernel_rfl) (by kernel_rfl)
theorem Aco:Ent Tryz.prog 14:=.mk' Tryz.func14 (by kernel_rfl) (by kernel_rfl)
theorem Ars:Ent Tryz.prog 15:=.mk' Tryz.func15 (by kernel_rfl) (by kernel_rfl)
theorem Aip:Ent Tryz.prog 41:=.mk' Tryz.func41 (by kernel_rfl) (by kernel_rfl)
theorem Arb:Ent Tryz.prog 42:=.mk' Tryz.func42 (by kernel_rfl) (by kernel_rfl)
theorem ent43:Ent Tryz.prog 43:=.mk' Tryz.func43 (by kernel_rfl) (by kernel_rfl)
theorem ent44:Ent Tryz.prog 44:=.mk' Tryz.func44 (by kernel_rfl) (by kernel_rfl)
theorem ent45:Ent Tryz.prog 45:=.mk' Tryz.func45 (by kernel_rfl) (by kernel_rfl)
theorem ent46:Ent Tryz.prog 46:=.mk' Tryz.func46 (by kernel_rfl) (by kernel_rfl)
theorem ent47:Ent Tryz.prog 47:=.mk' Tryz.func47 (by kernel_rfl) (by kernel_rfl)
theorem ent48:Ent Tryz.prog 48:=.mk' Tryz.func48 (by kernel_rfl) (by kernel_rfl)
theorem ent50:Ent Tryz.prog 50:=.mk' Tryz.func50 (by kernel_rfl) (by kernel_rfl)
theorem ent51:Ent Tryz.prog 51:=.mk' Tryz.func51 (by kernel_rfl) (by kernel_rfl)
theorem ent52:Ent Tryz.prog 52:=.mk' Tryz.func52 (by kernel_rfl) (by kernel_rfl)
theorem ent53:Ent Tryz.prog 53:=.mk' Tryz.func53 (by kernel_rfl) (by kernel_rfl)
theorem ent54:Ent Tryz.prog 54:=.mk' Tryz.func54 (by kernel_rfl) (by kernel_rfl)
theorem ent55:Ent Tryz.prog 55:=.mk' Tryz.func55 (by kernel_rfl) (by kernel_rfl)
theorem ent57:Ent Tryz.prog 57:=.mk' Tryz.func57 (by kernel_rfl) (by kernel_rfl)
theorem Ail:Ent Tryz.prog 83:=.mk' Tryz.func83 (by kernel_rfl) (by kernel_rfl)
theorem ent96:Ent Tryz.prog 96:=.mk' Tryz.func96 (by kernel_rfl) (by kernel_rfl)
theorem ent97:Ent Tryz.prog 97:=.mk' Tryz.func97 (by kernel_rfl) (by kernel_rfl)
theorem ent98:Ent Tryz.prog 98:=.mk' Tryz.func98 (by kernel_rfl) (by kernel_rfl)
theorem ent99:Ent Tryz.prog 99:=.mk' Tryz.func99 (by kernel_rfl) (by kernel_rfl)
theorem Up:Ent Tryz.prog 100:=.mk' Tryz.func100 (by kernel_rfl) (by kernel_rfl)
theorem Auc:Ent Tryz.prog 101:=.mk' Tryz.func101 (by kernel_rfl) (by kernel_rfl)
theorem Aub:Ent Tryz.prog 102:=.mk' Tryz.func102 (by kernel_rfl) (by kernel_rfl)
theorem Afy:Ent Tryz.prog 103:=.mk' Tryz.func103 (by kernel_rfl) (by kernel_rfl)
theorem Aua:Ent Tryz.prog 104:=.mk' Tryz.func104 (by kernel_rfl) (by kernel_rfl)
theorem ent106:Ent Tryz.prog 106:=.mk' Tryz.func106 (by kernel_rfl) (by kernel_rfl)
theorem Zm:Ent Tryz.prog 107:=.mk' Tryz.func107 (by kernel_rfl) (by kernel_rfl)
theorem Arv:Ent Tryz.prog 130:=.mk' Tryz.func130 (by kernel_rfl) (by kernel_rfl)
theorem Aru:Ent Tryz.prog 133:=.mk' Tryz.func133 (by kernel_rfl) (by kernel_rfl)
theorem ent144:Ent Tryz.prog 144:=.mk' Tryz.func144 (by kernel_rfl) (by kernel_rfl)
theorem Arr:Ent Tryz.prog 150:=.mk' Tryz.func150 (by kernel_rfl) (by kernel_rfl)
theorem Afx:Ent Tryz.prog 151:=.mk' Tryz.func151 (by kernel_rfl) (by kernel_rfl)
theorem ent152:Ent Tryz.prog 152:=.mk' Tryz.func152 (by kernel_rfl) (by kernel_rfl)
theorem Arq:Ent Tryz.prog 153:=.mk' Tryz.func153 (by kernel_rfl) (by kernel_rfl)
theorem Arp:Ent Tryz.prog 155:=.mk' Tryz.func155 (by kernel_rfl) (by kernel_rfl)
theorem ent165:Ent Tryz.prog 165:=.mk' Tryz.func165 (by kernel_rfl) (by kernel_rfl)
theorem Arn:Ent Tryz.prog 166:=.mk' Tryz.func166 (by kernel_rfl) (by kernel_rfl)
theorem ent170:Ent Tryz.prog 170:=.mk' Tryz.func170 (by kernel_rfl) (by kernel_rfl)
theorem ent171:Ent Tryz.prog 171:=.mk' Tryz.func171 (by kernel_rfl) (by kernel_rfl)
theorem ent172:Ent Tryz.prog 172:=.mk' Tryz.func172 (by kernel_rfl) (by kernel_rfl)
theorem Ul:Ent Tryz.prog 184:=.mk' Tryz.func184 (by kernel_rfl) (by kernel_rfl)
theorem Mb:Ent Tryz.prog 185:=.mk' Tryz.func185 (by kernel_rfl) (by kernel_rfl)
theorem Uk:Ent Tryz.prog 186:=.mk' Tryz.func186 (by kernel_rfl) (by kernel_rfl)
theorem Zj:Ent Tryz.prog 187:=.mk' Tryz.func187 (by kernel_rfl) (by kernel_rfl)
theorem Arl:Ent Tryz.prog 188:=.mk' Tryz.func188 (by kernel_rfl) (by kernel_rfl)
theorem ent189:Ent Tryz.prog 189:=.mk' Tryz.func189 (by kernel_rfl) (by kernel_rfl)
theorem ent191:Ent Tryz.prog 191:=.mk' Tryz.func191 (by kernel_rfl) (by kernel_rfl)
theorem Ark:Ent Tryz.prog 192:=.mk' Tryz.func192 (by kernel_rfl) (by kernel_rfl)
theorem Arj:Ent Tryz.prog 193:=.mk' Tryz.func193 (by kernel_rfl) (by kernel_rfl)
theorem Ari:Ent Tryz.prog 194:=.mk' Tryz.func194 (by kernel_rfl) (by kernel_rfl)
theorem ent211:Ent Tryz.prog 211:=.mk' Tryz.func211 (by kernel_rfl) (by kernel_rfl)
theorem ent212:Ent Tryz.prog 212:=.mk' Tryz.func212 (by kernel_rfl) (by kernel_rfl)
theorem ent213:Ent Tryz.prog 213:=.mk' Tryz.func213 (by kernel_rfl) (by kernel_rfl)
theorem Afw:Ent Tryz.prog 214:=.mk' Tryz.func214 (by kernel_rfl) (by kernel_rfl)
theorem ent215:Ent Tryz.prog 215:=.mk' Tryz.func215 (by kernel_rfl) (by kernel_rfl)
theorem Qn:Ent Tryz.prog 216:=.mk' Tryz.func216 (by kernel_rfl) (by kernel_rfl)
theorem Arh:Ent Tryz.prog 217:=.mk' Tryz.func217 (by kernel_rfl) (by kernel_rfl)
theorem Zi:Ent Tryz.prog 218:=.mk' Tryz.func218 (by kernel_rfl) (by kernel_rfl)
theorem Afv:Ent Tryz.prog 219:=.mk' Tryz.func219 (by kernel_rfl) (by kernel_rfl)
theorem ent220:Ent Tryz.prog 220:=.mk' Tryz.func220 (by kernel_rfl) (by kernel_rfl)
theorem ent221:Ent Tryz.prog 221:=.mk' Tryz.func221 (by kernel_rfl) (by kernel_rfl)
theorem Arf:Ent Tryz.prog 227:=.mk' Tryz.func227 (by kernel_rfl) (by kernel_rfl)
theorem ent228:Ent Tryz.prog 228:=.mk' Tryz.func228 (by kernel_rfl) (by kernel_rfl)
theorem Are:Ent Tryz.prog 229:=.mk' Tryz.func229 (by kernel_rfl) (by kernel_rfl)
theorem ent230:Ent Tryz.prog 230:=.mk' Tryz.func230 (by kernel_rfl) (by kernel_rfl)
theorem ent231:Ent Tryz.prog 231:=.mk' Tryz.func231 (by kernel_rfl) (by kernel_rfl)
theorem Ard:Ent Tryz.prog 232:=.mk' Tryz.func232 (by kernel_rfl) (by kernel_rfl)
theorem ent233:Ent Tryz.prog 233:=.mk' Tryz.func233 (by kernel_rfl) (by kernel_rfl)
theorem Afu:Ent Tryz.prog 234:=.mk' Tryz.func234 (by kernel_rfl) (by kernel_rfl)
theorem Aft:Ent Tryz.prog 235:=.mk' Tryz.func235 (by kernel_rfl) (by kernel_rfl)
theorem Arc:Ent Tryz.prog 236:=.mk' Tryz.func236 (by kernel_rfl) (by kernel_rfl)
theorem Afs:Ent Tryz.prog 237:=.mk' Tryz.func237 (by kernel_rfl) (by kernel_rfl)
theorem ent238:Ent Tryz.prog 238:=.mk' Tryz.func238 (by kernel_rfl) (by kernel_rfl)
theorem ent239:Ent Tryz.prog 239:=.mk' Tryz.func239 (by kernel_rfl) (by kernel_rfl)
theorem ent241:Ent Tryz.prog 241:=.mk' Tryz.func241 (by kernel_rfl) (by kernel_rfl)
theorem ent242:Ent Tryz.prog 242:=.mk' Tryz.func242 (by kernel_rfl) (by kernel_rfl)
instance:CT Tryz.prog 3 ti3:=⟨Cq⟩
instance:CT Tryz.prog 4 ti4:=⟨Amq⟩
instance:CT Tryz.prog 5 ti5:=⟨Cl⟩
instance:CT Tryz.prog 9 ti9:=⟨Ej⟩
instance:CT Tryz.prog 22 ti22:=⟨Co⟩
instance:CT Tryz.prog 23 ti23:=⟨H4⟩
instance:CT Tryz.prog 24 ti24:=⟨E8⟩
instance:CT Tryz.prog 26 ti26:=⟨Bi⟩
instance:CT Tryz.prog 27 ti27:=⟨Ng⟩
instance:CT Tryz.prog 32 ti32:=⟨La⟩
instance:CT Tryz.prog 76 ti76:=⟨Oj⟩
instance:CT Tryz.prog 77 ti77:=⟨Qz⟩
instance:CT Tryz.prog 79 ti79:=⟨Du⟩
instance:CT Tryz.prog 99 ti99:=⟨Sk⟩
instance:CT Tryz.prog 101 ti101:=⟨Pw⟩
instance:CT Tryz.prog 103 ti103:=⟨Pv⟩
instance:CT Tryz.prog 174 ti174:=⟨Amt⟩
instance:CT Tryz.prog 185 ti185:=⟨Lm⟩
instance:CT Tryz.prog 189 Amy:=⟨Fa⟩
instance:CT Tryz.prog 190 ti190:=⟨X0⟩
instance:CT Tryz.prog 191 ti191:=⟨Dl⟩
instance:CT Tryz.prog 193 ti193:=⟨Aw⟩
instance:CT Tryz.prog 244 ti244:=⟨Xz⟩
instance:CT Tryz.prog 262 ti262:=⟨Adq⟩
instance:CT Tryz.prog 282 Amw:=⟨I6⟩
instance:CT Tryz.prog 286 ti286:=⟨tok286⟩
instance:CT Tryz.prog 297 ti297:=⟨Adp⟩
instance:CT Tryz.prog 302 ti302:=⟨Xy⟩
instance:CT Tryz.prog 303 ti303:=⟨Ado⟩
instance:CT Tryz.prog 313 ti313:=⟨Xx⟩
open Go Go.Y Go.ChangeShapes Go.WideShapes Go.ChangeAt Go.RowKit
set_option maxRecDepth 100000
section
variable {H:Type} {enc:TypeId × Value→H}
theorem Vh {a:Assume} {C:Checked} {os:Os} {f:FuncId} {fn:Func} {s:ChangeSpec} {conds:List PathCond} {apart fresh handsOn again:Bool} {X:World→Array Value→Prop}
  (hX:∀ (w w':World) (args:Array Value),w.heap=w'.heap→X w args→X w' args)
  (own:ownKnob C.prog.godebug=none) (started:os.Started) (noInit:C.prog.inits.idxOf? f=none) (hfn:C.prog.funcs[f]?=some fn)
  (witness:∃ (w:World) (tape:Tape) (i:Input),w.os=os∧(w.forCall tape i).Shaped C.prog∧i.vars=[]∧Input.okWide C.prog (w.forCall tape i) .any w.heap.size f i ∧
   ((s.pre enc C.prog fn conds apart (w.forCall tape i).memory i.args∧X (w.forCall tape i).memory i.args)∧sizedMet enc C.prog fn (OpenSpec.ofChange s) apart (w.forCall tape i).memory i.args)∧a.holds C.prog (lone (Frame.enter C.prog f i.args .normal) [] (w.forCall tape i)))
  (contract:∀ (W:World) (base:Nat) (args:Array Value) (ds gs:List (DataW H)) (before:List MemPlace),
   (∀ (j:Nat) t v,fn.params[j]?=some t→args[j]?=some v→Value.okWide C.prog W .any base t v) →
   DataW.Whole enc C.prog fn.params.toList s.vars apart W args.toList ds gs before→W.ShapedOpen C.prog→X W args →
   Calls C.prog f args W fun e W'=>∃ v,e=.returned v∧s.post enc C.prog fn apart fresh handsOn again W args v W') :
  ReturnsInHanded a C os f .any (fun w args=>(s.pre enc C.prog fn conds apart w args∧X w args)∧sizedMet enc C.prog fn (OpenSpec.ofChange s) apart w args) (s.post enc C.prog fn apart fresh handsOn again):=by
 refine returnsInHanded_of_calls own started noInit witness ?_;intro w tape i _ hsh _ hok hpre _;obtain ⟨_,_,_,fn',hfn',_,_,_,_,hval⟩:=hok;have e:fn' = fn:=Option.some.inj (hfn'.symm.trans hfn);subst e;obtain ⟨⟨⟨ds,gs,before,hw,_⟩,hx⟩,_⟩:=hpre;have hw':=DataW.Whole.of_heap (w':=w.forCall tape i) (by rfl) hw;refine (contract (w.forCall tape i) w.heap.size i.args ds gs before hval hw' hsh (hX _ _ _ (by rfl) hx)).mono fun e W' ⟨v,he,hp⟩=>?_;subst he
 exact ChangeSpec.post_blind hp
end
abbrev Abw:List (String × DataW Unit):=[("math/bits.deBruijn32tab",Rows.laid_math_bits_deBruijn32tab),("math/bits.deBruijn64tab",Rows.laid_math_bits_deBruijn64tab),("internal/strconv.uint64pow10",Rows.laid_internal_strconv_uint64pow10),("unicode/utf8.acceptRanges",Rows.laid_unicode_utf8_acceptRanges),("strconv.ErrRange",Rows.laid_strconv_ErrRange),("strconv.ErrSyntax",Rows.laid_strconv_ErrSyntax),("unicode/utf8.first",Rows.laid_unicode_utf8_first)]
theorem own:ownKnob Tryz.prog.godebug=none:=by kernel_rfl
theorem gTab:Tryz.prog.globalNamed "internal/strconv.uint64pow10" = some 0:=by kernel_rfl
theorem gSyn:Tryz.prog.globalNamed "strconv.ErrSyntax" = some 2:=by kernel_rfl
theorem gRng:Tryz.prog.globalNamed "strconv.ErrRange" = some 3:=by kernel_rfl
theorem tTab:((Tryz.prog.globals[0]?).map (·.type)).map (tk Tryz.prog)=some (.array 20 23):=by kernel_rfl
theorem tSyn:((Tryz.prog.globals[2]?).map (·.type)).map (tk Tryz.prog)=some .iface:=by kernel_rfl
theorem tRng:((Tryz.prog.globals[3]?).map (·.type)).map (tk Tryz.prog)=some .iface:=by kernel_rfl
theorem nTab:((Tryz.prog.globals[0]?).map (·.type)).map Tryz.prog.cellsOf=some 20:=by kernel_rfl
theorem c27:Tryz.prog.cellsOf 23=1:=by kernel_rfl
theorem shMax:((begin Tryz.prog (fun _ _=>0) default).world.heap[1]?).bind Obj.row?=some (#[.int .i64 0],3):=by kernel_rfl
theorem szG:decide (1 < Tryz.prog.globals.size)=true:=by kernel_rfl
theorem bMax:Tryz.prog.buildable 3=true:=by kernel_rfl
theorem tyMax:Tryz.prog.cellTypes Tryz.prog.depth 3=some [3]:=by kernel_rfl
theorem Rm {P:Program} {ty:TypeId} (hi:tk P ty=.iface):∃ ms,P.underlying ty=some (.interface ms):=by
 unfold tk at hi
 split at hi <;> simp_all
theorem Amn {P:Program} {W:World} {n:String} {g:Nat} {cs:Array Value} (hg:P.globalNamed n=some g) (h:W.var? P n=some cs):∃ t f,W.heap[g]?=some (.cells cs t f):=by
 simp only [World.var?,hg,Option.bind_some] at h
 split at h
 ·rename_i cs' t f hh
  simp only [Option.some.injEq] at h;subst h
  exact ⟨t,f,hh⟩
 cases h
theorem tabData:(Rows.laid_internal_strconv_uint64pow10:DataW Unit)=.agg (Lib.pow10Tab.map fun z=>.lit (.int .u64 z)):=by kernel_rfl
theorem Ajh {W:World} {t fuel:Nat} {cs:List Value} {p:List MemPlace} (ht:tk Tryz.prog t=.array 20 23) (hn:Tryz.prog.cellsOf t=20)
  (h:DataW.trod (fun _=>()) Tryz.prog W 0 (fun _=>true) false fuel t cs=some (Rows.laid_internal_strconv_uint64pow10,p)):cs=Lib.pow10Tab.map fun z=>Value.int .u64 z:=by
 obtain ⟨xs,m,_,hx,hlen,hn',hel⟩:=DataW.trod_array (Dz ht) h;rw [tabData] at hx;simp only [Prod.mk.injEq,DataW.agg.injEq] at hx;have hx1:=hx.1;rw [hn] at hlen;have hp:=Lib.pow10Tab_length
 apply List.ext_getElem?
 intro i
 rcases Nat.lt_or_ge i 20 with hi | hi
 ·have h1:=hel i hi;rw [c27,Nat.mul_one] at h1;have hix:i < xs.length:=by omega
  have hip:i < Lib.pow10Tab.length:=by omega
  rw [List.getElem?_eq_getElem hix] at h1;obtain ⟨k,e1,e2,_⟩:=DataW.trod_int (Bo H4.k) h1;have h2:(xs.map (·.1))[i]?=some (.lit (.int .u64 k)):=by rw [List.getElem?_map,List.getElem?_eq_getElem hix,e2];rfl
  rw [← hx1,List.getElem?_map,List.getElem?_eq_getElem hip] at h2;simp only [Option.map_some,Option.some.injEq,DataW.lit.injEq,Lit.int.injEq,true_and] at h2;have h3:cs[i]?=some (.int .u64 k):=by
   have h4:((cs.drop i).take 1)[0]?=some (.int .u64 k):=by rw [e1];rfl
   rw [List.getElem?_take,if_pos (by omega),List.getElem?_drop] at h4
   simpa using h4
  rw [h3,List.getElem?_map,List.getElem?_eq_getElem hip,← h2]
  rfl
 rw [List.getElem?_eq_none (by omega),List.getElem?_eq_none (by rw [List.length_map];omega)]
theorem Aqo {W:World} (h:laidMetH Tryz.prog Abw W) (hs:W.ShapedOpen Tryz.prog):Globs 0 1 2 3 (G0 W):=by
 rw [MakeChecks.laidMetH_plain _ _ _ (by kernel_rfl)] at h;obtain ⟨ps,⟨_,_,_,_,_,_,_,_,_,_,⟨_,_,_,_,_,_,_,_,_,_,⟨g2,t2,cs2,f2,p2,q2,hg2,ht2,hv2,hd2,⟨_,_,_,_,_,_,_,_,_,_,⟨g3,t3,cs3,f3,p3,q3,hg3,ht3,hv3,hd3,⟨g4,t4,cs4,f4,p4,q4,hg4,ht4,hv4,hd4,_⟩,_⟩,_⟩,_⟩,_⟩,_⟩,_⟩:=h;obtain rfl:=Option.some.inj (gTab.symm.trans hg2);obtain rfl:=Option.some.inj (gRng.symm.trans hg3);obtain rfl:=Option.some.inj (gSyn.symm.trans hg4);have k2:=tTab;have n2:=nTab;have k3:=tRng;have k4:=tSyn;rw [ht2] at k2 n2;rw [ht3] at k3;rw [ht4] at k4;simp only [Option.map_some,Option.some.injEq] at k2 n2 k3 k4;refine ⟨?_,?_,?_,?_⟩
 ·obtain ⟨t,f,hh⟩:=Amn hg2 hv2;have:=Ajh k2 n2 hd2;refine ⟨t,f,?_⟩
  show W.heap[0]?=_
  rw [hh,← this]
 ·obtain ⟨cs,h1,h2,h3⟩:=hs.1 1 _ _ (dT szG) shMax;obtain ⟨ts,e1,_,e3⟩:=h3 bMax;rw [tyMax] at e1;simp only [Option.some.injEq] at e1;subst e1;have hz:0 < cs.size:=by rw [h2];exact Nat.one_pos
  obtain ⟨v,h0⟩:∃ v,cs[0]?=some v:=⟨_,Array.getElem?_eq_getElem hz⟩;obtain ⟨u,e4,e5⟩:=e3 0 v h0
  simp at e4
  subst e4;have hc:Hc (G0 W) 1 0=some v:=by
   rw [Pc]
   simp [World.cell?,h1,h0]
  unfold Cell.ok at e5;rw [Bo Cq.k] at e5;rw [hc]
  cases v <;> simp at e5
  obtain ⟨rfl,_⟩:=e5
  exact ⟨_,rfl⟩
 ·obtain ⟨ms,hm⟩:=Rm k4;obtain ⟨_,u,v,hc,_⟩:=iface_of_trod hm hd4;refine ⟨.iface u v,?_,Or.inr ⟨_,_,rfl⟩⟩;rw [Pc];have:=World.var?_cell hg4 hv4 0;rw [Array.eq_one_of_toList hc] at this
  simpa using this
 obtain ⟨ms,hm⟩:=Rm k3;obtain ⟨_,u,v,hc,_⟩:=iface_of_trod hm hd3;refine ⟨.iface u v,?_,Or.inr ⟨_,_,rfl⟩⟩;rw [Pc];have:=World.var?_cell hg3 hv3 0;rw [Array.eq_one_of_toList hc] at this
 simpa using this
end Go.Proofs.YtmmhmcplegpenaaGreatDoor
namespace Go.Proofs.YtmmhmcplegpenaaGreatDoor.T
open Go Go.Y
structure AttrD where
 n:List UInt8
 v:List UInt8
def Dy:Rd AttrD:=fun _ cs x=>cs=[.string (str x.n),.string (str x.v)]∧x.n.length≤9223372036854775807∧x.v.length≤9223372036854775807
theorem Df:Ho Dy:=fun _ _ _ _ _ h=>h
structure SlotD where
 n:List UInt8
 src:Int
 v:List UInt8
def rdSlot:Rd SlotD:=fun _ cs x=>cs=[.string (str x.n),.int .u8 x.src,.string (str x.v)]∧x.n.length≤9223372036854775807∧Au .u8 x.src∧x.v.length≤9223372036854775807
theorem mono_rdSlot:Ho rdSlot:=fun _ _ _ _ _ h=>h
abbrev NT:=Tr AttrD
abbrev PT:=Tr SlotD
abbrev rdN:Rd NT:=rdT Dy 2
abbrev rdP:Rd PT:=rdT rdSlot 3
theorem D2:Ho rdN:=Abm Df
theorem mono_rdP:Ho rdP:=Abm mono_rdSlot
def C3 (c:UInt8):Prop:=(97≤nb c∧nb c≤122)∨(48≤nb c∧nb c≤57)
def Ck (s:List UInt8):Prop:=(1≤s.length∧s.length≤16)∧∀ c∈s,C3 c
def Ir (c:UInt8):Prop:=32≤nb c∧nb c≤126
def Str (s:List UInt8):Prop:=s.length≤64∧∀ c∈s,Ir c
theorem Str.nil:Str []:=⟨by simp,by simp⟩
theorem E1 {p:UInt8→Prop} {s:List UInt8} {i:Nat} {c:UInt8} (h:∀ (m:Nat) (b:UInt8),m < i→s[m]?=some b→p b) (hc:s[i]?=some c) (hp:p c):∀ (m:Nat) (b:UInt8),m < i+1→s[m]?=some b→p b:=by
 intro m b hm hb
 rcases Nat.lt_or_ge m i with h1 | h1
 ·exact h m b h1 hb
 have:m=i:=by omega
 subst this;rw [hc] at hb;simp only [Option.some.injEq] at hb;subst hb;exact hp
theorem D8 {p:UInt8→Prop} {s:List UInt8} {i:Nat} (h:∀ (m:Nat) (b:UInt8),m < i→s[m]?=some b→p b) (hi:s.length≤i):∀ c∈s,p c:=by
 intro c hc;obtain ⟨m,hm⟩:=List.mem_iff_getElem?.1 hc
 exact h m c (by have:=A0 hm;omega) hm
theorem F5 {p:UInt8→Prop} {s:List UInt8} {i:Nat} {c:UInt8} (hc:s[i]?=some c) (hp:¬ p c):¬ ∀ c∈s,p c:=fun h=>hp (h c (List.mem_of_getElem? hc))
def Hz (r:Nat):Bool:=decide ((r:Int) < 32) || decide (126 < (r:Int))
theorem Aib (l:List UInt8):∀ (f pos:Nat),l.length≤pos+f→(Lib.idxFuncFrom Hz true (str l) f pos < 0↔∀ (m:Nat) (b:UInt8),pos≤m→l[m]?=some b→Ir b)
 | 0,pos,h=>by
  have:Lib.idxFuncFrom Hz true (str l) 0 pos = -1:=rfl;rw [this];refine ⟨fun _ m b hm hb=>?_,fun _=>by decide⟩;have:=A0 hb;omega
 | f+1,pos,h=>by
  unfold Lib.idxFuncFrom
  by_cases hp:pos < (str l).size
  ·rw [if_pos hp];have hl:pos < l.length:=by rw [B5] at hp;exact hp
   have hb:l[pos]?=some ((str l)[pos]'hp):=by rw [← X3,getElem?_pos (str l) pos hp]
   generalize hB:(str l)[pos]'hp=B at hb
   by_cases ha:B.toNat < 128
   ·have hd:=decode_ascii (str l) pos hp (by rw [hB];exact ha);rw [hB] at hd;rw [hd]
    by_cases hg:Ir B
    ·have hbad:Hz B.toNat=false:=by
      obtain ⟨h1,h2⟩:=hg;simp only [nb] at h1 h2;simp only [Hz,Bool.or_eq_false_iff,decide_eq_false_iff_not]
      omega
     simp only [hbad,Bool.false_eq_true,if_false];rw [Aib l f (pos+1) (by omega)]
     constructor
     ·intro h1 m b hm hb'
      rcases Nat.eq_or_lt_of_le hm with e | e
      ·subst e;rw [hb] at hb';simp only [Option.some.injEq] at hb';subst hb';exact hg
      ·exact h1 m b (by omega) hb'
     ·exact fun h1 m b hm hb'=>h1 m b (by omega) hb'
    ·have hbad:Hz B.toNat=true:=by
      simp only [Ir,nb] at hg;simp only [Hz,Bool.or_eq_true,decide_eq_true_eq]
      omega
     simp only [hbad,if_true];refine ⟨fun h1=>by omega,fun h1=>absurd (h1 pos B (Nat.le_refl _) hb) hg⟩
   ·have hd:=(decode_high (str l) pos hp (by rw [hB];omega)).1;have hbad:Hz (Utf8.decode (str l) pos).1=true:=by
     simp only [Hz,Bool.or_eq_true,decide_eq_true_eq]
     omega
    simp only [hbad,if_true];refine ⟨fun h1=>by omega,fun h1=>?_⟩;have:=(h1 pos B (Nat.le_refl _) hb).2;simp only [nb] at this;omega
  ·rw [if_neg hp];refine ⟨fun _ m b hm hb=>?_,fun _=>by decide⟩;have:=A0 hb;rw [B5] at hp;omega
theorem Zf (l:List UInt8):Lib.idxFunc Hz true (str l) < 0↔∀ c∈l,Ir c:=by
 unfold Lib.idxFunc;rw [Aib l _ 0 (by rw [B5];omega)]
 constructor
 ·intro h c hc;obtain ⟨m,hm⟩:=List.mem_iff_getElem?.1 hc
  exact h m c (Nat.zero_le _) hm
 exact fun h m b _ hb=>h b (List.mem_of_getElem? hb)
theorem Qs:∀ l:List UInt8,Op.bytesLess l l=false
 | []=>rfl
 | a::l=>by simp [Op.bytesLess,Qs l]
theorem Ux:∀ {a b c:List UInt8},Op.bytesLess a b=true→Op.bytesLess b c=true→Op.bytesLess a c=true
 | [],[],_,h,_=>by simp [Op.bytesLess] at h
 | [],_::_,[],_,h=>by simp [Op.bytesLess] at h
 | [],_::_,_::_,_,_=>by simp [Op.bytesLess]
 | _::_,[],_,h,_=>by simp [Op.bytesLess] at h
 | _::_,_::_,[],_,h=>by simp [Op.bytesLess] at h
 | x::a,y::b,z::c,h1,h2=>by
  simp only [Op.bytesLess,Bool.or_eq_true,Bool.and_eq_true,decide_eq_true_eq,beq_iff_eq] at h1 h2 ⊢
  rcases h1 with h1 | ⟨rfl,h1⟩
  ·rcases h2 with h2 | ⟨rfl,h2⟩
   ·exact Or.inl (UInt8.lt_trans h1 h2)
   ·exact Or.inl h1
  ·rcases h2 with h2 | ⟨rfl,h2⟩
   ·exact Or.inl h2
   ·exact Or.inr ⟨rfl,Ux h1 h2⟩
theorem Adc:∀ (a b:List UInt8),Op.bytesLess a b=true∨a=b∨Op.bytesLess b a=true
 | [],[]=>Or.inr (Or.inl rfl)
 | [],_::_=>Or.inl rfl
 | _::_,[]=>Or.inr (Or.inr rfl)
 | x::a,y::b=>by
  simp only [Op.bytesLess,Bool.or_eq_true,Bool.and_eq_true,decide_eq_true_eq,beq_iff_eq,List.cons.injEq]
  rcases UInt8.lt_or_lt_of_ne (a:=x) (b:=y) |> fun f=>(Decidable.em (x=y)).symm.imp f id with h | h
  ·rcases h with h | h
   ·exact Or.inl (Or.inl h)
   ·exact Or.inr (Or.inr (Or.inl h))
  ·subst h
   rcases Adc a b with h | h | h
   ·exact Or.inl (Or.inr ⟨rfl,h⟩)
   ·exact Or.inr (Or.inl ⟨rfl,h⟩)
   ·exact Or.inr (Or.inr (Or.inr ⟨rfl,h⟩))
theorem Fm {a b:List UInt8}:(Op.bytesLess a b || a==b)=true↔¬ Op.bytesLess b a=true:=by
 constructor
 ·intro h h2;simp only [Bool.or_eq_true,beq_iff_eq] at h
  rcases h with h | rfl
  ·have:=Ux h h2;rw [Qs] at this;cases this
  rw [Qs] at h2;cases h2
 intro h;simp only [Bool.or_eq_true,beq_iff_eq]
 rcases Adc a b with h1 | h1 | h1
 ·exact Or.inl h1
 ·exact Or.inr h1
 exact absurd h1 h
def Hq (l:List AttrD):Prop:=∀ (i:Nat) (x:AttrD),l[i]?=some x→(Ck x.n∧Str x.v)∧∀ y,0 < i→l[i - 1]?=some y→Op.bytesLess y.n x.n=true
def Of (l:List NT):Prop:=∀ (i j:Nat) (a b:NT),i < j→l[i]?=some a→l[j]?=some b→b.key≠[]→a.key≠b.key
def Hr (x:NT):Prop:=(x.kind=2∧Str x.text∧x.tag=[]∧x.key=[]∧x.as.length=0∧x.kids.length=0) ∨
 (¬ x.kind=2∧x.kind=1∧Ck x.tag∧(x.key=[]∨Ck x.key)∧x.text=[]∧x.as.length≤8∧x.kids.length≤16∧Hq x.as∧Of x.kids)
def Hm (x:NT):Prop:=Tr.Ok Hr 6 x∧x.size≤64
open Classical in
noncomputable def cntF (x:NT):Nat:=if Hm x then x.size else 0
theorem Me {x:NT}:0 < cntF x↔Hm x:=by
 unfold cntF
 split
 ·rename_i h;exact ⟨fun _=>h,fun _=>Tr.size_pos x⟩
 rename_i h;exact ⟨fun h2=>by omega,fun h2=>absurd h2 h⟩
theorem Hq.all {l:List AttrD} (h:Hq l):∀ (i k:Nat) (x y:AttrD),k < i→l[i]?=some x→l[k]?=some y→Op.bytesLess y.n x.n=true:=by
 intro i
 induction i with
 | zero=>intro k x y hk;omega
 | succ i ih =>
  intro k x y hk hx hy;obtain ⟨z,hz⟩:=Ap (xs:=l) (i:=i) (by have:=A0 hx;omega);have h1:=(h (i+1) x hx).2 z (by omega) hz
  rcases Nat.eq_or_lt_of_le (show k≤i by omega) with e | e
  ·subst e;rw [hz] at hy;simp only [Option.some.injEq] at hy;subst hy;exact h1
  ·exact Ux (ih k z y e hz hy) h1
def Hp (l:List AttrD) (i:Nat):Prop:=∀ (m:Nat) (x:AttrD),m < i→l[m]?=some x→(Ck x.n∧Str x.v)∧∀ y,0 < m→l[m - 1]?=some y→Op.bytesLess y.n x.n=true
theorem Hp.zero (l:List AttrD):Hp l 0:=fun m x h=>by omega
theorem Hp.step {l:List AttrD} {i:Nat} {x:AttrD} (h:Hp l i) (hx:l[i]?=some x) (hn:Ck x.n) (hv:Str x.v) (ho:∀ y,0 < i→l[i - 1]?=some y→Op.bytesLess y.n x.n=true):Hp l (i+1):=by
 intro m z hm hz
 rcases Nat.eq_or_lt_of_le (show m≤i by omega) with e | e
 ·subst e;rw [hx] at hz;simp only [Option.some.injEq] at hz;subst hz;exact ⟨⟨hn,hv⟩,ho⟩
 exact h m z e hz
theorem Hp.all {l:List AttrD} {i:Nat} (h:Hp l i) (hi:l.length≤i):Hq l:=fun m x hx=>h m x (by have:=A0 hx;omega) hx
theorem He {l:List AttrD} {i:Nat} {x:AttrD} (hx:l[i]?=some x) (h:¬ Ck x.n∨¬ Str x.v):¬ Hq l:=fun ho=>by
 have:=(ho i x hx).1
 rcases h with h | h
 ·exact h this.1
 exact h this.2
theorem M0 {l:List AttrD} {i k:Nat} {x y:AttrD} (hx:l[i]?=some x) (hy:l[k]?=some y) (hk:k < i) (h:¬ Op.bytesLess y.n x.n=true):¬ Hq l:=fun ho=>h (ho.all i k x y hk hx hy)
def Fb (l:List NT) (j:Nat):Prop:=∀ (i m:Nat) (a b:NT),i < m→m < j→l[i]?=some a→l[m]?=some b→b.key≠[]→a.key≠b.key
theorem Fb.zero (l:List NT):Fb l 0:=fun i m a b h1 h2=>by omega
theorem Fb.step {l:List NT} {j:Nat} {x:NT} (h:Fb l j) (hx:l[j]?=some x) (hn:x.key=[]∨∀ i a,i < j→l[i]?=some a→a.key≠x.key):Fb l (j+1):=by
 intro i m a b h1 h2 ha hb hk
 rcases Nat.eq_or_lt_of_le (show m≤j by omega) with e | e
 ·subst e;rw [hx] at hb;simp only [Option.some.injEq] at hb;subst hb
  rcases hn with hn | hn
  ·exact absurd hn hk
  exact hn i a h1 ha
 exact h i m a b h1 e ha hb hk
theorem Fb.all {l:List NT} {j:Nat} (h:Fb l j) (hj:l.length≤j):Of l:=fun i m a b h1 ha hb=>h i m a b h1 (by have:=A0 hb;omega) ha hb
theorem Y8 {l:List NT} {i j:Nat} {a b:NT} (h1:i < j) (ha:l[i]?=some a) (hb:l[j]?=some b) (hk:b.key≠[]) (he:a.key=b.key):¬ Of l:=fun h=>h i j a b h1 ha hb hk he
def Zu (l:List NT) (k:List UInt8):Prop:=∃ d∈l,d.key=k
theorem Qk {l:List NT} {j:Nat} {x:NT} (hx:l[j]?=some x) (hk:x.key≠[]) (h:Zu (l.take j) x.key):¬ Of l:=by
 obtain ⟨d,hd,he⟩:=h;obtain ⟨i,hi⟩:=List.mem_iff_getElem?.1 hd;rw [List.getElem?_take] at hi
 split at hi
 ·exact Y8 (by assumption) hi hx hk he
 cases hi
theorem Rp {l:List NT} {j:Nat} {x:NT} (h:¬ Zu (l.take j) x.key):∀ i a,i < j→l[i]?=some a→a.key≠x.key:=by
 intro i a hi ha e
 exact h ⟨a,List.mem_of_getElem? (by rw [List.getElem?_take,if_pos hi];exact ha),e⟩
def It (x:NT):Prop:=x.kind=1∧Ck x.tag∧(x.key=[]∨Ck x.key)∧x.text=[]∧x.as.length≤8∧x.kids.length≤16
theorem E4 {x:NT} (h:x.kind=2):Hr x↔(Str x.text∧x.tag=[]∧x.key=[]∧x.as.length=0∧x.kids.length=0):=by
 unfold Hr
 constructor
 ·rintro (⟨_,h⟩ | ⟨h1,_⟩)
  ·exact h
  exact absurd h h1
 exact fun h2=>Or.inl ⟨h,h2⟩
theorem Ev {x:NT} (h:¬ x.kind=2):Hr x↔(It x∧Hq x.as∧Of x.kids):=by
 unfold Hr It
 constructor
 ·rintro (⟨h1,_⟩ | ⟨_,a,b,c,d,e,f,g,i⟩)
  ·exact absurd h1 h
  exact ⟨⟨a,b,c,d,e,f⟩,g,i⟩
 rintro ⟨⟨a,b,c,d,e,f⟩,g,i⟩
 exact Or.inr ⟨h,a,b,c,d,e,f,g,i⟩
theorem Xn {x:NT} (h:Hr x):x.kids.length≤16∧x.as.length≤8:=by
 rcases h with ⟨_,_,_,_,h1,h2⟩ | ⟨_,_,_,_,_,h1,h2,_⟩ <;> omega
section
variable {β:Type} {A:Tr β→Prop}
theorem Apa {x:Tr β} {lev:Nat} (h:lev≤6):Tr.Ok A (7 - lev) x↔A x∧∀ c∈x.kids,Tr.Ok A (7 - (lev+1)) c:=by
 have e:7 - lev=(7 - (lev+1))+1:=by omega
 rw [e];exact Iff.rfl
theorem Kn {x:Tr β} {c lev:Nat} (h:6 < lev∨64 < c+1∨¬ A x):¬ (Tr.Ok A (7 - lev) x∧c+x.size≤64):=by
 rintro ⟨h1,h2⟩;have:=Tr.size_pos x
 rcases h with h | h | h
 ·rw [show 7 - lev=0 by omega] at h1;exact h1
 ·omega
 rcases Nat.lt_or_ge 6 lev with h3 | h3
 ·rw [show 7 - lev=0 by omega] at h1;exact h1
 exact h ((Apa h3).1 h1).1
theorem Vw {x X:Tr β} {i:Nat} (hX:x.kids[i]?=some X):Tr.sizes (x.kids.take i)+X.size+1≤x.size:=by
 have h1:=Tr.sizes_snoc hX;have h2:=Tr.sizes_take_le x.kids (i+1);rw [Tr.size_eq x];omega
theorem Rf {x X:Tr β} {i c lev:Nat} (hX:x.kids[i]?=some X) (hl:lev≤6) (h:¬ (Tr.Ok A (7 - (lev+1)) X∧c+1+Tr.sizes (x.kids.take i)+X.size≤64)):¬ (Tr.Ok A (7 - lev) x∧c+x.size≤64):=by
 rintro ⟨h1,h2⟩;have:=Vw hX
 exact h ⟨((Apa hl).1 h1).2 X (List.mem_of_getElem? hX),by omega⟩
theorem Abr {x:Tr β} {lev i:Nat} (hl:lev≤6) (hA:A x) (hi:x.kids.length≤i) (hO:∀ (m:Nat) (y:Tr β),m < i→x.kids[m]?=some y→Tr.Ok A (7 - (lev+1)) y):Tr.Ok A (7 - lev) x:=by
 refine (Apa hl).2 ⟨hA,fun c hc=>?_⟩;obtain ⟨m,hm⟩:=List.mem_iff_getElem?.1 hc
 exact hO m c (by have:=A0 hm;omega) hm
theorem Yw {l:List (Tr β)} {p:Tr β→Prop} {i:Nat} {X:Tr β} (h:∀ (m:Nat) (y:Tr β),m < i→l[m]?=some y→p y) (hX:l[i]?=some X) (hp:p X):∀ (m:Nat) (y:Tr β),m < i+1→l[m]?=some y→p y:=by
 intro m y hm hy
 rcases Nat.eq_or_lt_of_le (show m≤i by omega) with e | e
 ·subst e;rw [hX] at hy;simp only [Option.some.injEq] at hy;subst hy;exact hp
 exact h m y e hy
theorem Kt {x:Tr β} {i:Nat} (hi:x.kids.length≤i):Tr.sizes (x.kids.take i)+1=x.size:=by rw [List.take_of_length_le hi,Tr.size_eq]
theorem Acr {x:Tr β} {i:Nat} (hi:x.kids.length≤i):Tr.depths (x.kids.take i)+1=x.depth:=by rw [List.take_of_length_le hi,Tr.depth_eq]
structure Cnt (A:Tr β→Prop) (x:Tr β) (lev r:Nat):Prop where
 lo:1≤r
 hi:r≤1000+64 * lev
 ok:r≤64↔(Tr.Ok A lev x∧x.size≤64)
 eq:r≤64→r=x.size
theorem Cnt.bad {x:Tr β} {lev:Nat} (h:lev < 1∨¬ A x):Cnt A x lev 1000:=by
  refine ⟨by omega,by omega,⟨fun h2=>by omega,fun h2=>?_⟩,fun h2=>by omega⟩
  cases lev with
  | zero=>exact h2.1.elim
  | succ n => rcases h with h | h
              · omega
              · exact absurd h2.1.1 h
structure CntL (A:Tr β→Prop) (x:Tr β) (lev i c:Nat):Prop where
 lo:1≤c
 hi:c≤1000+64 * lev
 good:c≤64→c=1+Tr.sizes (x.kids.take i)∧∀ (m:Nat) (y:Tr β),m < i→x.kids[m]?=some y→Tr.Ok A (lev - 1) y
 bad:64 < c→¬ (Tr.Ok A lev x∧x.size≤64)
theorem CntL.zero {A:Tr β→Prop} (x:Tr β) (lev:Nat):CntL A x lev 0 1:=⟨by omega,by omega,fun _=>⟨by simp [Tr.sizes],fun m y h=>by omega⟩,fun h=>by omega⟩
theorem CntL.step {x X:Tr β} {lev i c r:Nat} (h:CntL A x lev i c) (hl:1≤lev) (hc:c≤64) (hX:x.kids[i]?=some X) (hr:Cnt A X (lev - 1) r):CntL A x lev (i+1) (c+r):=by
 obtain ⟨g1,g2⟩:=h.good hc;have hs:=Tr.sizes_snoc hX;have hk:=Vw hX;have hlo:=hr.lo;have hhi:=hr.hi;refine ⟨by omega,by omega,fun h2=>?_,fun h2=>?_⟩
 ·have h3:r≤64:=by omega
  exact ⟨by rw [hr.eq h3];omega,Yw g2 hX (hr.ok.1 h3).1⟩
 ·rintro ⟨h3,h4⟩;have h5:Tr.Ok A (lev - 1) X:=by
   cases lev with
   | zero=>omega
   | succ n=>exact h3.2 X (List.mem_of_getElem? hX)
  have h6:=hr.ok.2 ⟨h5,by omega⟩;have:=hr.eq h6
  omega
theorem CntL.done {x:Tr β} {lev i c:Nat} (h:CntL A x lev i c) (hl:1≤lev) (hA:A x) (hi:x.kids.length≤i∨64 < c):Cnt A x lev c:=by
 refine ⟨h.lo,h.hi,⟨fun h2=>?_,fun h2=>?_⟩,fun h2=>?_⟩
 ·obtain ⟨g1,g2⟩:=h.good h2;have hi':x.kids.length≤i:=by omega
  have:=Kt hi';refine ⟨?_,by omega⟩
  cases lev with
  | zero=>omega
  | succ n =>
   refine ⟨hA,fun y hy=>?_⟩;obtain ⟨m,hm⟩:=List.mem_iff_getElem?.1 hy
   exact g2 m y (by have:=A0 hm;omega) hm
 ·rcases Nat.lt_or_ge 64 c with h3 | h3
  ·exact absurd h2 (h.bad h3)
  ·exact h3
 ·obtain ⟨g1,_⟩:=h.good h2;have:=Kt (x:=x) (i:=i) (by omega)
  omega
end
open Classical in
noncomputable def Alq (x:NT):Nat:=if Hm x then x.depth else 0
theorem Acx {x:NT} (h:Hm x):cntF x=x.size:=by unfold cntF;rw [if_pos h]
theorem Sd {x:NT} (h:¬ Hm x):cntF x=0:=by unfold cntF;rw [if_neg h]
theorem Auj {x:NT} (h:Hm x):Alq x=x.depth:=by unfold Alq;rw [if_pos h]
theorem depF_no {x:NT} (h:¬ Hm x):Alq x=0:=by unfold Alq;rw [if_neg h]
open Classical in
noncomputable def Uu (x:NT):Int:=if Hm x then 0 else 14
theorem Pj {x:NT} (h:Hm x):Uu x=0:=by unfold Uu;rw [if_pos h]
theorem Ais {x:NT} (h:¬ Hm x):Uu x=14:=by unfold Uu;rw [if_neg h]
theorem Cnt.cntF {x:NT} {r:Nat} (h:Cnt Hr x 6 r):(64 < r→cntF x=0)∧(r≤64→cntF x=r):=by
 refine ⟨fun h1=>Sd fun h2=>?_,fun h1=>?_⟩
 ·have:=h.ok.2 h2;omega
 rw [Acx (h.ok.1 h1),h.eq h1]
end Go.Proofs.YtmmhmcplegpenaaGreatDoor.T
namespace Go.Proofs
open Go.Shelf
def Tryz.lays283_ren:Go.Shelf.Ren:=⟨fun | 283=>170 | n=>n,fun | 3=>3 | 9=>9 | 4=>4 | n=>n,fun | n=>n⟩
theorem Tryz.lays283:Go.Proofs.Lays.n283 Tryz.prog Tryz.lays283_ren:={
 mixed:=by kernel_rfl
 f283:=Tryz.func170.trans (congrArg some (by kernel_rfl))
 t3:=Tryz.underlying3
 a3:=Tryz.isAgg3
 z3:=Tryz.sizeOf3
 v3:=Tryz.zeroValue3
 t4:=Tryz.underlying4
 a4:=Tryz.isAgg4
 z4:=Tryz.sizeOf4
 v4:=Tryz.zeroValue4
 t9:=Tryz.underlying9
 a9:=Tryz.isAgg9
 z9:=Tryz.sizeOf9
 v9:=Tryz.zeroValue9 }
def Tryz.laysM284_ren:Go.Shelf.Ren:=⟨fun | 284=>171 | 129=>198 | 317=>197 | 318=>199 | n=>n,fun | 53=>23 | 3=>3 | 212=>269 | 0=>0 | 4=>4 | 46=>252 | 5=>5 | 9=>9 | n=>n,fun | 17=>0 | n=>n⟩
theorem Tryz.laysM284:Go.Proofs.LaysM.n284 Tryz.prog Tryz.laysM284_ren:={
 mixed:=by kernel_rfl
 f129:=Tryz.func198.trans (congrArg some (by kernel_rfl))
 f284:=Tryz.func171.trans (congrArg some (by kernel_rfl))
 f317:=Tryz.func197.trans (congrArg some (by kernel_rfl))
 f318:=Tryz.func199.trans (congrArg some (by kernel_rfl))
 t0:=Tryz.underlying0
 a0:=Tryz.isAgg0
 z0:=Tryz.sizeOf0
 v0:=Tryz.zeroValue0
 t3:=Tryz.underlying3
 a3:=Tryz.isAgg3
 z3:=Tryz.sizeOf3
 v3:=Tryz.zeroValue3
 t4:=Tryz.underlying4
 a4:=Tryz.isAgg4
 z4:=Tryz.sizeOf4
 v4:=Tryz.zeroValue4
 t5:=Tryz.underlying5
 a5:=Tryz.isAgg5
 z5:=Tryz.sizeOf5
 v5:=Tryz.zeroValue5
 t9:=Tryz.underlying9
 a9:=Tryz.isAgg9
 z9:=Tryz.sizeOf9
 v9:=Tryz.zeroValue9
 t46:=Tryz.underlying252
 a46:=Tryz.isAgg252
 z46:=Tryz.sizeOf252
 v46:=Tryz.zeroValue252
 t53:=Tryz.underlying23
 a53:=Tryz.isAgg23
 z53:=Tryz.sizeOf23
 v53:=Tryz.zeroValue23
 t212:=Tryz.underlying269
 a212:=Tryz.isAgg269
 z212:=Tryz.sizeOf269
 v212:=Tryz.zeroValue269
 g17:=by kernel_rfl
 i0:=by kernel_rfl
 i3:=by kernel_rfl
 i4:=by kernel_rfl
 i5:=by kernel_rfl
 i9:=by kernel_rfl
 i46:=by kernel_rfl
 i53:=by kernel_rfl
 i212:=by kernel_rfl
 m17:=by kernel_rfl }
def Tryz.lays285_ren:Go.Shelf.Ren:=⟨fun | 285=>172 | n=>n,fun | 37=>32 | 53=>23 | 3=>3 | 4=>4 | 51=>270 | 9=>9 | 5=>5 | 0=>0 | n=>n,fun | n=>n⟩
theorem Tryz.lays285:Go.Proofs.Lays.n285 Tryz.prog Tryz.lays285_ren:={
 mixed:=by kernel_rfl
 f285:=Tryz.func172.trans (congrArg some (by kernel_rfl))
 t0:=Tryz.underlying0
 a0:=Tryz.isAgg0
 z0:=Tryz.sizeOf0
 v0:=Tryz.zeroValue0
 t3:=Tryz.underlying3
 a3:=Tryz.isAgg3
 z3:=Tryz.sizeOf3
 v3:=Tryz.zeroValue3
 t4:=Tryz.underlying4
 a4:=Tryz.isAgg4
 z4:=Tryz.sizeOf4
 v4:=Tryz.zeroValue4
 t5:=Tryz.underlying5
 a5:=Tryz.isAgg5
 z5:=Tryz.sizeOf5
 v5:=Tryz.zeroValue5
 t9:=Tryz.underlying9
 a9:=Tryz.isAgg9
 z9:=Tryz.sizeOf9
 v9:=Tryz.zeroValue9
 t37:=Tryz.underlying32
 a37:=Tryz.isAgg32
 z37:=Tryz.sizeOf32
 v37:=Tryz.zeroValue32
 t51:=Tryz.underlying270
 a51:=Tryz.isAgg270
 z51:=Tryz.sizeOf270
 v51:=Tryz.zeroValue270
 t53:=Tryz.underlying23
 a53:=Tryz.isAgg23
 z53:=Tryz.sizeOf23
 v53:=Tryz.zeroValue23 }
def Tryz.laysM246_ren:Go.Shelf.Ren:=⟨fun | 246=>166 | 283=>170 | 284=>171 | 285=>172 | 286=>173 | 129=>198 | 317=>197 | 318=>199 | 319=>200 | 320=>201 | 337=>222 | 338=>223 | n=>n,fun | 2=>2 | 3=>3 | 9=>9 | 4=>4 | 171=>244 | 0=>0 | 53=>23 | 37=>32 | 5=>5 | 173=>247 | 212=>269 | 51=>270 | 20=>20 | 213=>271 | 46=>252 | 232=>307 | 233=>308 | n=>n,fun | 17=>0 | 18=>4 | 19=>5 | n=>n⟩
theorem Tryz.laysM246:Go.Proofs.LaysM.n246 Tryz.prog Tryz.laysM246_ren:={
 mixed:=by kernel_rfl
 f129:=Tryz.func198.trans (congrArg some (by kernel_rfl))
 f246:=Tryz.func166.trans (congrArg some (by kernel_rfl))
 f283:=Tryz.func170.trans (congrArg some (by kernel_rfl))
 f284:=Tryz.func171.trans (congrArg some (by kernel_rfl))
 f285:=Tryz.func172.trans (congrArg some (by kernel_rfl))
 f286:=Tryz.func173.trans (congrArg some (by kernel_rfl))
 f317:=Tryz.func197.trans (congrArg some (by kernel_rfl))
 f318:=Tryz.func199.trans (congrArg some (by kernel_rfl))
 f319:=Tryz.func200.trans (congrArg some (by kernel_rfl))
 f320:=Tryz.func201.trans (congrArg some (by kernel_rfl))
 f337:=Tryz.func222.trans (congrArg some (by kernel_rfl))
 f338:=Tryz.func223.trans (congrArg some (by kernel_rfl))
 t0:=Tryz.underlying0
 a0:=Tryz.isAgg0
 z0:=Tryz.sizeOf0
 v0:=Tryz.zeroValue0
 t2:=Tryz.underlying2
 a2:=Tryz.isAgg2
 z2:=Tryz.sizeOf2
 v2:=Tryz.zeroValue2
 t3:=Tryz.underlying3
 a3:=Tryz.isAgg3
 z3:=Tryz.sizeOf3
 v3:=Tryz.zeroValue3
 t4:=Tryz.underlying4
 a4:=Tryz.isAgg4
 z4:=Tryz.sizeOf4
 v4:=Tryz.zeroValue4
 t5:=Tryz.underlying5
 a5:=Tryz.isAgg5
 z5:=Tryz.sizeOf5
 v5:=Tryz.zeroValue5
 t9:=Tryz.underlying9
 a9:=Tryz.isAgg9
 z9:=Tryz.sizeOf9
 v9:=Tryz.zeroValue9
 t20:=Tryz.underlying20
 a20:=Tryz.isAgg20
 z20:=Tryz.sizeOf20
 v20:=Tryz.zeroValue20
 t37:=Tryz.underlying32
 a37:=Tryz.isAgg32
 z37:=Tryz.sizeOf32
 v37:=Tryz.zeroValue32
 t46:=Tryz.underlying252
 a46:=Tryz.isAgg252
 z46:=Tryz.sizeOf252
 v46:=Tryz.zeroValue252
 t51:=Tryz.underlying270
 a51:=Tryz.isAgg270
 z51:=Tryz.sizeOf270
 v51:=Tryz.zeroValue270
 t53:=Tryz.underlying23
 a53:=Tryz.isAgg23
 z53:=Tryz.sizeOf23
 v53:=Tryz.zeroValue23
 t171:=Tryz.underlying244
 a171:=Tryz.isAgg244
 z171:=Tryz.sizeOf244
 v171:=Tryz.zeroValue244
 t173:=Tryz.underlying247
 a173:=Tryz.isAgg247
 z173:=Tryz.sizeOf247
 v173:=Tryz.zeroValue247
 t212:=Tryz.underlying269
 a212:=Tryz.isAgg269
 z212:=Tryz.sizeOf269
 v212:=Tryz.zeroValue269
 t213:=Tryz.underlying271
 a213:=Tryz.isAgg271
 z213:=Tryz.sizeOf271
 t232:=Tryz.underlying307
 a232:=Tryz.isAgg307
 z232:=Tryz.sizeOf307
 v232:=Tryz.zeroValue307
 t233:=Tryz.underlying308
 a233:=Tryz.isAgg308
 z233:=Tryz.sizeOf308
 v233:=Tryz.zeroValue308
 g17:=by kernel_rfl
 g18:=by kernel_rfl
 g19:=by kernel_rfl
 i0:=by kernel_rfl
 i2:=by kernel_rfl
 i3:=by kernel_rfl
 i4:=by kernel_rfl
 i5:=by kernel_rfl
 i9:=by kernel_rfl
 i20:=by kernel_rfl
 i37:=by kernel_rfl
 i46:=by kernel_rfl
 i51:=by kernel_rfl
 i53:=by kernel_rfl
 i171:=by kernel_rfl
 i173:=by kernel_rfl
 i212:=by kernel_rfl
 i232:=by kernel_rfl
 i233:=by kernel_rfl
 m17:=by kernel_rfl
 m18:=by kernel_rfl
 m19:=by kernel_rfl }
def Tryz.lays156_ren:Go.Shelf.Ren:=⟨fun | 156=>97 | 165=>143 | 166=>41 | 169=>43 | 240=>96 | 241=>169 | 276=>142 | 277=>196 | n=>n,fun | 31=>24 | 9=>9 | 3=>3 | 4=>4 | 0=>0 | 20=>20 | 72=>101 | 76=>104 | 70=>99 | 37=>32 | 75=>103 | 127=>174 | 164=>227 | 5=>5 | 80=>107 | n=>n,fun | n=>n⟩
theorem Tryz.lays156:Go.Proofs.Lays.n156 Tryz.prog Tryz.lays156_ren:={
 mixed:=by kernel_rfl
 f156:=Tryz.func97.trans (congrArg some (by kernel_rfl))
 f165:=Tryz.func143.trans (congrArg some (by kernel_rfl))
 f166:=Tryz.func41.trans (congrArg some (by kernel_rfl))
 f169:=Tryz.func43.trans (congrArg some (by kernel_rfl))
 f240:=Tryz.func96.trans (congrArg some (by kernel_rfl))
 f241:=Tryz.func169.trans (congrArg some (by kernel_rfl))
 f276:=Tryz.func142.trans (congrArg some (by kernel_rfl))
 f277:=Tryz.func196.trans (congrArg some (by kernel_rfl))
 t0:=Tryz.underlying0
 a0:=Tryz.isAgg0
 z0:=Tryz.sizeOf0
 v0:=Tryz.zeroValue0
 t3:=Tryz.underlying3
 a3:=Tryz.isAgg3
 z3:=Tryz.sizeOf3
 v3:=Tryz.zeroValue3
 t4:=Tryz.underlying4
 a4:=Tryz.isAgg4
 z4:=Tryz.sizeOf4
 v4:=Tryz.zeroValue4
 t9:=Tryz.underlying9
 a9:=Tryz.isAgg9
 z9:=Tryz.sizeOf9
 v9:=Tryz.zeroValue9
 t20:=Tryz.underlying20
 a20:=Tryz.isAgg20
 z20:=Tryz.sizeOf20
 v20:=Tryz.zeroValue20
 t31:=Tryz.underlying24
 a31:=Tryz.isAgg24
 z31:=Tryz.sizeOf24
 v31:=Tryz.zeroValue24
 t37:=Tryz.underlying32
 a37:=Tryz.isAgg32
 z37:=Tryz.sizeOf32
 v37:=Tryz.zeroValue32
 t70:=Tryz.underlying99
 a70:=Tryz.isAgg99
 z70:=Tryz.sizeOf99
 v70:=Tryz.zeroValue99
 t72:=Tryz.underlying101
 a72:=Tryz.isAgg101
 z72:=Tryz.sizeOf101
 v72:=Tryz.zeroValue101
 t75:=Tryz.underlying103
 a75:=Tryz.isAgg103
 z75:=Tryz.sizeOf103
 v75:=Tryz.zeroValue103
 t76:=Tryz.underlying104
 a76:=Tryz.isAgg104
 z76:=Tryz.sizeOf104
 v76:=Tryz.zeroValue104
 t127:=Tryz.underlying174
 a127:=Tryz.isAgg174
 z127:=Tryz.sizeOf174
 v127:=Tryz.zeroValue174
 t164:=Tryz.underlying227
 a164:=Tryz.isAgg227
 z164:=Tryz.sizeOf227
 v164:=Tryz.zeroValue227 }
theorem Tryz.Builder_Extra_156:Builder.Extra Tryz.prog Tryz.lays156_ren:={
 sizeBuilder:=by kernel_rfl
 liesBuilder:=by kernel_rfl
 t5:=Tryz.underlying5
 a5:=Tryz.isAgg5
 z5:=Tryz.sizeOf5
 v5:=Tryz.zeroValue5
 infoByte:=by kernel_rfl
 cellsByte:=by kernel_rfl
 sizeByte:=by kernel_rfl
 neB5:=by decide }
def Tryz.laysPu14_ren:Go.Shelf.Ren:=⟨fun | 14=>101 | 16=>146 | 17=>147 | 19=>175 | 20=>176 | 21=>177 | 22=>178 | 23=>179 | 24=>180 | 25=>206 | 27=>83 | 26=>207 | 28=>133 | 29=>166 | 30=>170 | 31=>171 | 32=>172 | 33=>173 | 35=>198 | 34=>197 | 36=>199 | 37=>200 | 38=>201 | 39=>222 | 40=>223 | n=>n,fun | 9=>9 | 3=>3 | 22=>23 | 24=>103 | 25=>178 | 4=>4 | 34=>250 | 5=>5 | 36=>252 | 37=>32 | 0=>0 | 39=>253 | 21=>21 | 44=>277 | 47=>174 | 50=>296 | 48=>294 | 2=>2 | 52=>244 | 55=>247 | 59=>269 | 60=>270 | 20=>20 | 61=>271 | 65=>307 | 66=>308 | 67=>107 | n=>n,fun | 0=>2 | 1=>3 | 2=>0 | 3=>4 | 4=>5 | n=>n⟩
theorem Tryz.laysPu14:Go.Proofs.LaysPu.n14 Tryz.prog Tryz.laysPu14_ren:={
 mixed:=by kernel_rfl
 f14:=Tryz.func101.trans (congrArg some (by kernel_rfl))
 f16:=Tryz.func146.trans (congrArg some (by kernel_rfl))
 f17:=Tryz.func147.trans (congrArg some (by kernel_rfl))
 f19:=Tryz.func175.trans (congrArg some (by kernel_rfl))
 f20:=Tryz.func176.trans (congrArg some (by kernel_rfl))
 f21:=Tryz.func177.trans (congrArg some (by kernel_rfl))
 f22:=Tryz.func178.trans (congrArg some (by kernel_rfl))
 f23:=Tryz.func179.trans (congrArg some (by kernel_rfl))
 f24:=Tryz.func180.trans (congrArg some (by kernel_rfl))
 f25:=Tryz.func206.trans (congrArg some (by kernel_rfl))
 f26:=Tryz.func207.trans (congrArg some (by kernel_rfl))
 f27:=Tryz.func83.trans (congrArg some (by kernel_rfl))
 f28:=Tryz.func133.trans (congrArg some (by kernel_rfl))
 f29:=Tryz.func166.trans (congrArg some (by kernel_rfl))
 f30:=Tryz.func170.trans (congrArg some (by kernel_rfl))
 f31:=Tryz.func171.trans (congrArg some (by kernel_rfl))
 f32:=Tryz.func172.trans (congrArg some (by kernel_rfl))
 f33:=Tryz.func173.trans (congrArg some (by kernel_rfl))
 f34:=Tryz.func197.trans (congrArg some (by kernel_rfl))
 f35:=Tryz.func198.trans (congrArg some (by kernel_rfl))
 f36:=Tryz.func199.trans (congrArg some (by kernel_rfl))
 f37:=Tryz.func200.trans (congrArg some (by kernel_rfl))
 f38:=Tryz.func201.trans (congrArg some (by kernel_rfl))
 f39:=Tryz.func222.trans (congrArg some (by kernel_rfl))
 f40:=Tryz.func223.trans (congrArg some (by kernel_rfl))
 t0:=Tryz.underlying0
 a0:=Tryz.isAgg0
 z0:=Tryz.sizeOf0
 v0:=Tryz.zeroValue0
 i0:=by kernel_rfl
 t2:=Tryz.underlying2
 a2:=Tryz.isAgg2
 z2:=Tryz.sizeOf2
 v2:=Tryz.zeroValue2
 i2:=by kernel_rfl
 t3:=Tryz.underlying3
 a3:=Tryz.isAgg3
 z3:=Tryz.sizeOf3
 v3:=Tryz.zeroValue3
 i3:=by kernel_rfl
 t4:=Tryz.underlying4
 a4:=Tryz.isAgg4
 z4:=Tryz.sizeOf4
 v4:=Tryz.zeroValue4
 i4:=by kernel_rfl
 t5:=Tryz.underlying5
 a5:=Tryz.isAgg5
 z5:=Tryz.sizeOf5
 v5:=Tryz.zeroValue5
 i5:=by kernel_rfl
 t9:=Tryz.underlying9
 a9:=Tryz.isAgg9
 z9:=Tryz.sizeOf9
 v9:=Tryz.zeroValue9
 i9:=by kernel_rfl
 t20:=Tryz.underlying20
 a20:=Tryz.isAgg20
 z20:=Tryz.sizeOf20
 v20:=Tryz.zeroValue20
 i20:=by kernel_rfl
 t21:=Tryz.underlying21
 a21:=Tryz.isAgg21
 z21:=Tryz.sizeOf21
 v21:=Tryz.zeroValue21
 i21:=by kernel_rfl
 t22:=Tryz.underlying23
 a22:=Tryz.isAgg23
 z22:=Tryz.sizeOf23
 v22:=Tryz.zeroValue23
 i22:=by kernel_rfl
 t24:=Tryz.underlying103
 a24:=Tryz.isAgg103
 z24:=Tryz.sizeOf103
 v24:=Tryz.zeroValue103
 i24:=by kernel_rfl
 t25:=Tryz.underlying178
 a25:=Tryz.isAgg178
 z25:=Tryz.sizeOf178
 v25:=Tryz.zeroValue178
 i25:=by kernel_rfl
 t34:=Tryz.underlying250
 a34:=Tryz.isAgg250
 z34:=Tryz.sizeOf250
 v34:=Tryz.zeroValue250
 i34:=by kernel_rfl
 c34:=by kernel_rfl
 t36:=Tryz.underlying252
 a36:=Tryz.isAgg252
 z36:=Tryz.sizeOf252
 v36:=Tryz.zeroValue252
 i36:=by kernel_rfl
 t37:=Tryz.underlying32
 a37:=Tryz.isAgg32
 z37:=Tryz.sizeOf32
 v37:=Tryz.zeroValue32
 i37:=by kernel_rfl
 t39:=Tryz.underlying253
 a39:=Tryz.isAgg253
 z39:=Tryz.sizeOf253
 v39:=Tryz.zeroValue253
 i39:=by kernel_rfl
 t44:=Tryz.underlying277
 a44:=Tryz.isAgg277
 z44:=Tryz.sizeOf277
 v44:=Tryz.zeroValue277
 i44:=by kernel_rfl
 t47:=Tryz.underlying174
 a47:=Tryz.isAgg174
 z47:=Tryz.sizeOf174
 v47:=Tryz.zeroValue174
 i47:=by kernel_rfl
 t48:=Tryz.underlying294
 a48:=Tryz.isAgg294
 z48:=Tryz.sizeOf294
 v48:=Tryz.zeroValue294
 i48:=by kernel_rfl
 t50:=Tryz.underlying296
 a50:=Tryz.isAgg296
 z50:=Tryz.sizeOf296
 v50:=Tryz.zeroValue296
 i50:=by kernel_rfl
 t52:=Tryz.underlying244
 a52:=Tryz.isAgg244
 z52:=Tryz.sizeOf244
 v52:=Tryz.zeroValue244
 i52:=by kernel_rfl
 t55:=Tryz.underlying247
 a55:=Tryz.isAgg247
 z55:=Tryz.sizeOf247
 v55:=Tryz.zeroValue247
 i55:=by kernel_rfl
 t59:=Tryz.underlying269
 a59:=Tryz.isAgg269
 z59:=Tryz.sizeOf269
 v59:=Tryz.zeroValue269
 i59:=by kernel_rfl
 t60:=Tryz.underlying270
 a60:=Tryz.isAgg270
 z60:=Tryz.sizeOf270
 v60:=Tryz.zeroValue270
 i60:=by kernel_rfl
 t61:=Tryz.underlying271
 a61:=Tryz.isAgg271
 z61:=Tryz.sizeOf271
 t65:=Tryz.underlying307
 a65:=Tryz.isAgg307
 z65:=Tryz.sizeOf307
 v65:=Tryz.zeroValue307
 i65:=by kernel_rfl
 t66:=Tryz.underlying308
 a66:=Tryz.isAgg308
 z66:=Tryz.sizeOf308
 v66:=Tryz.zeroValue308
 i66:=by kernel_rfl
 t67:=Tryz.underlying107
 a67:=Tryz.isAgg107
 z67:=Tryz.sizeOf107
 v67:=Tryz.zeroValue107
 i67:=by kernel_rfl
 g0:=by kernel_rfl
 m0:=by kernel_rfl
 g1:=by kernel_rfl
 m1:=by kernel_rfl
 g2:=by kernel_rfl
 m2:=by kernel_rfl
 g3:=by kernel_rfl
 m3:=by kernel_rfl
 g4:=by kernel_rfl
 m4:=by kernel_rfl }
def Tryz.lays145_ren:Go.Shelf.Ren:=⟨fun | 145=>100 | 220=>145 | 219=>174 | 217=>202 | 225=>203 | 224=>204 | 267=>205 | 266=>224 | 314=>225 | n=>n,fun | 9=>9 | 4=>4 | 59=>176 | 3=>3 | 5=>5 | 46=>252 | 146=>292 | 51=>270 | n=>n,fun | 1=>1 | n=>n⟩
theorem Tryz.lays145:Go.Proofs.Lays.n145 Tryz.prog Tryz.lays145_ren:={
 mixed:=by kernel_rfl
 f145:=Tryz.func100.trans (congrArg some (by kernel_rfl))
 f217:=Tryz.func202.trans (congrArg some (by kernel_rfl))
 f219:=Tryz.func174.trans (congrArg some (by kernel_rfl))
 f220:=Tryz.func145.trans (congrArg some (by kernel_rfl))
 f224:=Tryz.func204.trans (congrArg some (by kernel_rfl))
 f225:=Tryz.func203.trans (congrArg some (by kernel_rfl))
 f266:=Tryz.func224.trans (congrArg some (by kernel_rfl))
 f267:=Tryz.func205.trans (congrArg some (by kernel_rfl))
 f314:=Tryz.func225.trans (congrArg some (by kernel_rfl))
 t3:=Tryz.underlying3
 a3:=Tryz.isAgg3
 z3:=Tryz.sizeOf3
 v3:=Tryz.zeroValue3
 t4:=Tryz.underlying4
 a4:=Tryz.isAgg4
 z4:=Tryz.sizeOf4
 v4:=Tryz.zeroValue4
 t5:=Tryz.underlying5
 a5:=Tryz.isAgg5
 z5:=Tryz.sizeOf5
 v5:=Tryz.zeroValue5
 t9:=Tryz.underlying9
 a9:=Tryz.isAgg9
 z9:=Tryz.sizeOf9
 v9:=Tryz.zeroValue9
 t46:=Tryz.underlying252
 a46:=Tryz.isAgg252
 z46:=Tryz.sizeOf252
 v46:=Tryz.zeroValue252
 t51:=Tryz.underlying270
 a51:=Tryz.isAgg270
 z51:=Tryz.sizeOf270
 v51:=Tryz.zeroValue270
 t59:=Tryz.underlying176
 a59:=Tryz.isAgg176
 z59:=Tryz.sizeOf176
 v59:=Tryz.zeroValue176
 t146:=Tryz.underlying292
 a146:=Tryz.isAgg292
 z146:=Tryz.sizeOf292
 v146:=Tryz.zeroValue292
 g1:=by kernel_rfl }
def Tryz.lays146_ren:Go.Shelf.Ren:=⟨fun | 146=>102 | 221=>148 | 268=>181 | 138=>182 | 143=>183 | 195=>208 | 197=>209 | 218=>210 | 219=>174 | 260=>226 | 217=>202 | 225=>203 | 224=>204 | 267=>205 | 266=>224 | 314=>225 | n=>n,fun | 9=>9 | 31=>24 | 3=>3 | 4=>4 | 0=>0 | 105=>279 | 21=>21 | 5=>5 | 46=>252 | 119=>309 | 139=>312 | 138=>311 | 146=>292 | 51=>270 | n=>n,fun | 1=>1 | 3=>6 | 4=>7 | n=>n⟩
theorem Tryz.lays146:Go.Proofs.Lays.n146 Tryz.prog Tryz.lays146_ren:={
 mixed:=by kernel_rfl
 f138:=Tryz.func182.trans (congrArg some (by kernel_rfl))
 f143:=Tryz.func183.trans (congrArg some (by kernel_rfl))
 f146:=Tryz.func102.trans (congrArg some (by kernel_rfl))
 f195:=Tryz.func208.trans (congrArg some (by kernel_rfl))
 f197:=Tryz.func209.trans (congrArg some (by kernel_rfl))
 f217:=Tryz.func202.trans (congrArg some (by kernel_rfl))
 f218:=Tryz.func210.trans (congrArg some (by kernel_rfl))
 f219:=Tryz.func174.trans (congrArg some (by kernel_rfl))
 f221:=Tryz.func148.trans (congrArg some (by kernel_rfl))
 f224:=Tryz.func204.trans (congrArg some (by kernel_rfl))
 f225:=Tryz.func203.trans (congrArg some (by kernel_rfl))
 f260:=Tryz.func226.trans (congrArg some (by kernel_rfl))
 f266:=Tryz.func224.trans (congrArg some (by kernel_rfl))
 f267:=Tryz.func205.trans (congrArg some (by kernel_rfl))
 f268:=Tryz.func181.trans (congrArg some (by kernel_rfl))
 f314:=Tryz.func225.trans (congrArg some (by kernel_rfl))
 t0:=Tryz.underlying0
 a0:=Tryz.isAgg0
 z0:=Tryz.sizeOf0
 v0:=Tryz.zeroValue0
 t3:=Tryz.underlying3
 a3:=Tryz.isAgg3
 z3:=Tryz.sizeOf3
 v3:=Tryz.zeroValue3
 t4:=Tryz.underlying4
 a4:=Tryz.isAgg4
 z4:=Tryz.sizeOf4
 v4:=Tryz.zeroValue4
 t5:=Tryz.underlying5
 a5:=Tryz.isAgg5
 z5:=Tryz.sizeOf5
 v5:=Tryz.zeroValue5
 t9:=Tryz.underlying9
 a9:=Tryz.isAgg9
 z9:=Tryz.sizeOf9
 v9:=Tryz.zeroValue9
 t21:=Tryz.underlying21
 a21:=Tryz.isAgg21
 z21:=Tryz.sizeOf21
 v21:=Tryz.zeroValue21
 t31:=Tryz.underlying24
 a31:=Tryz.isAgg24
 z31:=Tryz.sizeOf24
 v31:=Tryz.zeroValue24
 t46:=Tryz.underlying252
 a46:=Tryz.isAgg252
 z46:=Tryz.sizeOf252
 v46:=Tryz.zeroValue252
 t51:=Tryz.underlying270
 a51:=Tryz.isAgg270
 z51:=Tryz.sizeOf270
 v51:=Tryz.zeroValue270
 t105:=Tryz.underlying279
 a105:=Tryz.isAgg279
 z105:=Tryz.sizeOf279
 v105:=Tryz.zeroValue279
 t119:=Tryz.underlying309
 a119:=Tryz.isAgg309
 z119:=Tryz.sizeOf309
 t138:=Tryz.underlying311
 a138:=Tryz.isAgg311
 z138:=Tryz.sizeOf311
 v138:=Tryz.zeroValue311
 t139:=Tryz.underlying312
 a139:=Tryz.isAgg312
 z139:=Tryz.sizeOf312
 v139:=Tryz.zeroValue312
 t146:=Tryz.underlying292
 a146:=Tryz.isAgg292
 z146:=Tryz.sizeOf292
 v146:=Tryz.zeroValue292
 g1:=by kernel_rfl
 g3:=by kernel_rfl
 g4:=by kernel_rfl }
def Tryz.laysGw15_ren:Go.Shelf.Ren:=⟨fun | 15=>103 | 20=>149 | n=>n,fun | 9=>9 | 23=>115 | 3=>3 | 4=>4 | 0=>0 | 21=>21 | n=>n,fun | n=>n⟩
theorem Tryz.laysGw15:Go.Proofs.LaysGw.n15 Tryz.prog Tryz.laysGw15_ren:={
 mixed:=by kernel_rfl
 f15:=Tryz.func103.trans (congrArg some (by kernel_rfl))
 f20:=Tryz.func149.trans (congrArg some (by kernel_rfl))
 t0:=Tryz.underlying0
 a0:=Tryz.isAgg0
 z0:=Tryz.sizeOf0
 v0:=Tryz.zeroValue0
 i0:=by kernel_rfl
 t3:=Tryz.underlying3
 a3:=Tryz.isAgg3
 z3:=Tryz.sizeOf3
 v3:=Tryz.zeroValue3
 i3:=by kernel_rfl
 t4:=Tryz.underlying4
 a4:=Tryz.isAgg4
 z4:=Tryz.sizeOf4
 v4:=Tryz.zeroValue4
 i4:=by kernel_rfl
 t9:=Tryz.underlying9
 a9:=Tryz.isAgg9
 z9:=Tryz.sizeOf9
 v9:=Tryz.zeroValue9
 i9:=by kernel_rfl
 t21:=Tryz.underlying21
 a21:=Tryz.isAgg21
 z21:=Tryz.sizeOf21
 v21:=Tryz.zeroValue21
 i21:=by kernel_rfl
 t23:=Tryz.underlying115
 a23:=Tryz.isAgg115
 z23:=Tryz.sizeOf115
 v23:=Tryz.zeroValue115
 i23:=by kernel_rfl }
end Go.Proofs
namespace Go.Proofs.YtmmhmcplegpenaaGreatDoor.T
open Go Go.Y Go.Proofs
variable {w0 w:World} {G:Aq} {L:List Res}
set_option maxHeartbeats 1600000
theorem Acd (M:Mem w0 G L w) {c:UInt8}:Calls Tryz.prog 241 #[.int .u8 (nb c)] w (Bu w0 G L fun v=>∃ b:Bool,v=.bool b∧(b=true↔C3 c)):=by
 refine Al (vs:=[_]) Tryz.func241 rfl (n:=17) rfl rfl<|?_
 refine wk ?_
 rcases bE (decide (97≤nb c)) with h1b | h6b
 ·skip
  have h1:=dT h1b;refine wk ?_
  rcases bE (decide (nb c≤122)) with h2b | h3b
  ·skip
   have h2:=dT h2b;refine wk ?_;refine Ad rfl rfl<|?_
   exact ⟨M,true,rfl,⟨fun h_=>(by first | (cases h_;done) | (have h_:=dT h_;unfold C3;omega) | (unfold C3;omega)),fun h_=>(by unfold C3 at h_;first | rfl | (exact decide_eq_true (by omega)) | (exfalso;omega))⟩⟩
  have h3:=dF h3b;refine wk ?_
  rcases bE (decide (48≤nb c)) with h4b | h5b
  ·skip
   have h4:=dT h4b;refine wk ?_;refine Ad rfl rfl<|?_
   exact ⟨M,(decide (nb c≤57)),rfl,⟨fun h_=>(by first | (cases h_;done) | (have h_:=dT h_;unfold C3;omega) | (unfold C3;omega)),fun h_=>(by unfold C3 at h_;first | rfl | (exact decide_eq_true (by omega)) | (exfalso;omega))⟩⟩
  have h5:=dF h5b;refine wk ?_;refine Ad rfl rfl<|?_
  exact ⟨M,false,rfl,⟨fun h_=>(by first | (cases h_;done) | (have h_:=dT h_;unfold C3;omega) | (unfold C3;omega)),fun h_=>(by unfold C3 at h_;first | rfl | (exact decide_eq_true (by omega)) | (exfalso;omega))⟩⟩
 have h6:=dF h6b;refine wk ?_
 rcases bE (decide (48≤nb c)) with h7b | h8b
 ·skip
  have h7:=dT h7b;refine wk ?_;refine Ad rfl rfl<|?_
  exact ⟨M,(decide (nb c≤57)),rfl,⟨fun h_=>(by first | (cases h_;done) | (have h_:=dT h_;unfold C3;omega) | (unfold C3;omega)),fun h_=>(by unfold C3 at h_;first | rfl | (exact decide_eq_true (by omega)) | (exfalso;omega))⟩⟩
 have h8:=dF h8b;refine wk ?_;refine Ad rfl rfl<|?_
 exact ⟨M,false,rfl,⟨fun h_=>(by first | (cases h_;done) | (have h_:=dT h_;unfold C3;omega) | (unfold C3;omega)),fun h_=>(by unfold C3 at h_;first | rfl | (exact decide_eq_true (by omega)) | (exfalso;omega))⟩⟩
theorem L7 (M:Mem w0 G L w) {s:List UInt8} (hs:s.length≤9223372036854775807):Calls Tryz.prog 237 #[.string (str s)] w (Bu w0 G L fun v=>∃ b:Bool,v=.bool b∧(b=true↔Ck s)):=by
 refine Al (vs:=[_]) Tryz.func237 rfl (n:=23) rfl rfl<|?_
 refine wk ?_
 rcases bE (decide ((((s).length:Nat):Int) < 1)) with h1b | h2b
 ·skip
  have h1:=dT h1b;refine wk ?_;refine Ad rfl rfl<|?_
  exact ⟨M,false,rfl,⟨fun h_=>(by cases h_),fun h_=>(by have:=h_.1;omega)⟩⟩
 have h2:=dF h2b;refine wk ?_;refine qD rfl ?_ ?_
 ·intro h3;refine wk ?_;refine Ad rfl rfl<|?_
  exact ⟨M,false,rfl,⟨fun h_=>(by cases h_),fun h_=>(by have:=h_.1;omega)⟩⟩
 intro h4;refine wk ?_;refine fun a F=>Ba (fun m a' w'=>∃ (i:Nat),m=s.length - i∧Fits 23 a' [(0,.string (str s)),(13,.int .i64 ((((s).length:Nat):Int))),(14,.int .i64 ((i:Nat):Int))]∧Mem w0 G (L) w'∧(i≤s.length)∧(∀ (m:Nat) (b:UInt8),m < i→s[m]?=some b→C3 b)) _ ⟨0,rfl,F.to ⟨rfl,rfl,rfl,trivial⟩,M,Nat.zero_le _,fun m b h=>by omega⟩ ?_;clear F M;rintro m a w ⟨i,rfl,F,M,hi,hA⟩;revert a;refine wk ?_;refine qD rfl ?_ ?_
 ·intro h5;refine wk ?_;obtain ⟨B6,hB6⟩:=Ap (xs:=(s)) (i:=i) (by omega);have lB6:=Wi B6;refine Am (fun a F=>C4 (i:=i) Ej.k (F.ev rfl) (F.ev rfl) hB6) rfl<|A4 ent241 rfl rfl (Acd (c:=B6) M)<|?_;clear M;rintro _ w M ⟨b7,rfl,hb7⟩
  refine wk ?_;refine Ae rfl ?_ ?_
  ·intro h8b;have h8:=Ab h8b;have h8c:(b7)=false:=(Ab h8b);refine wk ?_;refine Ad rfl rfl<|?_
   exact ⟨M,false,rfl,⟨fun h_=>(by cases h_),fun h_=>absurd h_.2 (F5 hB6 (fun h9=>by have h8:=hb7.2 h9;simp_all))⟩⟩
  intro h9b;have h9:=Ac h9b;have h9c:(b7)=true:=(Ac h9b);refine wk ?_;intro a F
  exact ⟨_,by omega,i+1,rfl,F.to ⟨rfl,rfl,rfl,trivial⟩,M,by omega,E1 hA hB6 (by first | exact hb7.1 (by assumption) | (unfold C3;omega))⟩
 intro h10;refine wk ?_;refine Ad rfl rfl<|?_
 exact ⟨M,true,rfl,⟨fun _=>⟨(by omega),D8 hA (by omega)⟩,fun _=>rfl⟩⟩
theorem Dx (M:Mem w0 G L w) {s:List UInt8} (hs:s.length≤9223372036854775807):Calls Tryz.prog 185 #[.string (str s)] w (Bu w0 G L fun v=>∃ b:Bool,v=.bool b∧(b=true↔Ck s)):=by
 refine Al (vs:=[_]) Tryz.func185 rfl (n:=44) rfl rfl<|?_
 refine wk ?_;refine fun a F=>Ba (fun m a' w'=>∃ (i:Nat),m=s.length - i∧Fits 44 a' [(0,.string (str s)),(3,.int .i64 ((i:Nat):Int))]∧Mem w0 G (L) w'∧(i≤s.length∧i≤17)∧(∀ (m:Nat) (b:UInt8),m < i→s[m]?=some b→C3 b)) _ ⟨0,rfl,F.to ⟨rfl,rfl,trivial⟩,M,by omega,fun m b h=>by omega⟩ ?_;clear F M;rintro m a w ⟨i,rfl,F,M,hi,hA⟩;revert a;refine wk ?_
 rcases bE (decide (((i:Nat):Int) < (((s).length:Nat):Int))) with h1b | h19b
 ·skip
  have h1:=dT h1b;refine wk ?_;refine qD rfl ?_ ?_
  ·intro h2;refine wk ?_;obtain ⟨B3,hB3⟩:=Ap (xs:=(s)) (i:=i) (by omega);have lB3:=Wi B3;refine Am (fun a F=>C4 (i:=i) Ej.k (F.ev rfl) (F.ev rfl) hB3) rfl<|?_
   refine wk ?_
   rcases bE (decide (nb B3 < 97)) with h4b | h9b
   ·skip
    have h4:=dT h4b;refine wk ?_;refine Am (fun a F=>C4 (i:=i) Ej.k (F.ev rfl) (F.ev rfl) hB3) rfl<|?_
    refine wk ?_
    rcases bE (decide (nb B3 < 48)) with h5b | h6b
    ·skip
     have h5:=dT h5b;refine wk ?_;refine Ad rfl rfl<|?_
     exact ⟨M,false,rfl,⟨fun h_=>(by cases h_),fun h_=>absurd h_.2 (F5 hB3 (by unfold C3;omega))⟩⟩
    have h6:=dF h6b;refine wk ?_;refine Am (fun a F=>C4 (i:=i) Ej.k (F.ev rfl) (F.ev rfl) hB3) rfl<|?_
    refine wk ?_;refine qD rfl ?_ ?_
    ·intro h7;refine wk ?_;refine Ad rfl rfl<|?_
     exact ⟨M,false,rfl,⟨fun h_=>(by cases h_),fun h_=>absurd h_.2 (F5 hB3 (by unfold C3;omega))⟩⟩
    intro h8;refine wk ?_;intro a F
    exact ⟨_,by omega,i+1,rfl,F.to ⟨rfl,rfl,trivial⟩,M,by omega,E1 hA hB3 (by unfold C3;omega)⟩
   have h9:=dF h9b;refine wk ?_;refine Am (fun a F=>C4 (i:=i) Ej.k (F.ev rfl) (F.ev rfl) hB3) rfl<|?_
   refine wk ?_
   rcases bE (decide (122 < nb B3)) with h10b | h15b
   ·skip
    have h10:=dT h10b;refine wk ?_;refine Am (fun a F=>C4 (i:=i) Ej.k (F.ev rfl) (F.ev rfl) hB3) rfl<|?_
    refine wk ?_
    rcases bE (decide (nb B3 < 48)) with h11b | h12b
    ·skip
     have h11:=dT h11b;refine wk ?_;refine Ad rfl rfl<|?_
     exact ⟨M,false,rfl,⟨fun h_=>(by cases h_),fun h_=>absurd h_.2 (F5 hB3 (by unfold C3;omega))⟩⟩
    have h12:=dF h12b;refine wk ?_;refine Am (fun a F=>C4 (i:=i) Ej.k (F.ev rfl) (F.ev rfl) hB3) rfl<|?_
    refine wk ?_;refine qD rfl ?_ ?_
    ·intro h13;refine wk ?_;refine Ad rfl rfl<|?_
     exact ⟨M,false,rfl,⟨fun h_=>(by cases h_),fun h_=>absurd h_.2 (F5 hB3 (by unfold C3;omega))⟩⟩
    intro h14;refine wk ?_;intro a F
    exact ⟨_,by omega,i+1,rfl,F.to ⟨rfl,rfl,trivial⟩,M,by omega,E1 hA hB3 (by unfold C3;omega)⟩
   have h15:=dF h15b;refine wk ?_;intro a F
   exact ⟨_,by omega,i+1,rfl,F.to ⟨rfl,rfl,trivial⟩,M,by omega,E1 hA hB3 (by unfold C3;omega)⟩
  intro h16;refine wk ?_
  rcases bE (decide (1≤(((s).length:Nat):Int))) with h17b | h18b
  ·skip
   have h17:=dT h17b;refine wk ?_;refine Ad rfl rfl<|?_
   exact ⟨M,(decide ((((s).length:Nat):Int)≤16)),rfl,⟨fun h_=>(by first | (cases h_;done) | (have h_:=dT h_;exact ⟨(by omega),D8 hA (by omega)⟩) | exact ⟨(by omega),D8 hA (by omega)⟩),fun h_=>(by have h9:=h_.1;first | rfl | (exact decide_eq_true (by omega)) | (exfalso;omega))⟩⟩
  have h18:=dF h18b;refine wk ?_;refine Ad rfl rfl<|?_
  exact ⟨M,false,rfl,⟨fun h_=>(by first | (cases h_;done) | (have h_:=dT h_;exact ⟨(by omega),D8 hA (by omega)⟩) | exact ⟨(by omega),D8 hA (by omega)⟩),fun h_=>(by have h9:=h_.1;first | rfl | (exact decide_eq_true (by omega)) | (exfalso;omega))⟩⟩
 have h19:=dF h19b;refine wk ?_
 rcases bE (decide (1≤(((s).length:Nat):Int))) with h20b | h21b
 ·skip
  have h20:=dT h20b;refine wk ?_;refine Ad rfl rfl<|?_
  exact ⟨M,(decide ((((s).length:Nat):Int)≤16)),rfl,⟨fun h_=>(by first | (cases h_;done) | (have h_:=dT h_;exact ⟨(by omega),D8 hA (by omega)⟩) | exact ⟨(by omega),D8 hA (by omega)⟩),fun h_=>(by have h9:=h_.1;first | rfl | (exact decide_eq_true (by omega)) | (exfalso;omega))⟩⟩
 have h21:=dF h21b;refine wk ?_;refine Ad rfl rfl<|?_
 exact ⟨M,false,rfl,⟨fun h_=>(by first | (cases h_;done) | (have h_:=dT h_;exact ⟨(by omega),D8 hA (by omega)⟩) | exact ⟨(by omega),D8 hA (by omega)⟩),fun h_=>(by have h9:=h_.1;first | rfl | (exact decide_eq_true (by omega)) | (exfalso;omega))⟩⟩
theorem Kk (M:Mem w0 G L w) {s:List UInt8} (hs:s.length≤9223372036854775807):Calls Tryz.prog 184 #[.string (str s)] w (Bu w0 G L fun v=>∃ b:Bool,v=.bool b∧(b=true↔Str s)):=by
 refine Al (vs:=[_]) Tryz.func184 rfl (n:=23) rfl rfl<|?_
 refine wk ?_;refine qD rfl ?_ ?_
 ·intro h1;refine wk ?_;refine Ad rfl rfl<|?_
  exact ⟨M,false,rfl,⟨fun h_=>(by cases h_),fun h_=>(by have:=h_.1;omega)⟩⟩
 intro h2;refine wk ?_;refine fun a F=>Ba (fun m a' w'=>∃ (i:Nat),m=s.length - i∧Fits 23 a' [(0,.string (str s)),(3,.int .i64 ((i:Nat):Int))]∧Mem w0 G (L) w'∧(i≤s.length)∧(∀ (m:Nat) (b:UInt8),m < i→s[m]?=some b→Ir b)) _ ⟨0,rfl,F.to ⟨rfl,rfl,trivial⟩,M,by omega,fun m b h=>by omega⟩ ?_;clear F M;rintro m a w ⟨i,rfl,F,M,hi,hA⟩;revert a;refine wk ?_;refine qD rfl ?_ ?_
 ·intro h3;refine wk ?_;obtain ⟨B4,hB4⟩:=Ap (xs:=(s)) (i:=i) (by omega);have lB4:=Wi B4;refine Am (fun a F=>C4 (i:=i) Ej.k (F.ev rfl) (F.ev rfl) hB4) rfl<|?_
  refine wk ?_
  rcases bE (decide (nb B4 < 32)) with h5b | h6b
  ·skip
   have h5:=dT h5b;refine wk ?_;refine Ad rfl rfl<|?_
   exact ⟨M,false,rfl,⟨fun h_=>(by cases h_),fun h_=>absurd h_.2 (F5 hB4 (by unfold Ir;omega))⟩⟩
  have h6:=dF h6b;refine wk ?_;refine Am (fun a F=>C4 (i:=i) Ej.k (F.ev rfl) (F.ev rfl) hB4) rfl<|?_
  refine wk ?_;refine qD rfl ?_ ?_
  ·intro h7;refine wk ?_;refine Ad rfl rfl<|?_
   exact ⟨M,false,rfl,⟨fun h_=>(by cases h_),fun h_=>absurd h_.2 (F5 hB4 (by unfold Ir;omega))⟩⟩
  intro h8;refine wk ?_;intro a F
  exact ⟨_,by omega,i+1,rfl,F.to ⟨rfl,rfl,trivial⟩,M,by omega,E1 hA hB4 (by unfold Ir;omega)⟩
 intro h9;refine wk ?_;refine Ad rfl rfl<|?_
 exact ⟨M,true,rfl,⟨fun _=>⟨(by omega),D8 hA (by omega)⟩,fun _=>rfl⟩⟩
theorem Aba {w:World} {x:Nat}:Calls Tryz.prog 240 #[.int .i32 (x:Int)] w (fun e w'=>e=.returned (.bool (Hz x))∧∃ q,w' = w.drewN q):=by
 refine Al (vs:=[_]) Tryz.func240 rfl (n:=9) rfl rfl<|?_
 refine wk ?_
 rcases bE (decide ((x:Int) < 32)) with h1b | h2b
 ·skip
  have h1:=dT h1b;refine wk ?_;refine Ad rfl rfl<|?_
  exact ⟨by have h_:Hz x=true:=(by unfold Hz;first | (simp_all;omega) | simp_all);rw [h_],0,rfl⟩
 have h2:=dF h2b;refine wk ?_;refine Ad rfl rfl<|?_
 exact ⟨by have h_:Hz x=(decide (126 < (x:Int))):=(by unfold Hz;first | (simp_all;omega) | simp_all);rw [h_],0,rfl⟩
theorem Alj (M:Mem w0 G L w) {s:List UInt8}:Calls Tryz.prog 103 #[.string (str s),.func (.func 240) #[] #[]] w (Bu w0 G L fun v=>∃ z:Int,v=.int .i64 z∧(z < 0↔∀ c∈s,Ir c)):=by
 have hp:PredAt Tryz.prog 240 #[] encR Hz w:=fun W x _=>(Aba (x:=x));refine (Any.strings_IndexFunc Tryz.laysGw15 240 #[] (Go.Proofs.enters_of Tryz.func240 (by kernel_rfl) rfl) Hz (str s) w hp).mono ?_;rintro e w' ⟨rfl,hb⟩
 exact ⟨M.below' hb,_,rfl,Zf s⟩
theorem Kz (M:Mem w0 G L w) {s:List UInt8} (hs:s.length≤9223372036854775807):Calls Tryz.prog 236 #[.string (str s)] w (Bu w0 G L fun v=>∃ b:Bool,v=.bool b∧(b=true↔Str s)):=by
 refine Al (vs:=[_]) Tryz.func236 rfl (n:=11) rfl rfl<|?_
 refine wk ?_
 rcases bE (decide ((((s).length:Nat):Int)≤64)) with h1b | h3b
 ·skip
  have h1:=dT h1b;refine wk ?_;refine A4 Afy rfl rfl (Alj (s:=s) M)<|?_;clear M;rintro _ w M ⟨z2,rfl,hz2⟩
  refine wk ?_;refine Ad rfl rfl<|?_
  exact ⟨M,(decide (z2 < 0)),rfl,⟨fun h_=>⟨(by omega),hz2.1 (dT h_)⟩,fun h_=>decide_eq_true (hz2.2 h_.2)⟩⟩
 have h3:=dF h3b;refine wk ?_;refine Ad rfl rfl<|?_
 exact ⟨M,false,rfl,⟨fun h_=>(by cases h_),fun h_=>(by have:=h_.1;omega)⟩⟩
end Go.Proofs.YtmmhmcplegpenaaGreatDoor.T
