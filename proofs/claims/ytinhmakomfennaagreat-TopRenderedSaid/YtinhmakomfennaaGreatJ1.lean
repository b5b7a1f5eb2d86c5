/- Own lemmas. -/
import Derived.Test.YtinhmakomfennaaGreatYC
import Derived.Lib.AppendZerosOnto
set_option linter.unusedSimpArgs false
set_option linter.unusedVariables false
set_option linter.unusedSectionVars false
namespace Go.V
open Go
noncomputable section
inductive Tr (α:Type) where
 | lf
 | nd (l:Tr α) (v:Option α) (r:Tr α)
def Tr.get {α:Type} (t:Tr α):Nat→Option α :=
 Tr.rec (motive:=fun _=>Nat→Option α) (fun _=>none)
  (fun _ v _ gl gr k=>Nat.rec (motive:=fun _=>Option α) v (fun k _=>Bool.rec (motive:=fun _=>Option α) (gr (k / 2)) (gl (k / 2)) (Nat.beq (k % 2) 0)) k) t
def Tr.one {α:Type} (o:Option α):Nat→Nat→Tr α :=
 Nat.rec (motive:=fun _=>Nat→Tr α) (fun _=>.lf) (fun _ ih k=>Nat.rec (motive:=fun _=>Tr α) (.nd .lf o .lf) (fun k _=>Bool.rec (motive:=fun _=>Tr α) (.nd .lf none (ih (k / 2))) (.nd (ih (k / 2)) none .lf) (Nat.beq (k % 2) 0)) k)
def Tr.setF {α:Type} (o:Option α) (t:Tr α):Nat→Tr α :=
 Tr.rec (motive:=fun _=>Nat→Tr α) (fun k=>Tr.one o (k+1) k)
  (fun l v r sl sr k=>Nat.rec (motive:=fun _=>Tr α) (.nd l o r) (fun k _=>Bool.rec (motive:=fun _=>Tr α) (.nd l v (sr (k / 2))) (.nd (sl (k / 2)) v r) (Nat.beq (k % 2) 0)) k) t
def Tr.set {α:Type} (t:Tr α) (k:Nat) (v:α):Tr α:=t.setF (some v) k
def Tr.del {α:Type} (t:Tr α) (k:Nat):Tr α:=t.setF none k
inductive AV where
 | int (k:IntKind) (n:Int)
 | bool (b:Bool)
 | str (s:List UInt8)
 | raw (v:Value)
 | ptr (i o:Nat)
 | sl (i o n c:Nat)
 | sr (i o d n:Nat)
 | mp (i:Nat)
 | fn (f:Fn) (a b:List AV)
 | agg (cs:List AV)
 | tup (vs:List AV)
inductive Blk where
 | cells (cs:List AV) (t:Nat)
 | row (cs:List AV) (n t sz:Nat)
 | mapb (es:List (AV × AV × Nat)) (ck:Nat)
 | fix (cs:List AV) (t:Nat) (mk:Nat × Nat)
structure H where
 m:Tr Blk
 nx:Nat
instance:Coe Nat Blk:=⟨fun d=>.cells [.ptr d 0] 46⟩
instance:Coe Unit AV:=⟨fun _=>.raw (.slice none 0 0)⟩
def Ame:Value→AV
 | .bool b=>.bool b
 | .int k n=>.int k n
 | .string s=>.str s.data.toList
 | v=>.raw v
def ofV:Value→AV
 | .agg cs=>.agg (cs.toList.map Ame)
 | v=>Ame v
def Oo:Value→Bool
 | .agg _=>false
 | _=>true
def plainV:Value→Bool
 | .agg cs=>cs.toList.all Oo
 | _=>true
def Yv (v:Value):Option AV:=match plainV v with
 | true=>some (ofV v)
 | false=>none
abbrev Env:=Tr AV
def ev (e:Env):Operand→Option AV
 | .tmp i=>e.get i
 | .const v=>Yv v
 | .global _=>none
 | .func f=>some (.fn (.func f) [] [])
def Dq (v:Option AV) (r:Option (List AV)):Option (List AV):=match v with
 | some v=>match r with
  | some vs=>some (v::vs)
  | none=>none
 | none=>none
def evs (e:Env) (l:List Operand):Option (List AV):=List.rec (motive:=fun _=>Option (List AV)) (some []) (fun x _ r=>Dq (ev e x) r) l
def AV.cells:AV→List AV
 | .agg cs=>cs
 | v=>[v]
def C9:AV→Bool
 | .agg _=>false
 | .tup _=>false
 | .raw v=>v.oneCell'
 | _=>true
def Af:List AV→Bool
 | []=>true
 | x::l=>C9 x && Af l
structure Ctx where
 ty:Nat→Option TypeInfo
 fn:Nat→Option Func
 ext:Nat→List AV→H→Option (Option (AV × H))
 flat:Nat→Option (List Nat)
 bk:Nat
 bz:Nat
 eqa:AV→AV→Bool
section
variable (C:Ctx)
def und (t:Nat):Option TypeDesc:=match C.ty t with
 | some i=>match i.desc with
  | .named _ u=>match C.ty u with
   | some j=>some j.desc
   | none=>none
  | d=>some d
 | none=>none
def size (t:Nat):Nat:=match C.ty t with
 | some i=>i.size
 | none=>0
def bytes (t:Nat):Nat:=match C.ty t with
 | some i=>i.bytes
 | none=>0
def zero (t:Nat):Option AV:=match C.ty t with
 | some i=>match i.zero with
  | some v=>Yv v
  | none=>none
 | none=>none
def isAgg (t:Nat):Option Bool:=match und C t with
 | some (.struct _)=>some true
 | some (.array ..)=>some true
 | some (.int _)=>some false
 | some .bool=>some false
 | some .string=>some false
 | some (.pointer _)=>some false
 | some (.slice _)=>some false
 | some (.map ..)=>some false
 | some (.func ..)=>some false
 | some (.interface _)=>some false
 | _=>none
def Blk.cs:Blk→List AV
 | .cells cs _=>cs
 | .row cs ..=>cs
 | .mapb ..=>[]
 | .fix cs ..=>cs
def K8 (n:Nat):List AV→Option (List AV) :=
 Nat.rec (motive:=fun _=>List AV→Option (List AV)) (fun _=>some []) (fun _ ih l=>List.casesOn (motive:=fun _=>Option (List AV)) l none (fun c cs=>Dq (some c) (ih cs))) n
def Aq (o n:Nat):List AV→Option (List AV) :=
 Nat.rec (motive:=fun _=>List AV→Option (List AV)) (K8 n) (fun _ ih l=>List.casesOn (motive:=fun _=>Option (List AV)) l none (fun _ cs=>ih cs)) o
def Cl (cs us:List AV):Option (List AV) :=
 List.rec (motive:=fun _=>List AV→Option (List AV)) (fun cs=>some cs) (fun u _ ih cs=>List.casesOn (motive:=fun _=>Option (List AV)) cs none (fun _ cs=>Dq (some u) (ih cs))) us cs
def Dt (o:Nat) (us:List AV):List AV→Option (List AV) :=
 Nat.rec (motive:=fun _=>List AV→Option (List AV)) (fun cs=>Cl cs us) (fun _ ih l=>List.casesOn (motive:=fun _=>Option (List AV)) l none (fun c cs=>Dq (some c) (ih cs))) o
def Blk.put (o:Nat) (us:List AV):Blk→Option Blk
 | .cells cs t=>match Dt o us cs with
  | some cs=>some (.cells cs t)
  | none=>none
 | .row cs n t sz=>match Dt o us cs with
  | some cs=>some (.row cs n t sz)
  | none=>none
 | .mapb ..=>none
 | .fix ..=>none
def H.put (h:H) (i o:Nat) (us:List AV):Option H:=match Af us with
 | true=>match h.m.get i with
  | some b=>match b.put o us with
   | some b'=>some ⟨h.m.set i b',h.nx⟩
   | none=>none
  | none=>none
 | false=>none
def H.read (h:H) (i o n:Nat):Option (List AV):=match h.m.get i with
 | some b=>Aq o n b.cs
 | none=>none
def rep (zs:List AV):Nat→List AV
 | 0=>[]
 | n+1=>zs++rep zs n
def Eo:Int→Option Nat
 | .ofNat n=>some n
 | .negSucc _=>none
def nat?:AV→Option Nat
 | .int _ n=>Eo n
 | _=>none
def Q8 (cs vs:List AV):Option (Nat × Nat)→Option (List AV)
 | some (off,sz)=>match Nat.beq vs.length sz with
  | true=>Dt off vs cs
  | false=>none
 | none=>none
def lay (pl:Nat→Option (Nat × Nat)) (cs:List AV):List (Nat × AV)→Option (List AV)
 | []=>some cs
 | (i,v)::r=>match Q8 cs v.cells (pl i) with
  | some cs=>lay pl cs r
  | none=>none
def Rg (fs:Array Field) (i:Nat):Option (Nat × Nat):=match fs.toList[i]? with
 | some f=>some (f.offset,size C f.type)
 | none=>none
def nz (n:Nat):Bool:=!(Nat.beq n 0)
def Rf (fs:List Field):Bool:=fs.all fun f=>nz (size C f.type)
def evp (e:Env):List (Nat × Operand)→Option (List (Nat × AV))
 | []=>some []
 | (i,x)::l=>match ev e x,evp e l with
  | some v,some vs=>some ((i,v)::vs)
  | _,_=>none
def eqL:List Nat→List AV→List AV→Option Bool
 | [],[],[]=>some true
 | 0::ks,.int j a::x,.int k b::y=>match decide (j=k) with
  | true=>match eqL ks x y with
   | some r=>some (decide (a=b) && r)
   | none=>none
  | false=>none
 | 1::ks,.bool a::x,.bool b::y=>match eqL ks x y with
  | some r=>some ((a==b) && r)
  | none=>none
 | 2::ks,.str a::x,.str b::y=>match eqL ks x y with
  | some r=>some (decide (a=b) && r)
  | none=>none
 | _,_,_=>none
def eqT (t:Nat) (x y:AV):Option Bool:=match und C t with
 | some .bool=>match x,y with
  | .bool a,.bool b=>some (a==b)
  | _,_=>none
 | some (.pointer _)=>match x,y with
  | .ptr ..,.raw (.pointer none)=>some false
  | .raw (.pointer none),.raw (.pointer none)=>some true
  | _,_=>none
 | some (.slice _)=>match x,y with
  | .sl ..,.raw (.slice none 0 0)=>some false
  | .sr ..,.raw (.slice none 0 0)=>some false
  | .raw (.slice none _ _),.raw (.slice none 0 0)=>some true
  | _,_=>none
 | some (.struct _)=>match x,y with
  | .agg a,.agg b=>match C.flat t with
   | some ks=>eqL ks a b
   | none=>none
  | _,_=>none
 | _=>none
def Jc (k:IntKind) (n:Int):AV:=.int k (k.wrap n)
def Y1 (op:BinOp) (k:IntKind) (a b:Int):Option AV:=match op with
 | .add=>some (Jc k (a+b))
 | .sub=>some (Jc k (a - b))
 | .mul=>some (Jc k (a * b))
 | .quo=>if b=0 then none else some (Jc k (a.tdiv b))
 | .rem=>if b=0 then none else some (.int k (a.tmod b))
 | .lss=>some (.bool (decide (a < b)))
 | .leq=>some (.bool (decide (a≤b)))
 | .gtr=>some (.bool (decide (b < a)))
 | .geq=>some (.bool (decide (b≤a)))
 | .eql=>some (.bool (decide (a=b)))
 | .neq=>some (.bool (!decide (a=b)))
 | .shr=>match Eo b with
  | some m=>match Nat.ble m k.bits with
   | true=>some (.int k (a / 2 ^ m))
   | false=>none
  | none=>none
 | _=>none
def Y0 (op:BinOp) (a b:List UInt8):Option AV:=match op with
 | .add=>match Nat.ble (a.length+b.length) 9223372036854775807 with
  | true=>some (.str (a++b))
  | false=>none
 | .eql=>some (.bool (decide (a=b)))
 | .neq=>some (.bool (!decide (a=b)))
 | .lss=>some (.bool (Op.bytesLess a b))
 | .gtr=>some (.bool (!(Op.bytesLess a b || a==b)))
 | .leq=>some (.bool (Op.bytesLess a b || a==b))
 | .geq=>some (.bool (!(Op.bytesLess a b)))
 | _=>none
def Aaf:Option Bool→Option AV
 | some b=>some (.bool (!b))
 | none=>none
def asB:Option Bool→Option AV
 | some b=>some (.bool b)
 | none=>none
def Abg (op:BinOp) (t:Nat) (x y:AV):Option AV:=match op with
  | .eql=>asB (eqT C t x y)
  | .neq=>Aaf (eqT C t x y)
  | _=>none
def Arw (k:IntKind) (a b:Int):BinOp→Option AV
 | .shr=>match Eo b with
  | some m=>match Nat.ble m k.bits with
   | true=>some (.int k (a / 2 ^ m))
   | false=>none
  | none=>none
 | _=>none
def bin (op:BinOp) (t:Nat) (x y:AV):Option AV:=match x,y with
 | .int k a,.int j b=>match decide (k=j) with
  | true=>Y1 op k a b
  | false=>Arw k a b op
 | .str a,.str b=>Y0 op a b
 | x,y=>Abg C op t x y
def Bp (h:H) (sz n:Nat):AV→Option (List AV)
 | .sl i o m _=>match Nat.ble n m with
  | true=>h.read i o (n * sz)
  | false=>none
 | .sr i o _ m=>match Nat.ble n m with
  | true=>h.read i o (n * sz)
  | false=>none
 | .raw (.slice none 0 0)=>match n with
  | 0=>some []
  | _=>none
 | _=>none
def Db:AV→Option Nat
 | .sl _ _ n _=>some n
 | .sr _ _ _ n=>some n
 | .raw (.slice none 0 0)=>some 0
 | _=>none
def F7 (e k:Nat):Bool:=Nat.ble (k * bytes C e) 140737488355328 && Nat.ble k 9223372036854775807
def De (h:H) (cs:List AV) (n e sz:Nat):Option (AV × H):=match F7 C e n && (nz sz && Af cs) with
 | true=>some (.sr h.nx 0 0 n,⟨h.m.set h.nx (.row cs n e sz),h.nx+1⟩)
 | false=>none
def J3 (h:H) (i o n m c sz:Nat) (new:List AV):Option (AV × H):=match h.put i (o+n * sz) new with
 | some h=>some (.sl i o (n+m) c,h)
 | none=>none
def Ig (e sz n m:Nat) (s:AV) (h:H) (new:List AV):Option (AV × H):=match s with
 | .raw (.slice none 0 0)=>De C h new m e sz
 | .sl i o _ c=>match Nat.ble (n+m) c with
  | true=>J3 h i o n m c sz new
  | false=>match h.read i o (n * sz) with
   | some old=>De C h (old++new) (n+m) e sz
   | none=>none
 | .sr i 0 0 _=>match h.m.get i with
  | some (.row cs k e' sz')=>match Nat.beq n k && (Nat.beq e e' && Nat.beq sz sz') with
   | true=>De C ⟨h.m.del i,h.nx⟩ (cs++new) (n+m) e sz
   | false=>none
  | _=>none
 | _=>none
def append (e sz:Nat) (s x:AV) (h:H):Option (AV × H) :=
 match Db s,Db x with
 | some n,some m=>match m with
  | 0=>some (s,h)
  | m+1=>match Bp h sz (m+1) x with
   | some new=>Ig C e sz n (m+1) s h new
   | none=>none
 | _,_=>none
def opt (e:Env):Option Operand→Option (Option Nat)
 | none=>some none
 | some x=>match ev e x with
  | some v=>match nat? v with
   | some n=>some (some n)
   | none=>none
  | none=>none
def G7 (i o l h m sz:Nat):AV:=match Nat.beq m l with
 | true=>.sl i o (h - l) (m - l)
 | false=>.sl i (o+l * sz) (h - l) (m - l)
def Ji (s:List UInt8) (l h:Nat):Option AV:=match Nat.ble l h && Nat.ble h s.length with
 | true=>some (.str ((s.take h).drop l))
 | false=>none
def Br (i o c l h m sz:Nat):Option AV:=match Nat.ble l h && (Nat.ble h m && Nat.ble m c) with
 | true=>some (G7 i o l h m sz)
 | false=>none
def Gj (i o d n l h sz:Nat):Option AV:=match Nat.ble l h && (Nat.ble h n && Nat.ble (l+1) n) with
 | true=>some (.sr i (o+l * sz) (d+l) (h - l))
 | false=>none
def Hn (lo hi mx:Option Nat):Option AV:=match lo.getD 0,hi.getD 0,mx.getD 0,mx.isNone || hi.isSome with
 | 0,0,0,true=>some (.raw (.slice none 0 0))
 | _,_,_,_=>none
def Bs (sz:Nat) (x:AV) (lo hi mx:Option Nat):Option AV:=match x with
 | .str s=>match mx with
  | some _=>none
  | none=>Ji s (lo.getD 0) (hi.getD s.length)
 | .sl i o n c=>match mx with
  | none=>Br i o c (lo.getD 0) (hi.getD n) c sz
  | some m=>match hi with
   | some h=>Br i o c (lo.getD 0) h m sz
   | none=>none
 | .sr i o d n=>match mx with
  | some m=>match hi with
   | some h=>Br i o n (lo.getD 0) h m sz
   | none=>none
  | none=>Gj i o d n (lo.getD 0) (hi.getD n) sz
 | _=>none
def lookup (es:List (AV × AV × Nat)) (k:IntKind) (z:Int):Option (Option (AV × Nat)):=match es with
 | []=>some none
 | (.int k' z',v,b)::r=>match decide (k=k') with
  | true=>match decide (z=z') with
   | true=>some (some (v,b))
   | false=>lookup r k z
  | false=>none
 | _=>none
def Em (t n:Nat):Option (List AV):=match zero C t with
 | some z=>match Nat.beq z.cells.length (size C t) && nz (size C t) with
  | true=>some (rep z.cells n)
  | false=>none
 | none=>none
abbrev R:=Option (Option AV × H)
def val (h:H):Option AV→R
 | some v=>some (some v,h)
 | none=>none
def I2 (e:Env) (h:H) (c a b:Operand):R:=match ev e c with
  | some (.bool true)=>val h (ev e a)
  | some (.bool false)=>val h (ev e b)
  | _=>none
def newB (h:H) (b:Blk):R:=some (some (.ptr h.nx 0),⟨h.m.set h.nx b,h.nx+1⟩)
def Fx (h:H) (t:Nat):R:=match zero C t with
  | some z=>newB h (.cells z.cells t)
  | none=>none
def O3 (e:Env) (h:H) (t:Nat) (x:Operand):R:=match ev e x with
  | some v=>newB h (.cells v.cells t)
  | none=>none
def aggR (h:H):Option (List AV)→R
 | some cs=>some (some (.agg cs),h)
 | none=>none
def Dn (e:Env) (h:H) (t:Nat) (ps:List (Nat × Operand)):R:=match zero C t,evp e ps with
  | some (.agg z),some vs=>match und C t with
   | some (.struct fs)=>match Rf C fs.toList with
    | true=>aggR h (lay (Rg C fs) z vs)
    | false=>none
   | some (.array _ el)=>match nz (size C el) with
    | true=>aggR h (lay (fun i=>some (i * size C el,size C el)) z vs)
    | false=>none
   | _=>none
  | _,_=>none
def Amh (h:H) (el l c:Nat):Option (List AV)→R
 | some cs=>some (some (.sl h.nx 0 l c),⟨h.m.set h.nx (.cells cs el),h.nx+1⟩)
 | none=>none
def Eh (e:Env) (h:H) (t len:Nat) (ps:List (Nat × Operand)):R:=match und C t,evp e ps with
  | some (.slice el),some vs=>match Em C el len,Nat.ble (len * size C el) 16777216 with
   | some zs,true=>Amh h el len len (lay (fun i=>some (i * size C el,size C el)) zs vs)
   | _,_=>none
  | _,_=>none
def rd1 (h:H):Option (List AV)→R
 | some [v]=>some (some v,h)
 | _=>none
def En (e:Env) (h:H) (t:Nat) (a:Operand):R:=match ev e a with
  | some (.ptr i o)=>match isAgg C t with
   | some true=>aggR h (h.read i o (size C t))
   | some false=>rd1 h (h.read i o 1)
   | none=>none
  | _=>none
def wr:Option H→R
 | some h=>some (none,h)
 | none=>none
def Jg (h : H) (t i o : Nat) (v : AV) : R := match Nat.beq v.cells.length (size C t) && nz (size C t) with
        | true=>wr (h.put i o v.cells)
        | false=>none
def Hr (e:Env) (h:H) (t:Nat) (a x:Operand):R:=match ev e a with
  | some (.ptr i o)=>match ev e x with
   | some v=>Jg C h t i o v
   | none=>none
  | _=>none
def O1 (e:Env) (h:H) (x:Operand):R:=match ev e x with
  | some (.ptr i o)=>some (some (.ptr i o),h)
  | some (.fn (.func f) a b)=>some (some (.fn (.func f) a b),h)
  | _=>none
def O4 (e:Env) (h:H) (op:BinOp) (t:Nat) (x y:Operand):R:=match ev e x with
  | some x=>match ev e y with
   | some y=>val h (bin C op t x y)
   | none=>none
  | none=>none
def oUn (e:Env) (h:H) (op:UnOp) (x:Operand):R:=match op with
  | .not=>match ev e x with
   | some (.bool b)=>some (some (.bool (!b)),h)
   | _=>none
  | _=>none
def I1:List AV→Option (List UInt8)
 | []=>some []
 | .int .u8 (.ofNat n)::l=>match Nat.ble n 255,I1 l with
  | true,some s=>some (UInt8.ofNat n::s)
  | _,_=>none
 | _=>none
def strR (h:H):Option (List UInt8)→R
 | some s=>some (some (.str s),h)
 | none=>none
def u8T (t:Nat):Bool:=match und C t with
 | some (.int .u8)=>true
 | _=>false
def Abd (h : H) (src : Nat) (v : AV) : R := match und C src, v with
      | some (.slice el),.sl i o n _=>match u8T C el,h.read i o n with
        | true,some cs=>strR h (I1 cs)
        | _,_=>none
      | _,_=>none
def I6 (e:Env) (h:H) (src dst:Nat) (x:Operand):R:=match und C dst,ev e x with
  | some (.int k),some (.int _ n)=>match und C src with
   | some _=>some (some (Jc k n),h)
   | none=>none
  | some .string,some v=>Abd C h src v
  | _,_=>none
def I5 (e:Env) (h:H) (fn:Fn) (a b:List Operand):R:=match evs e a,evs e b with
  | some xs,some ys=>some (some (.fn fn xs ys),h)
  | _,_=>none
def Amf (h:H):Option Operand→R
 | none=>some (some (.mp h.nx),⟨h.m.set h.nx (.mapb [] 0),h.nx+1⟩)
 | some _=>none
def O5 (e:Env) (x:Operand):Option Nat:=match ev e x with
 | some v=>nat? v
 | none=>none
def Fv (e:Env) (h:H) (t:Nat) (l c:Operand):R:=match und C t,O5 e l,O5 e c with
  | some (.slice el),some l,some c=>match Nat.ble l c && (Nat.ble (bytes C el * c) 281474976710656 && Nat.ble c 9223372036854775807) with
    | true=>Amh h el l c (Em C el c)
    | false=>none
  | _,_,_=>none
def Al (h : H) (t : Nat) (v : AV) (lo hi mx : Option Nat) : R := match und C t with
      | some .string=>match v with
        | .str s=>val h (Bs 1 (.str s) lo hi mx)
        | _=>none
      | some (.slice el)=>match nz (size C el),v with
        | true,.sl i o n c=>val h (Bs (size C el) (.sl i o n c) lo hi mx)
        | true,.sr i o d n=>val h (Bs (size C el) (.sr i o d n) lo hi mx)
        | true,.raw (.slice none 0 0)=>val h (Hn lo hi mx)
        | _,_=>none
      | some (.array n el)=>match nz (size C el),v with
        | true,.ptr i o=>val h (Bs (size C el) (.sl i o n n) lo hi mx)
        | _,_=>none
      | _=>none
def Fu (e:Env) (h:H) (t:Nat) (x:Operand) (lo hi mx:Option Operand):R:=match opt e lo,opt e hi,opt e mx with
  | some lo,some hi,some mx=>match ev e x with
   | some v=>Al C h t v lo hi mx
   | none=>none
  | _,_,_=>none
def fieldAt (s f:Nat):Option (Nat × Nat):=match und C s with
  | some (.struct fs)=>match fs.toList[f]? with
   | some fd=>some (fd.offset,fd.type)
   | none=>none
  | _=>none
def Fw (e:Env) (h:H) (s:Nat) (x:Operand) (f:Nat):R:=match fieldAt C s f with
  | some (off,ty)=>match nz (size C ty) with
   | true=>match ev e x with
    | some (.ptr i o)=>some (some (.ptr i (o+off)),h)
    | _=>none
   | false=>none
  | none=>none
def Ld (el off:Nat) (cs:List AV):Option AV:=match isAgg C el with
  | some true=>match Aq off (size C el) cs with
   | some r=>some (.agg r)
   | none=>none
  | some false=>cs[off]?
  | none=>none
def I3 (e:Env) (h:H) (s:Nat) (x:Operand) (f:Nat):R:=match fieldAt C s f,ev e x with
  | some (off,ty),some (.agg cs)=>val h (Ld C ty off cs)
  | _,_=>none
def ixA (sz j:Nat):AV→Option AV
  | .sl i o n _ => match Nat.ble (j + 1) n with
          | true=>some (.ptr i (o+j * sz))
          | false=>none
  | .sr i o _ n => match Nat.ble (j + 1) n with
          | true=>some (.ptr i (o+j * sz))
          | false=>none
  | _=>none
def I4 (e:Env) (h:H) (t:Nat) (x y:Operand):R:=match O5 e y,ev e x with
  | some j,some v=>match und C t with
   | some (.slice el)=>match nz (size C el) with
    | true=>val h (ixA (size C el) j v)
    | false=>none
   | some (.array n el)=>match nz (size C el),v with
    | true,.ptr i o=>val h (ixA (size C el) j (.sl i o n n))
    | _,_=>none
   | _=>none
  | _,_=>none
def chr (s : List UInt8) (j : Nat) : Option AV := match s[j]? with
        | some b=>some (.int .u8 b.toNat)
        | none=>none
def Nr (e:Env) (h:H) (t:Nat) (x y:Operand):R:=match O5 e y,ev e x with
  | some j,some (.str s)=>match und C t with
   | some .string=>val h (chr s j)
   | _=>none
  | some j,some (.agg cs)=>match und C t with
   | some (.array n el)=>match Nat.ble (j+1) n && nz (size C el) with
    | true=>val h (Ld C el (j * size C el) cs)
    | false=>none
   | _=>none
  | _,_=>none
def okV (ok b:Bool) (v:AV):AV:=match ok with
 | true=>.tup [v,.bool b]
 | false=>v
def Aaj (h:H) (el:Nat) (ok:Bool):Option (Option (AV × Nat))→R
 | some (some (v,_))=>some (some (okV ok true v),h)
 | some none=>match zero C el with
  | some z=>some (some (okV ok false z),h)
  | none=>none
 | none=>none
def Jq (e:Env) (h:H) (t:Nat) (m k:Operand) (ok:Bool):R:=match und C t,ev e m,ev e k with
  | some (.map kt el),some (.mp i),some (.int ik z)=>match h.m.get i,und C kt with
   | some (.mapb es _),some (.int kd)=>match decide (ik=kd) with
    | true=>Aaj C h el ok (lookup es ik z)
    | false=>none
   | _,_=>none
  | _,_,_=>none
def Lg (e:Env) (h:H) (t:Nat) (m k x:Operand):R:=match und C t,ev e m,ev e k with
  | some (.map kt el),some (.mp i),some (.int ik z)=>match h.m.get i,und C kt,ev e x with
   | some (.mapb es ck),some (.int kd),some x=>match decide (ik=kd),lookup es ik z with
    | true,some none=>some (none,⟨h.m.set i (.mapb (es++[(.int ik z,x,ck)]) (ck+1)),h.nx⟩)
    | _,_=>none
   | _,_,_=>none
  | _,_,_=>none
def O2 (e:Env) (h:H) (x:Operand) (i:Nat):R:=match ev e x with
  | some (.tup vs)=>val h vs[i]?
  | _=>none
def Sg (h : H) (v : AV) : R := match Db v with
        | some n=>some (some (.int .i64 n),h)
        | none=>none
def Lj (h : H) (v : AV) : R := match v with
        | .str s=>some (some (.int .i64 s.length),h)
        | _=>none
def elem (t:Nat):Option Nat:=match und C t with
 | some (.slice el)=>some el
 | _=>none
def zOk (el:Nat):Bool:=match zero C el with
 | some z=>Nat.beq z.cells.length (size C el) && nz (size C el)
 | none=>false
def Apv (h:H) (el i o n c m:Nat):Option (AV × H):=match Nat.ble (n+m) c,Em C el m,h.read i o (n * size C el) with
 | false,some zs,some old=>De C h (old++zs) (n+m) el (size C el)
 | _,_,_=>none
def Alq:Option (AV × H)→R
 | some (v,h)=>some (some v,h)
 | none=>none
def Rx (h:H) (el u:Nat) (s x:AV):R:=match und C u,s,nat? x with
 | some (.int _),.sl i o n c,some (m+1)=>Alq (Apv C h el i o n c (m+1))
 | _,_,_=>none
def Hm (h : H) (t u : Nat) (s x : AV) : R := match Nat.beq t u, elem C t with
      | true,some el=>match zOk C el,append C el (size C el) s x h with
        | true,some (v,h)=>some (some v,h)
        | _,_=>none
      | false,some el=>Rx C h el u s x
      | _,_=>none
def clrR:Option H→R
 | some h=>some (some (.tup []),h)
 | none=>none
def Rw (h:H) (t:Nat) (x:AV):R:=match elem C t,x with
 | some el,.sl i o (n+1) _=>match Em C el (n+1) with
  | some zs=>clrR (h.put i o zs)
  | none=>none
 | _,_=>none
def Afv (h : H) (cs : List AV) (d : AV) : Option H := match d with
          | .sl i o _ _=>h.put i o cs
          | .sr i o _ _=>h.put i o cs
          | .raw (.slice none 0 0)=>match cs with
            | []=>some h
            | _=>none
          | _=>none
def Oq (n:Nat):Option H→R
 | some h=>some (some (.int .i64 n),h)
 | none=>none
def Lk (h : H) (t : Nat) (d s : AV) : R := match elem C t, Db d, Db s with
      | some el,some n,some m=>match nz (size C el),Bp h (size C el) (min m n) s with
        | true,some cs=>Oq (min m n) (Afv h cs d)
        | _,_=>none
      | _,_,_=>none
def Da (e:Env) (h:H) (b:Builtin) (args:List Operand) (ts:List Nat):R:=match b with
  | .len=>match evs e args,ts with
   | some [v],[t]=>match und C t with
    | some (.slice _)=>Sg h v
    | some .string=>Lj h v
    | _=>none
   | _,_=>none
  | .cap=>match evs e args,ts with
   | some [.sl _ _ _ c],[t]=>match elem C t with
    | some _=>some (some (.int .i64 c),h)
    | none=>none
   | _,_=>none
  | .max=>match evs e args with
   | some [.int k a,.int j b]=>match decide (k=j) with
    | true=>some (some (.int k (max a b)),h)
    | false=>none
   | _=>none
  | .append=>match evs e args,ts with
   | some [s,x],[t,u]=>Hm C h t u s x
   | _,_=>none
  | .copy=>match evs e args,ts with
   | some [d,s],t::_=>Lk C h t d s
   | _,_=>none
  | .clear=>match evs e args,ts with
   | some [x],[t]=>Rw C h t x
   | _,_=>none
  | _=>none
def Afy (e:Env) (h:H) (c:Call):R:=match c.callee with
  | .builtin b=>Da C e h b c.args.toList c.argTypes.toList
  | _=>none
def Cy (e:Env) (h:H):Op→R
 | .move x=>val h (ev e x)
 | .assign x=>val h (ev e x)
 | .pick c a b=>I2 e h c a b
 | .alloc t=>Fx C h t
 | .box t x=>O3 e h t x
 | .build t ps=>Dn C e h t ps.toList
 | .buildSlice t len ps=>Eh C e h t len ps.toList
 | .load t a=>En C e h t a
 | .store t a x=>Hr C e h t a x
 | .nilCheck x=>O1 e h x
 | .binOp op t x y _=>O4 C e h op t x y
 | .unOp op _ x=>oUn e h op x
 | .convert src dst x=>I6 C e h src dst x
 | .makeFunc fn a b=>I5 e h fn a.toList b.toList
 | .makeMap _ r=>Amf h r
 | .makeSlice t l c=>Fv C e h t l c
 | .slice t x lo hi mx=>Fu C e h t x lo hi mx
 | .fieldAddr s x f=>Fw C e h s x f
 | .field s x f=>I3 C e h s x f
 | .indexAddr t x y=>I4 C e h t x y
 | .index t x y=>Nr C e h t x y
 | .lookup t m k ok=>Jq C e h t m k ok
 | .mapUpdate t m k x=>Lg C e h t m k x
 | .extract x i=>O2 e h x i
 | .call c=>Afy C e h c
 | _=>none
inductive Ex where
 | norm | exit (i:Nat) | ret
structure S where
 e:Env
 h:H
def Ra (e : Env) (want : Bool) (d : Nat) : Option Bool := match e.get d with
        | some (.bool b)=>some (b==want)
        | some (.raw (.tuple _))=>some false
        | _=>none
def wanted (ops:List Oper) (e:Env) (o:Oper):Option Bool:=match o.guard with
 | none=>some true
 | some (j,want)=>match ops[j]? with
  | some o'=>match o'.dst with
   | some d=>Ra e want d
   | none=>none
  | none=>none
def Qx (nt:Nat) (e:Env) (d:Option Nat) (v:AV):Option Env:=match d with
 | some d=>match Nat.ble (d+1) nt with
  | true=>some (e.set d v)
  | false=>none
 | none=>some e
abbrev Bj:=Nat→List AV→H→Option (AV × H)
def mkS (h:H):Option Env→Option S
 | some e=>some ⟨e,h⟩
 | none=>none
def fin (nt:Nat) (e:Env) (d:Option Nat):R→Option S
 | some (some v,h)=>mkS h (Qx nt e d v)
 | some (none,h)=>mkS h (Qx nt e d (.raw undef))
 | none=>none
def asR:Option (AV × H)→R
 | some (v,h)=>some (some v,h)
 | none=>none
def Bv (F : Bj) (e : Env) (h : H) (f : Operand) (args : List Operand) : R := match ev e f with
      | some (.fn (.func g) a b)=>match evs e args with
        | some vs=>asR (F g (a++(vs++b)) h)
        | none=>none
      | _=>none
def Avm (F:Bj) (e:Env) (h:H) (c:Call):R:=match c.callee with
  | .value f=>Bv F e h f c.args.toList
  | _=>Afy C e h c
def Cu (F:Bj) (e:Env) (h:H):Op→R
 | .call c=>Avm C F e h c
 | op=>Cy C e h op
def Dg (F:Bj) (nt:Nat) (ops:List Oper) (o:Oper) (s:S):Option S :=
 match wanted ops s.e o with
 | some false=>mkS s.h (Qx nt s.e o.dst (.raw undef))
 | some true=>fin nt s.e o.dst (Cu C F s.e s.h o.op)
 | none=>none
def Ly (k:S→Option S):Option S→Option S
 | some s=>k s
 | none=>none
def Gu (F:Bj) (nt:Nat) (ops:List Oper) (l:List Oper):S→Option S :=
 List.rec (motive:=fun _=>S→Option S) (fun s=>some s) (fun o _ k s=>Ly k (Dg C F nt ops o s)) l
def tb (m i:Nat):Bool:=Nat.beq (m / 2 ^ i % 2) 1
def nth:List Nat→Nat→Nat
 | [],_=>0
 | x::_,0=>x
 | _::l,n+1=>nth l n
def I9 (acc:List Nat):List Edge→Nat
 | []=>0
 | e::r=>match Region.binds .any e with
  | true=>(2 ^ e.on ||| nth acc e.on) ||| I9 acc r
  | false=>I9 acc r
def Fb:List Nat→List Oper→List Nat
 | acc,[]=>acc
 | acc,o::r=>Fb (acc++[I9 acc o.after.toList]) r
def Cm:Op→Nat
 | .alloc _ | .box .. | .buildSlice .. | .makeMap .. | .makeSlice ..=>1
 | .store .. | .mapUpdate ..=>2
 | .call c=>match c.callee with
  | .builtin .len | .builtin .cap | .builtin .max=>0
  | _=>2
 | .move _ | .assign _ | .pick .. | .build .. | .load .. | .nilCheck _ | .binOp .. | .unOp .. | .convert .. | .makeFunc .. | .slice .. | .fieldAddr .. | .field .. | .indexAddr .. | .index .. | .lookup .. | .extract ..=>0
 | _=>3
def rawEq:Value→Value→Bool
 | .pointer none,.pointer none=>true
 | .slice none 0 0,.slice none 0 0=>true
 | .nilFunc,.nilFunc=>true
 | .nilIface,.nilIface=>true
 | _,_=>false
mutual
def eqA:AV→AV→Bool
 | .int j a,.int k b=>decide (j=k) && decide (a=b)
 | .bool a,.bool b=>a==b
 | .str a,.str b=>a==b
 | .raw a,.raw b=>rawEq a b
 | .ptr i o,.ptr j p=>Nat.beq i j && Nat.beq o p
 | .sl i o n c,.sl j p m d=>(Nat.beq i j && Nat.beq o p) && (Nat.beq n m && Nat.beq c d)
 | .sr i o n c,.sr j p m d=>(Nat.beq i j && Nat.beq o p) && (Nat.beq n m && Nat.beq c d)
 | .mp i,.mp j=>Nat.beq i j
 | .fn f a b,.fn g c d=>decide (f=g) && (eqAs a c && eqAs b d)
 | .agg a,.agg b=>eqAs a b
 | .tup a,.tup b=>eqAs a b
 | _,_=>false
def eqAs:List AV→List AV→Bool
 | [],[]=>true
 | x::xs,y::ys=>eqA x y && eqAs xs ys
 | _,_=>false
end
structure DS where
 e:Env
 ks:List (H × Nat)
 cs:List Nat
 fl:List (Nat × Blk)
 rd:List (Nat × Nat × AV × Env)
def Ps (nx b mg:Nat) (m:Tr Blk):List (Nat × Blk)→Tr Blk
 | []=>m
 | (i,k)::r=>match tb b i && !(tb mg i) with
  | true=>(Ps nx b mg m r).set (nx+i) k
  | false=>Ps nx b mg m r
def Eb (nx b:Nat) (fl:List (Nat × Blk)) (K:H × Nat):H:=match fl with
 | []=>K.1
 | _=>⟨Ps nx b K.2 K.1.m fl,K.1.nx⟩
def mgJ (b:Nat):List (Nat × Blk)→Nat→Nat
 | [],mg=>mg
 | (i,_)::r,mg=>match tb b i with
  | true=>2 ^ i ||| mgJ b r mg
  | false=>mgJ b r mg
def Il (e:Env) (d:Option Nat) (v:AV):Env:=match d with
 | some d=>e.set d v
 | none=>e
def Ajb (d:DS) (dst:Option Nat) (j:Nat):R→Option DS
 | some (some v,_)=>some ⟨Il d.e dst v,d.ks,d.cs,d.fl,(j,d.cs.length,v,d.e)::d.rd⟩
 | _=>none
def Yt (nx:Nat) (d:DS) (dst:Option Nat) (j:Nat):R→Option DS
 | some (some v,h)=>match h.m.get (nx+j) with
  | some k=>some ⟨Il d.e dst v,d.ks,d.cs,(j,k)::d.fl,d.rd⟩
  | none=>none
 | _=>none
def N9 (d:DS) (dst:Option Nat) (b mg j:Nat):R→Option DS
 | some (some v,h)=>some ⟨Il d.e dst v,(h,mgJ b d.fl mg)::d.ks,j::d.cs,d.fl,d.rd⟩
 | some (none,h)=>some ⟨Il d.e dst (.raw undef),(h,mgJ b d.fl mg)::d.ks,j::d.cs,d.fl,d.rd⟩
 | none=>none
def Rn (b:Nat):List Nat→Bool
 | []=>true
 | c::_=>tb b c
def orR (r f:R):R:=match r with
 | some x=>some x
 | none=>f
def rdW (nx b:Nat) (fl:List (Nat × Blk)) (K:H × Nat) (e:Env):Op→R
 | .load t a=>En C e (Eb nx b fl K) t a
 | _=>none
def rdV (nx b:Nat) (fl:List (Nat × Blk)) (K:H × Nat) (e:Env) (op:Op):R:=orR (Cy C e K.1 op) (rdW C nx b fl K e op)
def Hj (F:Bj) (nx b j:Nat) (dst:Option Nat) (op:Op) (d:DS) (K:H × Nat):Nat→Option DS
 | 0=>Ajb d dst j (rdV C nx b d.fl K d.e op)
 | 1=>Yt nx d dst j (Cy C d.e ⟨.lf,nx+j⟩ op)
 | 2=>match Rn b d.cs with
  | true=>N9 d dst b K.2 j (Cu C F d.e (Eb nx b d.fl K) op)
  | false=>none
 | _=>none
def F6 (F:Bj) (ops:List Oper) (nx j b:Nat) (o:Oper) (d:DS):Option DS :=
 match wanted ops d.e o with
 | some false=>some ⟨Il d.e o.dst (.raw undef),d.ks,d.cs,d.fl,d.rd⟩
 | some true=>match d.ks with
  | K::_=>Hj C F nx b j o.dst o.op d K (Cm o.op)
  | []=>none
 | none=>none
def Jx (F:Bj) (ops:List Oper) (nx:Nat):Nat→List Oper→List Nat→DS→Option DS
 | _,[],_,d=>some d
 | j,o::r,b::bs,d=>match F6 C F ops nx j b o d with
  | some d=>Jx F ops nx (j+1) r bs d
  | none=>none
 | _,_::_,[],_=>none
def K9 (v:AV):R→Bool
 | some (some w,_)=>C.eqa v w
 | _=>false
def O8 (nx:Nat) (fl:List (Nat × Blk)) (e:Env) (b:Nat) (bf:List Nat) (j ep:Nat) (v:AV) (op:Op):List (H × Nat)→List Nat→List Nat→Bool
 | [],_,_=>true
 | K::ks,cs,later =>
  (match (cs.all fun c=>!(tb (nth bf c) j)) && ((later.all fun c=>!(tb b c)) && !(Nat.beq cs.length ep)) with
   | true=>K9 C v (rdV C nx b fl K e op)
   | false=>true) &&
  match cs with
  | c::cs=>O8 nx fl e b bf j ep v op ks cs (c::later)
  | []=>true
def E9 (ops:List Oper) (nx:Nat) (bf:List Nat) (d:DS):List (Nat × Nat × AV × Env)→Bool
 | []=>true
 | (j,ep,v,e)::r=>(match ops[j]? with
   | some o=>O8 C nx d.fl e (nth bf j) bf j ep v o.op d.ks d.cs []
   | none=>false) && E9 ops nx bf d r
def Axp (ops:List Oper) (nx:Nat) (bf:List Nat):Option DS→Option S
 | some d=>match d.ks with
  | K::ks=>match (match ks with | []=>true | _=>E9 C ops nx bf d d.rd) with
   | true=>some ⟨d.e,Eb nx (2 ^ ops.length - 1) d.fl K⟩
   | false=>none
  | []=>none
 | none=>none
def Ea (t:Nat):Nat→List Oper→Option Nat
 | _,[]=>none
 | j,o::r=>match o.dst with
  | some d=>match Nat.beq d t with
   | true=>some j
   | false=>Ea t (j+1) r
  | none=>Ea t (j+1) r
def Acd (ops:List Oper) (bf:List Nat) (j b t:Nat):Bool:=match Ea t 0 ops with
 | some i=>tb b i || tb (nth bf i) j
 | none=>true
def xOk (ops:List Oper) (bf:List Nat) (j b:Nat):Operand→Bool
 | .tmp t=>Acd ops bf j b t
 | _=>true
def Pq (f:Operand→Bool):List Operand→Bool
 | []=>true
 | x::l=>f x && Pq f l
def Vm (f:Operand→Bool):List (Nat × Operand)→Bool
 | []=>true
 | (_,x)::l=>f x && Vm f l
def oOk (f:Operand→Bool):Option Operand→Bool
 | none=>true
 | some x=>f x
def Vs (f:Operand→Bool):Op→Bool
 | .move x | .assign x | .box _ x | .load _ x | .nilCheck x | .unOp _ _ x | .convert _ _ x | .fieldAddr _ x _ | .field _ x _ | .extract x _=>f x
 | .pick c a b=>f c && (f a && f b)
 | .build _ ps=>Vm f ps.toList
 | .buildSlice _ _ ps=>Vm f ps.toList
 | .store _ a v | .binOp _ _ a v _ | .makeSlice _ a v | .indexAddr _ a v | .index _ a v | .lookup _ a v _=>f a && f v
 | .makeFunc _ a b=>Pq f a.toList && Pq f b.toList
 | .slice _ x l h m=>f x && (oOk f l && (oOk f h && oOk f m))
 | .mapUpdate _ m k v=>f m && (f k && f v)
 | .call c=>Pq f c.args.toList && match c.callee with
  | .value g=>f g
  | _=>true
 | _=>true
def Ahl (b:Nat):Option (Nat × Bool)→Bool
 | some (g,_)=>tb b g
 | none=>true
def Mt (j:Nat):List Edge→Bool
 | []=>true
 | e::r=>(match Region.binds .any e with | true=>Nat.ble (e.on+1) j | false=>true) && Mt j r
def dstOk (nt:Nat) (seen:List Nat):Option Nat→Bool
 | some d=>Nat.ble (d+1) nt && !(seen.any (Nat.beq d))
 | none=>true
def seenD (seen:List Nat):Option Nat→List Nat
 | some d=>d::seen
 | none=>seen
def Na (nt:Nat) (ops:List Oper) (bf:List Nat):List Nat→Nat→List Oper→List Nat→Bool
 | _,_,[],_=>true
 | seen,j,o::r,b::bs=>(Mt j o.after.toList && (Vs (xOk ops bf j b) o.op && (Ahl b o.guard && dstOk nt seen o.dst))) && Na nt ops bf (seenD seen o.dst) (j+1) r bs
 | _,_,_::_,[]=>false
def C7 (F:Bj) (nt:Nat) (ops:List Oper) (s:S):Option S :=
 Axp C ops s.h.nx (Fb [] ops) (Jx C F ops s.h.nx 0 ops (Fb [] ops) ⟨s.e,[(⟨s.h.m,s.h.nx+ops.length⟩,0)],[],[],[]⟩)
def Hh (evC:Code→S→Option (Ex × S)) (sa bd:Code) (params:List Nat) (i o:Nat):Nat→S→Option S
 | 0,s=>some s
 | n+1,s=>match s.h.read i o 1 with
  | some [x]=>match ixA C.bz n x with
   | some (.ptr j p)=>match s.h.read j p C.bz with
    | some cs=>match params with
     | [t,u]=>match evC sa ⟨(s.e.set t (.int .i64 n)).set u (.agg cs),s.h⟩ with
      | some (.norm,s1)=>match evC bd s1 with
       | some (.norm,s2)=>Hh evC sa bd params i o n ⟨s.e,s2.h⟩
       | _=>none
      | _=>none
     | _=>none
    | none=>none
   | _=>none
  | _=>none
def Me:Code→Bool
 | .skip=>true
 | .region _ ops dr=>!dr && ops.toList.all fun o=>match o.op with | .defer _=>false | _=>true
 | .seq a b=>Me a && Me b
 | .block _ a=>Me a
 | _=>false
def rndP (nt:Nat):List Nat→Bool
 | [t,u]=>Nat.ble (t+1) nt && Nat.ble (u+1) nt
 | _=>false
def stB (i:Nat):Option (Ex × S)→Option (Ex × S)
  | some (.exit j, s) => match Nat.beq i j with
        | true=>some (.norm,s)
        | false=>some (.exit j,s)
  | r=>r
def stN:Option S→Option (Ex × S)
 | some s=>some (.norm,s)
 | none=>none
def stC (e : Env) (c : Operand) (a b : Unit → Option (Ex × S)) : Option (Ex × S) := match ev e c with
      | some (.bool true)=>a ()
      | some (.bool false)=>b ()
      | _=>none
def stQ (k:S→Option (Ex × S)):Option (Ex × S)→Option (Ex × S)
 | some (.norm,s)=>k s
 | r=>r
def stR (nt : Nat) (evC : Code → S → Option (Ex × S)) (f : Operand) (ps : List Nat) (sa bd : Code) (s : S) : Option (Ex × S) := match ev s.e f with
      | some (.fn (.func g) [] [.ptr i o])=>match Nat.beq g C.bk && (Me sa && (Me bd && rndP nt ps)),s.h.read i o 1 with
        | true,some [x]=>match Db x with
          | some k=>match Nat.ble k 9223372036854775807 with
            | true=>stN (Hh C evC sa bd ps i o k s)
            | false=>none
          | none=>none
        | _,_=>none
      | _=>none
def evC (F:Bj) (nt n:Nat):Code→S→Option (Ex × S) :=
 Nat.rec (motive:=fun _=>Code→S→Option (Ex × S)) (fun _ _=>none)
  (fun _ ih c s=>Code.casesOn (motive:=fun _=>Option (Ex × S)) c
   (some (.norm,s))
   (fun _ ops dr=>Bool.rec (motive:=fun _=>Option (Ex × S)) (stN (Gu C F nt ops.toList ops.toList s)) (stN (C7 C F nt ops.toList s)) dr)
   (fun a b=>stQ (fun s=>ih b s) (ih a s))
   (fun c a b=>stC s.e c (fun _=>ih a s) (fun _=>ih b s))
   (fun i a=>stB i (ih a s))
   (fun a=>stQ (fun s=>ih (.loop a) s) (ih a s))
   (fun f ps sa bd=>stR C nt ih f ps.toList sa bd s)
   (fun i=>some (.exit i,s))
   (fun a=>ih a s)
   (fun _=>some (.norm,s))
   (fun _=>none)
   (some (.ret,s))
   (fun _=>none)) n
def envOf:Nat→List AV→Env→Env
 | _,[],e=>e
 | k,v::l,e=>envOf (k+1) l (e.set k v)
def Fq (s:S):List ResultVar→Option (List AV)
 | []=>some []
 | r::l=>match Fq s l with
  | none=>none
  | some vs=>match r with
   | .tmp t=>match s.e.get t with
    | some v=>some (v::vs)
    | none=>none
   | .cell a t=>match s.e.get a with
    | some (.ptr i o)=>match isAgg C t with
     | some true=>match s.h.read i o (size C t) with
      | some cs=>some (.agg cs::vs)
      | none=>none
     | some false=>match s.h.read i o 1 with
      | some [v]=>some (v::vs)
      | _=>none
     | none=>none
    | _=>none
def one:List AV→AV
 | [v]=>v
 | vs=>.tup vs
def evF:Nat→Bj
 | 0,_,_,_=>none
 | n+1,f,vs,h=>match C.ext f vs h with
  | some r=>r
  | none=>match C.fn f with
   | some fn=>match fn.body with
    | some c=>match Nat.ble vs.length fn.ntmps with
     | true=>match evC C (evF n) fn.ntmps (100000+n) c ⟨envOf 0 vs .lf,h⟩ with
      | some (.exit _,_)=>none
      | some (_,s)=>match Fq C s fn.results.toList with
       | some vs=>some (one vs,s.h)
       | none=>none
      | none=>none
     | false=>none
    | none=>none
   | none=>none
end
def Bl (nt:Nat):Code→Bool
 | .region _ ops true=>Na nt ops.toList (Fb [] ops.toList) [] 0 ops.toList (Fb [] ops.toList)
 | .seq a b=>Bl nt a && Bl nt b
 | .cond _ a b=>Bl nt a && Bl nt b
 | .block _ a=>Bl nt a
 | .loop a=>Bl nt a
 | .scope a=>Bl nt a
 | .rangeFunc _ _ a b=>Bl nt a && Bl nt b
 | _=>true
def Rb (f:Func):Bool:=match f.body with
 | some c=>Bl f.ntmps c
 | none=>true
end
section
variable {α:Type}
theorem Tr.get_s (l:Tr α) (v:Option α) (r:Tr α) (k:Nat):(Tr.nd l v r).get (k+1)=if k % 2=0 then l.get (k / 2) else r.get (k / 2):=by
 show Bool.rec (motive:=fun _=>Option α) (r.get (k / 2)) (l.get (k / 2)) (Nat.beq (k % 2) 0)=_
 by_cases h:k % 2=0
 ·rw [if_pos h,h];rfl
 ·rw [if_neg h,show Nat.beq (k % 2) 0=false from by cases hb:Nat.beq (k % 2) 0 with | false=>rfl | true=>exact absurd (Nat.eq_of_beq_eq_true hb) h]
theorem Tr.one_s0 (o:Option α) (f:Nat):Tr.one o (f+1) 0=.nd .lf o .lf:=rfl
theorem Tr.one_ss (o:Option α) (f k:Nat):Tr.one o (f+1) (k+1)=if k % 2=0 then .nd (Tr.one o f (k / 2)) none .lf else .nd .lf none (Tr.one o f (k / 2)):=by
 show Bool.rec (motive:=fun _=>Tr α) (.nd .lf none (Tr.one o f (k / 2))) (.nd (Tr.one o f (k / 2)) none .lf) (Nat.beq (k % 2) 0)=_
 by_cases h:k % 2=0
 ·rw [if_pos h,h];rfl
 ·rw [if_neg h,show Nat.beq (k % 2) 0=false from by cases hb:Nat.beq (k % 2) 0 with | false=>rfl | true=>exact absurd (Nat.eq_of_beq_eq_true hb) h]
theorem Tr.get_one (o:Option α):∀ (f k j:Nat),k < f→(Tr.one o f k).get j=if j=k then o else none
 | 0,k,j,h=>by omega
 | f+1,0,0,h=>rfl
 | f+1,0,j+1,h=>by rw [one_s0,get_s,if_neg (show ¬ (j+1=0) by omega)];split <;> rfl
 | f+1,k+1,0,h=>by rw [one_ss,if_neg (show ¬ (0=k+1) by omega)];split <;> rfl
 | f+1,k+1,j+1,h=>by
  have ih:=get_one o f (k / 2) (j / 2) tM;rw [one_ss]
  by_cases hk:k % 2=0
  ·rw [if_pos hk,get_s]
   by_cases hj:j % 2=0
   ·rw [if_pos hj,ih]
    by_cases e:j / 2=k / 2
    ·rw [if_pos e,if_pos tM]
    ·rw [if_neg e,if_neg tM]
   ·rw [if_neg hj,if_neg tM];rfl
  ·rw [if_neg hk,get_s]
   by_cases hj:j % 2=0
   ·rw [if_pos hj,if_neg tM];rfl
   ·rw [if_neg hj,ih]
    by_cases e:j / 2=k / 2
    ·rw [if_pos e,if_pos tM]
    ·rw [if_neg e,if_neg tM]
theorem Tr.setF_s (o:Option α) (l:Tr α) (v:Option α) (r:Tr α) (k:Nat):(Tr.nd l v r).setF o (k+1)=if k % 2=0 then .nd (l.setF o (k / 2)) v r else .nd l v (r.setF o (k / 2)):=by
 show Bool.rec (motive:=fun _=>Tr α) (.nd l v (r.setF o (k / 2))) (.nd (l.setF o (k / 2)) v r) (Nat.beq (k % 2) 0)=_
 by_cases h:k % 2=0
 ·rw [if_pos h,h];rfl
 ·rw [if_neg h,show Nat.beq (k % 2) 0=false from by cases hb:Nat.beq (k % 2) 0 with | false=>rfl | true=>exact absurd (Nat.eq_of_beq_eq_true hb) h]
theorem Tr.get_setF (o:Option α):∀ (t:Tr α) (k j:Nat),(t.setF o k).get j=if j=k then o else t.get j
 | .lf,k,j=>get_one o (k+1) k j (Nat.lt_succ_self k)
 | .nd l v r,0,0=>rfl
 | .nd l v r,0,j+1=>by rw [if_neg (show ¬ (j+1=0) by omega)];rfl
 | .nd l v r,k+1,0=>by rw [setF_s,if_neg (show ¬ (0=k+1) by omega)];split <;> rfl
 | .nd l v r,k+1,j+1=>by
  rw [setF_s]
  by_cases hk:k % 2=0
  ·rw [if_pos hk,get_s,get_s]
   by_cases hj:j % 2=0
   ·rw [if_pos hj,if_pos hj,get_setF o l (k / 2) (j / 2)]
    by_cases e:j / 2=k / 2
    ·rw [if_pos e,if_pos tM]
    ·rw [if_neg e,if_neg tM]
   ·rw [if_neg hj,if_neg tM,if_neg hj]
  ·rw [if_neg hk,get_s,get_s]
   by_cases hj:j % 2=0
   ·rw [if_pos hj,if_pos hj,if_neg tM]
   ·rw [if_neg hj,if_neg hj,get_setF o r (k / 2) (j / 2)]
    by_cases e:j / 2=k / 2
    ·rw [if_pos e,if_pos tM]
    ·rw [if_neg e,if_neg tM]
theorem Tr.get_set (t:Tr α) (k j:Nat) (v:α):(t.set k v).get j=if j=k then some v else t.get j:=get_setF _ t k j
theorem Tr.get_del (t:Tr α) (k j:Nat):(t.del k).get j=if j=k then none else t.get j:=get_setF _ t k j
end
abbrev Nm:=Nat→Option (Nat × Nat)
def Le (ρ ρ':Nm):Prop:=∀ i x,ρ i=some x→ρ' i=some x
theorem Le.refl (ρ:Nm):Le ρ ρ:=fun _ _ h=>h
theorem Le.trans {ρ ρ' ρ'':Nm} (h:Le ρ ρ') (h':Le ρ' ρ''):Le ρ ρ'':=fun i x e=>h' i x (h i x e)
mutual
def VR (ρ:Nm):AV→Value→Prop
 | .int k n,v=>v=.int k n
 | .bool b,v=>v=.bool b
 | .str s,v=>v=.string (Y.str s)
 | .raw u,v=>v=u∧Oo u=true
 | .ptr i o,v=>∃ b c,ρ i=some (b,c)∧v=.pointer (some ⟨b,o,none⟩)
 | .sl i o n c,v=>n≤c∧∃ b d,ρ i=some (b,d)∧v=.slice (some ⟨b,o,none⟩) n c
 | .sr i o d n,v=>∃ b c,ρ i=some (b,c)∧d+n≤c∧v=.slice (some ⟨b,o,none⟩) n (c - d)
 | .mp i,v=>∃ b c,ρ i=some (b,c)∧v=.map (some b)
 | .fn f x y,v=>∃ vs ws,VRs ρ x vs∧VRs ρ y ws∧v=.func f vs.toArray ws.toArray
 | .agg x,v=>∃ vs,VRs ρ x vs∧v=.agg vs.toArray
 | .tup x,v=>∃ vs,VRs ρ x vs∧v=.tuple vs.toArray
def VRs (ρ:Nm):List AV→List Value→Prop
 | [],vs=>vs=[]
 | x::l,vs=>∃ v r,vs=v::r∧VR ρ x v∧VRs ρ l r
end
mutual
theorem VR.mono {ρ ρ':Nm} (h:Le ρ ρ'):∀ (x:AV) (v:Value),VR ρ x v→VR ρ' x v
 | .int k n,v,e=>e
 | .bool b,v,e=>e
 | .str s,v,e=>e
 | .raw u,v,e=>e
 | .ptr i o,v,⟨b,c,e1,e2⟩=>⟨b,c,h _ _ e1,e2⟩
 | .sl i o n c,v,⟨e0,b,d,e1,e2⟩=>⟨e0,b,d,h _ _ e1,e2⟩
 | .sr i o d n,v,⟨b,c,e1,e2⟩=>⟨b,c,h _ _ e1,e2⟩
 | .mp i,v,⟨b,c,e1,e2⟩=>⟨b,c,h _ _ e1,e2⟩
 | .fn f x y,v,⟨vs,ws,e1,e2,e3⟩=>⟨vs,ws,VRs.mono h x vs e1,VRs.mono h y ws e2,e3⟩
 | .agg x,v,⟨vs,e1,e2⟩=>⟨vs,VRs.mono h x vs e1,e2⟩
 | .tup x,v,⟨vs,e1,e2⟩=>⟨vs,VRs.mono h x vs e1,e2⟩
theorem VRs.mono {ρ ρ':Nm} (h:Le ρ ρ'):∀ (x:List AV) (v:List Value),VRs ρ x v→VRs ρ' x v
 | [],v,e=>e
 | x::l,vs,⟨v,r,e1,e2,e3⟩=>⟨v,r,e1,VR.mono h x v e2,VRs.mono h l r e3⟩
end
section
variable {ρ:Nm}
theorem VRs.nil:VRs ρ [] []:=rfl
theorem VRs.cons {x:AV} {l:List AV} {v:Value} {r:List Value} (h:VR ρ x v) (h':VRs ρ l r):VRs ρ (x::l) (v::r):=⟨v,r,rfl,h,h'⟩
theorem VRs.len:∀ {x:List AV} {v:List Value},VRs ρ x v→v.length=x.length
 | [],v,e=>by rw [show v=[] from e];rfl
 | x::l,_,⟨v,r,e1,_,e3⟩=>by rw [e1];simp [VRs.len e3]
theorem VRs.app:∀ {x y:List AV} {v w:List Value},VRs ρ x v→VRs ρ y w→VRs ρ (x++y) (v++w)
 | [],y,v,w,e,h=>by rw [show v=[] from e];exact h
 | x::l,y,_,w,⟨v,r,e1,e2,e3⟩,h=>by rw [e1];exact ⟨v,r++w,rfl,e2,VRs.app e3 h⟩
theorem VRs.split:∀ {x y:List AV} {v:List Value},VRs ρ (x++y) v→∃ a b,v=a++b∧VRs ρ x a∧VRs ρ y b
 | [],y,v,h=>⟨[],v,rfl,rfl,h⟩
 | x::l,y,_,⟨v,r,e1,e2,e3⟩=>by
  obtain ⟨a,b,h1,h2,h3⟩:=VRs.split e3;exact ⟨v::a,b,by rw [e1,h1];rfl,⟨v,a,rfl,e2,h2⟩,h3⟩
theorem VRs.get:∀ {x:List AV} {v:List Value} {i:Nat} {a:AV},VRs ρ x v→x[i]?=some a→∃ u,v[i]?=some u∧VR ρ a u
 | x::l,_,0,a,⟨v,r,e1,e2,e3⟩,h=>by simp at h;subst h;exact ⟨v,by rw [e1];rfl,e2⟩
 | x::l,_,i+1,a,⟨v,r,e1,e2,e3⟩,h=>by
  obtain ⟨u,h1,h2⟩:=VRs.get (i:=i) e3 (by simpa using h);exact ⟨u,by rw [e1];simpa using h1,h2⟩
theorem VRs.one {x:AV} {v:List Value} (h:VRs ρ [x] v):∃ u,v=[u]∧VR ρ x u:=by
 obtain ⟨u,r,z,D,E⟩:=h;exact ⟨u,by rw [z,show r=[] from E],D⟩
theorem VRs.rep {x:List AV} {v:List Value} (h:VRs ρ x v):∀ n,VRs ρ (rep x n) (List.replicate n v).flatten
 | 0=>rfl
 | n+1=>by rw [List.replicate_succ,List.flatten_cons];exact h.app (VRs.rep h n)
theorem Ir {v:Option AV} {r:Option (List AV)} {l:List AV} (h:Dq v r=some l):∃ x xs,v=some x∧r=some xs∧l=x::xs:=by
 unfold Dq at h;split at h
 ·split at h
  ·simp only [Option.some.injEq] at h;exact ⟨_,_,rfl,rfl,h.symm⟩
  ·cases h
 ·cases h
theorem Zi:∀ {n:Nat} {cs r:List AV} {vs:List Value},K8 n cs=some r→VRs ρ cs vs→n≤vs.length∧VRs ρ r (vs.take n)
 | 0,cs,r,vs,h,e=>by
  have:r=[]:=(Option.some.inj (show some []=some r from h)).symm;subst this;exact ⟨Nat.zero_le _,rfl⟩
 | n+1,[],r,vs,h,e=>by cases h
 | n+1,c::cs,r,_,h,⟨v,vs,e1,e2,e3⟩=>by
  obtain ⟨x,xs,h1,h2,h3⟩:=Ir (show Dq (some c) (K8 n cs)=some r from h);simp only [Option.some.injEq] at h1;subst h1;obtain ⟨h4,h5⟩:=Zi h2 e3;rw [e1,h3];exact ⟨by simpa using h4,⟨v,_,rfl,e2,h5⟩⟩
theorem Qu:∀ {o n:Nat} {cs r:List AV} {vs:List Value},Aq o n cs=some r→VRs ρ cs vs→o+n≤vs.length∧VRs ρ r ((vs.drop o).take n)
 | 0,n,cs,r,vs,h,e=>by have:=Zi (show K8 n cs=some r from h) e;simpa using this
 | o+1,n,[],r,vs,h,e=>by cases h
 | o+1,n,c::cs,r,_,h,⟨v,vs,e1,e2,e3⟩=>by
  obtain ⟨h1,h2⟩:=Qu (o:=o) (show Aq o n cs=some r from h) e3;rw [e1];exact ⟨by simp only [List.length_cons];omega,by simpa using h2⟩
theorem Z7:∀ {us cs r:List AV} {vs ws:List Value},Cl cs us=some r→VRs ρ cs vs→VRs ρ us ws→ws.length≤vs.length∧VRs ρ r (ws++vs.drop ws.length)
 | [],cs,r,vs,ws,h,e,e'=>by
  have h1:cs=r:=Option.some.inj (show some cs=some r from h);have h2:ws=[]:=e';subst h1 h2;exact ⟨Nat.zero_le _,by simpa using e⟩
 | u::us,[],r,vs,ws,h,e,e'=>by cases h
 | u::us,c::cs,r,_,_,h,⟨v,vs,e1,e2,e3⟩,⟨w,ws,f1,f2,f3⟩=>by
  obtain ⟨x,xs,h1,h2,h3⟩:=Ir (show Dq (some u) (Cl cs us)=some r from h);simp only [Option.some.injEq] at h1;subst h1;obtain ⟨h4,h5⟩:=Z7 h2 e3 f3;rw [e1,f1,h3];exact ⟨by simpa using h4,⟨w,_,rfl,f2,by simpa using h5⟩⟩
theorem Lq:∀ (vs:List Value) (o:Nat) (ws:List Value),o+ws.length≤vs.length→Y.over vs o ws=vs.take o++(ws++vs.drop (o+ws.length))
 | vs,o,[],h=>by simp [Y.over]
 | vs,o,w::ws,h=>by
  simp only [List.length_cons] at h;have hlt:o < vs.length:=tM;rw [Y.over,Lq (vs.set o w) (o+1) ws (by simp;omega)];have e1:(vs.set o w).take (o+1)=vs.take o++[w]:=by
   rw [List.take_set,List.take_succ_eq_append_getElem hlt,List.set_append_right _ _ (by rw [List.length_take];omega)];rw [List.length_take,Nat.min_eq_left (Nat.le_of_lt hlt),Nat.sub_self,List.set_cons_zero]
  have e2:(vs.set o w).drop (o+1+ws.length)=vs.drop (o+(ws.length+1)):=by
   rw [List.drop_set_of_lt tM];congr 1;omega
  rw [e1,e2];simp
theorem Vj:∀ {o:Nat} {us cs r:List AV} {vs z:List Value},Dt o us cs=some r→VRs ρ cs vs→VRs ρ us z→o+z.length≤vs.length∧VRs ρ r (Y.over vs o z):=by
 have key:∀ {o:Nat} {us cs r:List AV} {vs z:List Value},Dt o us cs=some r→VRs ρ cs vs→VRs ρ us z→o+z.length≤vs.length∧VRs ρ r (vs.take o++(z++vs.drop (o+z.length))):=by
  intro o
  induction o with
  | zero =>
   intro us cs r vs z h e D;have:=Z7 (show Cl cs us=some r from h) e D;simpa using this
  | succ o ih =>
   intro us cs r vs z h e D
   match cs,e with
   | [],e=>cases h
   | c::cs,⟨v,vs',e1,e2,e3⟩ =>
    obtain ⟨x,xs,E,I,J⟩:=Ir (show Dq (some c) (Dt o us cs)=some r from h);simp only [Option.some.injEq] at E;subst E;obtain ⟨U,O⟩:=ih I e3 D;rw [e1,J];refine ⟨by simp only [List.length_cons];omega,⟨v,_,?_,e2,O⟩⟩;rw [show o+1+z.length=(o+z.length)+1 by omega];simp
 intro o us cs r vs z h e D;obtain ⟨E,I⟩:=key h e D;exact ⟨E,by rw [Lq _ _ _ E];exact I⟩
theorem Er:∀ {us:List AV} {ws:List Value},Af us=true→VRs ρ us ws→∀ u∈ws,u.oneCell' = true
 | [],ws,_,e,u,hu=>by rw [show ws=[] from e] at hu;cases hu
 | x::l,_,h,⟨v,r,e1,e2,e3⟩,u,hu=>by
  simp only [Af,Bool.and_eq_true] at h;rw [e1] at hu;rcases List.mem_cons.1 hu with rfl | hu
  ·have hx:=h.1;cases x <;> simp only [C9,Bool.false_eq_true] at hx <;> simp only [VR] at e2
   case raw=>rw [e2.1];exact hx
   all_goals (first | (rw [e2];rfl) | (obtain ⟨_,_,_,e⟩:=e2;rw [e];rfl) | (obtain ⟨_,_,_,_,e⟩:=e2;rw [e];rfl) | (obtain ⟨_,_,_,_,e⟩:=e2;obtain ⟨_,e⟩:=e;rw [e];rfl))
  ·exact Er h.2 e3 u hu
theorem Afx (v:Value) (h:Oo v=true):VR ρ (Ame v) v:=by
 cases v <;> first | rfl | exact ⟨rfl,rfl⟩ | cases h
theorem Aab:∀ (l:List Value),l.all Oo=true→VRs ρ (l.map Ame) l
 | [],_=>rfl
 | v::l,h=>by
  simp only [List.all_cons,Bool.and_eq_true] at h;exact ⟨v,l,rfl,Afx v h.1,Aab l h.2⟩
theorem Uh {v:Value} {x:AV} (h:Yv v=some x):VR ρ x v:=by
 unfold Yv at h;split at h
 ·rename_i z;simp only [Option.some.injEq] at h;subst h;cases hl:Oo v with
  | true =>
   rw [show ofV v=Ame v from by cases v <;> first | rfl | cases hl];exact Afx v hl
  | false =>
   cases v <;> first | cases hl;done | skip
   rename_i cs;exact ⟨cs.toList,Aab _ z,by simp⟩
 ·cases h
theorem Ic {x:AV} {v:Value} (h:VR ρ x v):∃ vs:List Value,v.cells=vs.toArray∧VRs ρ x.cells vs:=by
 have one:∀ {x:AV},VR ρ x v→x.cells=[x]→v.cells = #[v]→∃ vs:List Value,v.cells=vs.toArray∧VRs ρ x.cells vs:=fun D z E=>⟨[v],E,by rw [z];exact ⟨v,[],rfl,D,rfl⟩⟩;cases x with
 | agg l=>obtain ⟨vs,D,z⟩:=h;exact ⟨vs,by rw [z];rfl,D⟩
 | raw u=>obtain ⟨D,z⟩:=h;subst D;exact one (x:=.raw v) ⟨rfl,z⟩ rfl (by cases v <;> first | rfl | cases z)
 | int k n=>exact one h rfl (by rw [show v=_ from h];rfl)
 | bool b=>exact one h rfl (by rw [show v=_ from h];rfl)
 | str s=>exact one h rfl (by rw [show v=_ from h];rfl)
 | ptr i o=>have h0:=h;obtain ⟨_,_,_,e⟩:=h;exact one h0 rfl (by rw [e];rfl)
 | sl i o n c=>have h0:=h;obtain ⟨_,_,_,_,e⟩:=h;exact one h0 rfl (by rw [e];rfl)
 | sr i o n c=>have h0:=h;obtain ⟨_,_,_,_,e⟩:=h;exact one h0 rfl (by rw [e];rfl)
 | mp i=>have h0:=h;obtain ⟨_,_,_,e⟩:=h;exact one h0 rfl (by rw [e];rfl)
 | fn f x y=>have h0:=h;obtain ⟨_,_,_,_,e⟩:=h;exact one h0 rfl (by rw [e];rfl)
 | tup l=>have h0:=h;obtain ⟨_,_,e⟩:=h;exact one h0 rfl (by rw [e];rfl)
end
def MR (ρ:Nm):List (AV × AV × Nat)→List MapEntry→Prop
 | [],l=>l=[]
 | x::r,l=>∃ e t,l=e::t∧VR ρ x.1 e.key∧VR ρ x.2.1 e.val∧e.born=x.2.2∧MR ρ r t
theorem MR.mono {ρ ρ':Nm} (h:Le ρ ρ'):∀ (x:List (AV × AV × Nat)) (l:List MapEntry),MR ρ x l→MR ρ' x l
 | [],l,e=>e
 | x::r,l,⟨e,t,e1,e2,e3,e4,e5⟩=>⟨e,t,e1,VR.mono h _ _ e2,VR.mono h _ _ e3,e4,MR.mono h r t e5⟩
theorem MR.app {ρ:Nm}:∀ {x y:List (AV × AV × Nat)} {l m:List MapEntry},MR ρ x l→MR ρ y m→MR ρ (x++y) (l++m)
 | [],y,l,m,h,h'=>by rw [show l=[] from h];exact h'
 | x::r,y,l,m,⟨e,t,e1,e2,e3,e4,e5⟩,h'=>by rw [e1];exact ⟨e,t++m,rfl,e2,e3,e4,MR.app e5 h'⟩
def BR (ρ:Nm) (b c:Nat):Blk→Y.Res→Prop
 | .cells cs t,r=>∃ vs,VRs ρ cs vs∧r=.blk b vs t
 | .row cs n t sz,r=>∃ vs,VRs ρ cs vs∧r=.row (.slice (some ⟨b,0,none⟩) n c) n vs t sz
 | .mapb es ck,r=>∃ l:List MapEntry,MR ρ es l∧r=.obj b (.map l.toArray ck)
 | .fix cs t mk,r=>∃ vs,VRs ρ cs vs∧r=.obj b (.cells vs.toArray t mk)
theorem BR.mono {ρ ρ':Nm} (h:Le ρ ρ') {b c:Nat} {k:Blk} {r:Y.Res} (e:BR ρ b c k r):BR ρ' b c k r:=by
 cases k with
 | cells cs t=>obtain ⟨vs,z,D⟩:=e;exact ⟨vs,VRs.mono h _ _ z,D⟩
 | row cs n t sz=>obtain ⟨vs,z,D⟩:=e;exact ⟨vs,VRs.mono h _ _ z,D⟩
 | mapb es ck=>obtain ⟨l,z,D⟩:=e;exact ⟨l,MR.mono h _ _ z,D⟩
 | fix cs t mk=>obtain ⟨vs,z,D⟩:=e;exact ⟨vs,VRs.mono h _ _ z,D⟩
theorem BR.foot {ρ:Nm} {b c:Nat} {k:Blk} {r:Y.Res} (e:BR ρ b c k r):r.foot=some b:=by
 cases k with
 | cells cs t=>obtain ⟨vs,D,z⟩:=e;rw [z];rfl
 | row cs n t sz=>obtain ⟨vs,D,z⟩:=e;rw [z];rfl
 | mapb es ck=>obtain ⟨l,D,z⟩:=e;rw [z];rfl
 | fix cs t mk=>obtain ⟨vs,D,z⟩:=e;rw [z];rfl
def Dh (ρ:Nm) (m:Tr Blk) (L:List Y.Res):Prop:=∃ ids:List Nat,ids.length=L.length∧ids.Nodup∧(∀ i k,m.get i=some k→i∈ids) ∧
 ∀ (q i:Nat) (r:Y.Res),ids[q]?=some i→L[q]?=some r→∃ k b c,m.get i=some k∧ρ i=some (b,c)∧BR ρ b c k r
theorem Dh.mono {ρ ρ':Nm} (h:Le ρ ρ') {m:Tr Blk} {L:List Y.Res} (e:Dh ρ m L):Dh ρ' m L:=by
 obtain ⟨z,J,O,U,Z⟩:=e;refine ⟨z,J,O,U,fun q i r hq hr=>?_⟩;obtain ⟨k,b,c,D,E,I⟩:=Z q i r hq hr;exact ⟨k,b,c,D,h _ _ E,I.mono h⟩
theorem Dh.lf {ρ:Nm}:Dh ρ .lf []:=⟨[],rfl,List.nodup_nil,fun i k h=>(by cases h),fun q i r h=>(by simp at h)⟩
theorem Ns {l:List Nat} (h:l.Nodup) {p q x:Nat} (U:l[p]?=some x) (Z:l[q]?=some x):p=q:=by
 have J:=Y.lt_of_get U;have O:=Y.lt_of_get Z;have E:=List.getElem?_eq_some_iff.1 U;have I:=List.getElem?_eq_some_iff.1 Z;have D:=List.pairwise_iff_getElem.1 h;rcases Nat.lt_trichotomy p q with z | z | z
 ·exact absurd (E.2.trans I.2.symm) (D p q J O z)
 ·exact z
 ·exact absurd (I.2.trans E.2.symm) (D q p O J z)
theorem Dh.at {ρ:Nm} {m:Tr Blk} {L:List Y.Res} (e:Dh ρ m L) {i:Nat} {k:Blk} (hi:m.get i=some k) :
  ∃ q r b c,L[q]?=some r∧ρ i=some (b,c)∧BR ρ b c k r∧(∀ k' r',BR ρ b c k' r'→Dh ρ (m.set i k') (L.set q r'))∧Dh ρ (m.del i) (L.eraseIdx q):=by
 obtain ⟨aa,h1,h2,h3,h4⟩:=e;obtain ⟨q,U⟩:=List.mem_iff_getElem?.1 (h3 i k hi);have ab:=Y.lt_of_get U;obtain ⟨r,hr⟩:=Y.get_of_lt (xs:=L) (i:=q) tM;obtain ⟨I,b,c,e1,e2,e3⟩:=h4 q i r U hr;rw [hi] at e1;simp only [Option.some.injEq] at e1;subst e1;refine ⟨q,r,b,c,hr,e2,e3,fun k' r' hb=>⟨aa,by simp [h1],h2,fun j I J=>?_,fun p j r1 E D=>?_⟩,⟨aa.eraseIdx q,?_,h2.sublist (List.eraseIdx_sublist _ _),fun j I J=>?_,fun p j r1 E D=>?_⟩⟩
 ·rw [Tr.get_set] at J
  by_cases z:j=i
  ·rw [z];exact h3 i k hi
  ·rw [if_neg z] at J;exact h3 j I J
 ·rw [List.getElem?_set] at D
  by_cases O:q=p
  ·subst O;rw [if_pos rfl,if_pos tM] at D;simp only [Option.some.injEq] at D;subst D;rw [U] at E;simp only [Option.some.injEq] at E;subst E;exact ⟨k',b,c,by rw [Tr.get_set,if_pos rfl],e2,hb⟩
  ·rw [if_neg O] at D;obtain ⟨I,b1,c1,Z,f2,f3⟩:=h4 p j r1 E D;refine ⟨I,b1,c1,?_,f2,f3⟩;rw [Tr.get_set,if_neg (fun z:j=i=>O (Ns h2 U (z ▸ E)))];exact Z
 ·rw [List.length_eraseIdx,List.length_eraseIdx,h1]
 ·rw [Tr.get_del] at J
  by_cases z:j=i
  ·rw [if_pos z] at J;cases J
  ·rw [if_neg z] at J;obtain ⟨p,E⟩:=List.mem_iff_getElem?.1 (h3 j I J);have O:p≠q:=fun h=>by subst h;rw [U] at E;simp only [Option.some.injEq] at E;exact z E.symm
   refine List.mem_iff_getElem?.2 ?_;rcases Nat.lt_or_ge p q with hl | hl
   ·exact ⟨p,by rw [List.getElem?_eraseIdx,if_pos hl];exact E⟩
   ·exact ⟨p - 1,by rw [List.getElem?_eraseIdx,if_neg tM,show p - 1+1=p by omega];exact E⟩
 ·rw [List.getElem?_eraseIdx] at E D
  by_cases hl:p < q
  ·rw [if_pos hl] at E D;obtain ⟨I,b1,c1,Z,f2,f3⟩:=h4 p j r1 E D;refine ⟨I,b1,c1,?_,f2,f3⟩;rw [Tr.get_del,if_neg (fun z:j=i=>by have:=Ns h2 U (z ▸ E);omega)];exact Z
  ·rw [if_neg hl] at E D;obtain ⟨I,b1,c1,Z,f2,f3⟩:=h4 (p+1) j r1 E D;refine ⟨I,b1,c1,?_,f2,f3⟩;rw [Tr.get_del,if_neg (fun z:j=i=>by have:=Ns h2 U (z ▸ E);omega)];exact Z
theorem Dh.none {ρ:Nm} {m:Tr Blk} {L:List Y.Res} (e:Dh ρ m L) {i:Nat} (h:ρ i=Option.none):m.get i=Option.none:=by
 cases hi:m.get i with
 | none=>rfl
 | some k=>obtain ⟨q,r,b,c,_,z,_⟩:=e.at hi;rw [h] at z;cases z
theorem Dh.cons {ρ:Nm} {m:Tr Blk} {L:List Y.Res} (e:Dh ρ m L) {i b c:Nat} {k:Blk} {r:Y.Res} (hm:m.get i=Option.none) (hi:ρ i=some (b,c)) (hb:BR ρ b c k r):Dh ρ (m.set i k) (r::L):=by
 obtain ⟨ids,h1,h2,h3,h4⟩:=e;have E:i ∉ ids:=fun O=>by
  obtain ⟨q,hq⟩:=List.mem_iff_getElem?.1 O;obtain ⟨r',Z⟩:=Y.get_of_lt (xs:=L) (i:=q) (by have:=Y.lt_of_get hq;omega);obtain ⟨J,_,_,e1,_⟩:=h4 q i r' hq Z;rw [hm] at e1;cases e1
 refine ⟨i::ids,by simp [h1],List.nodup_cons.2 ⟨E,h2⟩,fun j J U=>?_,fun p j r1 I D=>?_⟩
 ·rw [Tr.get_set] at U
  by_cases z:j=i
  ·rw [z];exact List.mem_cons_self
  ·rw [if_neg z] at U;exact List.mem_cons_of_mem _ (h3 j J U)
 ·cases p with
  | zero =>
   simp only [List.getElem?_cons_zero,Option.some.injEq] at I D;subst I D;exact ⟨k,b,c,by rw [Tr.get_set,if_pos rfl],hi,hb⟩
  | succ p =>
   simp only [List.getElem?_cons_succ] at I D;obtain ⟨J,b1,c1,f1,f2,f3⟩:=h4 p j r1 I D;refine ⟨J,b1,c1,?_,f2,f3⟩;rw [Tr.get_set,if_neg (fun z:j=i=>E (z ▸ List.mem_of_getElem? I))];exact f1
def up (ρ:Nm) (i:Nat) (x:Nat × Nat):Nm:=fun j=>if j=i then some x else ρ j
theorem Hv {ρ:Nm} {i:Nat} {x:Nat × Nat}:up ρ i x i=some x:=if_pos rfl
theorem up_ne {ρ:Nm} {i j:Nat} {x:Nat × Nat} (h:j≠i):up ρ i x j=ρ j:=if_neg h
theorem K6 {ρ:Nm} {i:Nat} {x:Nat × Nat} (h:ρ i=none):Le ρ (up ρ i x):=fun j y z=>by
 by_cases e:j=i
 ·rw [e,h] at z;cases z
 ·rw [up_ne e];exact z
section
variable {ρ:Nm} {w0 w:World} {G:Y.Ghost} {Lf:List Y.Res} {P:Program} {h h':H}
def HR (ρ:Nm) (w0:World) (G:Y.Ghost) (Lf:List Y.Res) (h:H) (w:World):Prop:=∃ L,Dh ρ h.m L∧Y.Mem w0 G (L++Lf) w
theorem HR.mono (e:HR ρ w0 G Lf h w) {ρ':Nm} (E:Le ρ ρ'):HR ρ' w0 G Lf h w:=by
 obtain ⟨L,z,D⟩:=e;exact ⟨L,z.mono E,D⟩
theorem Cb {α:Type} {l r:List α} {q:Nat} {x:α} (h:l[q]?=some x):(l++r)[q]?=some x:=by
 rw [List.getElem?_append_left (Y.lt_of_get h)];exact h
theorem HR.read (e:HR ρ w0 G Lf h w) {i o n:Nat} {cs:List AV} (O:h.read i o n=some cs) :
  ∃ b c vs,ρ i=some (b,c)∧VRs ρ cs vs∧vs.length=n∧∀ j,j < n→w.cell? ⟨b,o+j,none⟩=vs[j]?:=by
 obtain ⟨L,hc,M⟩:=e;unfold H.read at O;split at O
 ·rename_i k hk;obtain ⟨q,r,b,c,U,h2,Z,_⟩:=hc.at hk;have key:∀ vs:List Value,VRs ρ k.cs vs→(∀ j v,vs[j]?=some v→w.cell? ⟨b,j,none⟩=some v)→∃ b c vs,ρ i=some (b,c)∧VRs ρ cs vs∧vs.length=n∧∀ j,j < n→w.cell? ⟨b,o+j,none⟩=vs[j]?:=by
   intro vs z D;obtain ⟨h4,h5⟩:=Qu O z;refine ⟨b,c,_,h2,h5,by rw [List.length_take,List.length_drop];omega,fun j hj=>?_⟩;obtain ⟨v,J⟩:=Y.get_of_lt (xs:=vs) (i:=o+j) tM;rw [D _ _ J,List.getElem?_take,if_pos hj,List.getElem?_drop,J]
  cases k with
  | cells us t =>
   obtain ⟨vs,E,I⟩:=Z;subst I;exact key vs E fun j v z=>M.cellL (Cb U) z
  | row us m t sz =>
   obtain ⟨vs,E,I⟩:=Z;subst I;exact key vs E fun j v z=>M.row_cell (Cb U) z
  | mapb es ck=>exact key [] rfl fun j v z=>by simp at z
  | fix us t mk =>
   obtain ⟨vs,E,I⟩:=Z;subst I;have hh:w.heap[b]?=some (.cells vs.toArray t mk):=M.own (.obj b _) (List.mem_of_getElem? (Cb U));exact key vs E fun j v z=>by simp [World.cell?,hh,z]
 ·cases O
theorem Mc {l r:List Y.Res} {q:Nat} {x y:Y.Res} (h:l[q]?=some x):(l++r).set q y=l.set q y++r:=by
 rw [List.set_append_left _ _ (Y.lt_of_get h)]
theorem HR.put (e:HR ρ w0 G Lf h w) {i o:Nat} {us:List AV} {ws:List Value} (D:h.put i o us=some h') (hu:VRs ρ us ws) :
  ∃ b c w',ρ i=some (b,c)∧(storeCells ⟨b,o,none⟩ ws 0).run P w=.ok () w'∧HR ρ w0 G Lf h' w'∧h'.nx=h.nx∧(∃ vs:List Value,o+ws.length≤vs.length∧∀ j v,vs[j]?=some v→w.cell? ⟨b,j,none⟩=some v∧w.frozen? ⟨b,j,none⟩=false):=by
 obtain ⟨L,hc,M⟩:=e;unfold H.put at D;split at D
 ·rename_i O;split at D
  ·rename_i k hk;split at D
   ·rename_i k' z;simp only [Option.some.injEq] at D;subst D;obtain ⟨q,r,b,c,E,h2,h3,h4,_⟩:=hc.at hk;have h5:=Er O hu;cases k with
    | cells cs t =>
     obtain ⟨vs,U,Y⟩:=h3;subst Y;simp only [Blk.put] at z;split at z
     ·rename_i cs' I;simp only [Option.some.injEq] at z;subst z;obtain ⟨Z,e4⟩:=Vj I U hu;obtain ⟨w',f1,J⟩:=M.store_blk (P:=P) (Cb E) o 0 h5 tM;refine ⟨b,c,w',h2,f1,⟨L.set q _,h4 _ _ ⟨_,e4,rfl⟩,?_⟩,rfl,vs,Z,fun j v hv=>⟨M.cellL (Cb E) hv,M.frozenL (Cb E) j⟩⟩;rw [Mc E] at J;exact J
     ·cases z
    | row cs n t sz =>
     obtain ⟨vs,U,Y⟩:=h3;subst Y;simp only [Blk.put] at z;split at z
     ·rename_i cs' I;simp only [Option.some.injEq] at z;subst z;obtain ⟨Z,e4⟩:=Vj I U hu;obtain ⟨w',f1,J⟩:=M.store_row (P:=P) (Cb E) o 0 h5 tM;refine ⟨b,c,w',h2,f1,⟨L.set q _,h4 _ _ ⟨_,e4,rfl⟩,?_⟩,rfl,vs,Z,fun j v hv=>⟨M.row_cell (Cb E) hv,(M.row_at (Cb E)).1.frozenAt _⟩⟩;rw [Mc E] at J;exact J
     ·cases z
    | mapb es ck=>cases z
    | fix cs t mk=>cases z
   ·cases D
  ·cases D
 ·cases D
theorem HR.new (e:HR ρ w0 G Lf h w) (D:ρ h.nx=none) {b c:Nat} {k:Blk} {r:Y.Res} {w':World} (E:BR (up ρ h.nx (b,c)) b c k r)
  (I:∀ L,Y.Mem w0 G L w→Y.Mem w0 G (r::L) w'):HR (up ρ h.nx (b,c)) w0 G Lf ⟨h.m.set h.nx k,h.nx+1⟩ w':=by
 obtain ⟨L,z,M⟩:=e;exact ⟨r::L,(z.mono (K6 D)).cons (z.none D) Hv E,I _ M⟩
end
def Ahh (P:Program) (t:TypeId):Nat:=match P.underlying t with
 | some (.int _)=>0
 | some .bool=>1
 | some .string=>2
 | _=>3
def Aho (P:Program):Nat→List Nat→List Field→Bool
 | _,[],[]=>true
 | k,c::ks,f::r=>(!(f.name== "_") && (Nat.beq f.offset k && Nat.beq (Ahh P f.type) c)) && Aho P (k+1) ks r
 | _,_,_=>false
def Aav (P:Program) (t:TypeId) (ks:List Nat):Bool:=!(P.eqGuardType P.depth t) && (!(P.stoodInHeld t) && (match P.underlying t with
 | some (.struct fs)=>Aho P 0 ks fs.toList
 | _=>false))
structure COK (P:Program) (C:Ctx):Prop where
 ty:∀ t i,C.ty t=some i→P.info? t=some i∧i.zero.isSome=true
 flat:∀ t ks,C.flat t=some ks→Aav P t ks=true
 eqa:∀ x y,C.eqa x y=true→x=y
section
variable {P:Program} {C:Ctx} (hC:COK P C)
include hC
theorem Dd {t:Nat} {d:TypeDesc} (h:und C t=some d):P.underlying t=some d:=by
 unfold und at h;split at h
 ·rename_i i I;have D:=(hC.ty _ _ I).1;unfold Program.underlying;rw [D];split at h
  ·rename_i nm u hd;split at h
   ·rename_i j J;have E:=(hC.ty _ _ J).1;obtain ⟨z,_⟩:=i;simp only at hd;subst hd;simp only [E,Option.map_some];exact h
   ·cases h
  ·rename_i hd;obtain ⟨z,_⟩:=i;simp only [Option.some.injEq] at h;subst h;cases z <;> first | rfl | exact absurd rfl (hd _ _)
 ·cases h
theorem und_ty {t:Nat} {d:TypeDesc} (h:und C t=some d):∃ i,C.ty t=some i:=by
 unfold und at h;split at h
 ·exact ⟨_,tA⟩
 ·cases h
theorem tok {t:Nat} {i:TypeInfo} (h:C.ty t=some i):∃ D,Y.TOK P t D∧D.size=size C t∧D.bytes=bytes C t∧i.zero=some D.zero∧D.k=Y.tk P t:=by
 obtain ⟨E,J⟩:=hC.ty _ _ h;obtain ⟨z,I⟩:=Option.isSome_iff_exists.1 J;exact ⟨⟨Y.tk P t,i.size,i.bytes,z⟩,⟨rfl,by rw [E];rfl,by rw [E];exact I⟩,by simp [size,h],by simp [bytes,h],I,rfl⟩
theorem Eg {t:Nat} (h:nz (size C t)=true):∃ i,C.ty t=some i:=by
 unfold size at h;split at h
 ·exact ⟨_,tA⟩
 ·cases h
theorem Fc {t:Nat} {d:TypeDesc} (h:und C t=some d):Y.tk P t=(match d with
 | .int k=>.int k | .bool=>.bool | .string=>.str | .pointer e=>.ptr e | .slice e=>.slice e
 | .struct fs=>.struct (fs.toList.map fun f=>(f.offset,P.cellsOf f.type,f.type)) | .array n e=>.array n e | .map k e=>.map k e | .func ..=>.func | .interface _=>.iface | _=>.other):=by
 unfold Y.tk;rw [Dd hC h];cases d <;> rfl
theorem Gn {t:Nat} {b:Bool} (h:isAgg C t=some b):(Y.tk P t).agg=some b∧∃ i,C.ty t=some i:=by
 unfold isAgg at h;split at h <;> first
  | (rename_i hd;rw [Fc hC hd];simp only [Option.some.injEq] at h;subst h;exact ⟨rfl,und_ty hC hd⟩)
  | cases h
theorem O9 {ρ:Nm} {t:Nat} {x:AV} (h:zero C t=some x):∃ z,Y.TOK P t z∧z.size=size C t∧z.bytes=bytes C t∧VR ρ x z.zero∧z.k=Y.tk P t:=by
 unfold zero at h;split at h
 ·rename_i i U;split at h
  ·rename_i v Z;obtain ⟨z,E,I,J,D,O⟩:=tok hC U;rw [Z] at D;simp only [Option.some.injEq] at D;subst D;exact ⟨z,E,I,J,Uh h,O⟩
  ·cases h
 ·cases h
end
def XR (ρ:Nm) (f:Operand→Bool) (e:Env) (a:Operand→Value):Prop:=∀ x v,f x=true→ev e x=some v→VR ρ v (a x)
def Qt (P:Program) (w:World) (ρ:Nm) (a:Operand→Value) (op:Op) (h h':H) (r:Option AV):Prop :=
 h' = h∧∃ x v,r=some x∧VR ρ x v∧∀ d t p af g,(execOp a ⟨d,op,t,p,af,g⟩).run P w=.ok (.value v) w
theorem Cf {h h':H} {o:Option AV} {r:Option AV} (e:val h o=some (r,h')):∃ x,o=some x∧r=some x∧h' = h:=by
 cases o with
 | none=>cases e
 | some x=>simp only [val,Option.some.injEq,Prod.mk.injEq] at e;exact ⟨x,rfl,e.1.symm,e.2.symm⟩
theorem H2 {h h':H} {x:AV} {r:Option AV} (e:(some (some x,h):R)=some (r,h')):r=some x∧h' = h:=by
 simp only [Option.some.injEq,Prod.mk.injEq] at e;exact ⟨e.1.symm,e.2.symm⟩
theorem Qt.mk' {P:Program} {w:World} {ρ:Nm} {a:Operand→Value} {op:Op} {h h':H} {x:AV} {r:Option AV} (e:(some (some x,h):R)=some (r,h')) {v:Value} (J:VR ρ x v)
  (I:∀ d t p z g,(execOp a ⟨d,op,t,p,z,g⟩).run P w=.ok (.value v) w):Qt P w ρ a op h h' r:=by
 obtain ⟨D,E⟩:=H2 e;exact ⟨E,x,v,D,J,I⟩
section
variable {P:Program} {C:Ctx} {w:World} {ρ:Nm} {f:Operand→Bool} {e:Env} {a:Operand→Value} {h h':H} {r:Option AV}
theorem Q5 {n:Int} {k:Nat} (h:Eo n=some k):n=(k:Int):=by
 cases n with
 | ofNat m=>simp only [Eo,Option.some.injEq] at h;rw [h];rfl
 | negSucc m=>cases h
theorem nat?_ok {x:AV} {v:Value} {k:Nat} (h:nat? x=some k) (z:VR ρ x v):∃ kd,v=.int kd (k:Int):=by
 cases x <;> simp only [nat?] at h <;> first | cases h | skip
 rename_i kd n;exact ⟨kd,by rw [← Q5 h];exact z⟩
theorem Mi {x:Operand} {k:Nat} (X:XR ρ f e a) (D:f x=true) (h:O5 e x=some k):∃ kd,a x=.int kd (k:Int):=by
 unfold O5 at h;split at h
 ·rename_i v z;exact nat?_ok h (X _ _ D z)
 ·cases h
theorem mv_ok {x:Operand} (X:XR ρ f e a) (I:f x=true) (O:val h (ev e x)=some (r,h')):Qt P w ρ a (.move x) h h' r∧Qt P w ρ a (.assign x) h h' r:=by
 obtain ⟨v,z,D,E⟩:=Cf O;exact ⟨⟨E,v,_,D,X _ _ I z,fun d t p J g=>Y.run_move rfl⟩,⟨E,v,_,D,X _ _ I z,fun d t p J g=>Y.run_assign rfl⟩⟩
theorem pick_ok {c x y:Operand} (X:XR ρ f e a) (O:f c=true) (Z:f x=true) (hy:f y=true) (z:I2 e h c x y=some (r,h')):Qt P w ρ a (.pick c x y) h h' r:=by
 unfold I2 at z;split at z
 ·rename_i J;obtain ⟨v,D,E,I⟩:=Cf z;exact ⟨I,v,_,E,X _ _ Z D,fun d t p U g=>Y.run_pick_t (X _ _ O J) rfl rfl⟩
 ·rename_i J;obtain ⟨v,D,E,I⟩:=Cf z;exact ⟨I,v,_,E,X _ _ hy D,fun d t p U g=>Y.run_pick_f (X _ _ O J) rfl rfl⟩
 ·cases z
theorem nil_ok {x:Operand} (X:XR ρ f e a) (J:f x=true) (E:O1 e h x=some (r,h')):Qt P w ρ a (.nilCheck x) h h' r:=by
 unfold O1 at E;split at E
 ·rename_i i o D;have D:=X _ _ J D;obtain ⟨b,c,U,I⟩:=id D;exact Qt.mk' E D fun d t p O g=>by rw [I];exact Y.run_nilCheck I
 ·rename_i g y z D;have D:=X _ _ J D;obtain ⟨vs,ws,U,I,Z⟩:=id D;exact Qt.mk' E D fun d t p O g=>by simp [execOp,Z]
 ·cases E
theorem un_ok {op:UnOp} {ty:TypeId} {x:Operand} (X:XR ρ f e a) (E:f x=true) (z:oUn e h op x=some (r,h')):Qt P w ρ a (.unOp op ty x) h h' r:=by
 unfold oUn at z;split at z
 ·split at z
  ·rename_i b D;exact Qt.mk' z (v:=.bool (!b)) rfl fun d t p I g=>Y.run_not (X _ _ E D)
  ·cases z
 ·cases z
theorem Hs (X:XR ρ f e a):∀ {l:List Operand} {xs:List AV},Pq f l=true→evs e l=some xs→VRs ρ xs (l.map a)
 | [],xs,_,h=>by
  have:xs=[]:=(Option.some.inj (show some []=some xs from h)).symm;subst this;rfl
 | x::l,xs,hf,h=>by
  simp only [Pq,Bool.and_eq_true] at hf;obtain ⟨y,ys,h1,h2,h3⟩:=Ir (show Dq (ev e x) (evs e l)=some xs from h);rw [h3];exact ⟨a x,l.map a,rfl,X _ _ hf.1 h1,Hs X hf.2 h2⟩
theorem func_ok {fn:Fn} {x y:List Operand} (X:XR ρ f e a) (I:Pq f x=true) (J:Pq f y=true) (z:I5 e h fn x y=some (r,h')):Qt P w ρ a (.makeFunc fn x.toArray y.toArray) h h' r:=by
 unfold I5 at z;split at z
 ·rename_i xs ys D E;exact Qt.mk' z ⟨_,_,Hs X I D,Hs X J E,rfl⟩ fun d t p O g=>by simp [execOp,Instr.makeFunc]
 ·cases z
theorem ext_ok {x:Operand} {i:Nat} (X:XR ρ f e a) (hx:f x=true) (z:O2 e h x i=some (r,h')):Qt P w ρ a (.extract x i) h h' r:=by
 unfold O2 at z;split at z
 ·rename_i vs hv;obtain ⟨v,D,E,I⟩:=Cf z;obtain ⟨us,J,O⟩:=X _ _ hx hv;obtain ⟨u,U,Z⟩:=J.get D;exact ⟨I,v,u,E,Z,fun d t p af g=>Y.run_extract O (by simpa using U)⟩
 ·cases z
theorem binI_ok {op:BinOp} {ty yt:TypeId} {x y:Operand} {k:IntKind} {p q:Int} {z:AV} (I:a x=.int k p) (J:a y=.int k q) (D:Y1 op k p q=some z) :
  ∃ v,VR ρ z v∧∀ d t p E g,(execOp a ⟨d,.binOp op ty x y yt,t,p,E,g⟩).run P w=.ok (.value v) w:=by
 unfold Y1 at D;split at D
 ·simp only [Option.some.injEq] at D;subst D;exact ⟨_,rfl,fun d t p E g=>Y.run_add I J⟩
 ·simp only [Option.some.injEq] at D;subst D;exact ⟨_,rfl,fun d t p E g=>Y.run_sub I J⟩
 ·simp only [Option.some.injEq] at D;subst D;exact ⟨_,rfl,fun d t p E g=>Y.run_mul I J⟩
 ·split at D
  ·cases D
  ·rename_i h0;simp only [Option.some.injEq] at D;subst D;exact ⟨_,rfl,fun d t p E g=>by simp [execOp,I,J,eqGuard,binOp,Op.intDiv,h0]⟩
 ·split at D
  ·cases D
  ·rename_i h0;simp only [Option.some.injEq] at D;subst D;exact ⟨_,rfl,fun d t p E g=>Y.run_rem I J h0⟩
 ·simp only [Option.some.injEq] at D;subst D;exact ⟨_,rfl,fun d t p E g=>Y.run_lss I J⟩
 ·simp only [Option.some.injEq] at D;subst D;exact ⟨_,rfl,fun d t p E g=>Y.run_leq I J⟩
 ·simp only [Option.some.injEq] at D;subst D;exact ⟨_,rfl,fun d t p E g=>Y.run_gtr I J⟩
 ·simp only [Option.some.injEq] at D;subst D;exact ⟨_,rfl,fun d t p E g=>Y.run_geq I J⟩
 ·simp only [Option.some.injEq] at D;subst D;exact ⟨_,rfl,fun d t p E g=>Y.run_eqi I J⟩
 ·simp only [Option.some.injEq] at D;subst D;exact ⟨_,rfl,fun d t p E g=>Y.run_nei I J⟩
 ·split at D
  ·rename_i m U;split at D
   ·rename_i O;simp only [Option.some.injEq] at D;subst D;exact ⟨_,rfl,fun d t p E g=>Y.run_shri I J (Q5 U) (Nat.le_of_ble_eq_true O)⟩
   ·cases D
  ·cases D
 ·cases D
theorem binS_ok {op:BinOp} {ty yt:TypeId} {x y:Operand} {p q:List UInt8} {z:AV} (I:a x=.string (Y.str p)) (J:a y=.string (Y.str q)) (D:Y0 op p q=some z) :
  ∃ v,VR ρ z v∧∀ d t p E g,(execOp a ⟨d,.binOp op ty x y yt,t,p,E,g⟩).run P w=.ok (.value v) w:=by
 unfold Y0 at D;split at D
 ·split at D
  ·rename_i O;simp only [Option.some.injEq] at D;subst D;exact ⟨_,rfl,fun d t p E g=>Y.run_strAdd I J (Nat.le_of_ble_eq_true O)⟩
  ·cases D
 ·simp only [Option.some.injEq] at D;subst D;exact ⟨_,rfl,fun d t p E g=>Y.run_strEq I J⟩
 ·simp only [Option.some.injEq] at D;subst D;exact ⟨_,rfl,fun d t p E g=>Y.run_strNe I J⟩
 ·simp only [Option.some.injEq] at D;subst D;exact ⟨_,rfl,fun d t p E g=>Y.run_strLss I J⟩
 ·simp only [Option.some.injEq] at D;subst D;exact ⟨_,rfl,fun d t p E g=>Y.run_strGtr I J⟩
 ·simp only [Option.some.injEq] at D;subst D;exact ⟨_,rfl,fun d t p E g=>Y.run_strLeq I J⟩
 ·simp only [Option.some.injEq] at D;subst D;exact ⟨_,rfl,fun d t p E g=>Y.run_strGeq I J⟩
 ·cases D
theorem Aek {n:Nat} {xs ys:Array Value}:∀ (ks:List Nat) (fs:List Field) (k:Nat) (A B:List AV) (b:Bool),Aho P k ks fs=true→VRs ρ A (xs.toList.drop k)→VRs ρ B (ys.toList.drop k)→eqL ks A B=some b →
  (Op.eqFields (n+1) xs ys fs).run P w=.ok b w
 | [],[],k,A,B,b,_,_,_,h=>by
  cases A <;> cases B <;> first | (simp only [eqL,Option.some.injEq] at h;subst h;simp [Op.eqFields]) | cases h
 | [],_::_,k,A,B,b,hF,_,_,h=>by cases hF
 | _::_,[],k,A,B,b,hF,_,_,h=>by cases hF
 | c::ks,g::fs,k,A,B,b,hF,hA,hB,h=>by
  simp only [Aho,Bool.and_eq_true,Bool.not_eq_true'] at hF;obtain ⟨⟨hn,ho,ht⟩,hF⟩:=hF;have ho:=Nat.eq_of_beq_eq_true ho;have ht:=Nat.eq_of_beq_eq_true ht
  match A,B with
  | [],_=>unfold eqL at h;split at h <;> simp_all
  | x::A,[]=>unfold eqL at h;split at h <;> simp_all
  | x::A,y::B =>
  obtain ⟨v,va,ea,e1,e2⟩:=hA;have hxk:xs[k]?=some v:=by
   have:xs.toList[k]?=some v:=by rw [← List.head?_drop,ea];rfl
   simpa using this
  have hva:va=xs.toList.drop (k+1):=by rw [← List.drop_drop,ea];rfl
  obtain ⟨u,vb,eb,f1,f2⟩:=hB;have hyk:ys[k]?=some u:=by
   have:ys.toList[k]?=some u:=by rw [← List.head?_drop,eb];rfl
   simpa using this
  have hvb:vb=ys.toList.drop (k+1):=by rw [← List.drop_drop,eb];rfl
  have ih:=fun b h=>Aek (n:=n) (xs:=xs) (ys:=ys) ks fs (k+1) A B b hF (hva ▸ e2) (hvb ▸ f2) h;have hne:g.name≠ "_":=by simpa using hn
  have key:∀ (b1 r:Bool),(Y.tk P g.type).agg=some false→(Op.equalIn (n+1) g.type v u).run P w=.ok b1 w→eqL ks A B=some r→b=(b1 && r)→(Op.eqFields (n+1) xs ys (g::fs)).run P w=.ok b w:=by
   intro b1 r hag h1 h2 h3;have p1:=Y.run_part1 (P:=P) (w:=w) hag hxk;have p2:=Y.run_part1 (P:=P) (w:=w) hag hyk;simp only [Op.eqFields,hne,ho,ne_eq,not_false_eq_true,if_true,Sem.run_bind,p1,p2,Result.andThen_ok,h1];cases b1
   ·simp [h3]
   ·simp [h3,ih r h2]
  unfold eqL at h;split at h
  ·rename_i heq _ _;cases heq
  ·rename_i q1 q2 q3;simp only [List.cons.injEq] at q1 q2 q3;obtain ⟨rfl,rfl⟩:=q1;obtain ⟨rfl,rfl⟩:=q2;obtain ⟨rfl,rfl⟩:=q3;have hu:∃ kd,P.underlying g.type=some (.int kd):=by unfold Ahh at ht;split at ht <;> first | exact ⟨_,tA⟩ | cases ht
   obtain ⟨kd,hu⟩:=hu;split at h
   ·rename_i hjk;have hjk:=of_decide_eq_true hjk;subst hjk;split at h
    ·rename_i r hr;simp only [Option.some.injEq] at h;refine key _ r (by unfold Y.tk;rw [hu];rfl) ?_ hr h.symm;rw [show v=_ from e1,show u=_ from f1];simp only [Op.equalIn,Sem.run_bind,Y.run_under hu,Result.andThen_ok,if_true,Sem.run_pure];rfl
    ·cases h
   ·cases h
  ·rename_i q1 q2 q3;simp only [List.cons.injEq] at q1 q2 q3;obtain ⟨rfl,rfl⟩:=q1;obtain ⟨rfl,rfl⟩:=q2;obtain ⟨rfl,rfl⟩:=q3;have hu:P.underlying g.type=some .bool:=by unfold Ahh at ht;split at ht <;> first | assumption | cases ht
   have hk:Y.tk P g.type=.bool:=by unfold Y.tk;rw [hu]
   split at h
   ·rename_i r hr;simp only [Option.some.injEq] at h;refine key _ r (by rw [hk];rfl) ?_ hr h.symm;rw [show v=_ from e1,show u=_ from f1];exact Y.run_equalIn_bool n hk
   ·cases h
  ·rename_i q1 q2 q3;simp only [List.cons.injEq] at q1 q2 q3;obtain ⟨rfl,rfl⟩:=q1;obtain ⟨rfl,rfl⟩:=q2;obtain ⟨rfl,rfl⟩:=q3;have hu:P.underlying g.type=some .string:=by unfold Ahh at ht;split at ht <;> first | assumption | cases ht
   split at h
   ·rename_i r hr;simp only [Option.some.injEq] at h;refine key _ r (by unfold Y.tk;rw [hu];rfl) ?_ hr h.symm;rw [show v=_ from e1,show u=_ from f1,run_equalIn_string _ _ _ _ _ hu,Y.str_toList,Y.str_toList,Y.bd]
   ·cases h
  ·cases h
theorem Axd (Z:COK P C) {ty yt:TypeId} {x y:Operand} {p q:AV} {b:Bool} (O:VR ρ p (a x)) (E:VR ρ q (a y)) (z:eqT C ty p q=some b) (d:Option Tmp) (t:TypeId) (ps:String) (af:Array Edge) (g:Option (Nat × Bool)) :
  (execOp a ⟨d,.binOp .eql ty x y yt,t,ps,af,g⟩).run P w=.ok (.value (.bool b)) w∧(execOp a ⟨d,.binOp .neq ty x y yt,t,ps,af,g⟩).run P w=.ok (.value (.bool (!b))) w:=by
 unfold eqT at z;split at z
 ·rename_i J;have D:=Fc Z J;split at z
  ·simp only [Option.some.injEq] at z;subst z;exact ⟨Y.run_eqb D O E,Y.run_neb D O E⟩
  ·cases z
 ·rename_i J;have D:=Fc Z J;split at z
  ·simp only [Option.some.injEq] at z;subst z;obtain ⟨b,c,h1,I⟩:=O;exact ⟨Y.run_eqnil D I E.1,Y.run_nenil D I E.1⟩
  ·simp only [Option.some.injEq] at z;subst z;exact ⟨Y.run_eqnil D O.1 E.1,Y.run_nenil D O.1 E.1⟩
  ·cases z
 ·rename_i J;have D:=Fc Z J;split at z
  ·simp only [Option.some.injEq] at z;subst z;obtain ⟨_,b,c,h1,I⟩:=O;exact ⟨Y.run_eqnilS D I E.1,Y.run_nenilS D I E.1⟩
  ·simp only [Option.some.injEq] at z;subst z;obtain ⟨b,c,h1,_,I⟩:=O;exact ⟨Y.run_eqnilS D I E.1,Y.run_nenilS D I E.1⟩
  ·simp only [Option.some.injEq] at z;subst z;exact ⟨Y.run_eqnilS D O.1 E.1,Y.run_nenilS D O.1 E.1⟩
  ·cases z
 ·rename_i fs J;have J:=Dd Z J;split at z
  ·split at z
   ·rename_i ks ab;have hF:=Z.flat _ _ ab;simp only [Aav,J,Bool.and_eq_true,Bool.not_eq_true'] at hF;obtain ⟨hg,ac,hF⟩:=hF;obtain ⟨vs,h1,I⟩:=O;obtain ⟨us,h3,h4⟩:=E;have aa:P.fieldsOf ty=fs:=by simp [Program.fieldsOf,J]
    have ae:P.underlying ty=some (.struct (P.fieldsOf ty)):=by rw [aa];exact J
    have hE:(Op.equalIn 10000 ty (.agg vs.toArray) (.agg us.toArray)).run P w=.ok b w:=by
     rw [show 10000=9999+1 from rfl,run_equalIn_struct w 9999 ty _ _ ae ac,aa];exact Aek (n:=9998) _ _ 0 _ _ b hF (by simpa using h1) (by simpa using h3) z
    constructor
    ·have h0:=run_eqGuard_agg (P:=P) w .eql ty x y vs.toArray us.toArray hg;have U:=run_eql_struct (P:=P) w ty vs.toArray us.toArray;rw [hE] at U;simp only [execOp,I,h4,Sem.run_bind,h0,Result.andThen_ok,U,Sem.run_pure]
    ·have h0:=run_eqGuard_agg (P:=P) w .neq ty x y vs.toArray us.toArray hg;have U:=run_neq_struct (P:=P) w ty vs.toArray us.toArray;rw [hE] at U;simp only [execOp,I,h4,Sem.run_bind,h0,Result.andThen_ok,U,Sem.run_pure]
   ·cases z
  ·cases z
 ·cases z
theorem bin_ok (hC:COK P C) {op:BinOp} {ty yt:TypeId} {x y:Operand} (X:XR ρ f e a) (hx:f x=true) (hy:f y=true) (J:O4 C e h op ty x y=some (r,h')):Qt P w ρ a (.binOp op ty x y yt) h h' r:=by
 unfold O4 at J;split at J
 ·rename_i p E;split at J
  ·rename_i q I;obtain ⟨z,D,O,U⟩:=Cf J;have E:=X _ _ hx E;have I:=X _ _ hy I;unfold bin at D;split at D
   ·split at D
    ·rename_i hk;have hk:=of_decide_eq_true hk;subst hk;obtain ⟨v,h2,h3⟩:=binI_ok (P:=P) (w:=w) (ρ:=ρ) (ty:=ty) (yt:=yt) E I D;exact ⟨U,z,v,O,h2,h3⟩
    ·unfold Arw at D;split at D
     ·split at D
      ·rename_i m hm;split at D
       ·rename_i aa;simp only [Option.some.injEq] at D;subst D;exact ⟨U,_,_,O,rfl,fun d t p Z g=>Y.run_shri E I (Q5 hm) (Nat.le_of_ble_eq_true aa)⟩
       ·cases D
      ·cases D
     ·cases D
   ·obtain ⟨v,h2,h3⟩:=binS_ok (P:=P) (w:=w) (ρ:=ρ) (ty:=ty) (yt:=yt) E I D;exact ⟨U,z,v,O,h2,h3⟩
   ·unfold Abg at D;split at D
    ·unfold asB at D;split at D
     ·rename_i b hb;simp only [Option.some.injEq] at D;subst D;exact ⟨U,_,.bool b,O,rfl,fun d t p Z g=>(Axd hC E I hb d t p Z g).1⟩
     ·cases D
    ·unfold Aaf at D;split at D
     ·rename_i b hb;simp only [Option.some.injEq] at D;subst D;exact ⟨U,_,.bool (!b),O,rfl,fun d t p Z g=>(Axd hC E I hb d t p Z g).2⟩
     ·cases D
    ·cases D
  ·cases J
 ·cases J
end
section
variable {P:Program} {C:Ctx} {w w0:World} {G:Y.Ghost} {Lf:List Y.Res} {ρ:Nm} {f:Operand→Bool} {e:Env} {a:Operand→Value} {h h':H} {r:Option AV}
theorem Ro (D:COK P C) {t:Nat} {i:TypeInfo} (z:C.ty t=some i):P.cellsOf t=size C t:=by
 simp [Program.cellsOf,(D.ty _ _ z).1,size,z]
def PR (ρ:Nm):List (Nat × AV)→List (Nat × Value)→Prop
 | [],l=>l=[]
 | p::r,l=>∃ v t,l=(p.1,v)::t∧VR ρ p.2 v∧PR ρ r t
theorem Aeh (X:XR ρ f e a):∀ {ps:List (Nat × Operand)} {xs:List (Nat × AV)},Vm f ps=true→evp e ps=some xs→PR ρ xs (ps.map fun q=>(q.1,a q.2))
 | [],xs,_,h=>by simp only [evp,Option.some.injEq] at h;subst h;rfl
 | (i,x)::ps,xs,hf,h=>by
  simp only [Vm,Bool.and_eq_true] at hf;simp only [evp] at h;split at h
  ·rename_i v vs hv hvs;simp only [Option.some.injEq] at h;subst h;exact ⟨a x,_,rfl,X _ _ hf.1 hv,Aeh X hf.2 hvs⟩
  ·cases h
theorem Wx {pl:Nat→Option (Nat × Nat)}:∀ {ps:List (Nat × AV)} {qs:List (Nat × Value)} {cs r:List AV} {vs:List Value},lay pl cs ps=some r→VRs ρ cs vs→PR ρ ps qs→∃ us:List Value,VRs ρ r us∧Instr.fill pl vs.toArray qs=some us.toArray
 | [],qs,cs,r,vs,h,hv,hp=>by
  simp only [lay,Option.some.injEq] at h;subst h;rw [show qs=[] from hp];exact ⟨vs,hv,rfl⟩
 | (i,x)::ps,_,cs,r,vs,h,hv,⟨v,t,e1,e2,e3⟩=>by
  subst e1;simp only [lay] at h;split at h
  ·rename_i cs' hc;obtain ⟨ws,h1,h2⟩:=Ic e2;unfold Q8 at hc;split at hc
   ·rename_i off sz hpl;split at hc
    ·rename_i hl;have hl:=Nat.eq_of_beq_eq_true hl;have hwl:ws.length=sz:=by rw [← hl];exact h2.len
     obtain ⟨h3,h4⟩:=Vj hc hv h2;obtain ⟨us,h5,h6⟩:=Wx h h4 e3;refine ⟨us,h5,?_⟩;have hcond:¬ (v.cells.size≠sz∨off+v.cells.size > vs.toArray.size):=by
      rw [h1];simp only [List.size_toArray];omega
     simp only [Instr.fill,hpl];rw [if_neg (by simpa using hcond),h1];rw [show (fun (cs:Array Value) (x:Value × Nat)=>match x with | (c,j)=>cs.setIfInBounds (off+j) c)=(fun (cs:Array Value) (cj:Value × Nat)=>cs.setIfInBounds (off+cj.2) cj.1) from rfl];have hfold:=Y.foldl_off off ws 0 (vs.take off) ((vs.drop off).take ws.length) (vs.drop (off+ws.length)) (by rw [List.length_take,List.length_drop];omega) (by rw [List.length_take];omega);have hsplit:vs.take off++(vs.drop off).take ws.length++vs.drop (off+ws.length)=vs:=by
      rw [List.append_assoc,← List.drop_drop,List.take_append_drop,List.take_append_drop]
     rw [hsplit] at hfold;rw [← Array.foldl_toList,Array.toList_zipIdx];show Instr.fill pl ((ws.zipIdx 0).foldl _ vs.toArray) t=_;rw [hfold,List.append_assoc,← Lq vs off ws h3];exact h6
    ·cases hc
   ·cases hc
  ·cases h
theorem Ayp {t:Nat} {z:List AV} {D:Y.TI} (E:VR ρ (.agg z) D.zero):∃ vs:List Value,D.zero.cells=vs.toArray∧VRs ρ z vs:=Ic E
theorem Od {o:Option (List AV)} (z:aggR h o=some (r,h')):∃ cs,o=some cs∧r=some (.agg cs)∧h' = h:=by
 unfold aggR at z;split at z
 ·obtain ⟨D,E⟩:=H2 z;exact ⟨_,rfl,D,E⟩
 ·cases z
theorem Ayb (I:COK P C) {t0:Nat} {ps:List (Nat × Operand)} (X:XR ρ f e a) (hf:Vm f ps=true) (D:Dn C e h t0 ps=some (r,h')):Qt P w ρ a (.build t0 ps.toArray) h h' r:=by
 unfold Dn at D;split at D
 ·rename_i z xs hz ab;obtain ⟨ti,T,t1,t2,t3,t4⟩:=O9 (ρ:=ρ) I hz;obtain ⟨vs,h2,h3⟩:=Ayp (t:=t0) t3;have hp:=Aeh X hf ab;split at D
  ·rename_i fs hu;split at D
   ·rename_i Z;obtain ⟨cs,q1,q2,q3⟩:=Od D;obtain ⟨us,O,U⟩:=Wx q1 h3 hp;have E:∀ x∈fs.toList,P.cellsOf x.type=size C x.type∧nz (size C x.type)=true:=fun x hx=>by
     have:=List.all_eq_true.1 Z x hx;obtain ⟨i,J⟩:=Eg (C:=C) I this;exact ⟨Ro I J,this⟩
    refine ⟨q3,_,_,q2,⟨us,O,rfl⟩,fun d t p af g=>Y.run_buildS (Fc I hu) ?_ T (ps:=ps.map fun q=>(q.1,a q.2)) (by simp) ?_⟩
    ·rw [List.all_map];refine List.all_eq_true.2 fun x hx=>?_;obtain ⟨q4,q5⟩:=E x hx;simp only [Function.comp,q4];exact q5
    ·rw [h2,← U];congr 1
     funext j
     simp only [Rg,List.getElem?_map];cases hj:fs.toList[j]? with
     | none=>rfl
     | some x=>simp only [Option.map_some];rw [(E x (List.mem_of_getElem? hj)).1]
   ·cases D
  ·rename_i n el hu;split at D
   ·rename_i aa;obtain ⟨cs,q1,q2,q3⟩:=Od D;obtain ⟨us,O,U⟩:=Wx q1 h3 hp;obtain ⟨i,J⟩:=Eg (C:=C) I aa;obtain ⟨te,Te,e1,_⟩:=tok I J;refine ⟨q3,_,_,q2,⟨us,O,rfl⟩,fun d t p af g=>?_⟩;have hk:=Fc I hu;simp only [execOp,Instr.build,Sem.run_bind,T.zeroValue,Result.andThen_ok,Y.run_under (Y.under_array hk),Te.sizeOf];rw [e1,h2];have:(ps.toArray.map fun q=>(q.1,a q.2)).toList=ps.map fun q=>(q.1,a q.2):=by simp
    simp only [this,U];simp
   ·cases D
  ·cases D
 ·cases D
theorem Rh (O:COK P C) {s k z ty:Nat} (h:fieldAt C s k=some (z,ty)):∃ I:List (Nat × Nat × Nat),Y.tk P s=.struct I∧I[k]?=some (z,P.cellsOf ty,ty)∧∃ J:Array Field,P.underlying s=some (.struct J)∧∃ D,J[k]?=some D∧D.offset=z∧D.type=ty:=by
 unfold fieldAt at h;split at h
 ·rename_i I U;split at h
  ·rename_i D E;simp only [Option.some.injEq,Prod.mk.injEq] at h;obtain ⟨rfl,rfl⟩:=h;exact ⟨_,Fc O U,by simp [E],I,Dd O U,D,by simpa using E,rfl,rfl⟩
  ·cases h
 ·cases h
theorem Awv (D:COK P C) {s k:Nat} {x:Operand} (X:XR ρ f e a) (hx:f x=true) (z:Fw C e h s x k=some (r,h')):Qt P w ρ a (.fieldAddr s x k) h h' r:=by
 unfold Fw at z;split at z
 ·rename_i aa ty hf;split at z
  ·rename_i I;split at z
   ·rename_i i o hv;obtain ⟨b,c,J,O⟩:=X _ _ hx hv;obtain ⟨fs,U,Z,_⟩:=Rh D hf;obtain ⟨i,E⟩:=Eg (C:=C) D I;exact Qt.mk' z ⟨b,c,J,rfl⟩ fun d t p af g=>Y.run_fieldAddr U Z (by rw [Ro D E];simpa [nz] using I) O
   ·cases z
  ·cases z
 ·cases z
theorem Afw (J:COK P C) {el D:Nat} {cs:List AV} {x:AV} {vs:List Value} (h:Ld C el D cs=some x) (Z:VRs ρ cs vs):∃ v,VR ρ x v∧(part el vs.toArray D).run P w=.ok v w:=by
 unfold Ld at h;split at h
 ·rename_i z;obtain ⟨E,i,hi⟩:=Gn J z;obtain ⟨ti,T,e1,_⟩:=tok J hi;split at h
  ·rename_i us O;simp only [Option.some.injEq] at h;subst h;obtain ⟨U,I⟩:=Qu O Z;refine ⟨_,⟨_,I,rfl⟩,?_⟩;simp only [part,Sem.run_bind,Y.run_isAgg_t E,Result.andThen_ok,if_true,T.sizeOf,Sem.run_pure,e1];congr 2
   apply Array.ext'
   simp [List.extract,Nat.add_sub_cancel_left]
  ·cases h
 ·rename_i z;obtain ⟨E,_⟩:=Gn J z;obtain ⟨u,U,I⟩:=Z.get h;exact ⟨u,I,Y.run_part1 E (by simpa using U)⟩
 ·cases h
theorem prt_ok (E:COK P C) {s k:Nat} {x:Operand} (X:XR ρ f e a) (hx:f x=true) (D:I3 C e h s x k=some (r,h')):Qt P w ρ a (.field s x k) h h' r:=by
 unfold I3 at D;split at D
 ·rename_i aa ty cs hf hv;obtain ⟨z,I,J,O⟩:=Cf D;obtain ⟨vs,U,Z⟩:=X _ _ hx hv;obtain ⟨_,_,_,ff,h4,fd,h5,rfl,rfl⟩:=Rh E hf;obtain ⟨v,h6,h7⟩:=Afw (P:=P) (w:=w) E I U;refine ⟨O,z,v,J,h6,fun d t p af g=>?_⟩;simp [execOp,Instr.field,Y.run_under h4,h5,Z,asAgg,h7]
 ·cases D
theorem Aec {sz j:Nat} {x y:AV} {v:Value} (h:ixA sz j x=some y) (I:VR ρ x v):∃ b c o n cc,v=.slice (some ⟨b,o,none⟩) n cc∧j < n∧∃ i,ρ i=some (b,c)∧y=.ptr i (o+j * sz):=by
 unfold ixA at h;split at h
 ·split at h
  ·rename_i i o n c _ E;simp only [Option.some.injEq] at h;obtain ⟨_,b,d,z,D⟩:=I;exact ⟨b,d,o,n,c,D,Nat.le_of_ble_eq_true E,i,z,h.symm⟩
  ·cases h
 ·split at h
  ·rename_i i o d n _ E;simp only [Option.some.injEq] at h;obtain ⟨b,c,z,_,D⟩:=I;exact ⟨b,c,o,n,_,D,Nat.le_of_ble_eq_true E,i,z,h.symm⟩
  ·cases h
 ·cases h
theorem idxA_ok (I:COK P C) {t0:Nat} {x y:Operand} (X:XR ρ f e a) (hx:f x=true) (hy:f y=true) (D:I4 C e h t0 x y=some (r,h')):Qt P w ρ a (.indexAddr t0 x y) h h' r:=by
 unfold I4 at D;split at D
 ·rename_i j v J O;obtain ⟨kd,J⟩:=Mi X hy J;have O:=X _ _ hx O;split at D
  ·rename_i el hu;split at D
   ·rename_i hz;obtain ⟨z,e1,e2,e3⟩:=Cf D;obtain ⟨b,c,o,n,cc,U,q2,i,q3,q4⟩:=Aec e1 O;obtain ⟨i2,E⟩:=Eg (C:=C) I hz;obtain ⟨te,Z,e4,_⟩:=tok I E;exact ⟨e3,z,_,e2,by rw [q4];exact ⟨b,c,q3,rfl⟩,fun d t p af g=>by rw [← e4];exact Y.run_indexAddr (Fc I hu) Z U J q2⟩
   ·cases D
  ·rename_i m el hu;split at D
   ·rename_i hz _;obtain ⟨z,e1,e2,e3⟩:=Cf D;obtain ⟨b,c,h2,h3⟩:=O;obtain ⟨b',c',o',n',cc,U,q2,i,q3,q4⟩:=Aec (ρ:=ρ) (v:=.slice (some ⟨b,_,none⟩) m m) e1 ⟨Nat.le_refl _,b,c,h2,rfl⟩;simp only [Value.slice.injEq,Option.some.injEq,Addr.mk.injEq,and_true] at U;obtain ⟨⟨rfl,rfl⟩,rfl,_⟩:=U;obtain ⟨i2,E⟩:=Eg (C:=C) I hz;obtain ⟨te,Z,e4,_⟩:=tok I E;refine ⟨e3,z,_,e2,by rw [q4];exact ⟨b,c',q3,rfl⟩,fun d t p af g=>?_⟩;have hk:=Fc I hu;have h5:(j:Int) < (m:Int):=tM;rw [← e4];simp [execOp,Instr.indexAt,Instr.sureAddr,Y.run_under (Y.under_array hk),h3,J,asIntOf,Z.sizeOf,q2,Y.add_plain]
   ·cases D
  ·cases D
 ·cases D
theorem idx_ok (J:COK P C) {t0:Nat} {x y:Operand} (X:XR ρ f e a) (hx:f x=true) (hy:f y=true) (D:Nr C e h t0 x y=some (r,h')):Qt P w ρ a (.index t0 x y) h h' r:=by
 unfold Nr at D;split at D
 ·rename_i j s I hv;obtain ⟨kd,I⟩:=Mi X hy I;split at D
  ·rename_i hu;obtain ⟨z,E,O,U⟩:=Cf D;unfold chr at E;split at E
   ·rename_i b hb;simp only [Option.some.injEq] at E;subst E;exact ⟨U,_,_,O,rfl,fun d t p af g=>Y.run_strIndex (Fc J hu) (X _ _ hx hv) I hb⟩
   ·cases E
  ·cases D
 ·rename_i j cs I hv;obtain ⟨kd,I⟩:=Mi X hy I;split at D
  ·rename_i n el hu;split at D
   ·rename_i Z;simp only [Bool.and_eq_true] at Z;obtain ⟨z,E,O,U⟩:=Cf D;obtain ⟨vs,h2,h3⟩:=X _ _ hx hv;obtain ⟨v,h4,h5⟩:=Afw (P:=P) (w:=w) J E h2;obtain ⟨i2,aa⟩:=Eg (C:=C) J Z.2;obtain ⟨te,Te,e4,_⟩:=tok J aa;have ab:=Nat.le_of_ble_eq_true Z.1;have h6:(j:Int) < (n:Int):=tM;refine ⟨U,z,v,O,h4,fun d t p af g=>?_⟩;rw [← e4] at h5;simp [execOp,Instr.index,Y.run_under (Y.under_array (Fc J hu)),h3,I,asIntOf,Te.sizeOf,h6,h5];intro hc;omega
   ·cases D
  ·cases D
 ·cases D
def NO (a:Operand→Value):Option Operand→Option Nat→Prop
 | none,none=>True
 | some x,some n=>∃ k,a x=.int k (n:Int)
 | _,_=>False
theorem Acw (X:XR ρ f e a) {o:Option Operand} {n:Option Nat} (D:oOk f o=true) (h:opt e o=some n):NO a o n:=by
 cases o with
 | none=>simp only [opt,Option.some.injEq] at h;subst h;trivial
 | some x =>
  simp only [opt] at h;split at h
  ·rename_i v E;split at h
   ·rename_i k z;simp only [Option.some.injEq] at h;subst h;exact nat?_ok z (X _ _ D E)
   ·cases h
  ·cases h
theorem Oc {lo J mx:Option Operand} {l h m:Option Nat} (len z:Nat) (U:Bool) (E:NO a lo l) (D:NO a J h) (I:NO a mx m) (O:m.isSome=true→h.isSome=true)
  (Y:l.getD 0≤h.getD len) (Z:h.getD len≤m.getD z∨m=none∧h=none) (h3:m.getD z≤z):(Instr.sliceBounds U len z (lo.map a) (J.map a) (mx.map a)).run P w=.ok (l.getD 0,h.getD len,m.getD z) w:=by
 cases mx <;> cases m <;> simp only [NO] at I <;> (try (exact I.elim)) <;> cases J <;> cases h <;> simp only [NO] at D <;> (try (exact D.elim)) <;> cases lo <;> cases l <;> simp only [NO] at E <;> (try (exact E.elim)) <;>
  (try obtain ⟨_,I⟩:=I) <;> (try obtain ⟨_,D⟩:=D) <;> (try obtain ⟨_,E⟩:=E) <;> simp at O Y Z h3 <;> simp [Instr.sliceBounds,Instr.sliceBound,asIntOf, *]
theorem J9 {i o c l h m sz:Nat} {x:AV} {b d:Nat} (U:ρ i=some (b,d)) (z:Br i o c l h m sz=some x) :
  l≤h∧h≤m∧m≤c∧VR ρ x (.slice (if m=l then some ⟨b,o,none⟩ else (some (⟨b,o,none⟩:Addr)).map (·.add (l * sz))) (h - l) (m - l)):=by
 unfold Br at z;split at z
 ·rename_i O;simp only [Bool.and_eq_true] at O;obtain ⟨E,I,J⟩:=O;have E:=Nat.le_of_ble_eq_true E;have I:=Nat.le_of_ble_eq_true I;have J:=Nat.le_of_ble_eq_true J;simp only [Option.some.injEq] at z;refine ⟨E,I,J,?_⟩;unfold G7 at z;split at z
  ·rename_i D;have D:=Nat.eq_of_beq_eq_true D;subst z;rw [if_pos D];exact ⟨tM,b,d,U,rfl⟩
  ·rename_i D;have D:¬ m=l:=fun h=>by subst h;rw [Nat.beq_refl] at D;cases D
   subst z;rw [if_neg D,Option.map_some,Y.add_plain];exact ⟨tM,b,d,U,rfl⟩
 ·cases z
theorem Arq (hC:COK P C) {t0:Nat} {x:Operand} {lo hi mx:Option Operand} (X:XR ρ f e a) (hx:f x=true) (hl:oOk f lo=true) (hh:oOk f hi=true) (hm:oOk f mx=true) (E:Fu C e h t0 x lo hi mx=some (r,h')) :
  Qt P w ρ a (.slice t0 x lo hi mx) h h' r:=by
 unfold Fu at E;split at E
 ·rename_i l J m ol oh om;have ol:=Acw X hl ol;have oh:=Acw X hh oh;have om:=Acw X hm om;split at E
  ·rename_i v hv;have hv:=X _ _ hx hv;have str:∀ s:List UInt8,VR ρ (.str s) (a x)→P.underlying t0=some .string→val h (Bs 1 (.str s) l J m)=some (r,h')→Qt P w ρ a (.slice t0 x lo hi mx) h h' r:=by
    intro s hv O E;obtain ⟨z,D,U,Z⟩:=Cf E;simp only [Bs] at D;split at D
    ·cases D
    ·unfold Ji at D;split at D
     ·rename_i hb;simp only [Bool.and_eq_true] at hb;have h2:=Nat.le_of_ble_eq_true hb.1;have h3:=Nat.le_of_ble_eq_true hb.2;simp only [Option.some.injEq] at D;subst D;have ag:mx=none:=by cases mx with | none=>rfl | some y=>exact om.elim
      subst ag;have hb:=Oc (P:=P) (w:=w) s.length s.length false ol oh (mx:=none) (m:=none) trivial (fun h=>by cases h) h2 (Or.inl h3) (Nat.le_refl _);refine ⟨Z,_,_,U,rfl,fun d t p af g=>?_⟩;simp only [Option.map_none] at hb;simp only [execOp,Instr.sliceAt,Sem.run_bind,Y.run_under O,Result.andThen_ok,Instr.slice,show a x=_ from hv,Y.str_size,Option.map_none,Option.isSome_none,Bool.false_eq_true,if_false,hb,Sem.run_pure,Y.str_extract]
     ·cases D
   have aa:∀ (el:Nat) (ad:Option Addr) (len I:Nat) (y:AV),P.underlying t0=some (.slice el)→nz (size C el)=true→a x=.slice ad len I→(m.isSome=true→J.isSome=true)→l.getD 0≤J.getD len→(J.getD len≤m.getD I∨m=none∧J = none)→m.getD I≤I →
     VR ρ y (.slice (if m.getD I=l.getD 0 then ad else ad.map (·.add (l.getD 0 * size C el))) (J.getD len - l.getD 0) (m.getD I - l.getD 0))→r=some y→h' = h→Qt P w ρ a (.slice t0 x lo hi mx) h h' r:=by
    intro el ad len I y O hz ac b1 b2 b3 b4 hy U Z;obtain ⟨i2,ab⟩:=Eg (C:=C) hC hz;obtain ⟨te,Te,e4,_⟩:=tok hC ab;refine ⟨Z,y,_,U,hy,fun d t p af g=>?_⟩;simp only [execOp,Instr.sliceAt,Sem.run_bind,Y.run_under O,Result.andThen_ok,Instr.slice,ac,Oc len I true ol oh om b1 b2 b3 b4,Te.sizeOf,e4,Sem.run_pure]
   unfold Al at E;split at E
   ·rename_i O;split at E
    ·exact str _ hv (Dd hC O) E
    ·cases E
   ·rename_i el O;have O:=Dd hC O;split at E
    ·rename_i i o n c hz _;obtain ⟨z,D,U,Z⟩:=Cf E;obtain ⟨ai,b,d,q1,q2⟩:=hv;simp only [Bs] at D;split at D
     ·obtain ⟨p1,p2,p3,p4⟩:=J9 q1 D;exact aa el _ n c z O hz q2 (fun h=>by cases h) p1 (Or.inl p2) p3 p4 U Z
     ·split at D
      ·obtain ⟨p1,p2,p3,p4⟩:=J9 q1 D;exact aa el _ n c z O hz q2 (fun _=>rfl) p1 (Or.inl p2) p3 p4 U Z
      ·cases D
    ·rename_i i o dd n hz _;obtain ⟨z,D,U,Z⟩:=Cf E;obtain ⟨b,c,q1,ah,q2⟩:=hv;simp only [Bs] at D;split at D
     ·split at D
      ·obtain ⟨p1,p2,p3,p4⟩:=J9 q1 D;exact aa el _ n _ z O hz q2 (fun _=>rfl) p1 (Or.inl p2) (by simp only [Option.getD_some];omega) p4 U Z
      ·cases D
     ·unfold Gj at D;split at D
      ·rename_i hb;simp only [Bool.and_eq_true] at hb;have h2:=Nat.le_of_ble_eq_true hb.1;have h3:=Nat.le_of_ble_eq_true hb.2.1;have h4:=Nat.le_of_ble_eq_true hb.2.2;simp only [Option.some.injEq] at D;refine aa el _ n (c - dd) z O hz q2 (fun h=>by cases h) h2 (Or.inl (by simp only [Option.getD_none];omega)) (Nat.le_refl _) ?_ U Z;subst D;simp only [Option.getD_none];rw [if_neg tM,Option.map_some,Y.add_plain];exact ⟨b,c,q1,tM,by rw [Nat.sub_sub]⟩
      ·cases D
    ·rename_i hz _;obtain ⟨z,D,U,Z⟩:=Cf E;unfold Hn at D;split at D
     ·rename_i g1 g2 g3 g4;simp only [Option.some.injEq] at D;subst D;refine aa el none 0 0 _ O hz hv.1 (fun hs=>?_) tM (Or.inl tM) tM ?_ U Z
      ·cases m with
       | none=>cases hs
       | some _=>simpa using g4
      ·rw [g1,g2,g3];exact ⟨rfl,rfl⟩
     ·cases D
    ·cases E
   ·rename_i m2 el O;have O:=Dd hC O;split at E
    ·rename_i i o hz _;obtain ⟨z,D,U,Z⟩:=Cf E;obtain ⟨b,d,q1,q2⟩:=hv;obtain ⟨i2,ab⟩:=Eg (C:=C) hC hz;obtain ⟨te,Te,e4,_⟩:=tok hC ab;have fin:∀ mm:Nat,m.getD m2=mm→(m.isSome=true→J.isSome=true)→Br i o m2 (l.getD 0) (J.getD m2) mm (size C el)=some z→Qt P w ρ a (.slice t0 x lo hi mx) h h' r:=by
      intro mm ae b1 D;obtain ⟨p1,p2,p3,p4⟩:=J9 q1 D;subst ae;refine ⟨Z,z,_,U,p4,fun d t p af g=>?_⟩;simp only [execOp,Instr.sliceAt,Sem.run_bind,Y.run_under O,Result.andThen_ok,Instr.sureAddr,q2,Sem.run_pure,Oc m2 m2 false ol oh om b1 p1 (Or.inl p2) p3,Te.sizeOf,e4];congr 3;split <;> rfl
     simp only [Bs] at D;split at D
     ·exact fin m2 rfl (fun h=>by cases h) D
     ·split at D
      ·exact fin _ rfl (fun _=>rfl) D
      ·cases D
    ·cases E
   ·cases E
  ·cases E
 ·cases E
end
section
variable {P:Program} {C:Ctx} {w w0:World} {G:Y.Ghost} {Lf:List Y.Res} {ρ:Nm} {f:Operand→Bool} {e:Env} {a:Operand→Value} {h h':H} {r:Option AV}
theorem Ahd (Z:COK P C) {t0:Nat} {x:Operand} (X:XR ρ f e a) (hx:f x=true) (E:HR ρ w0 G Lf h w) (z:En C e h t0 x=some (r,h')):Qt P w ρ a (.load t0 x) h h' r:=by
 unfold En at z;split at z
 ·rename_i i o hv;obtain ⟨b,c,q1,q2⟩:=X _ _ hx hv;split at z
  ·rename_i D;obtain ⟨U,ii,hi⟩:=Gn Z D;obtain ⟨ti,T,e1,_,_,e2⟩:=tok Z hi;obtain ⟨cs,J,e4,O⟩:=Od z;obtain ⟨b',c',vs,I,p2,p3,p4⟩:=E.read J;rw [q1] at I;simp only [Option.some.injEq,Prod.mk.injEq] at I;obtain ⟨rfl,rfl⟩:=I;exact ⟨O,_,_,e4,⟨vs,p2,rfl⟩,fun d t p af g=>Y.run_loadA T (by rw [e2];exact U) q2 (by rw [p3,e1]) (by rw [e1];exact p4)⟩
  ·rename_i D;obtain ⟨U,ii,hi⟩:=Gn Z D;unfold rd1 at z;split at z
   ·rename_i v J;obtain ⟨e4,O⟩:=H2 z;obtain ⟨b',c',vs,I,p2,p3,p4⟩:=E.read J;rw [q1] at I;simp only [Option.some.injEq,Prod.mk.injEq] at I;obtain ⟨rfl,rfl⟩:=I;obtain ⟨u,rfl,p5⟩:=p2.one;have p6:=p4 0 tM;exact ⟨O,_,u,e4,p5,fun d t p af g=>Y.run_load1 U q2 (by simpa using p6)⟩
   ·cases z
  ·cases z
 ·cases z
theorem Zk:∀ {cs:List AV} {s:List UInt8} {vs:List Value},I1 cs=some s→VRs ρ cs vs→vs=Y.bc s
 | [],s,vs,h,e=>by simp only [I1,Option.some.injEq] at h;subst h;exact e
 | x::cs,s,_,h,⟨v,vs,e1,e2,e3⟩=>by
  unfold I1 at h;split at h
  ·rename_i q;cases q
  ·rename_i n l q;simp only [List.cons.injEq] at q;obtain ⟨rfl,rfl⟩:=q;split at h
   ·rename_i s' hn hs;simp only [Option.some.injEq] at h;subst h;rw [e1,Zk hs e3,show v=.int .u8 (Int.ofNat n) from e2];have hn:=Nat.le_of_ble_eq_true hn;simp only [Y.bc,List.map_cons,Y.nb];congr 2;simp only [UInt8.toNat_ofNat'];rw [Nat.mod_eq_of_lt tM];rfl
   ·cases h
  ·cases h
theorem conv_ok (D:COK P C) {src dst:Nat} {x:Operand} (X:XR ρ f e a) (hx:f x=true) (E:HR ρ w0 G Lf h w) (z:I6 C e h src dst x=some (r,h')):Qt P w ρ a (.convert src dst x) h h' r:=by
 unfold I6 at z;split at z
 ·rename_i k kk n J O;have O:a x=_:=X _ _ hx O;have J:=Dd D J;split at z
  ·rename_i us hs;have hs:=Dd D hs;refine Qt.mk' z (v:=.int k (k.wrap n)) rfl fun d t p af g=>?_;simp [execOp,O,convert,Y.run_under hs,Y.run_under J,Conv.intToInt]
  ·cases z
 ·rename_i v J O;unfold Abd at z;split at z
  ·rename_i el i o n c I;split at z
   ·rename_i cs U aa;obtain ⟨ae,b,d,q1,q2⟩:=X _ _ hx O;unfold strR at z;split at z
    ·rename_i s hs;obtain ⟨b',c',vs,p1,p2,p3,p4⟩:=E.read aa;rw [q1] at p1;simp only [Option.some.injEq,Prod.mk.injEq] at p1;obtain ⟨rfl,rfl⟩:=p1;have ac:=Zk hs p2;subst ac;have Z:Y.tk P el=.int .u8:=by
      unfold u8T at U;split at U
      ·rename_i ab;exact Fc D ab
      ·cases U
     refine Qt.mk' z (v:=.string (Y.str s)) rfl fun d t p af g=>?_;have:=Y.conv_bytes (P:=P) (w:=w) (b:=b) (o:=o) (n:=n) (c:=c) (l:=s) (Fc D I) Z (Fc D J) (by rw [← p3,Y.bc_len]) p4;simp [execOp,q2,this]
    ·cases z
   ·cases z
  ·cases z
 ·cases z
theorem MR.at:∀ {es:List (AV × AV × Nat)} {l:List MapEntry} {ik:IntKind} {z:Int} {o:Option (AV × Nat)} (j:Nat),MR ρ es l→lookup es ik z=some o →
  (o=none∧Instr.findNow (.int ik) (.int ik z) l j=some none)∨∃ v b u q,o=some (v,b)∧VR ρ v u∧Instr.findNow (.int ik) (.int ik z) l j=some (some (q,u))
 | [],l,ik,z,o,j,e,h=>by
  simp only [lookup,Option.some.injEq] at h;rw [show l=[] from e];exact Or.inl ⟨h.symm,rfl⟩
 | x::es,_,ik,z,o,j,⟨en,t,e1,e2,e3,e4,e5⟩,h=>by
  obtain ⟨k,v,b⟩:=x;subst e1;unfold lookup at h;split at h
  ·rename_i q;cases q
  ·rename_i k' z' v' b' r' q;simp only [List.cons.injEq,Prod.mk.injEq] at q;obtain ⟨⟨rfl,rfl,rfl⟩,rfl⟩:=q;have hk:en.key=.int k' z':=e2;split at h
   ·rename_i hkk;have hkk:=of_decide_eq_true hkk;subst hkk;split at h
    ·rename_i hz;have hz:=of_decide_eq_true hz;subst hz;simp only [Option.some.injEq] at h;exact Or.inr ⟨_,_,en.val,j,h.symm,e3,by simp [Instr.findNow,hk,Instr.sameNow]⟩
    ·rename_i hz;have hz:=of_decide_eq_false hz;have:Instr.findNow (.int ik) (.int ik z) (en::t) j=Instr.findNow (.int ik) (.int ik z) t (j+1):=by simp [Instr.findNow,hk,Instr.sameNow,beq_eq_false_iff_ne.2 hz]
     rw [this];exact MR.at (j+1) e5 h
   ·cases h
  ·cases h
theorem HR.atMap {i:Nat} {U:List (AV × AV × Nat)} {I:Nat} (E:HR ρ w0 G Lf h w) (hm:h.m.get i=some (.mapb U I)):∃ b c l,ρ i=some (b,c)∧MR ρ U l∧w.heap[b]?=some (.map l.toArray I) ∧
  ∀ D l' z,MR ρ D l'→HR ρ w0 G Lf ⟨h.m.set i (.mapb D z),h.nx⟩ { w with heap:=w.heap.setIfInBounds b (.map l'.toArray z) }:=by
 obtain ⟨L,hc,M⟩:=E;obtain ⟨q,r,b,c,J,h2,⟨l,h3,rfl⟩,h4,_⟩:=hc.at hm;have Y:w.heap[b]?=some (.map l.toArray I):=M.own _ (List.mem_of_getElem? (Cb J));refine ⟨b,c,l,h2,h3,Y,fun D l' z hM=>⟨_,h4 _ _ ⟨l',hM,rfl⟩,?_⟩⟩;have Z:=MapKept.heap_set (o':=.map l'.toArray z) Y;have:=M.swap_at (Cb J) (y:=.obj b (.map l'.toArray z)) (w':={ w with heap:=w.heap.setIfInBounds b (.map l'.toArray z) }) rfl Z.1 rfl rfl rfl (by simp) (fun b' O=>Z.2 b' (fun e=>O (by rw [e];rfl)));rw [Mc J] at this;exact this
theorem Avk {z b:Bool} {v:AV} {u:Value} (D:VR ρ v u):VR ρ (okV z b v) (if z then .tuple #[u,.bool b] else u):=by
 cases z with
 | false=>exact D
 | true=>exact ⟨[u,.bool b],⟨u,_,rfl,D,⟨.bool b,[],rfl,rfl,rfl⟩⟩,rfl⟩
theorem look_ok (hC:COK P C) {t0:Nat} {m k:Operand} {ok:Bool} (X:XR ρ f e a) (hm:f m=true) (hk:f k=true) (E:HR ρ w0 G Lf h w) (D:Jq C e h t0 m k ok=some (r,h')):Qt P w ρ a (.lookup t0 m k ok) h h' r:=by
 unfold Jq at D;split at D
 ·rename_i kt el i ik z hu ac J;obtain ⟨b,c,q1,q2⟩:=X _ _ hm ac;have J:a k=_:=X _ _ hk J;split at D
  ·rename_i es ck kd aa ab;split at D
   ·rename_i hd;have hd:=of_decide_eq_true hd;subst hd;obtain ⟨b',c',l,p1,p2,p3,_⟩:=E.atMap aa;rw [q1] at p1;simp only [Option.some.injEq,Prod.mk.injEq] at p1;obtain ⟨rfl,rfl⟩:=p1;have I:=Dd hC ab;have Z:=Dd hC hu;have O:MapKept.IsKey (.int ik) (.int ik z):=rfl;unfold Aaj at D;split at D
    ·rename_i v bb hl;rcases MR.at 0 p2 hl with ⟨U,_⟩ | ⟨v',b',u,q,U,h3,h4⟩
     ·cases U
     ·simp only [Option.some.injEq,Prod.mk.injEq] at U;obtain ⟨rfl,rfl⟩:=U;refine Qt.mk' D (Avk h3) fun d t p af g=>?_;simp only [execOp,Instr.lookup,q2,J,Sem.run_bind,Y.run_under Z,MapKept.run_getObj_map p3,Result.andThen_ok,Sem.run_pure,MapKept.run_checkKey I O,MapKept.run_findKey I h4]
    ·rename_i hl;rcases MR.at 0 p2 hl with ⟨_,h4⟩ | ⟨v',b',u,q,U,h3,h4⟩
     ·split at D
      ·rename_i zz hz;obtain ⟨ti,T,_,_,t3,_⟩:=O9 (ρ:=ρ) hC hz;refine Qt.mk' D (Avk t3) fun d t p af g=>?_;simp only [execOp,Instr.lookup,q2,J,Sem.run_bind,Y.run_under Z,MapKept.run_getObj_map p3,Result.andThen_ok,Sem.run_pure,MapKept.run_checkKey I O,MapKept.run_findKey I h4,T.zeroValue]
      ·cases D
     ·cases U
    ·cases D
   ·cases D
  ·cases D
 ·cases D
def Cg (P:Program) (w0:World) (G:Y.Ghost) (Lf:List Y.Res) (w:World) (ρ:Nm) (a:Operand→Value) (op:Op) (h h':H) (r:Option AV):Prop :=
 h.nx≤h'.nx∧((∀ i,h.nx≤i→i < h'.nx→ρ i=none)→∀ d t p af g,∃ ρ' nx w',(execOp a ⟨d,op,t,p,af,g⟩).run P w=.ok nx w'∧Le ρ ρ'∧(∀ i,i < h.nx∨h'.nx≤i→ρ' i=ρ i)∧HR ρ' w0 G Lf h' w' ∧
  match r with
  | some x=>∃ v,nx=.value v∧VR ρ' x v
  | none=>nx=.skip)
theorem Cg.quiet {op:Op} (E:HR ρ w0 G Lf h w) (q:Qt P w ρ a op h h' r):Cg P w0 G Lf w ρ a op h h' r:=by
 obtain ⟨rfl,x,v,rfl,D,I⟩:=q;exact ⟨Nat.le_refl _,fun _ d t p z g=>⟨ρ,_,w,I d t p z g,Le.refl _,fun _ _=>rfl,E,v,rfl,D⟩⟩
theorem Cg.new {op:Op} {k:Blk} {x:AV} {rs:Y.Res} {v:Value} {b c:Nat} {w':World} (E:HR ρ w0 G Lf h w) (I:(some (some x,(⟨h.m.set h.nx k,h.nx+1⟩:H)):R)=some (r,h')) (Z:∀ L,Y.Mem w0 G L w→Y.Mem w0 G (rs::L) w')
  (U:∀ ρ',Le ρ ρ'→ρ' h.nx=some (b,c)→BR ρ' b c k rs∧VR ρ' x v) (hr:∀ d t p D g,(execOp a ⟨d,op,t,p,D,g⟩).run P w=.ok (.value v) w'):Cg P w0 G Lf w ρ a op h h' r:=by
 simp only [Option.some.injEq,Prod.mk.injEq] at I;obtain ⟨rfl,rfl⟩:=I;refine ⟨Nat.le_succ _,fun hn d t p D g=>?_⟩;have h0:=hn h.nx (Nat.le_refl _) (Nat.lt_succ_self _);obtain ⟨J,O⟩:=U (up ρ h.nx (b,c)) (K6 h0) Hv;exact ⟨_,_,w',hr d t p D g,K6 h0,fun i z=>up_ne (by show i≠h.nx;rcases z with z | z;omega;have:h.nx+1≤i:=z;omega),E.new h0 J Z,v,rfl,O⟩
theorem Wv {L:List Y.Res} (M:Y.Mem w0 G L w) (cs:List Value) (t:TypeId):Y.Mem w0 G (.blk w.heap.size cs t::L) { w with heap:=w.heap.push (.cells cs.toArray t (0,0)) }:=by
 have z:=M.new (.cells cs.toArray t (0,0));exact z.swap_head (x:=.obj _ _) rfl (z.own (.obj _ _) (by simp)) rfl rfl rfl rfl (fun _ _=>rfl)
theorem Ayo (U:COK P C) {I:Nat} (E:HR ρ w0 G Lf h w) (D:Fx C h I=some (r,h')):Cg P w0 G Lf w ρ a (.alloc I) h h' r:=by
 unfold Fx at D;split at D
 ·rename_i z hz;obtain ⟨ti,T,_,_,t3,_⟩:=O9 (ρ:=ρ) U hz;obtain ⟨vs,J,O⟩:=Ic t3;exact Cg.new E D (b:=w.heap.size) (c:=0) (fun L M=>Wv M vs I) (fun ρ' hl Z=>⟨⟨vs,VRs.mono hl _ _ O,rfl⟩,⟨_,_,Z,rfl⟩⟩) fun d t p af g=>by rw [← J];exact Y.run_alloc T
 ·cases D
theorem box_ok {D:Nat} {x:Operand} (X:XR ρ f e a) (hx:f x=true) (E:HR ρ w0 G Lf h w) (z:O3 e h D x=some (r,h')):Cg P w0 G Lf w ρ a (.box D x) h h' r:=by
 unfold O3 at z;split at z
 ·rename_i v Z;obtain ⟨vs,I,J⟩:=Ic (X _ _ hx Z);exact Cg.new E z (b:=w.heap.size) (c:=0) (fun L M=>Wv M vs D) (fun ρ' U O=>⟨⟨vs,VRs.mono U _ _ J,rfl⟩,⟨_,_,O,rfl⟩⟩) fun d t p af g=>by rw [← I];exact Y.run_box rfl
 ·cases z
theorem Jb (hC:COK P C) {t0 n:Nat} {zs:List AV} (E:Em C t0 n=some zs):∃ D,Y.TOK P t0 D∧D.size=size C t0∧D.bytes=bytes C t0∧D.zero.cells.size=D.size∧0 < D.size∧VRs ρ zs (List.replicate n D.zero.cells.toList).flatten:=by
 unfold Em at E;split at E
 ·rename_i z J;split at E
  ·rename_i I;simp only [Bool.and_eq_true] at I;simp only [Option.some.injEq] at E;subst E;obtain ⟨D,T,Z,t2,t3,_⟩:=O9 (ρ:=ρ) hC J;obtain ⟨vs,O,U⟩:=Ic t3;have hs:=Nat.eq_of_beq_eq_true I.1;have hp:0 < size C t0:=by
    have:=I.2;unfold nz at this;rcases Nat.eq_zero_or_pos (size C t0) with h0 | h0
    ·rw [h0] at this;cases this
    ·exact h0
   exact ⟨D,T,Z,t2,by rw [O];simp only [List.size_toArray];rw [U.len,hs,Z],tM,by rw [O];exact U.rep n⟩
  ·cases E
 ·cases E
theorem Ww {z:Array Value} {n sz:Nat} (D:z.size=sz):madeCells z (n * sz)=(List.replicate n z.toList).flatten.toArray:=by
 rw [← D,← Y.made_eq z n]
theorem Tk {x:Option (List AV)} {el l c:Nat} (z:Amh h el l c x=some (r,h')):∃ cs,x=some cs∧(some (some (.sl h.nx 0 l c),(⟨h.m.set h.nx (.cells cs el),h.nx+1⟩:H)):R)=some (r,h'):=by
 unfold Amh at z;split at z
 ·exact ⟨_,rfl,z⟩
 ·cases z
theorem Apf (O:COK P C) {U len:Nat} {ps:List (Nat × Operand)} (X:XR ρ f e a) (hf:Vm f ps=true) (E:HR ρ w0 G Lf h w) (z:Eh C e h U len ps=some (r,h')):Cg P w0 G Lf w ρ a (.buildSlice U len ps.toArray) h h' r:=by
 unfold Eh at z;split at z
 ·rename_i el xs hu J;split at z
  ·rename_i zs hz I;obtain ⟨D,T,Z,t2,t3,t4,t5⟩:=Jb (ρ:=ρ) O hz;obtain ⟨cs,e1,e2⟩:=Tk z;obtain ⟨us,h4,h5⟩:=Wx e1 t5 (Aeh X hf J);refine Cg.new E e2 (b:=w.heap.size) (c:=0) (fun L M=>Wv M us el) (fun ρ' hl hi=>⟨⟨us,VRs.mono hl _ _ h4,rfl⟩,⟨Nat.le_refl _,_,_,hi,rfl⟩⟩) fun d t p af g=>?_;refine Y.run_buildSlice (Fc O hu) T (by rw [Z];exact Nat.le_of_ble_eq_true I) ?_;have:(ps.toArray.map fun q=>(q.1,a q.2)).toList=ps.map fun q=>(q.1,a q.2):=by simp
   rw [show (ps.toArray.map fun (j,x)=>(j,a x))=ps.toArray.map fun q=>(q.1,a q.2) from rfl,this,show (Array.range (len * D.size)).map (D.zero.cells[· % D.zero.cells.size]!)=madeCells D.zero.cells (len * D.size) from rfl,Ww t3,Z];exact h5
  ·cases z
 ·cases z
theorem Avz (U:COK P C) {Z:Nat} {x y:Operand} (X:XR ρ f e a) (hx:f x=true) (hy:f y=true) (E:HR ρ w0 G Lf h w) (z:Fv C e h Z x y=some (r,h')):Cg P w0 G Lf w ρ a (.makeSlice Z x y) h h' r:=by
 unfold Fv at z;split at z
 ·rename_i el l c hu J I;obtain ⟨k1,J⟩:=Mi X hx J;obtain ⟨k2,I⟩:=Mi X hy I;split at z
  ·rename_i D;simp only [Bool.and_eq_true] at D;obtain ⟨cs,e1,e2⟩:=Tk z;obtain ⟨ti,T,t1,t2,t3,t4,t5⟩:=Jb (ρ:=ρ) U e1;refine Cg.new E e2 (b:=w.heap.size) (c:=0) (fun L M=>Wv M _ el) (fun ρ' O hi=>⟨⟨_,VRs.mono O _ _ t5,rfl⟩,⟨Nat.le_of_ble_eq_true D.1,_,_,hi,rfl⟩⟩) fun d t p af g=>?_;rw [← Ww t3];exact Y.run_make_op (Fc U hu) T J rfl I rfl (Nat.le_of_ble_eq_true D.1) (by rw [t2];exact Nat.le_of_ble_eq_true D.2.1) (Nat.le_of_ble_eq_true D.2.2)
  ·cases z
 ·cases z
theorem map_ok {I:Nat} {o:Option Operand} (E:HR ρ w0 G Lf h w) (z:Amf h o=some (r,h')):Cg P w0 G Lf w ρ a (.makeMap I o) h h' r:=by
 cases o with
 | some _=>cases z
 | none =>
  exact Cg.new E z (b:=w.heap.size) (c:=0) (rs:=.obj w.heap.size (.map #[] 0)) (fun L M=>M.new _) (fun ρ' O D=>⟨⟨[],rfl,rfl⟩,⟨_,_,D,rfl⟩⟩) fun d t p J g=>by simp [execOp,Instr.makeMap,newObj,Sem.run]
theorem Arl (hC:COK P C) {t0:Nat} {x y:Operand} (X:XR ρ f e a) (hx:f x=true) (hy:f y=true) (E:HR ρ w0 G Lf h w) (z:Hr C e h t0 x y=some (r,h')):Cg P w0 G Lf w ρ a (.store t0 x y) h h' r:=by
 unfold Hr at z;split at z
 ·rename_i i o O;obtain ⟨b,c,q1,q2⟩:=X _ _ hx O;split at z
  ·rename_i v U;obtain ⟨vs,h2,Z⟩:=Ic (X _ _ hy U);unfold Jg at z;split at z
   ·rename_i hs;simp only [Bool.and_eq_true] at hs;obtain ⟨hs,D⟩:=hs;have hs:=Nat.eq_of_beq_eq_true hs;unfold wr at z;split at z
    ·rename_i aa hp;simp only [Option.some.injEq,Prod.mk.injEq] at z;obtain ⟨rfl,rfl⟩:=z;obtain ⟨b',c',w',Y,p2,p3,p4,us,p5,p6⟩:=E.put (P:=P) hp Z;rw [q1] at Y;simp only [Option.some.injEq,Prod.mk.injEq] at Y;obtain ⟨rfl,rfl⟩:=Y;refine ⟨by rw [p4];exact Nat.le_refl _,fun _ d t p af g=>⟨ρ,_,w',?_,Le.refl _,fun _ _=>rfl,p3,rfl⟩⟩;have J:=Z.len;obtain ⟨ab,I⟩:=Eg (C:=C) hC D;obtain ⟨ti,T,e1,_⟩:=tok hC I;simp only [execOp,q2,Instr.storeAt,Instr.sureAddr,storeVar,Sem.run_bind,Sem.run_pure,Result.andThen_ok,T.sizeOf,h2];simp [J,hs,e1,p2]
    ·cases z
   ·cases z
  ·cases z
 ·cases z
theorem mapU_ok (hC:COK P C) {t0:Nat} {m k x:Operand} (X:XR ρ f e a) (hm:f m=true) (hk:f k=true) (hx:f x=true) (E:HR ρ w0 G Lf h w) (D:Lg C e h t0 m k x=some (r,h')):Cg P w0 G Lf w ρ a (.mapUpdate t0 m k x) h h' r:=by
 unfold Lg at D;split at D
 ·rename_i kt el i O z hu ae I;obtain ⟨b,c,q1,q2⟩:=X _ _ hm ae;have I:a k=_:=X _ _ hk I;split at D
  ·rename_i es ck kd xv aa ab J;have J:=X _ _ hx J;split at D
   ·rename_i hd hl;have hd:=of_decide_eq_true hd;subst hd;simp only [Option.some.injEq,Prod.mk.injEq] at D;obtain ⟨rfl,rfl⟩:=D;obtain ⟨b',c',l,p1,p2,p3,p4⟩:=E.atMap aa;rw [q1] at p1;simp only [Option.some.injEq,Prod.mk.injEq] at p1;obtain ⟨rfl,rfl⟩:=p1;have U:=Dd hC ab;have ac:=Dd hC hu;have Z:MapKept.IsKey (.int O) (.int O z):=rfl;rcases MR.at 0 p2 hl with ⟨_,h4⟩ | ⟨v',b',u,q,h2,_⟩
    ·refine ⟨Nat.le_refl _,fun _ d t p af g=>⟨ρ,.skip,_,?_,Le.refl _,fun _ _=>rfl,p4 _ (l++[{ key:=.int O z,val:=a x,born:=ck }]) _ (p2.app (y:=[(.int O z,xv,ck)]) ⟨{ key:=.int O z,val:=a x,born:=ck },[],rfl,show VR ρ (.int O z) (.int O z) from rfl,J,rfl,rfl⟩),rfl⟩⟩;simp only [execOp,Instr.mapUpdate,q2,I,Sem.run_bind,Y.run_under ac,MapKept.run_getObj_map p3,Result.andThen_ok,Sem.run_pure,MapKept.run_checkKey U Z,MapKept.run_findKey U h4,MapKept.run_setObj_map _ p3];simp
    ·cases h2
   ·cases D
  ·cases D
 ·cases D
theorem Kp {x:AV} {v:Value} {n:Nat} (z:Db x=some n) (E:VR ρ x v):∃ ad c,v=.slice ad n c∧n≤c:=by
 unfold Db at z;split at z
 ·simp only [Option.some.injEq] at z;subst z;obtain ⟨h0,b,d,_,D⟩:=E;exact ⟨_,_,D,h0⟩
 ·simp only [Option.some.injEq] at z;subst z;obtain ⟨b,d,_,h0,D⟩:=E;exact ⟨_,_,D,tM⟩
 ·simp only [Option.some.injEq] at z;subst z;exact ⟨_,_,E.1,Nat.le_refl _⟩
 ·cases z
theorem Ny {x:AV} {v:Value} {n sz:Nat} {cs:List AV} (E:HR ρ w0 G Lf h w) (z:Bp h sz n x=some cs) (D:VR ρ x v):∃ vs:List Value,VRs ρ cs vs∧vs.length=n * sz ∧
  ((∃ ad,∃ m c,v=.slice (some ad) m c∧n≤m∧∀ j u,vs[j]?=some u→w.cell? (ad.add j)=some u)∨(n=0∧v=.slice none 0 0)):=by
 have key:∀ {i o m:Nat},(match Nat.ble n m with | true=>h.read i o (n * sz) | false=>none)=some cs→∀ {b d c:Nat},ρ i=some (b,d)→v=.slice (some ⟨b,o,none⟩) m c→∃ vs:List Value,VRs ρ cs vs∧vs.length=n * sz ∧
   ((∃ ad,∃ m c,v=.slice (some ad) m c∧n≤m∧∀ j u,vs[j]?=some u→w.cell? (ad.add j)=some u)∨(n=0∧v=.slice none 0 0)):=by
  intro i o m z b d c hi D;split at z
  ·rename_i I;obtain ⟨b',c',vs,J,p2,p3,p4⟩:=E.read z;rw [hi] at J;simp only [Option.some.injEq,Prod.mk.injEq] at J;obtain ⟨rfl,rfl⟩:=J;refine ⟨vs,p2,p3,Or.inl ⟨_,m,c,D,Nat.le_of_ble_eq_true I,fun j u Z=>?_⟩⟩;rw [Y.add_plain,p4 j (by have:=Y.lt_of_get Z;omega),Z]
  ·cases z
 unfold Bp at z;split at z
 ·obtain ⟨_,b,d,O,U⟩:=D;exact key z O U
 ·obtain ⟨b,d,O,_,U⟩:=D;exact key z O U
 ·split at z
  ·simp only [Option.some.injEq] at z;subst z;exact ⟨[],rfl,by simp,Or.inr ⟨rfl,D.1⟩⟩
  ·cases z
 ·cases z
theorem Pk {m1:Tr Blk} {nx n el sz:Nat} {cs:List AV} {J:List Y.Res} {v:Value} {vs:List Value} {x:AV} (O:Dh ρ m1 J) (M:Y.Mem w0 G (.row v n vs el sz::(J++Lf)) w) (hv:VRs ρ cs vs) (hn:0 < n) (h0:ρ nx=none)
  (D:De C ⟨m1,nx⟩ cs n el sz=some (x,h')):∃ ρ',Le ρ ρ'∧(∀ i,i < nx∨h'.nx≤i→ρ' i=ρ i)∧HR ρ' w0 G Lf h' w∧VR ρ' x v∧h'.nx=nx+1:=by
 unfold De at D;split at D
 ·simp only [Option.some.injEq,Prod.mk.injEq] at D;obtain ⟨rfl,rfl⟩:=D;have E:=M.row_at (k:=0) rfl;rcases E.1.2 with ⟨_,hz⟩ | ⟨g,z,U,rfl,_,_,Z,_⟩
  ·omega
  ·refine ⟨up ρ nx (g,z),K6 h0,fun i I=>up_ne (by rcases I with I | I;omega;have:nx+1≤i:=I;omega),⟨_,((O.mono (K6 h0)).cons (O.none h0) Hv ⟨vs,VRs.mono (K6 h0) _ _ hv,rfl⟩),M⟩,⟨g,z,Hv,tM,by simp⟩,rfl⟩
 ·cases D
theorem Oz {z el ty:TypeId} {I:Y.TI} {ad ad2:Option Addr} {n c c2:Nat} (E:P.underlying z=some (.slice el)) (T:Y.TOK P el I) (D:n≤c):(Builtin.append_ #[z,z] ty #[.slice ad n c,.slice ad2 0 c2]).run P w=.ok (.slice ad n c) w:=by
 have hs:=T.sizeOf (w:=w);cases ad <;> cases ad2 <;> simp [Builtin.append_,run_underlying E,hs,Builtin.lenOf,Builtin.firstCells,loadCells,loadCellsFrom,storeCells,D]
theorem R8 {I el ty:TypeId} {J:Y.TI} {b o n c m c2:Nat} {ad2:Addr} {news:List Value} {w':World} (Z:P.underlying I=some (.slice el)) (T:Y.TOK P el J) (U:n+m≤c) (O:news.length=m * J.size)
  (z:∀ j u,news[j]?=some u→w.cell? (ad2.add j)=some u) (E:(storeCells ⟨b,o+n * J.size,none⟩ news 0).run P w=.ok () w') :
  (Builtin.append_ #[I,I] ty #[.slice (some ⟨b,o,none⟩) n c,.slice (some ad2) m c2]).run P w=.ok (.slice (some ⟨b,o,none⟩) (n+m) c) w':=by
 have hs:=T.sizeOf (w:=w);have D:=run_loadCells_list (P:=P) w ad2 news z;rw [O] at D;simp [Builtin.append_,run_underlying Z,hs,Builtin.lenOf,Builtin.firstCells,D,U,Y.add_plain,E]
theorem Ms (D:COK P C) {z el:Nat} (h:elem C z=some el):P.underlying z=some (.slice el)∧Y.tk P z=.slice el:=by
 unfold elem at h;split at h
 ·rename_i I E;simp only [Option.some.injEq] at h;subst h;exact ⟨Dd D E,Fc D E⟩
 ·cases h
theorem zOk_ok (E:COK P C) {el:Nat} (h:zOk C el=true):∃ D,Y.TOK P el D∧D.size=size C el∧D.bytes=bytes C el∧D.zero.cells.size=D.size∧0 < D.size:=by
 unfold zOk at h;split at h
 ·rename_i z I;have:Em C el 0=some (rep z.cells 0):=by unfold Em;simp only [I];rw [h]
  obtain ⟨D,T,J,O,U,Z,_⟩:=Jb (ρ:=fun _=>none) E this;exact ⟨D,T,J,O,U,Z⟩
 ·cases h
theorem Mw {el n:Nat} {cs:List AV} {x:AV} {sz nx:Nat} {m1:Tr Blk} (h:De C ⟨m1,nx⟩ cs n el sz=some (x,h')):n * bytes C el≤140737488355328∧n≤9223372036854775807∧Af cs=true:=by
 unfold De at h;split at h
 ·rename_i z;simp only [Bool.and_eq_true,F7] at z;exact ⟨Nat.le_of_ble_eq_true z.1.1,Nat.le_of_ble_eq_true z.1.2,z.2.2⟩
 ·cases h
theorem El {x y:List AV} (h:Af (x++y)=true):Af x=true∧Af y=true:=by
 induction x with
 | nil=>exact ⟨rfl,h⟩
 | cons u x ih =>
  simp only [List.cons_append,Af,Bool.and_eq_true] at h ⊢;exact ⟨⟨h.1,(ih h.2).1⟩,(ih h.2).2⟩
def AppR (P:Program) (w0:World) (G:Y.Ghost) (Lf:List Y.Res) (w:World) (ρ:Nm) (h h':H) (t0:TypeId) (v u:Value) (y:AV):Prop :=
 h.nx≤h'.nx∧((∀ i,h.nx≤i→i < h'.nx→ρ i=none)→∀ ty,∃ ρ' v' w',(Builtin.append_ #[t0,t0] ty #[v,u]).run P w=.ok v' w'∧Le ρ ρ'∧(∀ i,i < h.nx∨h'.nx≤i→ρ' i=ρ i)∧HR ρ' w0 G Lf h' w'∧VR ρ' y v')
theorem Apu (hC:COK P C) {t0 el:Nat} {s x y:AV} {v u:Value} (am:elem C t0=some el) (hz:zOk C el=true) (E:HR ρ w0 G Lf h w) (hv:VR ρ s v) (hu:VR ρ x u) (z:append C el (size C el) s x h=some (y,h')):AppR P w0 G Lf w ρ h h' t0 v u y:=by
 obtain ⟨hU,hT⟩:=Ms hC am;obtain ⟨ti,T,O,t2,t3,t4⟩:=zOk_ok hC hz;obtain ⟨xi,ap,ai,aq,ar⟩:=T.info;unfold append at z;split at z
 ·rename_i n m hn hm;obtain ⟨ad,c,rfl,ao⟩:=Kp hn hv;obtain ⟨ad2,c2,rfl,aw⟩:=Kp hm hu;cases m with
  | zero =>
   simp only [Option.some.injEq,Prod.mk.injEq] at z;obtain ⟨rfl,rfl⟩:=z;exact ⟨Nat.le_refl _,fun _ ty=>⟨ρ,_,w,Oz hU T ao,Le.refl _,fun _ _=>rfl,E,hv⟩⟩
  | succ m =>
   dsimp only at z;split at z
   ·rename_i new ae;obtain ⟨news,n1,n2,n3⟩:=Ny E ae hu;rcases n3 with ⟨U,m',au,e2,ax,D⟩ | ⟨h0,_⟩
    rotate_left
    ·omega
    simp only [Value.slice.injEq] at e2;obtain ⟨rfl,rfl,rfl⟩:=e2;unfold Ig at z;split at z
    ·-- nil
     simp only [Db,Option.some.injEq] at hn;subst hn;obtain ⟨q1,q2,q3⟩:=Mw (m1:=h.m) (nx:=h.nx) z;obtain ⟨L,Z,M⟩:=E;obtain ⟨rfl,rfl⟩:ad=none∧c=0:=by have:=hv.1;simp only [Value.slice.injEq] at this;exact ⟨this.1,this.2.2⟩
     have af:h'.nx=h.nx+1:=by unfold De at z;split at z <;> simp_all;rw [← z.2]
     refine ⟨tM,fun aa ty=>?_⟩;obtain ⟨v',w',hr,M'⟩:=(M.nilrow el ti.size).append (P:=P) (ty:=ty) (t:=t0) (k:=0) (m:=m+1) (c:=c2) (ad:=U) (news:=news) rfl hT T t3 t4 (by rw [n2,O]) D (Er q3 n1) (by simp only [maxLen];omega) (by rw [t2,Nat.zero_add];exact q1);obtain ⟨ρ',r1,r2,r3,r4,_⟩:=Pk (C:=C) (m1:=h.m) (nx:=h.nx) (x:=y) (h':=h') Z (by simpa using M') (by simpa using n1) tM (aa h.nx (Nat.le_refl _) tM) (by rw [O];simpa using z);exact ⟨ρ',v',w',hr,r1,r2,r3,r4⟩
    ·-- a slice of known capacity
     rename_i i o n' c' ;simp only [Db,Option.some.injEq] at hn;subst hn;obtain ⟨_,b,d,q1,q2⟩:=hv;simp only [Value.slice.injEq] at q2;obtain ⟨rfl,_,rfl⟩:=q2;split at z
     ·rename_i I;have I:=Nat.le_of_ble_eq_true I;unfold J3 at z;split at z
      ·rename_i av hp;simp only [Option.some.injEq,Prod.mk.injEq] at z;obtain ⟨rfl,rfl⟩:=z;obtain ⟨b',aj,w',p1,p2,p3,p4,_⟩:=E.put (P:=P) hp n1;rw [q1] at p1;simp only [Option.some.injEq,Prod.mk.injEq] at p1;obtain ⟨rfl,rfl⟩:=p1;exact ⟨by rw [p4];exact Nat.le_refl _,fun _ ty=>⟨ρ,_,w',R8 hU T I (by rw [n2,O]) D (by rw [O];exact p2),Le.refl _,fun _ _=>rfl,p3,⟨I,b,d,q1,rfl⟩⟩⟩
      ·cases z
     ·rename_i I;have I:¬ n' + (m+1)≤c:=fun hq=>by rw [Nat.ble_eq_true_of_le hq] at I;cases I
      split at z
      ·rename_i ay ag;obtain ⟨b',aj,J,p1,p2,p3,p4⟩:=E.read ag;rw [q1] at p1;simp only [Option.some.injEq,Prod.mk.injEq] at p1;obtain ⟨rfl,rfl⟩:=p1;obtain ⟨q4,q5,q6⟩:=Mw (m1:=h.m) (nx:=h.nx) z;obtain ⟨L,Z,M⟩:=E;have af:h'.nx=h.nx+1:=by unfold De at z;split at z <;> simp_all;rw [← z.2]
       refine ⟨tM,fun aa ty=>?_⟩;have hr:=run_append_grow (P:=P) w t0 ty el xi ti.zero hU ap ar ⟨b,o,none⟩ n' c J (by rw [ai,p3,O]) (fun j u hj=>by rw [Y.add_plain,p4 j (by have:=Y.lt_of_get hj;omega),hj]) U (m+1) c2 news (by rw [ai,n2,O]) D tM tM
        (by rw [aq,t2];exact growslice_fits tM q4)
       have an:=grownCap_ge w (n' + (m+1)) c el;have ak:=grownCap_le_maxLen w (n' + (m+1)) c el (by simp only [maxLen];omega);have M1:=(M.drew (w.drawn+1)).newrow (t:=el) (sz:=ti.size) (n:=n' + (m+1)) (c:=grownCap w (n' + (m+1)) c el) (cs:=J++news) (spare:=(Builtin.zeroCells ti.zero.cells (grownCap w (n' + (m+1)) c el - (n' + (m+1)))).toList)
        (Er q6 (p2.app n1)) (by rw [List.length_append,p3,n2,O,← Nat.add_mul]) (by
         simp only [List.length_append,p3,n2,Array.length_toList,size_zeroCells,t3,O];rw [← Nat.add_mul,← Nat.add_mul];congr 1;omega) an ak
       obtain ⟨ρ',r1,r2,r3,r4,_⟩:=Pk (C:=C) (m1:=h.m) (nx:=h.nx) (x:=y) (h':=h') Z M1 (p2.app n1) tM (aa h.nx (Nat.le_refl _) tM) (by rw [O];exact z);refine ⟨ρ',_,_,hr,r1,r2,?_,r4⟩;have:(J.toArray++news.toArray++Builtin.zeroCells ti.zero.cells (grownCap w (n' + (m+1)) c el - (n' + (m+1))))=((J++news)++(Builtin.zeroCells ti.zero.cells (grownCap w (n' + (m+1)) c el - (n' + (m+1)))).toList).toArray:=by simp
       rw [this];exact r3
      ·cases z
    ·-- a row
     rename_i i n';simp only [Db,Option.some.injEq] at hn;subst hn;split at z
     ·rename_i cs k e' az ah;split at z
      ·rename_i hb;simp only [Bool.and_eq_true] at hb;obtain ⟨hk,he,ab⟩:=hb;have hk:=Nat.eq_of_beq_eq_true hk;have he:=Nat.eq_of_beq_eq_true he;have ab:=Nat.eq_of_beq_eq_true ab;subst hk he ab;obtain ⟨b,d,q1,_,q2⟩:=hv;simp only [Value.slice.injEq] at q2;obtain ⟨rfl,_,rfl⟩:=q2;obtain ⟨q4,q5,q6⟩:=Mw (m1:=h.m.del i) (nx:=h.nx) z;obtain ⟨L,Z,M⟩:=E;obtain ⟨q,rs,b',c',p1,p2,⟨vs,p3,rfl⟩,_,p5⟩:=Z.at ah;rw [q1] at p2;simp only [Option.some.injEq,Prod.mk.injEq] at p2;obtain ⟨rfl,rfl⟩:=p2;have af:h'.nx=h.nx+1:=by unfold De at z;split at z <;> simp_all;rw [← z.2]
       refine ⟨tM,fun aa ty=>?_⟩;have ac:=Cb (r:=Lf) p1;rw [← O] at ac;obtain ⟨v',w',hr,M'⟩:=M.append (P:=P) (ty:=ty) (t:=t0) (m:=m+1) (c:=c2) (ad:=U) (news:=news) ac hT T t3 t4 (by rw [n2,O]) D (Er (El q6).2 n1) (by simp only [maxLen];omega) (by rw [t2];exact q4);have M2:=M'.perm (Y.perm_set _ _ _ _ ac).symm;rw [List.eraseIdx_append_of_lt_length (Y.lt_of_get p1)] at M2;obtain ⟨ρ',r1,r2,r3,r4,_⟩:=Pk (C:=C) (m1:=h.m.del i) (nx:=h.nx) (x:=y) (h':=h') p5 M2 (p3.app n1) tM (aa h.nx (Nat.le_refl _) tM) (by rw [O];exact z);exact ⟨ρ',v',w',by simpa using hr,r1,r2,r3,r4⟩
      ·cases z
     ·cases z
    ·cases z
   ·cases z
 ·cases z
theorem Avb {cs:List AV} {d:AV} {v:Value} {vs:List Value} (E:HR ρ w0 G Lf h w) (z:Afv h cs d=some h') (J:VR ρ d v) (I:VRs ρ cs vs) :
  h'.nx=h.nx∧((∃ ad n c w',v=.slice (some ad) n c∧(storeCells ad vs 0).run P w=.ok () w'∧HR ρ w0 G Lf h' w')∨(v=.slice none 0 0∧vs=[]∧h' = h)):=by
 unfold Afv at z;split at z
 ·obtain ⟨_,b,d,Z,q2⟩:=J;obtain ⟨b',c',w',D,O,U,Y,_⟩:=E.put (P:=P) z I;rw [Z] at D;simp only [Option.some.injEq,Prod.mk.injEq] at D;obtain ⟨rfl,rfl⟩:=D;exact ⟨Y,Or.inl ⟨_,_,_,w',q2,O,U⟩⟩
 ·obtain ⟨b,d,Z,_,q2⟩:=J;obtain ⟨b',c',w',D,O,U,Y,_⟩:=E.put (P:=P) z I;rw [Z] at D;simp only [Option.some.injEq,Prod.mk.injEq] at D;obtain ⟨rfl,rfl⟩:=D;exact ⟨Y,Or.inl ⟨_,_,_,w',q2,O,U⟩⟩
 ·split at z
  ·simp only [Option.some.injEq] at z;subst z;exact ⟨rfl,Or.inr ⟨J.1,I,rfl⟩⟩
  ·cases z
 ·cases z
theorem Ayj {args:List Operand} {x y:AV} (I:VRs ρ [x,y] (args.map a)):∃ v u,args.toArray.map a = #[v,u]∧VR ρ x v∧VR ρ y u:=by
 obtain ⟨v,r,z,D,E⟩:=I;obtain ⟨u,rfl,e4⟩:=E.one;exact ⟨v,u,by rw [List.map_toArray,z],D,e4⟩
theorem Ajo {args:List Operand} {x:AV} (E:VRs ρ [x] (args.map a)):∃ v,args.toArray.map a = #[v]∧VR ρ x v:=by
 obtain ⟨v,z,D⟩:=E.one;exact ⟨v,by rw [List.map_toArray,z],D⟩
theorem Cg.bi {b:Builtin} {args:List Operand} {ts:List Nat} {x:AV} (U:r=some x) (O:h.nx≤h'.nx)
  (k:(∀ i,h.nx≤i→i < h'.nx→ρ i=none)→∀ ty cs,∃ ρ' v w',(builtin b ts.toArray ty cs (args.toArray.map a)).run P w=.ok (.value v) w'∧Le ρ ρ'∧(∀ i,i < h.nx∨h'.nx≤i→ρ' i=ρ i)∧HR ρ' w0 G Lf h' w'∧VR ρ' x v) :
  Cg P w0 G Lf w ρ a (.call ⟨.builtin b,args.toArray,ts.toArray⟩) h h' r:=by
 subst U;refine ⟨O,fun J d t p Y g=>?_⟩;obtain ⟨ρ',v,w',z,D,E,e4,I⟩:=k J t (args.toArray.map fun | .const _=>true | _=>false);refine ⟨ρ',_,w',?_,D,E,e4,v,rfl,I⟩;simp only [execOp,resolve,Sem.run_bind,Sem.run_pure,Result.andThen_ok,invoke];exact z
theorem copy_ok (hC:COK P C) {t0:Nat} {ts:List Nat} {d s:AV} {args:List Operand} (E:HR ρ w0 G Lf h w) (hv:VRs ρ [d,s] (args.map a)) (D:Lk C h t0 d s=some (r,h')):Cg P w0 G Lf w ρ a (.call ⟨.builtin .copy,args.toArray,(t0::ts).toArray⟩) h h' r:=by
 obtain ⟨v,u,I,hd,hs⟩:=Ayj hv;unfold Lk at D;split at D
 ·rename_i el n m ab hn hm;obtain ⟨hU,_⟩:=Ms hC ab;obtain ⟨ad,c,rfl,_⟩:=Kp hn hd;obtain ⟨ad2,c2,rfl,_⟩:=Kp hm hs;split at D
  ·rename_i cs ac aa;obtain ⟨vs,n1,n2,n3⟩:=Ny E aa hs;unfold Oq at D;split at D
   ·rename_i af hp;obtain ⟨e1,e2⟩:=H2 D;subst e2;obtain ⟨p1,p2⟩:=Avb (P:=P) E hp hd n1;refine Cg.bi e1 (by rw [p1];exact Nat.le_refl _) fun _ ty _=>?_;rw [I];have Y:Nat.min m n=min m n:=rfl;obtain ⟨i2,ae⟩:=Eg (C:=C) hC ac;obtain ⟨ti,T,t1,_⟩:=tok hC ae;have J:(Builtin.firstCells ti.size (min m n) (.slice ad2 m c2)).run P w=.ok vs.toArray w:=by
     rcases n3 with ⟨U,m',c',z,O,Z⟩ | ⟨z,O⟩
     ·simp only [Value.slice.injEq] at z;obtain ⟨rfl,rfl,rfl⟩:=z;have:=run_loadCells_list (P:=P) w U vs Z;rw [n2,← t1] at this;simpa [Builtin.firstCells] using this
     ·simp only [Value.slice.injEq] at O;obtain ⟨rfl,rfl,rfl⟩:=O;have:vs=[]:=List.eq_nil_of_length_eq_zero (by rw [n2,z];simp);subst this;simp [Builtin.firstCells]
    rcases p2 with ⟨U,n',c',w',z,O,Z⟩ | ⟨z,O,Z⟩
    ·simp only [Value.slice.injEq] at z;obtain ⟨rfl,rfl,rfl⟩:=z;refine ⟨ρ,.int .i64 ((min m n:Nat):Int),w',?_,Le.refl _,fun _ _=>rfl,Z,rfl⟩;simp [builtin,Builtin.copy_,run_underlying hU,Builtin.lenOf,T.sizeOf,Y,J,O,goInt]
    ·simp only [Value.slice.injEq] at z;obtain ⟨rfl,rfl,rfl⟩:=z;subst Z;refine ⟨ρ,.int .i64 ((min m 0:Nat):Int),w,?_,Le.refl _,fun _ _=>rfl,E,rfl⟩;simp only [Nat.min_zero] at J;simp [builtin,Builtin.copy_,run_underlying hU,Builtin.lenOf,T.sizeOf,J,goInt]
   ·cases D
  ·cases D
 ·cases D
theorem bLen_ok (I:COK P C) {E el:Nat} {x:AV} {args:List Operand} (U:VRs ρ [x] (args.map a)) (O:und C E=some (.slice el)) (D:Sg h x=some (r,h')):Qt P w ρ a (.call ⟨.builtin .len,args.toArray,#[E]⟩) h h' r:=by
 obtain ⟨v,z,Z⟩:=Ajo U;unfold Sg at D;split at D
 ·rename_i n J;refine Qt.mk' D (v:=.int .i64 (n:Int)) rfl fun d t p af g=>?_;obtain ⟨ad,c,rfl,_⟩:=Kp J Z;simp [execOp,resolve,invoke,builtin,z,Builtin.len_,Y.run_under (Dd I O),goInt]
 ·cases D
theorem Aye (I:COK P C) {E:Nat} {x:AV} {args:List Operand} (O:VRs ρ [x] (args.map a)) (J:und C E=some .string) (D:Lj h x=some (r,h')):Qt P w ρ a (.call ⟨.builtin .len,args.toArray,#[E]⟩) h h' r:=by
 obtain ⟨v,z,U⟩:=Ajo O;unfold Lj at D;split at D
 ·rename_i s;refine Qt.mk' D (v:=.int .i64 (s.length:Int)) rfl fun d t p Z g=>?_;rw [show v=_ from U] at z;simp [execOp,resolve,invoke,builtin,z,Builtin.len_,Y.run_under (Dd I J),goInt,Y.str_size]
 ·cases D
theorem F9 {z:Array Value} {n sz:Nat} (D:z.size=sz):Builtin.zeroCells z n=(List.replicate n z.toList).flatten.toArray:=by
 rw [← Ww (n:=n) D,← D];rfl
theorem appZ_ok (hC:COK P C) {t0 u0 el:Nat} {s x:AV} {v u:Value} (ae:elem C t0=some el) (E:HR ρ w0 G Lf h w) (hv:VR ρ s v) (hu:VR ρ x u) (J:Rx C h el u0 s x=some (r,h')) :
  ∃ y,r=some y∧h.nx≤h'.nx∧((∀ i,h.nx≤i→i < h'.nx→ρ i=none)→∀ ty,∃ ρ' v' w',(Builtin.append_ #[t0,u0] ty #[v,u]).run P w=.ok v' w'∧Le ρ ρ'∧(∀ i,i < h.nx∨h'.nx≤i→ρ' i=ρ i)∧HR ρ' w0 G Lf h' w'∧VR ρ' y v'):=by
 obtain ⟨hU,hT⟩:=Ms hC ae;unfold Rx at J;split at J
 ·rename_i kn i o n c m ah am;obtain ⟨kq,rfl⟩:=nat?_ok am hu;have aa:=Dd hC ah;unfold Alq at J;split at J
  ·rename_i y h2 I;cases J;unfold Apv at I;split at I
   ·rename_i zs ar O an U;have O:¬ n+(m+1)≤c:=fun hq=>by rw [Nat.ble_eq_true_of_le hq] at O;cases O
    obtain ⟨D,T,t1,t2,t3,t4,tz⟩:=Jb (ρ:=ρ) hC an;obtain ⟨xi,ai,aj,Z,ak⟩:=T.info;obtain ⟨ap,b,d,q1,rfl⟩:=hv;obtain ⟨b',ao,z,p1,p2,p3,p4⟩:=E.read U;rw [q1] at p1;simp only [Option.some.injEq,Prod.mk.injEq] at p1;obtain ⟨rfl,rfl⟩:=p1;obtain ⟨q4,q5,q6⟩:=Mw (m1:=h.m) (nx:=h.nx) I;obtain ⟨L,ac,M⟩:=E;have aq:h'.nx=h.nx+1:=by unfold De at I;split at I <;> simp_all;rw [← I.2]
    refine ⟨y,rfl,tM,fun af ty=>?_⟩;have hr:=Lib.run_append_grow_zeros (P:=P) w t0 u0 ty el xi D.zero kq kn hU aa ai ak (some ⟨b,o,none⟩) n c z (run_firstCells_some (P:=P) (w:=w.drew) xi.size n ⟨b,o,none⟩ n c z (by rw [aj,p3,t1]) (fun j u hj=>by rw [Y.add_plain];exact (p4 j (by have:=Y.lt_of_get hj;omega)).trans hj)) (m+1) tM tM tM tM
     (by rw [Z,t2];have:=Nat.mul_le_mul_right (bytes C el) (show m+1≤n+(m+1) by omega);omega) (by rw [Z,t2];exact growslice_fits tM q4)
    have ag:=grownCap_ge w (n+(m+1)) c el;have ab:=grownCap_le_maxLen w (n+(m+1)) c el (by simp only [maxLen];omega);rw [F9 (n:=m+1) t3] at hr;have M1:=(M.drew (w.drawn+1)).newrow (t:=el) (sz:=D.size) (n:=n+(m+1)) (c:=grownCap w (n+(m+1)) c el) (cs:=z++(List.replicate (m+1) D.zero.cells.toList).flatten) (spare:=(Builtin.zeroCells D.zero.cells (grownCap w (n+(m+1)) c el - (n+(m+1)))).toList)
     (Er q6 (p2.app tz)) (by
      have:=size_zeroCells D.zero.cells (m+1);rw [F9 (n:=m+1) t3] at this;rw [List.length_append,p3,show ((List.replicate (m+1) D.zero.cells.toList).flatten).length=(m+1) * D.zero.cells.size from this,t3,t1,← Nat.add_mul]) (by
      have:=size_zeroCells D.zero.cells (m+1);rw [F9 (n:=m+1) t3] at this;rw [List.length_append,List.length_append,p3,show ((List.replicate (m+1) D.zero.cells.toList).flatten).length=(m+1) * D.zero.cells.size from this,Array.length_toList,size_zeroCells,t3,t1];rw [← Nat.add_mul,← Nat.add_mul];congr 1;omega) ag ab
    obtain ⟨ρ',r1,r2,r3,r4,_⟩:=Pk (C:=C) (m1:=h.m) (nx:=h.nx) (x:=y) (h':=h') ac M1 (p2.app tz) tM (af h.nx (Nat.le_refl _) tM) (by rw [t1];exact I);refine ⟨ρ',_,_,hr,r1,r2,?_,r4⟩;have:(z.toArray++(List.replicate (m+1) D.zero.cells.toList).flatten.toArray++Builtin.zeroCells D.zero.cells (grownCap w (n+(m+1)) c el - (n+(m+1))))=((z++(List.replicate (m+1) D.zero.cells.toList).flatten)++(Builtin.zeroCells D.zero.cells (grownCap w (n+(m+1)) c el - (n+(m+1)))).toList).toArray:=by simp
    rw [this];exact r3
   ·cases I
  ·cases J
 ·cases J
theorem Axx (Y:COK P C) {Z:Nat} {x:AV} {args:List Operand} (E:HR ρ w0 G Lf h w) (hv:VRs ρ [x] (args.map a)) (z:Rw C h Z x=some (r,h')):Cg P w0 G Lf w ρ a (.call ⟨.builtin .clear,args.toArray,#[Z]⟩) h h' r:=by
 unfold Rw at z;split at z
 ·rename_i el i o n c I;obtain ⟨hU,hT⟩:=Ms Y I;obtain ⟨v,D,hx⟩:=Ajo hv;split at z
  ·rename_i zs J;obtain ⟨ti,T,t1,t2,t3,t4,tz⟩:=Jb (ρ:=ρ) Y J;unfold clrR at z;split at z
   ·rename_i h2 hp;cases z;obtain ⟨_,b,d,q1,rfl⟩:=hx;obtain ⟨b',aa,w',O,p2,p3,p4,_⟩:=E.put (P:=P) hp tz;rw [q1] at O;simp only [Option.some.injEq,Prod.mk.injEq] at O;obtain ⟨rfl,rfl⟩:=O;refine Cg.bi rfl (by rw [p4];exact Nat.le_refl _) fun _ ty _=>⟨ρ,.tuple #[],w',?_,Le.refl _,fun _ _=>rfl,p3,⟨[],rfl,rfl⟩⟩;have hz:=T.zeroValue (w:=w);have U:(storeCells ⟨b,o,none⟩ (Builtin.zeroCells ti.zero.cells (n+1)).toList 0).run P w=.ok () w':=by rw [F9 t3];exact p2
    simp [builtin,D,Builtin.clear_,run_underlying hU,hz,U]
   ·cases z
  ·cases z
 ·cases z
theorem Aep (O:COK P C) {b:Builtin} {args:List Operand} {ts:List Nat} (X:XR ρ f e a) (Z:Pq f args=true) (E:HR ρ w0 G Lf h w) (z:Da C e h b args ts=some (r,h')):Cg P w0 G Lf w ρ a (.call ⟨.builtin b,args.toArray,ts.toArray⟩) h h' r:=by
 unfold Da at z;split at z
 ·split at z
  ·rename_i v t I;have I:=Hs X Z I;split at z
   ·exact Cg.quiet E (bLen_ok O I tA z)
   ·exact Cg.quiet E (Aye O I tA z)
   ·cases z
  ·cases z
 ·split at z
  ·rename_i i o n c t I;obtain ⟨v,D,hx⟩:=Ajo (Hs X Z I);split at z
   ·rename_i el J;obtain ⟨hU,_⟩:=Ms O J;obtain ⟨_,b,d,_,rfl⟩:=hx;exact Cg.quiet E (Qt.mk' z (v:=.int .i64 (c:Int)) rfl fun d t p af g=>by simp [execOp,resolve,invoke,builtin,D,Builtin.cap_,run_underlying hU,goInt])
   ·cases z
  ·cases z
 ·split at z
  ·rename_i k p j q I;obtain ⟨v,u,D,hx,hy⟩:=Ayj (Hs X Z I);split at z
   ·rename_i hk;have hk:=of_decide_eq_true hk;subst hk;refine Cg.quiet E (Qt.mk' z (v:=.int k (max p q)) rfl fun d t ps af g=>?_);have h0:(if p < q then q else p)=max p q:=by rw [Int.max_def];split <;> split <;> omega
    rw [show v=_ from hx,show u=_ from hy] at D;simp [execOp,resolve,invoke,builtin,D,Builtin.max_,Builtin.max2,h0]
   ·cases z
  ·cases z
 ·split at z
  ·rename_i s x t u I;obtain ⟨v,v',D,hx,hy⟩:=Ayj (Hs X Z I);unfold Hm at z;split at z
   ·rename_i el Y J;have Y:=Nat.eq_of_beq_eq_true Y;subst Y;split at z
    ·rename_i y aa hz ha;obtain ⟨e1,e2⟩:=H2 z;subst e2;obtain ⟨p1,p2⟩:=Apu O J hz E hx hy ha;refine Cg.bi e1 p1 fun U ty _=>?_;obtain ⟨ρ',v2,w',q1,q2,q3,q4,q5⟩:=p2 U ty;exact ⟨ρ',v2,w',by simp [builtin,D,q1],q2,q3,q4,q5⟩
    ·cases z
   ·rename_i el _ J;obtain ⟨y,e1,p1,p2⟩:=appZ_ok O J E hx hy z;refine Cg.bi e1 p1 fun U ty _=>?_;obtain ⟨ρ',v2,w',q1,q2,q3,q4,q5⟩:=p2 U ty;exact ⟨ρ',v2,w',by simp [builtin,D,q1],q2,q3,q4,q5⟩
   ·cases z
  ·cases z
 ·split at z
  ·rename_i d s t r' I;exact copy_ok O E (Hs X Z I) z
  ·cases z
 ·split at z
  ·rename_i x t I;exact Axx O E (Hs X Z I) z
  ·cases z
 ·cases z
theorem Yq (I:COK P C) {op:Op} (X:XR ρ f e a) (z:Vs f op=true) (E:HR ρ w0 G Lf h w) (D:Cy C e h op=some (r,h')):Cg P w0 G Lf w ρ a op h h' r:=by
 cases op <;> simp only [Cy] at D <;> simp only [Vs,Bool.and_eq_true] at z <;> try (cases D;done)
 case move x=>exact Cg.quiet E (mv_ok X z D).1
 case assign x=>exact Cg.quiet E (mv_ok X z D).2
 case pick c x y=>exact Cg.quiet E (pick_ok X z.1 z.2.1 z.2.2 D)
 case alloc t=>exact Ayo I E D
 case box t x=>exact box_ok X z E D
 case build t ps=>exact Cg.quiet E (Ayb I X z D)
 case buildSlice t n ps=>exact Apf I X z E D
 case load t x=>exact Cg.quiet E (Ahd I X z E D)
 case store t x y=>exact Arl I X z.1 z.2 E D
 case nilCheck x=>exact Cg.quiet E (nil_ok X z D)
 case binOp op t x y u=>exact Cg.quiet E (bin_ok I X z.1 z.2 D)
 case unOp op t x=>exact Cg.quiet E (un_ok X z D)
 case convert s d x=>exact Cg.quiet E (conv_ok I X z E D)
 case makeFunc fn x y=>exact Cg.quiet E (func_ok X z.1 z.2 D)
 case makeMap t o=>exact map_ok E D
 case makeSlice t x y=>exact Avz I X z.1 z.2 E D
 case slice t x l hh m=>exact Cg.quiet E (Arq I X z.1 z.2.1 z.2.2.1 z.2.2.2 D)
 case fieldAddr s x k=>exact Cg.quiet E (Awv I X z D)
 case field s x k=>exact Cg.quiet E (prt_ok I X z D)
 case indexAddr t x y=>exact Cg.quiet E (idxA_ok I X z.1 z.2 D)
 case index t x y=>exact Cg.quiet E (idx_ok I X z.1 z.2 D)
 case lookup t m k ok=>exact Cg.quiet E (look_ok I X z.1 z.2 E D)
 case mapUpdate t m k x=>exact mapU_ok I X z.1 z.2.1 z.2.2 E D
 case extract x i=>exact Cg.quiet E (ext_ok X z D)
 case call c =>
  obtain ⟨J,args,O⟩:=c;unfold Afy at D;cases J with
  | builtin b=>exact Aep I X z.1 E D
  | _=>cases D
end
def Bt (ρ:Nm) (n:Nat):Prop:=∀ i,n≤i→ρ i=none
def Aft (ρ ρ':Nm) (n n':Nat):Prop:=n≤n'∧(∀ i,i < n→ρ' i=ρ i)∧Bt ρ' n'
theorem Aft.le {ρ ρ':Nm} {n n':Nat} (h:Aft ρ ρ' n n') (E:Bt ρ n):Le ρ ρ':=fun i x D=>by
 rcases Nat.lt_or_ge i n with z | z
 ·rw [h.2.1 i z];exact D
 ·rw [E i z] at D;cases D
theorem Aft.refl {ρ:Nm} {n:Nat} (h:Bt ρ n):Aft ρ ρ n n:=⟨Nat.le_refl _,fun _ _=>rfl,h⟩
theorem Aft.trans {ρ ρ' ρ'':Nm} {n n' z:Nat} (h:Aft ρ ρ' n n') (h':Aft ρ' ρ'' n' z):Aft ρ ρ'' n z :=
 ⟨Nat.le_trans h.1 h'.1,fun i D=>(h'.2.1 i (Nat.lt_of_lt_of_le D h.1)).trans (h.2.1 i D),h'.2.2⟩
def FR (ds:List Deferred) (ρ:Nm) (nt:Nat) (e:Env) (a:Act):Prop:=a.tmps.size=nt∧a.defers=ds∧∀ i x,e.get i=some x→∃ v,a.tmps[i]?=some v∧VR ρ x v
def Cx (P:Program) (w0:World) (G:Y.Ghost) (F:Bj):Prop:=∀ (f:Nat) (vs:List AV) (h:H) (v:AV) (h':H),F f vs h=some (v,h')→(Y.Ent P f∧∀ (ρ:Nm) (Lf:List Y.Res) (w:World) (us:List Value),VRs ρ vs us→HR ρ w0 G Lf h w→Bt ρ h.nx →
 Calls P f us.toArray w fun x w'=>∃ u,x=.returned u∧∃ ρ',Aft ρ ρ' h.nx h'.nx∧HR ρ' w0 G Lf h' w'∧VR ρ' v u) ∨
 ∀ (ρ:Nm) (Lf:List Y.Res) (w:World) (us:List Value),VRs ρ vs us→HR ρ w0 G Lf h w→Bt ρ h.nx→∃ u,(callFunc f us.toArray).run P w=.ok (.value u) w∧∃ ρ',Aft ρ ρ' h.nx h'.nx∧HR ρ' w0 G Lf h' w∧VR ρ' v u
section
variable {ds:List Deferred} {P:Program} {C:Ctx} {F:Bj} {w w0:World} {G:Y.Ghost} {Lf:List Y.Res} {ρ:Nm} {f:Operand→Bool} {e:Env} {a:Act} {h h':H} {r:Option AV} {nt:Nat} {Q:Exit→Act→World→Prop}
theorem FR.mono {ρ':Nm} (E:Le ρ ρ') (A:FR ds ρ nt e a):FR ds ρ' nt e a:=⟨A.1,A.2.1,fun i x I=>by obtain ⟨v,z,D⟩:=A.2.2 i x I;exact ⟨v,z,VR.mono E _ _ D⟩⟩
theorem ev_ok (A:∀ i x,f (.tmp i)=true→e.get i=some x→∃ v,a.tmps[i]?=some v∧VR ρ x v):XR ρ f e a.eval:=by
 intro x v I z;cases x with
 | tmp i =>
  obtain ⟨u,D,E⟩:=A i v I z;have:a.eval (.tmp i)=u:=by simp [Act.eval,Array.getD_eq_getD_getElem?,D]
  rw [this];exact E
 | const c=>exact Uh z
 | global g=>cases z
 | func g=>simp only [ev,Option.some.injEq] at z;subst z;exact ⟨[],[],rfl,rfl,rfl⟩
theorem FR.xr (A:FR ds ρ nt e a):XR ρ (fun _=>true) e a.eval:=ev_ok fun i x _ h=>A.2.2 i x h
theorem Acs {d:Nat} {v:Value} {i:Nat} (hd:d < a.tmps.size):(a.put (some d) v).tmps[i]?=if i=d then some v else a.tmps[i]?:=by
 by_cases hi:i=d
 ·subst hi;simp [Act.put,hd]
 ·rw [if_neg hi];simp [Act.put,Array.getElem?_setIfInBounds_ne (Ne.symm hi)]
theorem FR.put {d:Option Nat} {x:AV} {v:Value} {E:Env} (A:FR ds ρ nt e a) (I:VR ρ x v) (z:Qx nt e d x=some E):FR ds ρ nt E (a.put d v):=by
 cases d with
 | none=>simp only [Qx,Option.some.injEq] at z;subst z;exact A
 | some d =>
  simp only [Qx] at z;split at z
  ·rename_i hd;have hd:=Nat.le_of_ble_eq_true hd;simp only [Option.some.injEq] at z;subst z;refine ⟨by simp [Act.put,A.1],A.2.1,fun i y D=>?_⟩;rw [Tr.get_set] at D;rw [Acs (by rw [A.1];exact hd)]
   by_cases hi:i=d
   ·rw [if_pos hi] at D ⊢;simp only [Option.some.injEq] at D;subst D;exact ⟨v,rfl,I⟩
   ·rw [if_neg hi] at D ⊢;exact A.2.2 i y D
  ·cases z
theorem Py:VR ρ (.raw undef) undef:=⟨rfl,rfl⟩
def Aob (ops:List Oper) (j:Nat):Option Nat:=match ops[j]? with
 | some o=>o.dst
 | none=>none
theorem M0 {z:List Oper} {o:Oper} {b:Bool} (A:∀ j g d x,o.guard=some (j,g)→Aob z j=some d→e.get d=some x→∃ v,a.tmps[d]?=some v∧VR ρ x v) (hw:wanted z e o=some b):Region.wanted o (yielded z.toArray a.tmps)=b:=by
 unfold wanted at hw;unfold Region.wanted;split at hw
 ·rename_i O;rw [O];simpa using hw
 ·rename_i j g O;rw [O];split at hw
  ·rename_i o' E;split at hw
   ·rename_i d hd;have Y:((z.toArray[j]?).bind (·.dst))=some d:=by simp [E,hd]
    unfold Ra at hw;split at hw
    ·rename_i b' D;obtain ⟨v,J,U⟩:=A j g d _ O (by simp [Aob,E,hd]) D;simp only [Option.some.injEq] at hw;rw [show v=.bool b' from U] at J;have I:yielded z.toArray a.tmps j=some b':=by unfold yielded;rw [Y];simp [J]
     show (yielded z.toArray a.tmps j==some g)=b;rw [I,← hw];rfl
    ·rename_i Z D;obtain ⟨v,J,U⟩:=A j g d _ O (by simp [Aob,E,hd]) D;simp only [Option.some.injEq] at hw;rw [show v=.tuple Z from U.1] at J;have I:yielded z.toArray a.tmps j=none:=by unfold yielded;rw [Y];simp [J]
     show (yielded z.toArray a.tmps j==some g)=b;rw [I,← hw];rfl
    ·cases hw
   ·cases hw
  ·cases hw
theorem Oper.eta (o:Oper):(⟨o.dst,o.op,o.type,o.pos,o.after,o.guard⟩:Oper)=o:=rfl
theorem Aqb:∀ l:List Operand,Pq (fun _=>true) l=true
 | []=>rfl
 | _::l=>by simp [Pq,Aqb l]
theorem Avd:∀ l:List (Nat × Operand),Vm (fun _=>true) l=true
 | []=>rfl
 | (_,_)::l=>by simp [Vm,Avd l]
theorem oOk_t (o:Option Operand):oOk (fun _=>true) o=true:=by cases o <;> rfl
theorem Avi (op:Op):Vs (fun _=>true) op=true:=by
 cases op <;> simp [Vs,Aqb,Avd,oOk_t]
 case call c=>split <;> rfl
theorem U6 (hC:COK P C) (hF:Cx P w0 G F) {o:Oper} {K:Act→World→Prop} (X:XR ρ f e a.eval) (hf:Vs f o.op=true) (E:HR ρ w0 G Lf h w) (hn:Bt ρ h.nx) (D:Cu C F e h o.op=some (r,h'))
  (k:∀ ρ' v w',Aft ρ ρ' h.nx h'.nx→HR ρ' w0 G Lf h' w'→VR ρ' (r.getD (.raw undef)) v→K (a.put o.dst v) w'):o.wp P a w K Q:=by
 have quiet:Cy C e h o.op=some (r,h')→o.wp P a w K Q:=by
  intro D;obtain ⟨h2,h3⟩:=Yq hC X hf E D;obtain ⟨ρ',nx,w',U,q2,Z,q4,q5⟩:=h3 (fun i O _=>hn i O) o.dst o.type o.pos o.after o.guard;have hA:Aft ρ ρ' h.nx h'.nx:=⟨h2,fun i O=>Z i (Or.inl O),fun i O=>by rw [Z i (Or.inr O)];exact hn i (Nat.le_trans h2 O)⟩;rw [Oper.eta] at U;unfold Oper.wp;rw [U];cases r with
  | none=>subst q5;exact k ρ' undef w' hA q4 Py
  | some x=>obtain ⟨v,rfl,q6⟩:=q5;exact k ρ' v w' hA q4 q6
 obtain ⟨dst,op,ty,ps,af,g⟩:=o;cases op
 case call c =>
  obtain ⟨ab,args,aa⟩:=c;cases ab with
  | value fo =>
   simp only [Cu,Avm] at D;simp only [Vs,Bool.and_eq_true] at hf;unfold Bv at D;split at D
   ·rename_i ac x y hv;obtain ⟨vs,ws,v1,v2,v3⟩:=X _ _ hf.2 hv;split at D
    ·rename_i us J;have J:=Hs X hf.1 J;unfold asR at D;split at D
     ·rename_i ah ag ae;obtain ⟨e1,e2⟩:=H2 D;subst e1 e2;have h6:vs.toArray++args.map a.eval++ws.toArray=(vs++(args.toList.map a.eval++ws)).toArray:=by
       apply Array.ext';simp
      rcases hF _ _ _ _ _ ae with ⟨hE,z⟩ | z
      ·have hc:=z ρ Lf w _ (v1.app (J.app v2)) E hn;have I:(execOp a.eval ⟨dst,.call ⟨.value fo,args,aa⟩,ty,ps,af,g⟩).run P w=.ok (.enter ac (vs++(args.toList.map a.eval++ws)).toArray) w:=by
        have h5:=Y.run_enter (w:=w) (args:=(vs++(args.toList.map a.eval++ws)).toArray) hE;simp only [execOp,resolve,Deferred.ofValue,v3,Sem.run_bind,Sem.run_pure,Result.andThen_ok,invoke,h6];exact h5
       unfold Oper.wp;rw [I];refine Calls.mono hc fun x w' hx=>?_;obtain ⟨u,rfl,ρ',U,q2,Z⟩:=hx;exact k ρ' u w' U q2 Z
      ·obtain ⟨u,h5,ρ',U,q2,Z⟩:=z ρ Lf w _ (v1.app (J.app v2)) E hn;have I:(execOp a.eval ⟨dst,.call ⟨.value fo,args,aa⟩,ty,ps,af,g⟩).run P w=.ok (.value u) w:=by
        simp only [execOp,resolve,Deferred.ofValue,v3,Sem.run_bind,Sem.run_pure,Result.andThen_ok,invoke,h6];exact h5
       unfold Oper.wp;rw [I];exact k ρ' u w U q2 Z
     ·cases D
    ·cases D
   ·cases D
  | _=>exact quiet D
 all_goals exact quiet D
theorem Jv (hC:COK P C) (hF:Cx P w0 G F) {ops:List Oper}:∀ {l:List Oper} {s s':S} {ρ:Nm} {a:Act} {w:World},Gu C F nt ops l s=some s'→FR ds ρ nt s.e a→HR ρ w0 G Lf s.h w→Bt ρ s.h.nx →
  (∀ ρ' a' w',Aft ρ ρ' s.h.nx s'.h.nx→FR ds ρ' nt s'.e a'→HR ρ' w0 G Lf s'.h w'→Q .normal a' w')→Y.rl P ops.toArray Q l a w
 | [],s,s',ρ,a,w,h1,A,E,hn,k=>by
  have:s=s':=Option.some.inj (show some s=some s' from h1);subst this;exact k ρ a w (Aft.refl hn) A E
 | o::l,s,s',ρ,a,w,h1,A,E,hn,k=>by
  have h1:Ly (Gu C F nt ops l) (Dg C F nt ops o s)=some s':=h1;unfold Ly at h1;split at h1
  ·rename_i s1 hs1;unfold Dg at hs1;split at hs1
   ·rename_i hw;have hw:=M0 (fun j g d x _ _ hx=>A.2.2 d x hx) hw;unfold mkS at hs1;split at hs1
    ·rename_i e1 he1;simp only [Option.some.injEq] at hs1;subst hs1;exact ⟨fun hw'=>(by rw [hw] at hw';cases hw'),fun _=>Jv hC hF h1 (A.put Py he1) E hn k⟩
    ·cases hs1
   ·rename_i hw;have hw:=M0 (fun j g d x _ _ hx=>A.2.2 d x hx) hw;refine ⟨fun _=>?_,fun hw'=>by rw [hw] at hw';cases hw'⟩;unfold fin at hs1;split at hs1
    ·rename_i v h2 hr;unfold mkS at hs1;split at hs1
     ·rename_i e1 he1;simp only [Option.some.injEq] at hs1;subst hs1;refine U6 hC hF A.xr (Avi _) E hn hr fun ρ' u w' q1 q2 q3=>?_;exact Jv hC hF h1 ((A.mono (q1.le hn)).put q3 he1) q2 q1.2.2 fun ρ'' a' w'' r1 r2 r3=>k ρ'' a' w'' (q1.trans r1) r2 r3
     ·cases hs1
    ·rename_i h2 hr;unfold mkS at hs1;split at hs1
     ·rename_i e1 he1;simp only [Option.some.injEq] at hs1;subst hs1;refine U6 hC hF A.xr (Avi _) E hn hr fun ρ' u w' q1 q2 q3=>?_;exact Jv hC hF h1 ((A.mono (q1.le hn)).put q3 he1) q2 q1.2.2 fun ρ'' a' w'' r1 r2 r3=>k ρ'' a' w'' (q1.trans r1) r2 r3
     ·cases hs1
    ·cases hs1
   ·cases hs1
  ·cases h1
end
end Go.V
namespace Go.Y
open Go Go.RowKit
def upd (s:Nat→Bool) (j:Nat):Nat→Bool:=fun i=>if i=j then true else s i
theorem upd_eq {s:Nat→Bool} {j:Nat}:upd s j j=true:=by simp [upd]
theorem upd_ne {s:Nat→Bool} {i j:Nat} (h:i≠j):upd s j i=s i:=by simp [upd,h]
def unl:List Bool→Nat
 | []=>0
 | true::l=>unl l
 | false::l=>unl l+1
theorem unl_set:∀ (L:List Bool) (j:Nat),L[j]?=some false→unl (L.set j true)+1=unl L
 | [],j,h=>by simp at h
 | b::l,0,h=>by simp only [List.getElem?_cons_zero,Option.some.injEq] at h;subst h;rfl
 | true::l,j+1,h=>by simp only [List.getElem?_cons_succ] at h;exact unl_set l j h
 | false::l,j+1,h=>by simp only [List.getElem?_cons_succ] at h;have:=unl_set l j h;simp only [List.set_cons_succ,unl];omega
theorem unl_zero:∀ (L:List Bool),unl L=0→∀ j:Nat,L[j]?≠some false
 | [],_,j=>by simp
 | true::l,h,0=>by simp
 | true::l,h,j+1=>by simp only [List.getElem?_cons_succ];exact unl_zero l h j
 | false::l,h,_=>by simp [unl] at h
section
variable {P:Program} {ops:Array Oper} {Q:Exit→Act→World→Prop}
theorem Ajv {o:Oper} {a:Act} {w:World} {K:Act→World→Prop} (h:rl P ops (fun e a w=>match e with | .normal=>K a w | e=>Q e a w) [o] a w) (hw:Region.wanted o (yielded ops a.tmps)=true):o.wp P a w K Q:=by
 have z:=h.1 hw;unfold Oper.wp at *;generalize (execOp a.eval o).run P w=x at *;cases x with
 | ok nx w' =>
  cases nx <;> simp only [Oper.upon] at z ⊢
  case value u=>exact z
  case skip=>exact z
  case defer d=>exact z
  case enter f args =>
   refine Calls.mono z fun e I D=>?_;cases e with
   | returned u=>exact D
   | panicked c=>exact D
   | outgrown=>obtain ⟨E,w0,h0⟩:=D;exact ⟨E,w0,h0⟩
  case row row args=>exact z
 | halt x w'=>cases x <;> simp only [Oper.upon] at z ⊢ <;> exact z
theorem w_inv {id:Nat} {l:List Oper} {a:Act} {w:World} (I:(Nat→Bool)→Act→World→Prop) (hm:P.follows .mixedOrders=true)
  (z:∀ j o,l[j]?=some o→o.guard=none∧∀ e∈o.after,Region.binds .any e=true→e.on < j)
  (h0:I (fun _=>false) a { w with drawn:=w.drawn+1 })
  (Y:∀ s a w j o,l[j]?=some o→s j=false→(∀ e∈o.after,Region.binds .any e=true→s e.on=true)→I s a w →
   rl P l.toArray (fun e a w=>match e with | .normal=>I (upd s j) a w | e=>Q e a w) [o] a w)
  (J:∀ s a w,(∀ j,j < l.length→s j=true)→I s a w→Q .normal a w):(Code.region id l.toArray true).wp P Q a w:=by
 have E:∀ (listed:Array Bool),listed.size=l.length→Region.ready .any l.toArray listed=[]→∀ j,j < l.length→listed.getD j false=true:=by
  intro listed hs O j
  induction j using Nat.strongRecOn with
  | _ j ih =>
   intro U;cases hb:listed.getD j false with
   | true=>rfl
   | false =>
    exfalso
    have hm:j∈Region.ready .any l.toArray listed:=by
     refine mem_ready.2 ⟨?_,l[j],by simp [U],fun e he aa=>ih _ ?_ ?_⟩
     ·rw [Array.getD_eq_getD_getElem?,Array.getElem?_eq_getElem tM] at hb ⊢;exact hb
     ·exact (z j l[j] (by simp [U])).2 e he aa
     ·have:=(z j l[j] (by simp [U])).2 e he aa;omega
    rw [O] at hm;cases hm
 have key:∀ (n:Nat) (listed:Array Bool) (a:Act) (w:World),listed.size=l.length→unl listed.toList≤n→I (fun j=>listed.getD j false) a w→wpAny P .any l.toArray Q n listed a w:=by
  intro n
  induction n with
  | zero =>
   intro listed a w hs hu hI;have O:Region.ready .any l.toArray listed=[]:=by
    cases O:Region.ready .any l.toArray listed with
    | nil=>rfl
    | cons j _ =>
     exfalso
     have U:j∈Region.ready .any l.toArray listed:=by rw [O];simp
     obtain ⟨Z,o,h2,_⟩:=mem_ready.1 U;refine unl_zero listed.toList tM j ?_;have D:j < listed.size:=by
      have:=(Array.getElem?_eq_some_iff.1 h2).1;simpa [hs] using this
     rw [Array.getD_eq_getD_getElem?,Array.getElem?_eq_getElem D] at Z;rw [Array.getElem?_toList,Array.getElem?_eq_getElem D];simpa using Z
   exact ⟨O,J _ a w (E listed hs O) hI⟩
  | succ n ih =>
   intro listed a w hs hu hI;refine ⟨fun O=>J _ a w (E listed hs O) hI,fun j U=>?_⟩;obtain ⟨Z,o,h2,h3⟩:=mem_ready.1 U;have ab:l[j]?=some o:=by simpa using h2
   have D:j < listed.size:=by
    have:=(Array.getElem?_eq_some_iff.1 h2).1;simpa [hs] using this
   have hf:listed.getD j false=false:=by
    rw [Array.getD_eq_getD_getElem?,Array.getElem?_eq_getElem D] at Z ⊢;exact Z
   have hw:Region.wanted o (yielded l.toArray a.tmps)=true:=by simp [Region.wanted,(z j o ab).1]
   unfold wpOp;simp only [h2,hw,if_true]
   left
   refine Oper.wp_mono (fun a' w' hk=>?_) (Ajv (Y _ a w j o ab hf h3 hI) hw);refine ih _ a' w' (by simp [hs]) ?_ ?_
   ·rw [Array.toList_setIfInBounds];have:=unl_set listed.toList j (by rw [Array.getElem?_toList];rw [Array.getD_eq_getD_getElem?,Array.getElem?_eq_getElem D] at hf;rw [Array.getElem?_eq_getElem D];simpa using hf);omega
   ·have:(fun i=>(listed.setIfInBounds j true).getD i false)=upd (fun i=>listed.getD i false) j:=by
     funext i
     by_cases hij:i=j
     ·subst hij;rw [upd_eq];simp [D]
     ·rw [upd_ne hij,getD_set_ne false (Ne.symm hij)]
    rw [this];exact hk
 refine wp_region_any hm (key _ _ a _ (by simp) ?_ ?_)
 ·have:∀ n,unl (List.replicate n false)=n:=by
   intro n;induction n with
   | zero=>rfl
   | succ n ih=>rw [List.replicate_succ];simp [unl,ih]
  rw [Array.toList_replicate,this];simp
 ·have:(fun j=>(Array.replicate l.toArray.size false).getD j false)=fun _=>false:=by
   funext j;rw [Array.getD_eq_getD_getElem?,Array.getElem?_replicate];split <;> rfl
  rw [this];exact h0
def T9:Nat→List Value→Env
 | _,[]=>[]
 | k,v::l=>(k,v)::T9 (k+1) l
theorem Lw:∀ (l:List Value) (k i:Nat),k≤i→look (T9 k l) i=l[i - k]?
 | [],k,i,h=>by simp [T9,look]
 | v::l,k,i,h=>by
  by_cases e:k=i
  ·subst e;simp [T9,Dv]
  ·rw [T9,Du e,Lw l (k+1) i tM,show i - k=(i - (k+1))+1 by omega,List.getElem?_cons_succ]
theorem Anf {n:Nat} {a:Act} (hs:a.tmps.size=n) (hd:a.defers=[]):∃ e,Fits n a e∧∀ i v,a.tmps[i]?=some v→look e i=some v:=by
 refine ⟨T9 0 a.tmps.toList,⟨hs,hd,fun i v h=>?_⟩,fun i v h=>?_⟩
 ·rw [Lw _ _ _ (Nat.zero_le _)] at h;simpa using h
 ·rw [Lw _ _ _ (Nat.zero_le _)];simpa using h
structure Thr where
 ld:Nat
 cl:Nat
 al:Nat
 st:Nat
 sp:Nat
 sl:Nat
 sc:Nat
 sa:Nat
 pb:Nat
 bt:TypeId
 t:TypeId
 f:FuncId
 arg:List Value
 zero:List Value
 Good:Ghost→List Value→Prop
def Thr.T (τ:Thr) (s:Nat→Bool) (a:Act) (G:Ghost) (R:List Res):Prop :=
 (s τ.st=true→s τ.cl=true∧s τ.al=true)∧(s τ.ld=true→a.tmps[τ.sl]?=some (.agg τ.arg.toArray)) ∧
 ∃ cs,(s τ.cl=true→a.tmps[τ.sc]?=some (.agg cs.toArray)∧τ.Good G cs) ∧
  ((s τ.al=false∧R=[])∨(s τ.al=true∧∃ b,a.tmps[τ.sa]?=some (.pointer (some ⟨b,0,none⟩))∧R=[.blk b (if s τ.st=true then cs else τ.zero) τ.t]))
def hasB (af:Array Edge) (j:Nat):Bool:=af.toList.any fun e=>Region.binds .any e && Nat.beq e.on j
theorem Xa {D:Array Edge} {j:Nat} (h:hasB D j=true):∃ e∈D,Region.binds .any e=true∧e.on=j:=by
 obtain ⟨e,E,z⟩:=List.any_eq_true.1 h;simp only [Bool.and_eq_true] at z;exact ⟨e,by simpa using E,z.1,Nat.eq_of_beq_eq_true z.2⟩
def Q3:List Nat→Bool
 | []=>true
 | x::l=>!(l.any (Nat.beq x)) && Q3 l
theorem Nt:∀ {l:List Nat},Q3 l=true→l.Nodup
 | [],_=>List.nodup_nil
 | x::l,h=>by
  simp only [Q3,Bool.and_eq_true,Bool.not_eq_true'] at h;refine List.nodup_cons.2 ⟨fun hx=>?_,Nt h.2⟩;have:l.any (Nat.beq x)=true:=List.any_eq_true.2 ⟨x,hx,Nat.beq_refl x⟩;rw [h.1] at this;cases this
structure Thr.Code (P:Program) (l:List Oper) (n:Nat) (τ:Thr):Prop where
 oLd:∃ t p af,l[τ.ld]?=some ⟨some τ.sl,.load τ.bt (.tmp τ.sp),t,p,af,none⟩
 oCl:∃ ats t p af,l[τ.cl]?=some ⟨some τ.sc,.call ⟨.value (.func τ.f),#[.tmp τ.sl],ats⟩,t,p,af,none⟩∧hasB af τ.ld=true
 oAl:∃ t p af,l[τ.al]?=some ⟨some τ.sa,.alloc τ.t,t,p,af,none⟩
 oSt:∃ t p af,l[τ.st]?=some ⟨none,.store τ.t (.tmp τ.sa) (.tmp τ.sc),t,p,af,none⟩∧hasB af τ.cl=true∧hasB af τ.al=true
 ops:Q3 [τ.ld,τ.cl,τ.al,τ.st]=true
 slots:Q3 [τ.sl,τ.sc,τ.sa]=true
 fit:Nat.ble (τ.sl+1) n=true∧Nat.ble (τ.sc+1) n=true∧Nat.ble (τ.sa+1) n=true
 ent:Ent P τ.f
 tb:∃ i,TOK P τ.bt i∧i.k.agg=some true∧τ.arg.length=i.size
 tt:∃ i,TOK P τ.t i∧i.zero.cells=τ.zero.toArray∧i.size=τ.zero.length
structure Thr.Does (P:Program) (w0:World) (G0:Ghost) (Kn:List Res) (τ:Thr):Prop where
 call:∀ (w:World) (G:Ghost) (L:List Res),Gle G0 G→(∀ r∈Kn,r∈L)→Mem w0 G L w→Calls P τ.f #[.agg τ.arg.toArray] w (Ret w0 G L fun G' v=>∃ cs,v=.agg cs.toArray∧τ.Good G' cs)
 mono:∀ G G' cs,Gle G G'→τ.Good G cs→τ.Good G' cs
 good:∀ G cs,τ.Good G cs→cs.length=τ.zero.length∧∀ u∈cs,u.oneCell' = true
theorem over_app':∀ (us pre cs:List Value),cs.length=us.length→over (pre++cs) pre.length us=pre++us
 | [],pre,cs,h=>by rw [List.eq_nil_of_length_eq_zero h];simp [over]
 | u::us,pre,[],h=>by simp at h
 | u::us,pre,c::cs,h=>by
  have:=over_app' us (pre++[u]) cs (by simpa using h);simp only [over];rw [show (pre++c::cs).set pre.length u=(pre++[u])++cs by simp];simpa using this
theorem over_all' {cs us:List Value} (h:cs.length=us.length):over cs 0 us=us:=over_app' us [] cs h
theorem Thr.step {τ:Thr} {Kn:List Res} {l:List Oper} {n:Nat} {w0:World} {G0:Ghost} (E:τ.Code P l n) (hd:τ.Does P w0 G0 Kn) {s:Nat→Bool} {a:Act} {w:World} {G:Ghost} {R X:List Res} {K:Act→World→Prop} {j:Nat} {o:Oper} (hj:l[j]?=some o)
  (au:j=τ.ld∨j=τ.cl∨j=τ.al∨j=τ.st) (hs:s j=false) (ae:∀ e∈o.after,Region.binds .any e=true→s e.on=true) (ay:a.tmps.size=n) (aq:a.defers=[])
  (ax:a.tmps[τ.sp]?=some (.pointer (some ⟨τ.pb,0,none⟩))) (hL:Res.blk τ.pb τ.arg τ.bt∈X) (hK:∀ r∈Kn,r∈X) (M:Mem w0 G (R++X) w) (hG:Gle G0 G) (hT:τ.T s a G R)
  (k:∀ z w' G' R',z.tmps.size=n→z.defers=[]→(∀ i v,i≠τ.sl→i≠τ.sc→i≠τ.sa→a.tmps[i]?=some v→z.tmps[i]?=some v)→Gle G G'→Mem w0 G' (R'++X) w'→τ.T (upd s j) z G' R'→K z w') :
  rl P ops (fun e a w=>match e with | .normal=>K a w | e=>Q e a w) [o] a w:=by
 obtain ⟨e,F,hF⟩:=Anf ay aq;obtain ⟨ac,Z,cs,J,aa⟩:=hT;obtain ⟨⟨o1,o2,o3⟩,⟨o4,o5⟩,o6⟩:(τ.ld≠τ.cl∧τ.ld≠τ.al∧τ.ld≠τ.st)∧(τ.cl≠τ.al∧τ.cl≠τ.st)∧τ.al≠τ.st:=by simpa using Nt E.ops
 obtain ⟨⟨s1,s2⟩,s3⟩:(τ.sl≠τ.sc∧τ.sl≠τ.sa)∧τ.sc≠τ.sa:=by simpa using Nt E.slots
 have put:∀ {z:Act} {d:Nat} {v:Value},Fits n z ((d,v)::e)→z.tmps[d]?=some v∧∀ i u,i≠d→a.tmps[i]?=some u→z.tmps[i]?=some u:=fun F' =>
  ⟨F'.slot _ _ Dv,fun i u hi hu=>F'.slot i u (by rw [Du (Ne.symm hi)];exact hF i u hu)⟩
 rcases au with rfl | rfl | rfl | rfl
 ·obtain ⟨t,p,af,D⟩:=E.oLd;rw [hj] at D;simp only [Option.some.injEq] at D;subst D;obtain ⟨i,h1,h2,h3⟩:=E.tb;obtain ⟨m,hm⟩:=List.mem_iff_getElem?.1 (List.mem_append_right R hL);refine Aa F (run_loadA h1 h2 (F.ev (hF _ _ ax)) h3 (M.cellsL hm (by rw [← h3];simp))) E.fit.1 fun z F'=>?_;obtain ⟨p1,O⟩:=put F';refine k z w G R F'.size F'.defers (fun i v q1 q2 q3 Y=>O i v q1 Y) (Gle.refl _) M ⟨?_,fun _=>p1,cs,?_,?_⟩
  ·rw [upd_ne (Ne.symm o3),upd_ne (Ne.symm o1),upd_ne (Ne.symm o2)];exact ac
  ·rw [upd_ne (Ne.symm o1)];exact fun h=>⟨O _ _ (Ne.symm s1) (J h).1,(J h).2⟩
  ·rw [upd_ne (Ne.symm o2),upd_ne (Ne.symm o3)];rcases aa with h | ⟨U,b,h5,h6⟩
   ·exact Or.inl h
   ·exact Or.inr ⟨U,b,O _ _ (Ne.symm s2) h5,h6⟩
 ·obtain ⟨a0,t,p,af,D,ak⟩:=E.oCl;obtain ⟨e1,ai,ah,aj⟩:=Xa ak;rw [hj] at D;simp only [Option.some.injEq] at D;subst D;have av:s τ.ld=true:=by rw [← aj];exact ae e1 ai ah
  have I:s τ.st=false:=by
   cases h:s τ.st with
   | false=>rfl
   | true=>rw [(ac h).1] at hs;cases hs
  refine rl_call (args:=[.tmp τ.sl]) (vs:=[.agg τ.arg.toArray]) F E.ent (by simp only [evs,ev,hF _ _ (Z av)]) E.fit.2.1 (hd.call w G _ hG (fun r h=>List.mem_append_right R (hK r h)) M) ?_;rintro v G' w' z ao M' ⟨cs',rfl,hg⟩ F';obtain ⟨p1,O⟩:=put F';refine k z w' G' R F'.size F'.defers (fun i v q1 q2 q3 Y=>O i v q2 Y) ao M' ⟨?_,?_,cs',fun _=>⟨p1,hg⟩,?_⟩
  ·rw [upd_ne (Ne.symm o5),upd_ne (Ne.symm o4),I];exact fun h=>by cases h
  ·rw [upd_ne o1];exact fun h=>O _ _ s1 (Z h)
  ·rw [upd_ne (Ne.symm o4),upd_ne (Ne.symm o5),I];rcases aa with h | ⟨U,b,h5,h6⟩
   ·exact Or.inl h
   ·rw [I] at h6;exact Or.inr ⟨U,b,O _ _ (Ne.symm s3) h5,by simpa using h6⟩
 ·obtain ⟨t,p,af,D⟩:=E.oAl;rw [hj] at D;simp only [Option.some.injEq] at D;subst D;obtain ⟨i,h1,h2,h3⟩:=E.tt;have I:s τ.st=false:=by
   cases h:s τ.st with
   | false=>rfl
   | true=>rw [(ac h).2] at hs;cases hs
  have hR:R=[]:=by
   rcases aa with h | ⟨U,_⟩
   ·exact h.2
   ·rw [hs] at U;cases U
  subst hR;refine Ew F M h1 h2 E.fit.2.2 fun b w' z M' F'=>?_;obtain ⟨p1,O⟩:=put F';refine k z w' G [.blk b τ.zero τ.t] F'.size F'.defers (fun i v q1 q2 q3 Y=>O i v q3 Y) (Gle.refl _) M' ⟨?_,?_,cs,?_,Or.inr ⟨upd_eq,b,p1,?_⟩⟩
  ·rw [upd_ne (Ne.symm o6),I];exact fun h=>by cases h
  ·rw [upd_ne o2];exact fun h=>O _ _ s2 (Z h)
  ·rw [upd_ne o4];exact fun h=>⟨O _ _ s3 (J h).1,(J h).2⟩
  ·rw [upd_ne (Ne.symm o6),I];rfl
 ·obtain ⟨t,p,af,D,ak,az⟩:=E.oSt;obtain ⟨e1,ai,ah,aj⟩:=Xa ak;obtain ⟨e2,ar,ap,aw⟩:=Xa az;rw [hj] at D;simp only [Option.some.injEq] at D;subst D;have am:s τ.cl=true:=by rw [← aj];exact ae e1 ai ah
  have ag:s τ.al=true:=by rw [← aw];exact ae e2 ar ap
  obtain ⟨i,h1,h2,h3⟩:=E.tt;obtain ⟨Y,hg⟩:=J am;obtain ⟨ab,an⟩:=hd.good G cs hg;rcases aa with ⟨U,_⟩ | ⟨U,b,h5,h6⟩
  ·rw [ag] at U;cases U
  rw [hs] at h6;simp only [Bool.false_eq_true,if_false] at h6;subst h6;refine Fi (k:=0) (us:=cs) F M h1 rfl (hF _ _ h5) (hF _ _ Y) rfl (by rw [ab,h3]) an tM fun w' z M' F'=>?_;have keep:∀ i u,a.tmps[i]?=some u→z.tmps[i]?=some u:=fun i u hu=>F'.slot i u (hF i u hu);rw [over_all' ab.symm] at M';refine k z w' G [.blk b cs τ.t] F'.size F'.defers (fun i v q1 q2 q3 Y=>keep i v Y) (Gle.refl _) M' ⟨?_,?_,cs,?_,Or.inr ⟨?_,b,keep _ _ h5,?_⟩⟩
  ·rw [upd_ne o5,upd_ne o6];exact fun _=>⟨am,ag⟩
  ·rw [upd_ne o3];exact fun h=>keep _ _ (Z h)
  ·rw [upd_ne o5];exact fun h=>⟨keep _ _ Y,hg⟩
  ·rw [upd_ne o6];exact ag
  ·rw [upd_eq];rfl
def Thr.Apart (τ σ:Thr):Prop:=(∀ i∈[τ.ld,τ.cl,τ.al,τ.st],i ∉ [σ.ld,σ.cl,σ.al,σ.st])∧∀ i∈[τ.sl,τ.sc,τ.sa],i ∉ [σ.sl,σ.sc,σ.sa]
instance:DecidableRel Thr.Apart:=fun τ σ=>by unfold Thr.Apart;infer_instance
theorem Thr.T.frame {τ:Thr} {Y:List Res} {w0:World} {G0:Ghost} (hd:τ.Does P w0 G0 Y) {s:Nat→Bool} {j:Nat} {a O:Act} {G G':Ghost} {R:List Res} (h:τ.T s a G R) (U:j ∉ [τ.ld,τ.cl,τ.al,τ.st]) (hG:Gle G G')
  (J:∀ i v,i∈[τ.sl,τ.sc,τ.sa]→a.tmps[i]?=some v→O.tmps[i]?=some v):τ.T (upd s j) O G' R:=by
 simp only [List.mem_cons,List.not_mem_nil,or_false,not_or] at U;obtain ⟨j1,j2,j3,j4⟩:=U;obtain ⟨D,E,cs,z,I⟩:=h;unfold Thr.T;rw [upd_ne (Ne.symm j1),upd_ne (Ne.symm j2),upd_ne (Ne.symm j3),upd_ne (Ne.symm j4)];refine ⟨D,fun h=>J _ _ (by simp) (E h),cs,fun h=>⟨J _ _ (by simp) (z h).1,hd.mono _ _ _ hG (z h).2⟩,?_⟩;rcases I with h | ⟨Z,b,h5,h6⟩
 ·exact Or.inl h
 ·exact Or.inr ⟨Z,b,J _ _ (by simp) h5,h6⟩
def Sh (s:Nat→Bool) (a:Act) (G:Ghost):List Thr→List Res→Prop
 | [],R=>R=[]
 | τ::Θ,R=>∃ R1 R2,R=R1++R2∧τ.T s a G R1∧Sh s a G Θ R2
theorem Sh.frame {Kn:List Res} {w0:World} {G0:Ghost} {s:Nat→Bool} {j:Nat} {a a':Act} {G G':Ghost} (hG:Gle G G'):∀ {Θ:List Thr} {R:List Res},(∀ τ∈Θ,τ.Does P w0 G0 Kn)→(∀ τ∈Θ,j ∉ [τ.ld,τ.cl,τ.al,τ.st]) →
  (∀ τ∈Θ,∀ i v,i∈[τ.sl,τ.sc,τ.sa]→a.tmps[i]?=some v→a'.tmps[i]?=some v)→Sh s a G Θ R→Sh (upd s j) a' G' Θ R
 | [],_,_,_,_,h=>h
 | τ::Θ,R,hd,hj,ha,⟨R1,R2,h1,h2,h3⟩=>⟨R1,R2,h1,h2.frame (hd τ (by simp)) (hj τ (by simp)) hG (ha τ (by simp)),
  Sh.frame hG (fun σ h=>hd σ (by simp [h])) (fun σ h=>hj σ (by simp [h])) (fun σ h=>ha σ (by simp [h])) h3⟩
theorem Sh.step {Kn:List Res} {l:List Oper} {n:Nat} {w0:World} {G0:Ghost} {s:Nat→Bool} {a:Act} {w:World} {G:Ghost} {K:Act→World→Prop} {j:Nat} {o:Oper} (hj:l[j]?=some o) (hs:s j=false)
  (haf:∀ e∈o.after,Region.binds .any e=true→s e.on=true) (hsz:a.tmps.size=n) (hdf:a.defers=[]) (hG:Gle G0 G):∀ {Θ:List Thr} {R X:List Res},(∀ τ∈Θ,τ.Code P l n)→(∀ τ∈Θ,τ.Does P w0 G0 Kn)→Θ.Pairwise Thr.Apart →
  (∃ τ∈Θ,j=τ.ld∨j=τ.cl∨j=τ.al∨j=τ.st)→(∀ τ∈Θ,a.tmps[τ.sp]?=some (.pointer (some ⟨τ.pb,0,none⟩)))→(∀ τ∈Θ,Res.blk τ.pb τ.arg τ.bt∈X)→(∀ r∈Kn,r∈X)→Mem w0 G (R++X) w→Sh s a G Θ R →
  (∀ a' w' G' R',a'.tmps.size=n→a'.defers=[]→(∀ i v,(∀ τ∈Θ,i ∉ [τ.sl,τ.sc,τ.sa])→a.tmps[i]?=some v→a'.tmps[i]?=some v)→Gle G G'→Mem w0 G' (R'++X) w'→Sh (upd s j) a' G' Θ R'→K a' w') →
  rl P ops (fun e a w=>match e with | .normal=>K a w | e=>Q e a w) [o] a w
 | [],_,_,_,_,_,⟨τ,h,_⟩,_,_,_,_,_,_=>by cases h
 | τ::Θ,R,X,hc,hd,hap,hin,hsp,hL,hK,M,⟨R1,R2,hR,hT,hTs⟩,k=>by
  subst hR;have hap':=List.pairwise_cons.1 hap
  by_cases hjt:j∈[τ.ld,τ.cl,τ.al,τ.st]
  ·refine Thr.step (hc τ (by simp)) (hd τ (by simp)) hj (by simpa using hjt) hs haf hsz hdf (hsp τ (by simp)) (X:=R2++X) (List.mem_append_right _ (hL τ (by simp))) (fun r h=>List.mem_append_right _ (hK r h)) (by rw [← List.append_assoc];exact M) hG hT ?_;intro a' w' G' R' h1 h2 h3 h4 M' h5;refine k a' w' G' (R'++R2) h1 h2 (fun i v hi hv=>?_) h4 (by rw [List.append_assoc];exact M') ⟨R',R2,rfl,h5,?_⟩
   ·have:=hi τ (by simp);simp only [List.mem_cons,List.not_mem_nil,or_false,not_or] at this;exact h3 i v this.1 this.2.1 this.2.2 hv
   ·refine Sh.frame h4 (fun σ h=>hd σ (by simp [h])) (fun σ h=>(hap'.1 σ h).1 j hjt) (fun σ h i v hi hv=>?_) hTs;have hne:i ∉ [τ.sl,τ.sc,τ.sa]:=fun hi'=>(hap'.1 σ h).2 i hi' hi;simp only [List.mem_cons,List.not_mem_nil,or_false,not_or] at hne;exact h3 i v hne.1 hne.2.1 hne.2.2 hv
  ·have hin':∃ σ∈Θ,j=σ.ld∨j=σ.cl∨j=σ.al∨j=σ.st:=by
    obtain ⟨σ,h,h'⟩:=hin;rcases List.mem_cons.1 h with rfl | h
    ·exact absurd (by simpa using h') hjt
    ·exact ⟨σ,h,h'⟩
   refine Sh.step hj hs haf hsz hdf hG (Θ:=Θ) (R:=R2) (X:=R1++X) (fun σ h=>hc σ (by simp [h])) (fun σ h=>hd σ (by simp [h])) hap'.2 hin' (fun σ h=>hsp σ (by simp [h])) (fun σ h=>List.mem_append_right _ (hL σ (by simp [h]))) (fun r h=>List.mem_append_right _ (hK r h))
    (M.perm (by rw [← List.append_assoc];exact List.perm_append_comm.append_right X)) hTs ?_
   intro a' w' G' R' h1 h2 h3 h4 M' h5;have hkeep:∀ i v,i∈[τ.sl,τ.sc,τ.sa]→a.tmps[i]?=some v→a'.tmps[i]?=some v:=fun i v hi hv=>h3 i v (fun σ h=>(hap'.1 σ h).2 i hi) hv;refine k a' w' G' (R1++R') h1 h2 (fun i v hi hv=>h3 i v (fun σ h=>hi σ (by simp [h])) hv) h4 (M'.perm (by rw [← List.append_assoc];exact List.perm_append_comm.append_right X)) ⟨R1,R',rfl,hT.frame (hd τ (by simp)) hjt h4 hkeep,h5⟩
def AllT (p:Thr→Prop):List Thr→Prop
 | []=>True
 | τ::Θ=>p τ∧AllT p Θ
theorem AllT.is {p:Thr→Prop}:∀ {Θ:List Thr},AllT p Θ→∀ τ∈Θ,p τ
 | _::_,h,τ,hτ=>by
  rcases List.mem_cons.1 hτ with rfl | hτ
  ·exact h.1
  ·exact h.2.is τ hτ
theorem Fits.add {n:Nat} {a:Act} {e:Env} (F:Fits n a e) {d:Nat} {v:Value} (h:a.tmps[d]?=some v):Fits n a ((d,v)::e) :=
 ⟨F.size,F.defers,fun i u z=>by
  by_cases hd:d=i
  ·subst hd;rw [Dv] at z;rw [h,z]
  ·rw [Du hd] at z;exact F.slot i u z⟩
end
end Go.Y
namespace Go.V
open Go
open Go.Y (upd upd_eq upd_ne)
section
variable {P:Program} {Q:Exit→Act→World→Prop}
theorem w_invG {id:Nat} {l:List Oper} {a:Act} {w:World} (I:(Nat→Bool)→Act→World→Prop) (hm:P.follows .mixedOrders=true)
  (D:∀ j o,l[j]?=some o→∀ e∈o.after,Region.binds .any e=true→e.on < j)
  (h0:I (fun _=>false) a { w with drawn:=w.drawn+1 })
  (Z:∀ s a w j o,l[j]?=some o→s j=false→(∀ e∈o.after,Region.binds .any e=true→s e.on=true)→I s a w →
   (Region.wanted o (yielded l.toArray a.tmps)=true→o.wp P a w (fun a w=>I (upd s j) a w) Q)∧(Region.wanted o (yielded l.toArray a.tmps)=false→I (upd s j) (a.put o.dst undef) w))
  (J:∀ s a w,(∀ j,j < l.length→s j=true)→I s a w→Q .normal a w):(Code.region id l.toArray true).wp P Q a w:=by
 have E:∀ (listed:Array Bool),listed.size=l.length→Region.ready .any l.toArray listed=[]→∀ j,j < l.length→listed.getD j false=true:=by
  intro listed hs O j
  induction j using Nat.strongRecOn with
  | _ j ih =>
   intro U;cases hb:listed.getD j false with
   | true=>rfl
   | false =>
    exfalso
    have hm:j∈Region.ready .any l.toArray listed:=by
     refine mem_ready.2 ⟨?_,l[j],by simp [U],fun e he aa=>ih _ ?_ ?_⟩
     ·rw [Array.getD_eq_getD_getElem?,Array.getElem?_eq_getElem tM] at hb ⊢;exact hb
     ·exact D j l[j] (by simp [U]) e he aa
     ·have:=D j l[j] (by simp [U]) e he aa;omega
    rw [O] at hm;cases hm
 have key:∀ (n:Nat) (listed:Array Bool) (a:Act) (w:World),listed.size=l.length→Y.unl listed.toList≤n→I (fun j=>listed.getD j false) a w→wpAny P .any l.toArray Q n listed a w:=by
  intro n
  induction n with
  | zero =>
   intro listed a w hs hu hI;have O:Region.ready .any l.toArray listed=[]:=by
    cases O:Region.ready .any l.toArray listed with
    | nil=>rfl
    | cons j _ =>
     exfalso
     have U:j∈Region.ready .any l.toArray listed:=by rw [O];simp
     obtain ⟨h1,o,h2,_⟩:=mem_ready.1 U;refine Y.unl_zero listed.toList tM j ?_;have z:j < listed.size:=by
      have:=(Array.getElem?_eq_some_iff.1 h2).1;simpa [hs] using this
     rw [Array.getD_eq_getD_getElem?,Array.getElem?_eq_getElem z] at h1;rw [Array.getElem?_toList,Array.getElem?_eq_getElem z];simpa using h1
   exact ⟨O,J _ a w (E listed hs O) hI⟩
  | succ n ih =>
   intro listed a w hs hu hI;refine ⟨fun O=>J _ a w (E listed hs O) hI,fun j U=>?_⟩;obtain ⟨h1,o,h2,h3⟩:=mem_ready.1 U;have ab:l[j]?=some o:=by simpa using h2
   have z:j < listed.size:=by
    have:=(Array.getElem?_eq_some_iff.1 h2).1;simpa [hs] using this
   have hf:listed.getD j false=false:=by
    rw [Array.getD_eq_getD_getElem?,Array.getElem?_eq_getElem z] at h1 ⊢;exact h1
   have hK:∀ a' w',I (upd (fun i=>listed.getD i false) j) a' w'→wpAny P .any l.toArray Q n (listed.setIfInBounds j true) a' w':=by
    intro a' w' hk;refine ih _ a' w' (by simp [hs]) ?_ ?_
    ·rw [Array.toList_setIfInBounds];have:=Y.unl_set listed.toList j (by rw [Array.getElem?_toList];rw [Array.getD_eq_getD_getElem?,Array.getElem?_eq_getElem z] at hf;rw [Array.getElem?_eq_getElem z];simpa using hf);omega
    ·have:(fun i=>(listed.setIfInBounds j true).getD i false)=upd (fun i=>listed.getD i false) j:=by
      funext i
      by_cases hij:i=j
      ·subst hij;rw [upd_eq];simp [z]
      ·rw [upd_ne hij,getD_set_ne false (Ne.symm hij)]
     rw [this];exact hk
   obtain ⟨s1,s2⟩:=Z _ a w j o ab hf h3 hI;unfold wpOp;simp only [h2];split
   ·rename_i hw;exact .inl (Oper.wp_mono (fun a' w' hk=>hK a' w' hk) (s1 hw))
   ·rename_i hw;exact hK _ _ (s2 (by simpa using hw))
 refine wp_region_any hm (key _ _ a _ (by simp) ?_ ?_)
 ·have:∀ n,Y.unl (List.replicate n false)=n:=by
   intro n;induction n with
   | zero=>rfl
   | succ n ih=>rw [List.replicate_succ];simp [Y.unl,ih]
  rw [Array.toList_replicate,this];simp
 ·have:(fun j=>(Array.replicate l.toArray.size false).getD j false)=fun _=>false:=by
   funext j;rw [Array.getD_eq_getD_getElem?,Array.getElem?_replicate];split <;> rfl
  rw [this];exact h0
end
structure Cert (P:Program) (C:Ctx) (F:Bj) (ops:List Oper) (nx:Nat) (e0:Env) where
 v:Nat→AV
 kd:Nat→Nat
 cn:Nat→Nat
 K:Nat→H
 blk:Nat→Blk
 env:Nat→Env
 ok:Nat→Operand→Bool
 bf:Nat→Nat→Bool
 wr:Nat→Option Nat
 mg:Nat→Nat→Bool
 bl:Nat→List Nat
 m:Nat
 eE:Env
 eL:List Nat
noncomputable def Fy (nx:Nat) (blk:Nat→Blk) (m:Tr Blk):List Nat→Tr Blk
 | []=>m
 | i::l=>(Fy nx blk m l).set (nx+i) (blk i)
structure Cert.OK {P:Program} {C:Ctx} {F:Bj} {ops:List Oper} {nx:Nat} {e0:Env} (c:Cert P C F ops nx e0) (nt:Nat):Prop where
 back:∀ j o,ops[j]?=some o→∀ e∈o.after,Region.binds .any e=true→c.bf j e.on=true∧e.on < j∧∀ i,c.bf e.on i=true→c.bf j i=true
 only:∀ j o i,ops[j]?=some o→c.bf j i=true→∃ e∈o.after,Region.binds .any e=true∧(e.on=i∨c.bf e.on i=true)
 dst:∀ j o d,ops[j]?=some o→o.dst=some d→c.wr d=some j∧d < nt
 wrd:∀ d j,c.wr d=some j→∃ o,ops[j]?=some o∧o.dst=some d
 opk:∀ j o,ops[j]?=some o→Vs (c.ok j) o.op=true
 slot:∀ j o t x,ops[j]?=some o→(c.ok j (.tmp t)=true∨∃ g b,o.guard=some (g,b)∧Aob ops g=some t)→(c.env j).get t=some x→match c.wr t with
  | none=>e0.get t=some x
  | some i=>(c.bf j i=true∧x=c.v i)∨(c.bf i j=true∧e0.get t=some x)
 skip:∀ j o,ops[j]?=some o→c.kd j=3→wanted ops (c.env j) o=some false∧c.v j=.raw undef
 want:∀ j o,ops[j]?=some o→c.kd j≠3→wanted ops (c.env j) o=some true∧c.kd j≤2
 read:∀ j o q,ops[j]?=some o→c.kd j=0→q≤c.m→(∀ i,i < ops.length→c.kd i=2→(c.bf j i=true→c.cn i < q)∧(c.bf i j=true→q≤c.cn i))→Cm o.op=0∧(Cy C (c.env j) (c.K q) o.op=some (some (c.v j),c.K q)∨∃ (t:Nat) (x:Operand) (h2:H) (bl:List Nat),o.op=.load t x∧bl.Nodup∧(∀ i,i∈bl→i < ops.length∧c.kd i=1∧c.bf j i=true∧c.mg q i=false)∧En C (c.env j) ⟨Fy nx c.blk (c.K q).m bl,(c.K q).nx⟩ t x=some (some (c.v j),h2))
 alloc:∀ j o,ops[j]?=some o→c.kd j=1→Cy C (c.env j) ⟨.lf,nx+j⟩ o.op=some (some (c.v j),⟨Tr.lf.set (nx+j) (c.blk j),nx+j+1⟩)
 chain:∀ j o,ops[j]?=some o→c.kd j=2→c.cn j < c.m∧∃ r,Cu C F (c.env j) ⟨Fy nx c.blk (c.K (c.cn j)).m (c.bl j),(c.K (c.cn j)).nx⟩ o.op=some (r,c.K (c.cn j+1))∧c.v j=r.getD (.raw undef)
 order:∀ i j,i < ops.length→j < ops.length→c.kd i=2→c.kd j=2→(c.cn i < c.cn j↔i < j)∧(i < j→c.bf j i=true)
 cns:∀ q,q < c.m→∃ i,i < ops.length∧c.kd i=2∧c.cn i=q
 blN:∀ j,(c.bl j).Nodup
 blI:∀ j o,ops[j]?=some o→c.kd j=2→∀ i,i∈c.bl j↔(i < ops.length∧c.kd i=1∧c.bf j i=true∧c.mg (c.cn j) i=false)
 mgS:∀ j o,ops[j]?=some o→c.kd j=2→∀ i,c.mg (c.cn j+1) i=true↔(c.mg (c.cn j) i=true∨i∈c.bl j)
 mgB:∀ q i,q≤c.m→c.mg q i=true→∃ k,k < ops.length∧c.kd k=2∧c.cn k < q∧c.bf k i=true
 K0:(c.K 0).nx=nx+ops.length
 eE:∀ t x,c.eE.get t=some x→match c.wr t with
  | none=>e0.get t=some x
  | some i=>x=c.v i
 eN:c.eL.Nodup
 eI:∀ i,i∈c.eL↔(i < ops.length∧c.kd i=1∧c.mg c.m i=false)
def FL (ρ:Nm) (nx:Nat) (blk:Nat→Blk):List Nat→List Y.Res→Prop
 | [],l=>l=[]
 | i::is,l=>∃ r t b c,l=r::t∧ρ (nx+i)=some (b,c)∧BR ρ b c (blk i) r∧FL ρ nx blk is t
theorem FL.mono {ρ ρ':Nm} {nx:Nat} {blk:Nat→Blk} (h:Le ρ ρ'):∀ {is:List Nat} {l:List Y.Res},FL ρ nx blk is l→FL ρ' nx blk is l
 | [],l,e=>e
 | i::is,l,⟨r,t,b,c,e1,e2,e3,e4⟩=>⟨r,t,b,c,e1,h _ _ e2,e3.mono h,FL.mono h e4⟩
theorem FL.perm {ρ:Nm} {nx:Nat} {blk:Nat→Blk} {is J:List Nat} (hp:is.Perm J):∀ {l:List Y.Res},FL ρ nx blk is l→∃ l',FL ρ nx blk J l'∧l'.Perm l:=by
 induction hp with
 | nil=>intro l e;exact ⟨l,e,.refl _⟩
 | cons x _ ih =>
  rintro l ⟨r,t,b,c,rfl,z,D,e4⟩;obtain ⟨t',E,I⟩:=ih e4;exact ⟨r::t',⟨r,t',b,c,rfl,z,D,E⟩,I.cons r⟩
 | swap x y _ =>
  rintro l ⟨r,t,b,c,rfl,z,D,⟨r2,O,b2,c2,rfl,U,Z,f4⟩⟩;exact ⟨r2::r::O,⟨r2,_,b2,c2,rfl,U,Z,⟨r,O,b,c,rfl,z,D,f4⟩⟩,.swap _ _ _⟩
 | trans _ _ ih1 ih2 =>
  intro l e;obtain ⟨l1,E,I⟩:=ih1 e;obtain ⟨l2,h3,h4⟩:=ih2 E;exact ⟨l2,h3,h4.trans I⟩
theorem FL.split {ρ:Nm} {nx:Nat} {blk:Nat→Blk}:∀ {is js:List Nat} {l:List Y.Res},FL ρ nx blk (is++js) l→∃ l1 l2,l=l1++l2∧FL ρ nx blk is l1∧FL ρ nx blk js l2
 | [],js,l,e=>⟨[],l,rfl,rfl,e⟩
 | i::is,js,l,⟨r,t,b,c,e1,e2,e3,e4⟩=>by
  obtain ⟨l1,l2,h1,h2,h3⟩:=FL.split e4;exact ⟨r::l1,l2,by rw [e1,h1];rfl,⟨r,l1,b,c,rfl,e2,e3,h2⟩,h3⟩
theorem FL.mem {ρ:Nm} {nx:Nat} {blk:Nat→Blk}:∀ {is:List Nat} {l:List Y.Res},FL ρ nx blk is l→∀ i∈is,∃ r∈l,∃ b c,ρ (nx+i)=some (b,c)∧r.foot=some b
 | j::is,_,⟨r,t,b,c,e1,e2,e3,e4⟩,i,hi=>by
  subst e1;rcases List.mem_cons.1 hi with rfl | hi
  ·exact ⟨r,List.mem_cons_self,b,c,e2,e3.foot⟩
  ·obtain ⟨r',h1,h2⟩:=FL.mem e4 i hi;exact ⟨r',List.mem_cons_of_mem _ h1,h2⟩
theorem FL.view {ρ:Nm} {nx:Nat} {blk:Nat→Blk} {m:Tr Blk} {L Lr:List Y.Res} {w0 w:World} {G:Y.Ghost} (hc:Dh ρ m L):∀ {is:List Nat} {l:List Y.Res},FL ρ nx blk is l→Y.Mem w0 G (l++(L++Lr)) w→Dh ρ (Fy nx blk m is) (l++L)
 | [],l,e,M=>by rw [show l=[] from e];exact hc
 | i::is,_,⟨r,t,b,c,e1,e2,e3,e4⟩,M=>by
  subst e1;have M':Y.Mem w0 G (t++(L++Lr)) w:=M.weaken (List.sublist_cons_self _ _);have ih:=FL.view hc e4 M';refine ih.cons ?_ e2 e3;cases hg:(Fy nx blk m is).get (nx+i) with
  | none=>rfl
  | some k =>
   obtain ⟨q,r',b',c',h1,h2,h3,_⟩:=ih.at hg;rw [e2] at h2;simp only [Option.some.injEq,Prod.mk.injEq] at h2;obtain ⟨rfl,rfl⟩:=h2;have hap:=(List.pairwise_cons.1 M.apart).1 r' (by show r'∈t++(L++Lr);rw [← List.append_assoc];exact List.mem_append_left _ (List.mem_of_getElem? h1));exact absurd h3.foot (hap b e3.foot)
theorem Tc {is z:List Nat} (I:is.Nodup) (J:z.Nodup) (D:∀ i,i∈z→i∈is):is.Perm (z++is.filter fun i=>!z.contains i):=by
 refine (List.perm_ext_iff_of_nodup I ?_).2 fun i=>?_
 ·refine List.nodup_append.2 ⟨J,List.Pairwise.filter _ I,fun x U y Y=>?_⟩;intro E;subst E;have:=(List.mem_filter.1 Y).2;simp [U] at this
 ·rw [List.mem_append,List.mem_filter];constructor
  ·intro O
   by_cases h:i∈z
   ·exact Or.inl h
   ·exact Or.inr ⟨O,by simp [h]⟩
  ·rintro (h | h)
   ·exact D i h
   ·exact h.1
theorem Dh.single {ρ:Nm} {i:Nat} {k:Blk} {L:List Y.Res} (e:Dh ρ (Tr.lf.set i k) L):∃ r b c,L=[r]∧ρ i=some (b,c)∧BR ρ b c k r:=by
 have hi:(Tr.lf.set i k).get i=some k:=by rw [Tr.get_set,if_pos rfl]
 obtain ⟨q,r,b,c,E,h2,h3,_⟩:=e.at hi;obtain ⟨D,g1,I,g3,g4⟩:=e;have z:∀ p j,D[p]?=some j→j=i:=fun p j U=>by
  obtain ⟨r',O⟩:=Y.get_of_lt (xs:=L) (i:=p) (by have:=Y.lt_of_get U;omega);obtain ⟨k1,_,_,J,_⟩:=g4 p j r' U O;rw [Tr.get_set] at J
  by_cases hj:j=i
  ·exact hj
  ·rw [if_neg hj] at J;cases J
 match L,g1,E with
 | [x],g1,E =>
  have:q=0:=by have:=Y.lt_of_get E;simp at this;omega
  subst this;simp only [List.getElem?_cons_zero,Option.some.injEq] at E;subst E;exact ⟨_,b,c,rfl,h2,h3⟩
 | x::y::L,g1,E =>
  exfalso
  match D,g1,I,z with
  | p::p'::D,g1,I,z =>
   have Z:=z 0 p rfl;have e2:=z 1 p' rfl;rw [Z,e2] at I;simp at I
section
variable {ds:List Deferred} {P:Program} {C:Ctx} {F:Bj} {w w0:World} {G:Y.Ghost} {Lf:List Y.Res} {ρ0:Nm} {a:Act} {nt nx:Nat} {Q:Exit→Act→World→Prop} {ops:List Oper} {e0:Env} {c:Cert P C F ops nx e0}
structure DI (c:Cert P C F ops nx e0) (ds:List Deferred) (nt:Nat) (w0:World) (G:Y.Ghost) (Lf:List Y.Res) (ρ0:Nm) (s:Nat→Bool) (a:Act) (w:World) (q:Nat) (ρ:Nm) (L:List Y.Res) (is:List Nat) (LF:List Y.Res):Prop where
 size:a.tmps.size=nt
 defers:a.defers=ds
 old:∀ t x,(∀ i,c.wr t=some i→s i=false)→e0.get t=some x→∃ v,a.tmps[t]?=some v∧VR ρ x v
 new:∀ t i,c.wr t=some i→s i=true→∃ v,a.tmps[t]?=some v∧VR ρ (c.v i) v
 clos:∀ i j,i < ops.length→s i=true→c.bf i j=true→s j=true
 qm:q≤c.m
 pre:∀ i,i < ops.length→c.kd i=2→(s i=true↔c.cn i < q)
 corr:Dh ρ (c.K q).m L
 nd:is.Nodup
 mem:∀ i,i∈is↔(i < ops.length∧c.kd i=1∧s i=true∧c.mg q i=false)
 fl:FL ρ nx c.blk is LF
 M:Y.Mem w0 G (L++(LF++Lf)) w
 fresh:Bt ρ (c.K q).nx
 big:nx+ops.length≤(c.K q).nx
 free:∀ i,i < ops.length→c.kd i=1→s i=false→ρ (nx+i)=none
 low:∀ i,i < nx→ρ i=ρ0 i
def DE (c:Cert P C F ops nx e0) (ds:List Deferred) (nt:Nat) (w0:World) (G:Y.Ghost) (Lf:List Y.Res) (ρ0:Nm) (s:Nat→Bool) (a:Act) (w:World):Prop:=∃ q ρ L is LF,DI c ds nt w0 G Lf ρ0 s a w q ρ L is LF
variable {s:Nat→Bool} {q:Nat} {ρ:Nm} {L:List Y.Res} {is:List Nat} {LF:List Y.Res} {j:Nat} {o:Oper}
theorem DI.put (O:c.OK nt) (D:DI c ds nt w0 G Lf ρ0 s a w q ρ L is LF) (U:ops[j]?=some o) (hs:s j=false) (hb:∀ i,c.bf j i=true→s i=true) {ρ':Nm} {u:Value} {w':World} {J:Nat} {L':List Y.Res} {is':List Nat} {LF':List Y.Res}
  (hl:Le ρ ρ') (hu:VR ρ' (c.v j) u) (h1:J≤c.m) (h2:∀ i,i < ops.length→c.kd i=2→(upd s j i=true↔c.cn i < J)) (h3:Dh ρ' (c.K J).m L') (h4:is'.Nodup)
  (h5:∀ i,i∈is'↔(i < ops.length∧c.kd i=1∧upd s j i=true∧c.mg J i=false)) (h6:FL ρ' nx c.blk is' LF') (h7:Y.Mem w0 G (L'++(LF'++Lf)) w') (h8:Bt ρ' (c.K J).nx) (h9:nx+ops.length≤(c.K J).nx)
  (ab:∀ i,i < ops.length→c.kd i=1→upd s j i=false→ρ' (nx+i)=none) (ac:∀ i,i < nx→ρ' i=ρ i):DE c ds nt w0 G Lf ρ0 (upd s j) (a.put o.dst u) w':=by
 have ae:=Y.lt_of_get U;have ne:∀ t,o.dst≠some t→(a.put o.dst u).tmps[t]?=a.tmps[t]?:=fun t E=>by
  cases hd:o.dst with
  | none=>rfl
  | some d =>
   rw [Acs (by rw [D.size];exact (O.dst j o d U hd).2),if_neg (fun e=>E (by rw [hd,e]))]
 refine ⟨J,ρ',L',is',LF',⟨?_,?_,fun t x E hx=>?_,fun t i E z=>?_,fun i k z aa Z=>?_,h1,h2,h3,h4,h5,h6,h7,h8,h9,ab,fun i z=>(ac i z).trans (D.low i z)⟩⟩
 ·cases hd:o.dst <;> simp [Act.put,D.size]
 ·cases hd:o.dst <;> simp [Act.put,D.defers]
 ·by_cases hd:o.dst=some t
  ·have:=E j (O.dst j o t U hd).1;rw [upd_eq] at this;cases this
  ·obtain ⟨v,e1,e2⟩:=D.old t x (fun i z=>by
    have:=E i z
    by_cases hij:i=j
    ·subst hij;rw [upd_eq] at this;cases this
    ·rwa [upd_ne hij] at this) hx
   exact ⟨v,by rw [ne t hd];exact e1,VR.mono hl _ _ e2⟩
 ·by_cases hij:i=j
  ·subst hij;obtain ⟨o',I,hd⟩:=O.wrd t i E;rw [U] at I;simp only [Option.some.injEq] at I;subst I;exact ⟨u,by rw [hd,Acs (by rw [D.size];exact (O.dst i o t U hd).2),if_pos rfl],hu⟩
  ·rw [upd_ne hij] at z;obtain ⟨v,e1,e2⟩:=D.new t i E z;refine ⟨v,?_,VR.mono hl _ _ e2⟩;rw [ne t (fun hd=>hij (by have:=(O.dst j o t U hd).1;rw [E] at this;simpa using this))];exact e1
 ·by_cases hij:i=j
  ·subst hij
   by_cases hk:k=i
   ·rw [hk,upd_eq]
   ·rw [upd_ne hk];exact hb k Z
  ·rw [upd_ne hij] at aa;have:=D.clos i k z aa Z
   by_cases hk:k=j
   ·rw [hk,upd_eq]
   ·rw [upd_ne hk];exact this
theorem DI.step (hC:COK P C) (hF:Cx P w0 G F) (O:c.OK nt) (D:DI c ds nt w0 G Lf ρ0 s a w q ρ L is LF) (hj:ops[j]?=some o) (hs:s j=false) (ao:∀ e∈o.after,Region.binds .any e=true→s e.on=true) :
  (Region.wanted o (yielded ops.toArray a.tmps)=true→o.wp P a w (fun a w=>DE c ds nt w0 G Lf ρ0 (upd s j) a w) Q)∧(Region.wanted o (yielded ops.toArray a.tmps)=false→DE c ds nt w0 G Lf ρ0 (upd s j) (a.put o.dst undef) w):=by
 have ae:=Y.lt_of_get hj;have hb:∀ i,c.bf j i=true→s i=true:=fun i z=>by
  obtain ⟨e,he,ah,h⟩:=O.only j o i hj z;have I:=ao e he ah;rcases h with h | h
  ·rw [← h];exact I
  ·exact D.clos e.on i (by have:=(O.back j o hj e he ah).2.1;omega) I h
 have af:∀ i,i < ops.length→c.bf i j=true→s i=false:=fun i z ap=>by
  cases h:s i with
  | false=>rfl
  | true=>have:=D.clos i j z h ap;rw [hs] at this;cases this
 have ag:∀ t x,(c.ok j (.tmp t)=true∨∃ g b,o.guard=some (g,b)∧Aob ops g=some t)→(c.env j).get t=some x→∃ v,a.tmps[t]?=some v∧VR ρ x v:=fun t x ht hx=>by
  have:=O.slot j o t x hj ht hx;split at this
  ·rename_i hw;exact D.old t x (fun i z=>by rw [hw] at z;cases z) this
  ·rename_i i hw;rcases this with ⟨I,rfl⟩ | ⟨I,J⟩
   ·exact D.new t i hw (hb i I)
   ·refine D.old t x (fun i' ab=>?_) J;rw [hw] at ab;simp only [Option.some.injEq] at ab;subst ab;obtain ⟨o',au,_⟩:=O.wrd t i hw;exact af i (Y.lt_of_get au) I
 have X:XR ρ (c.ok j) (c.env j) a.eval:=ev_ok fun t x I J=>ag t x (Or.inl I) J;have hW:∀ b,wanted ops (c.env j) o=some b→Region.wanted o (yielded ops.toArray a.tmps)=b:=fun b h=>M0 (fun g b' d x I J h3=>ag d x (Or.inr ⟨g,b',I,J⟩) h3) h;have same:∀ {u:Value} {w':World} {L':List Y.Res},c.kd j≠2→c.kd j≠1→Dh ρ (c.K q).m L'→Y.Mem w0 G (L'++(LF++Lf)) w'→VR ρ (c.v j) u→DE c ds nt w0 G Lf ρ0 (upd s j) (a.put o.dst u) w':=by
  intro u w' L' k2 k1 hc M hu;refine D.put O hj hs hb (Le.refl _) hu D.qm (fun i z U=>?_) hc D.nd (fun i=>?_) D.fl M D.fresh D.big (fun i z U Z=>?_) (fun _ _=>rfl)
  ·rw [upd_ne (fun e=>k2 (by rw [← e];exact U))];exact D.pre i z U
  ·rw [D.mem];constructor
   ·rintro ⟨I,J,h3,h4⟩;exact ⟨I,J,by rw [upd_ne (fun e=>k1 (by rw [← e];exact J))];exact h3,h4⟩
   ·rintro ⟨I,J,h3,h4⟩;rw [upd_ne (fun e=>k1 (by rw [← e];exact J))] at h3;exact ⟨I,J,h3,h4⟩
  ·rw [upd_ne (fun e=>k1 (by rw [← e];exact U))] at Z;exact D.free i z U Z
 by_cases k3:c.kd j=3
 ·obtain ⟨I,J⟩:=O.skip j o hj k3;have I:=hW _ I;exact ⟨fun h=>by rw [I] at h;(cases h),fun _=>same tM tM D.corr D.M (by rw [J];exact Py)⟩
 obtain ⟨I,aw⟩:=O.want j o hj k3;have I:=hW _ I;refine ⟨fun _=>?_,fun h=>by rw [I] at h;(cases h)⟩;have aa:=O.opk j o hj;rcases (show c.kd j=0∨c.kd j=1∨c.kd j=2 by omega) with k0 | k1 | k2
 ·-- it reads
  obtain ⟨r1,r2⟩:=O.read j o q hj k0 D.qm (fun i z U=>⟨fun h=>(D.pre i z U).1 (hb i h),fun h=>by
   have:=af i z h;rcases Nat.lt_or_ge (c.cn i) q with hl | hl
   ·rw [(D.pre i z U).2 hl] at this;cases this
   ·exact hl⟩)
  rcases r2 with r2 | ⟨t,x,J,bl,ho,bn,bi,r2⟩
  ·have E:HR ρ w0 G (LF++Lf) (c.K q) w:=⟨L,D.corr,D.M⟩;obtain ⟨_,h3⟩:=Yq hC X aa E r2;obtain ⟨ρ',av,w',q1,q2,q3,q4,u,q5,q6⟩:=h3 (fun i z ab=>absurd ab tM) o.dst o.type o.pos o.after o.guard;rw [Oper.eta] at q1;have hρ:ρ' = ρ:=funext fun i=>q3 i tM;subst hρ;obtain ⟨L',q7,q8⟩:=q4;unfold Oper.wp;rw [q1];subst q5;exact same tM tM q7 q8 q6
  ·have ac:is.Perm (bl++is.filter fun i=>!bl.contains i):=Tc D.nd bn fun i z=>by
    obtain ⟨g1,g2,g3,g4⟩:=bi i z;exact (D.mem i).2 ⟨g1,g2,hb i g3,g4⟩
   obtain ⟨am,f1,f2⟩:=D.fl.perm ac;obtain ⟨LB,LR,an,f3,f4⟩:=f1.split;have M1:Y.Mem w0 G (LB++(L++(LR++Lf))) w:=D.M.perm (by
    rw [an] at f2;refine ((f2.symm.append_right Lf).append_left L).trans ?_;rw [List.append_assoc,← List.append_assoc,← List.append_assoc LB];exact List.perm_append_comm.append_right _)
   have E:HR ρ w0 G (LR++Lf) ⟨Fy nx c.blk (c.K q).m bl,(c.K q).nx⟩ w:=⟨LB++L,FL.view D.corr f3 M1,by rw [List.append_assoc];exact M1⟩;have aq:c.ok j x=true:=by rw [ho] at aa;exact aa
   obtain ⟨_,v,u,q5,q6,q7⟩:=Ahd (P:=P) hC X aq E r2;have q1:=q7 o.dst o.type o.pos o.after o.guard;rw [← ho,Oper.eta] at q1;unfold Oper.wp;rw [q1];cases q5;exact same tM tM D.corr D.M q6
 ·-- it allocates
  have r2:=O.alloc j o hj k1;have E:HR ρ w0 G (L++(LF++Lf)) ⟨.lf,nx+j⟩ w:=⟨[],Dh.lf,D.M⟩;obtain ⟨_,h3⟩:=Yq hC X aa E r2;obtain ⟨ρ',av,w',q1,q2,q3,⟨L1,q7,q8⟩,u,q5,q6⟩:=h3 (fun i z ab=>by have h9:i=nx+j:=(by simp only at z ab;omega);rw [h9];exact D.free j ae k1 hs) o.dst o.type o.pos o.after o.guard;rw [Oper.eta] at q1;simp only at q3;obtain ⟨r,b,cc,rfl,p1,p2⟩:=Dh.single q7;unfold Oper.wp;rw [q1];subst q5;have ar:c.mg q j=false:=by
   cases h:c.mg q j with
   | false=>rfl
   | true =>
    obtain ⟨k,g1,g2,g3,g4⟩:=O.mgB q j D.qm h;have:=D.clos k j g1 ((D.pre k g1 g2).2 g3) g4;rw [hs] at this;cases this
  refine D.put O hj hs hb q2 q6 D.qm (fun i z U=>?_) (D.corr.mono q2) (is':=j::is) (LF':=r::LF) (List.nodup_cons.2 ⟨fun h=>(by have:=((D.mem j).1 h).2.2.1;rw [hs] at this;cases this),D.nd⟩) (fun i=>?_)
   ⟨r,LF,b,cc,rfl,p1,p2,D.fl.mono q2⟩ (q8.perm ?_) (fun i z=>?_) D.big (fun i z U Z=>?_) (fun i z=>q3 i (Or.inl tM))
  ·rw [upd_ne (fun e=>by rw [e,k1] at U;cases U)];exact D.pre i z U
  ·rw [List.mem_cons,D.mem];constructor
   ·rintro (rfl | ⟨I,J,h3,h4⟩)
    ·exact ⟨ae,k1,upd_eq,ar⟩
    ·refine ⟨I,J,?_,h4⟩
     by_cases hij:i=j
     ·rw [hij,upd_eq]
     ·rw [upd_ne hij];exact h3
   ·rintro ⟨I,J,h3,h4⟩
    by_cases hij:i=j
    ·exact Or.inl hij
    ·rw [upd_ne hij] at h3;exact Or.inr ⟨I,J,h3,h4⟩
  ·exact (List.perm_middle (l₁:=L) (l₂:=LF++Lf) (a:=r)).symm
  ·rw [q3 i (Or.inr (by have:=D.big;omega))];exact D.fresh i z
  ·by_cases hij:i=j
   ·rw [hij,upd_eq] at Z;cases Z
   ·rw [upd_ne hij] at Z;rw [q3 (nx+i) tM];exact D.free i z U Z
 ·-- it changes what is there
  obtain ⟨hm,r,r2,r3⟩:=O.chain j o hj k2;have hq:q=c.cn j:=by
   have h4:¬ c.cn j < q:=fun h=>by have:=(D.pre j ae k2).2 h;rw [hs] at this;cases this
   rcases Nat.lt_or_ge q (c.cn j) with h5 | h5
   ·obtain ⟨i,g1,g2,g3⟩:=O.cns q tM;have g4:=O.order i j g1 ae g2 k2;have g5:=(D.pre i g1 g2).1 (hb i (g4.2 (g4.1.1 tM)));omega
   ·omega
  subst hq;have ak:∀ i,i∈c.bl j→i∈is:=fun i z=>by
   obtain ⟨g1,g2,g3,g4⟩:=(O.blI j o hj k2 i).1 z;exact (D.mem i).2 ⟨g1,g2,hb i g3,g4⟩
  have ac:is.Perm (c.bl j++is.filter fun i=>!(c.bl j).contains i):=Tc D.nd (O.blN j) ak;obtain ⟨am,f1,f2⟩:=D.fl.perm ac;obtain ⟨LB,LR,rfl,f3,f4⟩:=f1.split;have M1:Y.Mem w0 G (LB++(L++(LR++Lf))) w:=D.M.perm (by
   refine ((f2.symm.append_right Lf).append_left L).trans ?_;rw [List.append_assoc,← List.append_assoc,← List.append_assoc LB];exact List.perm_append_comm.append_right _)
  have E:HR ρ w0 G (LR++Lf) ⟨Fy nx c.blk (c.K (c.cn j)).m (c.bl j),(c.K (c.cn j)).nx⟩ w:=⟨LB++L,FL.view D.corr f3 M1,by rw [List.append_assoc];exact M1⟩;refine U6 hC hF X aa E D.fresh r2 fun ρ' u w' g1 ⟨L',g2,g3⟩ g4=>?_;have ai:=g1.le D.fresh;refine D.put O hj hs hb ai (by rw [r3];exact g4) hm (fun i z U=>?_) g2 (List.Pairwise.filter _ D.nd) (fun i=>?_) (f4.mono ai) g3 g1.2.2 (Nat.le_trans D.big g1.1) (fun i z U Z=>?_) (fun i z=>g1.2.1 i (by have:=D.big;simp only;omega))
  ·by_cases hij:i=j
   ·subst hij;rw [upd_eq];simp
   ·rw [upd_ne hij,D.pre i z U];have h4:=O.order i j z ae U k2;have h5:=O.order j i ae z k2 U;constructor
    ·intro h;omega
    ·intro h;rcases Nat.lt_or_ge (c.cn i) (c.cn j) with h6 | h6
     ·exact h6
     ·have:c.cn i=c.cn j:=tM;rcases Nat.lt_trichotomy i j with h7 | h7 | h7
      ·have:=h4.1.2 h7;omega
      ·exact absurd h7 hij
      ·have:=h5.1.2 h7;omega
  ·rw [List.mem_filter,D.mem];have aj:=O.mgS j o hj k2 i;constructor
   ·rintro ⟨⟨I,J,h3,h4⟩,h5⟩;refine ⟨I,J,by rw [upd_ne (fun e=>by rw [e,k2] at J;cases J)];exact h3,?_⟩;cases h6:c.mg (c.cn j+1) i with
    | false=>rfl
    | true =>
     rcases aj.1 h6 with h7 | h7
     ·rw [h4] at h7;cases h7
     ·simp [h7] at h5
   ·rintro ⟨I,J,h3,h4⟩;rw [upd_ne (fun e=>by rw [e,k2] at J;cases J)] at h3;have h7:¬ (c.mg (c.cn j) i=true∨i∈c.bl j):=fun h=>by rw [aj.2 h] at h4;cases h4
    refine ⟨⟨I,J,h3,?_⟩,?_⟩
    ·cases h8:c.mg (c.cn j) i with
     | false=>rfl
     | true=>exact absurd (Or.inl h8) h7
    ·simp only [List.contains_eq_mem,Bool.not_eq_true',decide_eq_false_iff_not];exact fun h=>h7 (Or.inr h)
  ·rw [upd_ne (fun e=>by rw [e,k2] at U;cases U)] at Z;rw [g1.2.1 (nx+i) (by have:=D.big;simp only;omega)];exact D.free i z U Z
theorem draw_ok (hC:COK P C) (hF:Cx P w0 G F) (hm:P.follows .mixedOrders=true) (O:c.OK nt) {id:Nat} {h0:H} (hK:(c.K 0).m=h0.m) (ae:h0.nx=nx) (A:FR ds ρ0 nt e0 a) (E:HR ρ0 w0 G Lf h0 w) (hn:Bt ρ0 nx)
  (k:∀ ρ' a' w',Aft ρ0 ρ' nx (c.K c.m).nx→FR ds ρ' nt c.eE a'→HR ρ' w0 G Lf ⟨Fy nx c.blk (c.K c.m).m c.eL,(c.K c.m).nx⟩ w'→Q .normal a' w'):(Code.region id ops.toArray true).wp P Q a w:=by
 refine w_invG (fun s a w=>DE c ds nt w0 G Lf ρ0 s a w) hm (fun j o hj e he ab=>(O.back j o hj e he ab).2.1) ?_ (fun s a w j o hj hs aa ⟨q,ρ,L,is,LF,D⟩=>D.step hC hF O hj hs aa) (fun s a w z ⟨q,ρ,L,is,LF,D⟩=>?_)
 ·obtain ⟨L,hc,M⟩:=E;refine ⟨0,ρ0,L,[],[],⟨A.1,A.2.1,fun t x _ hx=>A.2.2 t x hx,fun t i _ I=>by (cases I),fun i j _ I _=>by (cases I),Nat.zero_le _,fun i _ _=>⟨fun h=>by (cases h),fun h=>by omega⟩,by rw [hK];exact hc,List.nodup_nil,fun i=>⟨fun h=>by (cases h),fun h=>by (cases h.2.2.1)⟩,rfl,M.drew _,fun i I=>hn i (by rw [O.K0] at I;omega),by rw [O.K0];exact Nat.le_refl _,fun i _ _ _=>hn _ tM,fun _ _=>rfl⟩⟩
 ·have hq:q=c.m:=by
   rcases Nat.lt_or_ge q c.m with h | h
   ·obtain ⟨i,g1,g2,g3⟩:=O.cns q h;have:=(D.pre i g1 g2).1 (z i g1);omega
   ·have:=D.qm;omega
  subst hq;have J:is.Perm c.eL:=(List.perm_ext_iff_of_nodup D.nd O.eN).2 fun i=>by
   rw [D.mem,O.eI];exact ⟨fun ⟨Z,h2,_,h4⟩=>⟨Z,h2,h4⟩,fun ⟨Z,h2,h4⟩=>⟨Z,h2,z i Z,h4⟩⟩
  obtain ⟨U,f1,f2⟩:=D.fl.perm J;have M1:Y.Mem w0 G (U++(L++Lf)) w:=D.M.perm (by
   refine ((f2.symm.append_right Lf).append_left L).trans ?_;rw [← List.append_assoc,← List.append_assoc];exact List.perm_append_comm.append_right _)
  refine k ρ a w ⟨by have:=D.big;omega,D.low,D.fresh⟩ ⟨D.size,D.defers,fun t x hx=>?_⟩ ⟨U++L,FL.view D.corr f1 M1,by rw [List.append_assoc];exact M1⟩;have:=O.eE t x hx;split at this
  ·rename_i hw;exact D.old t x (fun i I=>by rw [hw] at I;cases I) this
  ·rename_i i hw;subst this;obtain ⟨o',ac,_⟩:=O.wrd t i hw;exact D.new t i hw (z i (Y.lt_of_get ac))
end
end Go.V
