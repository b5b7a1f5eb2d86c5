/- Own lemmas. -/
import Derived.Test.YtinhmakomfennaaGreatJ4
import Derived.Test.YtinhmakomfennaaGreatJ14
import Derived.Test.YtinhmakomfennaaGreatJ13
set_option linter.unusedSimpArgs false
set_option linter.unusedVariables false
set_option linter.unusedSectionVars false
namespace Go.Proofs.YtinhmakomfennaaGreat
open Go Go.Y Go.Proofs
def ti41:TI:=⟨.slice 9,1,24,.slice none 0 0⟩
theorem Ci:TOK Tryz.prog 41 ti41:=⟨kR,kR,kR⟩
def ti309:TI:=⟨.iface,1,16,.nilIface⟩
theorem Aqz:TOK Tryz.prog 309 ti309:=⟨kR,kR,kR⟩
def ti311:TI:=⟨.struct [(0,3,307),(3,1,309),(4,1,41)],5,56,.agg #[.int .u32 0,.int .i32 0,.int .u32 0,.nilIface,.slice none 0 0]⟩
theorem Lm:TOK Tryz.prog 311 ti311:=⟨kR,kR,kR⟩
def ti336:TI:=⟨.array 256 22,256,6144,.agg (List.replicate 256 (.slice none 0 0)).toArray⟩
theorem P7:TOK Tryz.prog 336 ti336:=⟨kR,kR,kR⟩
def Arb:TI:=⟨.struct [(0,256,336),(256,1,41)],257,6168,.agg (Gy (.slice none 0 0)).toArray⟩
theorem Eu:TOK Tryz.prog 338 Arb:=⟨kR,kR,kR⟩
def ti339:TI:=⟨.ptr 338,1,8,.pointer none⟩
theorem tok339:TOK Tryz.prog 339 ti339:=⟨kR,kR,kR⟩
theorem ent186:Ent Tryz.prog 186:=.mk' Tryz.func186 kR kR
theorem ent187:Ent Tryz.prog 187:=.mk' Tryz.func187 kR kR
theorem ent213:Ent Tryz.prog 213:=.mk' Tryz.func213 kR kR
theorem ent228:Ent Tryz.prog 228:=.mk' Tryz.func228 kR kR
theorem ent293:Ent Tryz.prog 293:=.mk' Tryz.func293 kR kR
def Vd:List (List UInt8):=[[92],[92,92],[34],[92,34]]
theorem Zw {G:Ghost}:Els rdStr 1 G [.string (str ([92]:List UInt8)),.string (str ([92,92]:List UInt8)),.string (str ([34]:List UInt8)),.string (str ([92,34]:List UInt8))] Vd :=
 Els.cons (c:=[_]) ⟨rfl,tD⟩ rfl (Els.cons (c:=[_]) ⟨rfl,tD⟩ rfl (Els.cons (c:=[_]) ⟨rfl,tD⟩ rfl (Els.one ⟨rfl,tD⟩ rfl)))
theorem Aag {w0 w:World} {G:Ghost} {L:List Res} {O:Option Addr} {rc:Nat} (M:Mem w0 G (.row (.slice (O) 4 (rc)) 4 ([.string (str ([92]:List UInt8)),.string (str ([92,92]:List UInt8)),.string (str ([34]:List UInt8)),.string (str ([92,34]:List UInt8))]) 9 1::L) w):Calls Tryz.prog 186 #[.slice (O) 4 (rc)] w
  (RetL w0 G fun U v=>∃ b a c,v=.pointer (some ⟨b,0,none⟩)∧U = .blk b [.int .u32 0,.int .i32 0,.int .u32 0,.nilIface,.slice (a) 4 (c)] 311::.row (.slice (a) 4 (c)) 4 ([.string (str ([92]:List UInt8)),.string (str ([92,92]:List UInt8)),.string (str ([34]:List UInt8)),.string (str ([92,34]:List UInt8))]) 9 1::L):=by
 refine Bf (vs:=[_]) Tryz.func186 rfl (n:=12) rfl rfl ?_;intro a F;refine wp_seq<|Ar<|Aa F (run_assign (F.ev rfl)) rfl fun a F=>?_
 refine Ak<|Ay ?_
 iterate 2 (refine wp_seq ?_)
 refine Ar<|Aa F (run_move (F.ev rfl)) rfl fun a F=>?_
 refine Aa F (Bu Ci.k (F.ev rfl)) rfl fun a F=>?_;refine Aa F (Aue (F.ev rfl) (F.ev rfl) tM tM) rfl fun a F=>?_;refine Aa F (run_eqi (F.ev rfl) (F.ev rfl)) rfl fun a F=>?_;refine Ak<|Ay<|C8 F rfl (decide_eq_false tD) ?_
 refine wp_skip<|Ay<|wp_seq<|Ar<|Aa F (run_move (F.ev rfl)) rfl fun a F=>?_
 have M:=M.nilrow 9 1;refine Hq F M (k:=0) (k2:=1) rfl rfl Ci.k Cs rfl rfl tD rfl rfl (by show _ * 16≤_;(try simp only [List.length_drop,List.length_take,List.length_append,List.length_cons,List.length_nil]);omega) tO rfl ?_;clear F M a;intro Y w a M F;obtain ⟨z,D,rfl,I,E,J⟩:=M.row_shape (k:=0) rfl;refine Aa F (run_buildS (cs:=[.int .u32 0,.int .i32 0,.int .u32 0,.nilIface,.slice (z) (0+4) (D)]) (ps:=[(2,.slice (z) (0+4) (D))]) Lm.k rfl Lm (F.evp rfl) rfl) rfl fun a F=>?_;refine Aus F M rfl (cs:=[.int .u32 0,.int .i32 0,.int .u32 0,.nilIface,.slice (z) (0+4) (D)]) rfl rfl ?_;clear F M a;intro b2 w a M F;refine Aa F (run_assign (F.ev rfl)) rfl fun a F=>?_;refine Ak<|Ay<|wp_ret<|O7 F rfl rfl ?_
 replace M:=M.perm (perm_front _ 1 _ rfl);replace M:=M.perm (perm_front _ 1 _ rfl);change Mem w0 G (_::_::_::L) _ at M;exact ⟨_,M.weaken (.cons_cons _ (.cons_cons _ (.cons _ (List.Sublist.refl _)))),_,_,_,rfl,rfl⟩
theorem Jf (v:Value):(Gy v).length=257:=(Afi v).len
theorem Ari {u v:Value} (h:u∈Gy v):u=.slice none 0 0∨u=v:=by
 unfold Gy at h;rcases List.mem_append.1 h with h | h
 ·exact Or.inl (List.eq_of_mem_replicate h)
 ·exact Or.inr (List.mem_singleton.1 h)
theorem Ajz (v:Value):(Gy v)[256]?=some v:=by
 unfold Gy;rw [List.getElem?_append_right (by rw [List.length_replicate];exact Nat.le_refl _),List.length_replicate];rfl
theorem Z5:∀ (us pre cs:List Value),cs.length=us.length→over (pre++cs) pre.length us=pre++us
 | [],pre,cs,h=>by rw [List.eq_nil_of_length_eq_zero h];simp [over]
 | u::us,pre,[],h=>by simp at h
 | u::us,pre,c::cs,h=>by
  have h1:(pre++c::cs).set pre.length u=(pre++[u])++cs:=by simp
  have h2:=Z5 us (pre++[u]) cs (by simpa using h);rw [over,h1];simpa using h2
theorem Avf {cs us:List Value} (h:cs.length=us.length):over cs 0 us=us:=Z5 us [] cs h
theorem Ajy:Arb.zero.cells=(Gy (.slice none 0 0)).toArray:=kR
theorem Aka {a:Option Addr} {n c:Nat}:Instr.fill (fun j=>([(0,256),(256,1)]:List (Nat × Nat))[j]?) Arb.zero.cells [(1,.slice a n c)]=some (Gy (.slice a n c)).toArray:=kR
set_option maxHeartbeats 2000000 in
theorem Zx {w0 w:World} {G:Ghost} {L:List Res} {b:Nat} {ra:Option Addr} {rc:Nat} {rv sv:Value} {dn lk:Int} (M:Mem w0 G (.blk b [.int .u32 (dn),.int .i32 (lk),sv,rv,.slice (ra) 4 (rc)] 311::.row (.slice (ra) 4 (rc)) 4 ([.string (str ([92]:List UInt8)),.string (str ([92,92]:List UInt8)),.string (str ([34]:List UInt8)),.string (str ([92,34]:List UInt8))]) 9 1::L) w):Calls Tryz.prog 228 #[.pointer (some ⟨b,0,none⟩)] w
  (RetL w0 G fun L' v=>∃ bb cs ta tc,TabIs cs [92,34]∧cs[256]?=some (.slice ta 2 tc)∧v=.iface 339 (.pointer (some ⟨bb,0,none⟩))∧L' = .blk bb cs 338::.blk b [.int .u32 (dn),.int .i32 (lk),sv,rv,.slice (ra) 4 (rc)] 311::.row (.slice (ra) 4 (rc)) 4 ([.string (str ([92]:List UInt8)),.string (str ([92,92]:List UInt8)),.string (str ([34]:List UInt8)),.string (str ([92,34]:List UInt8))]) 9 1::L):=by
 refine Bf (vs:=[_]) Tryz.func228 rfl (n:=132) rfl rfl ?_;intro a F;refine wp_seq<|Ar<|Aa F (run_assign (F.ev rfl)) rfl fun a F=>?_
 refine Ak<|Ay<|wp_seq<|Ar<|Aa F (run_move (F.ev rfl)) rfl fun a F=>?_
 refine Aa F (run_nilCheck (F.ev rfl)) rfl fun a F=>?_;refine Aa F (run_fieldAddr Lm.k rfl rfl (F.ev rfl)) rfl fun a F=>?_;refine Aa F (run_load1 (agf Ci rfl) (F.ev rfl) (M.cellL (k:=0) rfl rfl)) rfl fun a F=>?_;refine Aa F (run_assign (F.ev rfl)) rfl fun a F=>?_;refine Ak<|Ay ?_
 iterate 2 (refine wp_seq ?_)
 refine Ar<|Aa F (run_move (F.ev rfl)) rfl fun a F=>?_
 refine Aa F (Bu Ci.k (F.ev rfl)) rfl fun a F=>?_;refine Aa F (run_eqi (F.ev rfl) (F.ev rfl)) rfl fun a F=>?_;refine Aa F (run_move (F.ev rfl)) rfl fun a F=>?_
 iterate 5 (refine Ik F rfl rfl rfl (decide_eq_false tD) ?_;clear F a;intro a F)
 refine Aa F (run_pick_f (F.ev rfl) (decide_eq_false tD) (F.ev rfl)) rfl fun a F=>?_;refine Ak<|Ay<|C8 F rfl rfl ?_
 refine wp_skip<|Ay<|wp_seq<|Ar<|Aa F (run_assign (F.ev rfl)) rfl fun a F=>?_
 refine Ak<|Ay ?_
 iterate 2 (refine wp_seq ?_)
 refine Ar<|Aa F (run_assign (F.ev rfl)) rfl fun a F=>?_
 refine Ak<|Ay<|wp_block<|Y9 3 ?_
 iterate 2 (refine wp_seq ?_)
 refine Ar ?_
 iterate 2 (refine Aa F (run_move (F.ev rfl)) rfl fun a F=>?_)
 refine Aa F (Bu Ci.k (F.ev rfl)) rfl fun a F=>?_;refine Aa F (run_lss (F.ev rfl) (F.ev rfl)) rfl fun a F=>?_;refine Ak<|Ay<|Dk F rfl (decide_eq_true tD) ?_
 refine wp_skip<|Ay<|wp_seq<|wp_block ?_
 iterate 2 (refine wp_seq ?_)
 refine Ar ?_
 iterate 2 (refine Aa F (run_move (F.ev rfl)) rfl fun a F=>?_)
 obtain ⟨bw,_,aG,bq,_,aA,⟨rfl,aW⟩⟩:=M.atRow (k:=1) rfl tD Zw (rfl:Vd[0]?=some ([92]:List UInt8));refine Aa F (C0 Ci.k Cs (F.ev rfl) (F.ev rfl) tM aG) rfl fun a F=>?_;refine Aa F (run_load1 (agf Cs rfl) (F.ev rfl) (Ot aA 0 tM rfl)) rfl fun a F=>?_;refine Aa F (Ct Cs.k (F.ev rfl)) rfl fun a F=>?_;refine Aa F (run_nei (F.ev rfl) (F.ev rfl)) rfl fun a F=>?_;refine Ak<|Ay<|C8 F rfl (Aae (decide_eq_true tD)) ?_
 refine wp_skip<|Ay<|wp_seq<|Ar ?_
 iterate 2 (refine Aa F (run_move (F.ev rfl)) rfl fun a F=>?_)
 refine Aa F (run_addi (F.ev rfl) (F.ev rfl) (in_i64 tM tM)) rfl fun a F=>?_;obtain ⟨bx,_,aH,br,_,aB,⟨rfl,aX⟩⟩:=M.atRow (k:=1) rfl tD Zw (rfl:Vd[1]?=some ([92,92]:List UInt8));refine Aa F (C0 Ci.k Cs (F.ev rfl) (F.ev rfl) tM aH) rfl fun a F=>?_;refine Aa F (run_load1 (agf Cs rfl) (F.ev rfl) (Ot aB 0 tM rfl)) rfl fun a F=>?_;refine Aa F (Ct Cs.k (F.ev rfl)) rfl fun a F=>?_;refine Aa F (run_nei (F.ev rfl) (F.ev rfl)) rfl fun a F=>?_;refine Ak<|Ay<|Dk F rfl (Aad (decide_eq_false tD)) ?_
 refine Ar<|Aa F (run_assign (F.ev rfl)) rfl fun a F=>?_
 refine Ak<|Auy<|Ay<|Ar<|Aa F (run_move (F.ev rfl)) rfl fun a F=>?_
 refine Aa F (run_addi (F.ev rfl) (F.ev rfl) (in_i64 tM tM)) rfl fun a F=>?_;refine Aa F (run_assign (F.ev rfl)) rfl fun a F=>?_;refine Ak<|Ay ?_
 iterate 2 (refine wp_seq ?_)
 refine Ar ?_
 iterate 2 (refine Aa F (run_move (F.ev rfl)) rfl fun a F=>?_)
 refine Aa F (Bu Ci.k (F.ev rfl)) rfl fun a F=>?_;refine Aa F (run_lss (F.ev rfl) (F.ev rfl)) rfl fun a F=>?_;refine Ak<|Ay<|Dk F rfl (decide_eq_true tD) ?_
 refine wp_skip<|Ay<|wp_seq<|wp_block ?_
 iterate 2 (refine wp_seq ?_)
 refine Ar ?_
 iterate 2 (refine Aa F (run_move (F.ev rfl)) rfl fun a F=>?_)
 obtain ⟨bz,_,aI,bs,_,aC,⟨rfl,aY⟩⟩:=M.atRow (k:=1) rfl tD Zw (rfl:Vd[2]?=some ([34]:List UInt8));refine Aa F (C0 Ci.k Cs (F.ev rfl) (F.ev rfl) tM aI) rfl fun a F=>?_;refine Aa F (run_load1 (agf Cs rfl) (F.ev rfl) (Ot aC 0 tM rfl)) rfl fun a F=>?_;refine Aa F (Ct Cs.k (F.ev rfl)) rfl fun a F=>?_;refine Aa F (run_nei (F.ev rfl) (F.ev rfl)) rfl fun a F=>?_;refine Ak<|Ay<|C8 F rfl (Aae (decide_eq_true tD)) ?_
 refine wp_skip<|Ay<|wp_seq<|Ar ?_
 iterate 2 (refine Aa F (run_move (F.ev rfl)) rfl fun a F=>?_)
 refine Aa F (run_addi (F.ev rfl) (F.ev rfl) (in_i64 tM tM)) rfl fun a F=>?_;obtain ⟨b0,_,aJ,bt,_,aD,⟨rfl,aZ⟩⟩:=M.atRow (k:=1) rfl tD Zw (rfl:Vd[3]?=some ([92,34]:List UInt8));refine Aa F (C0 Ci.k Cs (F.ev rfl) (F.ev rfl) tM aJ) rfl fun a F=>?_;refine Aa F (run_load1 (agf Cs rfl) (F.ev rfl) (Ot aD 0 tM rfl)) rfl fun a F=>?_;refine Aa F (Ct Cs.k (F.ev rfl)) rfl fun a F=>?_;refine Aa F (run_nei (F.ev rfl) (F.ev rfl)) rfl fun a F=>?_;refine Ak<|Ay<|Dk F rfl (Aad (decide_eq_false tD)) ?_
 refine Ar<|Aa F (run_assign (F.ev rfl)) rfl fun a F=>?_
 refine Ak<|Auy<|Ay<|Ar<|Aa F (run_move (F.ev rfl)) rfl fun a F=>?_
 refine Aa F (run_addi (F.ev rfl) (F.ev rfl) (in_i64 tM tM)) rfl fun a F=>?_;refine Aa F (run_assign (F.ev rfl)) rfl fun a F=>?_;refine Ak<|Ay ?_
 iterate 2 (refine wp_seq ?_)
 refine Ar ?_
 iterate 2 (refine Aa F (run_move (F.ev rfl)) rfl fun a F=>?_)
 refine Aa F (Bu Ci.k (F.ev rfl)) rfl fun a F=>?_;refine Aa F (run_lss (F.ev rfl) (F.ev rfl)) rfl fun a F=>?_;refine Ak<|Ay<|C8 F rfl (decide_eq_false tD) ?_
 refine wp_exit ?_
 iterate 2 (refine q_te ?_)
 refine q_bh<|Ay ?_
 iterate 2 (refine wp_seq ?_)
 refine Ar<|Aa F (run_move (F.ev rfl)) rfl fun a F=>?_
 refine Ak<|Ay<|C8 F rfl rfl ?_
 refine wp_skip<|Ay<|wp_seq<|Ar<|Aa F (run_move (F.ev rfl)) rfl fun a F=>?_
 refine Aa F (Bu Ci.k (F.ev rfl)) rfl fun a F=>?_;refine Aa F (Auf (F.ev rfl) (F.ev rfl) tM tM (in_i64 tM tM)) rfl fun a F=>?_;refine Aur F M Ci.k Cs rfl rfl tM rfl (c:=4 / 2) tM (by show 16 * _≤_;omega) tM rfl ?_;clear F M a;intro E w a M F;refine Aa F (run_buildS (cs:=Gy (.slice (some ⟨E,0,none⟩) 0 (4 / 2))) (ps:=[(1,.slice (some ⟨E,0,none⟩) 0 (4 / 2))]) Eu.k rfl Eu (F.evp rfl) Aka) rfl fun a F=>?_;refine Ew F M Eu (cs:=Gy (.slice none 0 0)) Ajy rfl ?_;clear F M a;intro b6 w a M F;refine Fi F M Eu (k:=0) rfl rfl rfl (us:=Gy (.slice (some ⟨E,0,none⟩) 0 (4 / 2))) rfl (Jf _) (by intro u hu;rcases Ari hu with rfl | rfl <;> rfl) (by rw [Jf,Jf];decide) ?_;clear F M a;intro w a M F;rw [Avf (by rw [Jf,Jf])] at M;have T7:=Afi (.slice (some ⟨E,0,none⟩) 0 (4 / 2));have aa:=Ajz (.slice (some ⟨E,0,none⟩) 0 (4 / 2));refine Ak<|Ay ?_
 iterate 2 (refine wp_seq ?_)
 refine Ar<|Aa F (run_move (F.ev rfl)) rfl fun a F=>?_
 refine Aa F (Bu Ci.k (F.ev rfl)) rfl fun a F=>?_;refine Aa F (Hx (F.ev rfl) (F.ev rfl) (in_i64 tM tM)) rfl fun a F=>?_;refine Aa F (run_assign (F.ev rfl)) rfl fun a F=>?_;refine Ak<|Ay<|wp_block<|Y9 3 ?_
 iterate 2 (refine wp_seq ?_)
 refine Ar<|Aa F (run_move (F.ev rfl)) rfl fun a F=>?_
 refine Aa F (run_geq (F.ev rfl) (F.ev rfl)) rfl fun a F=>?_;refine Ak<|Ay<|Dk F rfl (decide_eq_true tD) ?_
 refine wp_skip<|Ay<|wp_seq<|wp_block<|wp_seq<|Ar ?_
 iterate 2 (refine Aa F (run_move (F.ev rfl)) rfl fun a F=>?_)
 obtain ⟨b3,_,aK,bu,_,aE,⟨rfl,ba⟩⟩:=M.atRow (k:=3) rfl tD Zw (rfl:Vd[2]?=some ([34]:List UInt8));refine Aa F (C0 Ci.k Cs (F.ev rfl) (F.ev rfl) tM aK) rfl fun a F=>?_;refine Aa F (run_load1 (agf Cs rfl) (F.ev rfl) (Ot aE 0 tM rfl)) rfl fun a F=>?_;refine Aa F (run_strIndex (i:=0) (b:=(34:UInt8)) Cs.k (F.ev rfl) (F.ev rfl) rfl) rfl fun a F=>?_;refine Aa F (run_assign (F.ev rfl)) rfl fun a F=>?_;refine Ak<|Ay<|wp_seq<|Ar ?_
 iterate 2 (refine Aa F (run_move (F.ev rfl)) rfl fun a F=>?_)
 refine Aa F (run_addi (F.ev rfl) (F.ev rfl) (in_i64 tM tM)) rfl fun a F=>?_;obtain ⟨b4,_,aL,bv,_,aF,⟨rfl,be⟩⟩:=M.atRow (k:=3) rfl tD Zw (rfl:Vd[3]?=some ([92,34]:List UInt8));refine Aa F (C0 Ci.k Cs (F.ev rfl) (F.ev rfl) tM aL) rfl fun a F=>?_;refine Aa F (run_load1 (agf Cs rfl) (F.ev rfl) (Ot aF 0 tM rfl)) rfl fun a F=>?_;refine Aa F (run_assign (F.ev rfl)) rfl fun a F=>?_;refine Ak<|Ay ?_
 iterate 2 (refine wp_seq ?_)
 refine Ar<|Aa F (run_move (F.ev rfl)) rfl fun a F=>?_
 refine Aa F (run_fieldAddr Eu.k rfl rfl (F.ev rfl)) rfl fun a F=>?_;refine Aa F (Gk (j:=34) P7.k Cj rfl (F.ev rfl) (F.ev rfl) (by first | omega | rfl) tD) rfl fun a F=>?_;refine Aa F (run_load1 (agf Cj rfl) (F.ev rfl) (M.cellL (k:=0) rfl (T7.nil 34 tD tD))) rfl fun a F=>?_;refine Aa F (run_eqnilS Cj.k (F.ev rfl) (F.ev rfl)) rfl fun a F=>?_;refine Ak<|Ay<|Dk F rfl rfl ?_
 refine Ar<|Aa F (run_fieldAddr Eu.k rfl rfl (F.ev rfl)) rfl fun a F=>?_
 refine Aa F (run_load1 (agf Ci rfl) (F.ev rfl) (M.cellL (k:=0) rfl aa)) rfl fun a F=>?_;refine Aa F (run_move (F.ev rfl)) rfl fun a F=>?_;refine Ev F M Cj.k M8 rfl rfl (cs:=[.int .u8 (nb 34)]) rfl rfl (by simp [Value.oneCell']) tD rfl ?_;clear F M a;intro b5 w a M F;obtain ⟨bf,bm,rfl,aw,ao,aN⟩:=M.row_shape (k:=0) rfl;refine Aa F (Md M (k:=0) (l:=[34]) rfl rfl Cj.k M8.k Cs.k (F.ev rfl)) rfl fun a F=>?_;refine Ev F M Ci.k Cs rfl rfl (cs:=[.string (str ([34]:List UInt8))]) rfl rfl (by simp [Value.oneCell']) tD rfl ?_;clear F M a;intro b7 w a M F;obtain ⟨bg,bn,rfl,ax,ap,aP⟩:=M.row_shape (k:=0) rfl;refine Hq F M (k:=3) (k2:=0) rfl rfl Ci.k Cs rfl rfl tD rfl rfl (by show _ * 16≤_;(try simp only [List.length_drop,List.length_take,List.length_append,List.length_cons,List.length_nil]);omega) tO rfl ?_;clear F M a;intro b8 w a M F;obtain ⟨z,D,rfl,ay,aq,aQ⟩:=M.row_shape (k:=3) rfl;refine Aa F (run_fieldAddr Eu.k rfl rfl (F.ev rfl)) rfl fun a F=>?_;refine Co F M Ci rfl (k:=2) rfl rfl rfl rfl aa ?_;clear F M a;intro w a M F;have ak:TabIs ((Gy (.slice (some ⟨E,0,none⟩) 0 (4 / 2))).set 256 (.slice (z) (0+1) (D))) []:=T7.put _ _ _ (by intro j hj hK;simp only [List.mem_cons,List.not_mem_nil,or_false,not_or,not_false_eq_true,and_true] at hK ⊢;omega);have ac:((Gy (.slice (some ⟨E,0,none⟩) 0 (4 / 2))).set 256 (.slice (z) (0+1) (D)))[256]?=some (.slice (z) (0+1) (D)):=List.getElem?_set_self (by rw [T7.len];decide);refine Ak<|Ay<|Ar ?_
 iterate 2 (refine Aa F (run_move (F.ev rfl)) rfl fun a F=>?_)
 refine Ol F M Cs.k Cj.k M8.k rfl rfl ?_;clear F M a;intro U J w a M F;refine Aa F (run_fieldAddr Eu.k rfl rfl (F.ev rfl)) rfl fun a F=>?_;refine Aa F (Gk (j:=34) P7.k Cj rfl (F.ev rfl) (F.ev rfl) (by first | omega | rfl) tD) rfl fun a F=>?_;refine Co F M Cj rfl (k:=2) rfl rfl rfl rfl (ak.nil 34 tD tD) ?_;clear F M a;intro w a M F;have ab:TabIs (((Gy (.slice (some ⟨E,0,none⟩) 0 (4 / 2))).set 256 (.slice (z) (0+1) (D))).set 34 (.slice (some ⟨U,0,none⟩) ((str ([92,34]:List UInt8)).size) (J))) [34]:=ak.put _ _ _ (by intro j hj hK;simp only [List.mem_cons,List.not_mem_nil,or_false,not_or,not_false_eq_true,and_true] at hK ⊢;omega);have Y:(((Gy (.slice (some ⟨E,0,none⟩) 0 (4 / 2))).set 256 (.slice (z) (0+1) (D))).set 34 (.slice (some ⟨U,0,none⟩) ((str ([92,34]:List UInt8)).size) (J)))[256]?=some (.slice (z) (0+1) (D)):=by rw [List.getElem?_set_ne tD];exact ac
 refine Ak<|Auy<|Ay<|Ar<|Aa F (run_move (F.ev rfl)) rfl fun a F=>?_
 refine Aa F (Hx (F.ev rfl) (F.ev rfl) (in_i64 tM tM)) rfl fun a F=>?_;refine Aa F (run_assign (F.ev rfl)) rfl fun a F=>?_;refine Ak<|Ay ?_
 iterate 2 (refine wp_seq ?_)
 refine Ar<|Aa F (run_move (F.ev rfl)) rfl fun a F=>?_
 refine Aa F (run_geq (F.ev rfl) (F.ev rfl)) rfl fun a F=>?_;refine Ak<|Ay<|Dk F rfl (decide_eq_true tD) ?_
 refine wp_skip<|Ay<|wp_seq<|wp_block<|wp_seq<|Ar ?_
 iterate 2 (refine Aa F (run_move (F.ev rfl)) rfl fun a F=>?_)
 obtain ⟨bk,_,ai,aU,_,ag,⟨rfl,a7⟩⟩:=M.atRow (k:=5) rfl tD Zw (rfl:Vd[0]?=some ([92]:List UInt8));refine Aa F (C0 Ci.k Cs (F.ev rfl) (F.ev rfl) tM ai) rfl fun a F=>?_;refine Aa F (run_load1 (agf Cs rfl) (F.ev rfl) (Ot ag 0 tM rfl)) rfl fun a F=>?_;refine Aa F (run_strIndex (i:=0) (b:=(92:UInt8)) Cs.k (F.ev rfl) (F.ev rfl) rfl) rfl fun a F=>?_;refine Aa F (run_assign (F.ev rfl)) rfl fun a F=>?_;refine Ak<|Ay<|wp_seq<|Ar ?_
 iterate 2 (refine Aa F (run_move (F.ev rfl)) rfl fun a F=>?_)
 refine Aa F (run_addi (F.ev rfl) (F.ev rfl) (in_i64 tM tM)) rfl fun a F=>?_;obtain ⟨bl,_,aj,aV,_,ah,⟨rfl,a8⟩⟩:=M.atRow (k:=5) rfl tD Zw (rfl:Vd[1]?=some ([92,92]:List UInt8));refine Aa F (C0 Ci.k Cs (F.ev rfl) (F.ev rfl) tM aj) rfl fun a F=>?_;refine Aa F (run_load1 (agf Cs rfl) (F.ev rfl) (Ot ah 0 tM rfl)) rfl fun a F=>?_;refine Aa F (run_assign (F.ev rfl)) rfl fun a F=>?_;refine Ak<|Ay ?_
 iterate 2 (refine wp_seq ?_)
 refine Ar<|Aa F (run_move (F.ev rfl)) rfl fun a F=>?_
 refine Aa F (run_fieldAddr Eu.k rfl rfl (F.ev rfl)) rfl fun a F=>?_;refine Aa F (Gk (j:=92) P7.k Cj rfl (F.ev rfl) (F.ev rfl) (by first | omega | rfl) tD) rfl fun a F=>?_;refine Aa F (run_load1 (agf Cj rfl) (F.ev rfl) (M.cellL (k:=2) rfl (ab.nil 92 tD tD))) rfl fun a F=>?_;refine Aa F (run_eqnilS Cj.k (F.ev rfl) (F.ev rfl)) rfl fun a F=>?_;refine Ak<|Ay<|Dk F rfl rfl ?_
 refine Ar<|Aa F (run_fieldAddr Eu.k rfl rfl (F.ev rfl)) rfl fun a F=>?_
 refine Aa F (run_load1 (agf Ci rfl) (F.ev rfl) (M.cellL (k:=2) rfl Y)) rfl fun a F=>?_;refine Aa F (run_move (F.ev rfl)) rfl fun a F=>?_;refine Ev F M Cj.k M8 rfl rfl (cs:=[.int .u8 (nb 92)]) rfl rfl (by simp [Value.oneCell']) tD rfl ?_;clear F M a;intro b9 w a M F;obtain ⟨bh,bo,rfl,az,ar,aR⟩:=M.row_shape (k:=0) rfl;refine Aa F (Md M (k:=0) (l:=[92]) rfl rfl Cj.k M8.k Cs.k (F.ev rfl)) rfl fun a F=>?_;refine Ev F M Ci.k Cs rfl rfl (cs:=[.string (str ([92]:List UInt8))]) rfl rfl (by simp [Value.oneCell']) tD rfl ?_;clear F M a;intro bA w a M F;obtain ⟨bj,bp,rfl,a0,au,aS⟩:=M.row_shape (k:=0) rfl;refine Hq F M (k:=5) (k2:=0) rfl rfl Ci.k Cs rfl rfl tD rfl rfl (by show _ * 16≤_;(try simp only [List.length_drop,List.length_take,List.length_append,List.length_cons,List.length_nil]);omega) tO rfl ?_;clear F M a;intro bB w a M F;obtain ⟨I,O,rfl,a6,av,aT⟩:=M.row_shape (k:=5) rfl;refine Aa F (run_fieldAddr Eu.k rfl rfl (F.ev rfl)) rfl fun a F=>?_;refine Co F M Ci rfl (k:=4) rfl rfl rfl rfl Y ?_;clear F M a;intro w a M F;have am:TabIs ((((Gy (.slice (some ⟨E,0,none⟩) 0 (4 / 2))).set 256 (.slice (z) (0+1) (D))).set 34 (.slice (some ⟨U,0,none⟩) ((str ([92,34]:List UInt8)).size) (J))).set 256 (.slice (I) ((0+1)+1) (O))) [34]:=ab.put _ _ _ (by intro j hj hK;simp only [List.mem_cons,List.not_mem_nil,or_false,not_or,not_false_eq_true,and_true] at hK ⊢;omega);have ae:((((Gy (.slice (some ⟨E,0,none⟩) 0 (4 / 2))).set 256 (.slice (z) (0+1) (D))).set 34 (.slice (some ⟨U,0,none⟩) ((str ([92,34]:List UInt8)).size) (J))).set 256 (.slice (I) ((0+1)+1) (O)))[256]?=some (.slice (I) ((0+1)+1) (O)):=List.getElem?_set_self (by rw [ab.len];decide)
 refine Ak<|Ay<|Ar ?_
 iterate 2 (refine Aa F (run_move (F.ev rfl)) rfl fun a F=>?_)
 refine Ol F M Cs.k Cj.k M8.k rfl rfl ?_;clear F M a;intro an Z w a M F;refine Aa F (run_fieldAddr Eu.k rfl rfl (F.ev rfl)) rfl fun a F=>?_;refine Aa F (Gk (j:=92) P7.k Cj rfl (F.ev rfl) (F.ev rfl) (by first | omega | rfl) tD) rfl fun a F=>?_;refine Co F M Cj rfl (k:=4) rfl rfl rfl rfl (am.nil 92 tD tD) ?_;clear F M a;intro w a M F;have aM:TabIs (((((Gy (.slice (some ⟨E,0,none⟩) 0 (4 / 2))).set 256 (.slice (z) (0+1) (D))).set 34 (.slice (some ⟨U,0,none⟩) ((str ([92,34]:List UInt8)).size) (J))).set 256 (.slice (I) ((0+1)+1) (O))).set 92 (.slice (some ⟨an,0,none⟩) ((str ([92,92]:List UInt8)).size) (Z))) [92,34]:=am.put _ _ _ (by intro j hj hK;simp only [List.mem_cons,List.not_mem_nil,or_false,not_or,not_false_eq_true,and_true] at hK ⊢;omega);have af:(((((Gy (.slice (some ⟨E,0,none⟩) 0 (4 / 2))).set 256 (.slice (z) (0+1) (D))).set 34 (.slice (some ⟨U,0,none⟩) ((str ([92,34]:List UInt8)).size) (J))).set 256 (.slice (I) ((0+1)+1) (O))).set 92 (.slice (some ⟨an,0,none⟩) ((str ([92,92]:List UInt8)).size) (Z)))[256]?=some (.slice (I) ((0+1)+1) (O)):=by rw [List.getElem?_set_ne tD];exact ae
 refine Ak<|Auy<|Ay<|Ar<|Aa F (run_move (F.ev rfl)) rfl fun a F=>?_
 refine Aa F (Hx (F.ev rfl) (F.ev rfl) (in_i64 tM tM)) rfl fun a F=>?_;refine Aa F (run_assign (F.ev rfl)) rfl fun a F=>?_;refine Ak<|Ay ?_
 iterate 2 (refine wp_seq ?_)
 refine Ar<|Aa F (run_move (F.ev rfl)) rfl fun a F=>?_
 refine Aa F (run_geq (F.ev rfl) (F.ev rfl)) rfl fun a F=>?_;refine Ak<|Ay<|C8 F rfl (decide_eq_false tD) ?_
 refine wp_exit ?_
 iterate 2 (refine q_te ?_)
 refine q_bh<|Ay<|wp_seq<|Ar<|Aa F (Acj tok339.k (F.ev rfl)) rfl fun a F=>?_
 refine Aa F (run_assign (F.ev rfl)) rfl fun a F=>?_;refine Ak<|Ay<|wp_ret<|O7 F rfl rfl ?_
 replace M:=M.perm (perm_front _ 7 _ rfl);replace M:=M.perm (perm_front _ 7 _ rfl);replace M:=M.perm (perm_front _ 6 _ rfl);change Mem w0 G (_::_::_::_::_::_::_::_::L) _ at M;exact ⟨_,M.weaken (.cons_cons _ (.cons_cons _ (.cons_cons _ (.cons _ (.cons _ (.cons _ (.cons _ (.cons _ (List.Sublist.refl _))))))))),_,_,_,_,aM,af,rfl,rfl⟩
theorem Aeq {w0 w:World} {G:Ghost} {L:List Res} {b:Nat} {U:Option Addr} {rc:Nat} {rv I:Value} (M:Mem w0 G (.blk b [.int .u32 0,.int .i32 1,I,rv,.slice (U) 4 (rc)] 311::.row (.slice (U) 4 (rc)) 4 ([.string (str ([92]:List UInt8)),.string (str ([92,92]:List UInt8)),.string (str ([34]:List UInt8)),.string (str ([92,34]:List UInt8))]) 9 1::L) w):Calls Tryz.prog 214 #[.pointer (some ⟨b,0,none⟩)] w
  (RetL w0 G fun L' v=>v=.tuple #[]∧∃ J cs ta tc,TabIs cs [92,34]∧cs[256]?=some (.slice ta 2 tc)∧L' = .blk b [.int .u32 0,.int .i32 1,I,.iface 339 (.pointer (some ⟨J,0,none⟩)),.slice none 0 0] 311::.blk J cs 338::L):=by
 refine Bf (vs:=[_]) Tryz.func214 rfl (n:=10) rfl rfl ?_;intro a F;refine wp_seq<|Ar ?_
 iterate 2 (refine Aa F (run_move (F.ev rfl)) rfl fun a F=>?_)
 replace M:=M.perm (perm_front _ 1 _ rfl);replace M:=M.perm (perm_front _ 1 _ rfl);change Mem w0 G (_::_::L) _ at M;refine Jn F ent228 rfl rfl (Zx M) ?_;clear F M a;rintro _ _ w a M ⟨E,O,Y,Z,D,z,rfl,rfl⟩ F;refine Aa F (run_nilCheck (F.ev rfl)) rfl fun a F=>?_;refine Aa F (run_fieldAddr Lm.k rfl rfl (F.ev rfl)) rfl fun a F=>?_;refine Co F M Aqz rfl (k:=1) rfl rfl rfl rfl rfl ?_;clear F M a;intro w a M F;refine Ak<|Ay<|Ar<|Aa F (run_move (F.ev rfl)) rfl fun a F=>?_
 refine Aa F (run_nilCheck (F.ev rfl)) rfl fun a F=>?_;refine Aa F (run_fieldAddr Lm.k rfl rfl (F.ev rfl)) rfl fun a F=>?_;refine Co F M Ci rfl (k:=1) rfl rfl rfl rfl rfl ?_;clear F M a;intro w a M F;refine Ak<|Awt F rfl ?_
 replace M:=M.perm (perm_front _ 1 _ rfl);change Mem w0 G (.blk b [.int .u32 0,.int .i32 1,I,.iface 339 (.pointer (some ⟨E,0,none⟩)),.slice none 0 0] 311::_::_::L) _ at M;exact ⟨_,M.weaken (.cons_cons _ (.cons_cons _ (.cons _ (List.Sublist.refl _)))),rfl,_,_,_,_,D,z,rfl⟩
def Of (s:List UInt8):Prop:=s.length < 16∧∀ c∈s,c.toNat≠34∧c.toNat≠92
theorem Of.at {s:List UInt8} (h:Of s) {i:Nat} {c:UInt8} (z:s[i]?=some c):c.toNat ∉ ([92,34]:List Nat):=by
 have:=h.2 c (List.mem_of_getElem? z);simp only [List.mem_cons,List.not_mem_nil,or_false,not_or];exact ⟨this.2,this.1⟩
theorem Apj {w0 w:World} {G:Ghost} {L:List Res} {z:Nat} {cs:List Value} {ta:Option Addr} {tc:Nat} (T:TabIs cs [92,34]) (Y:cs[256]?=some (.slice ta 2 tc)) {s:List UInt8} (O:Of s) (M:Mem w0 G (.blk z (cs) 338::L) w) :
  Calls Tryz.prog 293 #[.pointer (some ⟨z,0,none⟩),.string (str s)] w (RetS w0 G (.blk z (cs) 338::L) fun v=>v=.string (str s)):=by
 refine Bf (vs:=[_,_]) Tryz.func293 rfl (n:=122) rfl rfl ?_;intro a F;refine wp_seq<|Ar<|Aa F (run_assign (F.ev rfl)) rfl fun a F=>?_
 refine Ak<|Ay<|wp_seq ?_
 have Z:=O.1;refine Ar<|Aa F (run_move (F.ev rfl)) rfl fun a F=>?_
 refine Aa F (Ct Cs.k (F.ev rfl)) rfl fun a F=>?_;refine Aa F (run_assign (F.ev rfl)) rfl fun a F=>?_;refine Ak<|Ay<|wp_seq<|Ar<|Aa F (run_assign (F.ev rfl)) rfl fun a F=>?_
 refine Ak<|Ay ?_
 iterate 2 (refine wp_seq ?_)
 refine Ar<|Aa F (run_move (F.ev rfl)) rfl fun a F=>?_
 refine Aa F (run_nilCheck (F.ev rfl)) rfl fun a F=>?_;refine Aa F (run_fieldAddr Eu.k rfl rfl (F.ev rfl)) rfl fun a F=>?_;refine Aa F (run_load1 (agf Ci rfl) (F.ev rfl) (M.cellL (k:=0) rfl Y)) rfl fun a F=>?_;refine Aa F (Bu Ci.k (F.ev rfl)) rfl fun a F=>?_;refine Aa F (Auh (F.ev rfl) (F.ev rfl) (in_i64 tM tM)) rfl fun a F=>?_;refine Aa F (run_move (F.ev rfl)) rfl fun a F=>?_;refine Aa F (Ct Cs.k (F.ev rfl)) rfl fun a F=>?_;refine Aa F (run_leq (F.ev rfl) (F.ev rfl)) rfl fun a F=>?_;refine Ak<|Ay<|C8 F rfl (decide_eq_false (by have:=O.1;omega)) ?_
 refine wp_seq<|Ar<|Aa F (run_assign (F.ev rfl)) rfl fun a F=>?_
 refine Ak<|Ay<|wp_block<|w_loopN (fun m U w'=>∃ (i:Nat),m=s.length - i∧Fits 122 U [(0,.pointer (some ⟨z,0,none⟩)),(1,.string (str (s))),(4,.string (str ([]:List UInt8))),(5,.int .i64 ((((s).length:Nat):Int))),(6,.bool false),(10,.int .i64 (((i:Nat):Int)))]∧Mem w0 G (.blk z (cs) 338::L) w'∧(i≤s.length)) _ ⟨0,rfl,F.to ⟨rfl,rfl,rfl,rfl,rfl,rfl,trivial⟩,M,Nat.zero_le _⟩ ?_
 clear F M;rintro m a w ⟨i,rfl,F,M,hi⟩
 iterate 2 (refine wp_seq ?_)
 refine Ar ?_
 iterate 2 (refine Aa F (run_move (F.ev rfl)) rfl fun a F=>?_)
 refine Aa F (Ct Cs.k (F.ev rfl)) rfl fun a F=>?_;refine Aa F (run_lss (F.ev rfl) (F.ev rfl)) rfl fun a F=>?_;refine Ak<|Ay<|w_cond F rfl ?_ ?_
 ·intro E;have I:=E;clear E;have h1:((i:Nat):Int) < (((s).length:Nat):Int):=of_decide_eq_true I;refine wp_skip<|Ay<|wp_seq<|wp_block<|wp_seq<|Ar ?_
  iterate 2 (refine Aa F (run_move (F.ev rfl)) rfl fun a F=>?_)
  obtain ⟨B2,D⟩:=get_of_lt (xs:=(s)) (i:=i) tM;have aa:=nb_hi B2;refine Aa F (run_strIndex (i:=i) Cs.k (F.ev rfl) (F.ev rfl) D) rfl fun a F=>?_;refine Aa F (run_assign (F.ev rfl)) rfl fun a F=>?_;refine Ak<|Ay<|wp_seq<|Ar ?_
  iterate 2 (refine Aa F (run_move (F.ev rfl)) rfl fun a F=>?_)
  refine Aa F (run_nilCheck (F.ev rfl)) rfl fun a F=>?_;refine Aa F (run_fieldAddr Eu.k rfl rfl (F.ev rfl)) rfl fun a F=>?_;refine Aa F (Gk (j:=B2.toNat) P7.k Cj rfl (F.ev rfl) (F.ev rfl) rfl (by have:=UInt8.toNat_lt B2;omega)) rfl fun a F=>?_;refine Aa F (run_load1 (agf Cj rfl) (F.ev rfl) (M.cellL (k:=0) rfl (by simp only [Nat.zero_add];exact T.nil B2.toNat (by have:=UInt8.toNat_lt B2;omega) (O.at D)))) rfl fun a F=>?_;refine Aa F (run_nenilS Cj.k (F.ev rfl) (F.ev rfl)) rfl fun a F=>?_;refine Ak<|Ay<|C8 F rfl rfl ?_
  refine wp_skip<|Auy<|Ay<|Ar<|Aa F (run_move (F.ev rfl)) rfl fun a F=>?_
  refine Aa F (run_addi (F.ev rfl) (F.ev rfl) (in_i64 tM tM)) rfl fun a F=>?_;refine Aa F (run_assign (F.ev rfl)) rfl fun a F=>?_;refine Ak<|Ay ?_
  exact ⟨_,tM,i+1,rfl,F.to ⟨rfl,rfl,rfl,rfl,rfl,rfl,trivial⟩,M,tM⟩
 ·intro E;have J:=E;clear E;have h3:¬ (((i:Nat):Int) < (((s).length:Nat):Int)):=of_decide_eq_false J;refine wp_exit ?_
  iterate 2 (refine q_te ?_)
  refine q_bh<|Ay ?_
  iterate 2 (refine wp_seq ?_)
  refine Ar<|Aa F (run_move (F.ev rfl)) rfl fun a F=>?_
  refine Aa F (run_not (F.ev rfl)) rfl fun a F=>?_;refine Ak<|Ay<|Dk F rfl rfl ?_
  refine wp_seq<|Ar<|Aa F (run_move (F.ev rfl)) rfl fun a F=>?_
  refine Aa F (run_assign (F.ev rfl)) rfl fun a F=>?_;refine Ak<|Ay<|wp_ret<|q_tr<|O7 F rfl rfl ?_
  exact ⟨M,rfl⟩
theorem Avj {w0 w:World} {G:Ghost} {L:List Res} {b:Nat} {U:Option Addr} {rc:Nat} (M:Mem w0 G (.blk b [.int .u32 0,.int .i32 0,.int .u32 0,.nilIface,.slice (U) 4 (rc)] 311::.row (.slice (U) 4 (rc)) 4 ([.string (str ([92]:List UInt8)),.string (str ([92,92]:List UInt8)),.string (str ([34]:List UInt8)),.string (str ([92,34]:List UInt8))]) 9 1::L) w):Calls Tryz.prog 213 #[.pointer (some ⟨b,0,none⟩),.func (.func 214) #[.pointer (some ⟨b,0,none⟩)] #[]] w
  (RetL w0 G fun I v=>v=.tuple #[]∧∃ z cs D E,TabIs cs [92,34]∧cs[256]?=some (.slice D 2 E)∧I = .blk b [.int .u32 1,.int .i32 0,.int .u32 0,.iface 339 (.pointer (some ⟨z,0,none⟩)),.slice none 0 0] 311::.blk z cs 338::L):=by
 refine (once_do (R:=fun r_ o_ Y=>∃ z cs D E,TabIs cs [92,34]∧cs[256]?=some (.slice D 2 E)∧r_=.iface 339 (.pointer (some ⟨z,0,none⟩))∧o_=.slice none 0 0∧Y=.blk z cs 338::L) M fun w1 Z=>(Aeq Z).mono fun e w2 h=>?_).mono fun e w2 h=>?_
 ·cases e with
  | returned v=>obtain ⟨I,J,rfl,z,cs,D,E,T,O,rfl⟩:=h;exact ⟨rfl,_,_,_,⟨z,cs,D,E,T,O,rfl,rfl,rfl⟩,J⟩
  | panicked c=>exact h.elim
  | outgrown=>exact h.elim
 ·cases e with
  | returned v=>obtain ⟨I,J,rfl,r',o',L2,⟨z,cs,D,E,T,O,rfl,rfl,rfl⟩,rfl⟩:=h;exact ⟨_,J,rfl,z,cs,D,E,T,O,rfl⟩
  | panicked c=>exact h.elim
  | outgrown=>exact h.elim
theorem Avu {x:Value} {w:World}:(Go.method (Tryz.prog.types.size+Made.depth) 339 x "Replace").run Tryz.prog w=.ok (293,x) w:=kR
theorem Vc {w0 w:World} {G:Ghost} {L:List Res} {b:Nat} {I:Option Addr} {rc:Nat} {s:List UInt8} (Y:Of s) (M:Mem w0 G (.blk b [.int .u32 0,.int .i32 0,.int .u32 0,.nilIface,.slice (I) 4 (rc)] 311::.row (.slice (I) 4 (rc)) 4 ([.string (str ([92]:List UInt8)),.string (str ([92,92]:List UInt8)),.string (str ([34]:List UInt8)),.string (str ([92,34]:List UInt8))]) 9 1::L) w):Calls Tryz.prog 187 #[.pointer (some ⟨b,0,none⟩),.string (str s)] w (RetS w0 G L fun v=>v=.string (str s)):=by
 refine Bf (vs:=[_,_]) Tryz.func187 rfl (n:=17) rfl rfl ?_;intro a F;refine wp_seq<|Ar<|Aa F (run_assign (F.ev rfl)) rfl fun a F=>?_
 refine Ak<|Ay<|wp_seq<|Ar<|Aa F (run_move (F.ev rfl)) rfl fun a F=>?_
 refine Aa F (run_nilCheck (F.ev rfl)) rfl fun a F=>?_;refine Aa F (run_fieldAddr Lm.k rfl rfl (F.ev rfl)) rfl fun a F=>?_;refine Aa F (run_move (F.ev rfl)) rfl fun a F=>?_;refine Aa F (R7 (F.ev rfl)) rfl fun a F=>?_;replace M:=M.perm (perm_front _ 1 _ rfl);replace M:=M.perm (perm_front _ 1 _ rfl);change Mem w0 G (_::_::L) _ at M;refine Jn F ent213 rfl rfl (Avj M) ?_;clear F M a;rintro _ _ w a M ⟨rfl,U,E,J,O,D,z,rfl⟩ F;refine Ak<|Ay<|wp_seq<|Ar<|Aa F (run_move (F.ev rfl)) rfl fun a F=>?_
 refine Aa F (run_nilCheck (F.ev rfl)) rfl fun a F=>?_;refine Aa F (run_fieldAddr Lm.k rfl rfl (F.ev rfl)) rfl fun a F=>?_;refine Aa F (run_load1 (agf Aqz rfl) (F.ev rfl) (M.cellL (k:=0) rfl rfl)) rfl fun a F=>?_;refine Aa F (run_move (F.ev rfl)) rfl fun a F=>?_;replace M:=M.perm (perm_front _ 1 _ rfl);change Mem w0 G (_::_::L) _ at M;refine Ack F ent293 (fun _=>Avu) rfl rfl rfl (Apj D z (s:=s) Y M) ?_;clear F M a;rintro _ w a M rfl F;refine Aa F (run_assign (F.ev rfl)) rfl fun a F=>?_;refine Ak<|Ay<|wp_ret<|O7 F rfl rfl ?_
 exact ⟨M.weaken (.cons _ (.cons _ (List.Sublist.refl _))),rfl⟩
def escF:List UInt8→List UInt8
 | []=>[]
 | c::l=>(if c=92 then [92,92] else if c=34 then [92,34] else [c])++escF l
def Vg (s:List UInt8):List UInt8:=[34]++escF s++[34]
theorem Lz:∀ {s:List UInt8},(∀ c∈s,c.toNat≠34∧c.toNat≠92)→escF s=s
 | [],_=>rfl
 | c::l,h=>by
  have h1:=h c (by simp);have h2:¬ c=92:=by rintro rfl;exact h1.2 rfl
  have h3:¬ c=34:=by rintro rfl;exact h1.1 rfl
  rw [escF,if_neg h2,if_neg h3,Lz (fun c hc=>h c (by simp [hc]))];rfl
theorem Vf {s:List UInt8} (h:Of s):Vg s=[34]++s++[34]:=by rw [Vg,Lz h.2]
theorem Zy {w0 w:World} {G:Ghost} {L:List Res} (M:Mem w0 G L w) {s:List UInt8} (E:Of s):Calls Tryz.prog 140 #[.string (str s)] w (RetS w0 G L fun v=>v=.string (str (Vg s))):=by
 refine Bf (vs:=[_]) Tryz.func140 rfl (n:=9) rfl rfl ?_;intro a F;refine wp_seq<|Ar<|Aa F (run_assign (F.ev rfl)) rfl fun a F=>?_
 refine Ak<|Ay<|wp_seq ?_
 have aa:=E.1;refine Ar<|Qs F M Ci.k Cs (ps:=[(0,.string (str ([92]:List UInt8))),(1,.string (str ([92,92]:List UInt8))),(2,.string (str ([34]:List UInt8))),(3,.string (str ([92,34]:List UInt8)))]) (cs:=[[.string (str ([92]:List UInt8))],[.string (str ([92,92]:List UInt8))],[.string (str ([34]:List UInt8))],[.string (str ([92,34]:List UInt8))]]) (fl:=[.string (str ([92]:List UInt8)),.string (str ([92,92]:List UInt8)),.string (str ([34]:List UInt8)),.string (str ([92,34]:List UInt8))]) rfl rfl (by simp [Ajq,Value.cells]) (by simp [ti9]) rfl (by simp [Value.oneCell']) tD tD rfl ?_;clear F M a;intro v1 w a M F
 obtain ⟨O,Z,rfl,D,z,I⟩:=M.row_shape (k:=0) rfl;change Mem w0 G (_::L) _ at M;refine Jn F ent186 rfl rfl (Aag M) ?_;clear F M a;rintro _ _ w a M ⟨U,J,Y,rfl,rfl⟩ F;refine Aa F (run_move (F.ev rfl)) rfl fun a F=>?_;replace M:=M.perm (perm_front _ 1 _ rfl);replace M:=M.perm (perm_front _ 1 _ rfl);change Mem w0 G (_::_::L) _ at M;refine Qr F ent187 rfl rfl (Vc (s:=s) E M) ?_;clear F M a;rintro _ w a M rfl F
 iterate 2 (refine Aa F (run_strAdd (F.ev rfl) (F.ev rfl) (by (try simp only [List.length_append,List.length_cons,List.length_nil]);omega)) rfl fun a F=>?_)
 refine Aa F (run_assign (F.ev rfl)) rfl fun a F=>?_;refine Ak<|Ay<|wp_ret<|O7 F rfl rfl ?_
 exact ⟨M.weaken (List.Sublist.refl _),by rw [Vf E]⟩
end Go.Proofs.YtinhmakomfennaaGreat
