/- The walks, part P. · The walks, part T. · The walks, part I. · Rules: a copy of a whole slice into an owned row; a set of numbers kept as a map. · The walks, part K. · Rules: a range over a function: the loop's record and the block for its rounds' deferred calls are resources like any other. -/
import Derived.Test.YtmmhmcplegpenaaGreatDoorJ6
import Derived.Laws.CopyRow
import Derived.MapKept
import Derived.RangeFuncLeaves
import Derived.RangeFuncSeq
import Derived.RangeFuncCalls
set_option linter.unusedSimpArgs false
set_option linter.unusedVariables false
namespace Go.Proofs.YtmmhmcplegpenaaGreatDoor
open Go Go.Y Go.Proofs
variable {w0 w:World} {G:A4} {L:List Res}
theorem itoa_nn {n:Int} (h:0≤n):Lib.itoa n=Lib.decDigits n.toNat:=by unfold Lib.itoa;rw [if_neg (by omega)]
theorem Wv:∀ k:Nat,k < 10→(([48,49,50,51,52,53,54,55,56,57]:List UInt8).take (k+1)).drop k=[UInt8.ofNat (48+k)]:=by decide
theorem Qs {k:Nat} (h:k < 10):Lib.decDigits k=[UInt8.ofNat (48+k)]:=by
 rw [H7,if_pos (by omega),Nat.mod_eq_of_lt h];rfl
theorem pub8_le {s:List UInt8} {u:Nat} (h:Lib.parseUintB 8 s=.ok u):u≤255:=by
 have key:∀ (l:List UInt8) (acc:Nat),acc≤255→Lib.parseUintM (2 ^ 8 - 1) acc l=.ok u→u≤255:=by
  intro l
  induction l with
  | nil=>intro acc h1 h2;simp only [Lib.parseUintM,Lib.NumEnd.ok.injEq] at h2;omega
  | cons c r ih =>
   intro acc h1 h2;unfold Lib.parseUintM at h2
   split at h2
   ·split at h2
    ·cases h2
    ·split at h2
     ·cases h2
     ·exact ih _ (by omega) h2
   ·cases h2
 unfold Lib.parseUintB at h
 split at h
 ·cases h
 ·exact key s 0 (by omega) h
theorem Adr (M:Mem w0 G L w) (HG:Globs 0 1 2 3 G) {u:Nat} (hu:u < 9223372036854775808):Calls Tryz.prog 133 #[.int .i64 ((u:Nat):Int)] w (Cs w0 G L fun v=>v=.string (str (Lib.decDigits u))):=by
 refine Ay (vs:=[_]) Tryz.func133 rfl (n:=5) rfl rfl<|Ac<|Ab rfl<|Ac<|Aa rfl<|Bs Aoh rfl rfl (Aas (n:=((u:Nat):Int)) M HG (by first | assumption | exact ⟨by decide,by decide⟩ | exact wrap_ink _ _ | exact C0 (by omega) (by omega)))<|?_;clear M;rintro _ w M rfl
 refine Ab rfl<|Ae<|Ad rfl rfl<|?_
 exact ⟨M,by rw [itoa_nn (by omega),Int.toNat_natCast]⟩
theorem Wk (M:Mem w0 G L w) (HG:Globs 0 1 2 3 G) {u:Nat} (hu:u < 9223372036854775808):Calls Tryz.prog 83 #[.int .i64 ((u:Nat):Int)] w (Cs w0 G L fun v=>v=.string (str (Lib.decDigits u))):=by
 refine Ay (vs:=[_]) Tryz.func83 rfl (n:=5) rfl rfl<|Ac<|Ab rfl<|Ac<|Aa rfl<|Bs Aoo rfl rfl (Adr (u:=u) M HG (by omega))<|?_;clear M;rintro _ w M rfl
 refine Ab rfl<|Ae<|Ad rfl rfl<|?_
 exact ⟨M,rfl⟩
theorem Aib (M:Mem w0 G L w) (HG:Globs 0 1 2 3 G) {s:List UInt8} (hs:s.length≤281474976710656) :
  Calls Tryz.prog 101 #[.string (str s),.int .i64 10,.int .i64 64] w (Cs w0 G L fun v=>∃ (u:Nat) (er:Value),v=.tuple #[.int .u64 (u:Int),er]∧(er=.nilIface∨∃ te pe,er=.iface te pe)∧Apu 18446744073709551616 s u (Ef er)):=by
 refine (Adh M HG hs).mono ?_;rintro e w' h
 cases e with
 | returned v =>
  obtain ⟨M',u,er,h1,h2,h3,h4⟩:=h;refine ⟨M',u,er,h1,h3,by omega,fun m hm he=>?_⟩;subst he;have h5:=X3 (B:=64) (by decide) (u:=m) hm
  rcases h4 with ⟨h6,h7⟩ | ⟨h6,_⟩
  ·rw [h5] at h6;simp only [Lib.NumEnd.ok.injEq] at h6;exact ⟨h7,h6.symm⟩
  ·exact absurd h5 (h6 m)
 | panicked c=>exact h.elim
 | outgrown=>exact h.elim
theorem Ala (M:Mem w0 G L w) (HG:Globs 0 1 2 3 G) {s:List UInt8} (hs:s.length≤281474976710656) :
  Calls Tryz.prog 101 #[.string (str s),.int .i64 10,.int .i64 8] w (Cs w0 G L fun v=>∃ (u:Nat) (er:Value),v=.tuple #[.int .u64 (u:Int),er]∧(er=.nilIface∨∃ te pe,er=.iface te pe)∧Apu 256 s u (Ef er)):=by
 have hd:(str s).data.toList=s:=Fl s;have no:∀ {b:Bool} {u:Nat},u < 256→(∀ m,m < 256→Lib.parseUintB 8 s≠.ok m)→Apu 256 s u b:=fun hu h=>⟨hu,fun m hm he=>absurd (by rw [he];exact X3 (B:=8) (by decide) hm) (h m hm)⟩
 cases h:Lib.parseUintB 8 s with
 | ok u =>
  refine (Any.strconv_ParseUint_10_at8_ok Tryz.laysPu14 (str s) (by rw [Cx];omega) u (by rw [hd];exact h) w).mono ?_;rintro e w' ⟨rfl,hw⟩;refine ⟨?_,u,_,rfl,Or.inl rfl,by have:=pub8_le h;omega,fun m hm he=>?_⟩
  ·rcases hw with rfl | rfl
   ·exact M
   ·exact M.bytesWorld _ _
  ·subst he;rw [X3 (B:=8) (by decide) hm] at h;simp only [Lib.NumEnd.ok.injEq] at h
   exact ⟨rfl,h.symm⟩
 | range =>
  obtain ⟨ev,h1,h2⟩:=HG.rng;refine (Any.strconv_ParseUint_10_at8_range Tryz.laysPu14 (str s) (by rw [Cx];omega) (by rw [hd];exact h) ev w (M.cell h1) h2).mono ?_;rintro e w' ⟨N,rfl,_,_,hb⟩
  exact ⟨M.below' hb,255,_,rfl,Or.inr ⟨_,_,rfl⟩,no (by omega) (fun m _ hx=>by rw [h] at hx;cases hx)⟩
 | _ =>
  obtain ⟨ev,h1,h2⟩:=HG.syn;refine (Any.strconv_ParseUint_10_at8_syntax Tryz.laysPu14 (str s) (by rw [Cx];omega) (by rw [hd];exact h) ev w (M.cell h1) h2).mono ?_;rintro e w' ⟨N,rfl,_,_,hb⟩
  exact ⟨M.below' hb,0,_,rfl,Or.inr ⟨_,_,rfl⟩,no (by omega) (fun m _ hx=>by rw [h] at hx;cases hx)⟩
theorem Aiv (M:Mem w0 G L w) {ad:Option Addr} {cd:Nat} {xs:List (List UInt8)} (S:Au D3 1 G (.slice ad xs.length cd) xs) (hN:xs.length≤140737488355328) (hlen:(Lib.join xs [44]).length≤140737488355328) :
  Calls Tryz.prog 97 #[.slice ad xs.length cd,.string (str [44])] w (Cs w0 G L fun v=>v=.string (str (Lib.join xs [44]))):=by
 by_cases h0:xs=[]
 ·subst h0;refine (Any.strings_Join_none Tryz.lays156 Tryz.Builder_Extra_156 ad cd (str [44]) w).mono ?_;rintro e w' ⟨rfl,rfl⟩
  exact ⟨M,rfl⟩
 ·obtain ⟨x0,hx0⟩:=A2 (xs:=xs) (i:=0) (List.length_pos_iff.2 h0);obtain ⟨b,o,_,rfl,_,_,_,_⟩:=S.index hx0;obtain ⟨_,_,he,hcap,_⟩:=S.shape;simp only [Value.slice.injEq] at he;obtain ⟨_,_,rfl⟩:=he;have hcell:∀ (j:Nat) (x:List UInt8),xs[j]?=some x→w.cell? ⟨b,o+j,none⟩=some (.string (str x)):=by
   intro j x hx;obtain ⟨b',o',cs,h1,_,_,hA,hr,_⟩:=S.index hx;simp only [Option.some.injEq,Addr.mk.injEq,and_true] at h1;obtain ⟨rfl,rfl⟩:=h1;subst hr;have:=hA 0 _ rfl;rw [Nat.mul_one,Nat.add_zero] at this
   exact M.cell this
  have hm:(xs.map str).map (·.data.toList)=xs:=by
   rw [List.map_map]
   conv=>rhs;rw [← List.map_id xs]
   exact List.map_congr_left fun x _=>Fl x
  have:=Any.strings_Join Tryz.lays156 Tryz.Builder_Extra_156 b o cd (xs.map str) (str [44]) w (by
   intro j x hx;rw [List.getElem?_map] at hx
   cases hq:xs[j]? with
   | none=>rw [hq] at hx;cases hx
   | some y=>rw [hq] at hx;simp only [Option.map_some,Option.some.injEq] at hx;subst hx;exact hcell j y hq)
   (World.block_lt_of_cell? _ _ (hcell 0 x0 hx0)) (by rw [List.length_map];exact hN) (by rw [List.length_map];exact hcap) (by rw [hm,Fl];exact hlen)
  rw [List.length_map,hm,Fl] at this;refine this.mono ?_;rintro e w' ⟨rfl,hb⟩
  exact ⟨M.below' hb,rfl⟩
theorem Pr {G:A4}:∀ (xs:List (List UInt8)),(∀ x∈xs,x.length≤9223372036854775807)→Els D3 1 G (xs.map fun x=>Value.string (str x)) xs
 | [],_=>rfl
 | x::xs,h=>⟨[.string (str x)],_,rfl,rfl,⟨rfl,h x (by simp)⟩,Pr xs (fun y hy=>h y (by simp [hy]))⟩
theorem Za (s:List UInt8):(Lib.splitB (str [44]) 0 (Lib.countB (str s) (str [44])) (str s)).map Value.string=(Ck s).map (fun x=>Value.string (str x)):=by
 have h:=Lib.splitB_data (str [44]) 0 (Lib.countB (str s) (str [44])) (str s);rw [Fl,Fl] at h;have h2:Lib.countB (str s) (str [44])=Lib.count s [44]:=by
  show Lib.count (str s).data.toList (str [44]).data.toList=_
  rw [Fl,Fl]
 rw [h2] at h ⊢
 show _=(Lib.splitK [44] 0 (Lib.count s [44]) s).map _
 rw [← h,List.map_map]
 exact List.map_congr_left fun x _=>rfl
theorem Aci (M:Mem w0 G L w) (HG:Globs 0 1 2 3 G) {s:List UInt8} (hs:s.length < 4294967281) :
  Calls Tryz.prog 102 #[.string (str s),.string (str [44])] w (Ret w0 G L fun G' v=>∃ a:Option Addr,v=.slice a (Ck s).length (Ck s).length∧Au D3 1 G' (.slice a (Ck s).length (Ck s).length) (Ck s)):=by
 obtain ⟨m,hm⟩:=HG.max;refine (Any.strings_Split Tryz.lays146 (by kernel_rfl) (str s) (str [44]) m w (by rw [Cx];exact hs) (M.cell hm) (by rw [Cx];decide)).mono ?_;rintro e w' ⟨rfl,rfl⟩;have hl:(Ck s).length=Lib.countB (str s) (str [44])+1:=by
  have h1:=Lib.splitB_all (str [44]) (by rw [Cx];decide) 0 _ (str s) rfl;rw [← h1,← List.length_map (f:=Value.string),Za,List.length_map]
 rw [Za,← hl];have hcb:=Lib.countB_le (str [44]) (by rw [Cx];decide) (str s).size (str s) (Nat.le_refl _);rw [Cx] at hcb;have hle:(Ck s).length≤4294967281:=by omega
 have M1:=M.newrow (t:=Tryz.lays146_ren.t 9) (sz:=1) (n:=(Ck s).length) (c:=(Ck s).length) (cs:=(Ck s).map fun x=>Value.string (str x)) (spare:=[])
  (by intro u hu;obtain ⟨x,_,rfl⟩:=List.mem_map.1 hu;rfl) (by simp) (by simp) (Nat.le_refl _) (by unfold maxLen;omega)
 rw [List.append_nil] at M1;obtain ⟨_,G',a,c,hG,he,S,M2⟩:=M1.freeze_row Bi (k:=0) rfl (Pr (Ck s) (fun x hx=>by have:=Ack hx;omega)) (by decide)
 exact ⟨G',hG,M2,_,rfl,S⟩
theorem Qg (M:Mem w0 G L w) (HG:Globs 0 1 2 3 G) {x:ItemD} {ma:Option Addr} {mc:Nat} (hI:(x.key < 18446744073709551616∧x.typ < 256∧x.text.length≤9223372036854775807)) (SM:Au D3 1 G (.slice ma x.marks.length mc) x.marks) (hok:ItemOk 8 x):Calls Tryz.prog 42 #[.agg #[.int .u64 ((x.key:Nat):Int),.int .u8 ((x.typ:Nat):Int),.string (str x.text),.slice ma x.marks.length mc]] w (Cs w0 G L fun v=>v=.string (str (Ep x))):=by
 obtain ⟨hI1,hI2,hI3⟩:=id hI;have hm8:=hok.2.2.2.1;have hj:=T3 hm8 hok.2.2.2.2;have htx:=hok.2.2.1.1;have hdk:=Ed x.key hI1;have hdt:=Ed x.typ (by omega);refine Ay (vs:=[_]) Tryz.func42 rfl (n:=25) rfl rfl<|Ac<|Cz M rfl rfl rfl<|?_;clear M;intro b1 w M
 refine Ab rfl<|Ac<|A0 Bf.k rfl rfl<|Bg Cw M 0 rfl rfl rfl rfl<|Bs ent97 rfl rfl (Aiv (xs:=x.marks) M SM (by omega) (by omega))<|?_;clear M;rintro _ w M rfl
 refine Ab rfl<|Ag<|Ac<|Aa rfl<|E3 rfl rfl<|Ap rfl ?_ ?_
 ·intro h2b;have h2:=dT h2b;refine Az<|Ab rfl<|Ag<|fun a F=>Fg [(.free,0),(.pure,1),(.free,4),(.pure,5),(.free,6),(.free,10),(.free,13),(.pure,14),(.keep,2),(.free,3),(.keep,7),(.free,8),(.free,9),(.free,11),(.free,12),(.free,15),(.free,16)] [] (Keep G [.blk b1 [.int .u64 ((x.key:Nat):Int),.int .u8 ((x.typ:Nat):Int),.string (str x.text),.slice ma x.marks.length mc] 26]) rfl (by kernel_rfl) (fun c a d v w h=>by cases d <;> exact h) (Bo (M.drew _)) ?_
  replace M:=M.drew (w.drawn+1);revert a;refine k_f (fun a F w _=>Ce Bf.k rfl F rfl) rfl<|k_p (fun a F w M=>Al (agf El rfl) (F.ev rfl) (M.cellL (k:=0) rfl rfl)) rfl<|k_f (fun a F w _=>Ce Bf.k rfl F rfl) rfl<|k_p (fun a F w M=>Al (agf Fa rfl) (F.ev rfl) (M.cellL (k:=0) rfl rfl)) rfl<|k_f (fun a F w _=>Ew Cg.k ⟨_,by rw [D7 Fa.k]⟩ (F.ev rfl) (C0 (by omega) (by omega))) rfl<|k_f (fun a F w _=>B1 F rfl) rfl<|k_f (fun a F w _=>Ce Bf.k rfl F rfl) rfl<|k_p (fun a F w M=>Al (agf Bq rfl) (F.ev rfl) (M.cellL (k:=0) rfl rfl)) rfl<|k_k rfl<|Bs ent98 rfl rfl (Age (u:=x.key) M HG (by omega))<|?_;clear M;rintro _ w M rfl
  refine eQ (Bo M)<|k_f (fun a F w _=>Dx (F.ev rfl) (F.ev rfl) (by (first | omega | (simp only [List.length_append,List.length_cons,List.length_nil];omega)))) rfl<|k_k rfl<|Bs Agl rfl rfl (Wk (u:=x.typ) M HG (by omega))<|?_;clear M;rintro _ w M rfl
  refine eQ (Bo M)<|k_f (fun a F w _=>Dx (F.ev rfl) (F.ev rfl) (by (first | omega | (simp only [List.length_append,List.length_cons,List.length_nil];omega)))) rfl<|k_f (fun a F w _=>Dx (F.ev rfl) (F.ev rfl) (by (first | omega | (simp only [List.length_append,List.length_cons,List.length_nil];omega)))) rfl<|k_f (fun a F w _=>Dx (F.ev rfl) (F.ev rfl) (by (first | omega | (simp only [List.length_append,List.length_cons,List.length_nil];omega)))) rfl<|k_f (fun a F w _=>Dx (F.ev rfl) (F.ev rfl) (by (first | omega | (simp only [List.length_append,List.length_cons,List.length_nil];omega)))) rfl<|k_f (fun a F w _=>Dx (F.ev rfl) (F.ev rfl) (by (first | omega | (simp only [List.length_append,List.length_cons,List.length_nil];omega)))) rfl<|k_f (fun a F w _=>G8 F rfl) rfl<|De<|Ae<|Ad rfl rfl<|?_
  exact ⟨M.weaken dS1,by first | rw [Wf (by assumption)] | rw [Wg (by assumption) hok]⟩
 intro h3b;have h3:=dF h3b;refine Aq<|Ag<|fun a F=>Fg [(.free,0),(.pure,1),(.free,4),(.pure,5),(.free,6),(.free,10),(.free,13),(.pure,14),(.keep,2),(.free,3),(.keep,7),(.free,8),(.free,9),(.free,11),(.free,12),(.free,15),(.free,16)] [] (Keep G [.blk b1 [.int .u64 ((x.key:Nat):Int),.int .u8 ((x.typ:Nat):Int),.string (str x.text),.slice ma x.marks.length mc] 26]) rfl (by kernel_rfl) (fun c a d v w h=>by cases d <;> exact h) (Bo (M.drew _)) ?_
 replace M:=M.drew (w.drawn+1);revert a;refine k_f (fun a F w _=>Ce Bf.k rfl F rfl) rfl<|k_p (fun a F w M=>Al (agf El rfl) (F.ev rfl) (M.cellL (k:=0) rfl rfl)) rfl<|k_f (fun a F w _=>Ce Bf.k rfl F rfl) rfl<|k_p (fun a F w M=>Al (agf Fa rfl) (F.ev rfl) (M.cellL (k:=0) rfl rfl)) rfl<|k_f (fun a F w _=>Ew Cg.k ⟨_,by rw [D7 Fa.k]⟩ (F.ev rfl) (C0 (by omega) (by omega))) rfl<|k_f (fun a F w _=>B1 F rfl) rfl<|k_f (fun a F w _=>Ce Bf.k rfl F rfl) rfl<|k_p (fun a F w M=>Al (agf Bq rfl) (F.ev rfl) (M.cellL (k:=0) rfl rfl)) rfl<|k_k rfl<|Bs ent98 rfl rfl (Age (u:=x.key) M HG (by omega))<|?_;clear M;rintro _ w M rfl
 refine eQ (Bo M)<|k_f (fun a F w _=>Dx (F.ev rfl) (F.ev rfl) (by (first | omega | (simp only [List.length_append,List.length_cons,List.length_nil];omega)))) rfl<|k_k rfl<|Bs Agl rfl rfl (Wk (u:=x.typ) M HG (by omega))<|?_;clear M;rintro _ w M rfl
 refine eQ (Bo M)<|k_f (fun a F w _=>Dx (F.ev rfl) (F.ev rfl) (by (first | omega | (simp only [List.length_append,List.length_cons,List.length_nil];omega)))) rfl<|k_f (fun a F w _=>Dx (F.ev rfl) (F.ev rfl) (by (first | omega | (simp only [List.length_append,List.length_cons,List.length_nil];omega)))) rfl<|k_f (fun a F w _=>Dx (F.ev rfl) (F.ev rfl) (by (first | omega | (simp only [List.length_append,List.length_cons,List.length_nil];omega)))) rfl<|k_f (fun a F w _=>Dx (F.ev rfl) (F.ev rfl) (by (first | omega | (simp only [List.length_append,List.length_cons,List.length_nil];omega)))) rfl<|k_f (fun a F w _=>Dx (F.ev rfl) (F.ev rfl) (by (first | omega | (simp only [List.length_append,List.length_cons,List.length_nil];omega)))) rfl<|k_f (fun a F w _=>G8 F rfl) rfl<|De<|Ae<|Ad rfl rfl<|?_
 exact ⟨M.weaken dS1,by first | rw [Wf (by assumption)] | rw [Wg (by assumption) hok]⟩
theorem Ahd (M:Mem w0 G L w) (HG:Globs 0 1 2 3 G) {a1:Option Addr} {c1:Nat} {xs:List ItemD} (S:Au Cv 4 G (.slice a1 xs.length c1) xs) :
  Calls Tryz.prog 11 #[.slice a1 xs.length c1] w (Cs w0 G L fun v=>v=.tuple #[.string (str (L3 xs)),.int .i64 (Ki xs)]):=by
 have bS:=S.bound;refine Ay (vs:=[_]) Tryz.func11 rfl (n:=28) rfl rfl<|Ac<|Ab rfl<|Ab rfl<|Ag<|Ac<|Aa rfl<|B8 B9.k rfl<|Da rfl rfl<|Ap rfl ?_ ?_
 ·intro h1b;have h1:=dT h1b;refine Ac<|Ab rfl<|Ab rfl<|Ae<|D6 rfl rfl rfl<|?_
  exact ⟨M,by rw [(Sl (by omega)).1,(Sl (by omega)).2];rfl⟩
 intro h2b;have h2:=dF h2b;refine Aq<|Ac<|C9 M Hr rfl rfl<|?_;clear M;intro b3 w M
 refine Ag<|Ag<|?_
 change Mem w0 G (_::L) _ at M;have M:=(M.nilrow 5 1).perm (List.Perm.swap _ _ _);intro a F;rw [show ([]:List Value)=bc [] from rfl] at M;revert a;refine Az<|Aa rfl<|B8 B9.k rfl<|Aa rfl<|Ax<|fun a F=>Bz (fun m a' w'=>∃ (i:Nat),∃ (am:Option Addr),∃ (nm:Nat),∃ (cm:Nat),∃ (pm:Value),m=xs.length - i∧Fits 28 a' [(0,.slice a1 xs.length c1),(4,.pointer (some ⟨b3,0,none⟩)),(11,.slice a1 xs.length c1),(12,.int .i64 ((xs.length:Nat):Int)),(13,.int .i64 ((i:Nat):Int))]∧Mem w0 G (.blk b3 [pm,.slice am nm cm] 101::.row (.slice am nm cm) (nm) (bc (Dg (xs.take i))) 5 1::L) w'∧(i≤xs.length)∧((Dg (xs.take i)).length≤301 * i)∧(∀ (m:Nat) (x:ItemD),m < i→xs[m]?=some x→ItemOk 8 x)∧(pm=.pointer none∨pm=.pointer (some ⟨b3,0,none⟩))∧(nm=(Dg (xs.take i)).length)∧((Dg (xs.take i))=[]→am=none)) _ ⟨0,(none),(0),(0),(.pointer none),rfl,F.to ⟨rfl,rfl,rfl,rfl,rfl,trivial⟩,M,Nat.zero_le _,by simp [Dg],fun m x h=>by omega,(Or.inl rfl),rfl,(fun _=>rfl)⟩ ?_
 clear F M;rintro m a w ⟨i,am,nm,cm,pm,rfl,F,M,hi,hlen,hA,hpm,hnm,hnilm⟩;revert a;refine Ac<|C2 rfl rfl<|Ag<|Ap rfl ?_ ?_
 ·intro h5b;have h5:=dT h5b;refine Aq<|Ag<|Ax<|Ac<|?_
  obtain ⟨Xe6,hXe6⟩:=A2 (xs:=xs) (i:=i) (by omega);obtain ⟨be6,oe6,_,Ie6,_,Ae6,hTe6⟩:=S.at hXe6;obtain ⟨mae6,mce6,rfl,hke6,hte6,hxe6,hne6,SMe6⟩:=hTe6;have hIe6:(Xe6.key < 18446744073709551616∧Xe6.typ < 256∧Xe6.text.length≤9223372036854775807):=⟨hke6,hte6,hxe6⟩;refine D0 B9.k Bf Ie6 rfl rfl<|Ar (fun a F=>Af Bf rfl (F.ev rfl) (cs:=[.int .u64 ((Xe6.key:Nat):Int),.int .u8 ((Xe6.typ:Nat):Int),.string (str Xe6.text),.slice mae6 Xe6.marks.length mce6]) rfl (M.cellsA Ae6 0 (by omega) rfl)) rfl<|C9 M Bf rfl rfl<|?_;clear M;intro b7 w M
  intro a F;refine Cj F M Bf 0 ?_;clear F M a;intro w a M F;change Mem w0 G (.blk b7 [.int .u64 ((Xe6.key:Nat):Int),.int .u8 ((Xe6.typ:Nat):Int),.string (str Xe6.text),.slice mae6 Xe6.marks.length mce6] 26::_::_::L) _ at M;revert a;refine Ag<|Ac<|Ar (fun a F=>Af Bf rfl (F.ev rfl) (cs:=[.int .u64 ((Xe6.key:Nat):Int),.int .u8 ((Xe6.typ:Nat):Int),.string (str Xe6.text),.slice mae6 Xe6.marks.length mce6]) rfl (M.cellsL (k:=0) rfl rfl)) rfl<|Bs Aay rfl rfl (J9 (x:=Xe6) (t:=8) M hIe6 SMe6)<|?_;clear M;rintro _ w M rfl
  refine Ab rfl<|Ac<|Aa rfl<|Fh rfl rfl<|Ap rfl ?_ ?_
  ·intro h9b;have h9:=dF (Ah h9b);refine Ac<|Aa rfl<|Ab rfl<|Ab rfl<|Ae<|D6 rfl rfl rfl<|?_
   exact ⟨(M.weaken (cN (.cons _ (cN (sR _))))),by rw [(Sm (by omega) (Lb.no hXe6 (fun h_=>by have:=Dt h_;omega))).1,(Sm (by omega) (Lb.no hXe6 (fun h_=>by have:=Dt h_;omega))).2,E8 (fun h_=>by have:=Dt h_;omega)];rfl⟩
  intro h10b;have h10:=dT (Ai h10b);refine Aq<|Cm<|?_
  have hokX:ItemOk 8 Xe6:=Dv.1 (by omega);refine Az<|Ar (fun a F=>Af Bf rfl (F.ev rfl) (cs:=[.int .u64 ((Xe6.key:Nat):Int),.int .u8 ((Xe6.typ:Nat):Int),.string (str Xe6.text),.slice mae6 Xe6.marks.length mce6]) rfl (M.cellsL (k:=0) rfl rfl)) rfl<|Bs Amv rfl rfl (Qg (x:=Xe6) M HG hIe6 SMe6 hokX)<|?_;clear M;rintro _ w M rfl
  have hlll11:=Pk (x:=Xe6) hokX hIe6.1 hIe6.2.1;refine Ar (fun a F=>Dx (F.ev rfl) (F.ev rfl) (by (first | omega | (simp only [List.length_append,List.length_cons,List.length_nil];omega)))) rfl<|?_
  replace M:=M.perm (Ao _ 2 _ rfl);replace M:=M.perm (Ao _ 2 _ rfl);change Mem w0 G (_::_::.blk b7 [.int .u64 ((Xe6.key:Nat):Int),.int .u8 ((Xe6.typ:Nat):Int),.string (str Xe6.text),.slice mae6 Xe6.marks.length mce6] 26::L) _ at M;refine P6 Agn rfl rfl (M0 (s:=((Ep Xe6)++([10]:List UInt8))) hpm M hnm hnilm (by (first | omega | (simp only [List.length_append,List.length_cons,List.length_nil];omega))))<|?_;clear M;rintro _ _ w M ⟨rfl,au12,nu12,cu12,rfl,hnu12,hnilu12⟩
  refine Az<|Bx rfl rfl<|Aa rfl<|Bc<|Cm<|?_
  have hsn:(Dg (xs.take i))++((Ep Xe6)++([10]:List UInt8))=Dg (xs.take (i+1)):=by rw [Acb hXe6]
  intro a F;rw [hsn] at M hnu12 hnilu12
  exact ⟨_,by omega,i+1,(au12),(nu12),(cu12),(.pointer (some ⟨b3,0,none⟩)),rfl,F.to ⟨rfl,rfl,rfl,rfl,rfl,trivial⟩,(M.weaken (cC (.cons_cons _ (cN (sR _))))),by omega,by rw [← hsn];simp only [List.length_append,List.length_cons,List.length_nil];omega,Fo hA hXe6 hokX,(Or.inr rfl),hnu12,hnilu12⟩
 intro h13b;have h13:=dF h13b;refine B5<|Bw<|Bw<|Dj<|Ac<|?_
 replace M:=M.perm (Ao _ 1 _ rfl);replace M:=M.perm (Ao _ 1 _ rfl);change Mem w0 G (_::_::L) _ at M;refine Bs ent43 rfl rfl (W5 M hnm hnilm)<|?_;clear M;rintro _ w M rfl
 refine Ab rfl<|Ab rfl<|Ae<|D6 rfl rfl rfl<|?_
 exact ⟨M,by rw [(Xh (by omega) (Fj hA (by omega))).1,(Xh (by omega) (Fj hA (by omega))).2,List.take_of_length_le (by omega)]⟩
theorem Aiw {w0 w:World} {G:A4} {L:List Res} (M:Mem w0 G L w) (HG:Globs 0 1 2 3 G) {s:List UInt8} (hs:s.length≤1048577):Calls Tryz.prog 45 #[.string (str s)] w (Ret w0 G L fun G' v=>∃ (x:ItemD) (ma:Option Addr) (mc:Nat) (b:Bool),v=.tuple #[.agg #[.int .u64 ((x.key:Nat):Int),.int .u8 ((x.typ:Nat):Int),.string (str x.text),.slice ma x.marks.length mc],.bool b]∧(x.key < 18446744073709551616∧x.typ < 256∧x.text.length≤9223372036854775807)∧Au D3 1 G' (.slice ma x.marks.length mc) x.marks∧(b=true→Rd8 s x)∧(b=false→∀ y,¬ Rd8 s y)):=by
 refine Ay (vs:=[_]) Tryz.func45 rfl (n:=72) rfl rfl<|Ac<|C9 M Bf rfl rfl<|?_;clear M;intro b1 w M
 refine Ab rfl<|Ac<|Aa rfl<|Bs Um rfl rfl (Mw (s:=s) (sep:=([32]:List UInt8)) M HG (by omega))<|?_;clear M;rintro _ w M rfl
 have hclc3:=I9 32 s;refine Aa rfl<|Df rfl rfl<|Df rfl rfl<|Df rfl rfl<|Ab rfl<|Ab rfl<|Ab rfl<|Ac<|Aa rfl<|Bs Um rfl rfl (Mw (s:=(Lib.cut s [32]).2.1) (sep:=([32]:List UInt8)) M HG (by omega))<|?_;clear M;rintro _ w M rfl
 have hclc4:=I9 32 ((Lib.cut s [32]).2.1);refine Aa rfl<|Df rfl rfl<|Df rfl rfl<|Df rfl rfl<|Ab rfl<|Ab rfl<|Ab rfl<|Ac<|Aa rfl<|Bs Um rfl rfl (Mw (s:=(Lib.cut ((Lib.cut s [32]).2.1) [32]).2.1) (sep:=([32]:List UInt8)) M HG (by omega))<|?_;clear M;rintro _ w M rfl
 have hclc5:=I9 32 ((Lib.cut ((Lib.cut s [32]).2.1) [32]).2.1);refine Aa rfl<|Df rfl rfl<|Df rfl rfl<|Df rfl rfl<|Ab rfl<|Ab rfl<|Ab rfl<|Ac<|Aa rfl<|Bs Aov rfl rfl (Aib (s:=(Lib.cut s [32]).1) M HG (by omega))<|?_;clear M;rintro _ w M ⟨u6,eru6,rfl,hiu6,hpuu6⟩
 have hltu6:=hpuu6.1;refine Aa rfl<|Df rfl rfl<|Df rfl rfl<|Ab rfl<|Ab rfl<|Ac<|Aa rfl<|Bs Aov rfl rfl (Ala (s:=(Lib.cut ((Lib.cut s [32]).2.1) [32]).1) M HG (by omega))<|?_;clear M;rintro _ w M ⟨u7,eru7,rfl,hiu7,hpuu7⟩
 have hltu7:=hpuu7.1;refine Aa rfl<|Df rfl rfl<|Df rfl rfl<|Ab rfl<|Ab rfl<|Ac<|Aa rfl<|Aa rfl<|Ar (fun a F=>Ew Fa.k ⟨_,by rw [D7 El.k]⟩ (F.ev rfl) (in_u8 (by omega) (by omega))) rfl<|Aa rfl<|Ar (fun a F=>A3 (cs:=[.int .u64 ((u6:Nat):Int),.int .u8 ((u7:Nat):Int),.string (str ((Lib.cut ((Lib.cut ((Lib.cut s [32]).2.1) [32]).2.1) ([32]:List UInt8)).2.1)),.slice none 0 0]) (ps:=[(0,.int .u64 ((u6:Nat):Int)),(1,.int .u8 ((u7:Nat):Int)),(2,.string (str ((Lib.cut ((Lib.cut ((Lib.cut s [32]).2.1) [32]).2.1) ([32]:List UInt8)).2.1)))]) Bf.k rfl Bf (F.evp rfl) rfl) rfl<|fun a F=>?_
 refine Cj F M Bf 0 ?_;clear F M a;intro w a M F;change Mem w0 G (.blk b1 [.int .u64 ((u6:Nat):Int),.int .u8 ((u7:Nat):Int),.string (str ((Lib.cut ((Lib.cut ((Lib.cut s [32]).2.1) [32]).2.1) ([32]:List UInt8)).2.1)),.slice none 0 0] 26::L) _ at M;revert a;refine Ag<|Ac<|Aa rfl<|Mg rfl rfl<|Ap rfl ?_ ?_
 ·intro h8b;have h8:=dF (Ah h8b);have h8c:(decide (((Lib.cut ((Lib.cut ((Lib.cut s [32]).2.1) [32]).2.1) ([32]:List UInt8)).1)=([45]:List UInt8)))=false:=(Ah h8b);refine Az<|Aa rfl<|Ge Aou rfl rfl (Aci (s:=(Lib.cut ((Lib.cut ((Lib.cut s [32]).2.1) [32]).2.1) ([32]:List UInt8)).1) M HG (by omega))<|?_;clear M;rintro _ Gp9 w hGp9 M ⟨ap9,rfl,Sp9⟩
  replace HG:=HG.mono hGp9;refine A0 Bf.k rfl rfl<|Gd Cw M 0 rfl rfl rfl rfl rfl rfl<|?_;clear M;intro w M
  refine Ag<|?_
  have hII10:((⟨u6,u7,(Lib.cut ((Lib.cut ((Lib.cut s [32]).2.1) [32]).2.1) ([32]:List UInt8)).2.1,Ck ((Lib.cut ((Lib.cut ((Lib.cut s [32]).2.1) [32]).2.1) ([32]:List UInt8)).1)⟩:ItemD).key < 18446744073709551616∧(⟨u6,u7,(Lib.cut ((Lib.cut ((Lib.cut s [32]).2.1) [32]).2.1) ([32]:List UInt8)).2.1,Ck ((Lib.cut ((Lib.cut ((Lib.cut s [32]).2.1) [32]).2.1) ([32]:List UInt8)).1)⟩:ItemD).typ < 256∧(⟨u6,u7,(Lib.cut ((Lib.cut ((Lib.cut s [32]).2.1) [32]).2.1) ([32]:List UInt8)).2.1,Ck ((Lib.cut ((Lib.cut ((Lib.cut s [32]).2.1) [32]).2.1) ([32]:List UInt8)).1)⟩:ItemD).text.length≤9223372036854775807):=⟨by show u6 < _;omega,by show u7 < _;omega,by show ((Lib.cut ((Lib.cut ((Lib.cut s [32]).2.1) [32]).2.1) ([32]:List UInt8)).2.1).length≤_;omega⟩;intro a F;refine Fg [(.pure,0),(.free,1),(.free,2),(.free,3),(.free,4),(.free,5),(.free,6),(.free,7),(.pure,8),(.keep,9),(.free,10),(.free,11),(.free,12),(.pure,13),(.free,15),(.keep,14),(.free,16),(.free,17),(.chg,18),(.free,19)] [18] (Keep Gp9 [.blk b1 [.int .u64 ((u6:Nat):Int),.int .u8 ((u7:Nat):Int),.string (str ((Lib.cut ((Lib.cut ((Lib.cut s [32]).2.1) [32]).2.1) ([32]:List UInt8)).2.1)),.slice ap9 ((Ck ((Lib.cut ((Lib.cut ((Lib.cut s [32]).2.1) [32]).2.1) ([32]:List UInt8)).1)).length) ((Ck ((Lib.cut ((Lib.cut ((Lib.cut s [32]).2.1) [32]).2.1) ([32]:List UInt8)).1)).length)] 26]) rfl (by kernel_rfl) (fun c a d v w h=>by cases d <;> exact h) (Bo (M.drew _)) ?_;replace M:=M.drew (w.drawn+1);revert a;refine k_p (fun a F w M=>Af Bf rfl (F.ev rfl) (cs:=[.int .u64 ((u6:Nat):Int),.int .u8 ((u7:Nat):Int),.string (str ((Lib.cut ((Lib.cut ((Lib.cut s [32]).2.1) [32]).2.1) ([32]:List UInt8)).2.1)),.slice ap9 ((Ck ((Lib.cut ((Lib.cut ((Lib.cut s [32]).2.1) [32]).2.1) ([32]:List UInt8)).1)).length) ((Ck ((Lib.cut ((Lib.cut ((Lib.cut s [32]).2.1) [32]).2.1) ([32]:List UInt8)).1)).length)]) rfl (M.cellsL (k:=0) rfl rfl)) rfl<|k_f (fun a F w _=>B1 F rfl) rfl<|k_f (fun a F w _=>Lh Sk.k hiu6 (F.ev rfl) rfl) rfl<|k_f (fun a F w _=>B1 F rfl) rfl<|?_
  rcases bE (Ef eru6) with h11b | h17b
  ·skip
   have h11:(Ef eru6)=true:=h11b;refine Cb rfl h11b (fun a F w _=>B1 F rfl)<|Cb rfl h11b (fun a F w _=>Lh Sk.k hiu7 (F.ev rfl) rfl)<|k_f (fun a F w _=>F5 F rfl h11b rfl) rfl<|k_f (fun a F w _=>B1 F rfl) rfl<|?_
   rcases bE (Ef eru7) with h12b | h16b
   ·skip
    have h12:(Ef eru7)=true:=h12b;refine Gk rfl h12b (fun a F w M=>Af Bf rfl (F.ev rfl) (cs:=[.int .u64 ((u6:Nat):Int),.int .u8 ((u7:Nat):Int),.string (str ((Lib.cut ((Lib.cut ((Lib.cut s [32]).2.1) [32]).2.1) ([32]:List UInt8)).2.1)),.slice ap9 ((Ck ((Lib.cut ((Lib.cut ((Lib.cut s [32]).2.1) [32]).2.1) ([32]:List UInt8)).1)).length) ((Ck ((Lib.cut ((Lib.cut ((Lib.cut s [32]).2.1) [32]).2.1) ([32]:List UInt8)).1)).length)]) rfl (M.cellsL (k:=0) rfl rfl))<|fun a F=>G3 F rfl rfl h12b ?_
    revert a;refine g_t rfl h12b<|Bs Aay rfl rfl (J9 (x:=(⟨u6,u7,(Lib.cut ((Lib.cut ((Lib.cut s [32]).2.1) [32]).2.1) ([32]:List UInt8)).2.1,Ck ((Lib.cut ((Lib.cut ((Lib.cut s [32]).2.1) [32]).2.1) ([32]:List UInt8)).1)⟩:ItemD)) (t:=8) M hII10 Sp9)<|?_;clear M;rintro _ w M rfl
    refine eQ (Bo M)<|Cb rfl h12b (fun a F w _=>Rz (F.ev rfl) (F.ev rfl))<|k_f (fun a F w _=>F5 F rfl h12b rfl) rfl<|k_f (fun a F w _=>B1 F rfl) rfl<|?_
    rcases bE (decide (Hm 8 ((⟨u6,u7,(Lib.cut ((Lib.cut ((Lib.cut s [32]).2.1) [32]).2.1) ([32]:List UInt8)).2.1,Ck ((Lib.cut ((Lib.cut ((Lib.cut s [32]).2.1) [32]).2.1) ([32]:List UInt8)).1)⟩:ItemD))=0)) with h13b | h15b
    ·skip
     have h13:=dT h13b;refine Gk rfl h13b (fun a F w M=>Af Bf rfl (F.ev rfl) (cs:=[.int .u64 ((u6:Nat):Int),.int .u8 ((u7:Nat):Int),.string (str ((Lib.cut ((Lib.cut ((Lib.cut s [32]).2.1) [32]).2.1) ([32]:List UInt8)).2.1)),.slice ap9 ((Ck ((Lib.cut ((Lib.cut ((Lib.cut s [32]).2.1) [32]).2.1) ([32]:List UInt8)).1)).length) ((Ck ((Lib.cut ((Lib.cut ((Lib.cut s [32]).2.1) [32]).2.1) ([32]:List UInt8)).1)).length)]) rfl (M.cellsL (k:=0) rfl rfl))<|Cb rfl h13b (fun a F w _=>B1 F rfl)<|fun a F=>G3 F rfl rfl h13b ?_
     revert a;refine g_t rfl h13b<|Bs Amv rfl rfl (Qg (x:=(⟨u6,u7,(Lib.cut ((Lib.cut ((Lib.cut s [32]).2.1) [32]).2.1) ([32]:List UInt8)).2.1,Ck ((Lib.cut ((Lib.cut ((Lib.cut s [32]).2.1) [32]).2.1) ([32]:List UInt8)).1)⟩:ItemD)) M HG hII10 Sp9 (Dv.1 (by assumption)))<|?_;clear M;rintro _ w M rfl
     have hlll14:=Pk (x:=(⟨u6,u7,(Lib.cut ((Lib.cut ((Lib.cut s [32]).2.1) [32]).2.1) ([32]:List UInt8)).2.1,Ck ((Lib.cut ((Lib.cut ((Lib.cut s [32]).2.1) [32]).2.1) ([32]:List UInt8)).1)⟩:ItemD)) (Dv.1 (by assumption)) hII10.1 hII10.2.1;refine eQ (Bo M)<|Cb rfl h13b (fun a F w _=>K3 (F.ev rfl) (F.ev rfl))<|k_f (fun a F w _=>F5 F rfl h13b rfl) rfl<|k_c rfl<|fun a F=>?_
     refine Cj F M Bf 0 ?_;clear F M a;intro w a M F;change Mem w0 Gp9 (.blk b1 [.int .u64 ((u6:Nat):Int),.int .u8 ((u7:Nat):Int),.string (str ((Lib.cut ((Lib.cut ((Lib.cut s [32]).2.1) [32]).2.1) ([32]:List UInt8)).2.1)),.slice ap9 ((Ck ((Lib.cut ((Lib.cut ((Lib.cut s [32]).2.1) [32]).2.1) ([32]:List UInt8)).1)).length) ((Ck ((Lib.cut ((Lib.cut ((Lib.cut s [32]).2.1) [32]).2.1) ([32]:List UInt8)).1)).length)] 26::L) _ at M;revert a;refine Bc<|fun a F=>⟨Keep Gp9 [.blk b1 [.int .u64 ((u6:Nat):Int),.int .u8 ((u7:Nat):Int),.string (str ((Lib.cut ((Lib.cut ((Lib.cut s [32]).2.1) [32]).2.1) ([32]:List UInt8)).2.1)),.slice ap9 ((Ck ((Lib.cut ((Lib.cut ((Lib.cut s [32]).2.1) [32]).2.1) ([32]:List UInt8)).1)).length) ((Ck ((Lib.cut ((Lib.cut ((Lib.cut s [32]).2.1) [32]).2.1) ([32]:List UInt8)).1)).length)] 26],M.keep (Gle.refl _) (by simp),?_⟩
     revert a;refine k_f (fun a F w _=>G8 F rfl) rfl<|De<|Ae<|fun a F=>Cn F M (k:=0) rfl rfl Bf rfl rfl rfl rfl ?_
     refine ⟨_,hGp9,M.weaken dS1,(⟨u6,u7,(Lib.cut ((Lib.cut ((Lib.cut s [32]).2.1) [32]).2.1) ([32]:List UInt8)).2.1,Ck ((Lib.cut ((Lib.cut ((Lib.cut s [32]).2.1) [32]).2.1) ([32]:List UInt8)).1)⟩:ItemD),ap9,(Ck ((Lib.cut ((Lib.cut ((Lib.cut s [32]).2.1) [32]).2.1) ([32]:List UInt8)).1)).length,(decide ((Ep ((⟨u6,u7,(Lib.cut ((Lib.cut ((Lib.cut s [32]).2.1) [32]).2.1) ([32]:List UInt8)).2.1,Ck ((Lib.cut ((Lib.cut ((Lib.cut s [32]).2.1) [32]).2.1) ([32]:List UInt8)).1)⟩:ItemD)))=s)),rfl,hII10,Sp9,?_,?_⟩
     ·intro hb_;first | (cases hb_;done) | exact ⟨Dv.1 (by assumption),hII10.1,dT hb_⟩
     intro hb_ y hy;obtain ⟨q1,q2,q3⟩:=H5 hy hpuu6 (by omega) hpuu7;unfold J5 at q3;first | rw [if_neg (by assumption)] at q3 | rw [if_pos (by assumption)] at q3
     first | exact absurd (show true=false from q1.symm.trans (by assumption)) (by decide) | exact absurd (show true=false from q2.symm.trans (by assumption)) (by decide) | exact absurd (show Hm 8 (⟨u6,u7,(Lib.cut ((Lib.cut ((Lib.cut s [32]).2.1) [32]).2.1) ([32]:List UInt8)).2.1,Ck ((Lib.cut ((Lib.cut ((Lib.cut s [32]).2.1) [32]).2.1) ([32]:List UInt8)).1)⟩:ItemD)=0 by rw [q3];exact Dt hy.1) (by assumption) | exact absurd (show Ep (⟨u6,u7,(Lib.cut ((Lib.cut ((Lib.cut s [32]).2.1) [32]).2.1) ([32]:List UInt8)).2.1,Ck ((Lib.cut ((Lib.cut ((Lib.cut s [32]).2.1) [32]).2.1) ([32]:List UInt8)).1)⟩:ItemD)=s by rw [q3];exact hy.2.2) (dF hb_)
    have h15:=dF h15b;refine k_s rfl h15b<|k_s rfl h15b<|k_s rfl h15b<|k_s rfl h15b<|k_f (fun a F w _=>Fx F rfl h15b rfl) rfl<|k_c rfl<|fun a F=>?_
    refine Cj F M Bf 0 ?_;clear F M a;intro w a M F;change Mem w0 Gp9 (.blk b1 [.int .u64 ((u6:Nat):Int),.int .u8 ((u7:Nat):Int),.string (str ((Lib.cut ((Lib.cut ((Lib.cut s [32]).2.1) [32]).2.1) ([32]:List UInt8)).2.1)),.slice ap9 ((Ck ((Lib.cut ((Lib.cut ((Lib.cut s [32]).2.1) [32]).2.1) ([32]:List UInt8)).1)).length) ((Ck ((Lib.cut ((Lib.cut ((Lib.cut s [32]).2.1) [32]).2.1) ([32]:List UInt8)).1)).length)] 26::L) _ at M;revert a;refine Bc<|fun a F=>⟨Keep Gp9 [.blk b1 [.int .u64 ((u6:Nat):Int),.int .u8 ((u7:Nat):Int),.string (str ((Lib.cut ((Lib.cut ((Lib.cut s [32]).2.1) [32]).2.1) ([32]:List UInt8)).2.1)),.slice ap9 ((Ck ((Lib.cut ((Lib.cut ((Lib.cut s [32]).2.1) [32]).2.1) ([32]:List UInt8)).1)).length) ((Ck ((Lib.cut ((Lib.cut ((Lib.cut s [32]).2.1) [32]).2.1) ([32]:List UInt8)).1)).length)] 26],M.keep (Gle.refl _) (by simp),?_⟩
    revert a;refine k_f (fun a F w _=>G8 F rfl) rfl<|De<|Ae<|fun a F=>Cn F M (k:=0) rfl rfl Bf rfl rfl rfl rfl ?_
    refine ⟨_,hGp9,M.weaken dS1,(⟨u6,u7,(Lib.cut ((Lib.cut ((Lib.cut s [32]).2.1) [32]).2.1) ([32]:List UInt8)).2.1,Ck ((Lib.cut ((Lib.cut ((Lib.cut s [32]).2.1) [32]).2.1) ([32]:List UInt8)).1)⟩:ItemD),ap9,(Ck ((Lib.cut ((Lib.cut ((Lib.cut s [32]).2.1) [32]).2.1) ([32]:List UInt8)).1)).length,false,rfl,hII10,Sp9,?_,?_⟩
    ·intro hb_;first | (cases hb_;done) | exact ⟨Dv.1 (by assumption),hII10.1,dT hb_⟩
    intro hb_ y hy;obtain ⟨q1,q2,q3⟩:=H5 hy hpuu6 (by omega) hpuu7;unfold J5 at q3;first | rw [if_neg (by assumption)] at q3 | rw [if_pos (by assumption)] at q3
    first | exact absurd (show true=false from q1.symm.trans (by assumption)) (by decide) | exact absurd (show true=false from q2.symm.trans (by assumption)) (by decide) | exact absurd (show Hm 8 (⟨u6,u7,(Lib.cut ((Lib.cut ((Lib.cut s [32]).2.1) [32]).2.1) ([32]:List UInt8)).2.1,Ck ((Lib.cut ((Lib.cut ((Lib.cut s [32]).2.1) [32]).2.1) ([32]:List UInt8)).1)⟩:ItemD)=0 by rw [q3];exact Dt hy.1) (by assumption) | exact absurd (show Ep (⟨u6,u7,(Lib.cut ((Lib.cut ((Lib.cut s [32]).2.1) [32]).2.1) ([32]:List UInt8)).2.1,Ck ((Lib.cut ((Lib.cut ((Lib.cut s [32]).2.1) [32]).2.1) ([32]:List UInt8)).1)⟩:ItemD)=s by rw [q3];exact hy.2.2) (dF hb_)
   have h16:(Ef eru7)=false:=h16b;refine k_s rfl h16b<|k_s rfl h16b<|k_s rfl h16b<|k_f (fun a F w _=>Fx F rfl h16b rfl) rfl<|k_f (fun a F w _=>B1 F rfl) rfl<|k_s rfl rfl<|k_s rfl rfl<|k_s rfl rfl<|k_s rfl rfl<|k_f (fun a F w _=>Fx F rfl rfl rfl) rfl<|k_c rfl<|fun a F=>?_
   refine Cj F M Bf 0 ?_;clear F M a;intro w a M F;change Mem w0 Gp9 (.blk b1 [.int .u64 ((u6:Nat):Int),.int .u8 ((u7:Nat):Int),.string (str ((Lib.cut ((Lib.cut ((Lib.cut s [32]).2.1) [32]).2.1) ([32]:List UInt8)).2.1)),.slice ap9 ((Ck ((Lib.cut ((Lib.cut ((Lib.cut s [32]).2.1) [32]).2.1) ([32]:List UInt8)).1)).length) ((Ck ((Lib.cut ((Lib.cut ((Lib.cut s [32]).2.1) [32]).2.1) ([32]:List UInt8)).1)).length)] 26::L) _ at M;revert a;refine Bc<|fun a F=>⟨Keep Gp9 [.blk b1 [.int .u64 ((u6:Nat):Int),.int .u8 ((u7:Nat):Int),.string (str ((Lib.cut ((Lib.cut ((Lib.cut s [32]).2.1) [32]).2.1) ([32]:List UInt8)).2.1)),.slice ap9 ((Ck ((Lib.cut ((Lib.cut ((Lib.cut s [32]).2.1) [32]).2.1) ([32]:List UInt8)).1)).length) ((Ck ((Lib.cut ((Lib.cut ((Lib.cut s [32]).2.1) [32]).2.1) ([32]:List UInt8)).1)).length)] 26],M.keep (Gle.refl _) (by simp),?_⟩
   revert a;refine k_f (fun a F w _=>G8 F rfl) rfl<|De<|Ae<|fun a F=>Cn F M (k:=0) rfl rfl Bf rfl rfl rfl rfl ?_
   refine ⟨_,hGp9,M.weaken dS1,(⟨u6,u7,(Lib.cut ((Lib.cut ((Lib.cut s [32]).2.1) [32]).2.1) ([32]:List UInt8)).2.1,Ck ((Lib.cut ((Lib.cut ((Lib.cut s [32]).2.1) [32]).2.1) ([32]:List UInt8)).1)⟩:ItemD),ap9,(Ck ((Lib.cut ((Lib.cut ((Lib.cut s [32]).2.1) [32]).2.1) ([32]:List UInt8)).1)).length,false,rfl,hII10,Sp9,?_,?_⟩
   ·intro hb_;first | (cases hb_;done) | exact ⟨Dv.1 (by assumption),hII10.1,dT hb_⟩
   intro hb_ y hy;obtain ⟨q1,q2,q3⟩:=H5 hy hpuu6 (by omega) hpuu7;unfold J5 at q3;first | rw [if_neg (by assumption)] at q3 | rw [if_pos (by assumption)] at q3
   first | exact absurd (show true=false from q1.symm.trans (by assumption)) (by decide) | exact absurd (show true=false from q2.symm.trans (by assumption)) (by decide) | exact absurd (show Hm 8 (⟨u6,u7,(Lib.cut ((Lib.cut ((Lib.cut s [32]).2.1) [32]).2.1) ([32]:List UInt8)).2.1,Ck ((Lib.cut ((Lib.cut ((Lib.cut s [32]).2.1) [32]).2.1) ([32]:List UInt8)).1)⟩:ItemD)=0 by rw [q3];exact Dt hy.1) (by assumption) | exact absurd (show Ep (⟨u6,u7,(Lib.cut ((Lib.cut ((Lib.cut s [32]).2.1) [32]).2.1) ([32]:List UInt8)).2.1,Ck ((Lib.cut ((Lib.cut ((Lib.cut s [32]).2.1) [32]).2.1) ([32]:List UInt8)).1)⟩:ItemD)=s by rw [q3];exact hy.2.2) (dF hb_)
  have h17:(Ef eru6)=false:=h17b;refine k_s rfl h17b<|k_s rfl h17b<|k_f (fun a F w _=>Fx F rfl h17b rfl) rfl<|k_f (fun a F w _=>B1 F rfl) rfl<|k_s rfl rfl<|k_s rfl rfl<|k_s rfl rfl<|k_f (fun a F w _=>Fx F rfl rfl rfl) rfl<|k_f (fun a F w _=>B1 F rfl) rfl<|k_s rfl rfl<|k_s rfl rfl<|k_s rfl rfl<|k_s rfl rfl<|k_f (fun a F w _=>Fx F rfl rfl rfl) rfl<|k_c rfl<|fun a F=>?_
  refine Cj F M Bf 0 ?_;clear F M a;intro w a M F;change Mem w0 Gp9 (.blk b1 [.int .u64 ((u6:Nat):Int),.int .u8 ((u7:Nat):Int),.string (str ((Lib.cut ((Lib.cut ((Lib.cut s [32]).2.1) [32]).2.1) ([32]:List UInt8)).2.1)),.slice ap9 ((Ck ((Lib.cut ((Lib.cut ((Lib.cut s [32]).2.1) [32]).2.1) ([32]:List UInt8)).1)).length) ((Ck ((Lib.cut ((Lib.cut ((Lib.cut s [32]).2.1) [32]).2.1) ([32]:List UInt8)).1)).length)] 26::L) _ at M;revert a;refine Bc<|fun a F=>⟨Keep Gp9 [.blk b1 [.int .u64 ((u6:Nat):Int),.int .u8 ((u7:Nat):Int),.string (str ((Lib.cut ((Lib.cut ((Lib.cut s [32]).2.1) [32]).2.1) ([32]:List UInt8)).2.1)),.slice ap9 ((Ck ((Lib.cut ((Lib.cut ((Lib.cut s [32]).2.1) [32]).2.1) ([32]:List UInt8)).1)).length) ((Ck ((Lib.cut ((Lib.cut ((Lib.cut s [32]).2.1) [32]).2.1) ([32]:List UInt8)).1)).length)] 26],M.keep (Gle.refl _) (by simp),?_⟩
  revert a;refine k_f (fun a F w _=>G8 F rfl) rfl<|De<|Ae<|fun a F=>Cn F M (k:=0) rfl rfl Bf rfl rfl rfl rfl ?_
  refine ⟨_,hGp9,M.weaken dS1,(⟨u6,u7,(Lib.cut ((Lib.cut ((Lib.cut s [32]).2.1) [32]).2.1) ([32]:List UInt8)).2.1,Ck ((Lib.cut ((Lib.cut ((Lib.cut s [32]).2.1) [32]).2.1) ([32]:List UInt8)).1)⟩:ItemD),ap9,(Ck ((Lib.cut ((Lib.cut ((Lib.cut s [32]).2.1) [32]).2.1) ([32]:List UInt8)).1)).length,false,rfl,hII10,Sp9,?_,?_⟩
  ·intro hb_;first | (cases hb_;done) | exact ⟨Dv.1 (by assumption),hII10.1,dT hb_⟩
  intro hb_ y hy;obtain ⟨q1,q2,q3⟩:=H5 hy hpuu6 (by omega) hpuu7;unfold J5 at q3;first | rw [if_neg (by assumption)] at q3 | rw [if_pos (by assumption)] at q3
  first | exact absurd (show true=false from q1.symm.trans (by assumption)) (by decide) | exact absurd (show true=false from q2.symm.trans (by assumption)) (by decide) | exact absurd (show Hm 8 (⟨u6,u7,(Lib.cut ((Lib.cut ((Lib.cut s [32]).2.1) [32]).2.1) ([32]:List UInt8)).2.1,Ck ((Lib.cut ((Lib.cut ((Lib.cut s [32]).2.1) [32]).2.1) ([32]:List UInt8)).1)⟩:ItemD)=0 by rw [q3];exact Dt hy.1) (by assumption) | exact absurd (show Ep (⟨u6,u7,(Lib.cut ((Lib.cut ((Lib.cut s [32]).2.1) [32]).2.1) ([32]:List UInt8)).2.1,Ck ((Lib.cut ((Lib.cut ((Lib.cut s [32]).2.1) [32]).2.1) ([32]:List UInt8)).1)⟩:ItemD)=s by rw [q3];exact hy.2.2) (dF hb_)
 intro h18b;have h18:=dT (Ai h18b);have h18c:(decide (((Lib.cut ((Lib.cut ((Lib.cut s [32]).2.1) [32]).2.1) ([32]:List UInt8)).1)=([45]:List UInt8)))=true:=(Ai h18b);refine Aq<|Ag<|?_
 have hII19:((⟨u6,u7,(Lib.cut ((Lib.cut ((Lib.cut s [32]).2.1) [32]).2.1) ([32]:List UInt8)).2.1,([]:List (List UInt8))⟩:ItemD).key < 18446744073709551616∧(⟨u6,u7,(Lib.cut ((Lib.cut ((Lib.cut s [32]).2.1) [32]).2.1) ([32]:List UInt8)).2.1,([]:List (List UInt8))⟩:ItemD).typ < 256∧(⟨u6,u7,(Lib.cut ((Lib.cut ((Lib.cut s [32]).2.1) [32]).2.1) ([32]:List UInt8)).2.1,([]:List (List UInt8))⟩:ItemD).text.length≤9223372036854775807):=⟨by show u6 < _;omega,by show u7 < _;omega,by show ((Lib.cut ((Lib.cut ((Lib.cut s [32]).2.1) [32]).2.1) ([32]:List UInt8)).2.1).length≤_;omega⟩;intro a F;refine Fg [(.pure,0),(.free,1),(.free,2),(.free,3),(.free,4),(.free,5),(.free,6),(.free,7),(.pure,8),(.keep,9),(.free,10),(.free,11),(.free,12),(.pure,13),(.free,15),(.keep,14),(.free,16),(.free,17),(.chg,18),(.free,19)] [18] (Keep G [.blk b1 [.int .u64 ((u6:Nat):Int),.int .u8 ((u7:Nat):Int),.string (str ((Lib.cut ((Lib.cut ((Lib.cut s [32]).2.1) [32]).2.1) ([32]:List UInt8)).2.1)),.slice none 0 0] 26]) rfl (by kernel_rfl) (fun c a d v w h=>by cases d <;> exact h) (Bo (M.drew _)) ?_;replace M:=M.drew (w.drawn+1);revert a;refine k_p (fun a F w M=>Af Bf rfl (F.ev rfl) (cs:=[.int .u64 ((u6:Nat):Int),.int .u8 ((u7:Nat):Int),.string (str ((Lib.cut ((Lib.cut ((Lib.cut s [32]).2.1) [32]).2.1) ([32]:List UInt8)).2.1)),.slice none 0 0]) rfl (M.cellsL (k:=0) rfl rfl)) rfl<|k_f (fun a F w _=>B1 F rfl) rfl<|k_f (fun a F w _=>Lh Sk.k hiu6 (F.ev rfl) rfl) rfl<|k_f (fun a F w _=>B1 F rfl) rfl<|?_
 rcases bE (Ef eru6) with h20b | h26b
 ·skip
  have h20:(Ef eru6)=true:=h20b;refine Cb rfl h20b (fun a F w _=>B1 F rfl)<|Cb rfl h20b (fun a F w _=>Lh Sk.k hiu7 (F.ev rfl) rfl)<|k_f (fun a F w _=>F5 F rfl h20b rfl) rfl<|k_f (fun a F w _=>B1 F rfl) rfl<|?_
  rcases bE (Ef eru7) with h21b | h25b
  ·skip
   have h21:(Ef eru7)=true:=h21b;refine Gk rfl h21b (fun a F w M=>Af Bf rfl (F.ev rfl) (cs:=[.int .u64 ((u6:Nat):Int),.int .u8 ((u7:Nat):Int),.string (str ((Lib.cut ((Lib.cut ((Lib.cut s [32]).2.1) [32]).2.1) ([32]:List UInt8)).2.1)),.slice none 0 0]) rfl (M.cellsL (k:=0) rfl rfl))<|fun a F=>G3 F rfl rfl h21b ?_
   revert a;refine g_t rfl h21b<|Bs Aay rfl rfl (J9 (x:=(⟨u6,u7,(Lib.cut ((Lib.cut ((Lib.cut s [32]).2.1) [32]).2.1) ([32]:List UInt8)).2.1,([]:List (List UInt8))⟩:ItemD)) (t:=8) M hII19 Au.nil)<|?_;clear M;rintro _ w M rfl
   refine eQ (Bo M)<|Cb rfl h21b (fun a F w _=>Rz (F.ev rfl) (F.ev rfl))<|k_f (fun a F w _=>F5 F rfl h21b rfl) rfl<|k_f (fun a F w _=>B1 F rfl) rfl<|?_
   rcases bE (decide (Hm 8 ((⟨u6,u7,(Lib.cut ((Lib.cut ((Lib.cut s [32]).2.1) [32]).2.1) ([32]:List UInt8)).2.1,([]:List (List UInt8))⟩:ItemD))=0)) with h22b | h24b
   ·skip
    have h22:=dT h22b;refine Gk rfl h22b (fun a F w M=>Af Bf rfl (F.ev rfl) (cs:=[.int .u64 ((u6:Nat):Int),.int .u8 ((u7:Nat):Int),.string (str ((Lib.cut ((Lib.cut ((Lib.cut s [32]).2.1) [32]).2.1) ([32]:List UInt8)).2.1)),.slice none 0 0]) rfl (M.cellsL (k:=0) rfl rfl))<|Cb rfl h22b (fun a F w _=>B1 F rfl)<|fun a F=>G3 F rfl rfl h22b ?_
    revert a;refine g_t rfl h22b<|Bs Amv rfl rfl (Qg (x:=(⟨u6,u7,(Lib.cut ((Lib.cut ((Lib.cut s [32]).2.1) [32]).2.1) ([32]:List UInt8)).2.1,([]:List (List UInt8))⟩:ItemD)) M HG hII19 Au.nil (Dv.1 (by assumption)))<|?_;clear M;rintro _ w M rfl
    have hlll23:=Pk (x:=(⟨u6,u7,(Lib.cut ((Lib.cut ((Lib.cut s [32]).2.1) [32]).2.1) ([32]:List UInt8)).2.1,([]:List (List UInt8))⟩:ItemD)) (Dv.1 (by assumption)) hII19.1 hII19.2.1;refine eQ (Bo M)<|Cb rfl h22b (fun a F w _=>K3 (F.ev rfl) (F.ev rfl))<|k_f (fun a F w _=>F5 F rfl h22b rfl) rfl<|k_c rfl<|fun a F=>?_
    refine Cj F M Bf 0 ?_;clear F M a;intro w a M F;change Mem w0 G (.blk b1 [.int .u64 ((u6:Nat):Int),.int .u8 ((u7:Nat):Int),.string (str ((Lib.cut ((Lib.cut ((Lib.cut s [32]).2.1) [32]).2.1) ([32]:List UInt8)).2.1)),.slice none 0 0] 26::L) _ at M;revert a;refine Bc<|fun a F=>⟨Keep G [.blk b1 [.int .u64 ((u6:Nat):Int),.int .u8 ((u7:Nat):Int),.string (str ((Lib.cut ((Lib.cut ((Lib.cut s [32]).2.1) [32]).2.1) ([32]:List UInt8)).2.1)),.slice none 0 0] 26],M.keep (Gle.refl _) (by simp),?_⟩
    revert a;refine k_f (fun a F w _=>G8 F rfl) rfl<|De<|Ae<|fun a F=>Cn F M (k:=0) rfl rfl Bf rfl rfl rfl rfl ?_
    refine ⟨_,(Gle.refl _),M.weaken dS1,(⟨u6,u7,(Lib.cut ((Lib.cut ((Lib.cut s [32]).2.1) [32]).2.1) ([32]:List UInt8)).2.1,([]:List (List UInt8))⟩:ItemD),none,0,(decide ((Ep ((⟨u6,u7,(Lib.cut ((Lib.cut ((Lib.cut s [32]).2.1) [32]).2.1) ([32]:List UInt8)).2.1,([]:List (List UInt8))⟩:ItemD)))=s)),rfl,hII19,Au.nil,?_,?_⟩
    ·intro hb_;first | (cases hb_;done) | exact ⟨Dv.1 (by assumption),hII19.1,dT hb_⟩
    intro hb_ y hy;obtain ⟨q1,q2,q3⟩:=H5 hy hpuu6 (by omega) hpuu7;unfold J5 at q3;first | rw [if_neg (by assumption)] at q3 | rw [if_pos (by assumption)] at q3
    first | exact absurd (show true=false from q1.symm.trans (by assumption)) (by decide) | exact absurd (show true=false from q2.symm.trans (by assumption)) (by decide) | exact absurd (show Hm 8 (⟨u6,u7,(Lib.cut ((Lib.cut ((Lib.cut s [32]).2.1) [32]).2.1) ([32]:List UInt8)).2.1,([]:List (List UInt8))⟩:ItemD)=0 by rw [q3];exact Dt hy.1) (by assumption) | exact absurd (show Ep (⟨u6,u7,(Lib.cut ((Lib.cut ((Lib.cut s [32]).2.1) [32]).2.1) ([32]:List UInt8)).2.1,([]:List (List UInt8))⟩:ItemD)=s by rw [q3];exact hy.2.2) (dF hb_)
   have h24:=dF h24b;refine k_s rfl h24b<|k_s rfl h24b<|k_s rfl h24b<|k_s rfl h24b<|k_f (fun a F w _=>Fx F rfl h24b rfl) rfl<|k_c rfl<|fun a F=>?_
   refine Cj F M Bf 0 ?_;clear F M a;intro w a M F;change Mem w0 G (.blk b1 [.int .u64 ((u6:Nat):Int),.int .u8 ((u7:Nat):Int),.string (str ((Lib.cut ((Lib.cut ((Lib.cut s [32]).2.1) [32]).2.1) ([32]:List UInt8)).2.1)),.slice none 0 0] 26::L) _ at M;revert a;refine Bc<|fun a F=>⟨Keep G [.blk b1 [.int .u64 ((u6:Nat):Int),.int .u8 ((u7:Nat):Int),.string (str ((Lib.cut ((Lib.cut ((Lib.cut s [32]).2.1) [32]).2.1) ([32]:List UInt8)).2.1)),.slice none 0 0] 26],M.keep (Gle.refl _) (by simp),?_⟩
   revert a;refine k_f (fun a F w _=>G8 F rfl) rfl<|De<|Ae<|fun a F=>Cn F M (k:=0) rfl rfl Bf rfl rfl rfl rfl ?_
   refine ⟨_,(Gle.refl _),M.weaken dS1,(⟨u6,u7,(Lib.cut ((Lib.cut ((Lib.cut s [32]).2.1) [32]).2.1) ([32]:List UInt8)).2.1,([]:List (List UInt8))⟩:ItemD),none,0,false,rfl,hII19,Au.nil,?_,?_⟩
   ·intro hb_;first | (cases hb_;done) | exact ⟨Dv.1 (by assumption),hII19.1,dT hb_⟩
   intro hb_ y hy;obtain ⟨q1,q2,q3⟩:=H5 hy hpuu6 (by omega) hpuu7;unfold J5 at q3;first | rw [if_neg (by assumption)] at q3 | rw [if_pos (by assumption)] at q3
   first | exact absurd (show true=false from q1.symm.trans (by assumption)) (by decide) | exact absurd (show true=false from q2.symm.trans (by assumption)) (by decide) | exact absurd (show Hm 8 (⟨u6,u7,(Lib.cut ((Lib.cut ((Lib.cut s [32]).2.1) [32]).2.1) ([32]:List UInt8)).2.1,([]:List (List UInt8))⟩:ItemD)=0 by rw [q3];exact Dt hy.1) (by assumption) | exact absurd (show Ep (⟨u6,u7,(Lib.cut ((Lib.cut ((Lib.cut s [32]).2.1) [32]).2.1) ([32]:List UInt8)).2.1,([]:List (List UInt8))⟩:ItemD)=s by rw [q3];exact hy.2.2) (dF hb_)
  have h25:(Ef eru7)=false:=h25b;refine k_s rfl h25b<|k_s rfl h25b<|k_s rfl h25b<|k_f (fun a F w _=>Fx F rfl h25b rfl) rfl<|k_f (fun a F w _=>B1 F rfl) rfl<|k_s rfl rfl<|k_s rfl rfl<|k_s rfl rfl<|k_s rfl rfl<|k_f (fun a F w _=>Fx F rfl rfl rfl) rfl<|k_c rfl<|fun a F=>?_
  refine Cj F M Bf 0 ?_;clear F M a;intro w a M F;change Mem w0 G (.blk b1 [.int .u64 ((u6:Nat):Int),.int .u8 ((u7:Nat):Int),.string (str ((Lib.cut ((Lib.cut ((Lib.cut s [32]).2.1) [32]).2.1) ([32]:List UInt8)).2.1)),.slice none 0 0] 26::L) _ at M;revert a;refine Bc<|fun a F=>⟨Keep G [.blk b1 [.int .u64 ((u6:Nat):Int),.int .u8 ((u7:Nat):Int),.string (str ((Lib.cut ((Lib.cut ((Lib.cut s [32]).2.1) [32]).2.1) ([32]:List UInt8)).2.1)),.slice none 0 0] 26],M.keep (Gle.refl _) (by simp),?_⟩
  revert a;refine k_f (fun a F w _=>G8 F rfl) rfl<|De<|Ae<|fun a F=>Cn F M (k:=0) rfl rfl Bf rfl rfl rfl rfl ?_
  refine ⟨_,(Gle.refl _),M.weaken dS1,(⟨u6,u7,(Lib.cut ((Lib.cut ((Lib.cut s [32]).2.1) [32]).2.1) ([32]:List UInt8)).2.1,([]:List (List UInt8))⟩:ItemD),none,0,false,rfl,hII19,Au.nil,?_,?_⟩
  ·intro hb_;first | (cases hb_;done) | exact ⟨Dv.1 (by assumption),hII19.1,dT hb_⟩
  intro hb_ y hy;obtain ⟨q1,q2,q3⟩:=H5 hy hpuu6 (by omega) hpuu7;unfold J5 at q3;first | rw [if_neg (by assumption)] at q3 | rw [if_pos (by assumption)] at q3
  first | exact absurd (show true=false from q1.symm.trans (by assumption)) (by decide) | exact absurd (show true=false from q2.symm.trans (by assumption)) (by decide) | exact absurd (show Hm 8 (⟨u6,u7,(Lib.cut ((Lib.cut ((Lib.cut s [32]).2.1) [32]).2.1) ([32]:List UInt8)).2.1,([]:List (List UInt8))⟩:ItemD)=0 by rw [q3];exact Dt hy.1) (by assumption) | exact absurd (show Ep (⟨u6,u7,(Lib.cut ((Lib.cut ((Lib.cut s [32]).2.1) [32]).2.1) ([32]:List UInt8)).2.1,([]:List (List UInt8))⟩:ItemD)=s by rw [q3];exact hy.2.2) (dF hb_)
 have h26:(Ef eru6)=false:=h26b;refine k_s rfl h26b<|k_s rfl h26b<|k_f (fun a F w _=>Fx F rfl h26b rfl) rfl<|k_f (fun a F w _=>B1 F rfl) rfl<|k_s rfl rfl<|k_s rfl rfl<|k_s rfl rfl<|k_f (fun a F w _=>Fx F rfl rfl rfl) rfl<|k_f (fun a F w _=>B1 F rfl) rfl<|k_s rfl rfl<|k_s rfl rfl<|k_s rfl rfl<|k_s rfl rfl<|k_f (fun a F w _=>Fx F rfl rfl rfl) rfl<|k_c rfl<|fun a F=>?_
 refine Cj F M Bf 0 ?_;clear F M a;intro w a M F;change Mem w0 G (.blk b1 [.int .u64 ((u6:Nat):Int),.int .u8 ((u7:Nat):Int),.string (str ((Lib.cut ((Lib.cut ((Lib.cut s [32]).2.1) [32]).2.1) ([32]:List UInt8)).2.1)),.slice none 0 0] 26::L) _ at M;revert a;refine Bc<|fun a F=>⟨Keep G [.blk b1 [.int .u64 ((u6:Nat):Int),.int .u8 ((u7:Nat):Int),.string (str ((Lib.cut ((Lib.cut ((Lib.cut s [32]).2.1) [32]).2.1) ([32]:List UInt8)).2.1)),.slice none 0 0] 26],M.keep (Gle.refl _) (by simp),?_⟩
 revert a;refine k_f (fun a F w _=>G8 F rfl) rfl<|De<|Ae<|fun a F=>Cn F M (k:=0) rfl rfl Bf rfl rfl rfl rfl ?_
 refine ⟨_,(Gle.refl _),M.weaken dS1,(⟨u6,u7,(Lib.cut ((Lib.cut ((Lib.cut s [32]).2.1) [32]).2.1) ([32]:List UInt8)).2.1,([]:List (List UInt8))⟩:ItemD),none,0,false,rfl,hII19,Au.nil,?_,?_⟩
 ·intro hb_;first | (cases hb_;done) | exact ⟨Dv.1 (by assumption),hII19.1,dT hb_⟩
 intro hb_ y hy;obtain ⟨q1,q2,q3⟩:=H5 hy hpuu6 (by omega) hpuu7;unfold J5 at q3;first | rw [if_neg (by assumption)] at q3 | rw [if_pos (by assumption)] at q3
 first | exact absurd (show true=false from q1.symm.trans (by assumption)) (by decide) | exact absurd (show true=false from q2.symm.trans (by assumption)) (by decide) | exact absurd (show Hm 8 (⟨u6,u7,(Lib.cut ((Lib.cut ((Lib.cut s [32]).2.1) [32]).2.1) ([32]:List UInt8)).2.1,([]:List (List UInt8))⟩:ItemD)=0 by rw [q3];exact Dt hy.1) (by assumption) | exact absurd (show Ep (⟨u6,u7,(Lib.cut ((Lib.cut ((Lib.cut s [32]).2.1) [32]).2.1) ([32]:List UInt8)).2.1,([]:List (List UInt8))⟩:ItemD)=s by rw [q3];exact hy.2.2) (dF hb_)
end Go.Proofs.YtmmhmcplegpenaaGreatDoor
namespace Go.Y
open Go
section
variable {P:Program} {ops:Array Oper} {Q:Exit→Act→World→Prop} {w0 w:World} {G:A4} {L:List Res} {n d:Nat} {a:Act} {e:Env} {t:TypeId} {p:String} {af:Array Edge} {r:List Oper}
theorem U8 (w:World) (dT sT ty elem:TypeId) (g dLen dCap:Nat) (a:Addr) (sLen sCap sz:Nat) (cur:Array Value) (t:TypeId) (cs:List Value)
  (hu:P.underlying dT=some (.slice elem)) (hs:(P.info? elem).map (·.size)=some sz)
  (hg:w.heap[g]?=some (.cells cur t (0,0))) (hn:cs.length=Nat.min sLen dLen * sz)
  (hsrc:∀ j v,cs[j]?=some v→w.cell? (a.add j)=some v) (hfit:cs.length≤cur.size) (h1:∀ v∈cs,v.oneCell' = true) :
  (Builtin.copy_ #[dT,sT] ty #[.slice (some ⟨g,0,none⟩) dLen dCap,.slice (some a) sLen sCap]).run P w =
   .ok (goInt (Nat.min sLen dLen:Nat)) (w.setRow g (cs++cur.toList.drop cs.length).toArray):=by
 have hl:=run_loadCells_list (P:=P) w a cs hsrc;have hst:=run_storeCells_at P g 0 t cs 0 cur w hg (by simpa using hfit) h1
 cases hq:P.info? elem with
 | none=>simp [hq] at hs
 | some i =>
  have hi:i.size=sz:=by simpa [hq] using hs
  simp only [Nat.zero_add,List.take_zero,List.nil_append] at hst
  simp [Builtin.copy_,run_underlying hu,Builtin.lenOf,Builtin.firstCells,sizeOf,typeInfo,hq,hi,← hn,hl,hst]
theorem Td {α:Type} {rd:Rd α} {sz:Nat} {dT sT et:TypeId} {i:TI} {x y:Operand} {k m c c2 b:Nat} {ad:Option Addr} {old:List Value} {xs:List α} (F:Fits n a e) (M:Mem w0 G L w)
  (hk:L[k]?=some (.row (.slice (some ⟨b,0,none⟩) m c) m old et sz)) (ht:tk P dT=.slice et) (hi:TOK P et i) (hsz:i.size=sz) (hx:ev e x=some (.slice (some ⟨b,0,none⟩) m c)) (hy:ev e y=some (.slice ad m c2))
  (S:Au rd sz G (.slice ad m c2) xs) (hm0:0 < m) (hd:Nat.ble (d+1) n=true)
  (kk:∀ cs w' a',Els rd sz G cs xs→Mem w0 G (L.set k (.row (.slice (some ⟨b,0,none⟩) m c) m cs et sz)) w'→Fits n a' ((d,.int .i64 (m:Nat))::e)→rl P ops Q r a' w') :
  rl P ops Q (⟨some d,.call ⟨.builtin .copy,#[x,y],#[dT,sT]⟩,t,p,af,none⟩::r) a w:=by
 subst hsz;obtain ⟨rfl,_,_,news,hE,h1n,h6⟩:=S.cells;have hnl:news.length=xs.length * i.size:=hE.length
 rcases h6 with ⟨rfl,rfl⟩ | ⟨sb,so,rfl,h6⟩
 ·simp at hm0
 obtain ⟨⟨hl,hr⟩,h1c⟩:=M.row_at hk
 rcases hr with ⟨h,_⟩ | ⟨g,cap,cur,hv,_,hg,hnc,hcm,hcs,htake⟩
 ·cases h
 simp only [Value.slice.injEq,Option.some.injEq,Addr.mk.injEq,and_true,true_and] at hv;obtain ⟨rfl,rfl⟩:=hv;obtain ⟨z,hz1,hz2,_⟩:=hi.info;have hle:xs.length * i.size≤c * i.size:=Nat.mul_le_mul_right _ hnc;have hrun:=U8 (P:=P) w dT sT t et b xs.length c ⟨sb,so,none⟩ xs.length c2 i.size cur et news (Dw ht) (by rw [hz1];simp [hz2]) hg (by rw [hnl];simp [Nat.min_def])
  (fun j v hj=>by rw [add_plain];exact M.cell (h6 j v hj)) (by rw [hnl,hcs];exact hle) h1n
 rw [show Nat.min xs.length xs.length=xs.length from Nat.min_self _] at hrun;refine B0 F (w':=_) (v:=_) (by simp only [execOp,resolve,Sem.run_bind,Sem.run_pure,Result.andThen_ok,invoke,builtin,List.map_toArray,List.map_cons,List.map_nil,F.ev hx,F.ev hy,hrun];rfl) hd fun a' F'=>kk news _ a' hE ?_ F';rw [← Array.length_toList] at hcs;refine M.grow_at hk (fun z hz=>Or.inl hz) ⟨⟨hnl,Or.inr ⟨b,c,_,rfl,Nat.zero_le _,setRow_heap w b cur _ et (0,0) hg,hnc,hcm,?_,?_⟩⟩,h1n⟩ rfl rfl rfl (by simp [World.setRow]) (fun z hz hne=>setRow_other w b z _ (fun h=>hne (by rw [h];rfl)))
 ·simp only [List.size_toArray,List.length_append,List.length_drop];omega
 show List.take (xs.length * i.size) (news++cur.toList.drop news.length)=news
 rw [← hnl,List.take_left]
theorem P4 {t k e:Nat} (h:tk P t=.map k e):P.underlying t=some (.map k e):=by
 unfold tk at h
 split at h <;> simp_all
def Ji (es:Array MapEntry) (ks:List Nat):Prop:=(∀ x∈es.toList,∃ k:Nat,x.key=.int .u64 (k:Int)∧x.val=.bool true∧k∈ks)∧∀ k∈ks,∃ x∈es.toList,x.key=.int .u64 ((k:Nat):Int)
theorem Ji.nil:Ji #[] []:=⟨fun x hx=>by simp at hx,fun k hk=>by simp at hk⟩
theorem Ta {mt kt et:TypeId} (F:Fits n a e) (M:Mem w0 G L w) (hd:Nat.ble (d+1) n=true)
  (k:∀ b w' a',Mem w0 G (.obj b (.map #[] 0)::L) w'→Fits n a' ((d,.map (some b))::e)→rl P ops Q r a' w'):rl P ops Q (⟨some d,.makeMap mt none,t,p,af,none⟩::r) a w:=by
 refine B0 F (w':=_) (v:=_) (by simp only [execOp,Instr.makeMap,Option.map_none,Sem.run_bind,newObj,Sem.run,Result.andThen_ok];rfl) hd fun a' F'=>k w.heap.size _ a' (M.new (.map #[] 0)) F'
theorem Tb {mt kt et:TypeId} {ei:TI} {x y:Operand} {k b z:Nat} {es:Array MapEntry} {cl:Nat} {ks:List Nat} (F:Fits n a e) (M:Mem w0 G L w) (hk:L[k]?=some (.obj b (.map es cl))) (hS:Ji es ks)
  (hm:tk P mt=.map kt et) (hkt:tk P kt=.int .u64) (hz:TOK P et ei) (hz2:ei.zero=.bool false) (hx:ev e x=some (.map (some b))) (hy:ev e y=some (.int .u64 (z:Int))) (hd:Nat.ble (d+1) n=true)
  (kk:∀ a',Fits n a' ((d,.bool (decide (z∈ks)))::e)→rl P ops Q r a' w):rl P ops Q (⟨some d,.lookup mt x y false,t,p,af,none⟩::r) a w:=by
 have hb:w.heap[b]?=some (.map es cl):=M.own _ (List.mem_of_getElem? hk);have hd':=D7 hkt;have hkey:MapKept.IsKey (.int .u64) (.int .u64 (z:Int)):=rfl;have hks:∀ x∈es.toList,MapKept.IsKey (.int .u64) x.key:=fun x hx=>by obtain ⟨q,h1,_⟩:=hS.1 x hx;rw [h1];rfl
 rcases MapKept.findNow_spec hkey es.toList 0 hks with ⟨h1,h2⟩ | ⟨j,ent,h1,h2,h3⟩
 ·have hn:¬ z∈ks:=fun hm=>by obtain ⟨x,hx,hxk⟩:=hS.2 z hm;exact h2 x hx hxk
  refine B0 F (v:=.bool false) (w':=w) ?_ hd fun a' F'=>kk a' (by rw [decide_eq_false hn];exact F');simp only [execOp,Instr.lookup,F.ev hx,F.ev hy,Sem.run_bind,Cu (P4 hm),MapKept.run_getObj_map hb,Result.andThen_ok,Sem.run_pure,MapKept.run_checkKey hd' hkey,MapKept.run_findKey hd' h1,hz.zeroValue,hz2]
  rfl
 obtain ⟨q,h4,h5,h6⟩:=hS.1 ent (List.mem_of_getElem? h2);rw [h4] at h3;simp only [Value.int.injEq,true_and] at h3;have hq:q=z:=by omega
 subst hq;refine B0 F (v:=.bool true) (w':=w) ?_ hd fun a' F'=>kk a' (by rw [decide_eq_true h6];exact F');simp only [execOp,Instr.lookup,F.ev hx,F.ev hy,Sem.run_bind,Cu (P4 hm),MapKept.run_getObj_map hb,Result.andThen_ok,Sem.run_pure,MapKept.run_checkKey hd' hkey,MapKept.run_findKey hd' h1,h5]
 rfl
theorem Qb {mt kt et:TypeId} {x y v:Operand} {k b z:Nat} {es:Array MapEntry} {cl:Nat} {ks:List Nat} (F:Fits n a e) (M:Mem w0 G L w) (hk:L[k]?=some (.obj b (.map es cl))) (hS:Ji es ks)
  (hm:tk P mt=.map kt et) (hkt:tk P kt=.int .u64) (hx:ev e x=some (.map (some b))) (hy:ev e y=some (.int .u64 (z:Int))) (hv:ev e v=some (.bool true)) (hn:¬ z∈ks)
  (kk:∀ es' cl' w' a',Ji es' (z::ks)→Mem w0 G (L.set k (.obj b (.map es' cl'))) w'→Fits n a' e→rl P ops Q r a' w'):rl P ops Q (⟨none,.mapUpdate mt x y v,t,p,af,none⟩::r) a w:=by
 have hb:w.heap[b]?=some (.map es cl):=M.own _ (List.mem_of_getElem? hk);have hd':=D7 hkt;have hkey:MapKept.IsKey (.int .u64) (.int .u64 (z:Int)):=rfl;have hks:∀ x∈es.toList,MapKept.IsKey (.int .u64) x.key:=fun x hx=>by obtain ⟨q,h1,_⟩:=hS.1 x hx;rw [h1];rfl
 rcases MapKept.findNow_spec hkey es.toList 0 hks with ⟨h1,h2⟩ | ⟨j,ent,h1,h2,h3⟩
 ·have hh:=MapKept.heap_set (o':=.map (es.push { key:=.int .u64 (z:Int),val:=.bool true,born:=cl }) (cl+1)) hb;refine Pa F (w':={ w with heap:=w.heap.setIfInBounds b (.map (es.push { key:=.int .u64 (z:Int),val:=.bool true,born:=cl }) (cl+1)) }) ?_ fun a' F'=>kk (es.push { key:=.int .u64 (z:Int),val:=.bool true,born:=cl }) (cl+1) _ a' ?_ ?_ F'
  ·simp only [execOp,Instr.mapUpdate,F.ev hx,F.ev hy,F.ev hv,Sem.run_bind,Cu (P4 hm),MapKept.run_getObj_map hb,Result.andThen_ok,Sem.run_pure,MapKept.run_checkKey hd' hkey,MapKept.run_findKey hd' h1,MapKept.run_setObj_map _ hb]
  ·refine ⟨fun x hx=>?_,fun q hq=>?_⟩
   ·simp only [Array.toList_push,List.mem_append,List.mem_singleton] at hx
    rcases hx with hx | rfl
    ·obtain ⟨q,h4,h5,h6⟩:=hS.1 x hx;exact ⟨q,h4,h5,List.mem_cons_of_mem _ h6⟩
    exact ⟨z,rfl,rfl,by simp⟩
   rcases List.mem_cons.1 hq with rfl | hq
   ·exact ⟨_,by simp only [Array.toList_push,List.mem_append,List.mem_singleton];exact Or.inr rfl,rfl⟩
   obtain ⟨x,h4,h5⟩:=hS.2 q hq;exact ⟨x,by simp only [Array.toList_push,List.mem_append];exact Or.inl h4,h5⟩
  exact M.swap_at hk (y:=.obj b (.map (es.push { key:=.int .u64 (z:Int),val:=.bool true,born:=cl }) (cl+1))) rfl hh.1 rfl rfl rfl (by simp) (fun b' hne=>hh.2 b' (fun e=>hne (by rw [e];rfl)))
 obtain ⟨q,h4,_,h6⟩:=hS.1 ent (List.mem_of_getElem? h2);rw [h4] at h3;simp only [Value.int.injEq,true_and] at h3
 exact absurd (show z∈ks by rw [show z=q by omega];exact h6) hn
end
end Go.Y
namespace Go.Proofs.YtmmhmcplegpenaaGreatDoor
open Go Go.Y Go.Proofs
variable {w0 w:World} {G:A4} {L:List Res}
theorem Akk {α:Type} {l:List α} {i:Nat} {x:α} (h:l[i]?=some x):l.set i x=l:=by
 apply List.ext_getElem?
 intro j;rw [List.getElem?_set]
 split
 ·rename_i e;subst e;rw [if_pos (Bj h),h]
 rfl
theorem Agi (M:Mem w0 G L w) {a1:Option Addr} {c1:Nat} {xs:List (List UInt8)} (S:Au D3 1 G (.slice a1 xs.length c1) xs) (hN:xs.length≤1000000) :
  Calls Tryz.prog 55 #[.slice a1 xs.length c1] w (Ky w0 G fun L' v=>∃ (a:Option Addr) (cs:List Value),v=.slice a xs.length xs.length∧L' = (.row (.slice a xs.length xs.length) xs.length cs 9 1::L)∧Els D3 1 G cs xs):=by
 refine Ay (vs:=[_]) Tryz.func55 rfl (n:=14) rfl rfl<|Ac<|Ab rfl<|Ag<|Ac<|Aa rfl<|B8 Cw.k rfl<|C3 rfl rfl<|Ap rfl ?_ ?_
 ·intro h1b;have h1:=dT h1b;refine Ac<|Ab rfl<|Ae<|Ad rfl rfl<|?_
  have h0:=List.eq_nil_of_length_eq_zero (show xs.length=0 by omega);subst h0
  exact ⟨_,M.nilrow 9 1,none,[],rfl,rfl,rfl⟩
 intro h2b;have h2:=dF h2b;refine Aq<|Ac<|Aa rfl<|B8 Cw.k rfl<|fun a F=>?_
 refine Pb (rd:=D3) (Z:=([]:List UInt8)) F M Cw.k Bq rfl (by decide) rfl rfl (l:=xs.length) (by omega) rfl (by omega) (by show 16 * _≤_;omega) (by omega) (by simp [ti9,Value.cells,Value.oneCell']) (⟨rfl,by decide⟩) rfl ?_;clear F M a;intro bv3 csv3 w a M Ev3 F;revert a;refine Ab rfl<|Ac<|Aa rfl<|Aa rfl<|fun a F=>?_
 refine Td F M (k:=0) rfl Cw.k Bq rfl rfl rfl S (by omega) rfl ?_;clear F M a;intro csq4 w a Eq4 M F;revert a;refine Ac<|Aa rfl<|Ab rfl<|Ae<|Ad rfl rfl<|?_
 change Mem w0 G (_::L) _ at M
 exact ⟨_,M,_,_,rfl,rfl,Eq4⟩
theorem Amq (M:Mem w0 G L w) {a1:Option Addr} {c1:Nat} {xs:List (List UInt8)} (S:Au D3 1 G (.slice a1 xs.length c1) xs) (hN:xs.length≤1000000) :
  Calls Tryz.prog 55 #[.slice a1 xs.length c1] w (Ret w0 G L fun G' v=>∃ a:Option Addr,v=.slice a xs.length xs.length∧Au D3 1 G' (.slice a xs.length xs.length) xs):=by
 refine (Agi M S hN).mono ?_;rintro e w' h
 cases e with
 | returned v =>
  obtain ⟨L',M',a,cs,rfl,rfl,E⟩:=h;obtain ⟨_,G',_,_,hG,_,S',M2⟩:=M'.freeze_row Bi (k:=0) rfl E (by decide)
  exact ⟨G',hG,M2,a,rfl,S'⟩
 | panicked c=>exact h.elim
 | outgrown=>exact h.elim
theorem Agj (M:Mem w0 G L w) {a1:Option Addr} {c1:Nat} {xs:List (ItemD)} (S:Au Cv 4 G (.slice a1 xs.length c1) xs) (hN:xs.length≤1000000) :
  Calls Tryz.prog 54 #[.slice a1 xs.length c1] w (Ky w0 G fun L' v=>∃ (a:Option Addr) (cs:List Value),v=.slice a xs.length xs.length∧L' = (.row (.slice a xs.length xs.length) xs.length cs 26 4::L)∧Els Cv 4 G cs xs):=by
 refine Ay (vs:=[_]) Tryz.func54 rfl (n:=14) rfl rfl<|Ac<|Ab rfl<|Ag<|Ac<|Aa rfl<|B8 B9.k rfl<|C3 rfl rfl<|Ap rfl ?_ ?_
 ·intro h1b;have h1:=dT h1b;refine Ac<|Ab rfl<|Ae<|Ad rfl rfl<|?_
  have h0:=List.eq_nil_of_length_eq_zero (show xs.length=0 by omega);subst h0
  exact ⟨_,M.nilrow 26 4,none,[],rfl,rfl,rfl⟩
 intro h2b;have h2:=dF h2b;refine Aq<|Ac<|Aa rfl<|B8 B9.k rfl<|fun a F=>?_
 refine Pb (rd:=Cv) (Z:=(⟨0,0,[],[]⟩:ItemD)) F M B9.k Bf rfl (by decide) rfl rfl (l:=xs.length) (by omega) rfl (by omega) (by show 56 * _≤_;omega) (by omega) (by simp [ti26,Value.cells,Value.oneCell']) (⟨none,0,rfl,by decide,by decide,by decide,by decide,Au.nil⟩) rfl ?_;clear F M a;intro bv3 csv3 w a M Ev3 F;revert a;refine Ab rfl<|Ac<|Aa rfl<|Aa rfl<|fun a F=>?_
 refine Td F M (k:=0) rfl B9.k Bf rfl rfl rfl S (by omega) rfl ?_;clear F M a;intro csq4 w a Eq4 M F;revert a;refine Ac<|Aa rfl<|Ab rfl<|Ae<|Ad rfl rfl<|?_
 change Mem w0 G (_::L) _ at M
 exact ⟨_,M,_,_,rfl,rfl,Eq4⟩
theorem Wy (M:Mem w0 G L w) {a1:Option Addr} {c1:Nat} {xs:List ItemD} (S:Au Cv 4 G (.slice a1 xs.length c1) xs) (hN:xs.length≤1000000) (hM:∀ x∈xs,x.marks.length≤1000000) :
  Calls Tryz.prog 15 #[.slice a1 xs.length c1] w (Ret w0 G L fun G' v=>∃ a:Option Addr,v=.slice a xs.length xs.length∧Au Cv 4 G' (.slice a xs.length xs.length) xs):=by
 refine Ay (vs:=[_]) Tryz.func15 rfl (n:=24) rfl rfl<|Ac<|Ab rfl<|Ac<|Aa rfl<|P6 ent54 rfl rfl (Agj (xs:=xs) M S (by omega))<|?_;clear M;rintro _ _ w M ⟨aq1,csq1,rfl,rfl,Eq1⟩
 refine Ab rfl<|Ag<|Ac<|Aa rfl<|B8 B9.k rfl<|Aa rfl<|Ax<|fun a F=>Bz (fun m a' w'=>∃ (i:Nat),∃ (cso:List Value),m=xs.length - i∧∃ G2,Gle G G2∧Fits 24 a' [(3,.slice aq1 xs.length xs.length),(7,.slice aq1 xs.length xs.length),(8,.int .i64 ((xs.length:Nat):Int)),(9,.int .i64 ((i:Nat):Int))]∧Mem w0 G2 (.row (.slice aq1 xs.length xs.length) (xs.length) (cso) 26 4::L) w'∧(i≤xs.length)∧(Els Cv 4 G2 cso xs)) _ ⟨0,csq1,rfl,G,Gle.refl _,F.to ⟨rfl,rfl,rfl,rfl,trivial⟩,M,Nat.zero_le _,Eq1⟩ ?_
 clear F M;rintro m a w ⟨i,cso,rfl,G2,hG2,F,M,hi,Eo⟩;replace S:=S.mono Aw hG2;revert a;refine Ac<|C2 rfl rfl<|Ag<|Ap rfl ?_ ?_
 ·intro h3b;have h3:=dT h3b;refine Aq<|Ag<|Ax<|Ac<|Aa rfl<|Ab rfl<|Az<|Aa rfl<|Aa rfl<|Aa rfl<|Aa rfl<|?_
  obtain ⟨Xe4,hXe4⟩:=A2 (xs:=xs) (i:=i) (by omega);obtain ⟨be4,_,Ie4,hme4,_,Ae4,hTe4⟩:=M.atRow (k:=0) rfl (by decide) Eo hXe4;obtain ⟨mae4,mce4,rfl,hke4,hte4,hxe4,hne4,SMe4⟩:=hTe4;have hIe4:(Xe4.key < 18446744073709551616∧Xe4.typ < 256∧Xe4.text.length≤9223372036854775807):=⟨hke4,hte4,hxe4⟩;refine D0 B9.k Bf Ie4 rfl rfl<|A0 Bf.k rfl rfl<|s_le Cw Ae4 3 rfl rfl rfl rfl<|Ge ent55 rfl rfl (Amq (xs:=Xe4.marks) M SMe4 (hM Xe4 (List.mem_of_getElem? hXe4)))<|?_;clear M;rintro _ Gq5 w hGq5 M ⟨aq5,rfl,Sq5⟩
  replace S:=S.mono Aw hGq5;replace Eo:=Eo.mono Aw hGq5;replace SMe4:=SMe4.mono Bi hGq5;obtain ⟨be6,_,Ie6,hme6,_,Ae6,hTe6⟩:=M.atRow (k:=0) rfl (by decide) Eo hXe4;obtain ⟨mae6,mce6,rfl,hke6,hte6,hxe6,hne6,SMe6⟩:=hTe6;have hIe6:(Xe4.key < 18446744073709551616∧Xe4.typ < 256∧Xe4.text.length≤9223372036854775807):=⟨hke6,hte6,hxe6⟩;refine D0 B9.k Bf Ie6 rfl rfl<|A0 Bf.k rfl rfl<|fun a F=>?_
  refine Q7 F M Cw rfl (k:=0) rfl Eo Ie6 hXe4 (f:=3) (by decide) rfl rfl rfl rfl (X':=Xe4) (fun ch _ h=>by obtain ⟨a_,c_,rfl,h1,h2,h3,h4,_⟩:=h;exact ⟨aq5,Xe4.marks.length,rfl,h1,h2,h3,h4,Sq5⟩) ?_;clear F M a;intro csu7 w a M Eu7 F;revert a;refine Az<|Bx rfl rfl<|Aa rfl<|Bc<|Cm<|fun a F=>?_
  exact ⟨_,by omega,i+1,csu7,rfl,Gq5,(hG2.trans hGq5),F.to ⟨rfl,rfl,rfl,rfl,trivial⟩,M,by omega,by have h_:=Eu7;rwa [Akk hXe4] at h_⟩
 intro h8b;have h8:=dF h8b;refine B5<|Bw<|Bw<|Dj<|Ac<|Aa rfl<|Ab rfl<|Ae<|Ad rfl rfl<|?_
 obtain ⟨hnz9,Gz9,az9,cz9,hGz9,hez9,Sz9,M⟩:=M.freeze_row Aw (k:=0) rfl Eo (by decide);clear hez9 az9 cz9
 exact ⟨Gz9,(hG2.trans hGz9),M.weaken (sR _),_,rfl,Sz9⟩
def TwR (xs:List ItemD) (i:Nat) (b:Bool):Prop :=
 (b=false∧i=0∧∀ (m:Nat) (y:ItemD),xs[m]?=some y→∀ (k:Nat) (z:ItemD),k < m→xs[k]?=some z→z.key≠y.key) ∨
 (b=true∧(∃ x,xs[i]?=some x∧∃ k z,k < i∧xs[k]?=some z∧z.key=x.key)∧∀ (m:Nat) (y:ItemD),m < i→xs[m]?=some y→∀ (k:Nat) (z:ItemD),k < m→xs[k]?=some z→z.key≠y.key)
def Upto (xs:List ItemD) (i:Nat):Prop:=∀ (m:Nat) (y:ItemD),m < i→xs[m]?=some y→∀ (k:Nat) (z:ItemD),k < m→xs[k]?=some z→z.key≠y.key
theorem Upto.step {xs:List ItemD} {i:Nat} {x:ItemD} (h:Upto xs i) (hx:xs[i]?=some x) (hn:∀ (k:Nat) (z:ItemD),k < i→xs[k]?=some z→z.key≠x.key):Upto xs (i+1):=by
 intro m y hm hy k z hk hz
 rcases Nat.lt_or_ge m i with h1 | h1
 ·exact h m y h1 hy k z hk hz
 have:m=i:=by omega
 subst this;rw [hx] at hy;simp only [Option.some.injEq] at hy;subst hy;exact hn k z hk hz
theorem TwR.uniq {xs:List ItemD} {i j:Nat} {b c:Bool} (h:TwR xs i b) (h':TwR xs j c):i=j∧b=c:=by
 rcases h with ⟨rfl,rfl,h⟩ | ⟨rfl,⟨x,hx,k,z,hk,hz,e⟩,h⟩ <;> rcases h' with ⟨rfl,rfl,h'⟩ | ⟨rfl,⟨x',hx',k',z',hk',hz',e'⟩,h'⟩
 ·exact ⟨rfl,rfl⟩
 ·exact absurd e' (h j x' hx' k' z' hk' hz')
 ·exact absurd e (h' i x hx k z hk hz)
 rcases Nat.lt_trichotomy i j with h1 | h1 | h1
 ·exact absurd e (h' i x h1 hx k z hk hz)
 ·exact ⟨h1,rfl⟩
 exact absurd e' (h j x' h1 hx' k' z' hk' hz')
end Go.Proofs.YtmmhmcplegpenaaGreatDoor
namespace Go.Y
open Go
section
variable {P:Program} {ops:Array Oper} {Q:Exit→Act→World→Prop} {w0 w:World} {G:A4} {L:List Res} {n d:Nat} {a:Act} {e:Env} {t:TypeId} {p:String} {af:Array Edge} {r:List Oper}
abbrev Rnd (l:Nat):Fence:=Fence.wide.inRound l
def R3 (o:Oper):Bool:=match o.op with | .defer _=>false | _=>true
theorem Adj {l m:Nat} {o:Oper} {next next':Act→World→Prop} (hnd:R3 o=true) (h:o.wp P a w next Q) (hn:∀ a w,next a w→next' a w):o.wpIn (Rnd l) m P a w next' Q:=by
 refine ⟨fun _ _=>trivial,?_⟩;have hnd':∀ c,o.op≠.defer c:=fun c hc=>by simp [R3,hc] at hnd
 rw [show (Rnd l).round=some l from rfl,Oper.semAt_some l _ _ hnd'];unfold Oper.wp at h;have hdep:(Rnd l).depth.isSome=true→1≤m:=fun h=>by cases h
 generalize (execOp a.eval o).run P w=res at h
 cases res with
 | ok nx w' =>
  cases nx with
  | value v=>exact hn _ _ h
  | skip=>exact hn _ _ h
  | defer d=>exact hn _ _ h
  | enter f args =>
   refine ⟨hdep,CallsIn.inRound l (callsIn_wide.2 (Calls.mono h fun x w'' hx=>?_))⟩
   cases x with
   | returned v=>exact hn _ _ hx
   | panicked c=>exact hx
   | outgrown=>exact hx
  | row row args =>
   exact ⟨hdep,fun c cs _=>let ⟨v,w'',r',s⟩:=h c cs;⟨v,w'',hn _ _ r',stepsIn_wide.2 s⟩⟩
  | _=>exact h.elim
 | halt x w' =>
  cases x with
  | panic v=>exact h
  | _=>exact h.elim
theorem I0 {l m:Nat}:∀ (is:List Nat) (a:Act) (w:World),(∀ (i:Nat) (o:Oper),ops[i]?=some o→R3 o=true)→rl P ops Q (is.filterMap (ops[·]?)) a w→wpOpsIn (Rnd l) m P ops Q is a w
 | [],a,w,_,h=>h
 | i::is,a,w,hnd,h=>by
  cases ho:ops[i]? with
  | none =>
   simp only [wpOpsIn,ho];simp only [List.filterMap_cons,ho] at h
   exact I0 is a w hnd h
  | some o =>
   simp only [wpOpsIn,ho];simp only [List.filterMap_cons,ho,rl] at h
   by_cases hw:Region.wanted o (yielded ops a.tmps)=true
   ·simp only [hw,if_true]
    exact Adj (hnd i o ho) (h.1 hw) (fun a w=>I0 is a w hnd)
   ·simp only [hw]
    exact ⟨fun _ _=>trivial,I0 is _ _ hnd (h.2 (by simpa using hw))⟩
theorem Jj {l m id:Nat} {os:List Oper} (hnd:os.all R3=true) (h:rl P os.toArray Q os a w):(Code.region id os.toArray false).wpIn (Rnd l) m P Q a w :=
 wpIn_region (I0 _ a w (fun i o ho=>List.all_eq_true.1 hnd o (by simpa using List.mem_of_getElem? (by simpa using ho))) (by rw [Jd];simpa using h))
theorem O1 {Fe:Fence} {m:Nat} {c:Operand} {x y:Code} {t:Bool} (F:Fits n a e) (hc:ev e c=some (.bool t)) (ht:t=true→x.wpIn Fe m P Q a w) (hf:t=false→y.wpIn Fe m P Q a w):(Code.cond c x y).wpIn Fe m P Q a w :=
 wpIn_cond_split (F.ev hc) ht hf
theorem Sh {Fe:Fence} {m:Nat} {c:Operand} {x y:Code} {t:Bool} (F:Fits n a e) (hc:ev e c=some (.bool t)) (ht:t=true) (k:x.wpIn Fe m P Q a w):(Code.cond c x y).wpIn Fe m P Q a w :=
 wpIn_cond_split (F.ev hc) (fun _=>k) (fun h=>by rw [ht] at h;cases h)
theorem Abr {Fe:Fence} {m:Nat} {c:Operand} {x y:Code} {t:Bool} (F:Fits n a e) (hc:ev e c=some (.bool t)) (ht:t=false) (k:y.wpIn Fe m P Q a w):(Code.cond c x y).wpIn Fe m P Q a w :=
 wpIn_cond_split (F.ev hc) (fun h=>by rw [ht] at h;cases h) (fun _=>k)
theorem Ajz {Fe:Fence} {m:Nat} {c:Code} (I:Nat→Act→World→Prop) (m0:Nat) (h0:I m0 a w)
  (round:∀ k a w,I k a w→c.wpIn Fe m P (Exit.then (fun a' w'=>∃ k',k' < k∧I k' a' w') Q) a w):(Code.loop c).wpIn Fe m P Q a w:=by
 classical
 have ex:∀ a w,(∃ k,I k a w)→∃ k,I k a w∧∀ j,I j a w→k≤j:=by
  intro a w ⟨k,hk⟩
  induction k using Nat.strongRecOn with
  | _ k ih =>
   by_cases h:∃ j,j < k∧I j a w
   ·obtain ⟨j,h1,h2⟩:=h;exact ih j h1 h2
   ·exact ⟨k,hk,fun j hj=>Nat.le_of_not_lt fun hlt=>h ⟨j,hlt,hj⟩⟩
 refine wpIn_loop (fun a w=>∃ k,I k a w) (fun a w=>if h:∃ k,I k a w then Classical.choose (ex a w h) else 0) ⟨m0,h0⟩ fun a w hI=>?_;have hc:=Classical.choose_spec (ex a w hI);refine wpIn_mono (round _ a w hc.1) fun x a' w' hq=>?_
 cases x with
 | normal =>
  obtain ⟨k',hk',hI'⟩:=hq;have hex:∃ k,I k a' w':=⟨k',hI'⟩;refine ⟨hex,?_⟩;rw [dif_pos hI,dif_pos hex]
  exact Nat.lt_of_le_of_lt ((Classical.choose_spec (ex a' w' hex)).2 k' hI') hk'
 | _=>exact hq
def rlW (P:Program) (m:Nat) (ops:Array Oper) (Q:Exit→Act→World→Prop):List Oper→Act→World→Prop
 | [],a,w=>Q .normal a w
 | o::r,a,w =>
  (Region.wanted o (yielded ops a.tmps)=true→o.wpIn Fence.wide m P a w (rlW P m ops Q r) Q) ∧
  (Region.wanted o (yielded ops a.tmps)=false→rlW P m ops Q r (a.put o.dst undef) w)
theorem Ev {m:Nat}:∀ (is:List Nat) (a:Act) (w:World),rlW P m ops Q (is.filterMap (ops[·]?)) a w→wpOpsIn Fence.wide m P ops Q is a w
 | [],a,w,h=>h
 | i::is,a,w,h=>by
  cases ho:ops[i]? with
  | none =>
   simp only [wpOpsIn,ho];simp only [List.filterMap_cons,ho] at h
   exact Ev is a w h
  | some o =>
   simp only [wpOpsIn,ho];simp only [List.filterMap_cons,ho,rlW] at h
   by_cases hw:Region.wanted o (yielded ops a.tmps)=true
   ·simp only [hw,if_true];have h1:=h.1 hw;refine ⟨h1.1,?_⟩;have h2:=h1.2
    generalize (Oper.semAt Fence.wide.round a.eval o).run P w=res at h2 ⊢
    cases res with
    | ok nx w' =>
     cases nx with
     | value v=>exact Ev is _ _ h2
     | skip=>exact Ev is _ _ h2
     | defer d=>exact Ev is _ _ h2
     | enter f args =>
      refine ⟨h2.1,CallsIn.mono h2.2 fun x w'' hx=>?_⟩
      cases x with
      | returned v=>exact Ev is _ _ hx
      | panicked c=>exact hx
      | outgrown=>exact hx
     | row row args=>exact ⟨h2.1,RowsIn.mono h2.2 fun v w'' hx=>Ev is _ _ hx⟩
     | round l f tmps assign body =>
      refine ⟨h2.1,RoundIn.mono h2.2 fun x w'' hx=>?_⟩
      cases x with
      | returned v=>exact Ev is _ _ hx
      | panicked c=>exact hx
      | outgrown=>exact hx
     | _=>exact h2
    | halt x w' =>
     cases x with
     | panic v=>exact h2
     | _=>exact h2
   ·simp only [hw]
    exact ⟨fun _ _=>trivial,Ev is _ _ (h.2 (by simpa using hw))⟩
theorem w_regW {m id:Nat} {os:List Oper} (h:rlW P m os.toArray Q os a w):(Code.region id os.toArray false).wpIn Fence.wide m P Q a w :=
 wpIn_region (Ev _ a w (by rw [Jd];simpa using h))
theorem Xz {m:Nat} {op:Op} {v:Value} {w':World} (F:Fits n a e) (hr:(execOp a.eval ⟨some d,op,t,p,af,none⟩).run P w=.ok (.value v) w') (hd:Nat.ble (d+1) n=true)
  (k:∀ a',Fits n a' ((d,v)::e)→rlW P m ops Q r a' w'):rlW P m ops Q (⟨some d,op,t,p,af,none⟩::r) a w:=by
 refine ⟨fun _=>⟨fun _ _=>trivial,?_⟩,fun h=>by simp [Region.wanted] at h⟩
 show Oper.uponIn _ _ _ _ _ _ _ ((execOp a.eval ⟨some d,op,t,p,af,none⟩).run P w)
 rw [hr]
 exact k _ (F.put hd)
theorem Ahq {m l:Nat} {cal:Operand} {args:List Operand} {ats:Array TypeId} {vs:List Value} {R:Ending→World→Prop} (F:Fits n a e) (hc:ev e cal=some (.func (.yield l) #[] #[])) (hv:evs e args=some vs) (hd:Nat.ble (d+1) n=true)
  (hy:YieldAt Fence.wide (m - 1) P l vs.toArray w R) (k:∀ x w',R x w'→∃ b,x=.returned (.bool b)∧∀ a',Fits n a' ((d,.bool b)::e)→rlW P m ops Q r a' w') :
  rlW P m ops Q (⟨some d,.call ⟨.value cal,args.toArray,ats⟩,t,p,af,none⟩::r) a w:=by
 refine ⟨fun _=>⟨fun _ _=>trivial,?_⟩,fun h=>by simp [Region.wanted] at h⟩;obtain ⟨fn,tmps,assign,body,h1,h2⟩:=hy;have hr:(execOp a.eval ⟨some d,.call ⟨.value cal,args.toArray,ats⟩,t,p,af,none⟩).run P w=.ok (.round l fn tmps assign body) w:=by
  have h3:=F.ev hc;have h4:=F.evs hv;simp only [execOp,resolve,h3,Deferred.ofValue,Sem.run_bind,Sem.run_pure,Result.andThen_ok,invoke];rw [show (#[]++Array.map a.eval args.toArray)=vs.toArray by simp [← h4]]
  exact h1
 show Oper.uponIn _ _ _ _ _ _ _ ((execOp a.eval ⟨some d,.call ⟨.value cal,args.toArray,ats⟩,t,p,af,none⟩).run P w)
 rw [hr];refine ⟨(fun h=>by cases h),RoundIn.mono h2 fun x w' hx=>?_⟩;obtain ⟨b,rfl,hk⟩:=k x w' hx
 exact hk _ (F.put hd)
def La (ds:List Deferred) (a:Act):Act:={ a with defers:=a.defers++ds }
theorem Ux (ds:List Deferred) (a:Act) (d:Option Tmp) (v:Value):(La ds a).put d v=La ds (a.put d v):=by cases d <;> rfl
theorem Xy {Q:Exit→Act→World→Prop} {ds:List Deferred}:∀ (l:List Oper) (a:Act) (w:World),rl P ops (fun e a w=>Q e (La ds a) w) l a w→rl P ops Q l (La ds a) w
 | [],a,w,h=>h
 | o::l,a,w,h=>by
  refine ⟨fun hw=>?_,fun hw=>?_⟩
  ·have h1:=Oper.wp_mono (fun a w=>Xy (Q:=Q) (ds:=ds) l a w) (h.1 hw);unfold Oper.wp at h1 ⊢;rw [show (La ds a).eval=a.eval from rfl]
   generalize (execOp a.eval o).run P w=r at h1 ⊢
   cases r with
   | ok nx w' =>
    cases nx <;> simp only [Oper.upon,Ux] at h1 ⊢
    case value u=>exact h1
    case skip=>exact h1
    case defer d=>rw [show ({ tmps:=(La ds a).tmps,defers:=d::(La ds a).defers }:Act)=La ds { tmps:=a.tmps,defers:=d::a.defers } from rfl,Ux];exact h1
    case enter f args =>
     refine Calls.mono h1 fun e w'' he=>?_
     cases e with
     | returned u=>exact he
     | panicked c=>exact he
     | outgrown=>obtain ⟨a0,w0,h0⟩:=he;exact ⟨_,w0,h0⟩
    case row row args=>exact h1
   | halt x w'=>cases x <;> simp only [Oper.upon] at h1 ⊢ <;> exact h1
  ·rw [Ux];exact Xy l _ _ (h.2 hw)
abbrev W0:Fence:=Fence.wide
theorem N1 {m id:Nat} {os:List Oper} (h:rl P os.toArray Q os a w):(Code.region id os.toArray false).wpIn W0 m P Q a w:=wpIn_wide.2 (Ajy h)
theorem w_regXD {m id:Nat} {ds:List Deferred} {os:List Oper} (h:rl P os.toArray (fun e a w=>Q e (La ds a) w) os a w):(Code.region id os.toArray false).wpIn W0 m P Q (La ds a) w:=wpIn_wide.2 (Ajy (Xy _ _ _ h))
theorem Py {R:Ending→World→Prop} {f:FuncId} {fn:Func} {c:Code} {vs:List Value} (hf:P.funcs[f]?=some fn) (hb:fn.body=some c) {n:Nat} (hn:fn.ntmps=n) (hs:Nat.ble vs.length n=true)
  (h:∀ a,Fits n a (Rt 0 vs)→c.wpIn W0 0 P (bodyPostM W0 0 P fn R) a w):Calls P f vs.toArray w R:=by
 have hs':=Nat.le_of_ble_eq_true hs;refine (callsIn_wide (n:=0)).1 (callsIn_of_wp_marks hf hb trivial (h _ ⟨by simp [hn];omega,rfl,?_⟩));intro i v hi;obtain ⟨_,h2⟩:=Oh vs 0 i v hi;have hlt:i < vs.length:=by
  rcases Nat.lt_or_ge i vs.length with h' | h'
  ·exact h'
  simp [List.getElem?_eq_none h'] at h2
 simp only [Nat.sub_zero] at h2;rw [Array.getElem?_append_left (by simpa using hlt)]
 simpa using h2
def L8 (a:Act) (ps:Array Tmp) (assign body:Code) (fn D:Nat) (st:LoopState) (pe:Option Code):Loop:={ state:=st,pending:=pe,fn,tmps:=a.tmps,params:=ps,assign,body,defers:=D }
def Nw (D:Nat):Deferred:={ target:=.collected D,args:=#[] }
theorem R5 {b:Nat} {o o':Obj} {w':World} (M:Mem w0 G (.obj b o::L) w) (h:w' = w.putObj b o'):Mem w0 G (.obj b o'::L) w':=by
 subst h;have hb:w.heap[b]?=some o:=M.own (.obj b o) (by simp)
 exact M.swap_head (y:=.obj b o') rfl (World.putObj_heap_same (Array.getElem?_eq_some_iff.1 hb).1) rfl rfl rfl (by simp) (fun b' hne=>World.putObj_heap_other (fun e=>hne (by rw [e];rfl)))
theorem Xa {g:Operand} {ps:Array Tmp} {assign body:Code} {gf m:Nat} {lb:List Value} (F:Fits n a e) (M:Mem w0 G L w) (hg:ev e g=some (.func (.func gf) #[] lb.toArray)) (hE:Ent P gf)
  (h:∀ fn l D W,Mem w0 G (.obj l (.loop (L8 a ps assign body fn D .ready none))::.obj D (.deferred (some []))::L) W →
   Calls P gf (#[.func (.yield l) #[] #[]]++lb.toArray) W fun x W'=>∃ v pe G2 L2 st,x=.returned v∧st≠LoopState.busy∧Gle G G2∧Mem w0 G2 (.obj l (.loop (L8 a ps assign body fn D st pe))::.obj D (.deferred (some []))::L2) W' ∧
    ∀ W'',Mem w0 G2 (.obj D (.deferred (some []))::L2) W''→match pe with
     | none=>Q .normal (La [Nw D] a) W''
     | some c=>c.wpIn W0 m P Q (La [Nw D] a) W'') :
  (Code.rangeFunc g ps assign body).wpIn W0 m P Q a w:=by
 refine wpIn_rangeFunc ?_;intro fn _;have hd:La [Nw w.heap.size] a = { a with defers:=[{ target:=.collected w.heap.size,args:=#[] }]++a.defers }:=by unfold La Nw;rw [F.defers];rfl
 have M1:=(M.new (.deferred (some [])));have M2:=M1.new (.loop (L8 a ps assign body fn w.heap.size .ready none));have hsz:(({ w with heap:=w.heap.push (.deferred (some [])) }:World)).heap.size=w.heap.size+1:=by simp
 rw [hsz] at M2;have hen:=run_enterLoop_outer (P:=P) (w:=w) fn a.tmps ps assign body;have hg':=F.ev hg;obtain ⟨W1,hW1⟩:∃ W1,(w.alloc (.deferred (some []))).alloc (.loop (L8 a ps assign body fn w.heap.size .ready none))=W1:=⟨_,rfl⟩;have hen':(Instr.enterLoop fn a.tmps ps assign body none).run P w=.ok (w.heap.size+1,[{ target:=.collected w.heap.size,args:=#[] }]) W1:=by rw [hen,← hW1];rfl
 have M3:Mem w0 G (.obj (w.heap.size+1) (.loop (L8 a ps assign body fn w.heap.size .ready none))::.obj w.heap.size (.deferred (some []))::L) W1:=by rw [← hW1];exact M2
 clear hen M1 M2 hsz hW1;have hin:=P9 (P:=P) (w:=W1) (args:=#[.func (.yield (w.heap.size+1)) #[] #[]]++lb.toArray) hE;refine ⟨w.heap.size+1,[{ target:=.collected w.heap.size,args:=#[] }],W1,{ target:=.fn (.func gf) lb.toArray,args:=#[.func (.yield (w.heap.size+1)) #[] #[]] },W1,gf,#[.func (.yield (w.heap.size+1)) #[] #[]]++lb.toArray,W1,hen',?_,fun _ _=>trivial,?_,(fun h=>by cases h),?_⟩
 ·simp only [resolve,rangeCall,hg']
  simp [go_sem]
 ·simp only [invoke]
  exact hin
 ·refine callsIn_wide.2 (Calls.mono (h fn _ _ _ M3) ?_);rintro x W' ⟨v,pe,G2,L2,st,rfl,hst,hG,M4,hk⟩;have hb:W'.heap[w.heap.size+1]?=some (.loop (L8 a ps assign body fn w.heap.size st pe)):=M4.own (.obj (w.heap.size+1) (.loop (L8 a ps assign body fn w.heap.size st pe))) (by simp);have M5:=(R5 (o':=.loop { L8 a ps assign body fn w.heap.size st pe with state:=.exhausted }) M4 rfl).weaken (List.sublist_cons_self _ _);have hk2:=hk _ M5;rw [hd] at hk2
  exact ⟨pe,_,run_endLoop hb hst,by cases pe with
   | none=>exact hk2
   | some c=>exact hk2⟩
theorem yield2 {l m fn D i j:Nat} {v1 v2:Value} {assign body:Code} {e0:Env} {a0:Act} {R:Ending→World→Prop} (F:Fits n a0 e0) (hi:Nat.ble (i+1) n=true) (hj:Nat.ble (j+1) n=true)
  (M:Mem w0 G (.obj l (.loop (L8 a0 #[i,j] assign body fn D .ready none))::L) w)
  (h:∀ a1,Fits n a1 ((j,v2)::(i,v1)::e0)→assign.wpIn (Rnd l) m P (Exit.then (fun a2 w2=>∀ W2,Mem w0 G (.obj l (.loop (L8 a0 #[i,j] assign body fn D .busy none))::L) W2→w2=w∧body.wpIn (Rnd l) m P (roundPost P l R) a2 W2) (fun _ _ _=>False)) a1 w) :
  YieldAt W0 m P l #[v1,v2] w R:=by
 have hb:w.heap[l]?=some (.loop (L8 a0 #[i,j] assign body fn D .ready none)):=M.own (.obj l (.loop (L8 a0 #[i,j] assign body fn D .ready none))) (by simp);have hz:((#[i,j]:Array Tmp).zip #[v1,v2]).foldl (fun t (x:Tmp × Value)=>t.setIfInBounds x.1 x.2) a0.tmps=(a0.tmps.setIfInBounds i v1).setIfInBounds j v2:=by simp
 have hy:=run_yield (P:=P) (args:=#[v1,v2]) hb rfl;have hy2:(Instr.yield l #[v1,v2]).run P w=.ok (.round l fn ((a0.tmps.setIfInBounds i v1).setIfInBounds j v2) assign body) w:=by rw [← hz];exact hy
 refine ⟨fn,_,assign,body,hy2,roundIn_of_wpIn trivial (wpIn_mono (h _ ?_) ?_)⟩
 ·have F2:=(F.put (v:=v1) hi).put (v:=v2) hj
  exact ⟨F2.size,rfl,F2.slot⟩
 ·intro x a2 w2 hq
  cases x with
  | normal =>
   have M2:=R5 (o':=.loop (L8 a0 #[i,j] assign body fn D .busy none)) M rfl;obtain ⟨rfl,hq2⟩:=hq _ M2
   exact ⟨_,run_beginRound hb rfl,hq2⟩
  | _=>exact hq
theorem M9 {l fn D:Nat} {ps:Array Tmp} {assign body:Code} {a0:Act} (jump:Option Code) (M:Mem w0 G (.obj l (.loop (L8 a0 ps assign body fn D .busy none))::L) w) :
  ∃ w',(Instr.endRound l jump).run P w=.ok (.bool jump.isNone) w'∧Mem w0 G (.obj l (.loop (L8 a0 ps assign body fn D (if jump.isNone then .ready else .done) jump))::L) w' :=
 ⟨_,run_endRound jump (M.own (.obj l (.loop (L8 a0 ps assign body fn D .busy none))) (by simp)),R5 M rfl⟩
theorem X0 {fn:Func} {e0:Env} {t u s ty1 ty2 ty3 k1 k2 k3 b1 b2 b3:Nat} {x y z:Value} (F:Fits n a e0) (M:Mem w0 G L w) (hk1:L[k1]?=some (.blk b1 [x] ty1)) (hk2:L[k2]?=some (.blk b2 [y] ty2)) (hk3:L[k3]?=some (.blk b3 [z] ty3))
  (hf:fn.results = #[.cell t ty1,.cell u ty2,.cell s ty3]) (h1:(tk P ty1).agg=some false) (h2:(tk P ty2).agg=some false) (h3:(tk P ty3).agg=some false)
  (hv1:look e0 t=some (.pointer (some ⟨b1,0,none⟩))) (hv2:look e0 u=some (.pointer (some ⟨b2,0,none⟩))) (hv3:look e0 s=some (.pointer (some ⟨b3,0,none⟩))) :
  (results fn a.tmps).run P w=.ok (.tuple #[x,y,z]) w:=by
 have l1:(loadVar ty1 ⟨b1,0,none⟩).run P w=.ok x w:=Hk h1 (M.cellL hk1 rfl);have l2:(loadVar ty2 ⟨b2,0,none⟩).run P w=.ok y w:=Hk h2 (M.cellL hk2 rfl);have l3:(loadVar ty3 ⟨b3,0,none⟩).run P w=.ok z w:=Hk h3 (M.cellL hk3 rfl)
 simp [results,hf,F.slot _ _ hv1,F.slot _ _ hv2,F.slot _ _ hv3,asAddr,l1,l2,l3]
theorem finM {fn:Func} {R:Ending→World→Prop} {e0:Env} {v:Value} (F:Fits n a e0) (hr:(results fn a.tmps).run P w=.ok v w) (h:R (.returned v) w):bodyPostM W0 0 P fn R .ret a w:=by
 show LeavesInM _ _ _ _ _ _ a.defers _ _
 rw [F.defers]
 exact ⟨v,hr,h⟩
theorem finMD {fn:Func} {R:Ending→World→Prop} {e0:Env} {v:Value} {D:Nat} (F:Fits n a e0) (M:Mem w0 G (.obj D (.deferred (some []))::L) w) (hr:∀ w',Mem w0 G L w'→(results fn a.tmps).run P w' = .ok v w') (h:∀ w',Mem w0 G L w'→R (.returned v) w'):bodyPostM W0 0 P fn R .ret (La [Nw D] a) w:=by
 show LeavesInM _ _ _ _ _ _ (La [Nw D] a).defers _ _
 rw [show (La [Nw D] a).defers=[Nw D] by unfold La;rw [F.defers];rfl];have M2:=(R5 (o':=.deferred none) M rfl).weaken (List.sublist_cons_self _ _)
 exact ⟨by simp,Or.inl ⟨D,_,rfl,run_takeDeferred (M.own (.obj D (.deferred (some []))) (by simp)),v,hr _ M2,h _ M2⟩⟩
theorem finMn {fn:Func} {R:Ending→World→Prop} {e0:Env} {v:Value} (F:Fits n a e0) (hr:(results fn a.tmps).run P w=.ok v w) (h:R (.returned v) w):bodyPostM W0 0 P fn R .normal a w:=finM F hr h
theorem Aev {m:Nat} (h:Q .normal a w):rlW P m ops Q [] a w:=h
theorem W9 {g:Operand} {ps:Array Tmp} {assign body:Code} {gf m:Nat} {lb:List Value} (F:Fits n a e) (M:Mem w0 G L w) (hg:ev e g=some (.func (.func gf) #[] lb.toArray)) (hE:Ent P gf)
  (h:∀ fn l D (Rc:LoopState→Option Code→Res) W,(∀ st pe,Rc st pe=.obj l (.loop (L8 a ps assign body fn D st pe)))→Mem w0 G (Rc .ready none::.obj D (.deferred (some []))::L) W →
   Calls P gf (#[.func (.yield l) #[] #[]]++lb.toArray) W fun x W'=>∃ v pe G2 L2 st,x=.returned v∧st≠LoopState.busy∧Gle G G2∧Mem w0 G2 (Rc st pe::.obj D (.deferred (some []))::L2) W' ∧
    ∀ W'',Mem w0 G2 (.obj D (.deferred (some []))::L2) W''→match pe with
     | none=>Q .normal (La [Nw D] a) W''
     | some c=>c.wpIn W0 m P Q (La [Nw D] a) W'') :
  (Code.rangeFunc g ps assign body).wpIn W0 m P Q a w :=
 Xa F M hg hE fun fn l D W M'=>h fn l D (fun st pe=>.obj l (.loop (L8 a ps assign body fn D st pe))) W (fun _ _=>rfl) M'
end
end Go.Y
