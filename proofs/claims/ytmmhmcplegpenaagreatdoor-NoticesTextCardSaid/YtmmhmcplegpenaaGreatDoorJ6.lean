/- The walks, part P. · The walks, part T. · The walks, part I. · Rules: a copy of a whole slice into an owned row; a set of numbers kept as a map. · The walks, part K. -/
import Derived.Test.YtmmhmcplegpenaaGreatDoorJ5
import Derived.Laws.CopyRow
import Derived.MapKept
namespace Go.Proofs.YtmmhmcplegpenaaGreatDoor
open Go Go.Y Go.Proofs
variable {w0 w:World} {G:A4} {L:List Res}
set_option linter.unusedSimpArgs false
set_option linter.unusedVariables false
theorem itoa_nn {n:Int} (h:0≤n):Lib.itoa n=Lib.decDigits n.toNat:=by unfold Lib.itoa;rw [if_neg (by omega)]
theorem U2:∀ k:Nat,k < 10→(([48,49,50,51,52,53,54,55,56,57]:List UInt8).take (k+1)).drop k=[UInt8.ofNat (48+k)]:=by decide
theorem U5 {k:Nat} (h:k < 10):Lib.decDigits k=[UInt8.ofNat (48+k)]:=by
 rw [He,if_pos (by omega),Nat.mod_eq_of_lt h];rfl
theorem dec_big {u:Nat} (h:9 < u):Lib.decDigits (u / 10)++[UInt8.ofNat (48+u % 10)]=Lib.decDigits u:=by
 rw [He u,if_neg (by omega)]
theorem pub8_le {s:List UInt8} {u:Nat} (h:Lib.parseUintB 8 s=.ok u):u≤255:=by
 have key:∀ (l:List UInt8) (acc:Nat),acc≤255→Lib.parseUintM (2 ^ 8 - 1) acc l=.ok u→u≤255:=by
  intro l
  induction l with
  | nil=>intro acc h1 h2;simp only [Lib.parseUintM,Lib.NumEnd.ok.injEq] at h2;omega
  | cons c r ih =>
   intro acc h1 h2
   unfold Lib.parseUintM at h2
   split at h2
   ·split at h2
    ·cases h2
    ·split at h2
     ·cases h2
     ·exact ih _ (by omega) h2
   ·cases h2
 unfold Lib.parseUintB at h
 split at h
 ·cases h
 ·exact key s 0 (by omega) h
theorem Aav (M:Mem w0 G L w) (HG:Globs 0 1 2 3 G) {u:Nat} (hu:u < 9223372036854775808):Calls Tryz.prog 133 #[.int .i64 ((u:Nat):Int)] w (Ci w0 G L fun v=>v=.string (str (Lib.decDigits u))):=by
 refine A0 (vs:=[_]) Tryz.func133 rfl (n:=5) rfl rfl<|Ab<|Ac<|Af rfl<|Aa<|Ad<|Ab<|Ac<|Ae rfl<|Bw Ajw rfl rfl (Yv (n:=((u:Nat):Int)) M HG (by first | assumption | exact ⟨by decide,by decide⟩ | exact wrap_ink _ _ | exact Cu (by omega) (by omega)))<|?_;clear M;rintro _ w M rfl
 refine Af rfl<|Aa<|Ad<|Ak<|Aj rfl rfl<|?_
 exact ⟨M,by rw [itoa_nn (by omega),Int.toNat_natCast]⟩
theorem Uv (M:Mem w0 G L w) (HG:Globs 0 1 2 3 G) {u:Nat} (hu:u < 9223372036854775808):Calls Tryz.prog 83 #[.int .i64 ((u:Nat):Int)] w (Ci w0 G L fun v=>v=.string (str (Lib.decDigits u))):=by
 refine A0 (vs:=[_]) Tryz.func83 rfl (n:=5) rfl rfl<|Ab<|Ac<|Af rfl<|Aa<|Ad<|Ab<|Ac<|Ae rfl<|Bw Akb rfl rfl (Aav (u:=u) M HG (by omega))<|?_;clear M;rintro _ w M rfl
 refine Af rfl<|Aa<|Ad<|Ak<|Aj rfl rfl<|?_
 exact ⟨M,rfl⟩
def RnumP (u:Nat):Prop:=∀ (w0 w:World) (G:A4) (L:List Res),Mem w0 G L w→u < 18446744073709551616→Calls Tryz.prog 108 #[.int .u64 ((u:Nat):Int)] w (Ci w0 G L fun v=>v=.string (str (Lib.decDigits u)))
theorem Adv {u:Nat} (ih:∀ v,v < u→RnumP v) {w0 w:World} {G:A4} {L:List Res} (M:Mem w0 G L w) (hu:u < 18446744073709551616):Calls Tryz.prog 108 #[.int .u64 ((u:Nat):Int)] w (Ci w0 G L fun v=>v=.string (str (Lib.decDigits u))):=by
 refine A0 (vs:=[_]) Tryz.func108 rfl (n:=19) rfl rfl<|Ab<|Ac<|Af rfl<|Aa<|Ad<|Ab<|Ac<|Ae rfl<|Ar (fun a F=>Xm (F.ev rfl) (F.ev rfl) (by (first | omega | (show u % 10 < 10;omega))) (by (first | omega | (show u % 10 < 10;omega)))) rfl<|Af rfl<|Aa<|Ad<|Ab<|Ac<|Ae rfl<|Ae rfl<|Ar (fun a F=>F3 (F.ev rfl) (F.ev rfl) (Kk (by (first | omega | (show u % 10+1≤10;omega))) (by (first | omega | (show u % 10+1≤10;omega))))) rfl<|Ar (fun a F=>Vr (a:=u % 10) (b:=(u % 10)+1) Bq.k (F.ev rfl) ⟨(F.ev rfl),by omega⟩ ⟨(F.ev rfl),by omega⟩ (by (first | omega | (show u % 10+1≤10;omega))) (by (first | omega | (show u % 10+1≤10;omega)))) rfl<|?_
 have hsl1:(([48,49,50,51,52,53,54,55,56,57]:List UInt8).take ((u % 10)+1)).drop (u % 10)=[UInt8.ofNat (48+u % 10)]:=U2 (u % 10) (by omega)
 intro a F
 rw [hsl1] at F
 revert a
 refine Af rfl<|Aa<|Ad<|Ab<|Ab<|Ac<|Ae rfl<|Df rfl rfl<|Aa<|Ad<|Ax rfl ?_ ?_
 ·intro h2b
  have h2:=dT h2b
  refine Ac<|Ae rfl<|Ar (fun a F=>Xn (F.ev rfl) (F.ev rfl) (by omega) (by omega) (Kk (by omega) (by omega))) rfl<|Bw Na rfl rfl (ih (u / 10) (by omega) _ _ _ _ M (by omega))<|?_;clear M;rintro _ w M rfl
  have hdld3:=Fh (u / 10) (by omega)
  refine Ae rfl<|Ar (fun a F=>Bu (F.ev rfl) (F.ev rfl) (by (try simp only [List.length_append,List.length_cons,List.length_nil]);omega)) rfl<|Af rfl<|Aa<|Ad<|Ab<|Ac<|Ae rfl<|Af rfl<|Aa<|Ad<|Ak<|Aj rfl rfl<|?_
  exact ⟨M,by rw [dec_big (by omega)]⟩
 ·intro h4b
  have h4:=dF h4b
  refine Aq<|Ad<|Ab<|Ac<|Ae rfl<|Af rfl<|Aa<|Ad<|Ak<|Aj rfl rfl<|?_
  exact ⟨M,by rw [U5 (by omega),Nat.mod_eq_of_lt (by omega)]⟩
theorem Agz (u:Nat):RnumP u:=by
 induction u using Nat.strongRecOn with
 | _ u ih=>intro w0 w G L M hu;exact Adv ih M hu
theorem I1 (M:Mem w0 G L w) {u:Nat} (hu:u < 18446744073709551616):Calls Tryz.prog 108 #[.int .u64 ((u:Nat):Int)] w (Ci w0 G L fun v=>v=.string (str (Lib.decDigits u))):=Agz u _ _ _ _ M hu
theorem Aek (M:Mem w0 G L w) (HG:Globs 0 1 2 3 G) {s:List UInt8} (hs:s.length≤281474976710656) :
  Calls Tryz.prog 101 #[.string (str s),.int .i64 10,.int .i64 64] w (Ci w0 G L fun v=>∃ (u:Nat) (er:Value),v=.tuple #[.int .u64 (u:Int),er]∧(er=.nilIface∨∃ te pe,er=.iface te pe)∧Ald 18446744073709551616 s u (D3 er)):=by
 refine (Aal M HG hs).mono ?_
 rintro e w' h
 cases e with
 | returned v =>
  obtain ⟨M',u,er,h1,h2,h3,h4⟩:=h
  refine ⟨M',u,er,h1,h3,by omega,fun m hm he=>?_⟩
  subst he
  have h5:=V3 (B:=64) (by decide) (u:=m) hm
  rcases h4 with ⟨h6,h7⟩ | ⟨h6,_⟩
  ·rw [h5] at h6;simp only [Lib.NumEnd.ok.injEq] at h6;exact ⟨h7,h6.symm⟩
  ·exact absurd h5 (h6 m)
 | panicked c=>exact h.elim
 | outgrown=>exact h.elim
theorem Ahl (M:Mem w0 G L w) (HG:Globs 0 1 2 3 G) {s:List UInt8} (hs:s.length≤281474976710656) :
  Calls Tryz.prog 101 #[.string (str s),.int .i64 10,.int .i64 8] w (Ci w0 G L fun v=>∃ (u:Nat) (er:Value),v=.tuple #[.int .u64 (u:Int),er]∧(er=.nilIface∨∃ te pe,er=.iface te pe)∧Ald 256 s u (D3 er)):=by
 have hd:(str s).data.toList=s:=E1 s
 have no:∀ {b:Bool} {u:Nat},u < 256→(∀ m,m < 256→Lib.parseUintB 8 s≠.ok m)→Ald 256 s u b:=fun hu h=>⟨hu,fun m hm he=>absurd (by rw [he];exact V3 (B:=8) (by decide) hm) (h m hm)⟩
 cases h:Lib.parseUintB 8 s with
 | ok u =>
  refine (Any.strconv_ParseUint_10_at8_ok Tryz.laysPu14 (str s) (by rw [Ck];omega) u (by rw [hd];exact h) w).mono ?_
  rintro e w' ⟨rfl,hw⟩
  refine ⟨?_,u,_,rfl,Or.inl rfl,by have:=pub8_le h;omega,fun m hm he=>?_⟩
  ·rcases hw with rfl | rfl
   ·exact M
   ·exact M.bytesWorld _ _
  ·subst he
   rw [V3 (B:=8) (by decide) hm] at h
   simp only [Lib.NumEnd.ok.injEq] at h
   exact ⟨rfl,h.symm⟩
 | range =>
  obtain ⟨ev,h1,h2⟩:=HG.rng
  refine (Any.strconv_ParseUint_10_at8_range Tryz.laysPu14 (str s) (by rw [Ck];omega) (by rw [hd];exact h) ev w (M.cell h1) h2).mono ?_
  rintro e w' ⟨N,rfl,_,_,hb⟩
  exact ⟨M.below' hb,255,_,rfl,Or.inr ⟨_,_,rfl⟩,no (by omega) (fun m _ hx=>by rw [h] at hx;cases hx)⟩
 | _ =>
  obtain ⟨ev,h1,h2⟩:=HG.syn
  refine (Any.strconv_ParseUint_10_at8_syntax Tryz.laysPu14 (str s) (by rw [Ck];omega) (by rw [hd];exact h) ev w (M.cell h1) h2).mono ?_
  rintro e w' ⟨N,rfl,_,_,hb⟩
  exact ⟨M.below' hb,0,_,rfl,Or.inr ⟨_,_,rfl⟩,no (by omega) (fun m _ hx=>by rw [h] at hx;cases hx)⟩
theorem Afi (M:Mem w0 G L w) {ad:Option Addr} {cd:Nat} {xs:List (List UInt8)} (S:Az D4 1 G (.slice ad xs.length cd) xs) (hN:xs.length≤140737488355328) (hlen:(Lib.join xs [44]).length≤140737488355328) :
  Calls Tryz.prog 97 #[.slice ad xs.length cd,.string (str [44])] w (Ci w0 G L fun v=>v=.string (str (Lib.join xs [44]))):=by
 by_cases h0:xs=[]
 ·subst h0
  refine (Any.strings_Join_none Tryz.lays156 Tryz.Builder_Extra_156 ad cd (str [44]) w).mono ?_
  rintro e w' ⟨rfl,rfl⟩
  exact ⟨M,rfl⟩
 ·obtain ⟨x0,hx0⟩:=Bc (xs:=xs) (i:=0) (List.length_pos_iff.2 h0)
  obtain ⟨b,o,_,rfl,_,_,_,_⟩:=S.index hx0
  obtain ⟨_,_,he,hcap,_⟩:=S.shape
  simp only [Value.slice.injEq] at he
  obtain ⟨_,_,rfl⟩:=he
  have hcell:∀ (j:Nat) (x:List UInt8),xs[j]?=some x→w.cell? ⟨b,o+j,none⟩=some (.string (str x)):=by
   intro j x hx
   obtain ⟨b',o',cs,h1,_,_,hA,hr,_⟩:=S.index hx
   simp only [Option.some.injEq,Addr.mk.injEq,and_true] at h1
   obtain ⟨rfl,rfl⟩:=h1
   subst hr
   have:=hA 0 _ rfl
   rw [Nat.mul_one,Nat.add_zero] at this
   exact M.cell this
  have hm:(xs.map str).map (·.data.toList)=xs:=by
   rw [List.map_map]
   conv=>rhs;rw [← List.map_id xs]
   exact List.map_congr_left fun x _=>E1 x
  have:=Any.strings_Join Tryz.lays156 Tryz.Builder_Extra_156 b o cd (xs.map str) (str [44]) w (by
   intro j x hx
   rw [List.getElem?_map] at hx
   cases hq:xs[j]? with
   | none=>rw [hq] at hx;cases hx
   | some y=>rw [hq] at hx;simp only [Option.map_some,Option.some.injEq] at hx;subst hx;exact hcell j y hq)
   (World.block_lt_of_cell? _ _ (hcell 0 x0 hx0)) (by rw [List.length_map];exact hN) (by rw [List.length_map];exact hcap) (by rw [hm,E1];exact hlen)
  rw [List.length_map,hm,E1] at this
  refine this.mono ?_
  rintro e w' ⟨rfl,hb⟩
  exact ⟨M.below' hb,rfl⟩
theorem Li {G:A4}:∀ (xs:List (List UInt8)),(∀ x∈xs,x.length≤9223372036854775807)→Els D4 1 G (xs.map fun x=>Value.string (str x)) xs
 | [],_=>rfl
 | x::xs,h=>⟨[.string (str x)],_,rfl,rfl,⟨rfl,h x (by simp)⟩,Li xs (fun y hy=>h y (by simp [hy]))⟩
theorem Xf (s:List UInt8):(Lib.splitB (str [44]) 0 (Lib.countB (str s) (str [44])) (str s)).map Value.string=(Bx s).map (fun x=>Value.string (str x)):=by
 have h:=Lib.splitB_data (str [44]) 0 (Lib.countB (str s) (str [44])) (str s)
 rw [E1,E1] at h
 have h2:Lib.countB (str s) (str [44])=Lib.count s [44]:=by
  show Lib.count (str s).data.toList (str [44]).data.toList=_
  rw [E1,E1]
 rw [h2] at h ⊢
 show _=(Lib.splitK [44] 0 (Lib.count s [44]) s).map _
 rw [← h,List.map_map]
 exact List.map_congr_left fun x _=>rfl
theorem Z2 (M:Mem w0 G L w) (HG:Globs 0 1 2 3 G) {s:List UInt8} (hs:s.length < 4294967281) :
  Calls Tryz.prog 102 #[.string (str s),.string (str [44])] w (Ret w0 G L fun G' v=>∃ a:Option Addr,v=.slice a (Bx s).length (Bx s).length∧Az D4 1 G' (.slice a (Bx s).length (Bx s).length) (Bx s)):=by
 obtain ⟨m,hm⟩:=HG.max
 refine (Any.strings_Split Tryz.lays146 (by kernel_rfl) (str s) (str [44]) m w (by rw [Ck];exact hs) (M.cell hm) (by rw [Ck];decide)).mono ?_
 rintro e w' ⟨rfl,rfl⟩
 have hl:(Bx s).length=Lib.countB (str s) (str [44])+1:=by
  have h1:=Lib.splitB_all (str [44]) (by rw [Ck];decide) 0 _ (str s) rfl
  rw [← h1,← List.length_map (f:=Value.string),Xf,List.length_map]
 rw [Xf,← hl]
 have hcb:=Lib.countB_le (str [44]) (by rw [Ck];decide) (str s).size (str s) (Nat.le_refl _)
 rw [Ck] at hcb
 have hle:(Bx s).length≤4294967281:=by omega
 have M1:=M.newrow (t:=Tryz.lays146_ren.t 9) (sz:=1) (n:=(Bx s).length) (c:=(Bx s).length) (cs:=(Bx s).map fun x=>Value.string (str x)) (spare:=[])
  (by intro u hu;obtain ⟨x,_,rfl⟩:=List.mem_map.1 hu;rfl) (by simp) (by simp) (Nat.le_refl _) (by unfold maxLen;omega)
 rw [List.append_nil] at M1
 obtain ⟨_,G',a,c,hG,he,S,M2⟩:=M1.freeze_row Br (k:=0) rfl (Li (Bx s) (fun x hx=>by have:=Z4 hx;omega)) (by decide)
 exact ⟨G',hG,M2,_,rfl,S⟩
open Go Go.Y Go.Proofs
variable {w0 w:World} {G:A4} {L:List Res}
set_option linter.unusedSimpArgs false
set_option linter.unusedVariables false
theorem O0 (M:Mem w0 G L w) (HG:Globs 0 1 2 3 G) {x:ItemD} {ma:Option Addr} {mc:Nat} (hI:(x.key < 18446744073709551616∧x.typ < 256∧x.text.length≤9223372036854775807)) (SM:Az D4 1 G (.slice ma x.marks.length mc) x.marks) (hok:ItemOk 8 x):Calls Tryz.prog 42 #[.agg #[.int .u64 ((x.key:Nat):Int),.int .u8 ((x.typ:Nat):Int),.string (str x.text),.slice ma x.marks.length mc]] w (Ci w0 G L fun v=>v=.string (str (Dj x))):=by
 obtain ⟨hI1,hI2,hI3⟩:=id hI
 have hm8:=hok.2.2.2.1
 have hj:=Kj hm8 hok.2.2.2.2
 have htx:=hok.2.2.1.1
 have hdk:=Fh x.key hI1
 have hdt:=Fh x.typ (by omega)
 refine A0 (vs:=[_]) Tryz.func42 rfl (n:=25) rfl rfl<|Ab<|Ac<|C1 M rfl rfl rfl<|?_;clear M;intro b1 w M
 refine Af rfl<|Aa<|Ad<|Ab<|Ac<|A2 Bf.k rfl rfl<|Bi Ca M 0 rfl rfl rfl rfl<|Bw ent97 rfl rfl (Afi (xs:=x.marks) M SM (by omega) (by omega))<|?_;clear M;rintro _ w M rfl
 refine Af rfl<|Aa<|Ad<|Ab<|Ab<|Ac<|Ae rfl<|F0 rfl rfl<|Aa<|Ad<|Ax rfl ?_ ?_
 ·intro h2b
  have h2:=dT h2b
  refine Ac<|Af rfl<|Aa<|Ad<|Ab<|fun a F=>Fb [(.free,0),(.pure,1),(.free,4),(.pure,5),(.free,6),(.free,10),(.free,13),(.pure,14),(.keep,2),(.free,3),(.keep,7),(.free,8),(.free,9),(.free,11),(.free,12),(.free,15),(.free,16)] [] (Keep G [.blk b1 [.int .u64 ((x.key:Nat):Int),.int .u8 ((x.typ:Nat):Int),.string (str x.text),.slice ma x.marks.length mc] 26]) rfl (by kernel_rfl) (fun c a d v w h=>by cases d <;> exact h) ((M.drew _).keep (Gle.refl _) (by simp)) ?_
  replace M:=M.drew (w.drawn+1)
  revert a
  refine k_f (fun a F w _=>Cm Bf.k rfl F rfl) rfl<|k_p (fun a F w M=>Ap (agf Ew rfl) (F.ev rfl) (M.cellL (k:=0) rfl rfl)) rfl<|k_f (fun a F w _=>Cm Bf.k rfl F rfl) rfl<|k_p (fun a F w M=>Ap (agf Ev rfl) (F.ev rfl) (M.cellL (k:=0) rfl rfl)) rfl<|k_f (fun a F w _=>D0 B7.k ⟨_,by rw [Dk Ev.k]⟩ (F.ev rfl) (Cu (by omega) (by omega))) rfl<|k_f (fun a F w _=>Cg F rfl) rfl<|k_f (fun a F w _=>Cm Bf.k rfl F rfl) rfl<|k_p (fun a F w M=>Ap (agf Bq rfl) (F.ev rfl) (M.cellL (k:=0) rfl rfl)) rfl<|k_k rfl<|Bw ent98 rfl rfl (Acr (u:=x.key) M HG (by omega))<|?_;clear M;rintro _ w M rfl
  refine Aa<|eK (C':=Keep G [.blk b1 [.int .u64 ((x.key:Nat):Int),.int .u8 ((x.typ:Nat):Int),.string (str x.text),.slice ma x.marks.length mc] 26]) (M.keep (Gle.refl _) (by simp)) (fun w h=>h.mono (Gle.refl _) (by simp))<|k_f (fun a F w _=>Bu (F.ev rfl) (F.ev rfl) (by (first | omega | (simp only [List.length_append,List.length_cons,List.length_nil];omega)))) rfl<|k_k rfl<|Bw Acz rfl rfl (Uv (u:=x.typ) M HG (by omega))<|?_;clear M;rintro _ w M rfl
  refine Aa<|eK (C':=Keep G [.blk b1 [.int .u64 ((x.key:Nat):Int),.int .u8 ((x.typ:Nat):Int),.string (str x.text),.slice ma x.marks.length mc] 26]) (M.keep (Gle.refl _) (by simp)) (fun w h=>h.mono (Gle.refl _) (by simp))<|k_f (fun a F w _=>Bu (F.ev rfl) (F.ev rfl) (by (first | omega | (simp only [List.length_append,List.length_cons,List.length_nil];omega)))) rfl<|k_f (fun a F w _=>Bu (F.ev rfl) (F.ev rfl) (by (first | omega | (simp only [List.length_append,List.length_cons,List.length_nil];omega)))) rfl<|k_f (fun a F w _=>Bu (F.ev rfl) (F.ev rfl) (by (first | omega | (simp only [List.length_append,List.length_cons,List.length_nil];omega)))) rfl<|k_f (fun a F w _=>Bu (F.ev rfl) (F.ev rfl) (by (first | omega | (simp only [List.length_append,List.length_cons,List.length_nil];omega)))) rfl<|k_f (fun a F w _=>Bu (F.ev rfl) (F.ev rfl) (by (first | omega | (simp only [List.length_append,List.length_cons,List.length_nil];omega)))) rfl<|k_f (fun a F w _=>Hg F rfl) rfl<|D1<|Ad<|Ak<|Aj rfl rfl<|?_
  exact ⟨M.weaken (.cons _ (sR _)),by first | rw [Uq (by assumption)] | rw [Ur (by assumption) hok]⟩
 ·intro h3b
  have h3:=dF h3b
  refine Aq<|Ad<|Ab<|fun a F=>Fb [(.free,0),(.pure,1),(.free,4),(.pure,5),(.free,6),(.free,10),(.free,13),(.pure,14),(.keep,2),(.free,3),(.keep,7),(.free,8),(.free,9),(.free,11),(.free,12),(.free,15),(.free,16)] [] (Keep G [.blk b1 [.int .u64 ((x.key:Nat):Int),.int .u8 ((x.typ:Nat):Int),.string (str x.text),.slice ma x.marks.length mc] 26]) rfl (by kernel_rfl) (fun c a d v w h=>by cases d <;> exact h) ((M.drew _).keep (Gle.refl _) (by simp)) ?_
  replace M:=M.drew (w.drawn+1)
  revert a
  refine k_f (fun a F w _=>Cm Bf.k rfl F rfl) rfl<|k_p (fun a F w M=>Ap (agf Ew rfl) (F.ev rfl) (M.cellL (k:=0) rfl rfl)) rfl<|k_f (fun a F w _=>Cm Bf.k rfl F rfl) rfl<|k_p (fun a F w M=>Ap (agf Ev rfl) (F.ev rfl) (M.cellL (k:=0) rfl rfl)) rfl<|k_f (fun a F w _=>D0 B7.k ⟨_,by rw [Dk Ev.k]⟩ (F.ev rfl) (Cu (by omega) (by omega))) rfl<|k_f (fun a F w _=>Cg F rfl) rfl<|k_f (fun a F w _=>Cm Bf.k rfl F rfl) rfl<|k_p (fun a F w M=>Ap (agf Bq rfl) (F.ev rfl) (M.cellL (k:=0) rfl rfl)) rfl<|k_k rfl<|Bw ent98 rfl rfl (Acr (u:=x.key) M HG (by omega))<|?_;clear M;rintro _ w M rfl
  refine Aa<|eK (C':=Keep G [.blk b1 [.int .u64 ((x.key:Nat):Int),.int .u8 ((x.typ:Nat):Int),.string (str x.text),.slice ma x.marks.length mc] 26]) (M.keep (Gle.refl _) (by simp)) (fun w h=>h.mono (Gle.refl _) (by simp))<|k_f (fun a F w _=>Bu (F.ev rfl) (F.ev rfl) (by (first | omega | (simp only [List.length_append,List.length_cons,List.length_nil];omega)))) rfl<|k_k rfl<|Bw Acz rfl rfl (Uv (u:=x.typ) M HG (by omega))<|?_;clear M;rintro _ w M rfl
  refine Aa<|eK (C':=Keep G [.blk b1 [.int .u64 ((x.key:Nat):Int),.int .u8 ((x.typ:Nat):Int),.string (str x.text),.slice ma x.marks.length mc] 26]) (M.keep (Gle.refl _) (by simp)) (fun w h=>h.mono (Gle.refl _) (by simp))<|k_f (fun a F w _=>Bu (F.ev rfl) (F.ev rfl) (by (first | omega | (simp only [List.length_append,List.length_cons,List.length_nil];omega)))) rfl<|k_f (fun a F w _=>Bu (F.ev rfl) (F.ev rfl) (by (first | omega | (simp only [List.length_append,List.length_cons,List.length_nil];omega)))) rfl<|k_f (fun a F w _=>Bu (F.ev rfl) (F.ev rfl) (by (first | omega | (simp only [List.length_append,List.length_cons,List.length_nil];omega)))) rfl<|k_f (fun a F w _=>Bu (F.ev rfl) (F.ev rfl) (by (first | omega | (simp only [List.length_append,List.length_cons,List.length_nil];omega)))) rfl<|k_f (fun a F w _=>Bu (F.ev rfl) (F.ev rfl) (by (first | omega | (simp only [List.length_append,List.length_cons,List.length_nil];omega)))) rfl<|k_f (fun a F w _=>Hg F rfl) rfl<|D1<|Ad<|Ak<|Aj rfl rfl<|?_
  exact ⟨M.weaken (.cons _ (sR _)),by first | rw [Uq (by assumption)] | rw [Ur (by assumption) hok]⟩
theorem Aae (M:Mem w0 G L w) {x:ItemD} {ma:Option Addr} {mc:Nat} (hI:(x.key < 18446744073709551616∧x.typ < 256∧x.text.length≤9223372036854775807)) (SM:Az D4 1 G (.slice ma x.marks.length mc) x.marks) (hok:ItemOk 8 x):Calls Tryz.prog 59 #[.agg #[.int .u64 ((x.key:Nat):Int),.int .u8 ((x.typ:Nat):Int),.string (str x.text),.slice ma x.marks.length mc]] w (Ci w0 G L fun v=>v=.string (str (Dj x++[10]))):=by
 obtain ⟨hI1,hI2,hI3⟩:=id hI
 have hm8:=hok.2.2.2.1
 have hj:=Kj hm8 hok.2.2.2.2
 have htx:=hok.2.2.1.1
 have hdk:=Fh x.key hI1
 have hdt:=Fh x.typ (by omega)
 refine A0 (vs:=[_]) Tryz.func59 rfl (n:=44) rfl rfl<|Ab<|Ac<|C1 M rfl rfl rfl<|?_;clear M;intro b1 w M
 refine Af rfl<|Aa<|Ad<|Ab<|Ac<|Af rfl<|Aa<|Ad<|Ab<|Ab<|Ac<|Af rfl<|Aa<|Ad<|A1<|fun a F=>B2 (fun m a' w'=>∃ (i:Nat),m=x.marks.length - i∧Fits 44 a' [(1,.pointer (some ⟨b1,0,none⟩)),(2,.string (str ([]:List UInt8))),(3,.string (str (Lib.join (x.marks.take i) [44]))),(4,.int .i64 ((i:Nat):Int))]∧Mem w0 G (.blk b1 [.int .u64 ((x.key:Nat):Int),.int .u8 ((x.typ:Nat):Int),.string (str x.text),.slice ma x.marks.length mc] 26::L) w'∧(i≤x.marks.length)) _ ⟨0,rfl,F.to ⟨rfl,rfl,rfl,rfl,trivial⟩,M,by omega⟩ ?_
 clear F M
 rintro m a w ⟨i,rfl,F,M,hi⟩
 revert a
 refine Ab<|Ab<|Ac<|Ae rfl<|A2 Bf.k rfl rfl<|Bi Ca M 0 rfl rfl rfl rfl<|B8 Ca.k rfl<|C9 rfl rfl<|Aa<|Ad<|Ax rfl ?_ ?_
 ·intro h2b
  have h2:=dT h2b
  refine Aq<|Ad<|Ab<|A1<|Ab<|Ab<|?_
  have hjt:=O3 hok i
  have hjt2:=O3 hok (i+1)
  refine Ac<|Ae rfl<|Df rfl rfl<|Aa<|Ad<|Ax rfl ?_ ?_
  ·intro h3b
   have h3:=dT h3b
   refine Ac<|Ae rfl<|Ar (fun a F=>Bu (F.ev rfl) (F.ev rfl) (by (first | omega | (simp only [List.length_append,List.length_cons,List.length_nil];omega)))) rfl<|Af rfl<|Aa<|Ad<|Ac<|Ae rfl<|A2 Bf.k rfl rfl<|Bi Ca M 0 rfl rfl rfl rfl<|Ae rfl<|?_
   obtain ⟨Xe4,hXe4⟩:=Bc (xs:=x.marks) (i:=i) (by omega)
   obtain ⟨be4,oe4,_,Ie4,_,Ae4,⟨rfl,hsle4⟩⟩:=SM.at hXe4
   refine Ds Ca.k Bq Ie4 rfl rfl<|C2 Bq M Ae4 0 rfl rfl (by omega) rfl<|?_
   have hmn:=(hok.2.2.2.2 Xe4 (List.mem_of_getElem? hXe4)).1.2
   refine Ar (fun a F=>Bu (F.ev rfl) (F.ev rfl) (by (first | omega | (simp only [List.length_append,List.length_cons,List.length_nil];omega)))) rfl<|Af rfl<|Aa<|C0<|Ad<|Ac<|Ae rfl<|B9 rfl rfl<|Af rfl<|Aa<|Ad<|fun a F=>?_
   rw [← Afj hXe4 (by omega)] at F
   exact ⟨_,by omega,i+1,rfl,F.to ⟨rfl,rfl,rfl,rfl,trivial⟩,M,by omega⟩
  ·intro h5b
   have h5:=dF h5b
   refine Aq<|Ad<|Ac<|Ae rfl<|A2 Bf.k rfl rfl<|Bi Ca M 0 rfl rfl rfl rfl<|Ae rfl<|?_
   obtain ⟨Xe6,hXe6⟩:=Bc (xs:=x.marks) (i:=i) (by omega)
   obtain ⟨be6,oe6,_,Ie6,_,Ae6,⟨rfl,hsle6⟩⟩:=SM.at hXe6
   refine Ds Ca.k Bq Ie6 rfl rfl<|C2 Bq M Ae6 0 rfl rfl (by omega) rfl<|?_
   have hmn:=(hok.2.2.2.2 Xe6 (List.mem_of_getElem? hXe6)).1.2
   refine Ar (fun a F=>Bu (F.ev rfl) (F.ev rfl) (by (first | omega | (simp only [List.length_append,List.length_cons,List.length_nil];omega)))) rfl<|Af rfl<|Aa<|C0<|Ad<|Ac<|Ae rfl<|B9 rfl rfl<|Af rfl<|Aa<|Ad<|?_
   have hi0:i=0:=by omega
   have hq0:(Lib.join (x.marks.take i) [44])++Xe6=Lib.join (x.marks.take (i+1)) [44]:=by subst hi0;rw [Aip hXe6];rfl
   intro a F
   rw [hq0] at F
   exact ⟨_,by omega,i+1,rfl,F.to ⟨rfl,rfl,rfl,rfl,trivial⟩,M,by omega⟩
 ·intro h7b
  have h7:=dF h7b
  refine B5<|B0<|B0<|Dr<|Ad<|Ab<|Ab<|?_
  have hjt:=O3 hok i
  refine Ac<|A2 Bf.k rfl rfl<|Bi Ca M 0 rfl rfl rfl rfl<|B8 Ca.k rfl<|Dy rfl rfl<|Aa<|Ad<|Ax rfl ?_ ?_
  ·intro h8b
   have h8:=dT h8b
   refine Ac<|Af rfl<|Aa<|Ad<|Ab<|fun a F=>Fb [(.free,0),(.pure,1),(.free,4),(.pure,5),(.free,6),(.free,10),(.free,13),(.pure,14),(.keep,2),(.free,3),(.keep,7),(.free,8),(.free,9),(.free,11),(.free,12),(.free,15),(.free,16),(.free,17)] [] (Keep G [.blk b1 [.int .u64 ((x.key:Nat):Int),.int .u8 ((x.typ:Nat):Int),.string (str x.text),.slice ma x.marks.length mc] 26]) rfl (by kernel_rfl) (fun c a d v w h=>by cases d <;> exact h) ((M.drew _).keep (Gle.refl _) (by simp)) ?_
   replace M:=M.drew (w.drawn+1)
   revert a
   refine k_f (fun a F w _=>Cm Bf.k rfl F rfl) rfl<|k_p (fun a F w M=>Ap (agf Ew rfl) (F.ev rfl) (M.cellL (k:=0) rfl rfl)) rfl<|k_f (fun a F w _=>Cm Bf.k rfl F rfl) rfl<|k_p (fun a F w M=>Ap (agf Ev rfl) (F.ev rfl) (M.cellL (k:=0) rfl rfl)) rfl<|k_f (fun a F w _=>D0 Ew.k ⟨_,by rw [Dk Ev.k]⟩ (F.ev rfl) (Kk (by omega) (by omega))) rfl<|k_f (fun a F w _=>Cg F rfl) rfl<|k_f (fun a F w _=>Cm Bf.k rfl F rfl) rfl<|k_p (fun a F w M=>Ap (agf Bq rfl) (F.ev rfl) (M.cellL (k:=0) rfl rfl)) rfl<|k_k rfl<|Bw Na rfl rfl (I1 (u:=x.key) M (by (first | omega | assumption)))<|?_;clear M;rintro _ w M rfl
   refine Aa<|eK (C':=Keep G [.blk b1 [.int .u64 ((x.key:Nat):Int),.int .u8 ((x.typ:Nat):Int),.string (str x.text),.slice ma x.marks.length mc] 26]) (M.keep (Gle.refl _) (by simp)) (fun w h=>h.mono (Gle.refl _) (by simp))<|k_f (fun a F w _=>Bu (F.ev rfl) (F.ev rfl) (by (first | omega | (simp only [List.length_append,List.length_cons,List.length_nil];omega)))) rfl<|k_k rfl<|Bw Na rfl rfl (I1 (u:=x.typ) M (by (first | omega | assumption)))<|?_;clear M;rintro _ w M rfl
   refine Aa<|eK (C':=Keep G [.blk b1 [.int .u64 ((x.key:Nat):Int),.int .u8 ((x.typ:Nat):Int),.string (str x.text),.slice ma x.marks.length mc] 26]) (M.keep (Gle.refl _) (by simp)) (fun w h=>h.mono (Gle.refl _) (by simp))<|k_f (fun a F w _=>Bu (F.ev rfl) (F.ev rfl) (by (first | omega | (simp only [List.length_append,List.length_cons,List.length_nil];omega)))) rfl<|k_f (fun a F w _=>Bu (F.ev rfl) (F.ev rfl) (by (first | omega | (simp only [List.length_append,List.length_cons,List.length_nil];omega)))) rfl<|k_f (fun a F w _=>Bu (F.ev rfl) (F.ev rfl) (by (first | omega | (simp only [List.length_append,List.length_cons,List.length_nil];omega)))) rfl<|k_f (fun a F w _=>Bu (F.ev rfl) (F.ev rfl) (by (first | omega | (simp only [List.length_append,List.length_cons,List.length_nil];omega)))) rfl<|k_f (fun a F w _=>Bu (F.ev rfl) (F.ev rfl) (by (first | omega | (simp only [List.length_append,List.length_cons,List.length_nil];omega)))) rfl<|k_f (fun a F w _=>Bu (F.ev rfl) (F.ev rfl) (by (first | omega | (simp only [List.length_append,List.length_cons,List.length_nil];omega)))) rfl<|k_f (fun a F w _=>Hg F rfl) rfl<|D1<|Ad<|Ak<|Aj rfl rfl<|?_
   exact ⟨M.weaken (.cons _ (sR _)),by first | rw [Up (by omega)] | rw [Uo (i:=i) (by omega) (by omega)]⟩
  ·intro h9b
   have h9:=dF h9b
   refine Aq<|Ad<|Ab<|fun a F=>Fb [(.free,0),(.pure,1),(.free,4),(.pure,5),(.free,6),(.free,10),(.free,13),(.pure,14),(.keep,2),(.free,3),(.keep,7),(.free,8),(.free,9),(.free,11),(.free,12),(.free,15),(.free,16),(.free,17)] [] (Keep G [.blk b1 [.int .u64 ((x.key:Nat):Int),.int .u8 ((x.typ:Nat):Int),.string (str x.text),.slice ma x.marks.length mc] 26]) rfl (by kernel_rfl) (fun c a d v w h=>by cases d <;> exact h) ((M.drew _).keep (Gle.refl _) (by simp)) ?_
   replace M:=M.drew (w.drawn+1)
   revert a
   refine k_f (fun a F w _=>Cm Bf.k rfl F rfl) rfl<|k_p (fun a F w M=>Ap (agf Ew rfl) (F.ev rfl) (M.cellL (k:=0) rfl rfl)) rfl<|k_f (fun a F w _=>Cm Bf.k rfl F rfl) rfl<|k_p (fun a F w M=>Ap (agf Ev rfl) (F.ev rfl) (M.cellL (k:=0) rfl rfl)) rfl<|k_f (fun a F w _=>D0 Ew.k ⟨_,by rw [Dk Ev.k]⟩ (F.ev rfl) (Kk (by omega) (by omega))) rfl<|k_f (fun a F w _=>Cg F rfl) rfl<|k_f (fun a F w _=>Cm Bf.k rfl F rfl) rfl<|k_p (fun a F w M=>Ap (agf Bq rfl) (F.ev rfl) (M.cellL (k:=0) rfl rfl)) rfl<|k_k rfl<|Bw Na rfl rfl (I1 (u:=x.key) M (by (first | omega | assumption)))<|?_;clear M;rintro _ w M rfl
   refine Aa<|eK (C':=Keep G [.blk b1 [.int .u64 ((x.key:Nat):Int),.int .u8 ((x.typ:Nat):Int),.string (str x.text),.slice ma x.marks.length mc] 26]) (M.keep (Gle.refl _) (by simp)) (fun w h=>h.mono (Gle.refl _) (by simp))<|k_f (fun a F w _=>Bu (F.ev rfl) (F.ev rfl) (by (first | omega | (simp only [List.length_append,List.length_cons,List.length_nil];omega)))) rfl<|k_k rfl<|Bw Na rfl rfl (I1 (u:=x.typ) M (by (first | omega | assumption)))<|?_;clear M;rintro _ w M rfl
   refine Aa<|eK (C':=Keep G [.blk b1 [.int .u64 ((x.key:Nat):Int),.int .u8 ((x.typ:Nat):Int),.string (str x.text),.slice ma x.marks.length mc] 26]) (M.keep (Gle.refl _) (by simp)) (fun w h=>h.mono (Gle.refl _) (by simp))<|k_f (fun a F w _=>Bu (F.ev rfl) (F.ev rfl) (by (first | omega | (simp only [List.length_append,List.length_cons,List.length_nil];omega)))) rfl<|k_f (fun a F w _=>Bu (F.ev rfl) (F.ev rfl) (by (first | omega | (simp only [List.length_append,List.length_cons,List.length_nil];omega)))) rfl<|k_f (fun a F w _=>Bu (F.ev rfl) (F.ev rfl) (by (first | omega | (simp only [List.length_append,List.length_cons,List.length_nil];omega)))) rfl<|k_f (fun a F w _=>Bu (F.ev rfl) (F.ev rfl) (by (first | omega | (simp only [List.length_append,List.length_cons,List.length_nil];omega)))) rfl<|k_f (fun a F w _=>Bu (F.ev rfl) (F.ev rfl) (by (first | omega | (simp only [List.length_append,List.length_cons,List.length_nil];omega)))) rfl<|k_f (fun a F w _=>Bu (F.ev rfl) (F.ev rfl) (by (first | omega | (simp only [List.length_append,List.length_cons,List.length_nil];omega)))) rfl<|k_f (fun a F w _=>Hg F rfl) rfl<|D1<|Ad<|Ak<|Aj rfl rfl<|?_
   exact ⟨M.weaken (.cons _ (sR _)),by first | rw [Up (by omega)] | rw [Uo (i:=i) (by omega) (by omega)]⟩
theorem Adm (M:Mem w0 G L w) (HG:Globs 0 1 2 3 G) {a1:Option Addr} {c1:Nat} {xs:List ItemD} (S:Az Co 4 G (.slice a1 xs.length c1) xs) :
  Calls Tryz.prog 11 #[.slice a1 xs.length c1] w (Ci w0 G L fun v=>v=.tuple #[.string (str (Kt xs)),.int .i64 (Jf xs)]):=by
 have bS:=S.bound
 refine A0 (vs:=[_]) Tryz.func11 rfl (n:=28) rfl rfl<|Ab<|Ac<|Af rfl<|Af rfl<|Aa<|Ad<|Ab<|Ab<|Ac<|Ae rfl<|B8 Bp.k rfl<|Df rfl rfl<|Aa<|Ad<|Ax rfl ?_ ?_
 ·intro h1b
  have h1:=dT h1b
  refine Ab<|Ac<|Af rfl<|Af rfl<|Aa<|Ad<|Ak<|Au<|Gs rfl rfl rfl<|?_
  exact ⟨M,by rw [(Jw (by omega)).1,(Jw (by omega)).2];rfl⟩
 ·intro h2b
  have h2:=dF h2b
  refine Aq<|Ad<|Ab<|Ac<|C6 M Gr rfl rfl<|?_;clear M;intro b3 w M
  refine Aa<|Ad<|Ab<|Ab<|?_
  change Mem w0 G (_::L) _ at M
  have M:=(M.nilrow 5 1).perm (List.Perm.swap _ _ _)
  intro a F
  rw [show ([]:List Value)=bc [] from rfl] at M
  revert a
  refine Ac<|Ae rfl<|B8 Bp.k rfl<|Ae rfl<|Aa<|Ad<|A1<|fun a F=>B2 (fun m a' w'=>∃ (i:Nat),∃ (am:Option Addr),∃ (nm:Nat),∃ (cm:Nat),∃ (pm:Value),m=xs.length - i∧Fits 28 a' [(0,.slice a1 xs.length c1),(4,.pointer (some ⟨b3,0,none⟩)),(11,.slice a1 xs.length c1),(12,.int .i64 ((xs.length:Nat):Int)),(13,.int .i64 ((i:Nat):Int))]∧Mem w0 G (.blk b3 [pm,.slice am nm cm] 101::.row (.slice am nm cm) (nm) (bc (Cx (xs.take i))) 5 1::L) w'∧(i≤xs.length)∧((Cx (xs.take i)).length≤301 * i)∧(∀ (m:Nat) (x:ItemD),m < i→xs[m]?=some x→ItemOk 8 x)∧(pm=.pointer none∨pm=.pointer (some ⟨b3,0,none⟩))∧(nm=(Cx (xs.take i)).length)∧((Cx (xs.take i))=[]→am=none)) _ ⟨0,(none),(0),(0),(.pointer none),rfl,F.to ⟨rfl,rfl,rfl,rfl,rfl,trivial⟩,M,Nat.zero_le _,by simp [Cx],fun m x h=>by omega,(Or.inl rfl),rfl,(fun _=>rfl)⟩ ?_
  clear F M
  rintro m a w ⟨i,am,nm,cm,pm,rfl,F,M,hi,hlen,hA,hpm,hnm,hnilm⟩
  revert a
  refine Ab<|Ac<|C9 rfl rfl<|Aa<|Ad<|Ab<|Ax rfl ?_ ?_
  ·intro h5b
   have h5:=dT h5b
   refine Aq<|Ad<|Ab<|A1<|Ab<|Ac<|?_
   obtain ⟨Xe6,hXe6⟩:=Bc (xs:=xs) (i:=i) (by omega)
   obtain ⟨be6,oe6,_,Ie6,_,Ae6,hTe6⟩:=S.at hXe6
   obtain ⟨mae6,mce6,rfl,hke6,hte6,hxe6,hne6,SMe6⟩:=hTe6
   have hIe6:(Xe6.key < 18446744073709551616∧Xe6.typ < 256∧Xe6.text.length≤9223372036854775807):=⟨hke6,hte6,hxe6⟩
   refine Ds Bp.k Bf Ie6 rfl rfl<|Ar (fun a F=>Ao Bf rfl (F.ev rfl) (cs:=[.int .u64 ((Xe6.key:Nat):Int),.int .u8 ((Xe6.typ:Nat):Int),.string (str Xe6.text),.slice mae6 Xe6.marks.length mce6]) rfl (M.cellsA Ae6 0 (by omega) rfl)) rfl<|C6 M Bf rfl rfl<|?_;clear M;intro b7 w M
   intro a F
   refine Av F M Bf (k:=0) rfl rfl rfl (us:=[.int .u64 ((Xe6.key:Nat):Int),.int .u8 ((Xe6.typ:Nat):Int),.string (str Xe6.text),.slice mae6 Xe6.marks.length mce6]) rfl rfl (by simp [Value.oneCell']) (by simp) ?_;clear F M a;intro w a M F
   change Mem w0 G (.blk b7 [.int .u64 ((Xe6.key:Nat):Int),.int .u8 ((Xe6.typ:Nat):Int),.string (str Xe6.text),.slice mae6 Xe6.marks.length mce6] 26::_::_::L) _ at M
   revert a
   refine Aa<|Ad<|Ab<|Ab<|Ac<|Ar (fun a F=>Ao Bf rfl (F.ev rfl) (cs:=[.int .u64 ((Xe6.key:Nat):Int),.int .u8 ((Xe6.typ:Nat):Int),.string (str Xe6.text),.slice mae6 Xe6.marks.length mce6]) rfl (M.cellsL (k:=0) rfl rfl)) rfl<|Bw Y1 rfl rfl (I9 (x:=Xe6) (t:=8) M hIe6 SMe6)<|?_;clear M;rintro _ w M rfl
   refine Af rfl<|Aa<|Ad<|Ab<|Ac<|Ae rfl<|D9 rfl rfl<|Aa<|Ad<|Ax rfl ?_ ?_
   ·intro h9b
    have h9:=dF (Ah h9b)
    refine Ab<|Ac<|Ae rfl<|Af rfl<|Af rfl<|Aa<|Ad<|Ak<|Au<|Bk<|Au<|Au<|Bk<|Au<|Gs rfl rfl rfl<|?_
    exact ⟨(M.weaken (.cons _ (.cons _ (.cons _ (sR _))))),by rw [(Jy (by omega) (Ih.no hXe6 (fun h_=>by have:=Dh h_;omega))).1,(Jy (by omega) (Ih.no hXe6 (fun h_=>by have:=Dh h_;omega))).2,Fo (fun h_=>by have:=Dh h_;omega)];rfl⟩
   ·intro h10b
    have h10:=dT (Ai h10b)
    refine Aq<|Ad<|?_
    have hokX:ItemOk 8 Xe6:=Dp.1 (by omega)
    refine Ac<|Ar (fun a F=>Ao Bf rfl (F.ev rfl) (cs:=[.int .u64 ((Xe6.key:Nat):Int),.int .u8 ((Xe6.typ:Nat):Int),.string (str Xe6.text),.slice mae6 Xe6.marks.length mce6]) rfl (M.cellsL (k:=0) rfl rfl)) rfl<|Bw Ajk rfl rfl (O0 (x:=Xe6) M HG hIe6 SMe6 hokX)<|?_;clear M;rintro _ w M rfl
    have hlll11:=Le (x:=Xe6) hokX hIe6.1 hIe6.2.1
    refine Ar (fun a F=>Bu (F.ev rfl) (F.ev rfl) (by (first | omega | (simp only [List.length_append,List.length_cons,List.length_nil];omega)))) rfl<|?_
    replace M:=M.perm (Am _ 2 _ rfl)
    replace M:=M.perm (Am _ 2 _ rfl)
    change Mem w0 G (_::_::.blk b7 [.int .u64 ((Xe6.key:Nat):Int),.int .u8 ((Xe6.typ:Nat):Int),.string (str Xe6.text),.slice mae6 Xe6.marks.length mce6] 26::L) _ at M
    refine Oj Ada rfl rfl (Lp (s:=((Dj Xe6)++([10]:List UInt8))) hpm M hnm hnilm (by (first | omega | (simp only [List.length_append,List.length_cons,List.length_nil];omega))))<|?_;clear M;rintro _ _ w M ⟨rfl,au12,nu12,cu12,rfl,hnu12,hnilu12⟩
    refine Aa<|C0<|Ad<|Ac<|B9 rfl rfl<|Ae rfl<|Aa<|Ad<|?_
    have hsn:(Cx (xs.take i))++((Dj Xe6)++([10]:List UInt8))=Cx (xs.take (i+1)):=by rw [Mo hXe6]
    intro a F
    rw [hsn] at M hnu12 hnilu12
    exact ⟨_,by omega,i+1,(au12),(nu12),(cu12),(.pointer (some ⟨b3,0,none⟩)),rfl,F.to ⟨rfl,rfl,rfl,rfl,rfl,trivial⟩,(M.weaken (.cons_cons _ (.cons_cons _ (.cons _ (sR _))))),by omega,by rw [← hsn];simp only [List.length_append,List.length_cons,List.length_nil];omega,E9 hA hXe6 hokX,(Or.inr rfl),hnu12,hnilu12⟩
  ·intro h13b
   have h13:=dF h13b
   refine B5<|B0<|B0<|Dr<|Ad<|Ab<|Ac<|?_
   replace M:=M.perm (Am _ 1 _ rfl)
   replace M:=M.perm (Am _ 1 _ rfl)
   change Mem w0 G (_::_::L) _ at M
   refine Bw ent43 rfl rfl (Va M hnm hnilm)<|?_;clear M;rintro _ w M rfl
   refine Af rfl<|Af rfl<|Aa<|Ad<|Ak<|Gs rfl rfl rfl<|?_
   exact ⟨M,by rw [(Qf (by omega) (Ej hA (by omega))).1,(Qf (by omega) (Ej hA (by omega))).2,List.take_of_length_le (by omega)]⟩
open Go Go.Y Go.Proofs
set_option linter.unusedSimpArgs false
set_option linter.unusedVariables false
theorem Afk {w0 w:World} {G:A4} {L:List Res} (M:Mem w0 G L w) (HG:Globs 0 1 2 3 G) {s:List UInt8} (hs:s.length≤1048577):Calls Tryz.prog 45 #[.string (str s)] w (Ret w0 G L fun G' v=>∃ (x:ItemD) (ma:Option Addr) (mc:Nat) (b:Bool),v=.tuple #[.agg #[.int .u64 ((x.key:Nat):Int),.int .u8 ((x.typ:Nat):Int),.string (str x.text),.slice ma x.marks.length mc],.bool b]∧(x.key < 18446744073709551616∧x.typ < 256∧x.text.length≤9223372036854775807)∧Az D4 1 G' (.slice ma x.marks.length mc) x.marks∧(b=true→Rd8 s x)∧(b=false→∀ y,¬ Rd8 s y)):=by
 refine A0 (vs:=[_]) Tryz.func45 rfl (n:=72) rfl rfl<|Ab<|Ac<|C6 M Bf rfl rfl<|?_;clear M;intro b1 w M
 refine Af rfl<|Aa<|Ad<|Ab<|Ac<|Ae rfl<|Bw Sr rfl rfl (Lj (s:=s) (sep:=([32]:List UInt8)) M HG (by omega))<|?_;clear M;rintro _ w M rfl
 have hclc3:=Ig 32 s
 refine Ae rfl<|Dg rfl rfl<|Dg rfl rfl<|Dg rfl rfl<|Af rfl<|Af rfl<|Af rfl<|Aa<|Ad<|Ab<|Ac<|Ae rfl<|Bw Sr rfl rfl (Lj (s:=(Lib.cut s ([32]:List UInt8)).2.1) (sep:=([32]:List UInt8)) M HG (by omega))<|?_;clear M;rintro _ w M rfl
 have hclc4:=Ig 32 ((Lib.cut s ([32]:List UInt8)).2.1)
 refine Ae rfl<|Dg rfl rfl<|Dg rfl rfl<|Dg rfl rfl<|Af rfl<|Af rfl<|Af rfl<|Aa<|Ad<|Ab<|Ac<|Ae rfl<|Bw Sr rfl rfl (Lj (s:=(Lib.cut ((Lib.cut s ([32]:List UInt8)).2.1) ([32]:List UInt8)).2.1) (sep:=([32]:List UInt8)) M HG (by omega))<|?_;clear M;rintro _ w M rfl
 have hclc5:=Ig 32 ((Lib.cut ((Lib.cut s ([32]:List UInt8)).2.1) ([32]:List UInt8)).2.1)
 refine Ae rfl<|Dg rfl rfl<|Dg rfl rfl<|Dg rfl rfl<|Af rfl<|Af rfl<|Af rfl<|Aa<|Ad<|Ab<|Ac<|Ae rfl<|Bw Akg rfl rfl (Aek (s:=(Lib.cut s ([32]:List UInt8)).1) M HG (by omega))<|?_;clear M;rintro _ w M ⟨u6,eru6,rfl,hiu6,hpuu6⟩
 have hltu6:=hpuu6.1
 refine Ae rfl<|Dg rfl rfl<|Dg rfl rfl<|Af rfl<|Af rfl<|Aa<|Ad<|Ab<|Ac<|Ae rfl<|Bw Akg rfl rfl (Ahl (s:=(Lib.cut ((Lib.cut s ([32]:List UInt8)).2.1) ([32]:List UInt8)).1) M HG (by omega))<|?_;clear M;rintro _ w M ⟨u7,eru7,rfl,hiu7,hpuu7⟩
 have hltu7:=hpuu7.1
 refine Ae rfl<|Dg rfl rfl<|Dg rfl rfl<|Af rfl<|Af rfl<|Aa<|Ad<|Ab<|Ac<|Ae rfl<|Ae rfl<|Ar (fun a F=>D0 Ev.k ⟨_,by rw [Dk Ew.k]⟩ (F.ev rfl) (in_u8 (by omega) (by omega))) rfl<|Ae rfl<|Ar (fun a F=>Be (cs:=[.int .u64 ((u6:Nat):Int),.int .u8 ((u7:Nat):Int),.string (str ((Lib.cut ((Lib.cut ((Lib.cut s ([32]:List UInt8)).2.1) ([32]:List UInt8)).2.1) ([32]:List UInt8)).2.1)),.slice none 0 0]) (ps:=[(0,.int .u64 ((u6:Nat):Int)),(1,.int .u8 ((u7:Nat):Int)),(2,.string (str ((Lib.cut ((Lib.cut ((Lib.cut s ([32]:List UInt8)).2.1) ([32]:List UInt8)).2.1) ([32]:List UInt8)).2.1)))]) Bf.k rfl Bf (F.evp rfl) rfl) rfl<|fun a F=>?_
 refine Av F M Bf (k:=0) rfl rfl rfl (us:=[.int .u64 ((u6:Nat):Int),.int .u8 ((u7:Nat):Int),.string (str ((Lib.cut ((Lib.cut ((Lib.cut s ([32]:List UInt8)).2.1) ([32]:List UInt8)).2.1) ([32]:List UInt8)).2.1)),.slice none 0 0]) rfl rfl (by simp [Value.oneCell']) (by simp) ?_;clear F M a;intro w a M F
 change Mem w0 G (.blk b1 [.int .u64 ((u6:Nat):Int),.int .u8 ((u7:Nat):Int),.string (str ((Lib.cut ((Lib.cut ((Lib.cut s ([32]:List UInt8)).2.1) ([32]:List UInt8)).2.1) ([32]:List UInt8)).2.1)),.slice none 0 0] 26::L) _ at M
 revert a
 refine Aa<|Ad<|Ab<|Ab<|Ac<|Ae rfl<|Jz rfl rfl<|Aa<|Ad<|Ax rfl ?_ ?_
 ·intro h8b
  have h8:=dF (Ah h8b)
  have h8c:(decide (((Lib.cut ((Lib.cut ((Lib.cut s ([32]:List UInt8)).2.1) ([32]:List UInt8)).2.1) ([32]:List UInt8)).1)=([45]:List UInt8)))=false:=(Ah h8b)
  refine Ac<|Ae rfl<|Hx Akf rfl rfl (Z2 (s:=(Lib.cut ((Lib.cut ((Lib.cut s ([32]:List UInt8)).2.1) ([32]:List UInt8)).2.1) ([32]:List UInt8)).1) M HG (by omega))<|?_;clear M;rintro _ Gp9 w hGp9 M ⟨ap9,rfl,Sp9⟩
  replace HG:=HG.mono hGp9
  refine A2 Bf.k rfl rfl<|Fp Ca M 0 rfl rfl rfl rfl rfl rfl<|?_;clear M;intro w M
  refine Aa<|Ad<|Ab<|?_
  have hII10:((⟨u6,u7,(Lib.cut ((Lib.cut ((Lib.cut s ([32]:List UInt8)).2.1) ([32]:List UInt8)).2.1) ([32]:List UInt8)).2.1,Bx ((Lib.cut ((Lib.cut ((Lib.cut s ([32]:List UInt8)).2.1) ([32]:List UInt8)).2.1) ([32]:List UInt8)).1)⟩:ItemD).key < 18446744073709551616∧(⟨u6,u7,(Lib.cut ((Lib.cut ((Lib.cut s ([32]:List UInt8)).2.1) ([32]:List UInt8)).2.1) ([32]:List UInt8)).2.1,Bx ((Lib.cut ((Lib.cut ((Lib.cut s ([32]:List UInt8)).2.1) ([32]:List UInt8)).2.1) ([32]:List UInt8)).1)⟩:ItemD).typ < 256∧(⟨u6,u7,(Lib.cut ((Lib.cut ((Lib.cut s ([32]:List UInt8)).2.1) ([32]:List UInt8)).2.1) ([32]:List UInt8)).2.1,Bx ((Lib.cut ((Lib.cut ((Lib.cut s ([32]:List UInt8)).2.1) ([32]:List UInt8)).2.1) ([32]:List UInt8)).1)⟩:ItemD).text.length≤9223372036854775807):=⟨by show u6 < _;omega,by show u7 < _;omega,by show ((Lib.cut ((Lib.cut ((Lib.cut s ([32]:List UInt8)).2.1) ([32]:List UInt8)).2.1) ([32]:List UInt8)).2.1).length≤_;omega⟩
  intro a F
  refine Fb [(.pure,0),(.free,1),(.free,2),(.free,3),(.free,4),(.free,5),(.free,6),(.free,7),(.pure,8),(.keep,9),(.free,10),(.free,11),(.free,12),(.pure,13),(.free,15),(.keep,14),(.free,16),(.free,17),(.chg,18),(.free,19)] [18] (Keep Gp9 [.blk b1 [.int .u64 ((u6:Nat):Int),.int .u8 ((u7:Nat):Int),.string (str ((Lib.cut ((Lib.cut ((Lib.cut s ([32]:List UInt8)).2.1) ([32]:List UInt8)).2.1) ([32]:List UInt8)).2.1)),.slice ap9 ((Bx ((Lib.cut ((Lib.cut ((Lib.cut s ([32]:List UInt8)).2.1) ([32]:List UInt8)).2.1) ([32]:List UInt8)).1)).length) ((Bx ((Lib.cut ((Lib.cut ((Lib.cut s ([32]:List UInt8)).2.1) ([32]:List UInt8)).2.1) ([32]:List UInt8)).1)).length)] 26]) rfl (by kernel_rfl) (fun c a d v w h=>by cases d <;> exact h) ((M.drew _).keep (Gle.refl _) (by simp)) ?_
  replace M:=M.drew (w.drawn+1)
  revert a
  refine k_p (fun a F w M=>Ao Bf rfl (F.ev rfl) (cs:=[.int .u64 ((u6:Nat):Int),.int .u8 ((u7:Nat):Int),.string (str ((Lib.cut ((Lib.cut ((Lib.cut s ([32]:List UInt8)).2.1) ([32]:List UInt8)).2.1) ([32]:List UInt8)).2.1)),.slice ap9 ((Bx ((Lib.cut ((Lib.cut ((Lib.cut s ([32]:List UInt8)).2.1) ([32]:List UInt8)).2.1) ([32]:List UInt8)).1)).length) ((Bx ((Lib.cut ((Lib.cut ((Lib.cut s ([32]:List UInt8)).2.1) ([32]:List UInt8)).2.1) ([32]:List UInt8)).1)).length)]) rfl (M.cellsL (k:=0) rfl rfl)) rfl<|k_f (fun a F w _=>Cg F rfl) rfl<|k_f (fun a F w _=>Ke Qt.k hiu6 (F.ev rfl) rfl) rfl<|k_f (fun a F w _=>Cg F rfl) rfl<|?_
  rcases bE (D3 eru6) with h11b | h17b
  ·skip
   have h11:(D3 eru6)=true:=h11b
   refine C7 rfl h11b (fun a F w _=>Cg F rfl)<|C7 rfl h11b (fun a F w _=>Ke Qt.k hiu7 (F.ev rfl) rfl)<|k_f (fun a F w _=>Ht F rfl h11b rfl) rfl<|k_f (fun a F w _=>Cg F rfl) rfl<|?_
   rcases bE (D3 eru7) with h12b | h16b
   ·skip
    have h12:(D3 eru7)=true:=h12b
    refine H2 rfl h12b (fun a F w M=>Ao Bf rfl (F.ev rfl) (cs:=[.int .u64 ((u6:Nat):Int),.int .u8 ((u7:Nat):Int),.string (str ((Lib.cut ((Lib.cut ((Lib.cut s ([32]:List UInt8)).2.1) ([32]:List UInt8)).2.1) ([32]:List UInt8)).2.1)),.slice ap9 ((Bx ((Lib.cut ((Lib.cut ((Lib.cut s ([32]:List UInt8)).2.1) ([32]:List UInt8)).2.1) ([32]:List UInt8)).1)).length) ((Bx ((Lib.cut ((Lib.cut ((Lib.cut s ([32]:List UInt8)).2.1) ([32]:List UInt8)).2.1) ([32]:List UInt8)).1)).length)]) rfl (M.cellsL (k:=0) rfl rfl))<|fun a F=>G8 F rfl rfl h12b ?_
    revert a
    refine g_t rfl h12b<|Bw Y1 rfl rfl (I9 (x:=(⟨u6,u7,(Lib.cut ((Lib.cut ((Lib.cut s ([32]:List UInt8)).2.1) ([32]:List UInt8)).2.1) ([32]:List UInt8)).2.1,Bx ((Lib.cut ((Lib.cut ((Lib.cut s ([32]:List UInt8)).2.1) ([32]:List UInt8)).2.1) ([32]:List UInt8)).1)⟩:ItemD)) (t:=8) M hII10 Sp9)<|?_;clear M;rintro _ w M rfl
    refine Aa<|eK (C':=Keep Gp9 [.blk b1 [.int .u64 ((u6:Nat):Int),.int .u8 ((u7:Nat):Int),.string (str ((Lib.cut ((Lib.cut ((Lib.cut s ([32]:List UInt8)).2.1) ([32]:List UInt8)).2.1) ([32]:List UInt8)).2.1)),.slice ap9 ((Bx ((Lib.cut ((Lib.cut ((Lib.cut s ([32]:List UInt8)).2.1) ([32]:List UInt8)).2.1) ([32]:List UInt8)).1)).length) ((Bx ((Lib.cut ((Lib.cut ((Lib.cut s ([32]:List UInt8)).2.1) ([32]:List UInt8)).2.1) ([32]:List UInt8)).1)).length)] 26]) (M.keep (Gle.refl _) (by simp)) (fun w h=>h.mono (Gle.refl _) (by simp))<|C7 rfl h12b (fun a F w _=>Lu (F.ev rfl) (F.ev rfl))<|k_f (fun a F w _=>Ht F rfl h12b rfl) rfl<|k_f (fun a F w _=>Cg F rfl) rfl<|?_
    rcases bE (decide (Gy 8 ((⟨u6,u7,(Lib.cut ((Lib.cut ((Lib.cut s ([32]:List UInt8)).2.1) ([32]:List UInt8)).2.1) ([32]:List UInt8)).2.1,Bx ((Lib.cut ((Lib.cut ((Lib.cut s ([32]:List UInt8)).2.1) ([32]:List UInt8)).2.1) ([32]:List UInt8)).1)⟩:ItemD))=0)) with h13b | h15b
    ·skip
     have h13:=dT h13b
     refine H2 rfl h13b (fun a F w M=>Ao Bf rfl (F.ev rfl) (cs:=[.int .u64 ((u6:Nat):Int),.int .u8 ((u7:Nat):Int),.string (str ((Lib.cut ((Lib.cut ((Lib.cut s ([32]:List UInt8)).2.1) ([32]:List UInt8)).2.1) ([32]:List UInt8)).2.1)),.slice ap9 ((Bx ((Lib.cut ((Lib.cut ((Lib.cut s ([32]:List UInt8)).2.1) ([32]:List UInt8)).2.1) ([32]:List UInt8)).1)).length) ((Bx ((Lib.cut ((Lib.cut ((Lib.cut s ([32]:List UInt8)).2.1) ([32]:List UInt8)).2.1) ([32]:List UInt8)).1)).length)]) rfl (M.cellsL (k:=0) rfl rfl))<|C7 rfl h13b (fun a F w _=>Cg F rfl)<|fun a F=>G8 F rfl rfl h13b ?_
     revert a
     refine g_t rfl h13b<|Bw Ajk rfl rfl (O0 (x:=(⟨u6,u7,(Lib.cut ((Lib.cut ((Lib.cut s ([32]:List UInt8)).2.1) ([32]:List UInt8)).2.1) ([32]:List UInt8)).2.1,Bx ((Lib.cut ((Lib.cut ((Lib.cut s ([32]:List UInt8)).2.1) ([32]:List UInt8)).2.1) ([32]:List UInt8)).1)⟩:ItemD)) M HG hII10 Sp9 (Dp.1 (by assumption)))<|?_;clear M;rintro _ w M rfl
     have hlll14:=Le (x:=(⟨u6,u7,(Lib.cut ((Lib.cut ((Lib.cut s ([32]:List UInt8)).2.1) ([32]:List UInt8)).2.1) ([32]:List UInt8)).2.1,Bx ((Lib.cut ((Lib.cut ((Lib.cut s ([32]:List UInt8)).2.1) ([32]:List UInt8)).2.1) ([32]:List UInt8)).1)⟩:ItemD)) (Dp.1 (by assumption)) hII10.1 hII10.2.1
     refine Aa<|eK (C':=Keep Gp9 [.blk b1 [.int .u64 ((u6:Nat):Int),.int .u8 ((u7:Nat):Int),.string (str ((Lib.cut ((Lib.cut ((Lib.cut s ([32]:List UInt8)).2.1) ([32]:List UInt8)).2.1) ([32]:List UInt8)).2.1)),.slice ap9 ((Bx ((Lib.cut ((Lib.cut ((Lib.cut s ([32]:List UInt8)).2.1) ([32]:List UInt8)).2.1) ([32]:List UInt8)).1)).length) ((Bx ((Lib.cut ((Lib.cut ((Lib.cut s ([32]:List UInt8)).2.1) ([32]:List UInt8)).2.1) ([32]:List UInt8)).1)).length)] 26]) (M.keep (Gle.refl _) (by simp)) (fun w h=>h.mono (Gle.refl _) (by simp))<|C7 rfl h13b (fun a F w _=>J0 (F.ev rfl) (F.ev rfl))<|k_f (fun a F w _=>Ht F rfl h13b rfl) rfl<|k_c rfl<|fun a F=>?_
     refine Av F M Bf (k:=0) rfl rfl rfl (us:=[.int .u64 ((u6:Nat):Int),.int .u8 ((u7:Nat):Int),.string (str ((Lib.cut ((Lib.cut ((Lib.cut s ([32]:List UInt8)).2.1) ([32]:List UInt8)).2.1) ([32]:List UInt8)).2.1)),.slice ap9 ((Bx ((Lib.cut ((Lib.cut ((Lib.cut s ([32]:List UInt8)).2.1) ([32]:List UInt8)).2.1) ([32]:List UInt8)).1)).length) ((Bx ((Lib.cut ((Lib.cut ((Lib.cut s ([32]:List UInt8)).2.1) ([32]:List UInt8)).2.1) ([32]:List UInt8)).1)).length)]) rfl rfl (by simp [Value.oneCell']) (by simp) ?_;clear F M a;intro w a M F
     change Mem w0 Gp9 (.blk b1 [.int .u64 ((u6:Nat):Int),.int .u8 ((u7:Nat):Int),.string (str ((Lib.cut ((Lib.cut ((Lib.cut s ([32]:List UInt8)).2.1) ([32]:List UInt8)).2.1) ([32]:List UInt8)).2.1)),.slice ap9 ((Bx ((Lib.cut ((Lib.cut ((Lib.cut s ([32]:List UInt8)).2.1) ([32]:List UInt8)).2.1) ([32]:List UInt8)).1)).length) ((Bx ((Lib.cut ((Lib.cut ((Lib.cut s ([32]:List UInt8)).2.1) ([32]:List UInt8)).2.1) ([32]:List UInt8)).1)).length)] 26::L) _ at M
     revert a
     refine Aa<|fun a F=>⟨Keep Gp9 [.blk b1 [.int .u64 ((u6:Nat):Int),.int .u8 ((u7:Nat):Int),.string (str ((Lib.cut ((Lib.cut ((Lib.cut s ([32]:List UInt8)).2.1) ([32]:List UInt8)).2.1) ([32]:List UInt8)).2.1)),.slice ap9 ((Bx ((Lib.cut ((Lib.cut ((Lib.cut s ([32]:List UInt8)).2.1) ([32]:List UInt8)).2.1) ([32]:List UInt8)).1)).length) ((Bx ((Lib.cut ((Lib.cut ((Lib.cut s ([32]:List UInt8)).2.1) ([32]:List UInt8)).2.1) ([32]:List UInt8)).1)).length)] 26],M.keep (Gle.refl _) (by simp),?_⟩
     revert a
     refine k_f (fun a F w _=>Hg F rfl) rfl<|D1<|Ad<|Ak<|fun a F=>Cj F M (k:=0) rfl rfl Bf rfl rfl rfl rfl ?_
     refine ⟨_,hGp9,M.weaken (.cons _ (sR _)),(⟨u6,u7,(Lib.cut ((Lib.cut ((Lib.cut s ([32]:List UInt8)).2.1) ([32]:List UInt8)).2.1) ([32]:List UInt8)).2.1,Bx ((Lib.cut ((Lib.cut ((Lib.cut s ([32]:List UInt8)).2.1) ([32]:List UInt8)).2.1) ([32]:List UInt8)).1)⟩:ItemD),ap9,(Bx ((Lib.cut ((Lib.cut ((Lib.cut s ([32]:List UInt8)).2.1) ([32]:List UInt8)).2.1) ([32]:List UInt8)).1)).length,(decide ((Dj ((⟨u6,u7,(Lib.cut ((Lib.cut ((Lib.cut s ([32]:List UInt8)).2.1) ([32]:List UInt8)).2.1) ([32]:List UInt8)).2.1,Bx ((Lib.cut ((Lib.cut ((Lib.cut s ([32]:List UInt8)).2.1) ([32]:List UInt8)).2.1) ([32]:List UInt8)).1)⟩:ItemD)))=s)),rfl,hII10,Sp9,?_,?_⟩
     ·intro hb_;first | (cases hb_;done) | exact ⟨Dp.1 (by assumption),hII10.1,dT hb_⟩
     ·intro hb_ y hy;obtain ⟨q1,q2,q3⟩:=Hb hy hpuu6 (by omega) hpuu7;unfold I7 at q3;first | rw [if_neg (by assumption)] at q3 | rw [if_pos (by assumption)] at q3
      first | exact absurd (show true=false from q1.symm.trans (by assumption)) (by decide) | exact absurd (show true=false from q2.symm.trans (by assumption)) (by decide) | exact absurd (show Gy 8 (⟨u6,u7,(Lib.cut ((Lib.cut ((Lib.cut s ([32]:List UInt8)).2.1) ([32]:List UInt8)).2.1) ([32]:List UInt8)).2.1,Bx ((Lib.cut ((Lib.cut ((Lib.cut s ([32]:List UInt8)).2.1) ([32]:List UInt8)).2.1) ([32]:List UInt8)).1)⟩:ItemD)=0 by rw [q3];exact Dh hy.1) (by assumption) | exact absurd (show Dj (⟨u6,u7,(Lib.cut ((Lib.cut ((Lib.cut s ([32]:List UInt8)).2.1) ([32]:List UInt8)).2.1) ([32]:List UInt8)).2.1,Bx ((Lib.cut ((Lib.cut ((Lib.cut s ([32]:List UInt8)).2.1) ([32]:List UInt8)).2.1) ([32]:List UInt8)).1)⟩:ItemD)=s by rw [q3];exact hy.2.2) (dF hb_)
    ·skip
     have h15:=dF h15b
     refine k_s rfl h15b<|k_s rfl h15b<|k_s rfl h15b<|k_s rfl h15b<|k_f (fun a F w _=>Gq F rfl h15b rfl) rfl<|k_c rfl<|fun a F=>?_
     refine Av F M Bf (k:=0) rfl rfl rfl (us:=[.int .u64 ((u6:Nat):Int),.int .u8 ((u7:Nat):Int),.string (str ((Lib.cut ((Lib.cut ((Lib.cut s ([32]:List UInt8)).2.1) ([32]:List UInt8)).2.1) ([32]:List UInt8)).2.1)),.slice ap9 ((Bx ((Lib.cut ((Lib.cut ((Lib.cut s ([32]:List UInt8)).2.1) ([32]:List UInt8)).2.1) ([32]:List UInt8)).1)).length) ((Bx ((Lib.cut ((Lib.cut ((Lib.cut s ([32]:List UInt8)).2.1) ([32]:List UInt8)).2.1) ([32]:List UInt8)).1)).length)]) rfl rfl (by simp [Value.oneCell']) (by simp) ?_;clear F M a;intro w a M F
     change Mem w0 Gp9 (.blk b1 [.int .u64 ((u6:Nat):Int),.int .u8 ((u7:Nat):Int),.string (str ((Lib.cut ((Lib.cut ((Lib.cut s ([32]:List UInt8)).2.1) ([32]:List UInt8)).2.1) ([32]:List UInt8)).2.1)),.slice ap9 ((Bx ((Lib.cut ((Lib.cut ((Lib.cut s ([32]:List UInt8)).2.1) ([32]:List UInt8)).2.1) ([32]:List UInt8)).1)).length) ((Bx ((Lib.cut ((Lib.cut ((Lib.cut s ([32]:List UInt8)).2.1) ([32]:List UInt8)).2.1) ([32]:List UInt8)).1)).length)] 26::L) _ at M
     revert a
     refine Aa<|fun a F=>⟨Keep Gp9 [.blk b1 [.int .u64 ((u6:Nat):Int),.int .u8 ((u7:Nat):Int),.string (str ((Lib.cut ((Lib.cut ((Lib.cut s ([32]:List UInt8)).2.1) ([32]:List UInt8)).2.1) ([32]:List UInt8)).2.1)),.slice ap9 ((Bx ((Lib.cut ((Lib.cut ((Lib.cut s ([32]:List UInt8)).2.1) ([32]:List UInt8)).2.1) ([32]:List UInt8)).1)).length) ((Bx ((Lib.cut ((Lib.cut ((Lib.cut s ([32]:List UInt8)).2.1) ([32]:List UInt8)).2.1) ([32]:List UInt8)).1)).length)] 26],M.keep (Gle.refl _) (by simp),?_⟩
     revert a
     refine k_f (fun a F w _=>Hg F rfl) rfl<|D1<|Ad<|Ak<|fun a F=>Cj F M (k:=0) rfl rfl Bf rfl rfl rfl rfl ?_
     refine ⟨_,hGp9,M.weaken (.cons _ (sR _)),(⟨u6,u7,(Lib.cut ((Lib.cut ((Lib.cut s ([32]:List UInt8)).2.1) ([32]:List UInt8)).2.1) ([32]:List UInt8)).2.1,Bx ((Lib.cut ((Lib.cut ((Lib.cut s ([32]:List UInt8)).2.1) ([32]:List UInt8)).2.1) ([32]:List UInt8)).1)⟩:ItemD),ap9,(Bx ((Lib.cut ((Lib.cut ((Lib.cut s ([32]:List UInt8)).2.1) ([32]:List UInt8)).2.1) ([32]:List UInt8)).1)).length,false,rfl,hII10,Sp9,?_,?_⟩
     ·intro hb_;first | (cases hb_;done) | exact ⟨Dp.1 (by assumption),hII10.1,dT hb_⟩
     ·intro hb_ y hy;obtain ⟨q1,q2,q3⟩:=Hb hy hpuu6 (by omega) hpuu7;unfold I7 at q3;first | rw [if_neg (by assumption)] at q3 | rw [if_pos (by assumption)] at q3
      first | exact absurd (show true=false from q1.symm.trans (by assumption)) (by decide) | exact absurd (show true=false from q2.symm.trans (by assumption)) (by decide) | exact absurd (show Gy 8 (⟨u6,u7,(Lib.cut ((Lib.cut ((Lib.cut s ([32]:List UInt8)).2.1) ([32]:List UInt8)).2.1) ([32]:List UInt8)).2.1,Bx ((Lib.cut ((Lib.cut ((Lib.cut s ([32]:List UInt8)).2.1) ([32]:List UInt8)).2.1) ([32]:List UInt8)).1)⟩:ItemD)=0 by rw [q3];exact Dh hy.1) (by assumption) | exact absurd (show Dj (⟨u6,u7,(Lib.cut ((Lib.cut ((Lib.cut s ([32]:List UInt8)).2.1) ([32]:List UInt8)).2.1) ([32]:List UInt8)).2.1,Bx ((Lib.cut ((Lib.cut ((Lib.cut s ([32]:List UInt8)).2.1) ([32]:List UInt8)).2.1) ([32]:List UInt8)).1)⟩:ItemD)=s by rw [q3];exact hy.2.2) (dF hb_)
   ·skip
    have h16:(D3 eru7)=false:=h16b
    refine k_s rfl h16b<|k_s rfl h16b<|k_s rfl h16b<|k_f (fun a F w _=>Gq F rfl h16b rfl) rfl<|k_f (fun a F w _=>Cg F rfl) rfl<|k_s rfl rfl<|k_s rfl rfl<|k_s rfl rfl<|k_s rfl rfl<|k_f (fun a F w _=>Gq F rfl rfl rfl) rfl<|k_c rfl<|fun a F=>?_
    refine Av F M Bf (k:=0) rfl rfl rfl (us:=[.int .u64 ((u6:Nat):Int),.int .u8 ((u7:Nat):Int),.string (str ((Lib.cut ((Lib.cut ((Lib.cut s ([32]:List UInt8)).2.1) ([32]:List UInt8)).2.1) ([32]:List UInt8)).2.1)),.slice ap9 ((Bx ((Lib.cut ((Lib.cut ((Lib.cut s ([32]:List UInt8)).2.1) ([32]:List UInt8)).2.1) ([32]:List UInt8)).1)).length) ((Bx ((Lib.cut ((Lib.cut ((Lib.cut s ([32]:List UInt8)).2.1) ([32]:List UInt8)).2.1) ([32]:List UInt8)).1)).length)]) rfl rfl (by simp [Value.oneCell']) (by simp) ?_;clear F M a;intro w a M F
    change Mem w0 Gp9 (.blk b1 [.int .u64 ((u6:Nat):Int),.int .u8 ((u7:Nat):Int),.string (str ((Lib.cut ((Lib.cut ((Lib.cut s ([32]:List UInt8)).2.1) ([32]:List UInt8)).2.1) ([32]:List UInt8)).2.1)),.slice ap9 ((Bx ((Lib.cut ((Lib.cut ((Lib.cut s ([32]:List UInt8)).2.1) ([32]:List UInt8)).2.1) ([32]:List UInt8)).1)).length) ((Bx ((Lib.cut ((Lib.cut ((Lib.cut s ([32]:List UInt8)).2.1) ([32]:List UInt8)).2.1) ([32]:List UInt8)).1)).length)] 26::L) _ at M
    revert a
    refine Aa<|fun a F=>⟨Keep Gp9 [.blk b1 [.int .u64 ((u6:Nat):Int),.int .u8 ((u7:Nat):Int),.string (str ((Lib.cut ((Lib.cut ((Lib.cut s ([32]:List UInt8)).2.1) ([32]:List UInt8)).2.1) ([32]:List UInt8)).2.1)),.slice ap9 ((Bx ((Lib.cut ((Lib.cut ((Lib.cut s ([32]:List UInt8)).2.1) ([32]:List UInt8)).2.1) ([32]:List UInt8)).1)).length) ((Bx ((Lib.cut ((Lib.cut ((Lib.cut s ([32]:List UInt8)).2.1) ([32]:List UInt8)).2.1) ([32]:List UInt8)).1)).length)] 26],M.keep (Gle.refl _) (by simp),?_⟩
    revert a
    refine k_f (fun a F w _=>Hg F rfl) rfl<|D1<|Ad<|Ak<|fun a F=>Cj F M (k:=0) rfl rfl Bf rfl rfl rfl rfl ?_
    refine ⟨_,hGp9,M.weaken (.cons _ (sR _)),(⟨u6,u7,(Lib.cut ((Lib.cut ((Lib.cut s ([32]:List UInt8)).2.1) ([32]:List UInt8)).2.1) ([32]:List UInt8)).2.1,Bx ((Lib.cut ((Lib.cut ((Lib.cut s ([32]:List UInt8)).2.1) ([32]:List UInt8)).2.1) ([32]:List UInt8)).1)⟩:ItemD),ap9,(Bx ((Lib.cut ((Lib.cut ((Lib.cut s ([32]:List UInt8)).2.1) ([32]:List UInt8)).2.1) ([32]:List UInt8)).1)).length,false,rfl,hII10,Sp9,?_,?_⟩
    ·intro hb_;first | (cases hb_;done) | exact ⟨Dp.1 (by assumption),hII10.1,dT hb_⟩
    ·intro hb_ y hy;obtain ⟨q1,q2,q3⟩:=Hb hy hpuu6 (by omega) hpuu7;unfold I7 at q3;first | rw [if_neg (by assumption)] at q3 | rw [if_pos (by assumption)] at q3
     first | exact absurd (show true=false from q1.symm.trans (by assumption)) (by decide) | exact absurd (show true=false from q2.symm.trans (by assumption)) (by decide) | exact absurd (show Gy 8 (⟨u6,u7,(Lib.cut ((Lib.cut ((Lib.cut s ([32]:List UInt8)).2.1) ([32]:List UInt8)).2.1) ([32]:List UInt8)).2.1,Bx ((Lib.cut ((Lib.cut ((Lib.cut s ([32]:List UInt8)).2.1) ([32]:List UInt8)).2.1) ([32]:List UInt8)).1)⟩:ItemD)=0 by rw [q3];exact Dh hy.1) (by assumption) | exact absurd (show Dj (⟨u6,u7,(Lib.cut ((Lib.cut ((Lib.cut s ([32]:List UInt8)).2.1) ([32]:List UInt8)).2.1) ([32]:List UInt8)).2.1,Bx ((Lib.cut ((Lib.cut ((Lib.cut s ([32]:List UInt8)).2.1) ([32]:List UInt8)).2.1) ([32]:List UInt8)).1)⟩:ItemD)=s by rw [q3];exact hy.2.2) (dF hb_)
  ·skip
   have h17:(D3 eru6)=false:=h17b
   refine k_s rfl h17b<|k_s rfl h17b<|k_f (fun a F w _=>Gq F rfl h17b rfl) rfl<|k_f (fun a F w _=>Cg F rfl) rfl<|k_s rfl rfl<|k_s rfl rfl<|k_s rfl rfl<|k_f (fun a F w _=>Gq F rfl rfl rfl) rfl<|k_f (fun a F w _=>Cg F rfl) rfl<|k_s rfl rfl<|k_s rfl rfl<|k_s rfl rfl<|k_s rfl rfl<|k_f (fun a F w _=>Gq F rfl rfl rfl) rfl<|k_c rfl<|fun a F=>?_
   refine Av F M Bf (k:=0) rfl rfl rfl (us:=[.int .u64 ((u6:Nat):Int),.int .u8 ((u7:Nat):Int),.string (str ((Lib.cut ((Lib.cut ((Lib.cut s ([32]:List UInt8)).2.1) ([32]:List UInt8)).2.1) ([32]:List UInt8)).2.1)),.slice ap9 ((Bx ((Lib.cut ((Lib.cut ((Lib.cut s ([32]:List UInt8)).2.1) ([32]:List UInt8)).2.1) ([32]:List UInt8)).1)).length) ((Bx ((Lib.cut ((Lib.cut ((Lib.cut s ([32]:List UInt8)).2.1) ([32]:List UInt8)).2.1) ([32]:List UInt8)).1)).length)]) rfl rfl (by simp [Value.oneCell']) (by simp) ?_;clear F M a;intro w a M F
   change Mem w0 Gp9 (.blk b1 [.int .u64 ((u6:Nat):Int),.int .u8 ((u7:Nat):Int),.string (str ((Lib.cut ((Lib.cut ((Lib.cut s ([32]:List UInt8)).2.1) ([32]:List UInt8)).2.1) ([32]:List UInt8)).2.1)),.slice ap9 ((Bx ((Lib.cut ((Lib.cut ((Lib.cut s ([32]:List UInt8)).2.1) ([32]:List UInt8)).2.1) ([32]:List UInt8)).1)).length) ((Bx ((Lib.cut ((Lib.cut ((Lib.cut s ([32]:List UInt8)).2.1) ([32]:List UInt8)).2.1) ([32]:List UInt8)).1)).length)] 26::L) _ at M
   revert a
   refine Aa<|fun a F=>⟨Keep Gp9 [.blk b1 [.int .u64 ((u6:Nat):Int),.int .u8 ((u7:Nat):Int),.string (str ((Lib.cut ((Lib.cut ((Lib.cut s ([32]:List UInt8)).2.1) ([32]:List UInt8)).2.1) ([32]:List UInt8)).2.1)),.slice ap9 ((Bx ((Lib.cut ((Lib.cut ((Lib.cut s ([32]:List UInt8)).2.1) ([32]:List UInt8)).2.1) ([32]:List UInt8)).1)).length) ((Bx ((Lib.cut ((Lib.cut ((Lib.cut s ([32]:List UInt8)).2.1) ([32]:List UInt8)).2.1) ([32]:List UInt8)).1)).length)] 26],M.keep (Gle.refl _) (by simp),?_⟩
   revert a
   refine k_f (fun a F w _=>Hg F rfl) rfl<|D1<|Ad<|Ak<|fun a F=>Cj F M (k:=0) rfl rfl Bf rfl rfl rfl rfl ?_
   refine ⟨_,hGp9,M.weaken (.cons _ (sR _)),(⟨u6,u7,(Lib.cut ((Lib.cut ((Lib.cut s ([32]:List UInt8)).2.1) ([32]:List UInt8)).2.1) ([32]:List UInt8)).2.1,Bx ((Lib.cut ((Lib.cut ((Lib.cut s ([32]:List UInt8)).2.1) ([32]:List UInt8)).2.1) ([32]:List UInt8)).1)⟩:ItemD),ap9,(Bx ((Lib.cut ((Lib.cut ((Lib.cut s ([32]:List UInt8)).2.1) ([32]:List UInt8)).2.1) ([32]:List UInt8)).1)).length,false,rfl,hII10,Sp9,?_,?_⟩
   ·intro hb_;first | (cases hb_;done) | exact ⟨Dp.1 (by assumption),hII10.1,dT hb_⟩
   ·intro hb_ y hy;obtain ⟨q1,q2,q3⟩:=Hb hy hpuu6 (by omega) hpuu7;unfold I7 at q3;first | rw [if_neg (by assumption)] at q3 | rw [if_pos (by assumption)] at q3
    first | exact absurd (show true=false from q1.symm.trans (by assumption)) (by decide) | exact absurd (show true=false from q2.symm.trans (by assumption)) (by decide) | exact absurd (show Gy 8 (⟨u6,u7,(Lib.cut ((Lib.cut ((Lib.cut s ([32]:List UInt8)).2.1) ([32]:List UInt8)).2.1) ([32]:List UInt8)).2.1,Bx ((Lib.cut ((Lib.cut ((Lib.cut s ([32]:List UInt8)).2.1) ([32]:List UInt8)).2.1) ([32]:List UInt8)).1)⟩:ItemD)=0 by rw [q3];exact Dh hy.1) (by assumption) | exact absurd (show Dj (⟨u6,u7,(Lib.cut ((Lib.cut ((Lib.cut s ([32]:List UInt8)).2.1) ([32]:List UInt8)).2.1) ([32]:List UInt8)).2.1,Bx ((Lib.cut ((Lib.cut ((Lib.cut s ([32]:List UInt8)).2.1) ([32]:List UInt8)).2.1) ([32]:List UInt8)).1)⟩:ItemD)=s by rw [q3];exact hy.2.2) (dF hb_)
 ·intro h18b
  have h18:=dT (Ai h18b)
  have h18c:(decide (((Lib.cut ((Lib.cut ((Lib.cut s ([32]:List UInt8)).2.1) ([32]:List UInt8)).2.1) ([32]:List UInt8)).1)=([45]:List UInt8)))=true:=(Ai h18b)
  refine Aq<|Ad<|Ab<|?_
  have hII19:((⟨u6,u7,(Lib.cut ((Lib.cut ((Lib.cut s ([32]:List UInt8)).2.1) ([32]:List UInt8)).2.1) ([32]:List UInt8)).2.1,([]:List (List UInt8))⟩:ItemD).key < 18446744073709551616∧(⟨u6,u7,(Lib.cut ((Lib.cut ((Lib.cut s ([32]:List UInt8)).2.1) ([32]:List UInt8)).2.1) ([32]:List UInt8)).2.1,([]:List (List UInt8))⟩:ItemD).typ < 256∧(⟨u6,u7,(Lib.cut ((Lib.cut ((Lib.cut s ([32]:List UInt8)).2.1) ([32]:List UInt8)).2.1) ([32]:List UInt8)).2.1,([]:List (List UInt8))⟩:ItemD).text.length≤9223372036854775807):=⟨by show u6 < _;omega,by show u7 < _;omega,by show ((Lib.cut ((Lib.cut ((Lib.cut s ([32]:List UInt8)).2.1) ([32]:List UInt8)).2.1) ([32]:List UInt8)).2.1).length≤_;omega⟩
  intro a F
  refine Fb [(.pure,0),(.free,1),(.free,2),(.free,3),(.free,4),(.free,5),(.free,6),(.free,7),(.pure,8),(.keep,9),(.free,10),(.free,11),(.free,12),(.pure,13),(.free,15),(.keep,14),(.free,16),(.free,17),(.chg,18),(.free,19)] [18] (Keep G [.blk b1 [.int .u64 ((u6:Nat):Int),.int .u8 ((u7:Nat):Int),.string (str ((Lib.cut ((Lib.cut ((Lib.cut s ([32]:List UInt8)).2.1) ([32]:List UInt8)).2.1) ([32]:List UInt8)).2.1)),.slice none 0 0] 26]) rfl (by kernel_rfl) (fun c a d v w h=>by cases d <;> exact h) ((M.drew _).keep (Gle.refl _) (by simp)) ?_
  replace M:=M.drew (w.drawn+1)
  revert a
  refine k_p (fun a F w M=>Ao Bf rfl (F.ev rfl) (cs:=[.int .u64 ((u6:Nat):Int),.int .u8 ((u7:Nat):Int),.string (str ((Lib.cut ((Lib.cut ((Lib.cut s ([32]:List UInt8)).2.1) ([32]:List UInt8)).2.1) ([32]:List UInt8)).2.1)),.slice none 0 0]) rfl (M.cellsL (k:=0) rfl rfl)) rfl<|k_f (fun a F w _=>Cg F rfl) rfl<|k_f (fun a F w _=>Ke Qt.k hiu6 (F.ev rfl) rfl) rfl<|k_f (fun a F w _=>Cg F rfl) rfl<|?_
  rcases bE (D3 eru6) with h20b | h26b
  ·skip
   have h20:(D3 eru6)=true:=h20b
   refine C7 rfl h20b (fun a F w _=>Cg F rfl)<|C7 rfl h20b (fun a F w _=>Ke Qt.k hiu7 (F.ev rfl) rfl)<|k_f (fun a F w _=>Ht F rfl h20b rfl) rfl<|k_f (fun a F w _=>Cg F rfl) rfl<|?_
   rcases bE (D3 eru7) with h21b | h25b
   ·skip
    have h21:(D3 eru7)=true:=h21b
    refine H2 rfl h21b (fun a F w M=>Ao Bf rfl (F.ev rfl) (cs:=[.int .u64 ((u6:Nat):Int),.int .u8 ((u7:Nat):Int),.string (str ((Lib.cut ((Lib.cut ((Lib.cut s ([32]:List UInt8)).2.1) ([32]:List UInt8)).2.1) ([32]:List UInt8)).2.1)),.slice none 0 0]) rfl (M.cellsL (k:=0) rfl rfl))<|fun a F=>G8 F rfl rfl h21b ?_
    revert a
    refine g_t rfl h21b<|Bw Y1 rfl rfl (I9 (x:=(⟨u6,u7,(Lib.cut ((Lib.cut ((Lib.cut s ([32]:List UInt8)).2.1) ([32]:List UInt8)).2.1) ([32]:List UInt8)).2.1,([]:List (List UInt8))⟩:ItemD)) (t:=8) M hII19 Az.nil)<|?_;clear M;rintro _ w M rfl
    refine Aa<|eK (C':=Keep G [.blk b1 [.int .u64 ((u6:Nat):Int),.int .u8 ((u7:Nat):Int),.string (str ((Lib.cut ((Lib.cut ((Lib.cut s ([32]:List UInt8)).2.1) ([32]:List UInt8)).2.1) ([32]:List UInt8)).2.1)),.slice none 0 0] 26]) (M.keep (Gle.refl _) (by simp)) (fun w h=>h.mono (Gle.refl _) (by simp))<|C7 rfl h21b (fun a F w _=>Lu (F.ev rfl) (F.ev rfl))<|k_f (fun a F w _=>Ht F rfl h21b rfl) rfl<|k_f (fun a F w _=>Cg F rfl) rfl<|?_
    rcases bE (decide (Gy 8 ((⟨u6,u7,(Lib.cut ((Lib.cut ((Lib.cut s ([32]:List UInt8)).2.1) ([32]:List UInt8)).2.1) ([32]:List UInt8)).2.1,([]:List (List UInt8))⟩:ItemD))=0)) with h22b | h24b
    ·skip
     have h22:=dT h22b
     refine H2 rfl h22b (fun a F w M=>Ao Bf rfl (F.ev rfl) (cs:=[.int .u64 ((u6:Nat):Int),.int .u8 ((u7:Nat):Int),.string (str ((Lib.cut ((Lib.cut ((Lib.cut s ([32]:List UInt8)).2.1) ([32]:List UInt8)).2.1) ([32]:List UInt8)).2.1)),.slice none 0 0]) rfl (M.cellsL (k:=0) rfl rfl))<|C7 rfl h22b (fun a F w _=>Cg F rfl)<|fun a F=>G8 F rfl rfl h22b ?_
     revert a
     refine g_t rfl h22b<|Bw Ajk rfl rfl (O0 (x:=(⟨u6,u7,(Lib.cut ((Lib.cut ((Lib.cut s ([32]:List UInt8)).2.1) ([32]:List UInt8)).2.1) ([32]:List UInt8)).2.1,([]:List (List UInt8))⟩:ItemD)) M HG hII19 Az.nil (Dp.1 (by assumption)))<|?_;clear M;rintro _ w M rfl
     have hlll23:=Le (x:=(⟨u6,u7,(Lib.cut ((Lib.cut ((Lib.cut s ([32]:List UInt8)).2.1) ([32]:List UInt8)).2.1) ([32]:List UInt8)).2.1,([]:List (List UInt8))⟩:ItemD)) (Dp.1 (by assumption)) hII19.1 hII19.2.1
     refine Aa<|eK (C':=Keep G [.blk b1 [.int .u64 ((u6:Nat):Int),.int .u8 ((u7:Nat):Int),.string (str ((Lib.cut ((Lib.cut ((Lib.cut s ([32]:List UInt8)).2.1) ([32]:List UInt8)).2.1) ([32]:List UInt8)).2.1)),.slice none 0 0] 26]) (M.keep (Gle.refl _) (by simp)) (fun w h=>h.mono (Gle.refl _) (by simp))<|C7 rfl h22b (fun a F w _=>J0 (F.ev rfl) (F.ev rfl))<|k_f (fun a F w _=>Ht F rfl h22b rfl) rfl<|k_c rfl<|fun a F=>?_
     refine Av F M Bf (k:=0) rfl rfl rfl (us:=[.int .u64 ((u6:Nat):Int),.int .u8 ((u7:Nat):Int),.string (str ((Lib.cut ((Lib.cut ((Lib.cut s ([32]:List UInt8)).2.1) ([32]:List UInt8)).2.1) ([32]:List UInt8)).2.1)),.slice none 0 0]) rfl rfl (by simp [Value.oneCell']) (by simp) ?_;clear F M a;intro w a M F
     change Mem w0 G (.blk b1 [.int .u64 ((u6:Nat):Int),.int .u8 ((u7:Nat):Int),.string (str ((Lib.cut ((Lib.cut ((Lib.cut s ([32]:List UInt8)).2.1) ([32]:List UInt8)).2.1) ([32]:List UInt8)).2.1)),.slice none 0 0] 26::L) _ at M
     revert a
     refine Aa<|fun a F=>⟨Keep G [.blk b1 [.int .u64 ((u6:Nat):Int),.int .u8 ((u7:Nat):Int),.string (str ((Lib.cut ((Lib.cut ((Lib.cut s ([32]:List UInt8)).2.1) ([32]:List UInt8)).2.1) ([32]:List UInt8)).2.1)),.slice none 0 0] 26],M.keep (Gle.refl _) (by simp),?_⟩
     revert a
     refine k_f (fun a F w _=>Hg F rfl) rfl<|D1<|Ad<|Ak<|fun a F=>Cj F M (k:=0) rfl rfl Bf rfl rfl rfl rfl ?_
     refine ⟨_,(Gle.refl _),M.weaken (.cons _ (sR _)),(⟨u6,u7,(Lib.cut ((Lib.cut ((Lib.cut s ([32]:List UInt8)).2.1) ([32]:List UInt8)).2.1) ([32]:List UInt8)).2.1,([]:List (List UInt8))⟩:ItemD),none,0,(decide ((Dj ((⟨u6,u7,(Lib.cut ((Lib.cut ((Lib.cut s ([32]:List UInt8)).2.1) ([32]:List UInt8)).2.1) ([32]:List UInt8)).2.1,([]:List (List UInt8))⟩:ItemD)))=s)),rfl,hII19,Az.nil,?_,?_⟩
     ·intro hb_;first | (cases hb_;done) | exact ⟨Dp.1 (by assumption),hII19.1,dT hb_⟩
     ·intro hb_ y hy;obtain ⟨q1,q2,q3⟩:=Hb hy hpuu6 (by omega) hpuu7;unfold I7 at q3;first | rw [if_neg (by assumption)] at q3 | rw [if_pos (by assumption)] at q3
      first | exact absurd (show true=false from q1.symm.trans (by assumption)) (by decide) | exact absurd (show true=false from q2.symm.trans (by assumption)) (by decide) | exact absurd (show Gy 8 (⟨u6,u7,(Lib.cut ((Lib.cut ((Lib.cut s ([32]:List UInt8)).2.1) ([32]:List UInt8)).2.1) ([32]:List UInt8)).2.1,([]:List (List UInt8))⟩:ItemD)=0 by rw [q3];exact Dh hy.1) (by assumption) | exact absurd (show Dj (⟨u6,u7,(Lib.cut ((Lib.cut ((Lib.cut s ([32]:List UInt8)).2.1) ([32]:List UInt8)).2.1) ([32]:List UInt8)).2.1,([]:List (List UInt8))⟩:ItemD)=s by rw [q3];exact hy.2.2) (dF hb_)
    ·skip
     have h24:=dF h24b
     refine k_s rfl h24b<|k_s rfl h24b<|k_s rfl h24b<|k_s rfl h24b<|k_f (fun a F w _=>Gq F rfl h24b rfl) rfl<|k_c rfl<|fun a F=>?_
     refine Av F M Bf (k:=0) rfl rfl rfl (us:=[.int .u64 ((u6:Nat):Int),.int .u8 ((u7:Nat):Int),.string (str ((Lib.cut ((Lib.cut ((Lib.cut s ([32]:List UInt8)).2.1) ([32]:List UInt8)).2.1) ([32]:List UInt8)).2.1)),.slice none 0 0]) rfl rfl (by simp [Value.oneCell']) (by simp) ?_;clear F M a;intro w a M F
     change Mem w0 G (.blk b1 [.int .u64 ((u6:Nat):Int),.int .u8 ((u7:Nat):Int),.string (str ((Lib.cut ((Lib.cut ((Lib.cut s ([32]:List UInt8)).2.1) ([32]:List UInt8)).2.1) ([32]:List UInt8)).2.1)),.slice none 0 0] 26::L) _ at M
     revert a
     refine Aa<|fun a F=>⟨Keep G [.blk b1 [.int .u64 ((u6:Nat):Int),.int .u8 ((u7:Nat):Int),.string (str ((Lib.cut ((Lib.cut ((Lib.cut s ([32]:List UInt8)).2.1) ([32]:List UInt8)).2.1) ([32]:List UInt8)).2.1)),.slice none 0 0] 26],M.keep (Gle.refl _) (by simp),?_⟩
     revert a
     refine k_f (fun a F w _=>Hg F rfl) rfl<|D1<|Ad<|Ak<|fun a F=>Cj F M (k:=0) rfl rfl Bf rfl rfl rfl rfl ?_
     refine ⟨_,(Gle.refl _),M.weaken (.cons _ (sR _)),(⟨u6,u7,(Lib.cut ((Lib.cut ((Lib.cut s ([32]:List UInt8)).2.1) ([32]:List UInt8)).2.1) ([32]:List UInt8)).2.1,([]:List (List UInt8))⟩:ItemD),none,0,false,rfl,hII19,Az.nil,?_,?_⟩
     ·intro hb_;first | (cases hb_;done) | exact ⟨Dp.1 (by assumption),hII19.1,dT hb_⟩
     ·intro hb_ y hy;obtain ⟨q1,q2,q3⟩:=Hb hy hpuu6 (by omega) hpuu7;unfold I7 at q3;first | rw [if_neg (by assumption)] at q3 | rw [if_pos (by assumption)] at q3
      first | exact absurd (show true=false from q1.symm.trans (by assumption)) (by decide) | exact absurd (show true=false from q2.symm.trans (by assumption)) (by decide) | exact absurd (show Gy 8 (⟨u6,u7,(Lib.cut ((Lib.cut ((Lib.cut s ([32]:List UInt8)).2.1) ([32]:List UInt8)).2.1) ([32]:List UInt8)).2.1,([]:List (List UInt8))⟩:ItemD)=0 by rw [q3];exact Dh hy.1) (by assumption) | exact absurd (show Dj (⟨u6,u7,(Lib.cut ((Lib.cut ((Lib.cut s ([32]:List UInt8)).2.1) ([32]:List UInt8)).2.1) ([32]:List UInt8)).2.1,([]:List (List UInt8))⟩:ItemD)=s by rw [q3];exact hy.2.2) (dF hb_)
   ·skip
    have h25:(D3 eru7)=false:=h25b
    refine k_s rfl h25b<|k_s rfl h25b<|k_s rfl h25b<|k_f (fun a F w _=>Gq F rfl h25b rfl) rfl<|k_f (fun a F w _=>Cg F rfl) rfl<|k_s rfl rfl<|k_s rfl rfl<|k_s rfl rfl<|k_s rfl rfl<|k_f (fun a F w _=>Gq F rfl rfl rfl) rfl<|k_c rfl<|fun a F=>?_
    refine Av F M Bf (k:=0) rfl rfl rfl (us:=[.int .u64 ((u6:Nat):Int),.int .u8 ((u7:Nat):Int),.string (str ((Lib.cut ((Lib.cut ((Lib.cut s ([32]:List UInt8)).2.1) ([32]:List UInt8)).2.1) ([32]:List UInt8)).2.1)),.slice none 0 0]) rfl rfl (by simp [Value.oneCell']) (by simp) ?_;clear F M a;intro w a M F
    change Mem w0 G (.blk b1 [.int .u64 ((u6:Nat):Int),.int .u8 ((u7:Nat):Int),.string (str ((Lib.cut ((Lib.cut ((Lib.cut s ([32]:List UInt8)).2.1) ([32]:List UInt8)).2.1) ([32]:List UInt8)).2.1)),.slice none 0 0] 26::L) _ at M
    revert a
    refine Aa<|fun a F=>⟨Keep G [.blk b1 [.int .u64 ((u6:Nat):Int),.int .u8 ((u7:Nat):Int),.string (str ((Lib.cut ((Lib.cut ((Lib.cut s ([32]:List UInt8)).2.1) ([32]:List UInt8)).2.1) ([32]:List UInt8)).2.1)),.slice none 0 0] 26],M.keep (Gle.refl _) (by simp),?_⟩
    revert a
    refine k_f (fun a F w _=>Hg F rfl) rfl<|D1<|Ad<|Ak<|fun a F=>Cj F M (k:=0) rfl rfl Bf rfl rfl rfl rfl ?_
    refine ⟨_,(Gle.refl _),M.weaken (.cons _ (sR _)),(⟨u6,u7,(Lib.cut ((Lib.cut ((Lib.cut s ([32]:List UInt8)).2.1) ([32]:List UInt8)).2.1) ([32]:List UInt8)).2.1,([]:List (List UInt8))⟩:ItemD),none,0,false,rfl,hII19,Az.nil,?_,?_⟩
    ·intro hb_;first | (cases hb_;done) | exact ⟨Dp.1 (by assumption),hII19.1,dT hb_⟩
    ·intro hb_ y hy;obtain ⟨q1,q2,q3⟩:=Hb hy hpuu6 (by omega) hpuu7;unfold I7 at q3;first | rw [if_neg (by assumption)] at q3 | rw [if_pos (by assumption)] at q3
     first | exact absurd (show true=false from q1.symm.trans (by assumption)) (by decide) | exact absurd (show true=false from q2.symm.trans (by assumption)) (by decide) | exact absurd (show Gy 8 (⟨u6,u7,(Lib.cut ((Lib.cut ((Lib.cut s ([32]:List UInt8)).2.1) ([32]:List UInt8)).2.1) ([32]:List UInt8)).2.1,([]:List (List UInt8))⟩:ItemD)=0 by rw [q3];exact Dh hy.1) (by assumption) | exact absurd (show Dj (⟨u6,u7,(Lib.cut ((Lib.cut ((Lib.cut s ([32]:List UInt8)).2.1) ([32]:List UInt8)).2.1) ([32]:List UInt8)).2.1,([]:List (List UInt8))⟩:ItemD)=s by rw [q3];exact hy.2.2) (dF hb_)
  ·skip
   have h26:(D3 eru6)=false:=h26b
   refine k_s rfl h26b<|k_s rfl h26b<|k_f (fun a F w _=>Gq F rfl h26b rfl) rfl<|k_f (fun a F w _=>Cg F rfl) rfl<|k_s rfl rfl<|k_s rfl rfl<|k_s rfl rfl<|k_f (fun a F w _=>Gq F rfl rfl rfl) rfl<|k_f (fun a F w _=>Cg F rfl) rfl<|k_s rfl rfl<|k_s rfl rfl<|k_s rfl rfl<|k_s rfl rfl<|k_f (fun a F w _=>Gq F rfl rfl rfl) rfl<|k_c rfl<|fun a F=>?_
   refine Av F M Bf (k:=0) rfl rfl rfl (us:=[.int .u64 ((u6:Nat):Int),.int .u8 ((u7:Nat):Int),.string (str ((Lib.cut ((Lib.cut ((Lib.cut s ([32]:List UInt8)).2.1) ([32]:List UInt8)).2.1) ([32]:List UInt8)).2.1)),.slice none 0 0]) rfl rfl (by simp [Value.oneCell']) (by simp) ?_;clear F M a;intro w a M F
   change Mem w0 G (.blk b1 [.int .u64 ((u6:Nat):Int),.int .u8 ((u7:Nat):Int),.string (str ((Lib.cut ((Lib.cut ((Lib.cut s ([32]:List UInt8)).2.1) ([32]:List UInt8)).2.1) ([32]:List UInt8)).2.1)),.slice none 0 0] 26::L) _ at M
   revert a
   refine Aa<|fun a F=>⟨Keep G [.blk b1 [.int .u64 ((u6:Nat):Int),.int .u8 ((u7:Nat):Int),.string (str ((Lib.cut ((Lib.cut ((Lib.cut s ([32]:List UInt8)).2.1) ([32]:List UInt8)).2.1) ([32]:List UInt8)).2.1)),.slice none 0 0] 26],M.keep (Gle.refl _) (by simp),?_⟩
   revert a
   refine k_f (fun a F w _=>Hg F rfl) rfl<|D1<|Ad<|Ak<|fun a F=>Cj F M (k:=0) rfl rfl Bf rfl rfl rfl rfl ?_
   refine ⟨_,(Gle.refl _),M.weaken (.cons _ (sR _)),(⟨u6,u7,(Lib.cut ((Lib.cut ((Lib.cut s ([32]:List UInt8)).2.1) ([32]:List UInt8)).2.1) ([32]:List UInt8)).2.1,([]:List (List UInt8))⟩:ItemD),none,0,false,rfl,hII19,Az.nil,?_,?_⟩
   ·intro hb_;first | (cases hb_;done) | exact ⟨Dp.1 (by assumption),hII19.1,dT hb_⟩
   ·intro hb_ y hy;obtain ⟨q1,q2,q3⟩:=Hb hy hpuu6 (by omega) hpuu7;unfold I7 at q3;first | rw [if_neg (by assumption)] at q3 | rw [if_pos (by assumption)] at q3
    first | exact absurd (show true=false from q1.symm.trans (by assumption)) (by decide) | exact absurd (show true=false from q2.symm.trans (by assumption)) (by decide) | exact absurd (show Gy 8 (⟨u6,u7,(Lib.cut ((Lib.cut ((Lib.cut s ([32]:List UInt8)).2.1) ([32]:List UInt8)).2.1) ([32]:List UInt8)).2.1,([]:List (List UInt8))⟩:ItemD)=0 by rw [q3];exact Dh hy.1) (by assumption) | exact absurd (show Dj (⟨u6,u7,(Lib.cut ((Lib.cut ((Lib.cut s ([32]:List UInt8)).2.1) ([32]:List UInt8)).2.1) ([32]:List UInt8)).2.1,([]:List (List UInt8))⟩:ItemD)=s by rw [q3];exact hy.2.2) (dF hb_)
end Go.Proofs.YtmmhmcplegpenaaGreatDoor
namespace Go.Y
open Go
set_option linter.unusedSimpArgs false
set_option linter.unusedVariables false
section
variable {P:Program} {ops:Array Oper} {Q:Exit→Act→World→Prop} {w0 w:World} {G:A4} {L:List Res} {n d:Nat} {a:Act} {e:Env} {t:TypeId} {p:String} {af:Array Edge} {r:List Oper}
theorem Th (w:World) (dT sT ty elem:TypeId) (g dLen dCap:Nat) (a:Addr) (sLen sCap sz:Nat) (cur:Array Value) (t:TypeId) (cs:List Value)
  (hu:P.underlying dT=some (.slice elem)) (hs:(P.info? elem).map (·.size)=some sz)
  (hg:w.heap[g]?=some (.cells cur t (0,0))) (hn:cs.length=Nat.min sLen dLen * sz)
  (hsrc:∀ j v,cs[j]?=some v→w.cell? (a.add j)=some v) (hfit:cs.length≤cur.size) (h1:∀ v∈cs,v.oneCell' = true) :
  (Builtin.copy_ #[dT,sT] ty #[.slice (some ⟨g,0,none⟩) dLen dCap,.slice (some a) sLen sCap]).run P w =
   .ok (goInt (Nat.min sLen dLen:Nat)) (w.setRow g (cs++cur.toList.drop cs.length).toArray):=by
 have hl:=run_loadCells_list (P:=P) w a cs hsrc
 have hst:=run_storeCells_at P g 0 t cs 0 cur w hg (by simpa using hfit) h1
 cases hq:P.info? elem with
 | none=>simp [hq] at hs
 | some i =>
  have hi:i.size=sz:=by simpa [hq] using hs
  simp only [Nat.zero_add,List.take_zero,List.nil_append] at hst
  simp [Builtin.copy_,run_underlying hu,Builtin.lenOf,Builtin.firstCells,sizeOf,typeInfo,hq,hi,← hn,hl,hst]
/-- 'copy(new, old)': the row reads as what was copied. -/
theorem Rh {α:Type} {rd:Rd α} {sz:Nat} {dT sT et:TypeId} {i:TI} {x y:Operand} {k m c c2 b:Nat} {ad:Option Addr} {old:List Value} {xs:List α} (F:Fits n a e) (M:Mem w0 G L w)
  (hk:L[k]?=some (.row (.slice (some ⟨b,0,none⟩) m c) m old et sz)) (ht:tk P dT=.slice et) (hi:TOK P et i) (hsz:i.size=sz) (hx:ev e x=some (.slice (some ⟨b,0,none⟩) m c)) (hy:ev e y=some (.slice ad m c2))
  (S:Az rd sz G (.slice ad m c2) xs) (hm0:0 < m) (hd:Nat.ble (d+1) n=true)
  (kk:∀ cs w' a',Els rd sz G cs xs→Mem w0 G (L.set k (.row (.slice (some ⟨b,0,none⟩) m c) m cs et sz)) w'→Fits n a' ((d,.int .i64 (m:Nat))::e)→rl P ops Q r a' w') :
  rl P ops Q (⟨some d,.call ⟨.builtin .copy,#[x,y],#[dT,sT]⟩,t,p,af,none⟩::r) a w:=by
 subst hsz
 obtain ⟨rfl,_,_,news,hE,h1n,h6⟩:=S.cells
 have hnl:news.length=xs.length * i.size:=hE.length
 rcases h6 with ⟨rfl,rfl⟩ | ⟨sb,so,rfl,h6⟩
 ·simp at hm0
 obtain ⟨⟨hl,hr⟩,h1c⟩:=M.row_at hk
 rcases hr with ⟨h,_⟩ | ⟨g,cap,cur,hv,_,hg,hnc,hcm,hcs,htake⟩
 ·cases h
 simp only [Value.slice.injEq,Option.some.injEq,Addr.mk.injEq,and_true,true_and] at hv
 obtain ⟨rfl,rfl⟩:=hv
 obtain ⟨z,hz1,hz2,_⟩:=hi.info
 have hle:xs.length * i.size≤c * i.size:=Nat.mul_le_mul_right _ hnc
 have hrun:=Th (P:=P) w dT sT t et b xs.length c ⟨sb,so,none⟩ xs.length c2 i.size cur et news (Dc ht) (by rw [hz1];simp [hz2]) hg (by rw [hnl];simp [Nat.min_def])
  (fun j v hj=>by rw [E4];exact M.cell (h6 j v hj)) (by rw [hnl,hcs];exact hle) h1n
 rw [show Nat.min xs.length xs.length=xs.length from Nat.min_self _] at hrun
 refine Bs F (w':=_) (v:=_) (by simp only [execOp,resolve,Sem.run_bind,Sem.run_pure,Result.andThen_ok,invoke,builtin,List.map_toArray,List.map_cons,List.map_nil,F.ev hx,F.ev hy,hrun];rfl) hd fun a' F'=>kk news _ a' hE ?_ F'
 rw [← Array.length_toList] at hcs
 refine M.grow_at hk (fun z hz=>Or.inl hz) ⟨⟨hnl,Or.inr ⟨b,c,_,rfl,Nat.zero_le _,setRow_heap w b cur _ et (0,0) hg,hnc,hcm,?_,?_⟩⟩,h1n⟩ rfl rfl rfl (by simp [World.setRow]) (fun z hz hne=>setRow_other w b z _ (fun h=>hne (by rw [h];rfl)))
 ·simp only [List.size_toArray,List.length_append,List.length_drop];omega
 ·show List.take (xs.length * i.size) (news++cur.toList.drop news.length)=news
  rw [← hnl,List.take_left]
/-! ### A map as a set of numbers -/
theorem Oh {t k e:Nat} (h:tk P t=.map k e):P.underlying t=some (.map k e):=by
 unfold tk at h
 split at h <;> simp_all
/-- The entries are these numbers, each with 'true'. -/
def Io (es:Array MapEntry) (ks:List Nat):Prop:=(∀ x∈es.toList,∃ k:Nat,x.key=.int .u64 (k:Int)∧x.val=.bool true∧k∈ks)∧∀ k∈ks,∃ x∈es.toList,x.key=.int .u64 ((k:Nat):Int)
theorem Io.nil:Io #[] []:=⟨fun x hx=>by simp at hx,fun k hk=>by simp at hk⟩
theorem Re {mt kt et:TypeId} (F:Fits n a e) (M:Mem w0 G L w) (hd:Nat.ble (d+1) n=true)
  (k:∀ b w' a',Mem w0 G (.obj b (.map #[] 0)::L) w'→Fits n a' ((d,.map (some b))::e)→rl P ops Q r a' w'):rl P ops Q (⟨some d,.makeMap mt none,t,p,af,none⟩::r) a w:=by
 refine Bs F (w':=_) (v:=_) (by simp only [execOp,Instr.makeMap,Option.map_none,Sem.run_bind,newObj,Sem.run,Result.andThen_ok];rfl) hd fun a' F'=>k w.heap.size _ a' (M.new (.map #[] 0)) F'
theorem Rf {mt kt et:TypeId} {ei:TI} {x y:Operand} {k b z:Nat} {es:Array MapEntry} {cl:Nat} {ks:List Nat} (F:Fits n a e) (M:Mem w0 G L w) (hk:L[k]?=some (.obj b (.map es cl))) (hS:Io es ks)
  (hm:tk P mt=.map kt et) (hkt:tk P kt=.int .u64) (hz:TOK P et ei) (hz2:ei.zero=.bool false) (hx:ev e x=some (.map (some b))) (hy:ev e y=some (.int .u64 (z:Int))) (hd:Nat.ble (d+1) n=true)
  (kk:∀ a',Fits n a' ((d,.bool (decide (z∈ks)))::e)→rl P ops Q r a' w):rl P ops Q (⟨some d,.lookup mt x y false,t,p,af,none⟩::r) a w:=by
 have hb:w.heap[b]?=some (.map es cl):=M.own _ (List.mem_of_getElem? hk)
 have hd':=Dk hkt
 have hkey:MapKept.IsKey (.int .u64) (.int .u64 (z:Int)):=rfl
 have hks:∀ x∈es.toList,MapKept.IsKey (.int .u64) x.key:=fun x hx=>by obtain ⟨q,h1,_⟩:=hS.1 x hx;rw [h1];rfl
 rcases MapKept.findNow_spec hkey es.toList 0 hks with ⟨h1,h2⟩ | ⟨j,ent,h1,h2,h3⟩
 ·have hn:¬ z∈ks:=fun hm=>by obtain ⟨x,hx,hxk⟩:=hS.2 z hm;exact h2 x hx hxk
  refine Bs F (v:=.bool false) (w':=w) ?_ hd fun a' F'=>kk a' (by rw [decide_eq_false hn];exact F')
  simp only [execOp,Instr.lookup,F.ev hx,F.ev hy,Sem.run_bind,Cf (Oh hm),MapKept.run_getObj_map hb,Result.andThen_ok,Sem.run_pure,MapKept.run_checkKey hd' hkey,MapKept.run_findKey hd' h1,hz.zeroValue,hz2]
  rfl
 ·obtain ⟨q,h4,h5,h6⟩:=hS.1 ent (List.mem_of_getElem? h2)
  rw [h4] at h3
  simp only [Value.int.injEq,true_and] at h3
  have hq:q=z:=by omega
  subst hq
  refine Bs F (v:=.bool true) (w':=w) ?_ hd fun a' F'=>kk a' (by rw [decide_eq_true h6];exact F')
  simp only [execOp,Instr.lookup,F.ev hx,F.ev hy,Sem.run_bind,Cf (Oh hm),MapKept.run_getObj_map hb,Result.andThen_ok,Sem.run_pure,MapKept.run_checkKey hd' hkey,MapKept.run_findKey hd' h1,h5]
  rfl
theorem Oo {mt kt et:TypeId} {x y v:Operand} {k b z:Nat} {es:Array MapEntry} {cl:Nat} {ks:List Nat} (F:Fits n a e) (M:Mem w0 G L w) (hk:L[k]?=some (.obj b (.map es cl))) (hS:Io es ks)
  (hm:tk P mt=.map kt et) (hkt:tk P kt=.int .u64) (hx:ev e x=some (.map (some b))) (hy:ev e y=some (.int .u64 (z:Int))) (hv:ev e v=some (.bool true)) (hn:¬ z∈ks)
  (kk:∀ es' cl' w' a',Io es' (z::ks)→Mem w0 G (L.set k (.obj b (.map es' cl'))) w'→Fits n a' e→rl P ops Q r a' w'):rl P ops Q (⟨none,.mapUpdate mt x y v,t,p,af,none⟩::r) a w:=by
 have hb:w.heap[b]?=some (.map es cl):=M.own _ (List.mem_of_getElem? hk)
 have hd':=Dk hkt
 have hkey:MapKept.IsKey (.int .u64) (.int .u64 (z:Int)):=rfl
 have hks:∀ x∈es.toList,MapKept.IsKey (.int .u64) x.key:=fun x hx=>by obtain ⟨q,h1,_⟩:=hS.1 x hx;rw [h1];rfl
 rcases MapKept.findNow_spec hkey es.toList 0 hks with ⟨h1,h2⟩ | ⟨j,ent,h1,h2,h3⟩
 ·have hh:=MapKept.heap_set (o':=.map (es.push { key:=.int .u64 (z:Int),val:=.bool true,born:=cl }) (cl+1)) hb
  refine Ns F (w':={ w with heap:=w.heap.setIfInBounds b (.map (es.push { key:=.int .u64 (z:Int),val:=.bool true,born:=cl }) (cl+1)) }) ?_ fun a' F'=>kk (es.push { key:=.int .u64 (z:Int),val:=.bool true,born:=cl }) (cl+1) _ a' ?_ ?_ F'
  ·simp only [execOp,Instr.mapUpdate,F.ev hx,F.ev hy,F.ev hv,Sem.run_bind,Cf (Oh hm),MapKept.run_getObj_map hb,Result.andThen_ok,Sem.run_pure,MapKept.run_checkKey hd' hkey,MapKept.run_findKey hd' h1,MapKept.run_setObj_map _ hb]
  ·refine ⟨fun x hx=>?_,fun q hq=>?_⟩
   ·simp only [Array.toList_push,List.mem_append,List.mem_singleton] at hx
    rcases hx with hx | rfl
    ·obtain ⟨q,h4,h5,h6⟩:=hS.1 x hx;exact ⟨q,h4,h5,List.mem_cons_of_mem _ h6⟩
    ·exact ⟨z,rfl,rfl,by simp⟩
   ·rcases List.mem_cons.1 hq with rfl | hq
    ·exact ⟨_,by simp only [Array.toList_push,List.mem_append,List.mem_singleton];exact Or.inr rfl,rfl⟩
    ·obtain ⟨x,h4,h5⟩:=hS.2 q hq;exact ⟨x,by simp only [Array.toList_push,List.mem_append];exact Or.inl h4,h5⟩
  ·exact M.swap_at hk (y:=.obj b (.map (es.push { key:=.int .u64 (z:Int),val:=.bool true,born:=cl }) (cl+1))) rfl hh.1 rfl rfl rfl (by simp) (fun b' hne=>hh.2 b' (fun e=>hne (by rw [e];rfl)))
 ·obtain ⟨q,h4,_,h6⟩:=hS.1 ent (List.mem_of_getElem? h2)
  rw [h4] at h3
  simp only [Value.int.injEq,true_and] at h3
  exact absurd (show z∈ks by rw [show z=q by omega];exact h6) hn
end
end Go.Y
namespace Go.Proofs.YtmmhmcplegpenaaGreatDoor
open Go Go.Y Go.Proofs
variable {w0 w:World} {G:A4} {L:List Res}
set_option linter.unusedSimpArgs false
set_option linter.unusedVariables false
theorem Agt {α:Type} {l:List α} {i:Nat} {x:α} (h:l[i]?=some x):l.set i x=l:=by
 apply List.ext_getElem?
 intro j
 rw [List.getElem?_set]
 split
 ·rename_i e;subst e;rw [if_pos (Bl h),h]
 ·rfl
theorem Acx (M:Mem w0 G L w) {a1:Option Addr} {c1:Nat} {xs:List (List UInt8)} (S:Az D4 1 G (.slice a1 xs.length c1) xs) (hN:xs.length≤1000000) :
  Calls Tryz.prog 55 #[.slice a1 xs.length c1] w (Jr w0 G fun L' v=>∃ (a:Option Addr) (cs:List Value),v=.slice a xs.length xs.length∧L' = (.row (.slice a xs.length xs.length) xs.length cs 9 1::L)∧Els D4 1 G cs xs):=by
 refine A0 (vs:=[_]) Tryz.func55 rfl (n:=14) rfl rfl<|Ab<|Ac<|Af rfl<|Aa<|Ad<|Ab<|Ab<|Ac<|Ae rfl<|B8 Ca.k rfl<|Dy rfl rfl<|Aa<|Ad<|Ax rfl ?_ ?_
 ·intro h1b
  have h1:=dT h1b
  refine Ab<|Ac<|Af rfl<|Aa<|Ad<|Ak<|Au<|Aj rfl rfl<|?_
  have h0:=List.eq_nil_of_length_eq_zero (show xs.length=0 by omega)
  subst h0
  exact ⟨_,M.nilrow 9 1,none,[],rfl,rfl,rfl⟩
 ·intro h2b
  have h2:=dF h2b
  refine Aq<|Ad<|Ab<|Ac<|Ae rfl<|B8 Ca.k rfl<|fun a F=>?_
  refine Nt (rd:=D4) (Z:=([]:List UInt8)) F M Ca.k Bq rfl (by decide) rfl rfl (l:=xs.length) (by omega) rfl (by omega) (by show 16 * _≤_;omega) (by omega) (by simp [ti9,Value.cells,Value.oneCell']) (⟨rfl,by decide⟩) rfl ?_;clear F M a;intro bv3 csv3 w a M Ev3 F
  revert a
  refine Af rfl<|Aa<|Ad<|Ab<|Ac<|Ae rfl<|Ae rfl<|fun a F=>?_
  refine Rh F M (k:=0) rfl Ca.k Bq rfl rfl rfl S (by omega) rfl ?_;clear F M a;intro csq4 w a Eq4 M F
  revert a
  refine Aa<|Ad<|Ab<|Ac<|Ae rfl<|Af rfl<|Aa<|Ad<|Ak<|Aj rfl rfl<|?_
  change Mem w0 G (_::L) _ at M
  exact ⟨_,M,_,_,rfl,rfl,Eq4⟩
theorem Ajg (M:Mem w0 G L w) {a1:Option Addr} {c1:Nat} {xs:List (List UInt8)} (S:Az D4 1 G (.slice a1 xs.length c1) xs) (hN:xs.length≤1000000) :
  Calls Tryz.prog 55 #[.slice a1 xs.length c1] w (Ret w0 G L fun G' v=>∃ a:Option Addr,v=.slice a xs.length xs.length∧Az D4 1 G' (.slice a xs.length xs.length) xs):=by
 refine (Acx M S hN).mono ?_
 rintro e w' h
 cases e with
 | returned v =>
  obtain ⟨L',M',a,cs,rfl,rfl,E⟩:=h
  obtain ⟨_,G',_,_,hG,_,S',M2⟩:=M'.freeze_row Br (k:=0) rfl E (by decide)
  exact ⟨G',hG,M2,a,rfl,S'⟩
 | panicked c=>exact h.elim
 | outgrown=>exact h.elim
theorem Acy (M:Mem w0 G L w) {a1:Option Addr} {c1:Nat} {xs:List (ItemD)} (S:Az Co 4 G (.slice a1 xs.length c1) xs) (hN:xs.length≤1000000) :
  Calls Tryz.prog 54 #[.slice a1 xs.length c1] w (Jr w0 G fun L' v=>∃ (a:Option Addr) (cs:List Value),v=.slice a xs.length xs.length∧L' = (.row (.slice a xs.length xs.length) xs.length cs 26 4::L)∧Els Co 4 G cs xs):=by
 refine A0 (vs:=[_]) Tryz.func54 rfl (n:=14) rfl rfl<|Ab<|Ac<|Af rfl<|Aa<|Ad<|Ab<|Ab<|Ac<|Ae rfl<|B8 Bp.k rfl<|Dy rfl rfl<|Aa<|Ad<|Ax rfl ?_ ?_
 ·intro h1b
  have h1:=dT h1b
  refine Ab<|Ac<|Af rfl<|Aa<|Ad<|Ak<|Au<|Aj rfl rfl<|?_
  have h0:=List.eq_nil_of_length_eq_zero (show xs.length=0 by omega)
  subst h0
  exact ⟨_,M.nilrow 26 4,none,[],rfl,rfl,rfl⟩
 ·intro h2b
  have h2:=dF h2b
  refine Aq<|Ad<|Ab<|Ac<|Ae rfl<|B8 Bp.k rfl<|fun a F=>?_
  refine Nt (rd:=Co) (Z:=(⟨0,0,[],[]⟩:ItemD)) F M Bp.k Bf rfl (by decide) rfl rfl (l:=xs.length) (by omega) rfl (by omega) (by show 56 * _≤_;omega) (by omega) (by simp [ti26,Value.cells,Value.oneCell']) (⟨none,0,rfl,by decide,by decide,by decide,by decide,Az.nil⟩) rfl ?_;clear F M a;intro bv3 csv3 w a M Ev3 F
  revert a
  refine Af rfl<|Aa<|Ad<|Ab<|Ac<|Ae rfl<|Ae rfl<|fun a F=>?_
  refine Rh F M (k:=0) rfl Bp.k Bf rfl rfl rfl S (by omega) rfl ?_;clear F M a;intro csq4 w a Eq4 M F
  revert a
  refine Aa<|Ad<|Ab<|Ac<|Ae rfl<|Af rfl<|Aa<|Ad<|Ak<|Aj rfl rfl<|?_
  change Mem w0 G (_::L) _ at M
  exact ⟨_,M,_,_,rfl,rfl,Eq4⟩
theorem U6 (M:Mem w0 G L w) {a1:Option Addr} {c1:Nat} {xs:List ItemD} (S:Az Co 4 G (.slice a1 xs.length c1) xs) (hN:xs.length≤1000000) (hM:∀ x∈xs,x.marks.length≤1000000) :
  Calls Tryz.prog 15 #[.slice a1 xs.length c1] w (Ret w0 G L fun G' v=>∃ a:Option Addr,v=.slice a xs.length xs.length∧Az Co 4 G' (.slice a xs.length xs.length) xs):=by
 refine A0 (vs:=[_]) Tryz.func15 rfl (n:=24) rfl rfl<|Ab<|Ac<|Af rfl<|Aa<|Ad<|Ab<|Ac<|Ae rfl<|Oj ent54 rfl rfl (Acy (xs:=xs) M S (by omega))<|?_;clear M;rintro _ _ w M ⟨aq1,csq1,rfl,rfl,Eq1⟩
 refine Af rfl<|Aa<|Ad<|Ab<|Ab<|Ac<|Ae rfl<|B8 Bp.k rfl<|Ae rfl<|Aa<|Ad<|A1<|fun a F=>B2 (fun m a' w'=>∃ (i:Nat),∃ (cso:List Value),m=xs.length - i∧∃ G2,Gle G G2∧Fits 24 a' [(3,.slice aq1 xs.length xs.length),(7,.slice aq1 xs.length xs.length),(8,.int .i64 ((xs.length:Nat):Int)),(9,.int .i64 ((i:Nat):Int))]∧Mem w0 G2 (.row (.slice aq1 xs.length xs.length) (xs.length) (cso) 26 4::L) w'∧(i≤xs.length)∧(Els Co 4 G2 cso xs)) _ ⟨0,csq1,rfl,G,Gle.refl _,F.to ⟨rfl,rfl,rfl,rfl,trivial⟩,M,Nat.zero_le _,Eq1⟩ ?_
 clear F M
 rintro m a w ⟨i,cso,rfl,G2,hG2,F,M,hi,Eo⟩
 replace S:=S.mono A3 hG2
 revert a
 refine Ab<|Ac<|C9 rfl rfl<|Aa<|Ad<|Ab<|Ax rfl ?_ ?_
 ·intro h3b
  have h3:=dT h3b
  refine Aq<|Ad<|Ab<|A1<|Ab<|Ac<|Ae rfl<|Af rfl<|Aa<|Ad<|Ac<|Ae rfl<|Ae rfl<|Ae rfl<|Ae rfl<|?_
  obtain ⟨Xe4,hXe4⟩:=Bc (xs:=xs) (i:=i) (by omega)
  obtain ⟨be4,_,Ie4,hme4,_,Ae4,hTe4⟩:=M.atRow (k:=0) rfl (by decide) Eo hXe4
  obtain ⟨mae4,mce4,rfl,hke4,hte4,hxe4,hne4,SMe4⟩:=hTe4
  have hIe4:(Xe4.key < 18446744073709551616∧Xe4.typ < 256∧Xe4.text.length≤9223372036854775807):=⟨hke4,hte4,hxe4⟩
  refine Ds Bp.k Bf Ie4 rfl rfl<|A2 Bf.k rfl rfl<|Agv Ca Ae4 3 rfl rfl rfl rfl<|Hx ent55 rfl rfl (Ajg (xs:=Xe4.marks) M SMe4 (hM Xe4 (List.mem_of_getElem? hXe4)))<|?_;clear M;rintro _ Gq5 w hGq5 M ⟨aq5,rfl,Sq5⟩
  replace S:=S.mono A3 hGq5
  replace Eo:=Eo.mono A3 hGq5
  replace SMe4:=SMe4.mono Br hGq5
  obtain ⟨be6,_,Ie6,hme6,_,Ae6,hTe6⟩:=M.atRow (k:=0) rfl (by decide) Eo hXe4
  obtain ⟨mae6,mce6,rfl,hke6,hte6,hxe6,hne6,SMe6⟩:=hTe6
  have hIe6:(Xe4.key < 18446744073709551616∧Xe4.typ < 256∧Xe4.text.length≤9223372036854775807):=⟨hke6,hte6,hxe6⟩
  refine Ds Bp.k Bf Ie6 rfl rfl<|A2 Bf.k rfl rfl<|fun a F=>?_
  refine Pv F M Ca rfl (k:=0) rfl Eo Ie6 hXe4 (f:=3) (by decide) rfl rfl rfl rfl (X':=Xe4) (fun ch _ h=>by obtain ⟨a_,c_,rfl,h1,h2,h3,h4,_⟩:=h;exact ⟨aq5,Xe4.marks.length,rfl,h1,h2,h3,h4,Sq5⟩) ?_;clear F M a;intro csu7 w a M Eu7 F
  revert a
  refine Aa<|C0<|Ad<|Ac<|B9 rfl rfl<|Ae rfl<|Aa<|Ad<|fun a F=>?_
  exact ⟨_,by omega,i+1,csu7,rfl,Gq5,(hG2.trans hGq5),F.to ⟨rfl,rfl,rfl,rfl,trivial⟩,M,by omega,by have h_:=Eu7;rwa [Agt hXe4] at h_⟩
 ·intro h8b
  have h8:=dF h8b
  refine B5<|B0<|B0<|Dr<|Ad<|Ab<|Ac<|Ae rfl<|Af rfl<|Aa<|Ad<|Ak<|Aj rfl rfl<|?_
  obtain ⟨hnz9,Gz9,az9,cz9,hGz9,hez9,Sz9,M⟩:=M.freeze_row A3 (k:=0) rfl Eo (by decide)
  clear hez9 az9 cz9
  exact ⟨Gz9,(hG2.trans hGz9),M.weaken (sR _),_,rfl,Sz9⟩
/-- The first item whose key an item before it has. -/
def TwR (xs:List ItemD) (i:Nat) (b:Bool):Prop :=
 (b=false∧i=0∧∀ (m:Nat) (y:ItemD),xs[m]?=some y→∀ (k:Nat) (z:ItemD),k < m→xs[k]?=some z→z.key≠y.key) ∨
 (b=true∧(∃ x,xs[i]?=some x∧∃ k z,k < i∧xs[k]?=some z∧z.key=x.key)∧∀ (m:Nat) (y:ItemD),m < i→xs[m]?=some y→∀ (k:Nat) (z:ItemD),k < m→xs[k]?=some z→z.key≠y.key)
def Upto (xs:List ItemD) (i:Nat):Prop:=∀ (m:Nat) (y:ItemD),m < i→xs[m]?=some y→∀ (k:Nat) (z:ItemD),k < m→xs[k]?=some z→z.key≠y.key
theorem Upto.step {xs:List ItemD} {i:Nat} {x:ItemD} (h:Upto xs i) (hx:xs[i]?=some x) (hn:∀ (k:Nat) (z:ItemD),k < i→xs[k]?=some z→z.key≠x.key):Upto xs (i+1):=by
 intro m y hm hy k z hk hz
 rcases Nat.lt_or_ge m i with h1 | h1
 ·exact h m y h1 hy k z hk hz
 ·have:m=i:=by omega
  subst this;rw [hx] at hy;simp only [Option.some.injEq] at hy;subst hy;exact hn k z hk hz
theorem TwR.uniq {xs:List ItemD} {i j:Nat} {b c:Bool} (h:TwR xs i b) (h':TwR xs j c):i=j∧b=c:=by
 rcases h with ⟨rfl,rfl,h⟩ | ⟨rfl,⟨x,hx,k,z,hk,hz,e⟩,h⟩ <;> rcases h' with ⟨rfl,rfl,h'⟩ | ⟨rfl,⟨x',hx',k',z',hk',hz',e'⟩,h'⟩
 ·exact ⟨rfl,rfl⟩
 ·exact absurd e' (h j x' hx' k' z' hk' hz')
 ·exact absurd e (h' i x hx k z hk hz)
 ·rcases Nat.lt_trichotomy i j with h1 | h1 | h1
  ·exact absurd e (h' i x h1 hx k z hk hz)
  ·exact ⟨h1,rfl⟩
  ·exact absurd e' (h j x' h1 hx' k' z' hk' hz')
end Go.Proofs.YtmmhmcplegpenaaGreatDoor
