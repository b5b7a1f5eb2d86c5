/- The walks, part P. · The walks, part T. -/
import Derived.Test.YtmmhmcplegpenaaGreatDoorJ5
namespace Go.Proofs.YtmmhmcplegpenaaGreatDoor
open Go Go.Y Go.Proofs
variable {w0 w:World} {G:A4} {L:List Res}
set_option linter.unusedSimpArgs false
set_option linter.unusedVariables false
theorem itoa_nn {n:Int} (h:0≤n):Lib.itoa n=Lib.decDigits n.toNat:=by unfold Lib.itoa;rw [if_neg (by omega)]
theorem V3:∀ k:Nat,k < 10→(([48,49,50,51,52,53,54,55,56,57]:List UInt8).take (k+1)).drop k=[UInt8.ofNat (48+k)]:=by decide
theorem V6 {k:Nat} (h:k < 10):Lib.decDigits k=[UInt8.ofNat (48+k)]:=by
 rw [Ho,if_pos (by omega),Nat.mod_eq_of_lt h];rfl
theorem dec_big {u:Nat} (h:9 < u):Lib.decDigits (u / 10)++[UInt8.ofNat (48+u % 10)]=Lib.decDigits u:=by
 rw [Ho u,if_neg (by omega)]
theorem pub8_le {s:List UInt8} {u:Nat} (h:Lib.parseUintB 8 s=.ok u):u≤255:=by
 have key:∀ (l:List UInt8) (acc:Nat),acc≤255→Lib.parseUintM (2 ^ 8 - 1) acc l=.ok u→u≤255:=by
  intro l
  induction l with
  | nil=>intro acc h1 h2;simp only [Lib.parseUintM,Lib.NumEnd.ok.injEq] at h2;omega
  | cons c r ih =>
   intro acc h1 h2
   unfold Lib.parseUintM at h2
   split at h2
   ·split at h2
    ·cases h2
    ·split at h2
     ·cases h2
     ·exact ih _ (by omega) h2
   ·cases h2
 unfold Lib.parseUintB at h
 split at h
 ·cases h
 ·exact key s 0 (by omega) h
theorem Aci (M:Mem w0 G L w) (HG:Globs 0 1 2 3 G) {u:Nat} (hu:u < 9223372036854775808):Calls Tryz.prog 133 #[.int .i64 ((u:Nat):Int)] w (Cl w0 G L fun v=>v=.string (str (Lib.decDigits u))):=by
 refine Az (vs:=[_]) Tryz.func133 rfl (n:=5) rfl rfl<|Ab<|Ac<|Af rfl<|Aa<|Ad<|Ab<|Ac<|Ae rfl<|Br Alz rfl rfl (Zs (n:=((u:Nat):Int)) M HG (by first | assumption | exact ⟨by decide,by decide⟩ | exact wrap_ink _ _ | exact Cr (by omega) (by omega)))<|?_;clear M;rintro _ w M rfl
 refine Af rfl<|Aa<|Ad<|Aj<|Al rfl rfl<|?_
 exact ⟨M,by rw [itoa_nn (by omega),Int.toNat_natCast]⟩
theorem Vw (M:Mem w0 G L w) (HG:Globs 0 1 2 3 G) {u:Nat} (hu:u < 9223372036854775808):Calls Tryz.prog 83 #[.int .i64 ((u:Nat):Int)] w (Cl w0 G L fun v=>v=.string (str (Lib.decDigits u))):=by
 refine Az (vs:=[_]) Tryz.func83 rfl (n:=5) rfl rfl<|Ab<|Ac<|Af rfl<|Aa<|Ad<|Ab<|Ac<|Ae rfl<|Br Ame rfl rfl (Aci (u:=u) M HG (by omega))<|?_;clear M;rintro _ w M rfl
 refine Af rfl<|Aa<|Ad<|Aj<|Al rfl rfl<|?_
 exact ⟨M,rfl⟩
def RnumP (u:Nat):Prop:=∀ (w0 w:World) (G:A4) (L:List Res),Mem w0 G L w→u < 18446744073709551616→Calls Tryz.prog 108 #[.int .u64 ((u:Nat):Int)] w (Cl w0 G L fun v=>v=.string (str (Lib.decDigits u)))
theorem Afm {u:Nat} (ih:∀ v,v < u→RnumP v) {w0 w:World} {G:A4} {L:List Res} (M:Mem w0 G L w) (hu:u < 18446744073709551616):Calls Tryz.prog 108 #[.int .u64 ((u:Nat):Int)] w (Cl w0 G L fun v=>v=.string (str (Lib.decDigits u))):=by
 refine Az (vs:=[_]) Tryz.func108 rfl (n:=19) rfl rfl<|Ab<|Ac<|Af rfl<|Aa<|Ad<|Ab<|Ac<|Ae rfl<|Ap (fun a F=>Yg (F.ev rfl) (F.ev rfl) (by (first | omega | (show u % 10 < 10;omega))) (by (first | omega | (show u % 10 < 10;omega)))) rfl<|Af rfl<|Aa<|Ad<|Ab<|Ac<|Ae rfl<|Ae rfl<|Ap (fun a F=>Fj (F.ev rfl) (F.ev rfl) (J5 (by (first | omega | (show u % 10+1≤10;omega))) (by (first | omega | (show u % 10+1≤10;omega))))) rfl<|Ap (fun a F=>I7 (a:=u % 10) (b:=(u % 10)+1) Bq.k (F.ev rfl) ⟨(F.ev rfl),by omega⟩ ⟨(F.ev rfl),by omega⟩ (by (first | omega | (show u % 10+1≤10;omega))) (by (first | omega | (show u % 10+1≤10;omega)))) rfl<|?_
 have hsl1:(([48,49,50,51,52,53,54,55,56,57]:List UInt8).take ((u % 10)+1)).drop (u % 10)=[UInt8.ofNat (48+u % 10)]:=V3 (u % 10) (by omega)
 intro a F
 rw [hsl1] at F
 revert a
 refine Af rfl<|Aa<|Ad<|Ab<|Ab<|Ac<|Ae rfl<|Dn rfl rfl<|Aa<|Ad<|Av rfl ?_ ?_
 ·intro h2b
  have h2:=dT h2b
  refine Ac<|Ae rfl<|Ap (fun a F=>Yh (F.ev rfl) (F.ev rfl) (by omega) (by omega) (J5 (by omega) (by omega))) rfl<|Br Me rfl rfl (ih (u / 10) (by omega) _ _ _ _ M (by omega))<|?_;clear M;rintro _ w M rfl
  have hdld3:=Ev (u / 10) (by omega)
  refine Ae rfl<|Ap (fun a F=>Bv (F.ev rfl) (F.ev rfl) (by (try simp only [List.length_append,List.length_cons,List.length_nil]);omega)) rfl<|Af rfl<|Aa<|Ad<|Ab<|Ac<|Ae rfl<|Af rfl<|Aa<|Ad<|Aj<|Al rfl rfl<|?_
  exact ⟨M,by rw [dec_big (by omega)]⟩
 ·intro h4b
  have h4:=dF h4b
  refine Au<|Ad<|Ab<|Ac<|Ae rfl<|Af rfl<|Aa<|Ad<|Aj<|Al rfl rfl<|?_
  exact ⟨M,by rw [V6 (by omega),Nat.mod_eq_of_lt (by omega)]⟩
theorem Aiv (u:Nat):RnumP u:=by
 induction u using Nat.strongRecOn with
 | _ u ih=>intro w0 w G L M hu;exact Afm ih M hu
theorem Ia (M:Mem w0 G L w) {u:Nat} (hu:u < 18446744073709551616):Calls Tryz.prog 108 #[.int .u64 ((u:Nat):Int)] w (Cl w0 G L fun v=>v=.string (str (Lib.decDigits u))):=Aiv u _ _ _ _ M hu
theorem nb_inj {a b:UInt8} (h:nb a=nb b):a=b:=by
 simp only [nb] at h
 exact UInt8.toNat_inj.1 (by omega)
theorem cut_hit {c B:UInt8} {s:List UInt8} {i:Nat} (h:∀ (m:Nat) (b:UInt8),m < i→s[m]?=some b→b≠c) (hB:s[i]?=some B) (e:nb B=nb c):Lib.cut s [c]=((s.take i).drop 0,(s.take s.length).drop (i+1),true):=by
 have hb:=nb_inj e
 subst hb
 have:=Bj hB
 rw [K9,Py h (Or.inl hB),if_pos this]
 simp
theorem cut_end {c:UInt8} {s:List UInt8} {i:Nat} (h:∀ (m:Nat) (b:UInt8),m < i→s[m]?=some b→b≠c) (hi:s.length≤i):Lib.cut s [c]=(s,[],false):=by
 apply Tu
 intro hc
 obtain ⟨m,hm⟩:=List.mem_iff_getElem?.1 hc
 exact h m c (by have:=Bj hm;omega) hm rfl
theorem Ga (M:Mem w0 G L w) {s:List UInt8} (hs:s.length≤9223372036854775807) {c:UInt8}:Calls Tryz.prog 89 #[.string (str s),.int .u8 (nb c)] w (Cl w0 G L fun v=>v=.tuple #[.string (str (Lib.cut s [c]).1),.string (str (Lib.cut s [c]).2.1),.int .i64 (if (Lib.cut s [c]).2.2=true then 1 else 0)]):=by
 refine Az (vs:=[_,_]) Tryz.func89 rfl (n:=27) rfl rfl<|Ab<|Ac<|Af rfl<|Af rfl<|Af rfl<|Aa<|Ad<|Ab<|Ab<|Ac<|Af rfl<|Aa<|Ad<|A3<|fun a F=>B8 (fun m a' w'=>∃ (i:Nat),m=s.length - i∧Fits 27 a' [(0,.string (str s)),(1,.int .u8 (nb c)),(7,.int .i64 ((i:Nat):Int))]∧Mem w0 G (L) w'∧(i≤s.length)∧(∀ (m:Nat) (b:UInt8),m < i→s[m]?=some b→b≠c)) _ ⟨0,rfl,F.to ⟨rfl,rfl,rfl,trivial⟩,M,by omega,fun m b h=>by omega⟩ ?_
 clear F M
 rintro m a w ⟨i,rfl,F,M,hi,hA⟩
 revert a
 refine Ab<|Ab<|Ac<|Ae rfl<|Ae rfl<|Ap (fun a F=>Cq Bq.k (F.ev rfl)) rfl<|Df rfl rfl<|Aa<|Ad<|Av rfl ?_ ?_
 ·intro h1b
  have h1:=dT h1b
  refine Au<|Ad<|Ab<|A3<|Ab<|Ac<|Ae rfl<|Ae rfl<|?_
  obtain ⟨B2,hB2⟩:=Be (xs:=(s)) (i:=i) (by omega)
  have lB2:=Ox B2
  refine Ap (fun a F=>Cx (i:=i) Bq.k (F.ev rfl) (F.ev rfl) hB2) rfl<|Ae rfl<|Dc rfl rfl<|Aa<|Ad<|Av rfl ?_ ?_
  ·intro h3b
   have h3:=dT h3b
   refine Ab<|fun a F=>Fw [(true,0),(true,1),(true,2),(true,3),(true,4),(true,5),(true,6),(true,7),(true,8),(true,9)] (Keep G []) rfl (by kernel_rfl) (fun c a d v w h=>by cases d <;> exact h) ((M.drew _).keep (Gle.refl _) (by simp)) ?_
   replace M:=M.drew (w.drawn+1)
   revert a
   refine l_r (fun a F w M=>Cj F rfl) rfl<|l_r (fun a F w M=>Cj F rfl) rfl<|l_r (fun a F w M=>I7 (a:=0) (b:=i) (ka:=.i64) (za:=0) Bq.k (F.ev rfl) rfl ⟨(F.ev rfl),by omega⟩ (by omega) (by omega)) rfl<|l_r (fun a F w M=>Cj F rfl) rfl<|l_r (fun a F w M=>Cj F rfl) rfl<|l_r (fun a F w M=>Fj (F.ev rfl) (F.ev rfl) (Cr (by omega) (by omega))) rfl<|l_r (fun a F w M=>I7 (a:=i+1) (b:=(s).length) (kb:=.i64) (zb:=0) Bq.k (F.ev rfl) ⟨(F.ev rfl),by omega⟩ rfl (by omega) (by omega)) rfl<|l_r (fun a F w M=>Gm F rfl) rfl<|l_r (fun a F w M=>Gm F rfl) rfl<|l_r (fun a F w M=>Gm F rfl) rfl<|Gx<|?_
   generalize ({ w with drawn:=w.drawn+1 }:World)=w at M ⊢
   refine Ad<|Aj<|Bo<|Aw<|Aw<|Bo<|Aw<|Hf rfl rfl rfl rfl<|?_
   exact ⟨M,by rw [cut_hit hA hB2 (by omega)];rfl⟩
  ·intro h4b
   have h4:=dF h4b
   refine Au<|C0<|Ad<|Ac<|Ae rfl<|B9 rfl rfl<|Af rfl<|Aa<|Ad<|fun a F=>?_
   exact ⟨_,by omega,i+1,rfl,F.to ⟨rfl,rfl,rfl,trivial⟩,M,by omega,Fl (p:=fun b=>b≠c) hA hB2 (fun e_=>by subst e_;omega)⟩
 ·intro h5b
  have h5:=dF h5b
  refine B1<|Bx<|Bx<|Dj<|Ad<|Ab<|Ac<|Ae rfl<|Af rfl<|Af rfl<|Af rfl<|Aa<|Ad<|Aj<|Hf rfl rfl rfl rfl<|?_
  exact ⟨M,by rw [cut_end hA (by omega)];rfl⟩
theorem Agb (M:Mem w0 G L w) (HG:Globs 0 1 2 3 G) {s:List UInt8} (hs:s.length≤281474976710656) :
  Calls Tryz.prog 101 #[.string (str s),.int .i64 10,.int .i64 64] w (Cl w0 G L fun v=>∃ (u:Nat) (er:Value),v=.tuple #[.int .u64 (u:Int),er]∧(er=.nilIface∨∃ te pe,er=.iface te pe)∧Ur 18446744073709551616 s u (D5 er)):=by
 refine (Abv M HG hs).mono ?_
 rintro e w' h
 cases e with
 | returned v =>
  obtain ⟨M',u,er,h1,h2,h3,h4⟩:=h
  refine ⟨M',u,er,h1,h3,by omega,fun m hm he=>?_⟩
  subst he
  have h5:=W6 (B:=64) (by decide) (u:=m) hm
  rcases h4 with ⟨h6,h7⟩ | ⟨h6,_⟩
  ·rw [h5] at h6;simp only [Lib.NumEnd.ok.injEq] at h6;exact ⟨h7,h6.symm⟩
  ·exact absurd h5 (h6 m)
 | panicked c=>exact h.elim
 | outgrown=>exact h.elim
theorem Ajj (M:Mem w0 G L w) (HG:Globs 0 1 2 3 G) {s:List UInt8} (hs:s.length≤281474976710656) :
  Calls Tryz.prog 101 #[.string (str s),.int .i64 10,.int .i64 8] w (Cl w0 G L fun v=>∃ (u:Nat) (er:Value),v=.tuple #[.int .u64 (u:Int),er]∧(er=.nilIface∨∃ te pe,er=.iface te pe)∧Ur 256 s u (D5 er)):=by
 have hd:(str s).data.toList=s:=E1 s
 have no:∀ {b:Bool} {u:Nat},u < 256→(∀ m,m < 256→Lib.parseUintB 8 s≠.ok m)→Ur 256 s u b:=fun hu h=>⟨hu,fun m hm he=>absurd (by rw [he];exact W6 (B:=8) (by decide) hm) (h m hm)⟩
 cases h:Lib.parseUintB 8 s with
 | ok u =>
  refine (Any.strconv_ParseUint_10_at8_ok Tryz.laysPu14 (str s) (by rw [Cp];omega) u (by rw [hd];exact h) w).mono ?_
  rintro e w' ⟨rfl,hw⟩
  refine ⟨?_,u,_,rfl,Or.inl rfl,by have:=pub8_le h;omega,fun m hm he=>?_⟩
  ·rcases hw with rfl | rfl
   ·exact M
   ·exact M.bytesWorld _ _
  ·subst he
   rw [W6 (B:=8) (by decide) hm] at h
   simp only [Lib.NumEnd.ok.injEq] at h
   exact ⟨rfl,h.symm⟩
 | range =>
  obtain ⟨ev,h1,h2⟩:=HG.rng
  refine (Any.strconv_ParseUint_10_at8_range Tryz.laysPu14 (str s) (by rw [Cp];omega) (by rw [hd];exact h) ev w (M.cell h1) h2).mono ?_
  rintro e w' ⟨N,rfl,_,_,hb⟩
  exact ⟨M.below' hb,255,_,rfl,Or.inr ⟨_,_,rfl⟩,no (by omega) (fun m _ hx=>by rw [h] at hx;cases hx)⟩
 | _ =>
  obtain ⟨ev,h1,h2⟩:=HG.syn
  refine (Any.strconv_ParseUint_10_at8_syntax Tryz.laysPu14 (str s) (by rw [Cp];omega) (by rw [hd];exact h) ev w (M.cell h1) h2).mono ?_
  rintro e w' ⟨N,rfl,_,_,hb⟩
  exact ⟨M.below' hb,0,_,rfl,Or.inr ⟨_,_,rfl⟩,no (by omega) (fun m _ hx=>by rw [h] at hx;cases hx)⟩
theorem Aia (z:Int):IntKind.u64.wrap z=z % 18446744073709551616:=by
 simp [IntKind.wrap,IntKind.bits,IntKind.signed]
theorem Aii {s:List UInt8} {i:Nat} {B:UInt8} {z:Int} (hz:z=((J9 (s.take i) 0:Nat):Int) % 18446744073709551616) (hB:s[i]?=some B) (h1:48≤nb B) (h2:nb B≤57) :
  IntKind.u64.wrap (IntKind.u64.wrap (z * 10)+IntKind.u64.wrap (nb B - 48))=((J9 (s.take (i+1)) 0:Nat):Int) % 18446744073709551616:=by
 rw [List.take_add_one,hB]
 simp only [Option.toList_some,Pf,Aia,nb] at *
 omega
theorem X4 {s:List UInt8} {i:Nat} {z:Int} (hz:z=((J9 (s.take i) 0:Nat):Int) % 18446744073709551616) (h:i=s.length):z=((J9 (s.take s.length) 0:Nat):Int) % 18446744073709551616:=h ▸ hz
theorem Ade {s:List UInt8} {z:Int} (hz:z=((J9 (s.take s.length) 0:Nat):Int) % 18446744073709551616) {m:Nat} (hm:m < 18446744073709551616) (e:s=Lib.decDigits m):z.toNat=m:=by
 rw [List.take_length,e,I5] at hz
 omega
theorem Mn (M:Mem w0 G L w) {s:List UInt8} (hs:s.length≤9223372036854775807):Calls Tryz.prog 137 #[.string (str s)] w (Cl w0 G L fun v=>∃ (u:Nat) (b:Bool),v=.tuple #[.int .u64 (u:Int),.int .i64 (if b=true then 1 else 0)]∧Ur 18446744073709551616 s u b):=by
 refine Az (vs:=[_]) Tryz.func137 rfl (n:=41) rfl rfl<|Ab<|Ac<|Af rfl<|Af rfl<|Aa<|Ad<|Ab<|Ac<|Af rfl<|Aa<|Ad<|Ab<|Ab<|Ac<|Af rfl<|Aa<|Ad<|A3<|fun a F=>B8 (fun m a' w'=>∃ (i:Nat),∃ (z:Int),m=s.length - i∧Fits 41 a' [(0,.string (str s)),(4,.int .u64 z),(5,.int .i64 ((i:Nat):Int))]∧Mem w0 G (L) w'∧(i≤s.length)∧(z=((J9 (s.take i) 0:Nat):Int) % 18446744073709551616)) _ ⟨0,0,rfl,F.to ⟨rfl,rfl,rfl,trivial⟩,M,by omega,by simp [J9]⟩ ?_
 clear F M
 rintro m a w ⟨i,z,rfl,F,M,hi,hz⟩
 revert a
 refine Ab<|Ab<|Ac<|Ae rfl<|Ae rfl<|Ap (fun a F=>Cq Bq.k (F.ev rfl)) rfl<|Df rfl rfl<|Aa<|Ad<|Av rfl ?_ ?_
 ·intro h1b
  have h1:=dT h1b
  refine Au<|Ad<|Ab<|A3<|Ab<|Ac<|Ae rfl<|Ae rfl<|?_
  obtain ⟨B2,hB2⟩:=Be (xs:=(s)) (i:=i) (by omega)
  have lB2:=Ox B2
  refine Ap (fun a F=>Cx (i:=i) Bq.k (F.ev rfl) (F.ev rfl) hB2) rfl<|Ap (fun a F=>Dl Eh.k ⟨_,by rw [C5 Ew.k]⟩ (F.ev rfl) (J5 (by (clear F M;simp only [nb] at *;omega)) (by (clear F M;simp only [nb] at *;omega)))) rfl<|Ap (fun a F=>Adh (F.ev rfl) (F.ev rfl)) rfl<|Af rfl<|Aa<|Ad<|Ab<|Ab<|Ac<|Ae rfl<|Ae rfl<|Ap (fun a F=>Cx (i:=i) Bq.k (F.ev rfl) (F.ev rfl) hB2) rfl<|Df rfl rfl<|Ae rfl<|?_
  rcases bE (decide (nb B2 < 48)) with h3b | h4b
  ·skip
   have h3:=dT h3b
   refine g_f rfl h3b<|g_f rfl h3b<|g_f rfl h3b<|g_f rfl h3b<|Bi rfl h3b rfl<|Ae rfl<|g_f rfl rfl<|g_f rfl rfl<|Bi rfl rfl rfl<|Aa<|Ad<|Bk rfl rfl<|Ab<|Ac<|Af rfl<|Af rfl<|Aa<|Ad<|Aj<|Aw<|Bo<|Aw<|Aw<|Bo<|?_
   refine Aw<|Fx rfl rfl rfl<|?_
   exact ⟨M,0,false,rfl,by omega,fun m hm he=>by exfalso;first | (have h9_:=J0 m _ (he ▸ List.mem_of_getElem? hB2);unfold Lg at h9_;simp only [nb] at *;omega) | (have h9_:=Ev m hm;rw [← he] at h9_;have:=Bj hB2;omega)⟩
  ·skip
   have h4:=dF h4b
   refine g_t rfl h4b<|Ae rfl<|g_t rfl h4b<|Ae rfl<|g_t rfl h4b<|Ap (fun a F=>Cx (i:=i) Bq.k (F.ev rfl) (F.ev rfl) hB2) rfl<|g_t rfl h4b<|Dn rfl rfl<|Bh rfl h4b rfl<|Ae rfl<|?_
   rcases bE (decide (57 < nb B2)) with h5b | h6b
   ·skip
    have h5:=dT h5b
    refine g_f rfl h5b<|g_f rfl h5b<|Bi rfl h5b rfl<|Aa<|Ad<|Bk rfl rfl<|Ab<|Ac<|Af rfl<|Af rfl<|Aa<|Ad<|Aj<|Aw<|Bo<|Aw<|Aw<|Bo<|Aw<|Fx rfl rfl rfl<|?_
    exact ⟨M,0,false,rfl,by omega,fun m hm he=>by exfalso;first | (have h9_:=J0 m _ (he ▸ List.mem_of_getElem? hB2);unfold Lg at h9_;simp only [nb] at *;omega) | (have h9_:=Ev m hm;rw [← he] at h9_;have:=Bj hB2;omega)⟩
   ·skip
    have h6:=dF h6b
    refine g_t rfl h6b<|Ae rfl<|g_t rfl h6b<|Dn rfl rfl<|Bh rfl h6b rfl<|Aa<|Ad<|Av rfl ?_ ?_
    ·intro h7b
     have h7:=dT h7b
     refine Ab<|Ac<|Af rfl<|Af rfl<|Aa<|Ad<|Aj<|Aw<|Bo<|Aw<|Aw<|Bo<|Aw<|Fx rfl rfl rfl<|?_
     exact ⟨M,0,false,rfl,by omega,fun m hm he=>by exfalso;first | (have h9_:=J0 m _ (he ▸ List.mem_of_getElem? hB2);unfold Lg at h9_;simp only [nb] at *;omega) | (have h9_:=Ev m hm;rw [← he] at h9_;have:=Bj hB2;omega)⟩
    ·intro h8b
     have h8:=dF h8b
     refine Au<|Ad<|Ac<|Ae rfl<|Ap (fun a F=>Adi (F.ev rfl) (F.ev rfl)) rfl<|Ae rfl<|Ap (fun a F=>Adj (F.ev rfl) (F.ev rfl)) rfl<|Af rfl<|Aa<|C0<|Ad<|Ac<|Ae rfl<|B9 rfl rfl<|Af rfl<|Aa<|Ad<|fun a F=>?_
     exact ⟨_,by omega,i+1,IntKind.u64.wrap ((IntKind.u64.wrap (z * 10))+(IntKind.u64.wrap ((nb B2) - 48))),rfl,F.to ⟨rfl,rfl,rfl,trivial⟩,M,by omega,Aii hz hB2 (by omega) (by omega)⟩
 ·intro h9b
  have h9:=dF h9b
  refine B1<|Bx<|Bx<|Dj<|Ad<|Ab<|Ab<|Ac<|Ae rfl<|?_
  have hu10:(z:Int)=(((z).toNat:Nat):Int):=by omega
  intro a F
  rw [hu10] at F
  revert a
  refine Br Me rfl rfl (Ia (u:=(z).toNat) M (by omega))<|?_;clear M;rintro _ w M rfl
  refine Ae rfl<|Gw rfl rfl<|Aa<|Ad<|Av rfl ?_ ?_
  ·intro h11b
   have h11:=dF (Ag h11b)
   have h11c:(decide ((Lib.decDigits ((z).toNat))=s))=false:=(Ag h11b)
   refine Ab<|Ac<|Af rfl<|Af rfl<|Aa<|Ad<|Aj<|Aw<|Fx rfl rfl rfl<|?_
   exact ⟨M,0,false,rfl,by omega,fun m hm he=>absurd (show Lib.decDigits z.toNat=s by rw [Ade (X4 hz (by omega)) hm he];exact he.symm) (by assumption)⟩
  ·intro h12b
   have h12:=dT (Ah h12b)
   have h12c:(decide ((Lib.decDigits ((z).toNat))=s))=true:=(Ah h12b)
   refine Au<|Ad<|Ab<|Ac<|Ae rfl<|Af rfl<|Af rfl<|Aa<|Ad<|Aj<|Fx rfl rfl rfl<|?_
   exact ⟨M,z.toNat,true,by rw [Int.toNat_of_nonneg (by omega)];rfl,by omega,fun m hm he=>⟨rfl,Ade (X4 hz (by omega)) hm he⟩⟩
theorem Agy (M:Mem w0 G L w) {ad:Option Addr} {cd:Nat} {xs:List (List UInt8)} (S:Ay Dw 1 G (.slice ad xs.length cd) xs) (hN:xs.length≤140737488355328) (hlen:(Lib.join xs [44]).length≤140737488355328) :
  Calls Tryz.prog 97 #[.slice ad xs.length cd,.string (str [44])] w (Cl w0 G L fun v=>v=.string (str (Lib.join xs [44]))):=by
 by_cases h0:xs=[]
 ·subst h0
  refine (Any.strings_Join_none Tryz.lays156 Tryz.Builder_Extra_156 ad cd (str [44]) w).mono ?_
  rintro e w' ⟨rfl,rfl⟩
  exact ⟨M,rfl⟩
 ·obtain ⟨x0,hx0⟩:=Be (xs:=xs) (i:=0) (List.length_pos_iff.2 h0)
  obtain ⟨b,o,_,rfl,_,_,_,_⟩:=S.index hx0
  obtain ⟨_,_,he,hcap,_⟩:=S.shape
  simp only [Value.slice.injEq] at he
  obtain ⟨_,_,rfl⟩:=he
  have hcell:∀ (j:Nat) (x:List UInt8),xs[j]?=some x→w.cell? ⟨b,o+j,none⟩=some (.string (str x)):=by
   intro j x hx
   obtain ⟨b',o',cs,h1,_,_,hA,hr,_⟩:=S.index hx
   simp only [Option.some.injEq,Addr.mk.injEq,and_true] at h1
   obtain ⟨rfl,rfl⟩:=h1
   subst hr
   have:=hA 0 _ rfl
   rw [Nat.mul_one,Nat.add_zero] at this
   exact M.cell this
  have hm:(xs.map str).map (·.data.toList)=xs:=by
   rw [List.map_map]
   conv=>rhs;rw [← List.map_id xs]
   exact List.map_congr_left fun x _=>E1 x
  have:=Any.strings_Join Tryz.lays156 Tryz.Builder_Extra_156 b o cd (xs.map str) (str [44]) w (by
   intro j x hx
   rw [List.getElem?_map] at hx
   cases hq:xs[j]? with
   | none=>rw [hq] at hx;cases hx
   | some y=>rw [hq] at hx;simp only [Option.map_some,Option.some.injEq] at hx;subst hx;exact hcell j y hq)
   (World.block_lt_of_cell? _ _ (hcell 0 x0 hx0)) (by rw [List.length_map];exact hN) (by rw [List.length_map];exact hcap) (by rw [hm,E1];exact hlen)
  rw [List.length_map,hm,E1] at this
  refine this.mono ?_
  rintro e w' ⟨rfl,hb⟩
  exact ⟨M.below' hb,rfl⟩
theorem Kn {G:A4}:∀ (xs:List (List UInt8)),(∀ x∈xs,x.length≤9223372036854775807)→Els Dw 1 G (xs.map fun x=>Value.string (str x)) xs
 | [],_=>rfl
 | x::xs,h=>⟨[.string (str x)],_,rfl,rfl,⟨rfl,h x (by simp)⟩,Kn xs (fun y hy=>h y (by simp [hy]))⟩
theorem Yb (s:List UInt8):(Lib.splitB (str [44]) 0 (Lib.countB (str s) (str [44])) (str s)).map Value.string=(B0 s).map (fun x=>Value.string (str x)):=by
 have h:=Lib.splitB_data (str [44]) 0 (Lib.countB (str s) (str [44])) (str s)
 rw [E1,E1] at h
 have h2:Lib.countB (str s) (str [44])=Lib.count s [44]:=by
  show Lib.count (str s).data.toList (str [44]).data.toList=_
  rw [E1,E1]
 rw [h2] at h ⊢
 show _=(Lib.splitK [44] 0 (Lib.count s [44]) s).map _
 rw [← h,List.map_map]
 exact List.map_congr_left fun x _=>rfl
theorem Abc (M:Mem w0 G L w) (HG:Globs 0 1 2 3 G) {s:List UInt8} (hs:s.length < 4294967281) :
  Calls Tryz.prog 102 #[.string (str s),.string (str [44])] w (Ret w0 G L fun G' v=>∃ a:Option Addr,v=.slice a (B0 s).length (B0 s).length∧Ay Dw 1 G' (.slice a (B0 s).length (B0 s).length) (B0 s)):=by
 obtain ⟨m,hm⟩:=HG.max
 refine (Any.strings_Split Tryz.lays146 (by kernel_rfl) (str s) (str [44]) m w (by rw [Cp];exact hs) (M.cell hm) (by rw [Cp];decide)).mono ?_
 rintro e w' ⟨rfl,rfl⟩
 have hl:(B0 s).length=Lib.countB (str s) (str [44])+1:=by
  have h1:=Lib.splitB_all (str [44]) (by rw [Cp];decide) 0 _ (str s) rfl
  rw [← h1,← List.length_map (f:=Value.string),Yb,List.length_map]
 rw [Yb,← hl]
 have hcb:=Lib.countB_le (str [44]) (by rw [Cp];decide) (str s).size (str s) (Nat.le_refl _)
 rw [Cp] at hcb
 have hle:(B0 s).length≤4294967281:=by omega
 have M1:=M.newrow (t:=Tryz.lays146_ren.t 9) (sz:=1) (n:=(B0 s).length) (c:=(B0 s).length) (cs:=(B0 s).map fun x=>Value.string (str x)) (spare:=[])
  (by intro u hu;obtain ⟨x,_,rfl⟩:=List.mem_map.1 hu;rfl) (by simp) (by simp) (Nat.le_refl _) (by unfold maxLen;omega)
 rw [List.append_nil] at M1
 obtain ⟨_,G',a,c,hG,he,S,M2⟩:=M1.freeze_row Bn (k:=0) rfl (Kn (B0 s) (fun x hx=>by have:=Abe hx;omega)) (by decide)
 exact ⟨G',hG,M2,_,rfl,S⟩
open Go Go.Y Go.Proofs
variable {w0 w:World} {G:A4} {L:List Res}
set_option linter.unusedSimpArgs false
set_option linter.unusedVariables false
theorem Pw (M:Mem w0 G L w) (HG:Globs 0 1 2 3 G) {x:ItemD} {ma:Option Addr} {mc:Nat} (hI:(x.key < 18446744073709551616∧x.typ < 256∧x.text.length≤9223372036854775807)) (SM:Ay Dw 1 G (.slice ma x.marks.length mc) x.marks) (hok:ItemOk 8 x):Calls Tryz.prog 42 #[.agg #[.int .u64 ((x.key:Nat):Int),.int .u8 ((x.typ:Nat):Int),.string (str x.text),.slice ma x.marks.length mc]] w (Cl w0 G L fun v=>v=.string (str (Da x))):=by
 obtain ⟨hI1,hI2,hI3⟩:=id hI
 have hm8:=hok.2.2.2.1
 have hj:=K4 hm8 hok.2.2.2.2
 have htx:=hok.2.2.1.1
 have hdk:=Ev x.key hI1
 have hdt:=Ev x.typ (by omega)
 refine Az (vs:=[_]) Tryz.func42 rfl (n:=25) rfl rfl<|Ab<|Ac<|C4 M rfl rfl rfl<|?_;clear M;intro b1 w M
 refine Af rfl<|Aa<|Ad<|Ab<|Ac<|Bc A1.k rfl rfl<|Bl Cd M 0 rfl rfl rfl rfl<|Br ent97 rfl rfl (Agy (xs:=x.marks) M SM (by omega) (by omega))<|?_;clear M;rintro _ w M rfl
 refine Af rfl<|Aa<|Ad<|Ab<|Ab<|Ac<|Ae rfl<|F0 rfl rfl<|Aa<|Ad<|Av rfl ?_ ?_
 ·intro h2b
  have h2:=dT h2b
  refine Ac<|Af rfl<|Aa<|Ad<|Ab<|fun a F=>Fm [(.free,0),(.pure,1),(.free,4),(.pure,5),(.free,6),(.free,10),(.free,13),(.pure,14),(.keep,2),(.free,3),(.keep,7),(.free,8),(.free,9),(.free,11),(.free,12),(.free,15),(.free,16)] [] (Keep G [.blk b1 [.int .u64 ((x.key:Nat):Int),.int .u8 ((x.typ:Nat):Int),.string (str x.text),.slice ma x.marks.length mc] 26]) rfl (by kernel_rfl) (fun c a d v w h=>by cases d <;> exact h) ((M.drew _).keep (Gle.refl _) (by simp)) ?_
  replace M:=M.drew (w.drawn+1)
  revert a
  refine k_f (fun a F w _=>Co A1.k rfl F rfl) rfl<|k_p (fun a F w M=>Aq (agf Eh rfl) (F.ev rfl) (M.cellL (k:=0) rfl rfl)) rfl<|k_f (fun a F w _=>Co A1.k rfl F rfl) rfl<|k_p (fun a F w M=>Aq (agf Ew rfl) (F.ev rfl) (M.cellL (k:=0) rfl rfl)) rfl<|k_f (fun a F w _=>Dl B7.k ⟨_,by rw [C5 Ew.k]⟩ (F.ev rfl) (Cr (by omega) (by omega))) rfl<|k_f (fun a F w _=>Cj F rfl) rfl<|k_f (fun a F w _=>Co A1.k rfl F rfl) rfl<|k_p (fun a F w M=>Aq (agf Bq rfl) (F.ev rfl) (M.cellL (k:=0) rfl rfl)) rfl<|k_k rfl<|Br ent98 rfl rfl (Ael (u:=x.key) M HG (by omega))<|?_;clear M;rintro _ w M rfl
  refine Aa<|eK (C':=Keep G [.blk b1 [.int .u64 ((x.key:Nat):Int),.int .u8 ((x.typ:Nat):Int),.string (str x.text),.slice ma x.marks.length mc] 26]) (M.keep (Gle.refl _) (by simp)) (fun w h=>h.mono (Gle.refl _) (by simp))<|k_f (fun a F w _=>Bv (F.ev rfl) (F.ev rfl) (by (first | omega | (simp only [List.length_append,List.length_cons,List.length_nil];omega)))) rfl<|k_k rfl<|Br Aet rfl rfl (Vw (u:=x.typ) M HG (by omega))<|?_;clear M;rintro _ w M rfl
  refine Aa<|eK (C':=Keep G [.blk b1 [.int .u64 ((x.key:Nat):Int),.int .u8 ((x.typ:Nat):Int),.string (str x.text),.slice ma x.marks.length mc] 26]) (M.keep (Gle.refl _) (by simp)) (fun w h=>h.mono (Gle.refl _) (by simp))<|k_f (fun a F w _=>Bv (F.ev rfl) (F.ev rfl) (by (first | omega | (simp only [List.length_append,List.length_cons,List.length_nil];omega)))) rfl<|k_f (fun a F w _=>Bv (F.ev rfl) (F.ev rfl) (by (first | omega | (simp only [List.length_append,List.length_cons,List.length_nil];omega)))) rfl<|k_f (fun a F w _=>Bv (F.ev rfl) (F.ev rfl) (by (first | omega | (simp only [List.length_append,List.length_cons,List.length_nil];omega)))) rfl<|k_f (fun a F w _=>Bv (F.ev rfl) (F.ev rfl) (by (first | omega | (simp only [List.length_append,List.length_cons,List.length_nil];omega)))) rfl<|k_f (fun a F w _=>Bv (F.ev rfl) (F.ev rfl) (by (first | omega | (simp only [List.length_append,List.length_cons,List.length_nil];omega)))) rfl<|k_f (fun a F w _=>Gm F rfl) rfl<|D1<|Ad<|Aj<|Al rfl rfl<|?_
  exact ⟨M.weaken (.cons _ (sR _)),by first | rw [Vs (by assumption)] | rw [Vt (by assumption) hok]⟩
 ·intro h3b
  have h3:=dF h3b
  refine Au<|Ad<|Ab<|fun a F=>Fm [(.free,0),(.pure,1),(.free,4),(.pure,5),(.free,6),(.free,10),(.free,13),(.pure,14),(.keep,2),(.free,3),(.keep,7),(.free,8),(.free,9),(.free,11),(.free,12),(.free,15),(.free,16)] [] (Keep G [.blk b1 [.int .u64 ((x.key:Nat):Int),.int .u8 ((x.typ:Nat):Int),.string (str x.text),.slice ma x.marks.length mc] 26]) rfl (by kernel_rfl) (fun c a d v w h=>by cases d <;> exact h) ((M.drew _).keep (Gle.refl _) (by simp)) ?_
  replace M:=M.drew (w.drawn+1)
  revert a
  refine k_f (fun a F w _=>Co A1.k rfl F rfl) rfl<|k_p (fun a F w M=>Aq (agf Eh rfl) (F.ev rfl) (M.cellL (k:=0) rfl rfl)) rfl<|k_f (fun a F w _=>Co A1.k rfl F rfl) rfl<|k_p (fun a F w M=>Aq (agf Ew rfl) (F.ev rfl) (M.cellL (k:=0) rfl rfl)) rfl<|k_f (fun a F w _=>Dl B7.k ⟨_,by rw [C5 Ew.k]⟩ (F.ev rfl) (Cr (by omega) (by omega))) rfl<|k_f (fun a F w _=>Cj F rfl) rfl<|k_f (fun a F w _=>Co A1.k rfl F rfl) rfl<|k_p (fun a F w M=>Aq (agf Bq rfl) (F.ev rfl) (M.cellL (k:=0) rfl rfl)) rfl<|k_k rfl<|Br ent98 rfl rfl (Ael (u:=x.key) M HG (by omega))<|?_;clear M;rintro _ w M rfl
  refine Aa<|eK (C':=Keep G [.blk b1 [.int .u64 ((x.key:Nat):Int),.int .u8 ((x.typ:Nat):Int),.string (str x.text),.slice ma x.marks.length mc] 26]) (M.keep (Gle.refl _) (by simp)) (fun w h=>h.mono (Gle.refl _) (by simp))<|k_f (fun a F w _=>Bv (F.ev rfl) (F.ev rfl) (by (first | omega | (simp only [List.length_append,List.length_cons,List.length_nil];omega)))) rfl<|k_k rfl<|Br Aet rfl rfl (Vw (u:=x.typ) M HG (by omega))<|?_;clear M;rintro _ w M rfl
  refine Aa<|eK (C':=Keep G [.blk b1 [.int .u64 ((x.key:Nat):Int),.int .u8 ((x.typ:Nat):Int),.string (str x.text),.slice ma x.marks.length mc] 26]) (M.keep (Gle.refl _) (by simp)) (fun w h=>h.mono (Gle.refl _) (by simp))<|k_f (fun a F w _=>Bv (F.ev rfl) (F.ev rfl) (by (first | omega | (simp only [List.length_append,List.length_cons,List.length_nil];omega)))) rfl<|k_f (fun a F w _=>Bv (F.ev rfl) (F.ev rfl) (by (first | omega | (simp only [List.length_append,List.length_cons,List.length_nil];omega)))) rfl<|k_f (fun a F w _=>Bv (F.ev rfl) (F.ev rfl) (by (first | omega | (simp only [List.length_append,List.length_cons,List.length_nil];omega)))) rfl<|k_f (fun a F w _=>Bv (F.ev rfl) (F.ev rfl) (by (first | omega | (simp only [List.length_append,List.length_cons,List.length_nil];omega)))) rfl<|k_f (fun a F w _=>Bv (F.ev rfl) (F.ev rfl) (by (first | omega | (simp only [List.length_append,List.length_cons,List.length_nil];omega)))) rfl<|k_f (fun a F w _=>Gm F rfl) rfl<|D1<|Ad<|Aj<|Al rfl rfl<|?_
  exact ⟨M.weaken (.cons _ (sR _)),by first | rw [Vs (by assumption)] | rw [Vt (by assumption) hok]⟩
theorem R9 (M:Mem w0 G L w) {x:ItemD} {ma:Option Addr} {mc:Nat} (hI:(x.key < 18446744073709551616∧x.typ < 256∧x.text.length≤9223372036854775807)) (SM:Ay Dw 1 G (.slice ma x.marks.length mc) x.marks) (hok:ItemOk 8 x):Calls Tryz.prog 59 #[.agg #[.int .u64 ((x.key:Nat):Int),.int .u8 ((x.typ:Nat):Int),.string (str x.text),.slice ma x.marks.length mc]] w (Cl w0 G L fun v=>v=.string (str (Da x++[10]))):=by
 obtain ⟨hI1,hI2,hI3⟩:=id hI
 have hm8:=hok.2.2.2.1
 have hj:=K4 hm8 hok.2.2.2.2
 have htx:=hok.2.2.1.1
 have hdk:=Ev x.key hI1
 have hdt:=Ev x.typ (by omega)
 refine Az (vs:=[_]) Tryz.func59 rfl (n:=44) rfl rfl<|Ab<|Ac<|C4 M rfl rfl rfl<|?_;clear M;intro b1 w M
 refine Af rfl<|Aa<|Ad<|Ab<|Ac<|Af rfl<|Aa<|Ad<|Ab<|Ab<|Ac<|Af rfl<|Aa<|Ad<|A3<|fun a F=>B8 (fun m a' w'=>∃ (i:Nat),m=x.marks.length - i∧Fits 44 a' [(1,.pointer (some ⟨b1,0,none⟩)),(2,.string (str ([]:List UInt8))),(3,.string (str (Lib.join (x.marks.take i) [44]))),(4,.int .i64 ((i:Nat):Int))]∧Mem w0 G (.blk b1 [.int .u64 ((x.key:Nat):Int),.int .u8 ((x.typ:Nat):Int),.string (str x.text),.slice ma x.marks.length mc] 26::L) w'∧(i≤x.marks.length)) _ ⟨0,rfl,F.to ⟨rfl,rfl,rfl,rfl,trivial⟩,M,by omega⟩ ?_
 clear F M
 rintro m a w ⟨i,rfl,F,M,hi⟩
 revert a
 refine Ab<|Ab<|Ac<|Ae rfl<|Bc A1.k rfl rfl<|Bl Cd M 0 rfl rfl rfl rfl<|Cg Cd.k rfl<|Df rfl rfl<|Aa<|Ad<|Av rfl ?_ ?_
 ·intro h2b
  have h2:=dT h2b
  refine Au<|Ad<|Ab<|A3<|Ab<|Ab<|?_
  have hjt:=Px hok i
  have hjt2:=Px hok (i+1)
  refine Ac<|Ae rfl<|Dn rfl rfl<|Aa<|Ad<|Av rfl ?_ ?_
  ·intro h3b
   have h3:=dT h3b
   refine Ac<|Ae rfl<|Ap (fun a F=>Bv (F.ev rfl) (F.ev rfl) (by (first | omega | (simp only [List.length_append,List.length_cons,List.length_nil];omega)))) rfl<|Af rfl<|Aa<|Ad<|Ac<|Ae rfl<|Bc A1.k rfl rfl<|Bl Cd M 0 rfl rfl rfl rfl<|Ae rfl<|?_
   obtain ⟨Xe4,hXe4⟩:=Be (xs:=x.marks) (i:=i) (by omega)
   obtain ⟨be4,oe4,_,Ie4,_,Ae4,⟨rfl,hsle4⟩⟩:=SM.at hXe4
   refine Fp Cd.k Bq Ie4 rfl rfl<|D4 Bq M Ae4 0 rfl rfl (by omega) rfl<|?_
   have hmn:=(hok.2.2.2.2 Xe4 (List.mem_of_getElem? hXe4)).1.2
   refine Ap (fun a F=>Bv (F.ev rfl) (F.ev rfl) (by (first | omega | (simp only [List.length_append,List.length_cons,List.length_nil];omega)))) rfl<|Af rfl<|Aa<|C0<|Ad<|Ac<|Ae rfl<|B9 rfl rfl<|Af rfl<|Aa<|Ad<|fun a F=>?_
   rw [← Agz hXe4 (by omega)] at F
   exact ⟨_,by omega,i+1,rfl,F.to ⟨rfl,rfl,rfl,rfl,trivial⟩,M,by omega⟩
  ·intro h5b
   have h5:=dF h5b
   refine Au<|Ad<|Ac<|Ae rfl<|Bc A1.k rfl rfl<|Bl Cd M 0 rfl rfl rfl rfl<|Ae rfl<|?_
   obtain ⟨Xe6,hXe6⟩:=Be (xs:=x.marks) (i:=i) (by omega)
   obtain ⟨be6,oe6,_,Ie6,_,Ae6,⟨rfl,hsle6⟩⟩:=SM.at hXe6
   refine Fp Cd.k Bq Ie6 rfl rfl<|D4 Bq M Ae6 0 rfl rfl (by omega) rfl<|?_
   have hmn:=(hok.2.2.2.2 Xe6 (List.mem_of_getElem? hXe6)).1.2
   refine Ap (fun a F=>Bv (F.ev rfl) (F.ev rfl) (by (first | omega | (simp only [List.length_append,List.length_cons,List.length_nil];omega)))) rfl<|Af rfl<|Aa<|C0<|Ad<|Ac<|Ae rfl<|B9 rfl rfl<|Af rfl<|Aa<|Ad<|?_
   have hi0:i=0:=by omega
   have hq0:(Lib.join (x.marks.take i) [44])++Xe6=Lib.join (x.marks.take (i+1)) [44]:=by subst hi0;rw [Akp hXe6];rfl
   intro a F
   rw [hq0] at F
   exact ⟨_,by omega,i+1,rfl,F.to ⟨rfl,rfl,rfl,rfl,trivial⟩,M,by omega⟩
 ·intro h7b
  have h7:=dF h7b
  refine B1<|Bx<|Bx<|Dj<|Ad<|Ab<|Ab<|?_
  have hjt:=Px hok i
  refine Ac<|Bc A1.k rfl rfl<|Bl Cd M 0 rfl rfl rfl rfl<|Cg Cd.k rfl<|Dc rfl rfl<|Aa<|Ad<|Av rfl ?_ ?_
  ·intro h8b
   have h8:=dT h8b
   refine Ac<|Af rfl<|Aa<|Ad<|Ab<|fun a F=>Fm [(.free,0),(.pure,1),(.free,4),(.pure,5),(.free,6),(.free,10),(.free,13),(.pure,14),(.keep,2),(.free,3),(.keep,7),(.free,8),(.free,9),(.free,11),(.free,12),(.free,15),(.free,16),(.free,17)] [] (Keep G [.blk b1 [.int .u64 ((x.key:Nat):Int),.int .u8 ((x.typ:Nat):Int),.string (str x.text),.slice ma x.marks.length mc] 26]) rfl (by kernel_rfl) (fun c a d v w h=>by cases d <;> exact h) ((M.drew _).keep (Gle.refl _) (by simp)) ?_
   replace M:=M.drew (w.drawn+1)
   revert a
   refine k_f (fun a F w _=>Co A1.k rfl F rfl) rfl<|k_p (fun a F w M=>Aq (agf Eh rfl) (F.ev rfl) (M.cellL (k:=0) rfl rfl)) rfl<|k_f (fun a F w _=>Co A1.k rfl F rfl) rfl<|k_p (fun a F w M=>Aq (agf Ew rfl) (F.ev rfl) (M.cellL (k:=0) rfl rfl)) rfl<|k_f (fun a F w _=>Dl Eh.k ⟨_,by rw [C5 Ew.k]⟩ (F.ev rfl) (J5 (by omega) (by omega))) rfl<|k_f (fun a F w _=>Cj F rfl) rfl<|k_f (fun a F w _=>Co A1.k rfl F rfl) rfl<|k_p (fun a F w M=>Aq (agf Bq rfl) (F.ev rfl) (M.cellL (k:=0) rfl rfl)) rfl<|k_k rfl<|Br Me rfl rfl (Ia (u:=x.key) M (by (first | omega | assumption)))<|?_;clear M;rintro _ w M rfl
   refine Aa<|eK (C':=Keep G [.blk b1 [.int .u64 ((x.key:Nat):Int),.int .u8 ((x.typ:Nat):Int),.string (str x.text),.slice ma x.marks.length mc] 26]) (M.keep (Gle.refl _) (by simp)) (fun w h=>h.mono (Gle.refl _) (by simp))<|k_f (fun a F w _=>Bv (F.ev rfl) (F.ev rfl) (by (first | omega | (simp only [List.length_append,List.length_cons,List.length_nil];omega)))) rfl<|k_k rfl<|Br Me rfl rfl (Ia (u:=x.typ) M (by (first | omega | assumption)))<|?_;clear M;rintro _ w M rfl
   refine Aa<|eK (C':=Keep G [.blk b1 [.int .u64 ((x.key:Nat):Int),.int .u8 ((x.typ:Nat):Int),.string (str x.text),.slice ma x.marks.length mc] 26]) (M.keep (Gle.refl _) (by simp)) (fun w h=>h.mono (Gle.refl _) (by simp))<|k_f (fun a F w _=>Bv (F.ev rfl) (F.ev rfl) (by (first | omega | (simp only [List.length_append,List.length_cons,List.length_nil];omega)))) rfl<|k_f (fun a F w _=>Bv (F.ev rfl) (F.ev rfl) (by (first | omega | (simp only [List.length_append,List.length_cons,List.length_nil];omega)))) rfl<|k_f (fun a F w _=>Bv (F.ev rfl) (F.ev rfl) (by (first | omega | (simp only [List.length_append,List.length_cons,List.length_nil];omega)))) rfl<|k_f (fun a F w _=>Bv (F.ev rfl) (F.ev rfl) (by (first | omega | (simp only [List.length_append,List.length_cons,List.length_nil];omega)))) rfl<|k_f (fun a F w _=>Bv (F.ev rfl) (F.ev rfl) (by (first | omega | (simp only [List.length_append,List.length_cons,List.length_nil];omega)))) rfl<|k_f (fun a F w _=>Bv (F.ev rfl) (F.ev rfl) (by (first | omega | (simp only [List.length_append,List.length_cons,List.length_nil];omega)))) rfl<|k_f (fun a F w _=>Gm F rfl) rfl<|D1<|Ad<|Aj<|Al rfl rfl<|?_
   exact ⟨M.weaken (.cons _ (sR _)),by first | rw [Vr (by omega)] | rw [Vq (i:=i) (by omega) (by omega)]⟩
  ·intro h9b
   have h9:=dF h9b
   refine Au<|Ad<|Ab<|fun a F=>Fm [(.free,0),(.pure,1),(.free,4),(.pure,5),(.free,6),(.free,10),(.free,13),(.pure,14),(.keep,2),(.free,3),(.keep,7),(.free,8),(.free,9),(.free,11),(.free,12),(.free,15),(.free,16),(.free,17)] [] (Keep G [.blk b1 [.int .u64 ((x.key:Nat):Int),.int .u8 ((x.typ:Nat):Int),.string (str x.text),.slice ma x.marks.length mc] 26]) rfl (by kernel_rfl) (fun c a d v w h=>by cases d <;> exact h) ((M.drew _).keep (Gle.refl _) (by simp)) ?_
   replace M:=M.drew (w.drawn+1)
   revert a
   refine k_f (fun a F w _=>Co A1.k rfl F rfl) rfl<|k_p (fun a F w M=>Aq (agf Eh rfl) (F.ev rfl) (M.cellL (k:=0) rfl rfl)) rfl<|k_f (fun a F w _=>Co A1.k rfl F rfl) rfl<|k_p (fun a F w M=>Aq (agf Ew rfl) (F.ev rfl) (M.cellL (k:=0) rfl rfl)) rfl<|k_f (fun a F w _=>Dl Eh.k ⟨_,by rw [C5 Ew.k]⟩ (F.ev rfl) (J5 (by omega) (by omega))) rfl<|k_f (fun a F w _=>Cj F rfl) rfl<|k_f (fun a F w _=>Co A1.k rfl F rfl) rfl<|k_p (fun a F w M=>Aq (agf Bq rfl) (F.ev rfl) (M.cellL (k:=0) rfl rfl)) rfl<|k_k rfl<|Br Me rfl rfl (Ia (u:=x.key) M (by (first | omega | assumption)))<|?_;clear M;rintro _ w M rfl
   refine Aa<|eK (C':=Keep G [.blk b1 [.int .u64 ((x.key:Nat):Int),.int .u8 ((x.typ:Nat):Int),.string (str x.text),.slice ma x.marks.length mc] 26]) (M.keep (Gle.refl _) (by simp)) (fun w h=>h.mono (Gle.refl _) (by simp))<|k_f (fun a F w _=>Bv (F.ev rfl) (F.ev rfl) (by (first | omega | (simp only [List.length_append,List.length_cons,List.length_nil];omega)))) rfl<|k_k rfl<|Br Me rfl rfl (Ia (u:=x.typ) M (by (first | omega | assumption)))<|?_;clear M;rintro _ w M rfl
   refine Aa<|eK (C':=Keep G [.blk b1 [.int .u64 ((x.key:Nat):Int),.int .u8 ((x.typ:Nat):Int),.string (str x.text),.slice ma x.marks.length mc] 26]) (M.keep (Gle.refl _) (by simp)) (fun w h=>h.mono (Gle.refl _) (by simp))<|k_f (fun a F w _=>Bv (F.ev rfl) (F.ev rfl) (by (first | omega | (simp only [List.length_append,List.length_cons,List.length_nil];omega)))) rfl<|k_f (fun a F w _=>Bv (F.ev rfl) (F.ev rfl) (by (first | omega | (simp only [List.length_append,List.length_cons,List.length_nil];omega)))) rfl<|k_f (fun a F w _=>Bv (F.ev rfl) (F.ev rfl) (by (first | omega | (simp only [List.length_append,List.length_cons,List.length_nil];omega)))) rfl<|k_f (fun a F w _=>Bv (F.ev rfl) (F.ev rfl) (by (first | omega | (simp only [List.length_append,List.length_cons,List.length_nil];omega)))) rfl<|k_f (fun a F w _=>Bv (F.ev rfl) (F.ev rfl) (by (first | omega | (simp only [List.length_append,List.length_cons,List.length_nil];omega)))) rfl<|k_f (fun a F w _=>Bv (F.ev rfl) (F.ev rfl) (by (first | omega | (simp only [List.length_append,List.length_cons,List.length_nil];omega)))) rfl<|k_f (fun a F w _=>Gm F rfl) rfl<|D1<|Ad<|Aj<|Al rfl rfl<|?_
   exact ⟨M.weaken (.cons _ (sR _)),by first | rw [Vr (by omega)] | rw [Vq (i:=i) (by omega) (by omega)]⟩
theorem Afg (M:Mem w0 G L w) (HG:Globs 0 1 2 3 G) {a1:Option Addr} {c1:Nat} {xs:List ItemD} (S:Ay Cn 4 G (.slice a1 xs.length c1) xs) :
  Calls Tryz.prog 11 #[.slice a1 xs.length c1] w (Cl w0 G L fun v=>v=.tuple #[.string (str (Le xs)),.int .i64 (Jr xs)]):=by
 have bS:=S.bound
 refine Az (vs:=[_]) Tryz.func11 rfl (n:=28) rfl rfl<|Ab<|Ac<|Af rfl<|Af rfl<|Aa<|Ad<|Ab<|Ab<|Ac<|Ae rfl<|Cg B5.k rfl<|Dn rfl rfl<|Aa<|Ad<|Av rfl ?_ ?_
 ·intro h1b
  have h1:=dT h1b
  refine Ab<|Ac<|Af rfl<|Af rfl<|Aa<|Ad<|Aj<|Aw<|Fx rfl rfl rfl<|?_
  exact ⟨M,by rw [(Ro (by omega)).1,(Ro (by omega)).2];rfl⟩
 ·intro h2b
  have h2:=dF h2b
  refine Au<|Ad<|Ab<|Ac<|Cz M Gz rfl rfl<|?_;clear M;intro b3 w M
  refine Aa<|Ad<|Ab<|Ab<|?_
  change Mem w0 G (_::L) _ at M
  have M:=(M.nilrow 5 1).perm (List.Perm.swap _ _ _)
  intro a F
  rw [show ([]:List Value)=bc [] from rfl] at M
  revert a
  refine Ac<|Ae rfl<|Cg B5.k rfl<|Ae rfl<|Aa<|Ad<|A3<|fun a F=>B8 (fun m a' w'=>∃ (i:Nat),∃ (am:Option Addr),∃ (nm:Nat),∃ (cm:Nat),∃ (pm:Value),m=xs.length - i∧Fits 28 a' [(0,.slice a1 xs.length c1),(4,.pointer (some ⟨b3,0,none⟩)),(11,.slice a1 xs.length c1),(12,.int .i64 ((xs.length:Nat):Int)),(13,.int .i64 ((i:Nat):Int))]∧Mem w0 G (.blk b3 [pm,.slice am nm cm] 101::.row (.slice am nm cm) (nm) (bc (C1 (xs.take i))) 5 1::L) w'∧(i≤xs.length)∧((C1 (xs.take i)).length≤301 * i)∧(∀ (m:Nat) (x:ItemD),m < i→xs[m]?=some x→ItemOk 8 x)∧(pm=.pointer none∨pm=.pointer (some ⟨b3,0,none⟩))∧(nm=(C1 (xs.take i)).length)∧((C1 (xs.take i))=[]→am=none)) _ ⟨0,(none),(0),(0),(.pointer none),rfl,F.to ⟨rfl,rfl,rfl,rfl,rfl,trivial⟩,M,Nat.zero_le _,by simp [C1],fun m x h=>by omega,(Or.inl rfl),rfl,(fun _=>rfl)⟩ ?_
  clear F M
  rintro m a w ⟨i,am,nm,cm,pm,rfl,F,M,hi,hlen,hA,hpm,hnm,hnilm⟩
  revert a
  refine Ab<|Ac<|Df rfl rfl<|Aa<|Ad<|Ab<|Av rfl ?_ ?_
  ·intro h5b
   have h5:=dT h5b
   refine Au<|Ad<|Ab<|A3<|Ab<|Ac<|?_
   obtain ⟨Xe6,hXe6⟩:=Be (xs:=xs) (i:=i) (by omega)
   obtain ⟨be6,oe6,_,Ie6,_,Ae6,hTe6⟩:=S.at hXe6
   obtain ⟨mae6,mce6,rfl,hke6,hte6,hxe6,hne6,SMe6⟩:=hTe6
   have hIe6:(Xe6.key < 18446744073709551616∧Xe6.typ < 256∧Xe6.text.length≤9223372036854775807):=⟨hke6,hte6,hxe6⟩
   refine Fp B5.k A1 Ie6 rfl rfl<|Ap (fun a F=>Am A1 rfl (F.ev rfl) (cs:=[.int .u64 ((Xe6.key:Nat):Int),.int .u8 ((Xe6.typ:Nat):Int),.string (str Xe6.text),.slice mae6 Xe6.marks.length mce6]) rfl (M.cellsA Ae6 0 (by omega) rfl)) rfl<|Cz M A1 rfl rfl<|?_;clear M;intro b7 w M
   intro a F
   refine Ar F M A1 (k:=0) rfl rfl rfl (us:=[.int .u64 ((Xe6.key:Nat):Int),.int .u8 ((Xe6.typ:Nat):Int),.string (str Xe6.text),.slice mae6 Xe6.marks.length mce6]) rfl rfl (by simp [Value.oneCell']) (by simp) ?_;clear F M a;intro w a M F
   change Mem w0 G (.blk b7 [.int .u64 ((Xe6.key:Nat):Int),.int .u8 ((Xe6.typ:Nat):Int),.string (str Xe6.text),.slice mae6 Xe6.marks.length mce6] 26::_::_::L) _ at M
   revert a
   refine Aa<|Ad<|Ab<|Ab<|Ac<|Ap (fun a F=>Am A1 rfl (F.ev rfl) (cs:=[.int .u64 ((Xe6.key:Nat):Int),.int .u8 ((Xe6.typ:Nat):Int),.string (str Xe6.text),.slice mae6 Xe6.marks.length mce6]) rfl (M.cellsL (k:=0) rfl rfl)) rfl<|Br Zz rfl rfl (Jn (x:=Xe6) (t:=8) M hIe6 SMe6)<|?_;clear M;rintro _ w M rfl
   refine Af rfl<|Aa<|Ad<|Ab<|Ac<|Ae rfl<|D9 rfl rfl<|Aa<|Ad<|Av rfl ?_ ?_
   ·intro h9b
    have h9:=dF (Ag h9b)
    refine Ab<|Ac<|Ae rfl<|Af rfl<|Af rfl<|Aa<|Ad<|Aj<|Aw<|Bo<|Aw<|Aw<|Bo<|Aw<|Fx rfl rfl rfl<|?_
    exact ⟨(M.weaken (.cons _ (.cons _ (.cons _ (sR _))))),by rw [(Rp (by omega) (Kp.no hXe6 (fun h_=>by have:=Dp h_;omega))).1,(Rp (by omega) (Kp.no hXe6 (fun h_=>by have:=Dp h_;omega))).2,Fv (fun h_=>by have:=Dp h_;omega)];rfl⟩
   ·intro h10b
    have h10:=dT (Ah h10b)
    refine Au<|Ad<|?_
    have hokX:ItemOk 8 Xe6:=Dy.1 (by omega)
    refine Ac<|Ap (fun a F=>Am A1 rfl (F.ev rfl) (cs:=[.int .u64 ((Xe6.key:Nat):Int),.int .u8 ((Xe6.typ:Nat):Int),.string (str Xe6.text),.slice mae6 Xe6.marks.length mce6]) rfl (M.cellsL (k:=0) rfl rfl)) rfl<|Br Aln rfl rfl (Pw (x:=Xe6) M HG hIe6 SMe6 hokX)<|?_;clear M;rintro _ w M rfl
    have hlll11:=Kj (x:=Xe6) hokX hIe6.1 hIe6.2.1
    refine Ap (fun a F=>Bv (F.ev rfl) (F.ev rfl) (by (first | omega | (simp only [List.length_append,List.length_cons,List.length_nil];omega)))) rfl<|?_
    replace M:=M.perm (Ao _ 2 _ rfl)
    replace M:=M.perm (Ao _ 2 _ rfl)
    change Mem w0 G (_::_::.blk b7 [.int .u64 ((Xe6.key:Nat):Int),.int .u8 ((Xe6.typ:Nat):Int),.string (str Xe6.text),.slice mae6 Xe6.marks.length mce6] 26::L) _ at M
    refine Pi Aeu rfl rfl (Ml (s:=((Da Xe6)++([10]:List UInt8))) hpm M hnm hnilm (by (first | omega | (simp only [List.length_append,List.length_cons,List.length_nil];omega))))<|?_;clear M;rintro _ _ w M ⟨rfl,au12,nu12,cu12,rfl,hnu12,hnilu12⟩
    refine Aa<|C0<|Ad<|Ac<|B9 rfl rfl<|Ae rfl<|Aa<|Ad<|?_
    have hsn:(C1 (xs.take i))++((Da Xe6)++([10]:List UInt8))=C1 (xs.take (i+1)):=by rw [Aaw hXe6]
    intro a F
    rw [hsn] at M hnu12 hnilu12
    exact ⟨_,by omega,i+1,(au12),(nu12),(cu12),(.pointer (some ⟨b3,0,none⟩)),rfl,F.to ⟨rfl,rfl,rfl,rfl,rfl,trivial⟩,(M.weaken (.cons_cons _ (.cons_cons _ (.cons _ (sR _))))),by omega,by rw [← hsn];simp only [List.length_append,List.length_cons,List.length_nil];omega,Fl hA hXe6 hokX,(Or.inr rfl),hnu12,hnilu12⟩
  ·intro h13b
   have h13:=dF h13b
   refine B1<|Bx<|Bx<|Dj<|Ad<|Ab<|Ac<|?_
   replace M:=M.perm (Ao _ 1 _ rfl)
   replace M:=M.perm (Ao _ 1 _ rfl)
   change Mem w0 G (_::_::L) _ at M
   refine Br ent43 rfl rfl (Wb M hnm hnilm)<|?_;clear M;rintro _ w M rfl
   refine Af rfl<|Af rfl<|Aa<|Ad<|Aj<|Fx rfl rfl rfl<|?_
   exact ⟨M,by rw [(Q4 (by omega) (E6 hA (by omega))).1,(Q4 (by omega) (E6 hA (by omega))).2,List.take_of_length_le (by omega)]⟩
end Go.Proofs.YtmmhmcplegpenaaGreatDoor
