/- The walks, part TJ. · The walks, part TK. · The walks, part TL. · The walks, part TM. · Items: names, texts, the item as it is read; which items are valid. · Lists: rules, entries, what is valid, totals, the errors. -/
import Derived.Test.YtmmhmcplegpenaaGreatDoorJ3
import Derived.Test.YtmmhmcplegpenaaGreatDoorYC
import Derived.Laws.RangeAny
import Derived.Laws.RangeString
import Derived.Shelf.GgClosure.StringsIndexFunc
namespace Go.Proofs.YtmmhmcplegpenaaGreatDoor.T
open Go Go.Y Go.Proofs
variable {w0 w:World} {G:A4} {L:List Res}
set_option linter.unusedSimpArgs false
set_option linter.unusedVariables false
/-- The cells of a node without spare capacity anywhere. -/
def Ui:Nat→Rd NT
 | 0=>fun _ _ _=>False
 | d+1=>fun G cs x=>∃ a1 a2,cs=[.int .u8 x.kind,.string (str x.tag),.string (str x.key),.slice a1 x.as.length x.as.length,.string (str x.text),.slice a2 x.kids.length x.kids.length] ∧
   A2 .u8 x.kind∧(x.tag.length≤9223372036854775807∧x.key.length≤9223372036854775807∧x.text.length≤9223372036854775807) ∧
   Ay Fk 2 G (.slice a1 x.as.length x.as.length) x.as∧Ay (Ui d) 6 G (.slice a2 x.kids.length x.kids.length) x.kids
def Jo:Rd NT:=fun G cs x=>∃ d,Ui d G cs x
theorem Adl:∀ {d:Nat} {G:A4} {cs:List Value} {x:NT},Ui d G cs x→Ui (d+1) G cs x
 | 0,_,_,_,h=>h.elim
 | d+1,G,cs,x,⟨a1,a2,h1,h2,h3,h4,h5⟩=>⟨a1,a2,h1,h2,h3,h4,h5.imp fun _ _ h=>Adl h⟩
theorem Adm {d e:Nat} {G:A4} {cs:List Value} {x:NT} (h:Ui d G cs x) (hd:d≤e):Ui e G cs x:=by
 induction hd with
 | refl=>exact h
 | step _ ih=>exact Adl ih
theorem Vm:∀ d:Nat,I9 (Ui d)
 | 0=>fun _ _ _ _ _ h=>h
 | d+1=>fun G G' cs x hg ⟨a1,a2,h1,h2,h3,h4,h5⟩=>⟨a1,a2,h1,h2,h3,h4.mono Jy hg,h5.mono (Vm d) hg⟩
theorem Gr:I9 (Jo):=fun G G' cs x hg ⟨d,h⟩=>⟨d,Vm d G G' cs x hg h⟩
theorem Afx {G : A4} {cs : List Value} {x : NT} (h : Jo G cs x) : ∃ a1 a2, cs = [.int .u8 x.kind, .string (str x.tag), .string (str x.key), .slice a1 x.as.length x.as.length, .string (str x.text), .slice a2 x.kids.length x.kids.length] ∧
      A2 .u8 x.kind∧(x.tag.length≤9223372036854775807∧x.key.length≤9223372036854775807∧x.text.length≤9223372036854775807) ∧
      Ay Fk 2 G (.slice a1 x.as.length x.as.length) x.as∧Ay (Jo) 6 G (.slice a2 x.kids.length x.kids.length) x.kids:=by
  obtain ⟨d,h⟩:=h
  cases d with
  | zero=>exact h.elim
  | succ d =>
    obtain ⟨a1,a2,h1,h2,h3,h4,h5⟩:=h
    exact ⟨a1,a2,h1,h2,h3,h4,h5.imp fun _ _ h=>⟨d,h⟩⟩
theorem Abr {G:A4} {v:Value} {xs:List NT} (S:Ay (Jo) 6 G v xs):∃ d,Ay (Ui d) 6 G v xs:=by
 obtain ⟨a,c,h1,h2,h3,h4⟩:=S
 rcases h4 with h4 | ⟨b,o,h5,h6⟩
 ·exact ⟨0,a,c,h1,h2,h3,Or.inl h4⟩
 ·have key:∀ n,∃ d,∀ i x,i < n→xs[i]?=some x→∃ cs:List Value,cs.length=6∧(∀ u∈cs,u.oneCell' = true)∧At G b (o+i * 6) cs∧Ui d G cs x:=by
   intro n
   induction n with
   | zero=>exact ⟨0,fun i x h=>by omega⟩
   | succ n ih =>
    obtain ⟨d,hd⟩:=ih
    cases hx:xs[n]? with
    | none =>
     refine ⟨d,fun i x hi hi2=>?_⟩
     rcases Nat.lt_or_ge i n with h | h
     ·exact hd i x h hi2
     ·have:i=n:=by omega
      subst this;rw [hx] at hi2;cases hi2
    | some y =>
     obtain ⟨cs,q1,q2,q3,e,q4⟩:=h6 n y hx
     refine ⟨max d e,fun i x hi hi2=>?_⟩
     rcases Nat.lt_or_ge i n with h | h
     ·obtain ⟨cs',r1,r2,r3,r4⟩:=hd i x h hi2
      exact ⟨cs',r1,r2,r3,Adm r4 (by omega)⟩
     ·have:i=n:=by omega
      subst this
      rw [hx] at hi2
      simp only [Option.some.injEq] at hi2
      subst hi2
      exact ⟨cs,q1,q2,q3,Adm q4 (by omega)⟩
  obtain ⟨d,hd⟩:=key xs.length
  refine ⟨d,a,c,h1,h2,h3,Or.inr ⟨b,o,h5,fun i x hx=>hd i x ?_ hx⟩⟩
  rcases Nat.lt_or_ge i xs.length with h | h
  ·exact h
  ·rw [List.getElem?_eq_none h] at hx;cases hx
theorem Ib {G:A4} {a1 a2:Option Addr} {x:NT} (h2:A2 .u8 x.kind) (h3:x.tag.length≤9223372036854775807∧x.key.length≤9223372036854775807∧x.text.length≤9223372036854775807)
  (h4:Ay Fk 2 G (.slice a1 x.as.length x.as.length) x.as) (h5:Ay (Jo) 6 G (.slice a2 x.kids.length x.kids.length) x.kids) :
  Jo G [.int .u8 x.kind,.string (str x.tag),.string (str x.key),.slice a1 x.as.length x.as.length,.string (str x.text),.slice a2 x.kids.length x.kids.length] x:=by
 obtain ⟨d,h5⟩:=Abr h5
 exact ⟨d+1,a1,a2,rfl,h2,h3,h4,h5⟩
theorem U9:∀ {d:Nat} {G:A4} {cs:List Value} {x:NT},Ui d G cs x→Uj Fk 2 d G cs x
 | 0,_,_,_,h=>h.elim
 | d+1,_,_,_,⟨a1,a2,h1,h2,h3,h4,h5⟩=>⟨a1,_,a2,_,h1,h2,h3,h4,h5.imp fun _ _ h=>U9 h⟩
theorem weakN {G:A4} {v:Value} {xs:List NT} (h:Ay Jo 6 G v xs):Ay rdN 6 G v xs:=h.imp fun _ _ ⟨d,h⟩=>⟨d,U9 h⟩
theorem Zi (M:Mem w0 G L w) {x:ItemD} {ma:Option Addr} {mc:Nat} (ht:x.text.length≤9223372036854775807) (SM:Ay Dw 1 G (.slice ma x.marks.length mc) x.marks) (hik:A2 .u64 x.key) {ad:Option Addr} {cd:Nat} {xs:List SlotD} (S:Ay rdSlot 3 G (.slice ad xs.length cd) xs) (hxs:xs.length≤8) (hsrc:∀ s∈xs,s.src≤3):Calls Tryz.prog 230 #[.agg #[.int .u64 x.key,.int .u8 x.typ,.string (str x.text),.slice ma x.marks.length mc],.slice ad xs.length cd] w (Ret w0 G L fun G' v=>∃ a',v=.slice a' ((xs).map (Dt x)).length ((xs).map (Dt x)).length∧Ay Fk 2 G' (.slice a' ((xs).map (Dt x)).length ((xs).map (Dt x)).length) ((xs).map (Dt x))):=by
 refine Az (vs:=[_,_]) Tryz.func230 rfl (n:=45) rfl rfl<|Ab<|Ac<|C4 M rfl rfl rfl<|?_;clear M;intro b1 w M
 refine Af rfl<|Aa<|Ad<|Ab<|Ac<|Ae rfl<|Cg Fz.k rfl<|fun a F=>?_
 refine Oo (rd:=Fk) (Z:=⟨[],[]⟩) F M Ee.k Fq rfl (by decide) rfl rfl (l:=xs.length) (by omega) rfl (by omega) (by show 32 * _≤_;omega) (by omega) (by simp [ti282,Value.cells,Value.oneCell']) (⟨rfl,Nat.zero_le _,Nat.zero_le _⟩) rfl ?_;clear F M a;intro bv2 csv2 w a M Ev2 F
 revert a
 refine Af rfl<|Aa<|Ad<|Ab<|Ab<|?_
 have bM:=SM.bound
 have hik':0≤x.key∧x.key≤18446744073709551615:=hik
 refine Ac<|Ae rfl<|Cg Fz.k rfl<|Ae rfl<|Aa<|Ad<|A3<|fun a F=>B8 (fun m a' w'=>∃ (i:Nat),∃ (cso:List Value),∃ (ys:List AttrD),m=xs.length - i∧Fits 45 a' [(1,.slice ad xs.length cd),(2,.pointer (some ⟨b1,0,none⟩)),(5,.slice (some ⟨bv2,0,none⟩) (xs.length) (xs.length)),(11,.slice ad xs.length cd),(12,.int .i64 ((xs.length:Nat):Int)),(13,.int .i64 ((i:Nat):Int))]∧Mem w0 G (.row (.slice (some ⟨bv2,0,none⟩) (xs.length) (xs.length)) (xs.length) (cso) 282 2::.blk b1 [.int .u64 x.key,.int .u8 x.typ,.string (str x.text),.slice ma x.marks.length mc] 262::L) w'∧(i≤xs.length)∧(ys=(xs.take i).map (Dt x)++List.replicate (xs.length - i) ⟨[],[]⟩)∧(Els Fk 2 G cso ys)) _ ⟨0,csv2,_,rfl,F.to ⟨rfl,rfl,rfl,rfl,rfl,rfl,trivial⟩,M,Nat.zero_le _,by simp,Ev2⟩ ?_
 clear F M
 rintro m a w ⟨i,cso,ys,rfl,F,M,hi,hys,Eo⟩
 revert a
 refine Ab<|Ac<|Df rfl rfl<|Aa<|Ad<|Ab<|Av rfl ?_ ?_
 ·intro h3b
  have h3:=dT h3b
  refine Au<|Ad<|Ab<|A3<|Ab<|Ac<|Ae rfl<|?_
  obtain ⟨Xe4,hXe4⟩:=Be (xs:=xs) (i:=i) (by omega)
  obtain ⟨be4,oe4,_,Ie4,_,Ae4,⟨rfl,hn1e4,hk1e4,hv1e4⟩⟩:=S.at hXe4
  refine Fp Fz.k Fr Ie4 rfl rfl<|Ap (fun a F=>Am Fr rfl (F.ev rfl) (cs:=[.string (str Xe4.n),.int .u8 Xe4.src,.string (str Xe4.v)]) rfl (M.cellsA Ae4 0 (by omega) rfl)) rfl<|Cz M Fr rfl rfl<|?_;clear M;intro b5 w M
  refine Af rfl<|fun a F=>?_
  refine Ar F M Fr (k:=0) rfl rfl rfl (us:=[.string (str Xe4.n),.int .u8 Xe4.src,.string (str Xe4.v)]) rfl rfl (by simp [Value.oneCell']) (by simp) ?_;clear F M a;intro w a M F
  change Mem w0 G (.blk b5 [.string (str Xe4.n),.int .u8 Xe4.src,.string (str Xe4.v)] 189::_::_::L) _ at M
  revert a
  refine Aa<|Ad<|?_
  have hyl:ys.length=xs.length:=by rw [hys];simp;omega
  intro a F
  refine Fm [(.free,0),(.free,1),(.free,2),(.pure,3),(.free,4),(.pure,5),(.free,6),(.free,7),(.pure,8),(.free,9),(.free,10),(.pure,11),(.free,13),(.free,14),(.pure,15),(.pure,16),(.free,17),(.free,20),(.pure,21),(.keep,12),(.keep,18),(.free,19),(.free,22),(.free,23),(.free,24),(.keep,25)] [] (Keep G [.blk b5 [.string (str Xe4.n),.int .u8 Xe4.src,.string (str Xe4.v)] 189,.blk b1 [.int .u64 x.key,.int .u8 x.typ,.string (str x.text),.slice ma x.marks.length mc] 262]) rfl (by kernel_rfl) (fun c a d v w h=>by cases d <;> exact h) ((M.drew _).keep (Gle.refl _) (by simp)) ?_
  replace M:=M.drew (w.drawn+1)
  revert a
  refine k_f (fun a F w _=>Cj F rfl) rfl<|k_f (fun a F w _=>Cj F rfl) rfl<|k_f (fun a F w _=>Co Fr.k rfl F rfl) rfl<|k_p (fun a F w M=>Aq (agf Bq rfl) (F.ev rfl) (M.cellL (k:=0) rfl rfl)) rfl<|k_f (fun a F w _=>Co Fr.k rfl F rfl) rfl<|k_p (fun a F w M=>Aq (agf Bq rfl) (F.ev rfl) (M.cellL (k:=0) rfl rfl)) rfl<|k_f (fun a F w _=>Co Iy.k rfl F rfl) rfl<|k_f (fun a F w _=>Co A1.k rfl F rfl) rfl<|k_p (fun a F w M=>Aq (agf Bq rfl) (F.ev rfl) (M.cellL (k:=1) rfl rfl)) rfl<|k_f (fun a F w _=>Co Iy.k rfl F rfl) rfl<|k_f (fun a F w _=>Co A1.k rfl F rfl) rfl<|k_p (fun a F w M=>Aq (agf Eh rfl) (F.ev rfl) (M.cellL (k:=1) rfl rfl)) rfl<|k_f (fun a F w _=>Co Iy.k rfl F rfl) rfl<|k_f (fun a F w _=>Co A1.k rfl F rfl) rfl<|k_p (fun a F w M=>Aq (agf Cd rfl) (F.ev rfl) (M.cellL (k:=1) rfl rfl)) rfl<|k_p (fun a F w M=>Dx Cd.k (F.ev rfl)) rfl<|k_f (fun a F w _=>Dl Eh.k ⟨_,by rw [C5 B7.k]⟩ (F.ev rfl) (J5 (by omega) (by omega))) rfl<|k_f (fun a F w _=>Co Fr.k rfl F rfl) rfl<|k_p (fun a F w M=>Aq (agf Ew rfl) (F.ev rfl) (M.cellL (k:=0) rfl rfl)) rfl<|k_k rfl<|?_
  have hu7:(x.key:Int)=(((x.key).toNat:Nat):Int):=by omega
  intro a F
  rw [hu7] at F
  revert a
  refine Br Acr rfl rfl (P7 (u:=(x.key).toNat) M (by omega))<|?_;clear M;rintro _ w M rfl
  refine Aa<|eK (C':=Keep G [.blk b5 [.string (str Xe4.n),.int .u8 Xe4.src,.string (str Xe4.v)] 189,.blk b1 [.int .u64 x.key,.int .u8 x.typ,.string (str x.text),.slice ma x.marks.length mc] 262]) (M.keep (Gle.refl _) (by simp)) (fun w h=>h.mono (Gle.refl _) (by simp))<|k_k rfl<|Br Acr rfl rfl (P7 (u:=x.marks.length) M (by omega))<|?_;clear M;rintro _ w M rfl
  refine Aa<|eK (C':=Keep G [.blk b5 [.string (str Xe4.n),.int .u8 Xe4.src,.string (str Xe4.v)] 189,.blk b1 [.int .u64 x.key,.int .u8 x.typ,.string (str x.text),.slice ma x.marks.length mc] 262]) (M.keep (Gle.refl _) (by simp)) (fun w h=>h.mono (Gle.refl _) (by simp))<|k_f (fun a F w _=>F7 F (ps:=[(0,.string (str Xe4.v)),(1,.string (str x.text)),(2,.string (str (Lib.decDigits ((x.key).toNat)))),(3,.string (str (Lib.decDigits x.marks.length)))]) (cs:=[.string (str Xe4.v),.string (str x.text),.string (str (Lib.decDigits ((x.key).toNat))),.string (str (Lib.decDigits x.marks.length))]) Aaq.k Aaq Bq rfl rfl) rfl<|?_
  have hsr:=hsrc Xe4 (List.mem_of_getElem? hXe4)
  have hu4:=Rl hk1e4
  refine k_f (fun a F w _=>R4 (j:=Xe4.src.toNat) (v:=.string (str (Pc x Xe4))) Aaq.k Bq rfl rfl (F.ev rfl) (F.ev rfl) (by omega) (by omega) (pick4 hu4.1 hsr)) rfl<|k_f (fun a F w _=>Ba (cs:=[.string (str Xe4.n),.string (str (Pc x Xe4))]) (ps:=[(0,.string (str Xe4.n)),(1,.string (str (Pc x Xe4)))]) Fq.k rfl Fq (F.evp rfl) rfl) rfl<|?_
  obtain ⟨Xe8,hXe8⟩:=Be (xs:=ys) (i:=i) (by omega)
  obtain ⟨be8,_,Ie8,hme8,_,Ae8,⟨rfl,hn1e8,hv1e8⟩⟩:=M.atRow (k:=1) rfl (by decide) Eo hXe8
  refine k_f (fun a F w _=>Ca Ee.k Fq (F.ev rfl) (F.ev rfl) (by omega) Ie8) rfl<|k_k rfl<|fun a F=>?_
  refine Nv F M Fq (k:=1) rfl rfl Eo Ie8 (Bj hXe8) rfl rfl (us:=[.string (str Xe4.n),.string (str (Pc x Xe4))]) rfl rfl (by simp [Value.oneCell']) (X':=Dt x Xe4) (⟨rfl,hn1e4,Ahx ht hik (by have:=SM.bound;omega) Xe4 hv1e4⟩) ?_;clear F M a;intro csu9 w a M Eu9 F
  revert a
  refine Aa<|eK (C':=Keep G [.blk b5 [.string (str Xe4.n),.int .u8 Xe4.src,.string (str Xe4.v)] 189,.blk b1 [.int .u64 x.key,.int .u8 x.typ,.string (str x.text),.slice ma x.marks.length mc] 262]) (M.keep (Gle.refl _) (by simp)) (fun w h=>h.mono (Gle.refl _) (by simp))<|D1<|C0<|Ad<|Ac<|B9 rfl rfl<|Ae rfl<|Aa<|Ad<|fun a F=>?_
  exact ⟨_,by omega,i+1,csu9,_,rfl,F.to ⟨rfl,rfl,rfl,rfl,rfl,rfl,trivial⟩,(M.weaken (.cons _ (.cons_cons _ (.cons_cons _ (sR _))))),by omega,by rw [hys];exact Adc hXe4,Eu9⟩
 ·intro h10b
  have h10:=dF h10b
  refine B1<|Bx<|Bx<|Dj<|Ad<|Ab<|Ac<|Ae rfl<|Af rfl<|Aa<|Ad<|Aj<|Al rfl rfl<|?_
  rw [List.take_of_length_le (by omega),show xs.length - i=0 by omega,List.replicate_zero,List.append_nil] at hys
  rw [hys] at Eo
  obtain ⟨hnz11,Gz11,az11,cz11,hGz11,hez11,Sz11,M⟩:=M.freeze_row Jy (k:=0) rfl Eo (by decide)
  clear hez11 az11 cz11
  have hlm:((xs).map (Dt x)).length=xs.length:=by simp
  exact ⟨Gz11,hGz11,M.weaken (.cons _ (sR _)),_,by rw [hlm],by have h_:=Sz11;rw [hnz11] at h_;exact h_⟩
theorem Jw (M:Mem w0 G L w) {s:List UInt8}:Calls Tryz.prog 218 #[.string (str s)] w (Cl w0 G L fun v=>v=.agg #[.int .u8 2,.string (str []),.string (str []),.slice none 0 0,.string (str s),.slice none 0 0]):=by
 refine Az (vs:=[_]) Tryz.func218 rfl (n:=5) rfl rfl<|Ab<|Ac<|Cz M Bd rfl rfl<|?_;clear M;intro b1 w M
 refine Aa<|Ad<|Ab<|Ac<|Ae rfl<|Ap (fun a F=>Ba (cs:=[.int .u8 2,.string (str ([]:List UInt8)),.string (str ([]:List UInt8)),.slice none 0 0,.string (str s),.slice none 0 0]) (ps:=[(0,.int .u8 2),(4,.string (str s))]) Bd.k rfl Bd (F.evp rfl) rfl) rfl<|fun a F=>?_
 refine Ar F M Bd (k:=0) rfl rfl rfl (us:=[.int .u8 2,.string (str ([]:List UInt8)),.string (str ([]:List UInt8)),.slice none 0 0,.string (str s),.slice none 0 0]) rfl rfl (by simp [Value.oneCell']) (by simp) ?_;clear F M a;intro w a M F
 change Mem w0 G (.blk b1 [.int .u8 2,.string (str ([]:List UInt8)),.string (str ([]:List UInt8)),.slice none 0 0,.string (str s),.slice none 0 0] 193::L) _ at M
 revert a
 refine Aa<|Ad<|Aj<|fun a F=>Md F M (k:=0) rfl rfl Bd rfl rfl rfl ?_
 exact ⟨M.weaken (.cons _ (sR _)),rfl⟩
theorem Ada (M:Mem w0 G L w) {kad:Option Addr} {kcd:Nat} {ks:List NT} (S:Ay Jo 6 G (.slice kad ks.length kcd) ks):Calls Tryz.prog 231 #[.slice kad ks.length kcd] w (Cl w0 G L fun v=>v=.slice kad ks.length ks.length):=by
 have bS:=S.bound
 refine Az (vs:=[_]) Tryz.func231 rfl (n:=9) rfl rfl<|Ab<|Ac<|Af rfl<|Aa<|Ad<|Ab<|Ac<|Ae rfl<|Ae rfl<|Cg Ct.k rfl<|Ae rfl<|Cg Ct.k rfl<|?_
 have sb1:=S.bound
 refine Ap (fun a F=>R1 (h:=ks.length) (q:=ks.length) Ct.k Bd (F.ev rfl) (F.ev rfl) (by omega) (F.ev rfl) (by omega) (by omega) (by omega)) rfl<|?_
 have S2:=S.clip
 refine Af rfl<|Aa<|Ad<|Aj<|Al rfl rfl<|?_
 exact ⟨M,rfl⟩
theorem S1 (M : Mem w0 G L w) {x : ItemD} {ma : Option Addr} {mc : Nat} (ht : x.text.length ≤ 9223372036854775807) (SM : Ay Dw 1 G (.slice ma x.marks.length mc) x.marks) (hik : A2 .u64 x.key) {p : PT} {tap : Option Addr} {tcp : Nat} {kap : Option Addr} {kcp : Nat} (hkp : A2 .u8 p.kind) (hlp : (p.tag.length ≤ 9223372036854775807 ∧ p.key.length ≤ 9223372036854775807 ∧ p.text.length ≤ 9223372036854775807)) (SAp : Ay rdSlot 3 G (.slice tap p.as.length tcp) p.as) (SKp : Ay rdP 6 G (.slice kap p.kids.length kcp) p.kids) (hso : Hz p.as) {kk : List UInt8} {kad : Option Addr} {kcd : Nat} {ks : List NT} (S : Ay Jo 6 G (.slice kad ks.length kcd) ks) : Calls Tryz.prog 217 #[.agg #[.int .u64 x.key, .int .u8 x.typ, .string (str x.text), .slice ma x.marks.length mc], .agg #[.int .u8 p.kind, .string (str p.tag), .string (str p.key), .slice tap p.as.length tcp, .string (str p.text), .slice kap p.kids.length kcp], .string (str kk), .slice kad ks.length kcd] w (Ret w0 G L fun G' v => ∃ a', v = .agg #[.int .u8 1, .string (str p.tag), .string (str kk), .slice a' (p.as.map (Dt x)).length (p.as.map (Dt x)).length, .string (str []), .slice kad ks.length ks.length] ∧
      Ay Fk 2 G' (.slice a' (p.as.map (Dt x)).length (p.as.map (Dt x)).length) (p.as.map (Dt x))∧Ay Jo 6 G' (.slice kad ks.length ks.length) ks):=by
  refine Az (vs:=[_,_,_,_]) Tryz.func217 rfl (n:=19) rfl rfl<|Ab<|Ac<|C4 M rfl rfl rfl<|?_;clear M;intro b1 w M
  refine C4 M rfl rfl rfl<|?_;clear M;intro b2 w M
  refine Cz M Bd rfl rfl<|?_;clear M;intro b3 w M
  refine Aa<|Ad<|Ab<|fun a F=>Fm [(.free,0),(.pure,1),(.free,2),(.pure,3),(.free,4),(.pure,5),(.free,7),(.keep,6),(.keep,8),(.free,9),(.keep,10)] [] (Keep G [.blk b2 [.int .u8 p.kind,.string (str p.tag),.string (str p.key),.slice tap p.as.length tcp,.string (str p.text),.slice kap p.kids.length kcp] 79,.blk b1 [.int .u64 x.key,.int .u8 x.typ,.string (str x.text),.slice ma x.marks.length mc] 262]) rfl (by kernel_rfl) (fun c a d v w h=>by cases d <;> exact h) ((M.drew _).keep (Gle.refl _) (by simp)) ?_
  replace M:=M.drew (w.drawn+1)
  revert a
  refine k_f (fun a F w _=>Co Cf.k rfl F rfl) rfl<|k_p (fun a F w M=>Aq (agf Bq rfl) (F.ev rfl) (M.cellL (k:=0) rfl rfl)) rfl<|k_f (fun a F w _=>Cj F rfl) rfl<|k_p (fun a F w M=>Am Iy rfl (F.ev rfl) (cs:=[.int .u64 x.key,.int .u8 x.typ,.string (str x.text),.slice ma x.marks.length mc]) rfl (M.cellsL (k:=1) rfl rfl)) rfl<|k_f (fun a F w _=>Co Cf.k rfl F rfl) rfl<|k_p (fun a F w M=>Aq (agf Fz rfl) (F.ev rfl) (M.cellL (k:=0) rfl rfl)) rfl<|k_f (fun a F w _=>Cj F rfl) rfl<|k_k rfl<|Hq ent230 rfl rfl (Zi (x:=x) (xs:=p.as) M ht SM hik SAp hso.1 (fun s_ hs_=>Afi hso hs_))<|?_;clear M;rintro _ Gt5 w hGt5 M ⟨at5,rfl,St5⟩
  replace SAp:=SAp.mono Fc hGt5
  replace SKp:=SKp.mono mono_rdP hGt5
  replace SM:=SM.mono Bn hGt5
  replace S:=S.mono Gr hGt5
  refine Aa<|eK (C':=Keep Gt5 [.blk b2 [.int .u8 p.kind,.string (str p.tag),.string (str p.key),.slice tap p.as.length tcp,.string (str p.text),.slice kap p.kids.length kcp] 79,.blk b1 [.int .u64 x.key,.int .u8 x.typ,.string (str x.text),.slice ma x.marks.length mc] 262]) (M.keep (Gle.refl _) (by simp)) (fun w h=>h.mono hGt5 (by simp))<|k_k rfl<|Br ent231 rfl rfl (Ada (ks:=ks) M S)<|?_;clear M;rintro _ w M rfl
  have S6:=S.clip
  refine Aa<|eK (C':=Keep Gt5 [.blk b2 [.int .u8 p.kind,.string (str p.tag),.string (str p.key),.slice tap p.as.length tcp,.string (str p.text),.slice kap p.kids.length kcp] 79,.blk b1 [.int .u64 x.key,.int .u8 x.typ,.string (str x.text),.slice ma x.marks.length mc] 262]) (M.keep (Gle.refl _) (by simp)) (fun w h=>h.mono (Gle.refl _) (by simp))<|k_f (fun a F w _=>Ba (cs:=[.int .u8 1,.string (str p.tag),.string (str kk),.slice at5 ((p.as.map (Dt x)).length) ((p.as.map (Dt x)).length),.string (str ([]:List UInt8)),.slice kad ks.length ks.length]) (ps:=[(0,.int .u8 1),(1,.string (str p.tag)),(2,.string (str kk)),(3,.slice at5 ((p.as.map (Dt x)).length) ((p.as.map (Dt x)).length)),(5,.slice kad ks.length ks.length)]) Bd.k rfl Bd (F.evp rfl) rfl) rfl<|k_k rfl<|fun a F=>?_
  refine Ar F M Bd (k:=0) rfl rfl rfl (us:=[.int .u8 1,.string (str p.tag),.string (str kk),.slice at5 ((p.as.map (Dt x)).length) ((p.as.map (Dt x)).length),.string (str ([]:List UInt8)),.slice kad ks.length ks.length]) rfl rfl (by simp [Value.oneCell']) (by simp) ?_;clear F M a;intro w a M F
  change Mem w0 Gt5 (.blk b3 [.int .u8 1,.string (str p.tag),.string (str kk),.slice at5 ((p.as.map (Dt x)).length) ((p.as.map (Dt x)).length),.string (str ([]:List UInt8)),.slice kad ks.length ks.length] 193::_::_::L) _ at M
  revert a
  refine Aa<|eK (C':=Keep Gt5 [.blk b2 [.int .u8 p.kind,.string (str p.tag),.string (str p.key),.slice tap p.as.length tcp,.string (str p.text),.slice kap p.kids.length kcp] 79,.blk b1 [.int .u64 x.key,.int .u8 x.typ,.string (str x.text),.slice ma x.marks.length mc] 262]) (M.keep (Gle.refl _) (by simp)) (fun w h=>h.mono (Gle.refl _) (by simp))<|D1<|Ad<|Aj<|fun a F=>Md F M (k:=0) rfl rfl Bd rfl rfl rfl ?_
  exact ⟨_,hGt5,M.weaken (.cons _ (.cons _ (.cons _ (sR _)))),_,rfl,St5,S6⟩
open Go Go.Y Go.Proofs
set_option linter.unusedSimpArgs false
set_option linter.unusedVariables false
def Aoh (x:ItemD) (ps:List PT):Prop:=∀ (w0 w:World) (G:A4) (L:List Res) (ma pa:Option Addr) (mc pc:Nat),Mem w0 G L w→Ay Dw 1 G (.slice ma x.marks.length mc) x.marks→Ay rdP 6 G (.slice pa ps.length pc) ps→ps.length≤16→(∀ p∈ps,∃ n,Tr.Ok Cv n p) →
  Calls Tryz.prog 192 #[.agg #[.int .u64 x.key,.int .u8 x.typ,.string (str x.text),.slice ma x.marks.length mc],.slice pa ps.length pc] w (Ret w0 G L fun G' v=>∃ a' c',v=.slice a' (madesF x ps).length c'∧Ay Jo 6 G' (.slice a' (madesF x ps).length c') (madesF x ps))
theorem S0 {x:ItemD} (hik:A2 .u64 x.key) (hio:ItemOk x) (ht:x.text.length≤9223372036854775807) {ps:List PT} (ih:∀ p∈ps,Aoh x p.kids) {w0 w:World} {G:A4} {L:List Res} (M:Mem w0 G L w) {ma pa:Option Addr} {mc pc:Nat} (SM:Ay Dw 1 G (.slice ma x.marks.length mc) x.marks) (S:Ay rdP 6 G (.slice pa ps.length pc) ps) (hps:ps.length≤16) (hok:∀ p∈ps,∃ n,Tr.Ok Cv n p) :
  Calls Tryz.prog 192 #[.agg #[.int .u64 x.key,.int .u8 x.typ,.string (str x.text),.slice ma x.marks.length mc],.slice pa ps.length pc] w (Ret w0 G L fun G' v=>∃ a' c',v=.slice a' (madesF x ps).length c'∧Ay Jo 6 G' (.slice a' (madesF x ps).length c') (madesF x ps)):=by
 refine Az (vs:=[_,_]) Tryz.func192 rfl (n:=82) rfl rfl<|Ab<|Ac<|C4 M rfl rfl rfl<|?_;clear M;intro b1 w M
 refine Af rfl<|Aa<|Ad<|Ab<|Ac<|Af rfl<|Aa<|Ad<|Ab<|Ab<|?_
 have bM:=SM.bound
 have hio3:=hio.2.2.1
 have hik':0≤x.key∧x.key≤18446744073709551615:=hik
 refine Ac<|Ae rfl<|Cg F5.k rfl<|Ae rfl<|Aa<|Ad<|A3<|?_
 have M:=M.nilrow 193 6
 intro a F
 refine B8 (fun m a' w'=>∃ (i:Nat),∃ (ay:Option Addr),∃ (ny:Nat),∃ (cy:Nat),∃ (csy:List Value),m=ps.length - i∧∃ G2,Gle G G2∧Fits 82 a' [(2,.pointer (some ⟨b1,0,none⟩)),(10,.slice pa ps.length pc),(11,.int .i64 ((ps.length:Nat):Int)),(5,.slice ay ny cy),(12,.int .i64 ((i:Nat):Int))]∧Mem w0 G2 (.row (.slice ay ny cy) (ny) (csy) 193 6::.blk b1 [.int .u64 x.key,.int .u8 x.typ,.string (str x.text),.slice ma x.marks.length mc] 262::L) w'∧(i≤ps.length)∧(ny=(madesF x (ps.take i)).length)∧(Els Jo 6 G2 csy (madesF x (ps.take i)))) _ ⟨0,(none),(0),(0),([]),rfl,G,Gle.refl _,F.to ⟨rfl,rfl,rfl,rfl,rfl,trivial⟩,M,Nat.zero_le _,rfl,Els.nil⟩ ?_
 clear F M
 rintro m a w ⟨i,ay,ny,cy,csy,rfl,G2,hG2,F,M,hi,hny,Ey⟩
 replace SM:=SM.mono Bn hG2
 replace S:=S.mono mono_rdP hG2
 revert a
 refine Ab<|Ac<|Df rfl rfl<|Aa<|Ad<|Ab<|Av rfl ?_ ?_
 ·intro h3b
  have h3:=dT h3b
  refine Au<|Ad<|Ab<|A3<|Ab<|?_
  have hml:=Vp hio.2.2.1 (ps.take i)
  intro a F
  rw [List.length_take] at hml
  revert a
  refine Ac<|?_
  obtain ⟨Xe4,hXe4⟩:=Be (xs:=ps) (i:=i) (by omega)
  obtain ⟨be4,oe4,_,Ie4,_,Ae4,hTe4⟩:=S.at hXe4
  obtain ⟨tae4,tce4,kae4,kce4,rfl,hke4,hle4,SAe4,SKe4⟩:=F1 hTe4
  refine Fp F5.k Cf Ie4 rfl rfl<|Ap (fun a F=>Am Cf rfl (F.ev rfl) (cs:=[.int .u8 Xe4.kind,.string (str Xe4.tag),.string (str Xe4.key),.slice tae4 Xe4.as.length tce4,.string (str Xe4.text),.slice kae4 Xe4.kids.length kce4]) rfl (M.cellsA Ae4 0 (by omega) rfl)) rfl<|Cz M Cf rfl rfl<|?_;clear M;intro b5 w M
  intro a F
  refine Ar F M Cf (k:=0) rfl rfl rfl (us:=[.int .u8 Xe4.kind,.string (str Xe4.tag),.string (str Xe4.key),.slice tae4 Xe4.as.length tce4,.string (str Xe4.text),.slice kae4 Xe4.kids.length kce4]) rfl rfl (by simp [Value.oneCell']) (by simp) ?_;clear F M a;intro w a M F
  change Mem w0 G2 (.blk b5 [.int .u8 Xe4.kind,.string (str Xe4.tag),.string (str Xe4.key),.slice tae4 Xe4.as.length tce4,.string (str Xe4.text),.slice kae4 Xe4.kids.length kce4] 79::_::_::L) _ at M
  revert a
  refine Aa<|Ad<|Ab<|?_
  obtain ⟨nk,hOk⟩:=hok Xe4 (List.mem_of_getElem? hXe4)
  refine Ac<|Bc Cf.k rfl rfl<|Bl Ew M 0 rfl rfl rfl rfl<|Aa<|Ad<|A3<|Ab<|Ac<|Dc rfl rfl<|Af rfl<|Aa<|Ad<|Av rfl ?_ ?_
  ·intro h7b
   have h7:=dT h7b
   intro a F
   refine Fm [(.free,0),(.pure,1),(.pure,2),(.free,3),(.pure,4),(.pure,5),(.free,6),(.pure,7),(.keep,8),(.keep,9),(.keep,10),(.keep,11),(.free,12)] [] (Keep G2 [.blk b5 [.int .u8 Xe4.kind,.string (str Xe4.tag),.string (str Xe4.key),.slice tae4 Xe4.as.length tce4,.string (str Xe4.text),.slice kae4 Xe4.kids.length kce4] 79,.blk b1 [.int .u64 x.key,.int .u8 x.typ,.string (str x.text),.slice ma x.marks.length mc] 262]) rfl (by kernel_rfl) (fun c a d v w h=>by cases d <;> exact h) ((M.drew _).keep (Gle.refl _) (by simp)) ?_
   replace M:=M.drew (w.drawn+1)
   revert a
   refine k_f (fun a F w _=>Cj F rfl) rfl<|k_p (fun a F w M=>Am Iy rfl (F.ev rfl) (cs:=[.int .u64 x.key,.int .u8 x.typ,.string (str x.text),.slice ma x.marks.length mc]) rfl (M.cellsL (k:=1) rfl rfl)) rfl<|k_p (fun a F w M=>Am Cf rfl (F.ev rfl) (cs:=[.int .u8 Xe4.kind,.string (str Xe4.tag),.string (str Xe4.key),.slice tae4 Xe4.as.length tce4,.string (str Xe4.text),.slice kae4 Xe4.kids.length kce4]) rfl (M.cellsL (k:=0) rfl rfl)) rfl<|k_f (fun a F w _=>Co Cf.k rfl F rfl) rfl<|k_p (fun a F w M=>Aq (agf Bq rfl) (F.ev rfl) (M.cellL (k:=0) rfl rfl)) rfl<|k_p (fun a F w M=>Am Iy rfl (F.ev rfl) (cs:=[.int .u64 x.key,.int .u8 x.typ,.string (str x.text),.slice ma x.marks.length mc]) rfl (M.cellsL (k:=1) rfl rfl)) rfl<|k_f (fun a F w _=>Co Cf.k rfl F rfl) rfl<|k_p (fun a F w M=>Aq (agf F5 rfl) (F.ev rfl) (M.cellL (k:=0) rfl rfl)) rfl<|k_k rfl<|Hq Alv rfl rfl (ih Xe4 (List.mem_of_getElem? hXe4) _ _ _ _ _ _ _ _ M SM SKe4 (okP_len hOk) (Ajn hOk))<|?_;clear M;rintro _ Gk8 w hGk8 M ⟨ak8,ck8,rfl,Sk8⟩
   replace SM:=SM.mono Bn hGk8
   replace S:=S.mono mono_rdP hGk8
   replace Ey:=Ey.mono Gr hGk8
   replace Ae4:=Ae4.mono hGk8
   replace SAe4:=SAe4.mono Fc hGk8
   replace SKe4:=SKe4.mono mono_rdP hGk8
   refine Aa<|eK (C':=Keep Gk8 [.blk b5 [.int .u8 Xe4.kind,.string (str Xe4.tag),.string (str Xe4.key),.slice tae4 Xe4.as.length tce4,.string (str Xe4.text),.slice kae4 Xe4.kids.length kce4] 79,.blk b1 [.int .u64 x.key,.int .u8 x.typ,.string (str x.text),.slice ma x.marks.length mc] 262]) (M.keep (Gle.refl _) (by simp)) (fun w h=>h.mono hGk8 (by simp))<|k_k rfl<|Hq Alt rfl rfl (S1 (x:=x) (p:=Xe4) (kk:=Xe4.key) (ks:=madesF x Xe4.kids) M ht SM hik hke4 hle4 SAe4 SKe4 (Vh hOk (by omega)) Sk8)<|?_;clear M;rintro _ Gm9 w hGm9 M ⟨am9,rfl,SAm9,SKm9⟩
   replace SM:=SM.mono Bn hGm9
   replace S:=S.mono mono_rdP hGm9
   replace Ey:=Ey.mono Gr hGm9
   replace Ae4:=Ae4.mono hGm9
   replace SAe4:=SAe4.mono Fc hGm9
   replace SKe4:=SKe4.mono mono_rdP hGm9
   replace Sk8:=Sk8.mono Gr hGm9
   refine Aa<|eK (C':=Keep Gm9 [.blk b5 [.int .u8 Xe4.kind,.string (str Xe4.tag),.string (str Xe4.key),.slice tae4 Xe4.as.length tce4,.string (str Xe4.text),.slice kae4 Xe4.kids.length kce4] 79,.blk b1 [.int .u64 x.key,.int .u8 x.typ,.string (str x.text),.slice ma x.marks.length mc] 262]) (M.keep (Gle.refl _) (by simp)) (fun w h=>h.mono hGm9 (by simp))<|k_k rfl<|fun a F=>?_
   refine Ci F M Ct.k Bd rfl rfl (cs:=[.int .u8 1,.string (str Xe4.tag),.string (str Xe4.key),.slice am9 ((Xe4.as.map (Dt x)).length) ((Xe4.as.map (Dt x)).length),.string (str ([]:List UInt8)),.slice ak8 ((madesF x Xe4.kids).length) ((madesF x Xe4.kids).length)]) rfl rfl (by simp [Value.oneCell']) (by decide) rfl ?_;clear F M a;intro v10 w a M F
   obtain ⟨av10,cv10,rfl,hlev10,hcmv10,hlv10⟩:=M.row_shape (k:=0) rfl
   revert a
   refine Aa<|eK (C':=Keep Gm9 [.blk b5 [.int .u8 Xe4.kind,.string (str Xe4.tag),.string (str Xe4.key),.slice tae4 Xe4.as.length tce4,.string (str Xe4.text),.slice kae4 Xe4.kids.length kce4] 79,.blk b1 [.int .u64 x.key,.int .u8 x.typ,.string (str x.text),.slice ma x.marks.length mc] 262]) (M.keep (Gle.refl _) (by simp)) (fun w h=>h.mono (Gle.refl _) (by simp))<|?_
   have E11:Els Jo 6 Gm9 [.int .u8 1,.string (str Xe4.tag),.string (str Xe4.key),.slice am9 ((Xe4.as.map (Dt x)).length) ((Xe4.as.map (Dt x)).length),.string (str ([]:List UInt8)),.slice ak8 ((madesF x Xe4.kids).length) ((madesF x Xe4.kids).length)] [(.mk 1 Xe4.tag Xe4.key (Xe4.as.map (Dt x)) [] (madesF x Xe4.kids):NT)]:=Els.one (Ib (x:=(.mk 1 Xe4.tag Xe4.key (Xe4.as.map (Dt x)) [] (madesF x Xe4.kids):NT)) u8_1 ⟨hle4.1,(by first | assumption | exact hle4.2.1),Nat.zero_le _⟩ SAm9 SKm9) rfl
   refine k_k rfl<|fun a F=>?_
   refine Dh F M (k:=2) (k2:=0) rfl rfl Ct.k Bd rfl rfl (by decide) rfl rfl (by show _ * 104≤_;(try simp only [List.length_drop,List.length_take,List.length_append,List.length_cons,List.length_nil]);omega) (by (try simp only [List.length_drop,List.length_take,List.length_append,List.length_cons,List.length_nil]);omega) rfl ?_;clear F M a;intro v12 w a M F
   have Ev12:=Els.append Ey E11
   obtain ⟨av12,cv12,rfl,hlev12,hcmv12,hlv12⟩:=M.row_shape (k:=2) rfl
   revert a
   refine Aa<|eK (C':=Keep Gm9 [.blk b5 [.int .u8 Xe4.kind,.string (str Xe4.tag),.string (str Xe4.key),.slice tae4 Xe4.as.length tce4,.string (str Xe4.text),.slice kae4 Xe4.kids.length kce4] 79,.blk b1 [.int .u64 x.key,.int .u8 x.typ,.string (str x.text),.slice ma x.marks.length mc] 262]) (M.keep (Gle.refl _) (by simp)) (fun w h=>h.mono (Gle.refl _) (by simp))<|k_f (fun a F w _=>Gm F rfl) rfl<|D1<|C0<|C0<|Ad<|Ac<|B9 rfl rfl<|Ae rfl<|Aa<|Ad<|fun a F=>?_
   exact ⟨_,by omega,i+1,(av12),(ny+1),(cv12),(csy++([.int .u8 1,.string (str Xe4.tag),.string (str Xe4.key),.slice am9 ((Xe4.as.map (Dt x)).length) ((Xe4.as.map (Dt x)).length),.string (str ([]:List UInt8)),.slice ak8 ((madesF x Xe4.kids).length) ((madesF x Xe4.kids).length)])),rfl,Gm9,((hG2.trans hGk8).trans hGm9),F.to ⟨rfl,rfl,rfl,rfl,rfl,trivial⟩,(M.weaken (.cons _ (.cons _ (.cons_cons _ (.cons_cons _ (sR _)))))),by omega,by rw [E7 hXe4,Akg (by assumption),List.length_append,← hny];rfl,by rw [E7 hXe4,Akg (by assumption)];exact Ev12⟩
  ·intro h13b
   have h13:=dF h13b
   refine Ab<|Ac<|Dc rfl rfl<|Af rfl<|Aa<|Ad<|Av rfl ?_ ?_
   ·intro h14b
    have h14:=dT h14b
    refine Ac<|Ae rfl<|Bc Cf.k rfl rfl<|Bl Bq M 0 rfl rfl rfl rfl<|Br Xp rfl rfl (Jw (s:=Xe4.text) M)<|?_;clear M;rintro _ w M rfl
    intro a F
    refine Ci F M Ct.k Bd rfl rfl (cs:=[.int .u8 2,.string (str ([]:List UInt8)),.string (str ([]:List UInt8)),.slice none 0 0,.string (str Xe4.text),.slice none 0 0]) rfl rfl (by simp [Value.oneCell']) (by decide) rfl ?_;clear F M a;intro v15 w a M F
    obtain ⟨av15,cv15,rfl,hlev15,hcmv15,hlv15⟩:=M.row_shape (k:=0) rfl
    have E16:Els Jo 6 G2 [.int .u8 2,.string (str ([]:List UInt8)),.string (str ([]:List UInt8)),.slice none 0 0,.string (str Xe4.text),.slice none 0 0] [(Bu Xe4.text)]:=Els.one (Ib (x:=(Bu Xe4.text)) u8_2 ⟨Nat.zero_le _,Nat.zero_le _,(by first | assumption | exact hle4.2.2 | (have h_:=Ev x.key.toNat (by omega);show (Lib.decDigits x.key.toNat).length≤_;omega))⟩ Ay.nil Ay.nil) rfl
    refine Dh F M (k:=2) (k2:=0) rfl rfl Ct.k Bd rfl rfl (by decide) rfl rfl (by show _ * 104≤_;(try simp only [List.length_drop,List.length_take,List.length_append,List.length_cons,List.length_nil]);omega) (by (try simp only [List.length_drop,List.length_take,List.length_append,List.length_cons,List.length_nil]);omega) rfl ?_;clear F M a;intro v17 w a M F
    have Ev17:=Els.append Ey E16
    obtain ⟨av17,cv17,rfl,hlev17,hcmv17,hlv17⟩:=M.row_shape (k:=2) rfl
    revert a
    refine Af rfl<|Aa<|C0<|C0<|Ad<|Ac<|B9 rfl rfl<|Ae rfl<|Aa<|Ad<|fun a F=>?_
    exact ⟨_,by omega,i+1,(av17),(ny+1),(cv17),(csy++([.int .u8 2,.string (str ([]:List UInt8)),.string (str ([]:List UInt8)),.slice none 0 0,.string (str Xe4.text),.slice none 0 0])),rfl,G2,hG2,F.to ⟨rfl,rfl,rfl,rfl,rfl,trivial⟩,(M.weaken (.cons _ (.cons _ (.cons_cons _ (.cons_cons _ (sR _)))))),by omega,by rw [E7 hXe4,made2 (by assumption),List.length_append,← hny];rfl,by rw [E7 hXe4,made2 (by assumption)];exact Ev17⟩
   ·intro h18b
    have h18:=dF h18b
    refine Ab<|Ac<|Dc rfl rfl<|Af rfl<|Aa<|Ad<|Av rfl ?_ ?_
    ·intro h19b
     have h19:=dT h19b
     refine Ac<|Ae rfl<|Bc Iy.k rfl rfl<|Bc A1.k rfl rfl<|Bl Bq M 2 rfl rfl rfl rfl<|Br Xp rfl rfl (Jw (s:=x.text) M)<|?_;clear M;rintro _ w M rfl
     intro a F
     refine Ci F M Ct.k Bd rfl rfl (cs:=[.int .u8 2,.string (str ([]:List UInt8)),.string (str ([]:List UInt8)),.slice none 0 0,.string (str x.text),.slice none 0 0]) rfl rfl (by simp [Value.oneCell']) (by decide) rfl ?_;clear F M a;intro v20 w a M F
     obtain ⟨av20,cv20,rfl,hlev20,hcmv20,hlv20⟩:=M.row_shape (k:=0) rfl
     have E21:Els Jo 6 G2 [.int .u8 2,.string (str ([]:List UInt8)),.string (str ([]:List UInt8)),.slice none 0 0,.string (str x.text),.slice none 0 0] [(Bu x.text)]:=Els.one (Ib (x:=(Bu x.text)) u8_2 ⟨Nat.zero_le _,Nat.zero_le _,(by first | assumption | exact hle4.2.2 | (have h_:=Ev x.key.toNat (by omega);show (Lib.decDigits x.key.toNat).length≤_;omega))⟩ Ay.nil Ay.nil) rfl
     refine Dh F M (k:=2) (k2:=0) rfl rfl Ct.k Bd rfl rfl (by decide) rfl rfl (by show _ * 104≤_;(try simp only [List.length_drop,List.length_take,List.length_append,List.length_cons,List.length_nil]);omega) (by (try simp only [List.length_drop,List.length_take,List.length_append,List.length_cons,List.length_nil]);omega) rfl ?_;clear F M a;intro v22 w a M F
     have Ev22:=Els.append Ey E21
     obtain ⟨av22,cv22,rfl,hlev22,hcmv22,hlv22⟩:=M.row_shape (k:=2) rfl
     revert a
     refine Af rfl<|Aa<|C0<|C0<|Ad<|Ac<|B9 rfl rfl<|Ae rfl<|Aa<|Ad<|fun a F=>?_
     exact ⟨_,by omega,i+1,(av22),(ny+1),(cv22),(csy++([.int .u8 2,.string (str ([]:List UInt8)),.string (str ([]:List UInt8)),.slice none 0 0,.string (str x.text),.slice none 0 0])),rfl,G2,hG2,F.to ⟨rfl,rfl,rfl,rfl,rfl,trivial⟩,(M.weaken (.cons _ (.cons _ (.cons_cons _ (.cons_cons _ (sR _)))))),by omega,by rw [E7 hXe4,made3 (by assumption),List.length_append,← hny];rfl,by rw [E7 hXe4,made3 (by assumption)];exact Ev22⟩
    ·intro h23b
     have h23:=dF h23b
     refine Ab<|Ac<|Dc rfl rfl<|Af rfl<|Aa<|Ad<|Av rfl ?_ ?_
     ·intro h24b
      have h24:=dT h24b
      refine Ac<|Ae rfl<|Bc Iy.k rfl rfl<|Bc A1.k rfl rfl<|Bl Eh M 2 rfl rfl rfl rfl<|?_
      have hu25:(x.key:Int)=(((x.key).toNat:Nat):Int):=by omega
      intro a F
      rw [hu25] at F
      revert a
      refine Br Acr rfl rfl (P7 (u:=(x.key).toNat) M (by omega))<|?_;clear M;rintro _ w M rfl
      refine Br Xp rfl rfl (Jw (s:=Lib.decDigits ((x.key).toNat)) M)<|?_;clear M;rintro _ w M rfl
      intro a F
      refine Ci F M Ct.k Bd rfl rfl (cs:=[.int .u8 2,.string (str ([]:List UInt8)),.string (str ([]:List UInt8)),.slice none 0 0,.string (str (Lib.decDigits ((x.key).toNat))),.slice none 0 0]) rfl rfl (by simp [Value.oneCell']) (by decide) rfl ?_;clear F M a;intro v26 w a M F
      obtain ⟨av26,cv26,rfl,hlev26,hcmv26,hlv26⟩:=M.row_shape (k:=0) rfl
      have E27:Els Jo 6 G2 [.int .u8 2,.string (str ([]:List UInt8)),.string (str ([]:List UInt8)),.slice none 0 0,.string (str (Lib.decDigits ((x.key).toNat))),.slice none 0 0] [(Bu (Lib.decDigits ((x.key).toNat)))]:=Els.one (Ib (x:=(Bu (Lib.decDigits ((x.key).toNat)))) u8_2 ⟨Nat.zero_le _,Nat.zero_le _,(by first | assumption | exact hle4.2.2 | (have h_:=Ev x.key.toNat (by omega);show (Lib.decDigits x.key.toNat).length≤_;omega))⟩ Ay.nil Ay.nil) rfl
      refine Dh F M (k:=2) (k2:=0) rfl rfl Ct.k Bd rfl rfl (by decide) rfl rfl (by show _ * 104≤_;(try simp only [List.length_drop,List.length_take,List.length_append,List.length_cons,List.length_nil]);omega) (by (try simp only [List.length_drop,List.length_take,List.length_append,List.length_cons,List.length_nil]);omega) rfl ?_;clear F M a;intro v28 w a M F
      have Ev28:=Els.append Ey E27
      obtain ⟨av28,cv28,rfl,hlev28,hcmv28,hlv28⟩:=M.row_shape (k:=2) rfl
      revert a
      refine Af rfl<|Aa<|C0<|C0<|Ad<|Ac<|B9 rfl rfl<|Ae rfl<|Aa<|Ad<|fun a F=>?_
      exact ⟨_,by omega,i+1,(av28),(ny+1),(cv28),(csy++([.int .u8 2,.string (str ([]:List UInt8)),.string (str ([]:List UInt8)),.slice none 0 0,.string (str (Lib.decDigits ((x.key).toNat))),.slice none 0 0])),rfl,G2,hG2,F.to ⟨rfl,rfl,rfl,rfl,rfl,trivial⟩,(M.weaken (.cons _ (.cons _ (.cons_cons _ (.cons_cons _ (sR _)))))),by omega,by rw [E7 hXe4,made4 (by assumption),List.length_append,← hny];rfl,by rw [E7 hXe4,made4 (by assumption)];exact Ev28⟩
     ·intro h29b
      have h29:=dF h29b
      refine Ab<|Ac<|Dc rfl rfl<|Af rfl<|Aa<|Ad<|Av rfl ?_ ?_
      ·intro h30b
       have h30:=dT h30b
       refine Ab<|Ac<|Bc Iy.k rfl rfl<|Bc A1.k rfl rfl<|Bl Cd M 2 rfl rfl rfl rfl<|Cg Cd.k rfl<|Ae rfl<|Aa<|Ad<|A3<|fun a F=>B8 (fun m a' w'=>∃ (j:Nat),∃ (az:Option Addr),∃ (nz:Nat),∃ (cz:Nat),∃ (csz:List Value),m=x.marks.length - j∧∃ G31,Gle G2 G31∧Fits 82 a' [(2,.pointer (some ⟨b1,0,none⟩)),(7,.pointer (some ⟨b5,0,none⟩)),(10,.slice pa ps.length pc),(11,.int .i64 ((ps.length:Nat):Int)),(12,.int .i64 ((i:Nat):Int)),(63,.slice ma x.marks.length mc),(64,.int .i64 ((x.marks.length:Nat):Int)),(5,.slice az nz cz),(65,.int .i64 ((j:Nat):Int))]∧Mem w0 G31 (.blk b5 [.int .u8 Xe4.kind,.string (str Xe4.tag),.string (str Xe4.key),.slice tae4 Xe4.as.length tce4,.string (str Xe4.text),.slice kae4 Xe4.kids.length kce4] 79::.row (.slice az nz cz) (nz) (csz) 193 6::.blk b1 [.int .u64 x.key,.int .u8 x.typ,.string (str x.text),.slice ma x.marks.length mc] 262::L) w'∧(j≤x.marks.length)∧(nz=(madesF x (ps.take i)++(x.marks.take j).map (Aev x Xe4.tag Xe4.as)).length)∧(Els Jo 6 G31 csz (madesF x (ps.take i)++(x.marks.take j).map (Aev x Xe4.tag Xe4.as)))) _ ⟨0,(ay),(ny),(cy),(csy),rfl,G2,Gle.refl _,F.to ⟨rfl,rfl,rfl,rfl,rfl,rfl,rfl,rfl,rfl,trivial⟩,M,Nat.zero_le _,by simp [← hny],by simpa using Ey⟩ ?_
       clear F M
       rintro m a w ⟨j,az,nz,cz,csz,rfl,G31,hG31,F,M,hj,hnz,Ez⟩
       replace SM:=SM.mono Bn hG31
       replace S:=S.mono mono_rdP hG31
       replace Ae4:=Ae4.mono hG31
       replace SAe4:=SAe4.mono Fc hG31
       replace SKe4:=SKe4.mono mono_rdP hG31
       revert a
       refine Ab<|Ac<|Df rfl rfl<|Aa<|Ad<|Ab<|Av rfl ?_ ?_
       ·intro h32b
        have h32:=dT h32b
        refine Au<|Ad<|Ab<|A3<|Ab<|?_
        have hnz2:nz≤200:=by rw [hnz,List.length_append,List.length_map,List.length_take];omega
        refine Ac<|?_
        obtain ⟨Xe33,hXe33⟩:=Be (xs:=x.marks) (i:=j) (by omega)
        obtain ⟨be33,oe33,_,Ie33,_,Ae33,⟨rfl,hsle33⟩⟩:=SM.at hXe33
        refine Fp Cd.k Bq Ie33 rfl rfl<|D4 Bq M Ae33 0 rfl rfl (by omega) rfl<|Af rfl<|Aa<|Ad<|fun a F=>Fm [(.free,0),(.pure,1),(.pure,2),(.free,3),(.free,4),(.keep,5),(.keep,6),(.keep,7),(.keep,8),(.keep,9),(.free,10)] [] (Keep G31 [.blk b5 [.int .u8 Xe4.kind,.string (str Xe4.tag),.string (str Xe4.key),.slice tae4 Xe4.as.length tce4,.string (str Xe4.text),.slice kae4 Xe4.kids.length kce4] 79,.blk b1 [.int .u64 x.key,.int .u8 x.typ,.string (str x.text),.slice ma x.marks.length mc] 262]) rfl (by kernel_rfl) (fun c a d v w h=>by cases d <;> exact h) ((M.drew _).keep (Gle.refl _) (by simp)) ?_
        replace M:=M.drew (w.drawn+1)
        revert a
        refine k_f (fun a F w _=>Cj F rfl) rfl<|k_p (fun a F w M=>Am Iy rfl (F.ev rfl) (cs:=[.int .u64 x.key,.int .u8 x.typ,.string (str x.text),.slice ma x.marks.length mc]) rfl (M.cellsL (k:=1) rfl rfl)) rfl<|k_p (fun a F w M=>Am Cf rfl (F.ev rfl) (cs:=[.int .u8 Xe4.kind,.string (str Xe4.tag),.string (str Xe4.key),.slice tae4 Xe4.as.length tce4,.string (str Xe4.text),.slice kae4 Xe4.kids.length kce4]) rfl (M.cellsL (k:=0) rfl rfl)) rfl<|k_f (fun a F w _=>Cj F rfl) rfl<|k_f (fun a F w _=>Cj F rfl) rfl<|k_k rfl<|Br Xp rfl rfl (Jw (s:=Xe33) M)<|?_;clear M;rintro _ w M rfl
        refine Aa<|eK (C':=Keep G31 [.blk b5 [.int .u8 Xe4.kind,.string (str Xe4.tag),.string (str Xe4.key),.slice tae4 Xe4.as.length tce4,.string (str Xe4.text),.slice kae4 Xe4.kids.length kce4] 79,.blk b1 [.int .u64 x.key,.int .u8 x.typ,.string (str x.text),.slice ma x.marks.length mc] 262]) (M.keep (Gle.refl _) (by simp)) (fun w h=>h.mono (Gle.refl _) (by simp))<|k_k rfl<|fun a F=>?_
        refine Ci F M Ct.k Bd rfl rfl (cs:=[.int .u8 2,.string (str ([]:List UInt8)),.string (str ([]:List UInt8)),.slice none 0 0,.string (str Xe33),.slice none 0 0]) rfl rfl (by simp [Value.oneCell']) (by decide) rfl ?_;clear F M a;intro v34 w a M F
        obtain ⟨av34,cv34,rfl,hlev34,hcmv34,hlv34⟩:=M.row_shape (k:=0) rfl
        revert a
        refine Aa<|eK (C':=Keep G31 [.blk b5 [.int .u8 Xe4.kind,.string (str Xe4.tag),.string (str Xe4.key),.slice tae4 Xe4.as.length tce4,.string (str Xe4.text),.slice kae4 Xe4.kids.length kce4] 79,.blk b1 [.int .u64 x.key,.int .u8 x.typ,.string (str x.text),.slice ma x.marks.length mc] 262]) (M.keep (Gle.refl _) (by simp)) (fun w h=>h.mono (Gle.refl _) (by simp))<|?_
        have E35:Els Jo 6 G31 [.int .u8 2,.string (str ([]:List UInt8)),.string (str ([]:List UInt8)),.slice none 0 0,.string (str Xe33),.slice none 0 0] [(Bu Xe33)]:=Els.one (Ib (x:=(Bu Xe33)) u8_2 ⟨Nat.zero_le _,Nat.zero_le _,(by first | assumption | exact hle4.2.2 | (have h_:=Ev x.key.toNat (by omega);show (Lib.decDigits x.key.toNat).length≤_;omega))⟩ Ay.nil Ay.nil) rfl
        obtain ⟨hnz36,Gz36,az36,cz36,hGz36,hez36,Sz36,M⟩:=M.freeze_row Gr (k:=0) rfl E35 (by decide)
        clear hez36 az36 cz36
        replace SM:=SM.mono Bn hGz36
        replace S:=S.mono mono_rdP hGz36
        replace Ae4:=Ae4.mono hGz36
        replace SAe4:=SAe4.mono Fc hGz36
        replace SKe4:=SKe4.mono mono_rdP hGz36
        replace Ez:=Ez.mono Gr hGz36
        replace Ae33:=Ae33.mono hGz36
        clear hnz36
        replace Sz36:Ay Jo 6 Gz36 (.slice av34 ([(Bu Xe33)]).length (cv34)) ([(Bu Xe33)]):=Sz36
        refine k_k rfl<|Hq Alt rfl rfl (S1 (x:=x) (p:=Xe4) (kk:=Xe33) (ks:=[(Bu Xe33)]) M ht SM hik hke4 hle4 SAe4 SKe4 (Vh hOk (by omega)) Sz36)<|?_;clear M;rintro _ Gm37 w hGm37 M ⟨am37,rfl,SAm37,SKm37⟩
        replace SM:=SM.mono Bn hGm37
        replace S:=S.mono mono_rdP hGm37
        replace Ae4:=Ae4.mono hGm37
        replace SAe4:=SAe4.mono Fc hGm37
        replace SKe4:=SKe4.mono mono_rdP hGm37
        replace Ez:=Ez.mono Gr hGm37
        replace Ae33:=Ae33.mono hGm37
        replace Sz36:=Sz36.mono Gr hGm37
        refine Aa<|eK (C':=Keep Gm37 [.blk b5 [.int .u8 Xe4.kind,.string (str Xe4.tag),.string (str Xe4.key),.slice tae4 Xe4.as.length tce4,.string (str Xe4.text),.slice kae4 Xe4.kids.length kce4] 79,.blk b1 [.int .u64 x.key,.int .u8 x.typ,.string (str x.text),.slice ma x.marks.length mc] 262]) (M.keep (Gle.refl _) (by simp)) (fun w h=>h.mono (hGz36.trans hGm37) (by simp))<|k_k rfl<|fun a F=>?_
        refine Ci F M Ct.k Bd rfl rfl (cs:=[.int .u8 1,.string (str Xe4.tag),.string (str Xe33),.slice am37 ((Xe4.as.map (Dt x)).length) ((Xe4.as.map (Dt x)).length),.string (str ([]:List UInt8)),.slice av34 (([(Bu Xe33)]).length) (([(Bu Xe33)]).length)]) rfl rfl (by simp [Value.oneCell']) (by decide) rfl ?_;clear F M a;intro v38 w a M F
        obtain ⟨av38,cv38,rfl,hlev38,hcmv38,hlv38⟩:=M.row_shape (k:=0) rfl
        revert a
        refine Aa<|eK (C':=Keep Gm37 [.blk b5 [.int .u8 Xe4.kind,.string (str Xe4.tag),.string (str Xe4.key),.slice tae4 Xe4.as.length tce4,.string (str Xe4.text),.slice kae4 Xe4.kids.length kce4] 79,.blk b1 [.int .u64 x.key,.int .u8 x.typ,.string (str x.text),.slice ma x.marks.length mc] 262]) (M.keep (Gle.refl _) (by simp)) (fun w h=>h.mono (Gle.refl _) (by simp))<|?_
        have E39:Els Jo 6 Gm37 [.int .u8 1,.string (str Xe4.tag),.string (str Xe33),.slice am37 ((Xe4.as.map (Dt x)).length) ((Xe4.as.map (Dt x)).length),.string (str ([]:List UInt8)),.slice av34 (([(Bu Xe33)]).length) (([(Bu Xe33)]).length)] [(.mk 1 Xe4.tag Xe33 (Xe4.as.map (Dt x)) [] ([(Bu Xe33)]):NT)]:=Els.one (Ib (x:=(.mk 1 Xe4.tag Xe33 (Xe4.as.map (Dt x)) [] ([(Bu Xe33)]):NT)) u8_1 ⟨hle4.1,(by first | assumption | exact hle4.2.1),Nat.zero_le _⟩ SAm37 SKm37) rfl
        refine k_k rfl<|fun a F=>?_
        refine Dh F M (k:=2) (k2:=0) rfl rfl Ct.k Bd rfl rfl (by decide) rfl rfl (by show _ * 104≤_;(try simp only [List.length_drop,List.length_take,List.length_append,List.length_cons,List.length_nil]);omega) (by (try simp only [List.length_drop,List.length_take,List.length_append,List.length_cons,List.length_nil]);omega) rfl ?_;clear F M a;intro v40 w a M F
        have Ev40:=Els.append Ez E39
        obtain ⟨av40,cv40,rfl,hlev40,hcmv40,hlv40⟩:=M.row_shape (k:=2) rfl
        revert a
        refine Aa<|eK (C':=Keep Gm37 [.blk b5 [.int .u8 Xe4.kind,.string (str Xe4.tag),.string (str Xe4.key),.slice tae4 Xe4.as.length tce4,.string (str Xe4.text),.slice kae4 Xe4.kids.length kce4] 79,.blk b1 [.int .u64 x.key,.int .u8 x.typ,.string (str x.text),.slice ma x.marks.length mc] 262]) (M.keep (Gle.refl _) (by simp)) (fun w h=>h.mono (Gle.refl _) (by simp))<|k_f (fun a F w _=>Gm F rfl) rfl<|D1<|C0<|Ad<|Ac<|B9 rfl rfl<|Ae rfl<|Aa<|Ad<|fun a F=>?_
        exact ⟨_,by omega,j+1,(av40),(nz+1),(cv40),(csz++([.int .u8 1,.string (str Xe4.tag),.string (str Xe33),.slice am37 ((Xe4.as.map (Dt x)).length) ((Xe4.as.map (Dt x)).length),.string (str ([]:List UInt8)),.slice av34 (([(Bu Xe33)]).length) (([(Bu Xe33)]).length)])),rfl,Gm37,((hG31.trans hGz36).trans hGm37),F.to ⟨rfl,rfl,rfl,rfl,rfl,rfl,rfl,rfl,rfl,trivial⟩,(M.weaken (.cons _ (.cons_cons _ (.cons_cons _ (.cons_cons _ (sR _)))))),by omega,by rw [V2 hXe33,← List.append_assoc,List.length_append,← hnz];rfl,by rw [V2 hXe33,← List.append_assoc];exact Ev40⟩
       ·intro h41b
        have h41:=dF h41b
        refine B1<|Bx<|Bx<|Dj<|C0<|C0<|Ad<|Ac<|B9 rfl rfl<|Ae rfl<|Aa<|Ad<|fun a F=>?_
        exact ⟨_,by omega,i+1,(az),(nz),(cz),(csz),rfl,G31,(hG2.trans hG31),F.to ⟨rfl,rfl,rfl,rfl,rfl,trivial⟩,(M.weaken (.cons _ (.cons_cons _ (.cons_cons _ (sR _))))),by omega,by rw [E7 hXe4,made5 (by assumption)];rw [List.take_of_length_le (l:=x.marks) (by omega)] at hnz;exact hnz,by rw [E7 hXe4,made5 (by assumption)];rw [List.take_of_length_le (l:=x.marks) (by omega)] at Ez;exact Ez⟩
      ·intro h42b
       have h42:=dF h42b
       refine Au<|C0<|C0<|Ad<|Ac<|B9 rfl rfl<|Ae rfl<|Aa<|Ad<|fun a F=>?_
       exact ⟨_,by omega,i+1,(ay),(ny),(cy),(csy),rfl,G2,hG2,F.to ⟨rfl,rfl,rfl,rfl,rfl,trivial⟩,(M.weaken (.cons _ (.cons_cons _ (.cons_cons _ (sR _))))),by omega,by rw [E7 hXe4,made0 (by assumption) (by assumption) (by assumption) (by assumption) (by assumption),List.append_nil];exact hny,by rw [E7 hXe4,made0 (by assumption) (by assumption) (by assumption) (by assumption) (by assumption),List.append_nil];exact Ey⟩
 ·intro h43b
  have h43:=dF h43b
  refine B1<|Bx<|Bx<|Dj<|Ad<|Ab<|Ac<|Ae rfl<|Af rfl<|Aa<|Ad<|Aj<|Al rfl rfl<|?_
  rw [List.take_of_length_le (by omega)] at hny Ey
  obtain ⟨hnz44,Gz44,az44,cz44,hGz44,hez44,Sz44,M⟩:=M.freeze_row Gr (k:=0) rfl Ey (by decide)
  clear hez44 az44 cz44
  exact ⟨Gz44,(hG2.trans hGz44),M.weaken (.cons _ (sR _)),_,_,by rw [hny],by have h_:=Sz44;rw [hny] at h_;exact h_⟩
theorem Agq {x:ItemD} (hik:A2 .u64 x.key) (hio:ItemOk x) (ht:x.text.length≤9223372036854775807) (ps:List PT):Aoh x ps:=by
 suffices h:∀ n (ps:List PT),Tr.sizes ps≤n→Aoh x ps from h _ ps (Nat.le_refl _)
 intro n
 induction n with
 | zero=>intro ps hn w0 w G L ma pa mc pc M SM S hps hok;exact S0 hik hio ht (fun p hp=>by have:=Nj hp;omega) M SM S hps hok
 | succ n ih=>intro ps hn w0 w G L ma pa mc pc M SM S hps hok;exact S0 hik hio ht (fun p hp=>ih _ (by have:=Nj hp;omega)) M SM S hps hok
open Go Go.Y Go.Proofs
set_option linter.unusedSimpArgs false
set_option linter.unusedVariables false
theorem trender_spec {w0 w:World} {G:A4} {L:List Res} (M:Mem w0 G L w) {p:PT} {tap:Option Addr} {tcp:Nat} {kap:Option Addr} {kcp:Nat} (hkp:A2 .u8 p.kind) (hlp:(p.tag.length≤9223372036854775807∧p.key.length≤9223372036854775807∧p.text.length≤9223372036854775807)) (SAp:Ay rdSlot 3 G (.slice tap p.as.length tcp) p.as) (SKp:Ay rdP 6 G (.slice kap p.kids.length kcp) p.kids) {x:ItemD} {ma:Option Addr} {mc:Nat} (ht:x.text.length≤9223372036854775807) (SM:Ay Dw 1 G (.slice ma x.marks.length mc) x.marks) (hik:A2 .u64 x.key) {most:Int}:Calls Tryz.prog 157 #[.agg #[.int .u8 p.kind,.string (str p.tag),.string (str p.key),.slice tap p.as.length tcp,.string (str p.text),.slice kap p.kids.length kcp],.agg #[.int .u64 x.key,.int .u8 x.typ,.string (str x.text),.slice ma x.marks.length mc],.int .i64 most] w (Ret w0 G L fun G' v=>∃ a1 a2,v=.tuple #[.agg #[.int .u8 (Gf p x most).kind,.string (str (Gf p x most).tag),.string (str (Gf p x most).key),.slice a1 (Gf p x most).as.length (Gf p x most).as.length,.string (str (Gf p x most).text),.slice a2 (Gf p x most).kids.length (Gf p x most).kids.length],.int .i64 (rendE p x most)]∧Ay Fk 2 G' (.slice a1 (Gf p x most).as.length (Gf p x most).as.length) (Gf p x most).as∧Ay Jo 6 G' (.slice a2 (Gf p x most).kids.length (Gf p x most).kids.length) (Gf p x most).kids):=by
 refine Az (vs:=[_,_,_]) Tryz.func157 rfl (n:=49) rfl rfl<|Ab<|Ac<|C4 M rfl rfl rfl<|?_;clear M;intro b1 w M
 refine C4 M rfl rfl rfl<|?_;clear M;intro b2 w M
 refine Cz M Bd rfl rfl<|?_;clear M;intro b3 w M
 refine Af rfl<|Aa<|Ad<|Ab<|Ab<|Ac<|Ae rfl<|Df rfl rfl<|Ae rfl<|?_
 rcases bE (decide (most < 1)) with h5b | h6b
 ·skip
  have h5:=dT h5b
  refine g_f rfl h5b<|g_f rfl h5b<|Bi rfl h5b rfl<|Aa<|Ad<|Bk rfl rfl<|Ab<|Ac<|Ap (fun a F=>Ba (cs:=[.int .u8 0,.string (str ([]:List UInt8)),.string (str ([]:List UInt8)),.slice none 0 0,.string (str ([]:List UInt8)),.slice none 0 0]) (ps:=[]) Bd.k rfl Bd (F.evp rfl) rfl) rfl<|fun a F=>?_
  refine Ar F M Bd (k:=0) rfl rfl rfl (us:=[.int .u8 0,.string (str ([]:List UInt8)),.string (str ([]:List UInt8)),.slice none 0 0,.string (str ([]:List UInt8)),.slice none 0 0]) rfl rfl (by simp [Value.oneCell']) (by simp) ?_;clear F M a;intro w a M F
  change Mem w0 G (.blk b3 [.int .u8 0,.string (str ([]:List UInt8)),.string (str ([]:List UInt8)),.slice none 0 0,.string (str ([]:List UInt8)),.slice none 0 0] 193::_::_::L) _ at M
  revert a
  refine Af rfl<|Aa<|Ad<|Aj<|Aw<|fun a F=>Cb F M (k:=0) rfl rfl Bd rfl rfl rfl rfl ?_
  have hE:rendE p x most=1:=Ys (by omega)
  have hN:Gf p x most=Qb:=Kf (by rw [hE];(first | decide | omega))
  exact ⟨_,(Gle.refl _),(M.weaken (.cons _ (.cons _ (.cons _ (sR _))))),none,none,by rw [hE,hN];rfl,by rw [hN];exact Ay.nil,by rw [hN];exact Ay.nil⟩
 ·skip
  have h6:=dF h6b
  refine g_t rfl h6b<|Ae rfl<|g_t rfl h6b<|Dn rfl rfl<|Bh rfl h6b rfl<|Aa<|Ad<|Av rfl ?_ ?_
  ·intro h7b
   have h7:=dT h7b
   refine Ab<|Ac<|Ap (fun a F=>Ba (cs:=[.int .u8 0,.string (str ([]:List UInt8)),.string (str ([]:List UInt8)),.slice none 0 0,.string (str ([]:List UInt8)),.slice none 0 0]) (ps:=[]) Bd.k rfl Bd (F.evp rfl) rfl) rfl<|fun a F=>?_
   refine Ar F M Bd (k:=0) rfl rfl rfl (us:=[.int .u8 0,.string (str ([]:List UInt8)),.string (str ([]:List UInt8)),.slice none 0 0,.string (str ([]:List UInt8)),.slice none 0 0]) rfl rfl (by simp [Value.oneCell']) (by simp) ?_;clear F M a;intro w a M F
   change Mem w0 G (.blk b3 [.int .u8 0,.string (str ([]:List UInt8)),.string (str ([]:List UInt8)),.slice none 0 0,.string (str ([]:List UInt8)),.slice none 0 0] 193::_::_::L) _ at M
   revert a
   refine Af rfl<|Aa<|Ad<|Aj<|Aw<|fun a F=>Cb F M (k:=0) rfl rfl Bd rfl rfl rfl rfl ?_
   have hE:rendE p x most=1:=Ys (by omega)
   have hN:Gf p x most=Qb:=Kf (by rw [hE];(first | decide | omega))
   exact ⟨_,(Gle.refl _),(M.weaken (.cons _ (.cons _ (.cons _ (sR _))))),none,none,by rw [hE,hN];rfl,by rw [hN];exact Ay.nil,by rw [hN];exact Ay.nil⟩
  ·intro h8b
   have h8:=dF h8b
   refine Au<|Ad<|Ab<|Ab<|Ac<|Ap (fun a F=>Am Cf rfl (F.ev rfl) (cs:=[.int .u8 p.kind,.string (str p.tag),.string (str p.key),.slice tap p.as.length tcp,.string (str p.text),.slice kap p.kids.length kcp]) rfl (M.cellsL (k:=2) rfl rfl)) rfl<|Br Amb rfl rfl (tcheck_spec (x:=p) M hkp hlp SAp SKp)<|?_;clear M;rintro _ w M rfl
   refine Af rfl<|Aa<|Ad<|Ab<|Ac<|Ae rfl<|D9 rfl rfl<|Aa<|Ad<|Av rfl ?_ ?_
   ·intro h9b
    have h9:=dF (Ag h9b)
    have hV:¬ ValidP p:=fun h_=>by have:=chkP_zero.2 h_;omega
    refine Ab<|Ac<|Ap (fun a F=>Ba (cs:=[.int .u8 0,.string (str ([]:List UInt8)),.string (str ([]:List UInt8)),.slice none 0 0,.string (str ([]:List UInt8)),.slice none 0 0]) (ps:=[]) Bd.k rfl Bd (F.evp rfl) rfl) rfl<|Ae rfl<|fun a F=>?_
    refine Ar F M Bd (k:=0) rfl rfl rfl (us:=[.int .u8 0,.string (str ([]:List UInt8)),.string (str ([]:List UInt8)),.slice none 0 0,.string (str ([]:List UInt8)),.slice none 0 0]) rfl rfl (by simp [Value.oneCell']) (by simp) ?_;clear F M a;intro w a M F
    change Mem w0 G (.blk b3 [.int .u8 0,.string (str ([]:List UInt8)),.string (str ([]:List UInt8)),.slice none 0 0,.string (str ([]:List UInt8)),.slice none 0 0] 193::_::_::L) _ at M
    revert a
    refine Af rfl<|Aa<|Ad<|Aj<|Aw<|fun a F=>Cb F M (k:=0) rfl rfl Bd rfl rfl rfl rfl ?_
    have hE:rendE p x most=Z9 p:=by rw [Aey hV];exact Afr (by omega) hV
    have hN:Gf p x most=Qb:=Kf (by rw [hE];(first | decide | omega))
    exact ⟨_,(Gle.refl _),(M.weaken (.cons _ (.cons _ (.cons _ (sR _))))),none,none,by rw [hE,hN];rfl,by rw [hN];exact Ay.nil,by rw [hN];exact Ay.nil⟩
   ·intro h10b
    have h10:=dT (Ah h10b)
    have hV:ValidP p:=chkP_zero.1 (by omega)
    refine Au<|Ad<|Ab<|Ab<|Ac<|Ap (fun a F=>Am A1 rfl (F.ev rfl) (cs:=[.int .u64 x.key,.int .u8 x.typ,.string (str x.text),.slice ma x.marks.length mc]) rfl (M.cellsL (k:=1) rfl rfl)) rfl<|Br ent191 rfl rfl (Ty (x:=x) M ht SM)<|?_;clear M;rintro _ w M rfl
    refine Af rfl<|Aa<|Ad<|Ab<|Ac<|Ae rfl<|D9 rfl rfl<|Aa<|Ad<|Av rfl ?_ ?_
    ·intro h11b
     have h11:=dF (Ag h11b)
     have hio:¬ ItemOk x:=fun h_=>by have:=Dy.2 h_;omega
     refine Ab<|Ac<|Ap (fun a F=>Ba (cs:=[.int .u8 0,.string (str ([]:List UInt8)),.string (str ([]:List UInt8)),.slice none 0 0,.string (str ([]:List UInt8)),.slice none 0 0]) (ps:=[]) Bd.k rfl Bd (F.evp rfl) rfl) rfl<|Ae rfl<|fun a F=>?_
     refine Ar F M Bd (k:=0) rfl rfl rfl (us:=[.int .u8 0,.string (str ([]:List UInt8)),.string (str ([]:List UInt8)),.slice none 0 0,.string (str ([]:List UInt8)),.slice none 0 0]) rfl rfl (by simp [Value.oneCell']) (by simp) ?_;clear F M a;intro w a M F
     change Mem w0 G (.blk b3 [.int .u8 0,.string (str ([]:List UInt8)),.string (str ([]:List UInt8)),.slice none 0 0,.string (str ([]:List UInt8)),.slice none 0 0] 193::_::_::L) _ at M
     revert a
     refine Af rfl<|Aa<|Ad<|Aj<|Aw<|fun a F=>Cb F M (k:=0) rfl rfl Bd rfl rfl rfl rfl ?_
     have hE:rendE p x most=Gt x:=by rw [Fv hio];exact Afs (by omega) hV hio
     have hN:Gf p x most=Qb:=Kf (by rw [hE];(first | decide | omega))
     exact ⟨_,(Gle.refl _),(M.weaken (.cons _ (.cons _ (.cons _ (sR _))))),none,none,by rw [hE,hN];rfl,by rw [hN];exact Ay.nil,by rw [hN];exact Ay.nil⟩
    ·intro h12b
     have h12:=dT (Ah h12b)
     have hio:ItemOk x:=Dy.1 (by omega)
     refine Au<|Ad<|Ab<|Ac<|Ap (fun a F=>Am A1 rfl (F.ev rfl) (cs:=[.int .u64 x.key,.int .u8 x.typ,.string (str x.text),.slice ma x.marks.length mc]) rfl (M.cellsL (k:=1) rfl rfl)) rfl<|Ap (fun a F=>Ba (cs:=[.int .u64 x.key,.int .u8 x.typ,.string (str x.text),.slice ma x.marks.length mc]) (ps:=[(0,.agg #[.int .u64 x.key,.int .u8 x.typ,.string (str x.text),.slice ma x.marks.length mc])]) Iy.k rfl Iy (F.evp rfl) rfl) rfl<|Ap (fun a F=>Am Cf rfl (F.ev rfl) (cs:=[.int .u8 p.kind,.string (str p.tag),.string (str p.key),.slice tap p.as.length tcp,.string (str p.text),.slice kap p.kids.length kcp]) rfl (M.cellsL (k:=2) rfl rfl)) rfl<|fun a F=>?_
     refine Ci F M F5.k Cf rfl rfl (cs:=[.int .u8 p.kind,.string (str p.tag),.string (str p.key),.slice tap p.as.length tcp,.string (str p.text),.slice kap p.kids.length kcp]) rfl rfl (by simp [Value.oneCell']) (by decide) rfl ?_;clear F M a;intro v13 w a M F
     obtain ⟨av13,cv13,rfl,hlev13,hcmv13,hlv13⟩:=M.row_shape (k:=0) rfl
     have E14:Els rdP 6 G [.int .u8 p.kind,.string (str p.tag),.string (str p.key),.slice tap p.as.length tcp,.string (str p.text),.slice kap p.kids.length kcp] [p]:=Els.one (Va (x:=p) hkp hlp SAp SKp) rfl
     obtain ⟨hnz15,Gz15,az15,cz15,hGz15,hez15,Sz15,M⟩:=M.freeze_row mono_rdP (k:=0) rfl E14 (by decide)
     clear hez15 az15 cz15
     replace SAp:=SAp.mono Fc hGz15
     replace SKp:=SKp.mono mono_rdP hGz15
     replace SM:=SM.mono Bn hGz15
     clear hnz15
     replace Sz15:Ay rdP 6 Gz15 (.slice av13 ([p]).length (cv13)) ([p]):=Sz15
     revert a
     refine Hq Alv rfl rfl (Agq hik hio ht [p] _ _ _ _ _ _ _ _ M SM Sz15 (by simp) (fun q hq=>by rw [List.mem_singleton] at hq;subst hq;exact X2 hV))<|?_;clear M;rintro _ Gk16 w hGk16 M ⟨ak16,ck16,rfl,Sk16⟩
     replace SAp:=SAp.mono Fc hGk16
     replace SKp:=SKp.mono mono_rdP hGk16
     replace SM:=SM.mono Bn hGk16
     replace Sz15:=Sz15.mono mono_rdP hGk16
     have hN1:(madesF x [p])[0]?=some (node1 x p):=by rw [Agt hV.1];rfl
     obtain ⟨be17,oe17,_,Ie17,_,Ae17,hTe17⟩:=Sk16.at hN1
     obtain ⟨tae17,kae17,rfl,hke17,hle17,SAe17,SKe17⟩:=Afx hTe17
     refine Fp Ct.k Bd Ie17 rfl rfl<|Ap (fun a F=>Am Bd rfl (F.ev rfl) (cs:=[.int .u8 ((node1 x p).kind),.string (str ((node1 x p).tag)),.string (str ((node1 x p).key)),.slice tae17 ((node1 x p).as.length) ((node1 x p).as.length),.string (str ((node1 x p).text)),.slice kae17 ((node1 x p).kids.length) ((node1 x p).kids.length)]) rfl (M.cellsA Ae17 0 (by omega) rfl)) rfl<|Cz M Bd rfl rfl<|?_;clear M;intro b18 w M
     intro a F
     refine Ar F M Bd (k:=0) rfl rfl rfl (us:=[.int .u8 ((node1 x p).kind),.string (str ((node1 x p).tag)),.string (str ((node1 x p).key)),.slice tae17 ((node1 x p).as.length) ((node1 x p).as.length),.string (str ((node1 x p).text)),.slice kae17 ((node1 x p).kids.length) ((node1 x p).kids.length)]) rfl rfl (by simp [Value.oneCell']) (by simp) ?_;clear F M a;intro w a M F
     change Mem w0 Gk16 (.blk b18 [.int .u8 ((node1 x p).kind),.string (str ((node1 x p).tag)),.string (str ((node1 x p).key)),.slice tae17 ((node1 x p).as.length) ((node1 x p).as.length),.string (str ((node1 x p).text)),.slice kae17 ((node1 x p).kids.length) ((node1 x p).kids.length)] 193::_::_::_::L) _ at M
     revert a
     refine Aa<|Ad<|Ab<|Ab<|Ac<|Ap (fun a F=>Am Bd rfl (F.ev rfl) (cs:=[.int .u8 ((node1 x p).kind),.string (str ((node1 x p).tag)),.string (str ((node1 x p).key)),.slice tae17 ((node1 x p).as.length) ((node1 x p).as.length),.string (str ((node1 x p).text)),.slice kae17 ((node1 x p).kids.length) ((node1 x p).kids.length)]) rfl (M.cellsL (k:=0) rfl rfl)) rfl<|Br Alu rfl rfl (Qq (x:=(node1 x p)) M hke17 hle17 SAe17 (weakN SKe17))<|?_;clear M;rintro _ w M rfl
     refine Af rfl<|Aa<|Ad<|Ab<|Ac<|Ae rfl<|Dc rfl rfl<|Ae rfl<|?_
     rcases bE (decide (((cntF (node1 x p):Nat):Int)=0)) with h20b | h21b
     ·skip
      have h20:=dT h20b
      refine g_f rfl h20b<|g_f rfl h20b<|g_f rfl h20b<|Bi rfl h20b rfl<|Aa<|Ad<|Bk rfl rfl<|Ab<|Ac<|Ap (fun a F=>Ba (cs:=[.int .u8 0,.string (str ([]:List UInt8)),.string (str ([]:List UInt8)),.slice none 0 0,.string (str ([]:List UInt8)),.slice none 0 0]) (ps:=[]) Bd.k rfl Bd (F.evp rfl) rfl) rfl<|fun a F=>?_
      refine Ar F M Bd (k:=1) rfl rfl rfl (us:=[.int .u8 0,.string (str ([]:List UInt8)),.string (str ([]:List UInt8)),.slice none 0 0,.string (str ([]:List UInt8)),.slice none 0 0]) rfl rfl (by simp [Value.oneCell']) (by simp) ?_;clear F M a;intro w a M F
      change Mem w0 Gk16 (.blk b18 [.int .u8 ((node1 x p).kind),.string (str ((node1 x p).tag)),.string (str ((node1 x p).key)),.slice tae17 ((node1 x p).as.length) ((node1 x p).as.length),.string (str ((node1 x p).text)),.slice kae17 ((node1 x p).kids.length) ((node1 x p).kids.length)] 193::.blk b3 [.int .u8 0,.string (str ([]:List UInt8)),.string (str ([]:List UInt8)),.slice none 0 0,.string (str ([]:List UInt8)),.slice none 0 0] 193::_::_::L) _ at M
      revert a
      refine Af rfl<|Aa<|Ad<|Aj<|Aw<|fun a F=>Cb F M (k:=1) rfl rfl Bd rfl rfl rfl rfl ?_
      have hE:rendE p x most=14:=rend_many (by omega) hV hio (by omega)
      have hN:Gf p x most=Qb:=Kf (by rw [hE];(first | decide | omega))
      exact ⟨_,(hGz15.trans hGk16),(M.weaken (.cons _ (.cons _ (.cons _ (.cons _ (sR _)))))),none,none,by rw [hE,hN];rfl,by rw [hN];exact Ay.nil,by rw [hN];exact Ay.nil⟩
     ·skip
      have h21:=dF h21b
      refine g_t rfl h21b<|Ae rfl<|g_t rfl h21b<|Ae rfl<|g_t rfl h21b<|Dn rfl rfl<|Bh rfl h21b rfl<|Aa<|Ad<|Av rfl ?_ ?_
      ·intro h22b
       have h22:=dT h22b
       refine Ab<|Ac<|Ap (fun a F=>Ba (cs:=[.int .u8 0,.string (str ([]:List UInt8)),.string (str ([]:List UInt8)),.slice none 0 0,.string (str ([]:List UInt8)),.slice none 0 0]) (ps:=[]) Bd.k rfl Bd (F.evp rfl) rfl) rfl<|fun a F=>?_
       refine Ar F M Bd (k:=1) rfl rfl rfl (us:=[.int .u8 0,.string (str ([]:List UInt8)),.string (str ([]:List UInt8)),.slice none 0 0,.string (str ([]:List UInt8)),.slice none 0 0]) rfl rfl (by simp [Value.oneCell']) (by simp) ?_;clear F M a;intro w a M F
       change Mem w0 Gk16 (.blk b18 [.int .u8 ((node1 x p).kind),.string (str ((node1 x p).tag)),.string (str ((node1 x p).key)),.slice tae17 ((node1 x p).as.length) ((node1 x p).as.length),.string (str ((node1 x p).text)),.slice kae17 ((node1 x p).kids.length) ((node1 x p).kids.length)] 193::.blk b3 [.int .u8 0,.string (str ([]:List UInt8)),.string (str ([]:List UInt8)),.slice none 0 0,.string (str ([]:List UInt8)),.slice none 0 0] 193::_::_::L) _ at M
       revert a
       refine Af rfl<|Aa<|Ad<|Aj<|Aw<|fun a F=>Cb F M (k:=1) rfl rfl Bd rfl rfl rfl rfl ?_
       have hE:rendE p x most=14:=rend_many (by omega) hV hio (by omega)
       have hN:Gf p x most=Qb:=Kf (by rw [hE];(first | decide | omega))
       exact ⟨_,(hGz15.trans hGk16),(M.weaken (.cons _ (.cons _ (.cons _ (.cons _ (sR _)))))),none,none,by rw [hE,hN];rfl,by rw [hN];exact Ay.nil,by rw [hN];exact Ay.nil⟩
      ·intro h23b
       have h23:=dF h23b
       refine Au<|Ad<|Ab<|Ac<|Ap (fun a F=>Am Bd rfl (F.ev rfl) (cs:=[.int .u8 ((node1 x p).kind),.string (str ((node1 x p).tag)),.string (str ((node1 x p).key)),.slice tae17 ((node1 x p).as.length) ((node1 x p).as.length),.string (str ((node1 x p).text)),.slice kae17 ((node1 x p).kids.length) ((node1 x p).kids.length)]) rfl (M.cellsL (k:=0) rfl rfl)) rfl<|fun a F=>?_
       refine Ar F M Bd (k:=1) rfl rfl rfl (us:=[.int .u8 ((node1 x p).kind),.string (str ((node1 x p).tag)),.string (str ((node1 x p).key)),.slice tae17 ((node1 x p).as.length) ((node1 x p).as.length),.string (str ((node1 x p).text)),.slice kae17 ((node1 x p).kids.length) ((node1 x p).kids.length)]) rfl rfl (by simp [Value.oneCell']) (by simp) ?_;clear F M a;intro w a M F
       change Mem w0 Gk16 (.blk b18 [.int .u8 ((node1 x p).kind),.string (str ((node1 x p).tag)),.string (str ((node1 x p).key)),.slice tae17 ((node1 x p).as.length) ((node1 x p).as.length),.string (str ((node1 x p).text)),.slice kae17 ((node1 x p).kids.length) ((node1 x p).kids.length)] 193::.blk b3 [.int .u8 ((node1 x p).kind),.string (str ((node1 x p).tag)),.string (str ((node1 x p).key)),.slice tae17 ((node1 x p).as.length) ((node1 x p).as.length),.string (str ((node1 x p).text)),.slice kae17 ((node1 x p).kids.length) ((node1 x p).kids.length)] 193::_::_::L) _ at M
       revert a
       refine Af rfl<|Aa<|Ad<|Aj<|fun a F=>Cb F M (k:=1) rfl rfl Bd rfl rfl rfl rfl ?_
       have hE:rendE p x most=0:=rend_ok (by omega) hV hio (by omega)
       have hN:=Aiy hE
       exact ⟨_,(hGz15.trans hGk16),(M.weaken (.cons _ (.cons _ (.cons _ (.cons _ (sR _)))))),_,_,by rw [hE,hN],by rw [hN];exact SAe17,by rw [hN];exact SKe17⟩
open Go Go.Y Go.Proofs
set_option linter.unusedSimpArgs false
set_option linter.unusedVariables false
end Go.Proofs.YtmmhmcplegpenaaGreatDoor.T
namespace Go.Proofs.YtmmhmcplegpenaaGreatDoor
open Go Go.Y
set_option linter.unusedSimpArgs false
set_option linter.unusedVariables false
structure ItemD where
 key:Nat
 typ:Nat
 text:List UInt8
 marks:List (List UInt8)
deriving DecidableEq
def Cn:Rd ItemD:=fun G cs x=>∃ (a:Option Addr) (c:Nat),cs=[.int .u64 ((x.key:Nat):Int),.int .u8 ((x.typ:Nat):Int),.string (str x.text),.slice a x.marks.length c] ∧
 x.key < 18446744073709551616∧x.typ < 256∧x.text.length≤9223372036854775807∧x.marks.length≤9223372036854775807∧Ay Dw 1 G (.slice a x.marks.length c) x.marks
theorem A0:I9 Cn:=by
 rintro G G' cs x h ⟨a,c,h1,h2,h3,h4,h5,h6⟩
 exact ⟨a,c,h1,h2,h3,h4,h5,h6.mono Bn h⟩
/-! ### Names and strings -/
def Dq (c:UInt8):Prop:=(97≤nb c∧nb c≤122)∨(48≤nb c∧nb c≤57)
def Dd (s:List UInt8):Prop:=(1≤s.length∧s.length≤16)∧∀ c∈s,Dq c
def I8 (c:UInt8):Prop:=32≤nb c∧nb c≤126
def Str (s:List UInt8):Prop:=s.length≤64∧∀ c∈s,I8 c
instance (c:UInt8):Decidable (Dq c):=by unfold Dq;infer_instance
instance (c:UInt8):Decidable (I8 c):=by unfold I8;infer_instance
instance (s:List UInt8):Decidable (Dd s):=by unfold Dd;infer_instance
instance (s:List UInt8):Decidable (Str s):=by unfold Str;infer_instance
theorem Str.nil:Str []:=⟨by simp,by simp⟩
theorem Fl {α:Type} {p:α→Prop} {s:List α} {i:Nat} {c:α} (h:∀ (m:Nat) (b:α),m < i→s[m]?=some b→p b) (hc:s[i]?=some c) (hp:p c):∀ (m:Nat) (b:α),m < i+1→s[m]?=some b→p b:=by
 intro m b hm hb
 rcases Nat.lt_or_ge m i with h1 | h1
 ·exact h m b h1 hb
 ·have:m=i:=by omega
  subst this;rw [hc] at hb;simp only [Option.some.injEq] at hb;subst hb;exact hp
theorem E6 {α:Type} {p:α→Prop} {s:List α} {i:Nat} (h:∀ (m:Nat) (b:α),m < i→s[m]?=some b→p b) (hi:s.length≤i):∀ c∈s,p c:=by
 intro c hc
 obtain ⟨m,hm⟩:=List.mem_iff_getElem?.1 hc
 exact h m c (by have:=Bj hm;omega) hm
theorem Gh {α:Type} {p:α→Prop} {s:List α} {i:Nat} {c:α} (hc:s[i]?=some c) (hp:¬ p c):¬ ∀ c∈s,p c:=fun h=>hp (h c (List.mem_of_getElem? hc))
/-- The runes that no text has, and that no name has. -/
def Ii (r:Nat):Bool:=decide ((r:Int) < 32) || decide (126 < (r:Int))
def Nf (r:Nat):Bool:=(decide ((r:Int) < 97) || decide (122 < (r:Int))) && (decide ((r:Int) < 48) || decide (57 < (r:Int)))
theorem Zt {bad:Nat→Bool} {P:UInt8→Prop} (h1:∀ b:UInt8,bad b.toNat=false↔P b) (h2:∀ r,128≤r→bad r=true) (l:List UInt8):∀ (f pos:Nat),l.length≤pos+f→(Lib.idxFuncFrom bad true (str l) f pos < 0↔∀ (m:Nat) (b:UInt8),pos≤m→l[m]?=some b→P b)
 | 0,pos,h=>by
  have:Lib.idxFuncFrom bad true (str l) 0 pos = -1:=rfl
  rw [this]
  refine ⟨fun _ m b hm hb=>?_,fun _=>by decide⟩
  have:=Bj hb;omega
 | f+1,pos,h=>by
  unfold Lib.idxFuncFrom
  by_cases hp:pos < (str l).size
  ·rw [if_pos hp]
   have hl:pos < l.length:=by rw [Cp] at hp;exact hp
   have hb:l[pos]?=some ((str l)[pos]'hp):=by rw [← Wn,getElem?_pos (str l) pos hp]
   generalize hB:(str l)[pos]'hp=B at hb
   by_cases ha:B.toNat < 128
   ·have hd:=decode_ascii (str l) pos hp (by rw [hB];exact ha)
    rw [hB] at hd
    rw [hd]
    by_cases hg:P B
    ·have hbad:bad B.toNat=false:=(h1 B).2 hg
     simp only [hbad,Bool.false_eq_true,if_false]
     rw [Zt h1 h2 l f (pos+1) (by omega)]
     constructor
     ·intro h1 m b hm hb'
      rcases Nat.eq_or_lt_of_le hm with e | e
      ·subst e;rw [hb] at hb';simp only [Option.some.injEq] at hb';subst hb';exact hg
      ·exact h1 m b (by omega) hb'
     ·exact fun h1 m b hm hb'=>h1 m b (by omega) hb'
    ·have hbad:bad B.toNat=true:=by
      cases hx:bad B.toNat with
      | true=>rfl
      | false=>exact absurd ((h1 B).1 hx) hg
     simp only [hbad,if_true]
     refine ⟨fun h1=>by omega,fun h1=>absurd (h1 pos B (Nat.le_refl _) hb) hg⟩
   ·have hd:=(decode_high (str l) pos hp (by rw [hB];omega)).1
    have hbad:bad (Utf8.decode (str l) pos).1=true:=h2 _ (by omega)
    simp only [hbad,if_true]
    refine ⟨fun h1=>by omega,fun h3=>?_⟩
    have h4:=(h1 B).2 (h3 pos B (Nat.le_refl _) hb)
    rw [h2 _ (by omega)] at h4;cases h4
  ·rw [if_neg hp]
   refine ⟨fun _ m b hm hb=>?_,fun _=>by decide⟩
   have:=Bj hb;rw [Cp] at hp;omega
theorem idx_P {bad:Nat→Bool} {P:UInt8→Prop} (h1:∀ b:UInt8,bad b.toNat=false↔P b) (h2:∀ r,128≤r→bad r=true) (l:List UInt8):Lib.idxFunc bad true (str l) < 0↔∀ c∈l,P c:=by
 unfold Lib.idxFunc
 rw [Zt h1 h2 l _ 0 (by rw [Cp];omega)]
 constructor
 ·intro h c hc
  obtain ⟨m,hm⟩:=List.mem_iff_getElem?.1 hc
  exact h m c (Nat.zero_le _) hm
 ·exact fun h m b _ hb=>h b (List.mem_of_getElem? hb)
theorem Xl (l:List UInt8):Lib.idxFunc Ii true (str l) < 0↔∀ c∈l,I8 c :=
 idx_P (fun b=>by simp only [Ii,I8,nb,Bool.or_eq_false_iff,decide_eq_false_iff_not];omega) (fun r h=>by simp only [Ii,Bool.or_eq_true,decide_eq_true_eq];omega) l
theorem Ala (l:List UInt8):Lib.idxFunc Nf true (str l) < 0↔∀ c∈l,Dq c :=
 idx_P (fun b=>by simp only [Nf,Dq,nb,Bool.and_eq_false_iff,Bool.or_eq_false_iff,decide_eq_false_iff_not];omega) (fun r h=>by simp only [Nf,Bool.and_eq_true,Bool.or_eq_true,decide_eq_true_eq];omega) l
/-! ### Which items are valid -/
def ItemOk (t:Int) (x:ItemD):Prop:=x.key≠0∧(x.typ:Int) < t∧Str x.text∧x.marks.length≤8∧∀ s∈x.marks,Dd s
instance (t:Int) (x:ItemD):Decidable (ItemOk t x):=by unfold ItemOk;infer_instance
def Gt (t:Int) (x:ItemD):Int:=if ItemOk t x then 0 else 6
theorem Dp {t:Int} {x:ItemD} (h:ItemOk t x):Gt t x=0:=by unfold Gt;rw [if_pos h]
theorem Fv {t:Int} {x:ItemD} (h:¬ ItemOk t x):Gt t x=6:=by unfold Gt;rw [if_neg h]
theorem Dy {t:Int} {x:ItemD}:Gt t x=0↔ItemOk t x:=by
 unfold Gt
 split
 ·rename_i h;exact ⟨fun _=>h,fun _=>rfl⟩
 ·rename_i h;exact ⟨fun h2=>(by cases h2),fun h2=>absurd h2 h⟩
theorem Gs {l:List (List UInt8)} {i:Nat} (h:∀ (m:Nat) (s:List UInt8),m < i→l[m]?=some s→Dd s) (hi:l.length≤i):∀ s∈l,Dd s:=E6 h hi
theorem Pq {α:Type} {p:α→Prop} {l:List α} {i:Nat} {x:α} (h:∀ (m:Nat) (s:α),m < i→l[m]?=some s→p s) (hx:l[i]?=some x) (hp:p x):∀ (m:Nat) (s:α),m < i+1→l[m]?=some s→p s:=Fl h hx hp
/-! ### Within the bounds of the statements; what is found -/
def Afe (x:ItemD):Prop:=x.text.length≤70∧x.marks.length≤12∧∀ s∈x.marks,s.length≤20
def Few (l:List ItemD):Prop:=l.length≤30∧∀ x∈l,Afe x
instance (x:ItemD):Decidable (Afe x):=by unfold Afe;infer_instance
instance (l:List ItemD):Decidable (Few l):=by unfold Few;infer_instance
theorem Few.no {l:List ItemD} {i:Nat} {x:ItemD} (h:l[i]?=some x) (hn:¬ Afe x):¬ Few l:=fun h2=>hn (h2.2 x (List.mem_of_getElem? h))
theorem Kl {x y:ItemD} (h1:x.key=y.key) (h2:x.typ=y.typ) (h3:x.text=y.text) (h4:x.marks=y.marks):x=y:=by
 cases x;cases y;simp_all
theorem Pr {α:Type} {xs ys:List α} {i:Nat} {x y:α} (h1:xs[i]?=some x) (h2:ys[i]?=some y) (h:x≠y):xs≠ys:=by
 rintro rfl;rw [h1] at h2;simp only [Option.some.injEq] at h2;exact h h2
theorem Xo {α:Type} {xs ys:List α} {i:Nat} {x y:α} (h:∀ m,m < i→xs[m]?=ys[m]?) (h1:xs[i]?=some x) (h2:ys[i]?=some y) (he:x=y):∀ m,m < i+1→xs[m]?=ys[m]?:=by
 intro m hm
 rcases Nat.lt_or_ge m i with h3 | h3
 ·exact h m h3
 ·have:m=i:=by omega
  subst this;rw [h1,h2,he]
theorem Aco {α:Type} {xs ys:List α} {i:Nat} (h:∀ m,m < i→xs[m]?=ys[m]?) (hl:xs.length=ys.length) (hi:xs.length≤i):xs=ys:=by
 apply List.ext_getElem?
 intro m
 rcases Nat.lt_or_ge m i with h3 | h3
 ·exact h m h3
 ·rw [List.getElem?_eq_none (by omega),List.getElem?_eq_none (by omega)]
def Pe (xs:List ItemD) (k:Nat) (z:Int):Prop:=(z = -1∧∀ x∈xs,x.key≠k)∨∃ (i:Nat) (x:ItemD),z=(i:Int)∧xs[i]?=some x∧x.key=k∧∀ (m:Nat) (y:ItemD),m < i→xs[m]?=some y→y.key≠k
theorem Pe.uniq {xs:List ItemD} {k:Nat} {z z':Int} (h:Pe xs k z) (h':Pe xs k z'):z=z':=by
 rcases h with ⟨rfl,h⟩ | ⟨i,x,rfl,h1,h2,h3⟩ <;> rcases h' with ⟨rfl,h'⟩ | ⟨j,y,rfl,h1',h2',h3'⟩
 ·rfl
 ·exact absurd h2' (h y (List.mem_of_getElem? h1'))
 ·exact absurd h2 (h' x (List.mem_of_getElem? h1))
 ·rcases Nat.lt_trichotomy i j with h4 | h4 | h4
  ·exact absurd h2 (h3' i x h4 h1)
  ·rw [h4]
  ·exact absurd h2' (h3 j y h4 h1')
theorem Pe.none {xs:List ItemD} {k i:Nat} (h:∀ (m:Nat) (y:ItemD),m < i→xs[m]?=some y→y.key≠k) (hi:xs.length≤i):Pe xs k (-1):=Or.inl ⟨rfl,E6 (p:=fun y:ItemD=>y.key≠k) h hi⟩
theorem Pe.some {xs:List ItemD} {k i:Nat} {x:ItemD} (h:∀ (m:Nat) (y:ItemD),m < i→xs[m]?=some y→y.key≠k) (hx:xs[i]?=some x) (hk:x.key=k):Pe xs k (i:Int):=Or.inr ⟨i,x,rfl,hx,hk,h⟩
open Go Go.Y
set_option linter.unusedSimpArgs false
set_option linter.unusedVariables false
structure KindD where
 part:T.PT
 base:Int
 sticky:Bool
 pool:Int
structure RulesD where
 kinds:List KindD
 cap:Int
structure EntD where
 item:ItemD
 size:Int
 known:Bool
def Du:Rd KindD:=fun G cs k=>∃ c1,cs=c1++[.int .i64 k.base,.bool k.sticky,.int .i64 k.pool]∧T.rdP G c1 k.part∧A2 .i64 k.base
theorem Bg:I9 Du:=by
 rintro G G' cs x h ⟨c1,h1,h2,h3⟩
 exact ⟨c1,h1,T.mono_rdP _ _ _ _ h h2,h3⟩
def C2:Rd EntD:=fun G cs x=>∃ c1,cs=c1++[.int .i64 x.size,.bool x.known]∧Cn G c1 x.item∧A2 .i64 x.size
theorem Ax:I9 C2:=by
 rintro G G' cs x h ⟨c1,h1,h2,h3⟩
 exact ⟨c1,h1,A0 _ _ _ _ h h2,h3⟩
/-- The item as the templates read it. -/
def tI (x:ItemD):T.ItemD:=⟨(x.key:Int),(x.typ:Int),x.text,x.marks⟩
theorem tI_ok {t:Int} {x:ItemD} (h:ItemOk t x):T.ItemOk (tI x):=by
 obtain ⟨h1,_,h2,h3,h4⟩:=h
 exact ⟨fun e=>h1 (by simpa [tI] using e),h2,h3,h4⟩
/-! ### The first error -/
def Ce (f:Nat→Int):Nat→Int
 | 0=>0
 | n+1=>if Ce f n=0 then f n else Ce f n
theorem Hn {f:Nat→Int} {n:Nat} (h:Ce f n=0):Ce f (n+1)=f n:=by simp [Ce,h]
theorem Qw {f:Nat→Int} {n:Nat} (h:Ce f n≠0):∀ m,n≤m→Ce f m=Ce f n:=by
  intro m hm
  induction m with
  | zero => have : n = 0 := by omega
            subst this;rfl
  | succ m ih =>
    rcases Nat.eq_or_lt_of_le hm with e | e
    · rw [e]
    · have:=ih (by omega)
      simp only [Ce,this,h,if_false]
theorem N6 {f:Nat→Int} {i n:Nat} (h:Ce f i=0) (hi:i < n) (he:f i≠0):Ce f n=f i:=by
 have h1:=Hn h
 rw [Qw (n:=i+1) (by rw [h1];exact he) n (by omega),h1]
theorem E3 {f:Nat→Int}:∀ {n:Nat},Ce f n=0↔∀ i,i < n→f i=0
 | 0=>⟨fun _ i h=>by omega,fun _=>rfl⟩
 | n+1=>by
  constructor
  ·intro h
   by_cases h0:Ce f n=0
   ·have h1:=E3.1 h0
    rw [Hn h0] at h
    intro i hi
    rcases Nat.eq_or_lt_of_le (show i≤n by omega) with e | e
    ·rw [e];exact h
    ·exact h1 i e
   ·rw [Qw h0 _ (Nat.le_succ n)] at h;exact absurd h h0
  ·intro h
   rw [Hn (E3.2 fun i hi=>h i (by omega))]
   exact h n (by omega)
theorem K7 {f g:Nat→Int}:∀ {n:Nat},(∀ i,i < n→f i=g i)→Ce f n=Ce g n
 | 0,_=>rfl
 | n+1,h=>by simp only [Ce,K7 (n:=n) fun i hi=>h i (by omega),h n (by omega)]
/-! ### Rules -/
def Ld (k:KindD):Prop:=(1≤k.base∧k.base≤2305843009213693952)∧T.ValidP k.part
def E4 (c:RulesD):Prop:=((1≤c.kinds.length∧c.kinds.length≤8)∧(1≤c.cap∧c.cap≤64))∧∀ k∈c.kinds,Ld k
open Classical in
noncomputable def Ks (c:RulesD):Int:=if E4 c then 0 else 7
theorem Np {c:RulesD} (h:E4 c):Ks c=0:=by unfold Ks;rw [if_pos h]
theorem Jb {c:RulesD} (h:¬ E4 c):Ks c=7:=by unfold Ks;rw [if_neg h]
theorem Qe {c:RulesD}:Ks c=0↔E4 c:=by
 unfold Ks
 split
 ·rename_i h;exact ⟨fun _=>h,fun _=>rfl⟩
 ·rename_i h;exact ⟨fun h2=>(by cases h2),fun h2=>absurd h2 h⟩
def Ob (c:RulesD) (x:ItemD):Int:=match c.kinds[x.typ]? with
 | some k=>k.base
 | none=>0
theorem J1 {c:RulesD} {x:ItemD} {k:KindD} (h:c.kinds[x.typ]?=some k):Ob c x=k.base:=by unfold Ob;rw [h]
noncomputable def Iu (c:RulesD) (x:ItemD):Int:=match c.kinds[x.typ]? with
 | some k=>T.rendE k.part (tI x) c.cap
 | none=>0
theorem Abq {c:RulesD} {x:ItemD} {k:KindD} (h:c.kinds[x.typ]?=some k):Iu c x=T.rendE k.part (tI x) c.cap:=by unfold Iu;rw [h]
theorem O2 {c:RulesD} {x:ItemD} (h:ItemOk (c.kinds.length:Int) x):∃ k,c.kinds[x.typ]?=some k:=Be (by have:=h.2.1;omega)
theorem Aja {c:RulesD} {x:ItemD} (hc:E4 c) (hx:ItemOk (c.kinds.length:Int) x):Iu c x=0∨Iu c x=14:=by
 obtain ⟨k,hk⟩:=O2 hx
 rw [Abq hk]
 have h1:¬ (c.cap < 1∨64 < c.cap):=by have:=hc.1.2;omega
 have h2:=(hc.2 k (List.mem_of_getElem? hk)).2
 have h3:=tI_ok hx
 by_cases h4:T.cntF (T.node1 (tI x) k.part)=0∨c.cap < (T.cntF (T.node1 (tI x) k.part):Int)
 ·exact Or.inr (T.rend_many h1 h2 h3 h4)
 ·exact Or.inl (T.rend_ok h1 h2 h3 h4)
/-! ### Items that come, entries -/
open Classical in
/-- The error of an item whose key is in use if seen. -/
noncomputable def Hl (c:RulesD) (x:ItemD) (seen:Prop):Int:=if ¬ ItemOk (c.kinds.length:Int) x then 6 else if seen then 8 else if Iu c x=0 then 0 else 14
section
variable {c:RulesD} {x:ItemD} {seen:Prop}
theorem Xk (h:¬ ItemOk (c.kinds.length:Int) x):Hl c x seen=6:=by unfold Hl;rw [if_pos h]
theorem Xh (h:ItemOk (c.kinds.length:Int) x) (h2:seen):Hl c x seen=8:=by unfold Hl;rw [if_neg (not_not_intro h),if_pos h2]
theorem Te (h:ItemOk (c.kinds.length:Int) x) (h2:¬ seen) (h3:¬ Iu c x=0):Hl c x seen=14:=by unfold Hl;rw [if_neg (not_not_intro h),if_neg h2,if_neg h3]
theorem Rg (h:ItemOk (c.kinds.length:Int) x) (h2:¬ seen) (h3:Iu c x=0):Hl c x seen=0:=by unfold Hl;rw [if_neg (not_not_intro h),if_neg h2,if_pos h3]
theorem He:Hl c x seen=0↔ItemOk (c.kinds.length:Int) x∧¬ seen∧Iu c x=0:=by
 unfold Hl
 split
 ·rename_i h;exact ⟨fun h2=>(by cases h2),fun h2=>absurd h2.1 h⟩
 ·rename_i h
  split
  ·rename_i h1;exact ⟨fun h2=>(by cases h2),fun h2=>absurd h1 h2.2.1⟩
  ·rename_i h1
   split
   ·rename_i h2;exact ⟨fun _=>⟨Classical.byContradiction h,h1,h2⟩,fun _=>rfl⟩
   ·rename_i h2;exact ⟨fun h3=>(by cases h3),fun h3=>absurd h3.2.2 h2⟩
end
def Dr (l:List EntD) (k:Nat):Prop:=∃ y∈l,y.item.key=k
def I1 (c:RulesD) (x:EntD):Prop:=(1≤x.size∧x.size≤2305843009213693952)∧(x.known=true∨x.size=Ob c x.item)
open Classical in
noncomputable def P4 (c:RulesD) (pre:List EntD) (x:EntD):Int :=
 if Hl c x.item (Dr pre x.item.key)=0 then (if I1 c x then 0 else 12) else Hl c x.item (Dr pre x.item.key)
noncomputable def Hs (c:RulesD) (l:List EntD) (i:Nat):Int:=match l[i]? with
 | some x=>P4 c (l.take i) x
 | none=>0
theorem Ol {c:RulesD} {l:List EntD} {i:Nat} {x:EntD} (h:l[i]?=some x):Hs c l i=P4 c (l.take i) x:=by unfold Hs;rw [h]
section
variable {c:RulesD} {pre:List EntD} {x:EntD}
theorem P3 (h:Hl c x.item (Dr pre x.item.key)≠0):P4 c pre x=Hl c x.item (Dr pre x.item.key):=by unfold P4;rw [if_neg h]
theorem entE_12 (h:Hl c x.item (Dr pre x.item.key)=0) (h2:¬ I1 c x):P4 c pre x=12:=by unfold P4;rw [if_pos h,if_neg h2]
theorem entE_0 (h:Hl c x.item (Dr pre x.item.key)=0) (h2:I1 c x):P4 c pre x=0:=by unfold P4;rw [if_pos h,if_pos h2]
theorem M8:P4 c pre x=0↔Hl c x.item (Dr pre x.item.key)=0∧I1 c x:=by
 unfold P4
 split
 ·rename_i h
  split
  ·rename_i h2;exact ⟨fun _=>⟨h,h2⟩,fun _=>rfl⟩
  ·rename_i h2;exact ⟨fun h3=>(by cases h3),fun h3=>absurd h3.2 h2⟩
 ·rename_i h;exact ⟨fun h2=>absurd h2 h,fun h2=>absurd h2.1 h⟩
end
/-! ### Totals -/
def Hd:List EntD→Int
 | []=>0
 | x::l=>max x.size 0+Hd l
theorem Q5:∀ l:List EntD,0≤Hd l
 | []=>Int.le_refl _
 | x::l=>by have:=Q5 l;simp only [Hd];omega
theorem Ip:∀ a b:List EntD,Hd (a++b)=Hd a+Hd b
 | [],b=>by simp [Hd]
 | x::a,b=>by simp only [List.cons_append,Hd,Ip a b];omega
theorem Ux {l:List EntD} {i:Nat} {x:EntD} (h:l[i]?=some x):Hd (l.take (i+1))=Hd (l.take i)+max x.size 0:=by
 rw [List.take_add_one,h,Ip];simp [Hd]
theorem sumF_le {l:List EntD} (i:Nat):Hd (l.take i)≤Hd l:=by
 have h:=Ip (l.take i) (l.drop i)
 rw [List.take_append_drop] at h
 have:=Q5 (l.drop i);omega
def Wk (l:List EntD):Int:=if Hd l≤4611686018427387904 then Hd l else 4611686018427387905
def Ej (l:List EntD):Int:=if Hd l≤4611686018427387904 then 0 else 13
theorem tot_big {l:List EntD} {i:Nat} (h:4611686018427387904 < Hd (l.take i)):Wk l=4611686018427387905:=by
 have:=sumF_le (l:=l) i
 unfold Wk;rw [if_neg (by omega)]
theorem tot_fit {l:List EntD} {i:Nat} {z:Int} (hz:z=Hd (l.take i)) (h:z≤4611686018427387904) (hi:l.length≤i):Wk l=z:=by
 rw [List.take_of_length_le hi] at hz
 unfold Wk;rw [if_pos (by omega),hz]
theorem Yy {l:List EntD}:4611686018427387904 < Wk l↔¬ Hd l≤4611686018427387904:=by
 unfold Wk;split
 ·rename_i h;omega
 ·rename_i h;exact ⟨fun _=>h,fun _=>by decide⟩
theorem Ajk {l:List EntD} (h:¬ 4611686018427387904 < Wk l):Ej l=0:=by unfold Ej;rw [if_pos (Classical.byContradiction fun h2=>h (Yy.2 h2))]
theorem over_no {l:List EntD} (h:4611686018427387904 < Wk l):Ej l=13:=by unfold Ej;rw [if_neg (Yy.1 h)]
theorem Ve {l:List EntD}:Ej l=0↔Hd l≤4611686018427387904:=by
 unfold Ej;split
 ·rename_i h;exact ⟨fun _=>h,fun _=>rfl⟩
 ·rename_i h;exact ⟨fun h2=>(by cases h2),fun h2=>absurd h2 h⟩
/-! ### The error of a list -/
open Classical in
noncomputable def Bw (c:RulesD) (l:List EntD):Int :=
 if ¬ E4 c then 7 else if 1024 < l.length then 3 else if Ce (Hs c l) l.length=0 then Ej l else Ce (Hs c l) l.length
section
variable {c:RulesD} {l:List EntD}
theorem Afa (h:¬ E4 c):Bw c l=7:=by unfold Bw;rw [if_pos h]
theorem Afb (h:E4 c) (h2:1024 < l.length):Bw c l=3:=by unfold Bw;rw [if_neg (not_not_intro h),if_pos h2]
theorem La {i:Nat} {x:EntD} {z:Int} (h:E4 c) (h2:¬ 1024 < l.length) (h3:Ce (Hs c l) i=0) (hx:l[i]?=some x) (hz:P4 c (l.take i) x=z) (h0:z≠0):Bw c l=z:=by
 have h4:Hs c l i≠0:=by rw [Ol hx,hz];exact h0
 have h5:=N6 h3 (Bj hx) h4
 unfold Bw
 rw [if_neg (not_not_intro h),if_neg h2,if_neg (by rw [h5];exact h4),h5,Ol hx,hz]
theorem Jh {i:Nat} (h:E4 c) (h2:¬ 1024 < l.length) (h3:Ce (Hs c l) i=0) (hi:l.length≤i):Bw c l=Ej l:=by
 have h4:Ce (Hs c l) l.length=0:=E3.2 fun j hj=>E3.1 h3 j (by omega)
 unfold Bw
 rw [if_neg (not_not_intro h),if_neg h2,if_pos h4]
theorem scan_ok {i:Nat} {x:EntD} (h3:Ce (Hs c l) i=0) (hx:l[i]?=some x) (hz:P4 c (l.take i) x=0):Ce (Hs c l) (i+1)=0:=by rw [Hn h3,Ol hx,hz]
end
/-- The first entry with a key. -/
def Wf (l:List EntD) (k:Nat) (z:Int):Prop:=(z = -1∧∀ x∈l,x.item.key≠k)∨∃ (i:Nat) (x:EntD),z=(i:Int)∧l[i]?=some x∧x.item.key=k∧∀ (m:Nat) (y:EntD),m < i→l[m]?=some y→y.item.key≠k
theorem Wf.none {l:List EntD} {k i:Nat} (h:∀ (m:Nat) (y:EntD),m < i→l[m]?=some y→y.item.key≠k) (hi:l.length≤i):Wf l k (-1):=Or.inl ⟨rfl,E6 (p:=fun y:EntD=>y.item.key≠k) h hi⟩
theorem Wf.some {l:List EntD} {k i:Nat} {x:EntD} (h:∀ (m:Nat) (y:EntD),m < i→l[m]?=some y→y.item.key≠k) (hx:l[i]?=some x) (hk:x.item.key=k):Wf l k (i:Int):=Or.inr ⟨i,x,rfl,hx,hk,h⟩
theorem Wf.has {l:List EntD} {k:Nat} {z:Int} (h:Wf l k z):0≤z↔Dr l k:=by
 rcases h with ⟨rfl,h⟩ | ⟨i,x,rfl,h1,h2,h3⟩
 ·exact ⟨fun h2=>by omega,fun ⟨y,hy,hk⟩=>absurd hk (h y hy)⟩
 ·exact ⟨fun _=>⟨x,List.mem_of_getElem? h1,h2⟩,fun _=>by omega⟩
/-! ### What the scans hand back -/
section
variable {c:RulesD} {l:List EntD} {i:Nat} {x:EntD}
theorem ck6 (hv:E4 c) (h2:¬ 1024 < l.length) (h3:Ce (Hs c l) i=0) (hx:l[i]?=some x) (h:¬ ItemOk (c.kinds.length:Int) x.item):Bw c l=6 :=
 La hv h2 h3 hx (by rw [P3 (by rw [Xk h];decide),Xk h]) (by decide)
theorem ck8 (hv:E4 c) (h2:¬ 1024 < l.length) (h3:Ce (Hs c l) i=0) (hx:l[i]?=some x) (h:ItemOk (c.kinds.length:Int) x.item) (hk:Dr (l.take i) x.item.key):Bw c l=8 :=
 La hv h2 h3 hx (by rw [P3 (by rw [Xh h hk];decide),Xh h hk]) (by decide)
theorem ck14 (hv:E4 c) (h2:¬ 1024 < l.length) (h3:Ce (Hs c l) i=0) (hx:l[i]?=some x) (h:ItemOk (c.kinds.length:Int) x.item) (hk:¬ Dr (l.take i) x.item.key) (hr:¬ Iu c x.item=0):Bw c l=14 :=
 La hv h2 h3 hx (by rw [P3 (by rw [Te h hk hr];decide),Te h hk hr]) (by decide)
theorem ck12 (hv:E4 c) (h2:¬ 1024 < l.length) (h3:Ce (Hs c l) i=0) (hx:l[i]?=some x) (h:ItemOk (c.kinds.length:Int) x.item) (hk:¬ Dr (l.take i) x.item.key) (hr:Iu c x.item=0) (hs:¬ I1 c x):Bw c l=12 :=
 La hv h2 h3 hx (entE_12 (Rg h hk hr) hs) (by decide)
theorem ck0 (h3:Ce (Hs c l) i=0) (hx:l[i]?=some x) (h:ItemOk (c.kinds.length:Int) x.item) (hk:¬ Dr (l.take i) x.item.key) (hr:Iu c x.item=0) (hs:I1 c x):Ce (Hs c l) (i+1)=0 :=
 scan_ok h3 hx (entE_0 (Rg h hk hr) hs)
end
/-- The keys that were seen. -/
def Ft (l:List EntD) (i:Nat) (ks:List Nat):Prop:=∀ q,q∈ks↔Dr (l.take i) q
theorem Ft.zero (l:List EntD):Ft l 0 []:=fun q=>⟨fun h=>by simp at h,fun ⟨y,hy,_⟩=>by simp at hy⟩
theorem Ft.step {l:List EntD} {i:Nat} {ks:List Nat} {x:EntD} (h:Ft l i ks) (hx:l[i]?=some x):Ft l (i+1) (x.item.key::ks):=by
 intro q
 rw [List.mem_cons,h q,List.take_add_one,hx]
 constructor
 ·rintro (rfl | ⟨y,hy,hk⟩)
  ·exact ⟨x,by simp,rfl⟩
  ·exact ⟨y,by simp [hy],hk⟩
 ·rintro ⟨y,hy,hk⟩
  simp only [Option.toList_some,List.mem_append,List.mem_singleton] at hy
  rcases hy with hy | rfl
  ·exact Or.inr ⟨y,hy,hk⟩
  ·exact Or.inl hk.symm
theorem tI_key {x:ItemD} (h:x.key < 18446744073709551616):A2 .u64 (tI x).key:=⟨by show (0:Int)≤((x.key:Nat):Int);omega,by show ((x.key:Nat):Int)≤18446744073709551615;omega⟩
end Go.Proofs.YtmmhmcplegpenaaGreatDoor
