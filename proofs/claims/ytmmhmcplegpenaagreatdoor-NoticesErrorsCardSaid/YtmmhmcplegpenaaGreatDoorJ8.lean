/- The walks, part R. · The walks, part V. · The walks, part L. · The walks, part W. · More of the types and functions that the walks name. · The walks, part LA. · The walks, part LB. -/
import Derived.Test.YtmmhmcplegpenaaGreatDoorJ7
import Derived.Test.YtmmhmcplegpenaaGreatDoorJ1
import Derived.Test.YtmmhmcplegpenaaGreatDoorJ5
import Derived.Test.YtmmhmcplegpenaaGreatDoorJ6
set_option linter.unusedSimpArgs false
set_option linter.unusedVariables false
namespace Go.Proofs.YtmmhmcplegpenaaGreatDoor
open Go Go.Y Go.Proofs
variable {w0 w:World} {G:A4} {L:List Res}
theorem cut_lt9 {s:List UInt8} (h:¬ s=[]):(Lib.cut s [10]).2.1.length < s.length:=by
 have h0:=List.length_pos_iff.2 h;rw [Oq]
 split
 ·simp only [List.length_drop];omega
 simpa using h0
theorem Aah {w0:World} {Rc:LoopState→Option Code→Res} {DD:Res} {l sb:Nat} {J:List UInt8→A4→List Res→Prop} {Jx:Code→A4→List Res→Prop}
  (hy:∀ (c:List UInt8) (G:A4) (L:List Res) (W:World),Globs 0 1 2 3 G→¬ c=[]→c.length≤1048576→J c G L→Mem w0 G (Rc .ready none::DD::.blk sb [.string (str c)] 9::L) W →
   YieldAt W0 0 Tryz.prog l #[.string (str (Lib.cut c [10]).1),.bool (Lib.cut c [10]).2.2] W fun x W' =>
    (x=.returned (.bool true)∧∃ G2 L2,Gle G G2∧Mem w0 G2 (Rc .ready none::DD::.blk sb [.string (str c)] 9::L2) W'∧J (Lib.cut c [10]).2.1 G2 L2) ∨
    (x=.returned (.bool false)∧∃ pe G2 L2,Gle G G2∧Mem w0 G2 (Rc .done (some pe)::DD::.blk sb [.string (str c)] 9::L2) W'∧Jx pe G2 L2))
  {w:World} {G:A4} {L:List Res} {c0:List UInt8} (HG:Globs 0 1 2 3 G) (hc:c0.length≤1048576) (hJ0:J c0 G L) (M:Mem w0 G (Rc .ready none::DD::.blk sb [.string (str c0)] 9::L) w) :
  Calls Tryz.prog 99 #[.func (.yield l) #[] #[],.pointer (some ⟨sb,0,none⟩)] w fun x W'=>∃ v,x=.returned v ∧
   ((∃ G2 L2 c2,Gle G G2∧Mem w0 G2 (Rc .ready none::DD::.blk sb [.string (str c2)] 9::L2) W'∧J [] G2 L2)∨(∃ pe G2 L2 c2,Gle G G2∧Mem w0 G2 (Rc .done (some pe)::DD::.blk sb [.string (str c2)] 9::L2) W'∧Jx pe G2 L2)):=by
 refine Py (vs:=[_,_]) Tryz.func99 rfl (n:=20) rfl rfl ?_;intro a F;refine wpIn_block<|Ajz (fun m a' w'=>∃ (c:List UInt8),∃ (Lq:List Res),m=c.length∧∃ G1,Gle G G1∧Fits 20 a' [(0,.func (.yield l) #[] #[]),(1,.pointer (some ⟨sb,0,none⟩))]∧Mem w0 G1 ((Rc .ready none)::DD::.blk sb [.string (str c)] 9::Lq) w'∧(c.length≤1048576)∧(J c G1 Lq)) _ ⟨c0,L,rfl,G,Gle.refl _,F.to ⟨rfl,rfl,trivial⟩,M,hc,hJ0⟩ ?_
 clear F M;rintro m a w ⟨c,Lq,rfl,G1,hG1,F,M,hcl,hJ⟩;replace HG:=HG.mono hG1
 iterate 2 (refine wpIn_seq ?_)
 refine N1<|B0 F (Al (agf Bq rfl) (F.ev rfl) (M.cellL (k:=2) rfl rfl)) rfl ?_;clear F a;intro a F
 refine B0 F (Js (F.ev rfl) (F.ev rfl)) rfl ?_;clear F a;intro a F;refine Hb<|Je<|O1 F rfl ?_ ?_
 ·intro h2b;have h2:=dF (Ah h2b);have h2c:(decide (c=([]:List UInt8)))=false:=(Ah h2b);refine wpIn_skip<|Je<|wpIn_block<|wpIn_seq<|N1<|B0 F (Al (agf Bq rfl) (F.ev rfl) (M.cellL (k:=2) rfl rfl)) rfl ?_;clear F a;intro a F
  refine Zl F Um rfl rfl (Mw (s:=c) (sep:=([10]:List UInt8)) M HG (by omega)) ?_;clear F M a;rintro _ w a M rfl F;have hclc3:=I9 10 c;refine B0 F (Gy (F.ev rfl)) rfl ?_;clear F a;intro a F;refine B0 F (Cr (v:=.string (str ((Lib.cut c [10]).1))) (F.ev rfl) rfl) rfl ?_;clear F a;intro a F;refine B0 F (Cr (v:=.string (str ((Lib.cut c [10]).2.1))) (F.ev rfl) rfl) rfl ?_;clear F a;intro a F;refine B0 F (Cr (v:=.bool ((Lib.cut c [10]).2.2)) (F.ev rfl) rfl) rfl ?_;clear F a;intro a F
  iterate 3 (refine B0 F (Iq (F.ev rfl)) rfl ?_;clear F a;intro a F)
  refine Hb<|Je ?_
  iterate 2 (refine wpIn_seq ?_)
  refine w_regW ?_
  iterate 3 (refine Xz F (Gy (F.ev rfl)) rfl ?_;clear F a;intro a F)
  refine Ahq (m:=0) (vs:=[.string (str ((Lib.cut c [10]).1)),.bool ((Lib.cut c [10]).2.2)]) F rfl rfl rfl (hy _ _ _ _ HG (by assumption) hcl hJ M) ?_;clear F M a;rintro x w (⟨rfl,G9,L9,hG9,M,hJ9⟩ | ⟨rfl,pe9,G9,L9,hG9,M,hJx9⟩)
  ·skip
   refine ⟨true,rfl,fun a F=>?_⟩;replace HG:=HG.mono hG9;refine Xz F (Gl (F.ev rfl)) rfl ?_;clear F a;intro a F;refine Aev<|Je<|Abr F rfl rfl ?_
   refine wpIn_skip<|Je<|N1<|B0 F (Gy (F.ev rfl)) rfl ?_;clear F a;intro a F
   refine Mv F M Bq 2 ?_;clear F M a;intro w a M F;refine Hb<|q_bn<|Je ?_
   exact ⟨_,(by have h9_:=cut_lt9 (s:=c) (by assumption);omega),_,L9,rfl,G9,(hG1.trans hG9),F.to ⟨rfl,rfl,trivial⟩,M,by omega,hJ9⟩
  refine ⟨false,rfl,fun a F=>?_⟩;replace HG:=HG.mono hG9;refine Xz F (Gl (F.ev rfl)) rfl ?_;clear F a;intro a F;refine Aev<|Je<|Sh F rfl rfl ?_
  refine wpIn_ret<|Adg<|Aia<|Adg<|Aia<|finM F (v:=.tuple #[]) (results_none rfl _ _ _) ?_
  exact ⟨_,rfl,Or.inr ⟨_,_,_,_,(hG1.trans hG9),M,hJx9⟩⟩
 intro h4b;have h4:=dT (Ai h4b);have h4c:(decide (c=([]:List UInt8)))=true:=(Ai h4b);refine wpIn_exit ?_
 iterate 2 (refine q_te ?_)
 refine q_bh<|finMn F (v:=.tuple #[]) (results_none rfl _ _ _) ?_
 exact ⟨_,rfl,Or.inl ⟨_,_,_,hG1,M,by rw [← (show c=[] by assumption)];exact hJ⟩⟩
theorem Adq (M:Mem w0 G L w) {s:List UInt8}:Calls Tryz.prog 44 #[.string (str s)] w (Ky w0 G fun L' v=>∃ b:Nat,v=.func (.func 99) #[] #[.pointer (some ⟨b,0,none⟩)]∧L' = (.blk b [.string (str s)] 9::L)):=by
 refine Ay (vs:=[_]) Tryz.func44 rfl (n:=4) rfl rfl<|Ac<|Cz M rfl rfl rfl<|?_;clear M;intro b1 w M
 refine Ab rfl<|Ac<|Ar (fun a F=>Ds (vs:=#[.pointer (some ⟨b1,0,none⟩)]) (by simp only [List.map_toArray,List.map_cons,List.map_nil,F.ev (x:=.tmp 1) rfl])) rfl<|Ab rfl<|Ae<|Ad rfl rfl<|?_
 exact ⟨_,M,_,rfl,rfl⟩
theorem Adi (M:Mem w0 G L w) (HG:Globs 0 1 2 3 G) {s:List UInt8} (hs:s.length≤9223372036854775807):Calls Tryz.prog 12 #[.string (str s)] w (Ret w0 G L fun G' v=>∃ a:Option Addr,v=.tuple #[.slice a (Ej s).1.length (Ej s).1.length,.int .i64 (((Ej s).2.1:Nat):Int),.int .i64 (Ej s).2.2]∧Au Cv 4 G' (.slice a (Ej s).1.length (Ej s).1.length) (Ej s).1):=by
 refine Py (vs:=[_]) Tryz.func12 rfl (n:=42) rfl rfl ?_;intro a F;refine wpIn_seq<|N1<|Mk F M B9 rfl rfl ?_;clear F M a;intro b1 w a M F
 refine Mk F M Cg rfl rfl ?_;clear F M a;intro b3 w a M F;refine Mk F M O4 rfl rfl ?_;clear F M a;intro b5 w a M F;refine Hb<|Je ?_
 iterate 2 (refine wpIn_seq ?_)
 refine N1<|B0 F (Gy (F.ev rfl)) rfl ?_;clear F a;intro a F
 refine B0 F (Dc Bq.k (F.ev rfl)) rfl ?_;clear F a;intro a F;refine B0 F (Hw (F.ev rfl) (F.ev rfl)) rfl ?_;clear F a;intro a F;refine Hb<|Je<|O1 F rfl ?_ ?_
 ·intro h7b;have h7:=dT h7b;refine wpIn_seq<|N1<|Mv F M B9 2 ?_;clear F M a;intro w a M F
  refine Mv F M Cg 1 ?_;clear F M a;intro w a M F;refine Mv F M O4 0 ?_;clear F M a;intro w a M F;refine Hb<|Je<|wpIn_ret<|Adg<|finM F (X0 F M (k1:=2) (k2:=1) (k3:=0) rfl rfl rfl rfl (agf B9 rfl) (agf Cg rfl) (agf O4 rfl) rfl rfl rfl) ?_
  exact ⟨_,(Gle.refl _),M.weaken dS3,by rw [Aig (by omega)];exact ⟨none,rfl,Au.nil⟩⟩
 intro h8b;have h8:=dF h8b;refine wpIn_skip<|Je ?_
 iterate 2 (refine wpIn_seq ?_)
 refine N1<|B0 F (Gy (F.ev rfl)) rfl ?_;clear F a;intro a F
 refine Zm F ent44 rfl rfl (Adq (s:=s) M) ?_;clear F M a;rintro _ _ w a M ⟨bs9,rfl,rfl⟩ F;refine Hb<|Je<|wpIn_block ?_
 replace M:=M.perm (Ao _ 3 _ rfl);change Mem w0 G (_::_::_::_::L) _ at M;have M:=(M.nilrow 26 4).perm (List.Perm.swap _ _ _);replace M:=M.perm (Ao _ 1 _ rfl);replace M:=M.perm (Ao _ 3 _ rfl);replace M:=M.perm (Ao _ 4 _ rfl);replace M:=M.perm (Ao _ 3 _ rfl);replace M:=M.perm (Ao _ 4 _ rfl);change Mem w0 G (_::_::_::_::_::L) _ at M;change Mem w0 G (.blk bs9 [.string (str s)] 9::.blk b1 [.slice none 0 0] 22::.blk b3 [.int .i64 0] 3::.blk b5 [.int .i64 0] 27::.row (.slice none 0 0) 0 ([]) 26 4::L) _ at M;refine W9 F M rfl ent99 (fun fn l D Rc W hRc M2=>?_);clear M;refine Calls.mono (Aah (Rc:=Rc) (DD:=.obj D (.deferred (some []))) (l:=l) (sb:=bs9) (J:=(fun c G' L'=>Gle G G'∧∃ (ar:Option Addr) (nr cr:Nat) (csr:List Value) (xs:List ItemD),L' = (.blk b1 [.slice ar nr cr] 22::.blk b3 [.int .i64 0] 3::.blk b5 [.int .i64 0] 27::.row (.slice ar nr cr) nr csr 26 4::L)∧Els Cv 4 G' csr xs∧nr=xs.length∧Qw s xs c)) (Jx:=(fun pe G' L'=>Gle G G'∧pe=Code.ret∧∃ (n:Nat) (e:Int),L' = (.blk b1 [.slice none 0 0] 22::.blk b3 [.int .i64 ((n:Nat):Int)] 3::.blk b5 [.int .i64 e] 27::L)∧Ej s=([],n,e))) ?_ HG (by omega) ⟨Gle.refl _,_,_,_,_,_,rfl,Els.nil,rfl,Qw.start (by omega)⟩ M2) ?_
 ·intro c Gc Lc Wc HGc hne hcl hJ M;obtain ⟨hGc,ar,nr,cr,csr,xs,rfl,Er,hnr,hP⟩:=hJ;subst hnr;obtain ⟨f9,hf9,hp9,hx9,hok9⟩:=id hP;rw [hRc] at M;clear HG M2;have HG:=HGc;have hcl9:=I9 10 c;refine yield2 F rfl rfl M (fun a F=>?_);refine wpIn_seq<|Jj (by kernel_rfl) ?_
  refine B0 F (Iq (F.ev rfl)) rfl ?_;clear F;intro a F;refine Hb<|Je<|Jj (by kernel_rfl) ?_
  refine B0 F (Iq (F.ev rfl)) rfl ?_;clear F;intro a F;refine Hb<|Je ?_
  intro W2 M3;refine ⟨rfl,?_⟩;clear M;have M:=M3;clear M3;refine wpIn_block<|wpIn_seq<|Jj (by kernel_rfl) ?_
  refine B0 F (Gy (F.ev rfl)) rfl ?_;clear F;intro a F;refine Xw F ent45 rfl rfl (Aiw (s:=(Lib.cut c [10]).1) M HG (by omega)) ?_;clear F M;rintro _ Gk10 w a hGk10 M ⟨xk10,mak10,mck10,bk10,rfl,hIk10,SMk10,hyk10,hnk10⟩ F;replace HG:=HG.mono hGk10;replace Er:=Er.mono Aw hGk10;refine B0 F (Gy (F.ev rfl)) rfl ?_;clear F;intro a F;refine B0 F (Cr (v:=.agg #[.int .u64 ((xk10.key:Nat):Int),.int .u8 ((xk10.typ:Nat):Int),.string (str xk10.text),.slice mak10 xk10.marks.length mck10]) (F.ev rfl) rfl) rfl ?_;clear F;intro a F;refine B0 F (Cr (v:=.bool bk10) (F.ev rfl) rfl) rfl ?_;clear F;intro a F;refine Mk F M Bf rfl rfl ?_;clear F M;intro b11 w a M F;refine Cj F M Bf 0 ?_;clear F M;intro w a M F;change Mem w0 Gk10 (.blk b11 [.int .u64 ((xk10.key:Nat):Int),.int .u8 ((xk10.typ:Nat):Int),.string (str xk10.text),.slice mak10 xk10.marks.length mck10] 26::_::_::_::_::_::_::_::L) _ at M;refine B0 F (Iq (F.ev rfl)) rfl ?_;clear F;intro a F;refine Hb<|Je ?_
  iterate 2 (refine wpIn_seq ?_)
  refine Jj (by kernel_rfl) ?_;refine B0 F (Gy (F.ev rfl)) rfl ?_;clear F;intro a F;refine B0 F (Gl (F.ev rfl)) rfl ?_;clear F;intro a F;refine B0 F (Gy (F.ev rfl)) rfl ?_;clear F;intro a F
  rcases bE (!((Lib.cut c [10]).2.2)) with h13b | h14b
  ·skip
   have h13:=Ah h13b;have h13c:((Lib.cut c [10]).2.2)=false:=(Ah h13b)
   iterate 2 (refine Tc F rfl rfl rfl (Ak h13c) ?_;clear F;intro a F)
   refine B0 F (N6 (F.ev rfl) (Ak h13c) (F.ev rfl)) rfl ?_;clear F;intro a F;refine Hb<|Je<|Sh F rfl rfl ?_
   refine wpIn_seq<|Jj (by kernel_rfl) ?_
   refine B0 F (Al (agf B9 rfl) (F.ev rfl) (M.cellL (k:=4) rfl rfl)) rfl ?_;clear F;intro a F;refine B0 F (D8 B9.k (F.ev rfl)) rfl ?_;clear F;intro a F;refine B0 F (Gf (F.ev rfl) (F.ev rfl) (C0 (by omega) (by omega))) rfl ?_;clear F;intro a F;refine Mv F M B9 4 ?_;clear F M;intro w a M F;refine Mv F M Cg 5 ?_;clear F M;intro w a M F;refine Mv F M O4 6 ?_;clear F M;intro w a M F;refine Hb<|Je<|wpIn_ret<|Adg<|Aia ?_
   replace M:=M.perm (Ao _ 6 _ rfl);replace M:=M.perm (Ao _ 6 _ rfl);replace M:=M.perm (Ao _ 6 _ rfl);replace M:=M.perm (Ao _ 6 _ rfl);replace M:=M.perm (Ao _ 6 _ rfl);replace M:=M.perm (Ao _ 6 _ rfl);change Mem w0 Gk10 (_::_::_::.blk b1 [.slice none 0 0] 22::.blk b3 [.int .i64 (((xs.length:Nat):Int)+1)] 3::.blk b5 [.int .i64 5] 27::.blk b11 [.int .u64 ((xk10.key:Nat):Int),.int .u8 ((xk10.typ:Nat):Int),.string (str xk10.text),.slice mak10 xk10.marks.length mck10] 26::_::L) _ at M;rw [show (((xs.length:Nat):Int)+1)=(((xs.length+1:Nat)):Int) by omega] at M;obtain ⟨w',hend,M⟩:=M9 (some .ret) (M.weaken (cC (.cons_cons _ (cC (.cons_cons _ (cC (.cons_cons _ (cN (.cons _ (sR _))))))))))
   exact ⟨_,w',hend,Or.inr ⟨rfl,.ret,_,_,hGk10,by rw [hRc];exact M,hGc.trans hGk10,rfl,_,_,rfl,by first | exact hP.bad hne (Or.inl (fun h_=>absurd (show true=false from h_.symm.trans (by assumption)) (by decide))) | exact hP.bad hne (Or.inr (hnk10 (by assumption)))⟩⟩
  have h14:=Ai h14b;have h14c:((Lib.cut c [10]).2.2)=true:=(Ai h14b);refine N9 F rfl rfl rfl (Aj h14c) ?_;refine B0 F (Gy (F.ev rfl)) rfl ?_;clear F;intro a F;refine N9 F rfl rfl rfl (Aj h14c) ?_;refine B0 F (Gl (F.ev rfl)) rfl ?_;clear F;intro a F;refine B0 F (N7 (F.ev rfl) (Aj h14c) (F.ev rfl)) rfl ?_;clear F;intro a F;refine Hb<|Je<|O1 F rfl ?_ ?_
  ·intro h15b;have h15:=Ah h15b;have h15c:(bk10)=false:=(Ah h15b);refine wpIn_seq<|Jj (by kernel_rfl) ?_
   refine B0 F (Al (agf B9 rfl) (F.ev rfl) (M.cellL (k:=4) rfl rfl)) rfl ?_;clear F;intro a F;refine B0 F (D8 B9.k (F.ev rfl)) rfl ?_;clear F;intro a F;refine B0 F (Gf (F.ev rfl) (F.ev rfl) (C0 (by omega) (by omega))) rfl ?_;clear F;intro a F;refine Mv F M B9 4 ?_;clear F M;intro w a M F;refine Mv F M Cg 5 ?_;clear F M;intro w a M F;refine Mv F M O4 6 ?_;clear F M;intro w a M F;refine Hb<|Je<|wpIn_ret<|Adg<|Aia ?_
   replace M:=M.perm (Ao _ 6 _ rfl);replace M:=M.perm (Ao _ 6 _ rfl);replace M:=M.perm (Ao _ 6 _ rfl);replace M:=M.perm (Ao _ 6 _ rfl);replace M:=M.perm (Ao _ 6 _ rfl);replace M:=M.perm (Ao _ 6 _ rfl);change Mem w0 Gk10 (_::_::_::.blk b1 [.slice none 0 0] 22::.blk b3 [.int .i64 (((xs.length:Nat):Int)+1)] 3::.blk b5 [.int .i64 5] 27::.blk b11 [.int .u64 ((xk10.key:Nat):Int),.int .u8 ((xk10.typ:Nat):Int),.string (str xk10.text),.slice mak10 xk10.marks.length mck10] 26::_::L) _ at M;rw [show (((xs.length:Nat):Int)+1)=(((xs.length+1:Nat)):Int) by omega] at M;obtain ⟨w',hend,M⟩:=M9 (some .ret) (M.weaken (cC (.cons_cons _ (cC (.cons_cons _ (cC (.cons_cons _ (cN (.cons _ (sR _))))))))))
   exact ⟨_,w',hend,Or.inr ⟨rfl,.ret,_,_,hGk10,by rw [hRc];exact M,hGc.trans hGk10,rfl,_,_,rfl,by first | exact hP.bad hne (Or.inl (fun h_=>absurd (show true=false from h_.symm.trans (by assumption)) (by decide))) | exact hP.bad hne (Or.inr (hnk10 (by assumption)))⟩⟩
  intro h16b;have h16:=Ai h16b;have h16c:(bk10)=true:=(Ai h16b);refine wpIn_skip<|Je ?_
  iterate 2 (refine wpIn_seq ?_)
  refine Jj (by kernel_rfl) ?_;refine B0 F (Al (agf B9 rfl) (F.ev rfl) (M.cellL (k:=4) rfl rfl)) rfl ?_;clear F;intro a F;refine B0 F (D8 B9.k (F.ev rfl)) rfl ?_;clear F;intro a F;refine B0 F (Rz (F.ev rfl) (F.ev rfl)) rfl ?_;clear F;intro a F;refine Hb<|Je<|O1 F rfl ?_ ?_
  ·intro h17b;have h17:=dT h17b;refine wpIn_seq<|Jj (by kernel_rfl) ?_
   refine B0 F (Al (agf B9 rfl) (F.ev rfl) (M.cellL (k:=4) rfl rfl)) rfl ?_;clear F;intro a F;refine B0 F (D8 B9.k (F.ev rfl)) rfl ?_;clear F;intro a F;refine B0 F (Gf (F.ev rfl) (F.ev rfl) (C0 (by omega) (by omega))) rfl ?_;clear F;intro a F;refine Mv F M B9 4 ?_;clear F M;intro w a M F;refine Mv F M Cg 5 ?_;clear F M;intro w a M F;refine Mv F M O4 6 ?_;clear F M;intro w a M F;refine Hb<|Je<|wpIn_ret<|Adg<|Aia ?_
   replace M:=M.perm (Ao _ 6 _ rfl);replace M:=M.perm (Ao _ 6 _ rfl);replace M:=M.perm (Ao _ 6 _ rfl);replace M:=M.perm (Ao _ 6 _ rfl);replace M:=M.perm (Ao _ 6 _ rfl);replace M:=M.perm (Ao _ 6 _ rfl);change Mem w0 Gk10 (_::_::_::.blk b1 [.slice none 0 0] 22::.blk b3 [.int .i64 (((xs.length:Nat):Int)+1)] 3::.blk b5 [.int .i64 3] 27::.blk b11 [.int .u64 ((xk10.key:Nat):Int),.int .u8 ((xk10.typ:Nat):Int),.string (str xk10.text),.slice mak10 xk10.marks.length mck10] 26::_::L) _ at M;rw [show (((xs.length:Nat):Int)+1)=(((xs.length+1:Nat)):Int) by omega] at M;obtain ⟨w',hend,M⟩:=M9 (some .ret) (M.weaken (cC (.cons_cons _ (cC (.cons_cons _ (cC (.cons_cons _ (cN (.cons _ (sR _))))))))))
   exact ⟨_,w',hend,Or.inr ⟨rfl,.ret,_,_,hGk10,by rw [hRc];exact M,hGc.trans hGk10,rfl,_,_,rfl,by exact hP.full hne (by assumption) (hyk10 (by assumption)) (by omega)⟩⟩
  intro h18b;have h18:=dF h18b;refine wpIn_skip<|Je<|Jj (by kernel_rfl) ?_
  refine B0 F (Al (agf B9 rfl) (F.ev rfl) (M.cellL (k:=4) rfl rfl)) rfl ?_;clear F;intro a F;refine B0 F (Af Bf rfl (F.ev rfl) (cs:=[.int .u64 ((xk10.key:Nat):Int),.int .u8 ((xk10.typ:Nat):Int),.string (str xk10.text),.slice mak10 xk10.marks.length mck10]) rfl (M.cellsL (k:=0) rfl rfl)) rfl ?_;clear F;intro a F;refine Bk F M B9.k Bf rfl rfl (cs:=[.int .u64 ((xk10.key:Nat):Int),.int .u8 ((xk10.typ:Nat):Int),.string (str xk10.text),.slice mak10 xk10.marks.length mck10]) rfl rfl (by simp [Value.oneCell']) (by decide) rfl ?_;clear F M;intro v19 w a M F;obtain ⟨av19,cv19,rfl,hlev19,hcmv19,hlv19⟩:=M.row_shape (k:=0) rfl;have Eb:Els Cv 4 Gk10 [.int .u64 ((xk10.key:Nat):Int),.int .u8 ((xk10.typ:Nat):Int),.string (str xk10.text),.slice mak10 xk10.marks.length mck10] [xk10]:=⟨[.int .u64 ((xk10.key:Nat):Int),.int .u8 ((xk10.typ:Nat):Int),.string (str xk10.text),.slice mak10 xk10.marks.length mck10],[],rfl,rfl,⟨mak10,mck10,rfl,hIk10.1,hIk10.2.1,hIk10.2.2,(by have h_:=SMk10.bound;omega),SMk10⟩,rfl⟩;refine Ci F M (k:=8) (k2:=0) rfl rfl B9.k Bf rfl rfl (by decide) rfl rfl (by show _ * 56≤_;(try simp only [List.length_drop,List.length_take,List.length_append,List.length_cons,List.length_nil]);omega) (by (try simp only [List.length_drop,List.length_take,List.length_append,List.length_cons,List.length_nil]);omega) rfl ?_;clear F M;intro v20 w a M F;have Ev20:=Els.append Er Eb;obtain ⟨av20,cv20,rfl,hlev20,hcmv20,hlv20⟩:=M.row_shape (k:=8) rfl;refine Mv F M B9 5 ?_;clear F M;intro w a M F;refine Hb<|q_bn ?_
  replace M:=M.perm (Ao _ 8 _ rfl);replace M:=M.perm (Ao _ 8 _ rfl);replace M:=M.perm (Ao _ 8 _ rfl);replace M:=M.perm (Ao _ 8 _ rfl);replace M:=M.perm (Ao _ 8 _ rfl);replace M:=M.perm (Ao _ 8 _ rfl);replace M:=M.perm (Ao _ 8 _ rfl);change Mem w0 Gk10 (_::_::_::.blk b1 [.slice av20 (xs.length+1) (cv20)] 22::_::_::_::_::.blk b11 [.int .u64 ((xk10.key:Nat):Int),.int .u8 ((xk10.typ:Nat):Int),.string (str xk10.text),.slice mak10 xk10.marks.length mck10] 26::L) _ at M;obtain ⟨w',hend,M⟩:=M9 none (M.weaken (cC (.cons_cons _ (cC (.cons_cons _ (cC (.cons_cons _ (cC (cN (.cons _ (sR _)))))))))))
  exact ⟨_,w',hend,Or.inl ⟨rfl,_,_,hGk10,by rw [hRc];exact M,hGc.trans hGk10,_,_,_,_,_,rfl,Ev20,by simp,hP.next hne (by assumption) (hyk10 (by assumption)) (by omega)⟩⟩
 rintro x W' ⟨v,rfl,(⟨G2,L2,c2,hG2,M,hJ⟩ | ⟨pe,G2,L2,c2,hG2,M,hJ⟩)⟩
 ·skip
  obtain ⟨hG9,ar,nr,cr,csr,xs,rfl,Er,hnr,hP⟩:=hJ;subst hnr;have hp:=hP.fin;obtain ⟨f9,hf9,hp9,hx9,hok9⟩:=id hP;refine ⟨v,none,G2,_,.ready,rfl,(fun h=>by cases h),hG2,M,fun w M=>?_⟩;clear hRc M2;replace HG:=HG.mono hG2;refine q_bn<|Je<|wpIn_seq ?_
  obtain ⟨hnz21,Gz21,az21,cz21,hGz21,hez21,Sz21,M⟩:=M.freeze_row Aw (k:=5) rfl Er (by decide);clear hez21 az21 cz21;replace HG:=HG.mono hGz21;change Mem w0 Gz21 ((.obj D (.deferred (some [])))::.blk bs9 [.string (str c2)] 9::.blk b1 [.slice ar xs.length cr] 22::.blk b3 [.int .i64 0] 3::.blk b5 [.int .i64 0] 27::L) _ at M;refine w_regXD<|B0 F (Al (agf B9 rfl) (F.ev rfl) (M.cellL (k:=2) rfl rfl)) rfl ?_;clear F a;intro a F
  refine Xw F Aom rfl rfl (Wy (xs:=xs) M Sz21 (by omega) (fun x hx=>by have:=(hok9 x hx).2.2.2.1;omega)) ?_;clear F M a;rintro _ Gq22 w a hGq22 M ⟨aq22,rfl,Sq22⟩ F;replace HG:=HG.mono hGq22;replace Sz21:=Sz21.mono Aw hGq22;refine Mv F M B9 2 ?_;clear F M a;intro w a M F;refine Mv F M Cg 3 ?_;clear F M a;intro w a M F;refine Mv F M O4 4 ?_;clear F M a;intro w a M F;refine Hb<|Je<|wpIn_ret ?_
  change Mem w0 Gq22 (_::_::.blk b1 [.slice aq22 xs.length xs.length] 22::.blk b3 [.int .i64 0] 3::.blk b5 [.int .i64 0] 27::L) _ at M;refine finMD F M (v:=.tuple #[.slice aq22 xs.length xs.length,.int .i64 0,.int .i64 0]) (fun w_ M_=>X0 F M_ (k1:=1) (k2:=2) (k3:=3) rfl rfl rfl rfl (agf B9 rfl) (agf Cg rfl) (agf O4 rfl) rfl rfl rfl) (fun w_ M_=>?_)
  exact ⟨_,((hG2.trans hGz21).trans hGq22),M_.weaken dS4,by rw [hp];exact ⟨aq22,rfl,Sq22⟩⟩
 obtain ⟨hG9,rfl,n9,e9,rfl,hp⟩:=hJ;refine ⟨v,some .ret,G2,_,.done,rfl,(fun h=>by cases h),hG2,M,fun w M=>?_⟩;clear hRc M2;replace HG:=HG.mono hG2;refine wpIn_ret<|Aia<|Adg ?_
 change Mem w0 G2 (_::_::_::_::_::L) _ at M;refine finMD F M (v:=.tuple #[.slice none 0 0,.int .i64 ((n9:Nat):Int),.int .i64 e9]) (fun w_ M_=>X0 F M_ (k1:=1) (k2:=2) (k3:=3) rfl rfl rfl rfl (agf B9 rfl) (agf Cg rfl) (agf O4 rfl) rfl rfl rfl) (fun w_ M_=>?_)
 exact ⟨_,hG2,M_.weaken dS4,by rw [hp];exact ⟨none,rfl,Au.nil⟩⟩
theorem d2:Lib.decDigits 2=[50]:=by rw [Lib.decDigits,dif_pos (by decide)];rfl
theorem d0:Lib.decDigits 0=[48]:=by rw [Lib.decDigits,dif_pos (by decide)];rfl
theorem Afv {G:A4} {a:Option Addr} {c:Nat} {xs:List ItemD} (S:Au Cv 4 G (.slice a xs.length c) xs):∀ x∈xs,x.key < 18446744073709551616∧x.typ < 256:=by
 intro x hx;obtain ⟨i,hi⟩:=List.mem_iff_getElem?.1 hx;obtain ⟨b,o,cs,_,_,_,_,hr⟩:=S.index hi;obtain ⟨a',c',_,h1,h2,_⟩:=hr
 exact ⟨h1,h2⟩
def ti2:TI:=⟨.int .i64,1,8,.int .i64 0⟩
theorem Ld:TOK Tryz.prog 2 ti2:=⟨by kernel_rfl,by kernel_rfl,by kernel_rfl⟩
def ti49:TI:=⟨.slice 81,1,24,.slice none 0 0⟩
theorem Dr:TOK Tryz.prog 49 ti49:=⟨by kernel_rfl,by kernel_rfl,by kernel_rfl⟩
def ti51:TI:=⟨.struct [(0,1,49),(1,1,3)],2,32,.agg #[.slice none 0 0,.int .i64 0]⟩
theorem Co:TOK Tryz.prog 51 ti51:=⟨by kernel_rfl,by kernel_rfl,by kernel_rfl⟩
def ti52:TI:=⟨.slice 69,1,24,.slice none 0 0⟩
theorem Br:TOK Tryz.prog 52 ti52:=⟨by kernel_rfl,by kernel_rfl,by kernel_rfl⟩
def ti54:TI:=⟨.struct [(0,1,52)],1,24,.agg #[.slice none 0 0]⟩
theorem Ba:TOK Tryz.prog 54 ti54:=⟨by kernel_rfl,by kernel_rfl,by kernel_rfl⟩
def ti69:TI:=⟨.struct [(0,4,26),(4,1,2),(5,1,4)],6,72,.agg #[.int .u64 0,.int .u8 0,.string ⟨#[]⟩,.slice none 0 0,.int .i64 0,.bool false]⟩
theorem Bu:TOK Tryz.prog 69 ti69:=⟨by kernel_rfl,by kernel_rfl,by kernel_rfl⟩
def ti81:TI:=⟨.struct [(0,6,79),(6,1,2),(7,1,4),(8,1,3)],9,128,.agg #[.int .u8 0,.string ⟨#[]⟩,.string ⟨#[]⟩,.slice none 0 0,.string ⟨#[]⟩,.slice none 0 0,.int .i64 0,.bool false,.int .i64 0]⟩
theorem Fz:TOK Tryz.prog 81 ti81:=⟨by kernel_rfl,by kernel_rfl,by kernel_rfl⟩
def ti204:TI:=⟨.func,1,8,.nilFunc⟩
theorem tok204:TOK Tryz.prog 204 ti204:=⟨by kernel_rfl,by kernel_rfl,by kernel_rfl⟩
def ti205:TI:=⟨.func,1,8,.nilFunc⟩
theorem tok205:TOK Tryz.prog 205 ti205:=⟨by kernel_rfl,by kernel_rfl,by kernel_rfl⟩
def ti207:TI:=⟨.struct [(0,1,4),(1,1,3),(2,1,22),(3,1,205),(4,1,204)],5,56,.agg #[.bool false,.int .i64 0,.slice none 0 0,.nilFunc,.nilFunc]⟩
theorem Ha:TOK Tryz.prog 207 ti207:=⟨by kernel_rfl,by kernel_rfl,by kernel_rfl⟩
theorem ent61:Ent Tryz.prog 61:=.mk' Tryz.func61 (by kernel_rfl) (by kernel_rfl)
theorem Agm:Ent Tryz.prog 66:=.mk' Tryz.func66 (by kernel_rfl) (by kernel_rfl)
theorem ent67:Ent Tryz.prog 67:=.mk' Tryz.func67 (by kernel_rfl) (by kernel_rfl)
theorem Amu:Ent Tryz.prog 68:=.mk' Tryz.func68 (by kernel_rfl) (by kernel_rfl)
theorem ent70:Ent Tryz.prog 70:=.mk' Tryz.func70 (by kernel_rfl) (by kernel_rfl)
theorem ent71:Ent Tryz.prog 71:=.mk' Tryz.func71 (by kernel_rfl) (by kernel_rfl)
theorem ent77:Ent Tryz.prog 77:=.mk' Tryz.func77 (by kernel_rfl) (by kernel_rfl)
theorem Uf:Ent Tryz.prog 78:=.mk' Tryz.func78 (by kernel_rfl) (by kernel_rfl)
theorem ent79:Ent Tryz.prog 79:=.mk' Tryz.func79 (by kernel_rfl) (by kernel_rfl)
theorem Amt:Ent Tryz.prog 80:=.mk' Tryz.func80 (by kernel_rfl) (by kernel_rfl)
theorem Aos:Ent Tryz.prog 111:=.mk' Tryz.func111 (by kernel_rfl) (by kernel_rfl)
theorem ent112:Ent Tryz.prog 112:=.mk' Tryz.func112 (by kernel_rfl) (by kernel_rfl)
theorem Aor:Ent Tryz.prog 113:=.mk' Tryz.func113 (by kernel_rfl) (by kernel_rfl)
theorem Aoq:Ent Tryz.prog 114:=.mk' Tryz.func114 (by kernel_rfl) (by kernel_rfl)
theorem Ul:Ent Tryz.prog 115:=.mk' Tryz.func115 (by kernel_rfl) (by kernel_rfl)
theorem Qq:Ent Tryz.prog 116:=.mk' Tryz.func116 (by kernel_rfl) (by kernel_rfl)
theorem Uk:Ent Tryz.prog 117:=.mk' Tryz.func117 (by kernel_rfl) (by kernel_rfl)
theorem ent118:Ent Tryz.prog 118:=.mk' Tryz.func118 (by kernel_rfl) (by kernel_rfl)
theorem Uj:Ent Tryz.prog 119:=.mk' Tryz.func119 (by kernel_rfl) (by kernel_rfl)
theorem Aop:Ent Tryz.prog 120:=.mk' Tryz.func120 (by kernel_rfl) (by kernel_rfl)
theorem Yo:Ent Tryz.prog 121:=.mk' Tryz.func121 (by kernel_rfl) (by kernel_rfl)
theorem ent131:Ent Tryz.prog 131:=.mk' Tryz.func131 (by kernel_rfl) (by kernel_rfl)
theorem Aon:Ent Tryz.prog 139:=.mk' Tryz.func139 (by kernel_rfl) (by kernel_rfl)
theorem ent140:Ent Tryz.prog 140:=.mk' Tryz.func140 (by kernel_rfl) (by kernel_rfl)
theorem ent154:Ent Tryz.prog 154:=.mk' Tryz.func154 (by kernel_rfl) (by kernel_rfl)
theorem ent156:Ent Tryz.prog 156:=.mk' Tryz.func156 (by kernel_rfl) (by kernel_rfl)
theorem ent157:Ent Tryz.prog 157:=.mk' Tryz.func157 (by kernel_rfl) (by kernel_rfl)
theorem ent158:Ent Tryz.prog 158:=.mk' Tryz.func158 (by kernel_rfl) (by kernel_rfl)
theorem Yn:Ent Tryz.prog 159:=.mk' Tryz.func159 (by kernel_rfl) (by kernel_rfl)
theorem Aoi:Ent Tryz.prog 160:=.mk' Tryz.func160 (by kernel_rfl) (by kernel_rfl)
theorem ent161:Ent Tryz.prog 161:=.mk' Tryz.func161 (by kernel_rfl) (by kernel_rfl)
theorem ent162:Ent Tryz.prog 162:=.mk' Tryz.func162 (by kernel_rfl) (by kernel_rfl)
theorem ent163:Ent Tryz.prog 163:=.mk' Tryz.func163 (by kernel_rfl) (by kernel_rfl)
theorem ent164:Ent Tryz.prog 164:=.mk' Tryz.func164 (by kernel_rfl) (by kernel_rfl)
theorem Aog:Ent Tryz.prog 168:=.mk' Tryz.func168 (by kernel_rfl) (by kernel_rfl)
theorem ent190:Ent Tryz.prog 190:=.mk' Tryz.func190 (by kernel_rfl) (by kernel_rfl)
theorem Ro (M:Mem w0 G L w) {n:Int}:Calls Tryz.prog 114 #[.int .i64 n] w (Cs w0 G L fun v=>v=.bool (decide (1≤n∧n≤2305843009213693952))):=by
 refine Ay (vs:=[_]) Tryz.func114 rfl (n:=9) rfl rfl<|Ac<|Ab rfl<|Ac<|Aa rfl<|Kv rfl rfl<|Aa rfl<|?_
 rcases bE (decide (1≤n)) with h1b | h2b
 ·skip
  have h1:=dT h1b;refine g_t rfl h1b<|Aa rfl<|g_t rfl h1b<|Jk rfl rfl<|Bh rfl h1b rfl<|Ab rfl<|Ae<|Ad rfl rfl<|?_
  exact ⟨M,by rw [show (decide (1≤n∧n≤2305843009213693952))=(decide (n≤2305843009213693952)) by rw [Bool.eq_iff_iff];simp only [decide_eq_true_eq];first | omega | (constructor <;> intro h_ <;> first | omega | cases h_ | rfl)]⟩
 have h2:=dF h2b;refine g_f rfl h2b<|g_f rfl h2b<|Be rfl h2b rfl<|Ab rfl<|Ae<|Ad rfl rfl<|?_
 exact ⟨M,by rw [show (decide (1≤n∧n≤2305843009213693952))=false by rw [Bool.eq_iff_iff];simp only [decide_eq_true_eq];first | omega | (constructor <;> intro h_ <;> first | omega | cases h_ | rfl)]⟩
theorem Y3 (M:Mem w0 G L w) {k:KindD} {ta ka:Option Addr} {tc kc:Nat} (hk:Bb .u8 k.part.kind) (hl:(k.part.tag.length≤9223372036854775807∧k.part.key.length≤9223372036854775807∧k.part.text.length≤9223372036854775807)) (SA:Au T.rdSlot 3 G (.slice ta k.part.as.length tc) k.part.as) (SK:Au T.rdP 6 G (.slice ka k.part.kids.length kc) k.part.kids):Calls Tryz.prog 154 #[.agg #[.int .u8 k.part.kind,.string (str k.part.tag),.string (str k.part.key),.slice ta k.part.as.length tc,.string (str k.part.text),.slice ka k.part.kids.length kc,.int .i64 k.base,.bool k.sticky,.int .i64 k.pool]] w (Cs w0 G L fun v=>∃ b:Bool,v=.bool b∧(b=true↔¬ Kz k)):=by
 refine Ay (vs:=[_]) Tryz.func154 rfl (n:=13) rfl rfl<|Ac<|Cz M rfl rfl rfl<|?_;clear M;intro b1 w M
 refine Ab rfl<|Ac<|A0 Fz.k rfl rfl<|Bg Ld M 0 rfl rfl rfl rfl<|Bs Aoq rfl rfl (Ro (n:=k.base) M)<|?_;clear M;rintro _ w M rfl
 refine Dh rfl<|Aa rfl<|?_
 rcases bE (!(decide (1≤k.base∧k.base≤2305843009213693952))) with h2b | h3b
 ·skip
  have h2:=dF (Ah h2b);have h2c:(decide (1≤k.base∧k.base≤2305843009213693952))=false:=(Ah h2b);refine g_f rfl (Ak h2c)<|g_f rfl (Ak h2c)<|g_f rfl (Ak h2c)<|g_f rfl (Ak h2c)<|Bh rfl (Ak h2c) rfl<|Ab rfl<|Ae<|Ad rfl rfl<|?_
  exact ⟨M.weaken dS1,_,rfl,(by unfold Kz;rw [← T.chkP_zero];simp only [Bool.not_eq_true',decide_eq_true_eq,decide_eq_false_iff_not];first | (constructor <;> intro h_ <;> omega) | (simp only [true_iff];omega))⟩
 have h3:=dT (Ai h3b);have h3c:(decide (1≤k.base∧k.base≤2305843009213693952))=true:=(Ai h3b);refine g_t rfl (Aj h3c)<|A0 Fz.k rfl rfl<|g_t rfl (Aj h3c)<|Ar (fun a F=>Af Bn rfl (F.ev rfl) (cs:=[.int .u8 k.part.kind,.string (str k.part.tag),.string (str k.part.key),.slice ta k.part.as.length tc,.string (str k.part.text),.slice ka k.part.kids.length kc]) rfl (M.cellsL (k:=0) rfl rfl)) rfl<|g_t rfl (Aj h3c)<|Bs Aoj rfl rfl (T.tcheck_spec (x:=k.part) M hk hl SA SK)<|?_;clear M;rintro _ w M rfl
 refine g_t rfl (Aj h3c)<|Fh rfl rfl<|Be rfl (Aj h3c) rfl<|Ab rfl<|Ae<|Ad rfl rfl<|?_
 exact ⟨M.weaken dS1,_,rfl,(by unfold Kz;rw [← T.chkP_zero];simp only [Bool.not_eq_true',decide_eq_true_eq,decide_eq_false_iff_not];first | (constructor <;> intro h_ <;> omega) | (simp only [true_iff];omega))⟩
theorem Aiy (M:Mem w0 G L w) {ad:Option Addr} {cd:Nat} {xs:List KindD} (S:Au C6 9 G (.slice ad xs.length cd) xs):Calls Tryz.prog 190 #[.slice ad xs.length cd,.func (.func 154) #[] #[]] w (Cs w0 G L fun v=>∃ z:Int,v=.int .i64 z∧(0≤z↔¬ ∀ k∈xs,Kz k)):=by
 have bS:=S.bound;refine Ay (vs:=[_,_]) Tryz.func190 rfl (n:=19) rfl rfl<|Ac<|Ab rfl<|Ag<|Ac<|Aa rfl<|B8 Dr.k rfl<|Aa rfl<|Ax<|fun a F=>Bz (fun m a' w'=>∃ (i:Nat),m=xs.length - i∧Fits 19 a' [(0,.slice ad xs.length cd),(1,.func (.func 154) #[] #[]),(7,.int .i64 ((xs.length:Nat):Int)),(8,.int .i64 ((i:Nat):Int))]∧Mem w0 G (L) w'∧(i≤xs.length)∧(∀ (m:Nat) (k:KindD),m < i→xs[m]?=some k→Kz k)) _ ⟨0,rfl,F.to ⟨rfl,rfl,rfl,rfl,trivial⟩,M,Nat.zero_le _,fun m d h=>by omega⟩ ?_
 clear F M;rintro m a w ⟨i,rfl,F,M,hi,hA⟩;revert a;refine Ac<|C2 rfl rfl<|Ag<|Ap rfl ?_ ?_
 ·intro h1b;have h1:=dT h1b;refine Aq<|Ag<|Ax<|Ac<|Aa rfl<|Ab rfl<|Ac<|Aa rfl<|Aa rfl<|Aa rfl<|?_
  obtain ⟨Xe2,hXe2⟩:=A2 (xs:=xs) (i:=i) (by omega);obtain ⟨be2,oe2,_,Ie2,_,Ae2,hTe2⟩:=S.at hXe2;obtain ⟨c1e2,hcse2,hPe2,hBe2⟩:=hTe2;obtain ⟨tae2,tce2,kae2,kce2,rfl,hke2,hle2,SAe2,SKe2⟩:=Di hPe2;subst hcse2;have hQe2:-9223372036854775808≤Xe2.base∧Xe2.base≤9223372036854775807:=hBe2;refine D0 Dr.k Fz Ie2 rfl rfl<|Ar (fun a F=>Af Fz rfl (F.ev rfl) (cs:=[.int .u8 Xe2.part.kind,.string (str Xe2.part.tag),.string (str Xe2.part.key),.slice tae2 Xe2.part.as.length tce2,.string (str Xe2.part.text),.slice kae2 Xe2.part.kids.length kce2,.int .i64 Xe2.base,.bool Xe2.sticky,.int .i64 Xe2.pool]) rfl (M.cellsA Ae2 0 (by omega) rfl)) rfl<|Acm ent154 (caps:=[]) rfl rfl rfl (Y3 (k:=Xe2) M hke2 hle2 SAe2 SKe2)<|?_;clear M;rintro _ w M ⟨b3,rfl,hb3⟩
  refine Ap rfl ?_ ?_
  ·intro h4b;have h4:(b3)=true:=h4b;refine Ac<|Aa rfl<|Ab rfl<|Ae<|Ad rfl rfl<|?_
   exact ⟨M,_,rfl,⟨fun _ h_=>(hb3.1 (by assumption)) (h_ _ (List.mem_of_getElem? hXe2)),fun _=>by omega⟩⟩
  intro h5b;have h5:(b3)=false:=h5b;refine Aq<|Az<|Bx rfl rfl<|Aa rfl<|Bc<|Cm<|fun a F=>?_
  exact ⟨_,by omega,i+1,rfl,F.to ⟨rfl,rfl,rfl,rfl,trivial⟩,M,by omega,Fo hA hXe2 (Classical.byContradiction fun h_=>by have:=hb3.2 h_;simp_all)⟩
 intro h6b;have h6:=dF h6b;refine B5<|Bw<|Bw<|Dj<|Ac<|Ab rfl<|Ae<|Ad rfl rfl<|?_
 exact ⟨M,_,rfl,⟨fun h=>by omega,fun h=>absurd (Fj hA (by omega)) h⟩⟩
theorem Aej (M:Mem w0 G L w) {ad:Option Addr} {cd:Nat} {xs:List KindD} (S:Au C6 9 G (.slice ad xs.length cd) xs):Calls Tryz.prog 156 #[.slice ad xs.length cd,.func (.func 154) #[] #[]] w (Cs w0 G L fun v=>∃ b:Bool,v=.bool b∧(b=true↔¬ ∀ k∈xs,Kz k)):=by
 refine Ay (vs:=[_,_]) Tryz.func156 rfl (n:=9) rfl rfl<|Ac<|Ab rfl<|Ac<|Aa rfl<|Aa rfl<|Bs ent190 rfl rfl (Aiy (xs:=xs) M S)<|?_;clear M;rintro _ w M ⟨z1,rfl,hz1⟩
 refine Kv rfl rfl<|Ab rfl<|Ae<|Ad rfl rfl<|?_
 exact ⟨M,_,rfl,decide_eq_true_iff.trans hz1⟩
theorem vc_yes {c:RulesD} {b:Bool} (h:(1≤c.kinds.length∧c.kinds.length≤8)∧1≤c.cap∧c.cap≤64) (hb:b=true↔¬ ∀ k∈c.kinds,Kz k) (h2:b=false):D2 c :=
 ⟨⟨h.1,h.2⟩,Classical.byContradiction fun h3=>by rw [hb.2 h3] at h2;cases h2⟩
theorem Y2 {c:RulesD} {b:Bool} (hb:b=true↔¬ ∀ k∈c.kinds,Kz k) (h2:b=true):¬ D2 c:=fun h=>hb.1 h2 h.2
theorem Abs (M:Mem w0 G L w) {c:RulesD} {kca:Option Addr} {kcc:Nat} (SC:Au C6 9 G (.slice kca c.kinds.length kcc) c.kinds):Calls Tryz.prog 112 #[.agg #[.slice kca c.kinds.length kcc,.int .i64 c.cap]] w (Cs w0 G L fun v=>v=.int .i64 (Ja c)):=by
 refine Ay (vs:=[_]) Tryz.func112 rfl (n:=30) rfl rfl<|Ac<|Cz M rfl rfl rfl<|?_;clear M;intro b1 w M
 refine Ab rfl<|Ac<|Ab rfl<|Ag<|Ac<|A0 Co.k rfl rfl<|Bg Dr M 0 rfl rfl rfl rfl<|B8 Dr.k rfl<|C2 rfl rfl<|Aa rfl<|?_
 rcases bE (decide (((c.kinds.length:Nat):Int) < 1)) with h2b | h3b
 ·skip
  have h2:=dT h2b;refine g_f rfl h2b<|g_f rfl h2b<|g_f rfl h2b<|g_f rfl h2b<|Bh rfl h2b rfl<|Aa rfl<|g_f rfl rfl<|g_f rfl rfl<|g_f rfl rfl<|Bh rfl rfl rfl<|Aa rfl<|g_f rfl rfl<|g_f rfl rfl<|g_f rfl rfl<|Bh rfl rfl rfl<|Aa rfl<|g_f rfl rfl<|g_f rfl rfl<|g_f rfl rfl<|g_f rfl rfl<|Bh rfl rfl rfl<|Bl rfl rfl<|?_
  refine Ac<|Ab rfl<|Ae<|Ad rfl rfl<|?_
  exact ⟨(M.weaken (cN (sR _))),by rw [F1 (by first | exact Y2 h0 (by assumption) | exact fun h_=>absurd h_.1 (by omega))]⟩
 have h3:=dF h3b;refine g_t rfl h3b<|A0 Co.k rfl rfl<|g_t rfl h3b<|Bg Dr M 0 rfl rfl rfl rfl<|g_t rfl h3b<|B8 Dr.k rfl<|g_t rfl h3b<|Da rfl rfl<|Be rfl h3b rfl<|Aa rfl<|?_
 rcases bE (decide (8 < ((c.kinds.length:Nat):Int))) with h4b | h5b
 ·skip
  have h4:=dT h4b;refine g_f rfl h4b<|g_f rfl h4b<|g_f rfl h4b<|Bh rfl h4b rfl<|Aa rfl<|g_f rfl rfl<|g_f rfl rfl<|g_f rfl rfl<|Bh rfl rfl rfl<|Aa rfl<|g_f rfl rfl<|g_f rfl rfl<|g_f rfl rfl<|g_f rfl rfl<|Bh rfl rfl rfl<|Bl rfl rfl<|Ac<|Ab rfl<|Ae<|?_
  refine Ad rfl rfl<|?_
  exact ⟨(M.weaken (cN (sR _))),by rw [F1 (by first | exact Y2 h0 (by assumption) | exact fun h_=>absurd h_.1 (by omega))]⟩
 have h5:=dF h5b;refine g_t rfl h5b<|A0 Co.k rfl rfl<|g_t rfl h5b<|Bg Cg M 0 rfl rfl rfl rfl<|g_t rfl h5b<|C2 rfl rfl<|Be rfl h5b rfl<|Aa rfl<|?_
 rcases bE (decide (c.cap < 1)) with h6b | h7b
 ·skip
  have h6:=dT h6b;refine g_f rfl h6b<|g_f rfl h6b<|g_f rfl h6b<|Bh rfl h6b rfl<|Aa rfl<|g_f rfl rfl<|g_f rfl rfl<|g_f rfl rfl<|g_f rfl rfl<|Bh rfl rfl rfl<|Bl rfl rfl<|Ac<|Ab rfl<|Ae<|Ad rfl rfl<|?_
  exact ⟨(M.weaken (cN (sR _))),by rw [F1 (by first | exact Y2 h0 (by assumption) | exact fun h_=>absurd h_.1 (by omega))]⟩
 have h7:=dF h7b;refine g_t rfl h7b<|A0 Co.k rfl rfl<|g_t rfl h7b<|Bg Cg M 0 rfl rfl rfl rfl<|g_t rfl h7b<|Da rfl rfl<|Be rfl h7b rfl<|Aa rfl<|?_
 rcases bE (decide (64 < c.cap)) with h8b | h9b
 ·skip
  have h8:=dT h8b;refine g_f rfl h8b<|g_f rfl h8b<|g_f rfl h8b<|g_f rfl h8b<|Bh rfl h8b rfl<|Bl rfl rfl<|Ac<|Ab rfl<|Ae<|Ad rfl rfl<|?_
  exact ⟨(M.weaken (cN (sR _))),by rw [F1 (by first | exact Y2 h0 (by assumption) | exact fun h_=>absurd h_.1 (by omega))]⟩
 have h9:=dF h9b;refine g_t rfl h9b<|A0 Co.k rfl rfl<|g_t rfl h9b<|Bg Dr M 0 rfl rfl rfl rfl<|g_t rfl h9b<|Aa rfl<|g_t rfl h9b<|Bs ent156 rfl rfl (Aej (xs:=c.kinds) M SC)<|?_;clear M;rintro _ w M ⟨b10,rfl,hb10⟩
 refine Be rfl h9b rfl<|Ap rfl ?_ ?_
 ·intro h11b;have h11:(b10)=true:=h11b;refine Ac<|Ab rfl<|Ae<|Ad rfl rfl<|?_
  exact ⟨(M.weaken (cN (sR _))),by rw [F1 (by first | exact Y2 hb10 (by assumption) | exact fun h_=>absurd h_.1 (by omega))]⟩
 intro h12b;have h12:(b10)=false:=h12b;refine Aq<|Ac<|Ab rfl<|Ae<|Ad rfl rfl<|?_
 exact ⟨(M.weaken (cN (sR _))),by rw [Jz (by first | exact vc_yes (by omega) hb10 (by assumption) | exact ⟨⟨⟨by omega,by omega⟩,by omega,by omega⟩,Fj hA (by omega)⟩)]⟩
theorem Ze (M:Mem w0 G L w) {c:RulesD} {kca:Option Addr} {kcc:Nat} (SC:Au C6 9 G (.slice kca c.kinds.length kcc) c.kinds):Calls Tryz.prog 77 #[.agg #[.slice kca c.kinds.length kcc,.int .i64 c.cap]] w (Cs w0 G L fun v=>v=.int .i64 (Ja c)):=by
 have bC:=SC.bound;refine Ay (vs:=[_]) Tryz.func77 rfl (n:=57) rfl rfl<|Ac<|Cz M rfl rfl rfl<|?_;clear M;intro b1 w M
 refine Ab rfl<|Ag<|Ac<|A0 Co.k rfl rfl<|Bg Dr M 0 rfl rfl rfl rfl<|B8 Dr.k rfl<|C3 rfl rfl<|Aa rfl<|?_
 rcases bE (decide (((c.kinds.length:Nat):Int)=0)) with h2b | h3b
 ·skip
  have h2:=dT h2b;refine g_f rfl h2b<|g_f rfl h2b<|g_f rfl h2b<|g_f rfl h2b<|Bh rfl h2b rfl<|Aa rfl<|g_f rfl rfl<|g_f rfl rfl<|g_f rfl rfl<|Bh rfl rfl rfl<|Aa rfl<|g_f rfl rfl<|g_f rfl rfl<|g_f rfl rfl<|Bh rfl rfl rfl<|Bl rfl rfl<|Ac<|Ab rfl<|Ae<|?_
  refine Ad rfl rfl<|?_
  exact ⟨M.weaken dS1,by rw [F1 (fun h_=>absurd h_.1 (by omega))]⟩
 have h3:=dF h3b;refine g_t rfl h3b<|A0 Co.k rfl rfl<|g_t rfl h3b<|Bg Dr M 0 rfl rfl rfl rfl<|g_t rfl h3b<|B8 Dr.k rfl<|g_t rfl h3b<|Da rfl rfl<|Be rfl h3b rfl<|Aa rfl<|?_
 rcases bE (decide (8 < ((c.kinds.length:Nat):Int))) with h4b | h5b
 ·skip
  have h4:=dT h4b;refine g_f rfl h4b<|g_f rfl h4b<|g_f rfl h4b<|Bh rfl h4b rfl<|Aa rfl<|g_f rfl rfl<|g_f rfl rfl<|g_f rfl rfl<|Bh rfl rfl rfl<|Bl rfl rfl<|Ac<|Ab rfl<|Ae<|Ad rfl rfl<|?_
  exact ⟨M.weaken dS1,by rw [F1 (fun h_=>absurd h_.1 (by omega))]⟩
 have h5:=dF h5b;refine g_t rfl h5b<|A0 Co.k rfl rfl<|g_t rfl h5b<|Bg Cg M 0 rfl rfl rfl rfl<|g_t rfl h5b<|C2 rfl rfl<|Be rfl h5b rfl<|Aa rfl<|?_
 rcases bE (decide (c.cap < 1)) with h6b | h7b
 ·skip
  have h6:=dT h6b;refine g_f rfl h6b<|g_f rfl h6b<|g_f rfl h6b<|Bh rfl h6b rfl<|Bl rfl rfl<|Ac<|Ab rfl<|Ae<|Ad rfl rfl<|?_
  exact ⟨M.weaken dS1,by rw [F1 (fun h_=>absurd h_.1 (by omega))]⟩
 have h7:=dF h7b;refine g_t rfl h7b<|A0 Co.k rfl rfl<|g_t rfl h7b<|Bg Cg M 0 rfl rfl rfl rfl<|g_t rfl h7b<|Da rfl rfl<|Be rfl h7b rfl<|Ap rfl ?_ ?_
 ·intro h8b;have h8:=dT h8b;refine Ac<|Ab rfl<|Ae<|Ad rfl rfl<|?_
  exact ⟨M.weaken dS1,by rw [F1 (fun h_=>absurd h_.1 (by omega))]⟩
 intro h9b;have h9:=dF h9b;refine Aq<|Ag<|Ac<|Ab rfl<|Ax<|fun a F=>Bz (fun m a' w'=>∃ (i:Nat),m=c.kinds.length - i∧Fits 57 a' [(1,.pointer (some ⟨b1,0,none⟩)),(3,.int .i64 ((i:Nat):Int))]∧Mem w0 G (.blk b1 [.slice kca c.kinds.length kcc,.int .i64 c.cap] 51::L) w'∧(i≤c.kinds.length)∧(∀ (m:Nat) (k:KindD),m < i→c.kinds[m]?=some k→Kz k)) _ ⟨0,rfl,F.to ⟨rfl,rfl,trivial⟩,M,Nat.zero_le _,fun m d h=>by omega⟩ ?_
 clear F M;rintro m a w ⟨i,rfl,F,M,hi,hA⟩;revert a;refine Ag<|Ac<|Aa rfl<|A0 Co.k rfl rfl<|Bg Dr M 0 rfl rfl rfl rfl<|B8 Dr.k rfl<|C2 rfl rfl<|Ap rfl ?_ ?_
 ·intro h10b;have h10:=dT h10b;refine Aq<|Ag<|Ax<|Ac<|A0 Co.k rfl rfl<|Bg Dr M 0 rfl rfl rfl rfl<|Aa rfl<|?_
  obtain ⟨Xe11,hXe11⟩:=A2 (xs:=c.kinds) (i:=i) (by omega);obtain ⟨be11,oe11,_,Ie11,_,Ae11,hTe11⟩:=SC.at hXe11;obtain ⟨c1e11,hcse11,hPe11,hBe11⟩:=hTe11;obtain ⟨tae11,tce11,kae11,kce11,rfl,hke11,hle11,SAe11,SKe11⟩:=Di hPe11;subst hcse11;have hQe11:-9223372036854775808≤Xe11.base∧Xe11.base≤9223372036854775807:=hBe11;refine D0 Dr.k Fz Ie11 rfl rfl<|A0 Fz.k rfl rfl<|Dq Ld M Ae11 6 rfl rfl rfl rfl<|C2 rfl rfl<|Aa rfl<|?_
  rcases bE (decide (Xe11.base < 1)) with h12b | h13b
  ·skip
   have h12:=dT h12b;refine g_f rfl h12b<|g_f rfl h12b<|g_f rfl h12b<|g_f rfl h12b<|g_f rfl h12b<|g_f rfl h12b<|g_f rfl h12b<|Bh rfl h12b rfl<|Aa rfl<|g_f rfl rfl<|g_f rfl rfl<|g_f rfl rfl<|g_f rfl rfl<|g_f rfl rfl<|g_f rfl rfl<|g_f rfl rfl<|g_f rfl rfl<|Bh rfl rfl rfl<|Bl rfl rfl<|Ac<|Ab rfl<|?_
   refine Ae<|Ad rfl rfl<|?_
   exact ⟨M.weaken dS1,by rw [F1 (fun h_=>by have h9_:=h_.2 _ (List.mem_of_getElem? hXe11);have h8_:=h9_.1;have h7_:=T.chkP_zero.2 h9_.2;omega)]⟩
  have h13:=dF h13b;refine g_t rfl h13b<|A0 Co.k rfl rfl<|g_t rfl h13b<|Bg Dr M 0 rfl rfl rfl rfl<|g_t rfl h13b<|Aa rfl<|g_t rfl h13b<|?_
  obtain ⟨be14,oe14,_,Ie14,_,Ae14,hTe14⟩:=SC.at hXe11;obtain ⟨c1e14,hcse14,hPe14,hBe14⟩:=hTe14;obtain ⟨tae14,tce14,kae14,kce14,rfl,hke14,hle14,SAe14,SKe14⟩:=Di hPe14;subst hcse14;have hQe14:-9223372036854775808≤Xe11.base∧Xe11.base≤9223372036854775807:=hBe14;refine D0 Dr.k Fz Ie14 rfl rfl<|g_t rfl h13b<|A0 Fz.k rfl rfl<|g_t rfl h13b<|Dq Ld M Ae14 6 rfl rfl rfl rfl<|g_t rfl h13b<|Da rfl rfl<|Be rfl h13b rfl<|Aa rfl<|?_
  rcases bE (decide (2305843009213693952 < Xe11.base)) with h15b | h16b
  ·skip
   have h15:=dT h15b;refine g_f rfl h15b<|g_f rfl h15b<|g_f rfl h15b<|g_f rfl h15b<|g_f rfl h15b<|g_f rfl h15b<|g_f rfl h15b<|g_f rfl h15b<|Bh rfl h15b rfl<|Bl rfl rfl<|Ac<|Ab rfl<|Ae<|Ad rfl rfl<|?_
   exact ⟨M.weaken dS1,by rw [F1 (fun h_=>by have h9_:=h_.2 _ (List.mem_of_getElem? hXe11);have h8_:=h9_.1;have h7_:=T.chkP_zero.2 h9_.2;omega)]⟩
  have h16:=dF h16b;refine g_t rfl h16b<|A0 Co.k rfl rfl<|g_t rfl h16b<|Bg Dr M 0 rfl rfl rfl rfl<|g_t rfl h16b<|Aa rfl<|g_t rfl h16b<|?_
  obtain ⟨be17,oe17,_,Ie17,_,Ae17,hTe17⟩:=SC.at hXe11;obtain ⟨c1e17,hcse17,hPe17,hBe17⟩:=hTe17;obtain ⟨tae17,tce17,kae17,kce17,rfl,hke17,hle17,SAe17,SKe17⟩:=Di hPe17;subst hcse17;have hQe17:-9223372036854775808≤Xe11.base∧Xe11.base≤9223372036854775807:=hBe17;refine D0 Dr.k Fz Ie17 rfl rfl<|g_t rfl h16b<|A0 Fz.k rfl rfl<|g_t rfl h16b<|Ar (fun a F=>Af Bn rfl (F.ev rfl) (cs:=[.int .u8 Xe11.part.kind,.string (str Xe11.part.tag),.string (str Xe11.part.key),.slice tae17 Xe11.part.as.length tce17,.string (str Xe11.part.text),.slice kae17 Xe11.part.kids.length kce17]) rfl (M.cellsA Ae17 0 rfl rfl)) rfl<|g_t rfl h16b<|Bs Aef rfl rfl (T.rpcheck_spec (x:=Xe11.part) M hke17 hle17 SAe17 SKe17)<|?_;clear M;rintro _ w M rfl
  refine g_t rfl h16b<|Da rfl rfl<|Be rfl h16b rfl<|Ap rfl ?_ ?_
  ·intro h18b;have h18:=dT h18b;refine Ac<|Ab rfl<|Ae<|Ad rfl rfl<|?_
   exact ⟨M.weaken dS1,by rw [F1 (fun h_=>by have h9_:=h_.2 _ (List.mem_of_getElem? hXe11);have h8_:=h9_.1;have h7_:=T.chkP_zero.2 h9_.2;omega)]⟩
  intro h19b;have h19:=dF h19b;refine Aq<|Az<|Aa rfl<|Bx rfl rfl<|Ab rfl<|Bc<|Cm<|fun a F=>?_
  exact ⟨_,by omega,i+1,rfl,F.to ⟨rfl,rfl,trivial⟩,M,by omega,Fo hA hXe11 ⟨by omega,T.chkP_zero.1 (by have:=chkP_nn Xe11.part;omega)⟩⟩
 intro h20b;have h20:=dF h20b;refine B5<|Bw<|Bw<|Dj<|Ac<|Ab rfl<|Ae<|Ad rfl rfl<|?_
 exact ⟨M.weaken dS1,by rw [Jz ⟨⟨⟨by omega,by omega⟩,by omega,by omega⟩,Fj hA (by omega)⟩]⟩
theorem tren_s (M:Mem w0 G L w) {k:KindD} {ta ka:Option Addr} {tc kc:Nat} (hk:Bb .u8 k.part.kind) (hl:(k.part.tag.length≤9223372036854775807∧k.part.key.length≤9223372036854775807∧k.part.text.length≤9223372036854775807)) (SA:Au T.rdSlot 3 G (.slice ta k.part.as.length tc) k.part.as) (SK:Au T.rdP 6 G (.slice ka k.part.kids.length kc) k.part.kids) {x:ItemD} {ma:Option Addr} {mc:Nat} (hI:(x.key < 18446744073709551616∧x.typ < 256∧x.text.length≤9223372036854775807)) (SM:Au D3 1 G (.slice ma x.marks.length mc) x.marks) {most:Int}:Calls Tryz.prog 157 #[.agg #[.int .u8 k.part.kind,.string (str k.part.tag),.string (str k.part.key),.slice ta k.part.as.length tc,.string (str k.part.text),.slice ka k.part.kids.length kc],.agg #[.int .u64 ((x.key:Nat):Int),.int .u8 ((x.typ:Nat):Int),.string (str x.text),.slice ma x.marks.length mc],.int .i64 most] w (Cs w0 G L fun v=>∃ (n1:Int) (s1 s2 s3:ByteArray) (a1 a2:Option Addr) (l1 c1 l2 c2:Nat),v=.tuple #[.agg #[.int .u8 n1,.string s1,.string s2,.slice a1 l1 c1,.string s3,.slice a2 l2 c2],.int .i64 (T.rendE k.part (tI x) most)]):=by
 refine Ret.plain M ((T.trender_spec (x:=tI x) (most:=most) M hk hl SA SK hI.2.2 SM (Aki hI.1)).mono ?_);intro e w' h
 cases e with
 | returned v=>obtain ⟨G',h1,h2,⟨_,_,rfl,_⟩⟩:=h;exact ⟨G',h1,h2,_,_,_,_,_,_,_,_,_,_,rfl⟩
 | panicked c=>exact h
 | outgrown=>exact h
theorem Ako (M:Mem w0 G L w) {k:KindD} {ta ka:Option Addr} {tc kc:Nat} (hk:Bb .u8 k.part.kind) (hl:(k.part.tag.length≤9223372036854775807∧k.part.key.length≤9223372036854775807∧k.part.text.length≤9223372036854775807)) (SA:Au T.rdSlot 3 G (.slice ta k.part.as.length tc) k.part.as) (SK:Au T.rdP 6 G (.slice ka k.part.kids.length kc) k.part.kids) {x:ItemD} {ma:Option Addr} {mc:Nat} (hI:(x.key < 18446744073709551616∧x.typ < 256∧x.text.length≤9223372036854775807)) (SM:Au D3 1 G (.slice ma x.marks.length mc) x.marks) {most:Int}:Calls Tryz.prog 111 #[.agg #[.int .u8 k.part.kind,.string (str k.part.tag),.string (str k.part.key),.slice ta k.part.as.length tc,.string (str k.part.text),.slice ka k.part.kids.length kc],.agg #[.int .u64 ((x.key:Nat):Int),.int .u8 ((x.typ:Nat):Int),.string (str x.text),.slice ma x.marks.length mc],.int .i64 most] w (Cs w0 G L fun v=>∃ (n1:Int) (s1 s2 s3:ByteArray) (a1 a2:Option Addr) (l1 c1 l2 c2:Nat),v=.tuple #[.agg #[.int .u8 n1,.string s1,.string s2,.slice a1 l1 c1,.string s3,.slice a2 l2 c2],.int .i64 (T.rendE k.part (tI x) most)]):=by
 refine Ret.plain M ((T.rrender_spec (x:=tI x) (most:=most) M hk hl SA SK hI.2.2 SM (Aki hI.1)).mono ?_);intro e w' h
 cases e with
 | returned v=>obtain ⟨G',h1,h2,⟨_,_,_,_,rfl,_⟩⟩:=h;exact ⟨G',h1,h2,_,_,_,_,_,_,_,_,_,_,rfl⟩
 | panicked c=>exact h
 | outgrown=>exact h
theorem Ra (M:Mem w0 G L w) {c:RulesD} {kca:Option Addr} {kcc:Nat} (SC:Au C6 9 G (.slice kca c.kinds.length kcc) c.kinds) {x:ItemD} {ma:Option Addr} {mc:Nat} (hI:(x.key < 18446744073709551616∧x.typ < 256∧x.text.length≤9223372036854775807)) (SM:Au D3 1 G (.slice ma x.marks.length mc) x.marks) {k:KindD} (hK:c.kinds[x.typ]?=some k):Calls Tryz.prog 113 #[.agg #[.slice kca c.kinds.length kcc,.int .i64 c.cap],.agg #[.int .u64 ((x.key:Nat):Int),.int .u8 ((x.typ:Nat):Int),.string (str x.text),.slice ma x.marks.length mc]] w (Cs w0 G L fun v=>∃ (n1:Int) (s1 s2 s3:ByteArray) (a1 a2:Option Addr) (l1 c1 l2 c2:Nat),v=.tuple #[.agg #[.int .u8 n1,.string s1,.string s2,.slice a1 l1 c1,.string s3,.slice a2 l2 c2],.int .i64 (Hv c x)]):=by
 refine Ay (vs:=[_,_]) Tryz.func113 rfl (n:=19) rfl rfl<|Ac<|Cz M rfl rfl rfl<|?_;clear M;intro b1 w M
 refine Cz M rfl rfl rfl<|?_;clear M;intro b2 w M
 refine C9 M Av rfl rfl<|?_;clear M;intro b3 w M
 refine Ab rfl<|Ag<|fun a F=>Fg [(.free,0),(.pure,1),(.free,2),(.pure,3),(.free,4),(.free,5),(.pure,6),(.pure,7),(.free,8),(.pure,9),(.keep,10),(.free,11),(.free,12),(.chg,13),(.free,14)] [13] (Keep G [.blk b2 [.int .u64 ((x.key:Nat):Int),.int .u8 ((x.typ:Nat):Int),.string (str x.text),.slice ma x.marks.length mc] 26,.blk b1 [.slice kca c.kinds.length kcc,.int .i64 c.cap] 51]) rfl (by kernel_rfl) (fun c a d v w h=>by cases d <;> exact h) (Bo (M.drew _)) ?_
 replace M:=M.drew (w.drawn+1);revert a;refine k_f (fun a F w _=>Ce Co.k rfl F rfl) rfl<|k_p (fun a F w M=>Al (agf Dr rfl) (F.ev rfl) (M.cellL (k:=1) rfl rfl)) rfl<|k_f (fun a F w _=>Ce Bf.k rfl F rfl) rfl<|k_p (fun a F w M=>Al (agf Fa rfl) (F.ev rfl) (M.cellL (k:=0) rfl rfl)) rfl<|?_
 obtain ⟨be5,oe5,_,Ie5,_,Ae5,hTe5⟩:=SC.at hK;obtain ⟨c1e5,hcse5,hPe5,hBe5⟩:=hTe5;obtain ⟨tae5,tce5,kae5,kce5,rfl,hke5,hle5,SAe5,SKe5⟩:=Di hPe5;subst hcse5;have hQe5:-9223372036854775808≤k.base∧k.base≤9223372036854775807:=hBe5;refine k_f (fun a F w _=>Bt Dr.k Fz (F.ev rfl) (F.ev rfl) (by omega) Ie5) rfl<|k_f (fun a F w _=>Ce Fz.k rfl F rfl) rfl<|k_p (fun a F w M=>Af Bn rfl (F.ev rfl) (cs:=[.int .u8 k.part.kind,.string (str k.part.tag),.string (str k.part.key),.slice tae5 k.part.as.length tce5,.string (str k.part.text),.slice kae5 k.part.kids.length kce5]) rfl (M.cellsA Ae5 0 rfl rfl)) rfl<|k_p (fun a F w M=>Af Bf rfl (F.ev rfl) (cs:=[.int .u64 ((x.key:Nat):Int),.int .u8 ((x.typ:Nat):Int),.string (str x.text),.slice ma x.marks.length mc]) rfl (M.cellsL (k:=0) rfl rfl)) rfl<|k_f (fun a F w _=>Ce Co.k rfl F rfl) rfl<|k_p (fun a F w M=>Al (agf Cg rfl) (F.ev rfl) (M.cellL (k:=1) rfl rfl)) rfl<|k_k rfl<|Bs ent157 rfl rfl (tren_s (k:=k) (x:=x) (most:=c.cap) M hke5 hle5 SAe5 SKe5 hI SM)<|?_;clear M;rintro _ w M ⟨n1n6,s1n6,s2n6,s3n6,a1n6,a2n6,l1n6,c1n6,l2n6,c2n6,rfl⟩
 refine eQ (Bo M)<|k_f (fun a F w _=>Cr (v:=.agg #[.int .u8 n1n6,.string s1n6,.string s2n6,.slice a1n6 l1n6 c1n6,.string s3n6,.slice a2n6 l2n6 c2n6]) (F.ev rfl) rfl) rfl<|k_f (fun a F w _=>Cr (v:=.int .i64 (T.rendE k.part (tI x) c.cap)) (F.ev rfl) rfl) rfl<|k_c rfl<|fun a F=>?_
 refine Cj F M Av 0 ?_;clear F M a;intro w a M F;change Mem w0 G (.blk b3 [.int .u8 n1n6,.string s1n6,.string s2n6,.slice a1n6 l1n6 c1n6,.string s3n6,.slice a2n6 l2n6 c2n6] 193::_::_::L) _ at M;revert a;refine Bc<|fun a F=>⟨Keep G [.blk b3 [.int .u8 n1n6,.string s1n6,.string s2n6,.slice a1n6 l1n6 c1n6,.string s3n6,.slice a2n6 l2n6 c2n6] 193,.blk b2 [.int .u64 ((x.key:Nat):Int),.int .u8 ((x.typ:Nat):Int),.string (str x.text),.slice ma x.marks.length mc] 26,.blk b1 [.slice kca c.kinds.length kcc,.int .i64 c.cap] 51],M.keep (Gle.refl _) (by simp),?_⟩
 revert a;refine k_f (fun a F w _=>G8 F rfl) rfl<|De<|Ae<|fun a F=>Cn F M (k:=0) rfl rfl Av rfl rfl rfl rfl ?_
 exact ⟨M.weaken dS3,_,_,_,_,_,_,_,_,_,_,by rw [Oa hK]⟩
theorem Aks {c:RulesD} {x:ItemD} (hc:D2 c) (hx:ItemOk (c.kinds.length:Int) x) (h:¬ 0 < Hv c x):Hv c x=0:=by
 rcases Acz hc hx with h1 | h1 <;> omega
theorem Lj (M:Mem w0 G L w) {c:RulesD} {kca:Option Addr} {kcc:Nat} (SC:Au C6 9 G (.slice kca c.kinds.length kcc) c.kinds) (hvc:D2 c) {x:ItemD} {ma:Option Addr} {mc:Nat} (hI:(x.key < 18446744073709551616∧x.typ < 256∧x.text.length≤9223372036854775807)) (SM:Au D3 1 G (.slice ma x.marks.length mc) x.marks) {sn:Int}:Calls Tryz.prog 66 #[.agg #[.slice kca c.kinds.length kcc,.int .i64 c.cap],.agg #[.int .u64 ((x.key:Nat):Int),.int .u8 ((x.typ:Nat):Int),.string (str x.text),.slice ma x.marks.length mc],.int .i64 sn] w (Cs w0 G L fun v=>v=.int .i64 (Ft c x (sn=1))):=by
 refine Ay (vs:=[_,_,_]) Tryz.func66 rfl (n:=33) rfl rfl<|Ac<|Cz M rfl rfl rfl<|?_;clear M;intro b1 w M
 refine Cz M rfl rfl rfl<|?_;clear M;intro b2 w M
 refine Ab rfl<|Ag<|Ac<|Ar (fun a F=>Af Bf rfl (F.ev rfl) (cs:=[.int .u64 ((x.key:Nat):Int),.int .u8 ((x.typ:Nat):Int),.string (str x.text),.slice ma x.marks.length mc]) rfl (M.cellsL (k:=0) rfl rfl)) rfl<|A0 Co.k rfl rfl<|Bg Dr M 1 rfl rfl rfl rfl<|B8 Dr.k rfl<|Bs ent57 rfl rfl (Ml (x:=x) (t:=((c.kinds.length:Nat):Int)) M hI SM)<|?_;clear M;rintro _ w M rfl
 refine Da rfl rfl<|Ap rfl ?_ ?_
 ·intro h3b;have h3:=dT h3b;refine Ac<|Ab rfl<|Ae<|Ad rfl rfl<|?_
  exact ⟨M.weaken dS2,by rw [Po (itmF_gt (by assumption))]⟩
 intro h4b;have h4:=dF h4b;refine Aq<|Ag<|Ac<|Aa rfl<|C3 rfl rfl<|Ap rfl ?_ ?_
 ·intro h5b;have h5:=dT h5b;refine Ac<|Ab rfl<|Ae<|Ad rfl rfl<|?_
  exact ⟨M.weaken dS2,by rw [R7 (Afu (by assumption)) (by assumption)]⟩
 intro h6b;have h6:=dF h6b;refine Aq<|Ag<|?_
 have hok:=Afu (t:=(c.kinds.length:Int)) (x:=x) (by omega);obtain ⟨k,hK⟩:=Jm hok;intro a F;refine P2 (.run 0 (.run 1 (.run 2 (.run 3 (.run 4 (.run 5 (.run 6 (.run 7 (.run 8 (.run 9 (.act 10 (.run 11 (.run 12 (.run 13 (.act 14 (.act 15 (.run 16 .fin) .no) .no)))) (.act 14 (.act 10 (.run 11 (.run 12 (.run 13 (.act 15 (.run 16 .fin) .no)))) .no) .no)))))))))))) (Keep G [.blk b2 [.int .u64 ((x.key:Nat):Int),.int .u8 ((x.typ:Nat):Int),.string (str x.text),.slice ma x.marks.length mc] 26,.blk b1 [.slice kca c.kinds.length kcc,.int .i64 c.cap] 51]) rfl (by kernel_rfl) (fun c a d v w h=>by cases d <;> exact h) (Bo (M.drew _)) ?_;replace M:=M.drew (w.drawn+1);revert a;refine t_r (fun a F w M=>Ce Co.k rfl F rfl) rfl<|t_r (fun a F w M=>Al (agf Dr rfl) (F.ev rfl) (M.cellL (k:=1) rfl rfl)) rfl<|t_r (fun a F w M=>Ce Bf.k rfl F rfl) rfl<|t_r (fun a F w M=>Al (agf Fa rfl) (F.ev rfl) (M.cellL (k:=0) rfl rfl)) rfl<|?_
 obtain ⟨be7,oe7,_,Ie7,_,Ae7,hTe7⟩:=SC.at hK;obtain ⟨c1e7,hcse7,hPe7,hBe7⟩:=hTe7;obtain ⟨tae7,tce7,kae7,kce7,rfl,hke7,hle7,SAe7,SKe7⟩:=Di hPe7;subst hcse7;have hQe7:-9223372036854775808≤k.base∧k.base≤9223372036854775807:=hBe7;refine t_r (fun a F w M=>Bt Dr.k Fz (F.ev rfl) (F.ev rfl) (by omega) Ie7) rfl<|t_r (fun a F w M=>Ce Fz.k rfl F rfl) rfl<|t_r (fun a F w M=>Af Bn rfl (F.ev rfl) (cs:=[.int .u8 k.part.kind,.string (str k.part.tag),.string (str k.part.key),.slice tae7 k.part.as.length tce7,.string (str k.part.text),.slice kae7 k.part.kids.length kce7]) rfl (M.cellsA Ae7 0 rfl rfl)) rfl<|t_r (fun a F w M=>Af Bf rfl (F.ev rfl) (cs:=[.int .u64 ((x.key:Nat):Int),.int .u8 ((x.typ:Nat):Int),.string (str x.text),.slice ma x.marks.length mc]) rfl (M.cellsL (k:=0) rfl rfl)) rfl<|t_r (fun a F w M=>Ce Co.k rfl F rfl) rfl<|t_r (fun a F w M=>Al (agf Cg rfl) (F.ev rfl) (M.cellL (k:=1) rfl rfl)) rfl<|fun a F=>Cd ?_ rfl ?_
 ·skip
  revert a;refine Bs Aos rfl rfl (Ako (k:=k) (x:=x) (most:=c.cap) M hke7 hle7 SAe7 SKe7 hI SM)<|?_;clear M;rintro _ w M ⟨n1n8,s1n8,s2n8,s3n8,a1n8,a2n8,l1n8,c1n8,l2n8,c2n8,rfl⟩
  refine eQ (Bo M)<|t_r (fun a F w M=>B1 F rfl) rfl<|t_r (fun a F w M=>Cr (v:=.agg #[.int .u8 n1n8,.string s1n8,.string s2n8,.slice a1n8 l1n8 c1n8,.string s3n8,.slice a2n8 l2n8 c2n8]) (F.ev rfl) rfl) rfl<|t_r (fun a F w M=>Cr (v:=.int .i64 (T.rendE k.part (tI x) c.cap)) (F.ev rfl) rfl) rfl<|fun a F=>Cd ?_ rfl Db
  revert a;refine C9 M Av rfl rfl<|?_;clear M;intro b9 w M
  refine eQ (Bo M)<|fun a F=>Cd ?_ rfl Db
  refine Cj F M Av 0 ?_;clear F M a;intro w a M F;change Mem w0 G (.blk b9 [.int .u8 n1n8,.string s1n8,.string s2n8,.slice a1n8 l1n8 c1n8,.string s3n8,.slice a2n8 l2n8 c2n8] 193::_::_::L) _ at M;revert a;refine eQ (Bo M)<|t_r (fun a F w M=>G8 F rfl) rfl<|Ik<|Ag<|Ac<|Aa rfl<|Da rfl rfl<|Ap rfl ?_ ?_
  ·intro h11b;have h11:=dT h11b;refine Ac<|Ab rfl<|Ae<|Ad rfl rfl<|?_
   exact ⟨M.weaken dS3,by rw [J6 hok (by assumption) (by rw [Oa hK];omega)]⟩
  intro h12b;have h12:=dF h12b;refine Aq<|Ac<|Ab rfl<|Ae<|Ad rfl rfl<|?_
  exact ⟨M.weaken dS3,by rw [Ko hok (by assumption) (Aks hvc hok (by rw [Oa hK];assumption))]⟩
 refine Cd ?_ rfl ?_
 ·skip
  revert a;refine C9 M Av rfl rfl<|?_;clear M;intro b13 w M
  refine eQ (Bo M)<|fun a F=>Cd ?_ rfl Db
  revert a;refine Bs Aos rfl rfl (Ako (k:=k) (x:=x) (most:=c.cap) M hke7 hle7 SAe7 SKe7 hI SM)<|?_;clear M;rintro _ w M ⟨n1n15,s1n15,s2n15,s3n15,a1n15,a2n15,l1n15,c1n15,l2n15,c2n15,rfl⟩
  refine eQ (Bo M)<|t_r (fun a F w M=>B1 F rfl) rfl<|t_r (fun a F w M=>Cr (v:=.agg #[.int .u8 n1n15,.string s1n15,.string s2n15,.slice a1n15 l1n15 c1n15,.string s3n15,.slice a2n15 l2n15 c2n15]) (F.ev rfl) rfl) rfl<|t_r (fun a F w M=>Cr (v:=.int .i64 (T.rendE k.part (tI x) c.cap)) (F.ev rfl) rfl) rfl<|fun a F=>Cd ?_ rfl Db
  refine Cj F M Av 0 ?_;clear F M a;intro w a M F;change Mem w0 G (.blk b13 [.int .u8 n1n15,.string s1n15,.string s2n15,.slice a1n15 l1n15 c1n15,.string s3n15,.slice a2n15 l2n15 c2n15] 193::_::_::L) _ at M;revert a;refine eQ (Bo M)<|t_r (fun a F w M=>G8 F rfl) rfl<|Ik<|Ag<|Ac<|Aa rfl<|Da rfl rfl<|Ap rfl ?_ ?_
  ·intro h16b;have h16:=dT h16b;refine Ac<|Ab rfl<|Ae<|Ad rfl rfl<|?_
   exact ⟨M.weaken dS3,by rw [J6 hok (by assumption) (by rw [Oa hK];omega)]⟩
  intro h17b;have h17:=dF h17b;refine Aq<|Ac<|Ab rfl<|Ae<|Ad rfl rfl<|?_
  exact ⟨M.weaken dS3,by rw [Ko hok (by assumption) (Aks hvc hok (by rw [Oa hK];assumption))]⟩
 exact Db
theorem Lt (M:Mem w0 G L w) {b:Bool}:Calls Tryz.prog 78 #[.bool b] w (Cs w0 G L fun v=>v=.int .i64 (if b=true then (1:Int) else 0)):=by
 refine Ay (vs:=[_]) Tryz.func78 rfl (n:=4) rfl rfl<|Ac<|Ab rfl<|Ag<|Ac<|Aa rfl<|Ap rfl ?_ ?_
 ·intro h1b;have h1:(b)=true:=h1b;refine Ac<|Ab rfl<|Ae<|Ad rfl rfl<|?_
  exact ⟨M,by first | rw [if_pos (by assumption)] | rw [if_neg (by simp_all)]⟩
 intro h2b;have h2:(b)=false:=h2b;refine Aq<|Ac<|Ab rfl<|Ae<|Ad rfl rfl<|?_
 exact ⟨M,by first | rw [if_pos (by assumption)] | rw [if_neg (by simp_all)]⟩
theorem Q9 (M:Mem w0 G L w) {a1:Option Addr} {c1:Nat} {l:List EntD} (S:Au Ca 6 G (.slice a1 l.length c1) l) {k:Nat}:Calls Tryz.prog 79 #[.slice a1 l.length c1,.int .u64 ((k:Nat):Int)] w (Cs w0 G L fun v=>∃ z:Int,v=.int .i64 z∧P0 l k z):=by
 have bS:=S.bound;refine Ay (vs:=[_,_]) Tryz.func79 rfl (n:=21) rfl rfl<|Ac<|Ab rfl<|Ag<|Ac<|Ab rfl<|Ax<|fun a F=>Bz (fun m a' w'=>∃ (i:Nat),m=l.length - i∧Fits 21 a' [(0,.slice a1 l.length c1),(1,.int .u64 ((k:Nat):Int)),(5,.int .i64 ((i:Nat):Int))]∧Mem w0 G (L) w'∧(i≤l.length)∧(∀ (m:Nat) (y:EntD),m < i→l[m]?=some y→y.item.key≠k)) _ ⟨0,rfl,F.to ⟨rfl,rfl,rfl,trivial⟩,M,Nat.zero_le _,fun m d h=>by omega⟩ ?_
 clear F M;rintro m a w ⟨i,rfl,F,M,hi,hA⟩;revert a;refine Ag<|Ac<|Aa rfl<|Aa rfl<|B8 Br.k rfl<|C2 rfl rfl<|Ap rfl ?_ ?_
 ·intro h1b;have h1:=dT h1b;refine Aq<|Ag<|Ax<|Ac<|Aa rfl<|Aa rfl<|?_
  obtain ⟨Xe2,hXe2⟩:=A2 (xs:=l) (i:=i) (by omega);obtain ⟨be2,oe2,_,Ie2,_,Ae2,hTe2⟩:=S.at hXe2;obtain ⟨c1e2,hcse2,hPe2,hBe2⟩:=hTe2;obtain ⟨mae2,mce2,rfl,hke2,hte2,hxe2,hne2,SMe2⟩:=hPe2;subst hcse2;have hIe2:(Xe2.item.key < 18446744073709551616∧Xe2.item.typ < 256∧Xe2.item.text.length≤9223372036854775807):=⟨hke2,hte2,hxe2⟩;have hQe2:-9223372036854775808≤Xe2.size∧Xe2.size≤9223372036854775807:=hBe2;refine D0 Br.k Bu Ie2 rfl rfl<|A0 Bu.k rfl rfl<|A0 Bf.k rfl rfl<|Dq El M Ae2 0 rfl rfl (by omega) rfl<|Aa rfl<|C3 rfl rfl<|Ap rfl ?_ ?_
  ·intro h3b;have h3:=dT h3b;refine Ac<|Aa rfl<|Ab rfl<|Ae<|Ad rfl rfl<|?_
   exact ⟨M,_,rfl,P0.some hA hXe2 (by omega)⟩
  intro h4b;have h4:=dF h4b;refine Aq<|Az<|Aa rfl<|Bx rfl rfl<|Ab rfl<|Bc<|Cm<|fun a F=>?_
  exact ⟨_,by omega,i+1,rfl,F.to ⟨rfl,rfl,rfl,trivial⟩,M,by omega,Fo (p:=fun y:EntD=>y.item.key≠k) hA hXe2 (by omega)⟩
 intro h5b;have h5:=dF h5b;refine B5<|Bw<|Bw<|Dj<|Ac<|Ab rfl<|Ae<|Ad rfl rfl<|?_
 exact ⟨M,_,rfl,P0.none hA (by omega)⟩
theorem Ahk (M:Mem w0 G L w) {a1:Option Addr} {c1:Nat} {l:List EntD} (S:Au Ca 6 G (.slice a1 l.length c1) l):Calls Tryz.prog 131 #[.slice a1 l.length c1] w (Cs w0 G L fun v=>v=.int .i64 (Uz l)):=by
 have bS:=S.bound;refine Ay (vs:=[_]) Tryz.func131 rfl (n:=29) rfl rfl<|Ac<|Ab rfl<|Ac<|Ab rfl<|Ag<|Ac<|Ab rfl<|Ax<|fun a F=>Bz (fun m a' w'=>∃ (i:Nat),∃ (z:Int),m=l.length - i∧Fits 29 a' [(0,.slice a1 l.length c1),(3,.int .u64 z),(4,.int .i64 ((i:Nat):Int))]∧Mem w0 G (L) w'∧(i≤l.length)∧(z=Hs (l.take i))∧(z≤4611686018427387904)) _ ⟨0,0,rfl,F.to ⟨rfl,rfl,rfl,trivial⟩,M,Nat.zero_le _,rfl,by omega⟩ ?_
 clear F M;rintro m a w ⟨i,z,rfl,F,M,hi,hz,hz2⟩;revert a;refine Ag<|Ac<|Aa rfl<|Aa rfl<|B8 Br.k rfl<|C2 rfl rfl<|Ap rfl ?_ ?_
 ·intro h1b;have h1:=dT h1b;refine Aq<|Ag<|Ax<|Ag<|Ag<|?_
  have hnn:=M6 (l.take i);refine Az<|Aa rfl<|Aa rfl<|?_
  obtain ⟨Xe2,hXe2⟩:=A2 (xs:=l) (i:=i) (by omega);obtain ⟨be2,oe2,_,Ie2,_,Ae2,hTe2⟩:=S.at hXe2;obtain ⟨c1e2,hcse2,hPe2,hBe2⟩:=hTe2;obtain ⟨mae2,mce2,rfl,hke2,hte2,hxe2,hne2,SMe2⟩:=hPe2;subst hcse2;have hIe2:(Xe2.item.key < 18446744073709551616∧Xe2.item.typ < 256∧Xe2.item.text.length≤9223372036854775807):=⟨hke2,hte2,hxe2⟩;have hQe2:-9223372036854775808≤Xe2.size∧Xe2.size≤9223372036854775807:=hBe2;refine D0 Br.k Bu Ie2 rfl rfl<|A0 Bu.k rfl rfl<|Dq Ld M Ae2 4 rfl rfl rfl rfl<|Da rfl rfl<|Ap rfl ?_ ?_
  ·intro h3b;have h3:=dT h3b;refine Az<|Aa rfl<|Aa rfl<|Aa rfl<|?_
   obtain ⟨be4,oe4,_,Ie4,_,Ae4,hTe4⟩:=S.at hXe2;obtain ⟨c1e4,hcse4,hPe4,hBe4⟩:=hTe4;obtain ⟨mae4,mce4,rfl,hke4,hte4,hxe4,hne4,SMe4⟩:=hPe4;subst hcse4;have hIe4:(Xe2.item.key < 18446744073709551616∧Xe2.item.typ < 256∧Xe2.item.text.length≤9223372036854775807):=⟨hke4,hte4,hxe4⟩;have hQe4:-9223372036854775808≤Xe2.size∧Xe2.size≤9223372036854775807:=hBe4;refine D0 Br.k Bu Ie4 rfl rfl<|A0 Bu.k rfl rfl<|Dq Ld M Ae4 4 rfl rfl rfl rfl<|Ar (fun a F=>Ew El.k ⟨_,by rw [D7 Ld.k]⟩ (F.ev rfl) (Om (by omega) (by omega))) rfl<|Ar (fun a F=>Gf (F.ev rfl) (F.ev rfl) (Om (by omega) (by omega))) rfl<|Ab rfl<|Ac<|Aa rfl<|Da rfl rfl<|Ap rfl ?_ ?_
   ·intro h5b;have h5:=dT h5b;refine Ac<|Ab rfl<|Ae<|Ad rfl rfl<|?_
    exact ⟨M,by rw [Xe (i:=i+1) (by rw [Jr hXe2];omega)]⟩
   intro h6b;have h6:=dF h6b;refine Aq<|Az<|Aa rfl<|Bx rfl rfl<|Ab rfl<|Bc<|Cm<|fun a F=>?_
   exact ⟨_,by omega,i+1,z+Xe2.size,rfl,F.to ⟨rfl,rfl,rfl,trivial⟩,M,by omega,by rw [Jr hXe2];omega,by omega⟩
  intro h7b;have h7:=dF h7b;refine Aq<|Ac<|Aa rfl<|Da rfl rfl<|Ap rfl ?_ ?_
  ·intro h8b;have h8:=dT h8b;refine Ac<|Ab rfl<|Ae<|Ad rfl rfl<|?_
   exact ⟨M,by rw [Xe (i:=i+1) (by rw [Jr hXe2];omega)]⟩
  intro h9b;have h9:=dF h9b;refine Aq<|Az<|Aa rfl<|Bx rfl rfl<|Ab rfl<|Bc<|Cm<|fun a F=>?_
  exact ⟨_,by omega,i+1,z,rfl,F.to ⟨rfl,rfl,rfl,trivial⟩,M,by omega,by rw [Jr hXe2];omega,by omega⟩
 intro h10b;have h10:=dF h10b;refine B5<|Bw<|Bw<|Dj<|Ag<|?_
 have hnn:=M6 (l.take i);refine Az<|Aa rfl<|Ar (fun a F=>Ew Ld.k ⟨_,by rw [D7 El.k]⟩ (F.ev rfl) (C0 (by omega) (by omega))) rfl<|Ab rfl<|Ae<|Ad rfl rfl<|?_
 exact ⟨M,by rw [Aer hz (by omega) (by omega)]⟩
theorem Abu (M:Mem w0 G L w) {a1:Option Addr} {c1:Nat} {l:List EntD} (S:Au Ca 6 G (.slice a1 l.length c1) l):Calls Tryz.prog 158 #[.agg #[.slice a1 l.length c1]] w (Cs w0 G L fun v=>v=.int .i64 (Uz l)):=by
 have bS:=S.bound;refine Ay (vs:=[_]) Tryz.func158 rfl (n:=26) rfl rfl<|Ac<|Cz M rfl rfl rfl<|?_;clear M;intro b1 w M
 refine Ab rfl<|Ac<|Ab rfl<|Ag<|Ac<|A0 Ba.k rfl rfl<|Bg Br M 0 rfl rfl rfl rfl<|B8 Br.k rfl<|Aa rfl<|Ax<|fun a F=>Bz (fun m a' w'=>∃ (i:Nat),∃ (z:Int),m=l.length - i∧Fits 26 a' [(1,.pointer (some ⟨b1,0,none⟩)),(8,.slice a1 l.length c1),(9,.int .i64 ((l.length:Nat):Int)),(3,.int .i64 z),(10,.int .i64 ((i:Nat):Int))]∧Mem w0 G (.blk b1 [.slice a1 l.length c1] 54::L) w'∧(i≤l.length)∧(z=Hs (l.take i))∧(z≤4611686018427387904)) _ ⟨0,0,rfl,F.to ⟨rfl,rfl,rfl,rfl,rfl,trivial⟩,M,Nat.zero_le _,rfl,by omega⟩ ?_
 clear F M;rintro m a w ⟨i,z,rfl,F,M,hi,hz,hz2⟩;revert a;refine Ac<|C2 rfl rfl<|Ag<|Ap rfl ?_ ?_
 ·intro h2b;have h2:=dT h2b;refine Aq<|Ag<|Ax<|Ag<|?_
  have hnn:=M6 (l.take i);refine Az<|?_
  obtain ⟨Xe3,hXe3⟩:=A2 (xs:=l) (i:=i) (by omega);obtain ⟨be3,oe3,_,Ie3,_,Ae3,hTe3⟩:=S.at hXe3;obtain ⟨c1e3,hcse3,hPe3,hBe3⟩:=hTe3;obtain ⟨mae3,mce3,rfl,hke3,hte3,hxe3,hne3,SMe3⟩:=hPe3;subst hcse3;have hIe3:(Xe3.item.key < 18446744073709551616∧Xe3.item.typ < 256∧Xe3.item.text.length≤9223372036854775807):=⟨hke3,hte3,hxe3⟩;have hQe3:-9223372036854775808≤Xe3.size∧Xe3.size≤9223372036854775807:=hBe3;refine D0 Br.k Bu Ie3 rfl rfl<|Ar (fun a F=>Af Bu rfl (F.ev rfl) (cs:=[.int .u64 ((Xe3.item.key:Nat):Int),.int .u8 ((Xe3.item.typ:Nat):Int),.string (str Xe3.item.text),.slice mae3 Xe3.item.marks.length mce3,.int .i64 Xe3.size,.bool Xe3.known]) rfl (M.cellsA Ae3 0 (by omega) rfl)) rfl<|C9 M Bu rfl rfl<|?_;clear M;intro b4 w M
  intro a F;refine Cj F M Bu 0 ?_;clear F M a;intro w a M F;change Mem w0 G (.blk b4 [.int .u64 ((Xe3.item.key:Nat):Int),.int .u8 ((Xe3.item.typ:Nat):Int),.string (str Xe3.item.text),.slice mae3 Xe3.item.marks.length mce3,.int .i64 Xe3.size,.bool Xe3.known] 69::_::L) _ at M;revert a;refine Ac<|A0 Bu.k rfl rfl<|Bg Ld M 0 rfl rfl rfl rfl<|Ar (fun a F=>Zh (F.ev rfl) (F.ev rfl)) rfl<|Ab rfl<|Ag<|Ac<|Aa rfl<|Aa rfl<|Q4 rfl rfl<|Da rfl rfl<|Ap rfl ?_ ?_
  ·intro h6b;have h6:=dT h6b;refine Ac<|Ab rfl<|Ae<|Ad rfl rfl<|?_
   exact ⟨M.weaken dS2,by rw [Xe (i:=i+1) (by rw [Jr hXe3];omega)]⟩
  intro h7b;have h7:=dF h7b;refine Aq<|Az<|Aa rfl<|Aa rfl<|Bx rfl rfl<|Ab rfl<|Az<|Bx rfl rfl<|Aa rfl<|Bc<|Cm<|fun a F=>?_
  exact ⟨_,by omega,i+1,z+(max (Xe3.size) 0),rfl,F.to ⟨rfl,rfl,rfl,rfl,rfl,trivial⟩,(M.weaken (cN (cC (sR _)))),by omega,by rw [Jr hXe3];omega,by omega⟩
 intro h8b;have h8:=dF h8b;refine B5<|Bw<|Bw<|Dj<|Ac<|Aa rfl<|Ab rfl<|Ae<|Ad rfl rfl<|?_
 exact ⟨M.weaken dS1,by rw [Aer hz (by omega) (by omega)]⟩
theorem N8 (M:Mem w0 G L w) {a1:Option Addr} {c1:Nat} {l:List EntD} (S:Au Ca 6 G (.slice a1 l.length c1) l):Calls Tryz.prog 80 #[.slice a1 l.length c1] w (Cs w0 G L fun v=>v=.int .i64 (D9 l)):=by
 refine Ay (vs:=[_]) Tryz.func80 rfl (n:=6) rfl rfl<|Ac<|Ab rfl<|Ag<|Ac<|Aa rfl<|Bs ent131 rfl rfl (Ahk (l:=l) M S)<|?_;clear M;rintro _ w M rfl
 refine Da rfl rfl<|Ap rfl ?_ ?_
 ·intro h1b;have h1:=dT h1b;refine Ac<|Ab rfl<|Ae<|Ad rfl rfl<|?_
  exact ⟨M,by rw [Aff (by assumption)]⟩
 intro h2b;have h2:=dF h2b;refine Aq<|Ac<|Ab rfl<|Ae<|Ad rfl rfl<|?_
 exact ⟨M,by rw [Zu (by assumption)]⟩
theorem V1 (M:Mem w0 G L w) {a1:Option Addr} {c1:Nat} {l:List EntD} (S:Au Ca 6 G (.slice a1 l.length c1) l):Calls Tryz.prog 115 #[.agg #[.slice a1 l.length c1]] w (Cs w0 G L fun v=>v=.int .i64 (D9 l)):=by
 refine Ay (vs:=[_]) Tryz.func115 rfl (n:=6) rfl rfl<|Ac<|Cz M rfl rfl rfl<|?_;clear M;intro b1 w M
 refine Ab rfl<|Ag<|Ac<|Ar (fun a F=>Af Ba rfl (F.ev rfl) (cs:=[.slice a1 l.length c1]) rfl (M.cellsL (k:=0) rfl rfl)) rfl<|Bs ent158 rfl rfl (Abu (l:=l) M S)<|?_;clear M;rintro _ w M rfl
 refine Da rfl rfl<|Ap rfl ?_ ?_
 ·intro h2b;have h2:=dT h2b;refine Ac<|Ab rfl<|Ae<|Ad rfl rfl<|?_
  exact ⟨M.weaken dS1,by rw [Aff (by assumption)]⟩
 intro h3b;have h3:=dF h3b;refine Aq<|Ac<|Ab rfl<|Ae<|Ad rfl rfl<|?_
 exact ⟨M.weaken dS1,by rw [Zu (by assumption)]⟩
theorem Mr (M:Mem w0 G L w) {c:RulesD} {kca:Option Addr} {kcc:Nat} (SC:Au C6 9 G (.slice kca c.kinds.length kcc) c.kinds) {a1:Option Addr} {c1:Nat} {l:List EntD} (S:Au Ca 6 G (.slice a1 l.length c1) l):Calls Tryz.prog 68 #[.agg #[.slice kca c.kinds.length kcc,.int .i64 c.cap],.agg #[.slice a1 l.length c1]] w (Cs w0 G L fun v=>v=.int .i64 (Bv c l)):=by
 have bS:=S.bound;refine Ay (vs:=[_,_]) Tryz.func68 rfl (n:=81) rfl rfl<|Ac<|Cz M rfl rfl rfl<|?_;clear M;intro b1 w M
 refine Cz M rfl rfl rfl<|?_;clear M;intro b2 w M
 refine Ab rfl<|Ag<|Ac<|Ar (fun a F=>Af Co rfl (F.ev rfl) (cs:=[.slice kca c.kinds.length kcc,.int .i64 c.cap]) rfl (M.cellsL (k:=1) rfl rfl)) rfl<|Bs ent112 rfl rfl (Abs (c:=c) M SC)<|?_;clear M;rintro _ w M rfl
 refine Ab rfl<|Ac<|Aa rfl<|Fh rfl rfl<|Ap rfl ?_ ?_
 ·intro h3b;have h3:=dF (Ah h3b);have h3c:(decide (Ja c=0))=false:=(Ah h3b);refine Ac<|Aa rfl<|Ab rfl<|Ae<|Ad rfl rfl<|?_
  exact ⟨M.weaken dS2,by rw [Yu (fun h_=>by have h9_:=Jz h_;omega),F1 (fun h_=>by have h9_:=Jz h_;omega)]⟩
 intro h4b;have h4:=dT (Ai h4b);have h4c:(decide (Ja c=0))=true:=(Ai h4b);refine Aq<|Ag<|Ac<|A0 Ba.k rfl rfl<|Bg Br M 0 rfl rfl rfl rfl<|B8 Br.k rfl<|Da rfl rfl<|Ap rfl ?_ ?_
 ·intro h5b;have h5:=dT h5b;refine Ac<|Ab rfl<|Ae<|Ad rfl rfl<|?_
  exact ⟨M.weaken dS2,by rw [Yv (Kg.1 (by omega)) (by omega)]⟩
 intro h6b;have h6:=dF h6b;refine Aq<|Ac<|fun a F=>?_
 refine Ta (kt:=23) (et:=4) F M rfl ?_;clear F M a;intro bm7 w a M F;revert a;refine Ab rfl<|Ag<|Ac<|A0 Ba.k rfl rfl<|Bg Br M 1 rfl rfl rfl rfl<|B8 Br.k rfl<|Aa rfl<|Ax<|?_
 have hv:D2 c:=Kg.1 (Classical.byContradiction fun h_=>by first | omega | simp_all);intro a F;refine Bz (fun m a' w'=>∃ (i:Nat),∃ (es:Array MapEntry),∃ (cl:Nat),∃ (ks:List Nat),m=l.length - i∧Fits 81 a' [(2,.pointer (some ⟨b1,0,none⟩)),(3,.pointer (some ⟨b2,0,none⟩)),(6,.map (some bm7)),(23,.slice a1 l.length c1),(24,.int .i64 ((l.length:Nat):Int)),(25,.int .i64 ((i:Nat):Int))]∧Mem w0 G (.obj bm7 (.map es cl)::.blk b2 [.slice a1 l.length c1] 54::.blk b1 [.slice kca c.kinds.length kcc,.int .i64 c.cap] 51::L) w'∧(i≤l.length)∧(Ji es ks)∧(F7 l i ks)∧(Cc (Ht c l) i=0)) _ ⟨0,#[],0,([]:List Nat),rfl,F.to ⟨rfl,rfl,rfl,rfl,rfl,rfl,trivial⟩,M,Nat.zero_le _,Ji.nil,F7.zero l,rfl⟩ ?_;clear F M;rintro m a w ⟨i,es,cl,ks,rfl,F,M,hi,Es,hks,hS⟩;revert a;refine Ac<|C2 rfl rfl<|Ag<|Ap rfl ?_ ?_
 ·intro h8b;have h8:=dT h8b;refine Aq<|Ag<|Ax<|Ac<|?_
  obtain ⟨Xe9,hXe9⟩:=A2 (xs:=l) (i:=i) (by omega);obtain ⟨be9,oe9,_,Ie9,_,Ae9,hTe9⟩:=S.at hXe9;obtain ⟨c1e9,hcse9,hPe9,hBe9⟩:=hTe9;obtain ⟨mae9,mce9,rfl,hke9,hte9,hxe9,hne9,SMe9⟩:=hPe9;subst hcse9;have hIe9:(Xe9.item.key < 18446744073709551616∧Xe9.item.typ < 256∧Xe9.item.text.length≤9223372036854775807):=⟨hke9,hte9,hxe9⟩;have hQe9:-9223372036854775808≤Xe9.size∧Xe9.size≤9223372036854775807:=hBe9;refine D0 Br.k Bu Ie9 rfl rfl<|Ar (fun a F=>Af Bu rfl (F.ev rfl) (cs:=[.int .u64 ((Xe9.item.key:Nat):Int),.int .u8 ((Xe9.item.typ:Nat):Int),.string (str Xe9.item.text),.slice mae9 Xe9.item.marks.length mce9,.int .i64 Xe9.size,.bool Xe9.known]) rfl (M.cellsA Ae9 0 (by omega) rfl)) rfl<|C9 M Bu rfl rfl<|?_;clear M;intro b10 w M
  intro a F;refine Cj F M Bu 0 ?_;clear F M a;intro w a M F;change Mem w0 G (.blk b10 [.int .u64 ((Xe9.item.key:Nat):Int),.int .u8 ((Xe9.item.typ:Nat):Int),.string (str Xe9.item.text),.slice mae9 Xe9.item.marks.length mce9,.int .i64 Xe9.size,.bool Xe9.known] 69::_::_::_::L) _ at M;revert a;refine Ag<|Ac<|A0 Bu.k rfl rfl<|Ar (fun a F=>Af Bf rfl (F.ev rfl) (cs:=[.int .u64 ((Xe9.item.key:Nat):Int),.int .u8 ((Xe9.item.typ:Nat):Int),.string (str Xe9.item.text),.slice mae9 Xe9.item.marks.length mce9]) rfl (M.cellsL (k:=0) rfl rfl)) rfl<|A0 Co.k rfl rfl<|Bg Dr M 3 rfl rfl rfl rfl<|B8 Dr.k rfl<|Bs Aay rfl rfl (J9 (x:=Xe9.item) (t:=((c.kinds.length:Nat):Int)) M hIe9 SMe9)<|?_;clear M;rintro _ w M rfl
  refine Ab rfl<|Ac<|Aa rfl<|Fh rfl rfl<|Ap rfl ?_ ?_
  ·intro h12b;have h12:=dF (Ah h12b);have h12c:(decide (Hm ((c.kinds.length:Nat):Int) Xe9.item=0))=false:=(Ah h12b);refine Ac<|Aa rfl<|Ab rfl<|Ae<|Ad rfl rfl<|?_
   exact ⟨M.weaken dS4,by rw [ck6 hv (by omega) hS hXe9 (fun h_=>by have h9_:=Dt h_;omega),E8 (fun h_=>by have h9_:=Dt h_;omega)]⟩
  intro h13b;have h13:=dT (Ai h13b);have h13c:(decide (Hm ((c.kinds.length:Nat):Int) Xe9.item=0))=true:=(Ai h13b);refine Aq<|Ag<|Ag<|?_
  have hok:ItemOk (c.kinds.length:Int) Xe9.item:=Dv.1 (by omega);obtain ⟨k,hK⟩:=Jm hok;refine Az<|Aa rfl<|A0 Bu.k rfl rfl<|A0 Bf.k rfl rfl<|Bg El M 0 rfl rfl rfl rfl<|fun a F=>Tb F M (k:=1) rfl Es Kt.k El.k Io rfl rfl rfl rfl ?_;clear F a;intro a F
  revert a;refine Ap rfl ?_ ?_
  ·intro h14b;have h14:=dT h14b;refine Ac<|Ab rfl<|Ae<|Ad rfl rfl<|?_
   exact ⟨M.weaken dS4,by rw [ck8 hv (by omega) hS hXe9 hok ((hks _).1 (by assumption))]⟩
  intro h15b;have h15:=dF h15b;refine Aq<|Ac<|Aa rfl<|A0 Bu.k rfl rfl<|A0 Bf.k rfl rfl<|Bg El M 0 rfl rfl rfl rfl<|fun a F=>?_
  refine Qb (z:=Xe9.item.key) F M (k:=1) rfl Es Kt.k El.k rfl rfl rfl (by assumption) ?_;clear F M a;intro esm16 clm16 w a Em16 M F;revert a;refine Ag<|Ac<|Ar (fun a F=>Af Co rfl (F.ev rfl) (cs:=[.slice kca c.kinds.length kcc,.int .i64 c.cap]) rfl (M.cellsL (k:=3) rfl rfl)) rfl<|A0 Bu.k rfl rfl<|Ar (fun a F=>Af Bf rfl (F.ev rfl) (cs:=[.int .u64 ((Xe9.item.key:Nat):Int),.int .u8 ((Xe9.item.typ:Nat):Int),.string (str Xe9.item.text),.slice mae9 Xe9.item.marks.length mce9]) rfl (M.cellsL (k:=0) rfl rfl)) rfl<|Bs Aor rfl rfl (Ra (c:=c) (x:=Xe9.item) M SC hIe9 SMe9 hK)<|?_;clear M;rintro _ w M ⟨n1n17,s1n17,s2n17,s3n17,a1n17,a2n17,l1n17,c1n17,l2n17,c2n17,rfl⟩
  refine Aa rfl<|Df rfl rfl<|Df rfl rfl<|C9 M Av rfl rfl<|?_;clear M;intro b18 w M
  intro a F;refine Cj F M Av 0 ?_;clear F M a;intro w a M F;change Mem w0 G (.blk b18 [.int .u8 n1n17,.string s1n17,.string s2n17,.slice a1n17 l1n17 c1n17,.string s3n17,.slice a2n17 l2n17 c2n17] 193::.blk b10 [.int .u64 ((Xe9.item.key:Nat):Int),.int .u8 ((Xe9.item.typ:Nat):Int),.string (str Xe9.item.text),.slice mae9 Xe9.item.marks.length mce9,.int .i64 Xe9.size,.bool Xe9.known] 69::_::_::_::L) _ at M;revert a;refine Ab rfl<|Ac<|Aa rfl<|Fh rfl rfl<|Ap rfl ?_ ?_
  ·intro h20b;have h20:=dF (Ah h20b);have h20c:(decide (Hv c Xe9.item=0))=false:=(Ah h20b);refine Ac<|Ab rfl<|Ae<|Ad rfl rfl<|?_
   exact ⟨M.weaken dS5,by rw [ck14 hv (by omega) hS hXe9 hok (fun h_=>absurd ((hks _).2 h_) (by assumption)) (by omega)]⟩
  intro h21b;have h21:=dT (Ai h21b);have h21c:(decide (Hv c Xe9.item=0))=true:=(Ai h21b);refine Aq<|Ag<|fun a F=>Fg [(.free,0),(.pure,1),(.keep,2),(.free,3),(.free,4),(.free,5),(.pure,6),(.free,7),(.free,8),(.free,9),(.pure,10),(.free,11),(.pure,12),(.free,13),(.free,14),(.pure,15),(.free,16),(.free,17),(.pure,18),(.free,19),(.free,20),(.free,21)] [] (Keep G [.blk b18 [.int .u8 n1n17,.string s1n17,.string s2n17,.slice a1n17 l1n17 c1n17,.string s3n17,.slice a2n17 l2n17 c2n17] 193,.blk b10 [.int .u64 ((Xe9.item.key:Nat):Int),.int .u8 ((Xe9.item.typ:Nat):Int),.string (str Xe9.item.text),.slice mae9 Xe9.item.marks.length mce9,.int .i64 Xe9.size,.bool Xe9.known] 69,.obj bm7 (.map esm16 clm16),.blk b2 [.slice a1 l.length c1] 54,.blk b1 [.slice kca c.kinds.length kcc,.int .i64 c.cap] 51]) rfl (by kernel_rfl) (fun c a d v w h=>by cases d <;> exact h) (Bo (M.drew _)) ?_
  replace M:=M.drew (w.drawn+1);revert a;refine k_f (fun a F w _=>Ce Bu.k rfl F rfl) rfl<|k_p (fun a F w M=>Al (agf Ld rfl) (F.ev rfl) (M.cellL (k:=1) rfl rfl)) rfl<|k_k rfl<|Bs Aoq rfl rfl (Ro (n:=Xe9.size) M)<|?_;clear M;rintro _ w M rfl
  refine eQ (Bo M)<|k_f (fun a F w _=>Gl (F.ev rfl)) rfl<|k_f (fun a F w _=>B1 F rfl) rfl<|?_
  rcases bE (!(decide (1≤Xe9.size∧Xe9.size≤2305843009213693952))) with h22b | h23b
  ·skip
   have h22:=dF (Ah h22b);have h22c:(decide (1≤Xe9.size∧Xe9.size≤2305843009213693952))=false:=(Ah h22b);refine k_s rfl (Ak h22c)<|k_s rfl (Ak h22c)<|k_s rfl (Ak h22c)<|k_s rfl (Ak h22c)<|k_u rfl<|k_u rfl<|k_u rfl<|k_u rfl<|k_u rfl<|k_u rfl<|k_u rfl<|k_u rfl<|k_u rfl<|k_u rfl<|k_u rfl<|k_s rfl (Ak h22c)<|k_f (fun a F w _=>F5 F rfl (Ak h22c) rfl) rfl<|De<|Bl rfl rfl<|Ac<|Ab rfl<|Bc<|?_
   refine Ae<|Ad rfl rfl<|?_
   exact ⟨M.weaken dS5,by rw [Apf hv (by omega) hS hXe9 hok (fun h_=>absurd ((hks _).2 h_) (by assumption)) (by omega) (by unfold Hh;rw [Hd hK];clear M;grind)]⟩
  have h23:=dT (Ai h23b);have h23c:(decide (1≤Xe9.size∧Xe9.size≤2305843009213693952))=true:=(Ai h23b);refine Cb rfl (Aj h23c) (fun a F w _=>Ce Bu.k rfl F rfl)<|Gk rfl (Aj h23c) (fun a F w M=>Al (agf Io rfl) (F.ev rfl) (M.cellL (k:=1) rfl rfl))<|Cb rfl (Aj h23c) (fun a F w _=>Gl (F.ev rfl))<|Cb rfl (Aj h23c) (fun a F w _=>B1 F rfl)<|?_
  rcases bE (!(Xe9.known)) with h24b | h28b
  ·skip
   have h24:=Ah h24b;have h24c:(Xe9.known)=false:=(Ah h24b);refine Cb rfl (Ak h24c) (fun a F w _=>Ce Bu.k rfl F rfl)<|Gk rfl (Ak h24c) (fun a F w M=>Al (agf Ld rfl) (F.ev rfl) (M.cellL (k:=1) rfl rfl))<|Cb rfl (Ak h24c) (fun a F w _=>Ce Co.k rfl F rfl)<|Gk rfl (Ak h24c) (fun a F w M=>Al (agf Dr rfl) (F.ev rfl) (M.cellL (k:=4) rfl rfl))<|Cb rfl (Ak h24c) (fun a F w _=>Ce Bu.k rfl F rfl)<|Cb rfl (Ak h24c) (fun a F w _=>Ce Bf.k rfl F rfl)<|Gk rfl (Ak h24c) (fun a F w M=>Al (agf Fa rfl) (F.ev rfl) (M.cellL (k:=1) rfl rfl))<|?_
   obtain ⟨be25,oe25,_,Ie25,_,Ae25,hTe25⟩:=SC.at hK;obtain ⟨c1e25,hcse25,hPe25,hBe25⟩:=hTe25;obtain ⟨tae25,tce25,kae25,kce25,rfl,hke25,hle25,SAe25,SKe25⟩:=Di hPe25;subst hcse25;have hQe25:-9223372036854775808≤k.base∧k.base≤9223372036854775807:=hBe25;refine Cb rfl (Ak h24c) (fun a F w _=>Bt Dr.k Fz (F.ev rfl) (F.ev rfl) (by omega) Ie25)<|Cb rfl (Ak h24c) (fun a F w _=>Ce Fz.k rfl F rfl)<|Gk rfl (Ak h24c) (fun a F w M=>Al (agf Ld rfl) (F.ev rfl) (M.cellA Ae25 6 rfl rfl))<|Cb rfl (Ak h24c) (fun a F w _=>M8 (F.ev rfl) (F.ev rfl))<|Cb rfl (Aj h23c) (fun a F w _=>F5 F rfl (Ak h24c) rfl)<|k_f (fun a F w _=>Fx F rfl (Aj h23c) rfl) rfl<|De<|Ap rfl ?_ ?_
   ·intro h26b;have h26:=dF (Ah h26b);have h26c:(decide (Xe9.size=k.base))=false:=(Ah h26b);refine Ac<|Ab rfl<|Ae<|Ad rfl rfl<|?_
    exact ⟨M.weaken dS5,by rw [Apf hv (by omega) hS hXe9 hok (fun h_=>absurd ((hks _).2 h_) (by assumption)) (by omega) (by unfold Hh;rw [Hd hK];clear M;grind)]⟩
   intro h27b;have h27:=dT (Ai h27b);have h27c:(decide (Xe9.size=k.base))=true:=(Ai h27b);refine Aq<|Az<|Bx rfl rfl<|Aa rfl<|Bc<|Cm<|fun a F=>?_
   exact ⟨_,by omega,i+1,esm16,clm16,(Xe9.item.key::ks),rfl,F.to ⟨rfl,rfl,rfl,rfl,rfl,rfl,trivial⟩,(M.weaken (cN (.cons _ (cC (.cons_cons _ (cC (sR _))))))),by omega,Em16,hks.step hXe9,ck0 hS hXe9 hok (fun h_=>absurd ((hks _).2 h_) (by assumption)) (by omega) (by unfold Hh;rw [Hd hK];clear F M;grind)⟩
  have h28:=Ai h28b;have h28c:(Xe9.known)=true:=(Ai h28b);refine k_s rfl (Aj h28c)<|k_s rfl (Aj h28c)<|k_s rfl (Aj h28c)<|k_s rfl (Aj h28c)<|k_s rfl (Aj h28c)<|k_s rfl (Aj h28c)<|k_s rfl (Aj h28c)<|k_s rfl (Aj h28c)<|k_s rfl (Aj h28c)<|k_s rfl (Aj h28c)<|k_s rfl (Aj h28c)<|Cb rfl (Aj h23c) (fun a F w _=>Fx F rfl (Aj h28c) rfl)<|k_f (fun a F w _=>Fx F rfl (Aj h23c) rfl) rfl<|De<|D4 rfl rfl<|Aq<|Az<|Bx rfl rfl<|Aa rfl<|Bc<|Cm<|?_
  intro a F
  exact ⟨_,by omega,i+1,esm16,clm16,(Xe9.item.key::ks),rfl,F.to ⟨rfl,rfl,rfl,rfl,rfl,rfl,trivial⟩,(M.weaken (cN (.cons _ (cC (.cons_cons _ (cC (sR _))))))),by omega,Em16,hks.step hXe9,ck0 hS hXe9 hok (fun h_=>absurd ((hks _).2 h_) (by assumption)) (by omega) (by unfold Hh;rw [Hd hK];clear F M;grind)⟩
 intro h29b;have h29:=dF h29b;refine B5<|Bw<|Bw<|Dj<|Ac<|Ar (fun a F=>Af Ba rfl (F.ev rfl) (cs:=[.slice a1 l.length c1]) rfl (M.cellsL (k:=1) rfl rfl)) rfl<|Bs Ul rfl rfl (V1 (l:=l) M S)<|?_;clear M;rintro _ w M rfl
 refine Ab rfl<|Ae<|Ad rfl rfl<|?_
 exact ⟨M.weaken dS3,by rw [Iu hv (by omega) hS (by omega)]⟩
end Go.Proofs.YtmmhmcplegpenaaGreatDoor
