/- The walks, part I. · Rules: a copy of a whole slice into an owned row; a set of numbers kept as a map. · The walks, part K. -/
import Derived.Test.YtmmhmcplegpenaaGreatDoorJ4
import Derived.Test.YtmmhmcplegpenaaGreatDoorJ3
import Derived.Laws.CopyRow
import Derived.MapKept
set_option linter.unusedSimpArgs false
set_option linter.unusedVariables false
set_option maxRecDepth 10000
namespace Go.Proofs.YtmmhmcplegpenaaGreatDoor
open Go Go.Y Go.Proofs
variable {w0 w:World} {G:Av} {L:List Res}
theorem Vw (M:Mem w0 G L w) (HG:Globs 0 1 2 3 G) {s:List UInt8} (hs:s.length≤1048577):Calls Tryz.prog 45 #[.string (str s)] w (Ret w0 G L fun G' v=>∃ (x:ItemD) (ma:Option Addr) (mc:Nat) (b:Bool),v=.tuple #[.agg #[.int .u64 ((x.key:Nat):Int),.int .u8 ((x.typ:Nat):Int),.string (str x.text),.slice ma x.marks.length mc],.bool b]∧(x.key < 18446744073709551616∧x.typ < 256∧x.text.length≤9223372036854775807)∧A8 Cj 1 G' (.slice ma x.marks.length mc) x.marks∧(b=true→Rd8 s x)∧(b=false→∀ y,¬ Rd8 s y)):=by
 refine Az (vs:=[_]) Tryz.func45 rfl (n:=72) rfl rfl<|Ad<|Dy M Af rfl rfl<|?_;clear M;intro b1 w M
 refine Ab rfl<|Ad<|Aa rfl<|Bc Qc rfl rfl (Kr (s:=s) (sep:=([32]:List UInt8)) M HG (by omega))<|?_;clear M;rintro _ w M rfl
 have hclc3:=D6 32 s;refine Aa rfl<|Cd rfl rfl<|Cd rfl rfl<|Cd rfl rfl<|Ab rfl<|Ab rfl<|Ab rfl<|Ad<|Aa rfl<|Bc Qc rfl rfl (Kr (s:=(Lib.cut s [32]).2.1) (sep:=([32]:List UInt8)) M HG (by omega))<|?_;clear M;rintro _ w M rfl
 have hclc4:=D6 32 ((Lib.cut s [32]).2.1);refine Aa rfl<|Cd rfl rfl<|Cd rfl rfl<|Cd rfl rfl<|Ab rfl<|Ab rfl<|Ab rfl<|Ad<|Aa rfl<|Bc Qc rfl rfl (Kr (s:=(Lib.cut ((Lib.cut s [32]).2.1) [32]).2.1) (sep:=([32]:List UInt8)) M HG (by omega))<|?_;clear M;rintro _ w M rfl
 have hclc5:=D6 32 ((Lib.cut ((Lib.cut s [32]).2.1) [32]).2.1);refine Aa rfl<|Cd rfl rfl<|Cd rfl rfl<|Cd rfl rfl<|Ab rfl<|Ab rfl<|Ab rfl<|Ad<|Aa rfl<|Bc Yn rfl rfl (Vb (s:=(Lib.cut s [32]).1) M HG (by omega))<|?_;clear M;rintro _ w M ⟨u6,eru6,rfl,hiu6,hpuu6⟩
 have hltu6:=hpuu6.1;refine Aa rfl<|Cd rfl rfl<|Cd rfl rfl<|Ab rfl<|Ab rfl<|Ad<|Aa rfl<|Bc Yn rfl rfl (Xd (s:=(Lib.cut ((Lib.cut s [32]).2.1) [32]).1) M HG (by omega))<|?_;clear M;rintro _ w M ⟨u7,eru7,rfl,hiu7,hpuu7⟩
 have hltu7:=hpuu7.1;refine Aa rfl<|Cd rfl rfl<|Cd rfl rfl<|Ab rfl<|Ab rfl<|Ad<|Aa rfl<|Aa rfl<|Aq (fun a F=>Bt Cz.k ⟨_,by rw [Bs Dk.k]⟩ (F.ev rfl) (Ji (by omega) (by omega))) rfl<|Aa rfl<|Aq (fun a F=>Bf (cs:=[.int .u64 ((u6:Nat):Int),.int .u8 ((u7:Nat):Int),.string (str ((Lib.cut ((Lib.cut ((Lib.cut s [32]).2.1) [32]).2.1) ([32]:List UInt8)).2.1)),.slice none 0 0]) (ps:=[(0,.int .u64 ((u6:Nat):Int)),(1,.int .u8 ((u7:Nat):Int)),(2,.string (str ((Lib.cut ((Lib.cut ((Lib.cut s [32]).2.1) [32]).2.1) ([32]:List UInt8)).2.1)))]) Af.k rfl Af (F.evp rfl) rfl) rfl<|fun a F=>?_
 refine Di F M Af 0 ?_;clear F M a;intro w a M F;revert a;refine Ai<|Ad<|Aa rfl<|F1 rfl rfl<|Ap rfl ?_ ?_
 ·intro h8b;have h8:=dF (Ag h8b);have h8c:(decide (((Lib.cut ((Lib.cut ((Lib.cut s [32]).2.1) [32]).2.1) ([32]:List UInt8)).1)=([45]:List UInt8)))=false:=(Ag h8b);refine Aw<|Aa rfl<|Ik ent102 rfl rfl (Se (s:=(Lib.cut ((Lib.cut ((Lib.cut s [32]).2.1) [32]).2.1) ([32]:List UInt8)).1) M HG (by omega))<|?_;clear M;rintro _ Gp9 w hGp9 M ⟨ap9,rfl,Sp9⟩
  replace HG:=HG.mono hGp9;refine A9 Af.k rfl rfl<|F0 A5 M 0 rfl rfl rfl rfl rfl rfl<|?_;clear M;intro w M
  refine Ai<|?_
  have hII10:((⟨u6,u7,(Lib.cut ((Lib.cut ((Lib.cut s [32]).2.1) [32]).2.1) ([32]:List UInt8)).2.1,Bg ((Lib.cut ((Lib.cut ((Lib.cut s [32]).2.1) [32]).2.1) ([32]:List UInt8)).1)⟩:ItemD).key < 18446744073709551616∧(⟨u6,u7,(Lib.cut ((Lib.cut ((Lib.cut s [32]).2.1) [32]).2.1) ([32]:List UInt8)).2.1,Bg ((Lib.cut ((Lib.cut ((Lib.cut s [32]).2.1) [32]).2.1) ([32]:List UInt8)).1)⟩:ItemD).typ < 256∧(⟨u6,u7,(Lib.cut ((Lib.cut ((Lib.cut s [32]).2.1) [32]).2.1) ([32]:List UInt8)).2.1,Bg ((Lib.cut ((Lib.cut ((Lib.cut s [32]).2.1) [32]).2.1) ([32]:List UInt8)).1)⟩:ItemD).text.length≤9223372036854775807):=⟨by show u6 < _;omega,by show u7 < _;omega,by show ((Lib.cut ((Lib.cut ((Lib.cut s [32]).2.1) [32]).2.1) ([32]:List UInt8)).2.1).length≤_;omega⟩;intro a F;refine Gh [(.pure,0),(.free,1),(.free,2),(.free,3),(.free,4),(.free,5),(.free,6),(.free,7),(.pure,8),(.keep,9),(.free,10),(.free,11),(.free,12),(.pure,13),(.free,15),(.keep,14),(.free,16),(.free,17),(.chg,18),(.free,19)] [18] (Keep Gp9 [.blk b1 [.int .u64 ((u6:Nat):Int),.int .u8 ((u7:Nat):Int),.string (str ((Lib.cut ((Lib.cut ((Lib.cut s [32]).2.1) [32]).2.1) ([32]:List UInt8)).2.1)),.slice ap9 ((Bg ((Lib.cut ((Lib.cut ((Lib.cut s [32]).2.1) [32]).2.1) ([32]:List UInt8)).1)).length) ((Bg ((Lib.cut ((Lib.cut ((Lib.cut s [32]).2.1) [32]).2.1) ([32]:List UInt8)).1)).length)] 26]) rfl (by kernel_rfl) (fun c a d v w h=>by cases d <;> exact h) (Bx (M.drew _)) ?_;replace M:=M.drew (w.drawn+1);revert a;refine pLb Af 0 rfl rfl rfl rfl<|fMv rfl<|k_f (fun a F w _=>H1 Pe.k hiu6 (F.ev rfl) rfl) rfl<|fMv rfl<|?_
  rcases bE (Dc eru6) with h11b | h17b
  ·skip
   have h11:(Dc eru6)=true:=h11b;refine F4 rfl h11b (fun a F w _=>J6 F rfl)<|F4 rfl h11b (fun a F w _=>H1 Pe.k hiu7 (F.ev rfl) rfl)<|k_f (fun a F w _=>L8 F rfl h11b rfl) rfl<|fMv rfl<|?_
   rcases bE (Dc eru7) with h12b | h16b
   ·skip
    have h12:(Dc eru7)=true:=h12b;refine Re rfl h12b (fun a F w M=>Bj Af rfl (F.ev rfl) (cs:=[.int .u64 ((u6:Nat):Int),.int .u8 ((u7:Nat):Int),.string (str ((Lib.cut ((Lib.cut ((Lib.cut s [32]).2.1) [32]).2.1) ([32]:List UInt8)).2.1)),.slice ap9 ((Bg ((Lib.cut ((Lib.cut ((Lib.cut s [32]).2.1) [32]).2.1) ([32]:List UInt8)).1)).length) ((Bg ((Lib.cut ((Lib.cut ((Lib.cut s [32]).2.1) [32]).2.1) ([32]:List UInt8)).1)).length)]) rfl (M.cellsL (k:=0) rfl rfl))<|fun a F=>Hs F rfl rfl h12b ?_
    revert a;refine g_t rfl h12b<|Bc Hg rfl rfl (Cw (x:=(⟨u6,u7,(Lib.cut ((Lib.cut ((Lib.cut s [32]).2.1) [32]).2.1) ([32]:List UInt8)).2.1,Bg ((Lib.cut ((Lib.cut ((Lib.cut s [32]).2.1) [32]).2.1) ([32]:List UInt8)).1)⟩:ItemD)) (t:=8) M hII10 Sp9)<|?_;clear M;rintro _ w M rfl
    refine eQ (Bx M)<|F4 rfl h12b (fun a F w _=>Kg (F.ev rfl) (F.ev rfl))<|k_f (fun a F w _=>L8 F rfl h12b rfl) rfl<|fMv rfl<|?_
    rcases bE (decide (Dh 8 ((⟨u6,u7,(Lib.cut ((Lib.cut ((Lib.cut s [32]).2.1) [32]).2.1) ([32]:List UInt8)).2.1,Bg ((Lib.cut ((Lib.cut ((Lib.cut s [32]).2.1) [32]).2.1) ([32]:List UInt8)).1)⟩:ItemD))=0)) with h13b | h15b
    ·skip
     have h13:=dT h13b;refine Re rfl h13b (fun a F w M=>Bj Af rfl (F.ev rfl) (cs:=[.int .u64 ((u6:Nat):Int),.int .u8 ((u7:Nat):Int),.string (str ((Lib.cut ((Lib.cut ((Lib.cut s [32]).2.1) [32]).2.1) ([32]:List UInt8)).2.1)),.slice ap9 ((Bg ((Lib.cut ((Lib.cut ((Lib.cut s [32]).2.1) [32]).2.1) ([32]:List UInt8)).1)).length) ((Bg ((Lib.cut ((Lib.cut ((Lib.cut s [32]).2.1) [32]).2.1) ([32]:List UInt8)).1)).length)]) rfl (M.cellsL (k:=0) rfl rfl))<|F4 rfl h13b (fun a F w _=>J6 F rfl)<|fun a F=>Hs F rfl rfl h13b ?_
     revert a;refine g_t rfl h13b<|Bc Ye rfl rfl (K4 (x:=(⟨u6,u7,(Lib.cut ((Lib.cut ((Lib.cut s [32]).2.1) [32]).2.1) ([32]:List UInt8)).2.1,Bg ((Lib.cut ((Lib.cut ((Lib.cut s [32]).2.1) [32]).2.1) ([32]:List UInt8)).1)⟩:ItemD)) M HG hII10 Sp9 (Cr.1 (by assumption)))<|?_;clear M;rintro _ w M rfl
     have hlll14:=Gw (x:=(⟨u6,u7,(Lib.cut ((Lib.cut ((Lib.cut s [32]).2.1) [32]).2.1) ([32]:List UInt8)).2.1,Bg ((Lib.cut ((Lib.cut ((Lib.cut s [32]).2.1) [32]).2.1) ([32]:List UInt8)).1)⟩:ItemD)) (Cr.1 (by assumption)) hII10.1 hII10.2.1;refine eQ (Bx M)<|F4 rfl h13b (fun a F w _=>Hp (F.ev rfl) (F.ev rfl))<|k_f (fun a F w _=>L8 F rfl h13b rfl) rfl<|k_c rfl<|fun a F=>?_
     refine Di F M Af 0 ?_;clear F M a;intro w a M F;revert a;refine Au<|fun a F=>⟨Keep Gp9 [.blk b1 [.int .u64 ((u6:Nat):Int),.int .u8 ((u7:Nat):Int),.string (str ((Lib.cut ((Lib.cut ((Lib.cut s [32]).2.1) [32]).2.1) ([32]:List UInt8)).2.1)),.slice ap9 ((Bg ((Lib.cut ((Lib.cut ((Lib.cut s [32]).2.1) [32]).2.1) ([32]:List UInt8)).1)).length) ((Bg ((Lib.cut ((Lib.cut ((Lib.cut s [32]).2.1) [32]).2.1) ([32]:List UInt8)).1)).length)] 26],M.keep (Gle.refl _) (by simp),?_⟩
     revert a;refine fAs rfl<|Fm<|Al<|fun a F=>D4 F M (k:=0) rfl rfl Af rfl rfl rfl rfl ?_
     refine ⟨_,hGp9,M.weaken dS1,(⟨u6,u7,(Lib.cut ((Lib.cut ((Lib.cut s [32]).2.1) [32]).2.1) ([32]:List UInt8)).2.1,Bg ((Lib.cut ((Lib.cut ((Lib.cut s [32]).2.1) [32]).2.1) ([32]:List UInt8)).1)⟩:ItemD),ap9,(Bg ((Lib.cut ((Lib.cut ((Lib.cut s [32]).2.1) [32]).2.1) ([32]:List UInt8)).1)).length,(decide ((B7 ((⟨u6,u7,(Lib.cut ((Lib.cut ((Lib.cut s [32]).2.1) [32]).2.1) ([32]:List UInt8)).2.1,Bg ((Lib.cut ((Lib.cut ((Lib.cut s [32]).2.1) [32]).2.1) ([32]:List UInt8)).1)⟩:ItemD)))=s)),rfl,hII10,Sp9,?_,?_⟩
     ·intro hb_;first | (cases hb_;done) | exact ⟨Cr.1 (by assumption),hII10.1,dT hb_⟩
     intro hb_ y hy;obtain ⟨q1,q2,q3⟩:=E6 hy hpuu6 (by omega) hpuu7;unfold Gb at q3;first | rw [if_neg (by assumption)] at q3 | rw [if_pos (by assumption)] at q3
     first | exact absurd (show true=false from q1.symm.trans (by assumption)) (by decide) | exact absurd (show true=false from q2.symm.trans (by assumption)) (by decide) | exact absurd (show Dh 8 (⟨u6,u7,(Lib.cut ((Lib.cut ((Lib.cut s [32]).2.1) [32]).2.1) ([32]:List UInt8)).2.1,Bg ((Lib.cut ((Lib.cut ((Lib.cut s [32]).2.1) [32]).2.1) ([32]:List UInt8)).1)⟩:ItemD)=0 by rw [q3];exact Cs hy.1) (by assumption) | exact absurd (show B7 (⟨u6,u7,(Lib.cut ((Lib.cut ((Lib.cut s [32]).2.1) [32]).2.1) ([32]:List UInt8)).2.1,Bg ((Lib.cut ((Lib.cut ((Lib.cut s [32]).2.1) [32]).2.1) ([32]:List UInt8)).1)⟩:ItemD)=s by rw [q3];exact hy.2.2) (dF hb_)
    have h15:=dF h15b;refine k_s rfl h15b<|k_s rfl h15b<|k_s rfl h15b<|k_s rfl h15b<|k_f (fun a F w _=>Ih F rfl h15b rfl) rfl<|k_c rfl<|fun a F=>?_
    refine Di F M Af 0 ?_;clear F M a;intro w a M F;revert a;refine Au<|fun a F=>⟨Keep Gp9 [.blk b1 [.int .u64 ((u6:Nat):Int),.int .u8 ((u7:Nat):Int),.string (str ((Lib.cut ((Lib.cut ((Lib.cut s [32]).2.1) [32]).2.1) ([32]:List UInt8)).2.1)),.slice ap9 ((Bg ((Lib.cut ((Lib.cut ((Lib.cut s [32]).2.1) [32]).2.1) ([32]:List UInt8)).1)).length) ((Bg ((Lib.cut ((Lib.cut ((Lib.cut s [32]).2.1) [32]).2.1) ([32]:List UInt8)).1)).length)] 26],M.keep (Gle.refl _) (by simp),?_⟩
    revert a;refine fAs rfl<|Fm<|Al<|fun a F=>D4 F M (k:=0) rfl rfl Af rfl rfl rfl rfl ?_
    refine ⟨_,hGp9,M.weaken dS1,(⟨u6,u7,(Lib.cut ((Lib.cut ((Lib.cut s [32]).2.1) [32]).2.1) ([32]:List UInt8)).2.1,Bg ((Lib.cut ((Lib.cut ((Lib.cut s [32]).2.1) [32]).2.1) ([32]:List UInt8)).1)⟩:ItemD),ap9,(Bg ((Lib.cut ((Lib.cut ((Lib.cut s [32]).2.1) [32]).2.1) ([32]:List UInt8)).1)).length,false,rfl,hII10,Sp9,?_,?_⟩
    ·intro hb_;first | (cases hb_;done) | exact ⟨Cr.1 (by assumption),hII10.1,dT hb_⟩
    intro hb_ y hy;obtain ⟨q1,q2,q3⟩:=E6 hy hpuu6 (by omega) hpuu7;unfold Gb at q3;first | rw [if_neg (by assumption)] at q3 | rw [if_pos (by assumption)] at q3
    first | exact absurd (show true=false from q1.symm.trans (by assumption)) (by decide) | exact absurd (show true=false from q2.symm.trans (by assumption)) (by decide) | exact absurd (show Dh 8 (⟨u6,u7,(Lib.cut ((Lib.cut ((Lib.cut s [32]).2.1) [32]).2.1) ([32]:List UInt8)).2.1,Bg ((Lib.cut ((Lib.cut ((Lib.cut s [32]).2.1) [32]).2.1) ([32]:List UInt8)).1)⟩:ItemD)=0 by rw [q3];exact Cs hy.1) (by assumption) | exact absurd (show B7 (⟨u6,u7,(Lib.cut ((Lib.cut ((Lib.cut s [32]).2.1) [32]).2.1) ([32]:List UInt8)).2.1,Bg ((Lib.cut ((Lib.cut ((Lib.cut s [32]).2.1) [32]).2.1) ([32]:List UInt8)).1)⟩:ItemD)=s by rw [q3];exact hy.2.2) (dF hb_)
   have h16:(Dc eru7)=false:=h16b;refine k_s rfl h16b<|k_s rfl h16b<|k_s rfl h16b<|k_f (fun a F w _=>Ih F rfl h16b rfl) rfl<|fMv rfl<|k_s rfl rfl<|k_s rfl rfl<|k_s rfl rfl<|k_s rfl rfl<|k_f (fun a F w _=>Ih F rfl rfl rfl) rfl<|k_c rfl<|fun a F=>?_
   refine Di F M Af 0 ?_;clear F M a;intro w a M F;revert a;refine Au<|fun a F=>⟨Keep Gp9 [.blk b1 [.int .u64 ((u6:Nat):Int),.int .u8 ((u7:Nat):Int),.string (str ((Lib.cut ((Lib.cut ((Lib.cut s [32]).2.1) [32]).2.1) ([32]:List UInt8)).2.1)),.slice ap9 ((Bg ((Lib.cut ((Lib.cut ((Lib.cut s [32]).2.1) [32]).2.1) ([32]:List UInt8)).1)).length) ((Bg ((Lib.cut ((Lib.cut ((Lib.cut s [32]).2.1) [32]).2.1) ([32]:List UInt8)).1)).length)] 26],M.keep (Gle.refl _) (by simp),?_⟩
   revert a;refine fAs rfl<|Fm<|Al<|fun a F=>D4 F M (k:=0) rfl rfl Af rfl rfl rfl rfl ?_
   refine ⟨_,hGp9,M.weaken dS1,(⟨u6,u7,(Lib.cut ((Lib.cut ((Lib.cut s [32]).2.1) [32]).2.1) ([32]:List UInt8)).2.1,Bg ((Lib.cut ((Lib.cut ((Lib.cut s [32]).2.1) [32]).2.1) ([32]:List UInt8)).1)⟩:ItemD),ap9,(Bg ((Lib.cut ((Lib.cut ((Lib.cut s [32]).2.1) [32]).2.1) ([32]:List UInt8)).1)).length,false,rfl,hII10,Sp9,?_,?_⟩
   ·intro hb_;first | (cases hb_;done) | exact ⟨Cr.1 (by assumption),hII10.1,dT hb_⟩
   intro hb_ y hy;obtain ⟨q1,q2,q3⟩:=E6 hy hpuu6 (by omega) hpuu7;unfold Gb at q3;first | rw [if_neg (by assumption)] at q3 | rw [if_pos (by assumption)] at q3
   first | exact absurd (show true=false from q1.symm.trans (by assumption)) (by decide) | exact absurd (show true=false from q2.symm.trans (by assumption)) (by decide) | exact absurd (show Dh 8 (⟨u6,u7,(Lib.cut ((Lib.cut ((Lib.cut s [32]).2.1) [32]).2.1) ([32]:List UInt8)).2.1,Bg ((Lib.cut ((Lib.cut ((Lib.cut s [32]).2.1) [32]).2.1) ([32]:List UInt8)).1)⟩:ItemD)=0 by rw [q3];exact Cs hy.1) (by assumption) | exact absurd (show B7 (⟨u6,u7,(Lib.cut ((Lib.cut ((Lib.cut s [32]).2.1) [32]).2.1) ([32]:List UInt8)).2.1,Bg ((Lib.cut ((Lib.cut ((Lib.cut s [32]).2.1) [32]).2.1) ([32]:List UInt8)).1)⟩:ItemD)=s by rw [q3];exact hy.2.2) (dF hb_)
  have h17:(Dc eru6)=false:=h17b;refine k_s rfl h17b<|k_s rfl h17b<|k_f (fun a F w _=>Ih F rfl h17b rfl) rfl<|fMv rfl<|k_s rfl rfl<|k_s rfl rfl<|k_s rfl rfl<|k_f (fun a F w _=>Ih F rfl rfl rfl) rfl<|fMv rfl<|k_s rfl rfl<|k_s rfl rfl<|k_s rfl rfl<|k_s rfl rfl<|k_f (fun a F w _=>Ih F rfl rfl rfl) rfl<|k_c rfl<|fun a F=>?_
  refine Di F M Af 0 ?_;clear F M a;intro w a M F;revert a;refine Au<|fun a F=>⟨Keep Gp9 [.blk b1 [.int .u64 ((u6:Nat):Int),.int .u8 ((u7:Nat):Int),.string (str ((Lib.cut ((Lib.cut ((Lib.cut s [32]).2.1) [32]).2.1) ([32]:List UInt8)).2.1)),.slice ap9 ((Bg ((Lib.cut ((Lib.cut ((Lib.cut s [32]).2.1) [32]).2.1) ([32]:List UInt8)).1)).length) ((Bg ((Lib.cut ((Lib.cut ((Lib.cut s [32]).2.1) [32]).2.1) ([32]:List UInt8)).1)).length)] 26],M.keep (Gle.refl _) (by simp),?_⟩
  revert a;refine fAs rfl<|Fm<|Al<|fun a F=>D4 F M (k:=0) rfl rfl Af rfl rfl rfl rfl ?_
  refine ⟨_,hGp9,M.weaken dS1,(⟨u6,u7,(Lib.cut ((Lib.cut ((Lib.cut s [32]).2.1) [32]).2.1) ([32]:List UInt8)).2.1,Bg ((Lib.cut ((Lib.cut ((Lib.cut s [32]).2.1) [32]).2.1) ([32]:List UInt8)).1)⟩:ItemD),ap9,(Bg ((Lib.cut ((Lib.cut ((Lib.cut s [32]).2.1) [32]).2.1) ([32]:List UInt8)).1)).length,false,rfl,hII10,Sp9,?_,?_⟩
  ·intro hb_;first | (cases hb_;done) | exact ⟨Cr.1 (by assumption),hII10.1,dT hb_⟩
  intro hb_ y hy;obtain ⟨q1,q2,q3⟩:=E6 hy hpuu6 (by omega) hpuu7;unfold Gb at q3;first | rw [if_neg (by assumption)] at q3 | rw [if_pos (by assumption)] at q3
  first | exact absurd (show true=false from q1.symm.trans (by assumption)) (by decide) | exact absurd (show true=false from q2.symm.trans (by assumption)) (by decide) | exact absurd (show Dh 8 (⟨u6,u7,(Lib.cut ((Lib.cut ((Lib.cut s [32]).2.1) [32]).2.1) ([32]:List UInt8)).2.1,Bg ((Lib.cut ((Lib.cut ((Lib.cut s [32]).2.1) [32]).2.1) ([32]:List UInt8)).1)⟩:ItemD)=0 by rw [q3];exact Cs hy.1) (by assumption) | exact absurd (show B7 (⟨u6,u7,(Lib.cut ((Lib.cut ((Lib.cut s [32]).2.1) [32]).2.1) ([32]:List UInt8)).2.1,Bg ((Lib.cut ((Lib.cut ((Lib.cut s [32]).2.1) [32]).2.1) ([32]:List UInt8)).1)⟩:ItemD)=s by rw [q3];exact hy.2.2) (dF hb_)
 intro h18b;have h18:=dT (Ah h18b);have h18c:(decide (((Lib.cut ((Lib.cut ((Lib.cut s [32]).2.1) [32]).2.1) ([32]:List UInt8)).1)=([45]:List UInt8)))=true:=(Ah h18b);refine Ao<|Ai<|?_
 have hII19:((⟨u6,u7,(Lib.cut ((Lib.cut ((Lib.cut s [32]).2.1) [32]).2.1) ([32]:List UInt8)).2.1,([]:List (List UInt8))⟩:ItemD).key < 18446744073709551616∧(⟨u6,u7,(Lib.cut ((Lib.cut ((Lib.cut s [32]).2.1) [32]).2.1) ([32]:List UInt8)).2.1,([]:List (List UInt8))⟩:ItemD).typ < 256∧(⟨u6,u7,(Lib.cut ((Lib.cut ((Lib.cut s [32]).2.1) [32]).2.1) ([32]:List UInt8)).2.1,([]:List (List UInt8))⟩:ItemD).text.length≤9223372036854775807):=⟨by show u6 < _;omega,by show u7 < _;omega,by show ((Lib.cut ((Lib.cut ((Lib.cut s [32]).2.1) [32]).2.1) ([32]:List UInt8)).2.1).length≤_;omega⟩;intro a F;refine Gh [(.pure,0),(.free,1),(.free,2),(.free,3),(.free,4),(.free,5),(.free,6),(.free,7),(.pure,8),(.keep,9),(.free,10),(.free,11),(.free,12),(.pure,13),(.free,15),(.keep,14),(.free,16),(.free,17),(.chg,18),(.free,19)] [18] (Keep G [.blk b1 [.int .u64 ((u6:Nat):Int),.int .u8 ((u7:Nat):Int),.string (str ((Lib.cut ((Lib.cut ((Lib.cut s [32]).2.1) [32]).2.1) ([32]:List UInt8)).2.1)),.slice none 0 0] 26]) rfl (by kernel_rfl) (fun c a d v w h=>by cases d <;> exact h) (Bx (M.drew _)) ?_;replace M:=M.drew (w.drawn+1);revert a;refine pLb Af 0 rfl rfl rfl rfl<|fMv rfl<|k_f (fun a F w _=>H1 Pe.k hiu6 (F.ev rfl) rfl) rfl<|fMv rfl<|?_
 rcases bE (Dc eru6) with h20b | h26b
 ·skip
  have h20:(Dc eru6)=true:=h20b;refine F4 rfl h20b (fun a F w _=>J6 F rfl)<|F4 rfl h20b (fun a F w _=>H1 Pe.k hiu7 (F.ev rfl) rfl)<|k_f (fun a F w _=>L8 F rfl h20b rfl) rfl<|fMv rfl<|?_
  rcases bE (Dc eru7) with h21b | h25b
  ·skip
   have h21:(Dc eru7)=true:=h21b;refine Re rfl h21b (fun a F w M=>Bj Af rfl (F.ev rfl) (cs:=[.int .u64 ((u6:Nat):Int),.int .u8 ((u7:Nat):Int),.string (str ((Lib.cut ((Lib.cut ((Lib.cut s [32]).2.1) [32]).2.1) ([32]:List UInt8)).2.1)),.slice none 0 0]) rfl (M.cellsL (k:=0) rfl rfl))<|fun a F=>Hs F rfl rfl h21b ?_
   revert a;refine g_t rfl h21b<|Bc Hg rfl rfl (Cw (x:=(⟨u6,u7,(Lib.cut ((Lib.cut ((Lib.cut s [32]).2.1) [32]).2.1) ([32]:List UInt8)).2.1,([]:List (List UInt8))⟩:ItemD)) (t:=8) M hII19 A8.nil)<|?_;clear M;rintro _ w M rfl
   refine eQ (Bx M)<|F4 rfl h21b (fun a F w _=>Kg (F.ev rfl) (F.ev rfl))<|k_f (fun a F w _=>L8 F rfl h21b rfl) rfl<|fMv rfl<|?_
   rcases bE (decide (Dh 8 ((⟨u6,u7,(Lib.cut ((Lib.cut ((Lib.cut s [32]).2.1) [32]).2.1) ([32]:List UInt8)).2.1,([]:List (List UInt8))⟩:ItemD))=0)) with h22b | h24b
   ·skip
    have h22:=dT h22b;refine Re rfl h22b (fun a F w M=>Bj Af rfl (F.ev rfl) (cs:=[.int .u64 ((u6:Nat):Int),.int .u8 ((u7:Nat):Int),.string (str ((Lib.cut ((Lib.cut ((Lib.cut s [32]).2.1) [32]).2.1) ([32]:List UInt8)).2.1)),.slice none 0 0]) rfl (M.cellsL (k:=0) rfl rfl))<|F4 rfl h22b (fun a F w _=>J6 F rfl)<|fun a F=>Hs F rfl rfl h22b ?_
    revert a;refine g_t rfl h22b<|Bc Ye rfl rfl (K4 (x:=(⟨u6,u7,(Lib.cut ((Lib.cut ((Lib.cut s [32]).2.1) [32]).2.1) ([32]:List UInt8)).2.1,([]:List (List UInt8))⟩:ItemD)) M HG hII19 A8.nil (Cr.1 (by assumption)))<|?_;clear M;rintro _ w M rfl
    have hlll23:=Gw (x:=(⟨u6,u7,(Lib.cut ((Lib.cut ((Lib.cut s [32]).2.1) [32]).2.1) ([32]:List UInt8)).2.1,([]:List (List UInt8))⟩:ItemD)) (Cr.1 (by assumption)) hII19.1 hII19.2.1;refine eQ (Bx M)<|F4 rfl h22b (fun a F w _=>Hp (F.ev rfl) (F.ev rfl))<|k_f (fun a F w _=>L8 F rfl h22b rfl) rfl<|k_c rfl<|fun a F=>?_
    refine Di F M Af 0 ?_;clear F M a;intro w a M F;revert a;refine Au<|fun a F=>⟨Keep G [.blk b1 [.int .u64 ((u6:Nat):Int),.int .u8 ((u7:Nat):Int),.string (str ((Lib.cut ((Lib.cut ((Lib.cut s [32]).2.1) [32]).2.1) ([32]:List UInt8)).2.1)),.slice none 0 0] 26],M.keep (Gle.refl _) (by simp),?_⟩
    revert a;refine fAs rfl<|Fm<|Al<|fun a F=>D4 F M (k:=0) rfl rfl Af rfl rfl rfl rfl ?_
    refine ⟨_,(Gle.refl _),M.weaken dS1,(⟨u6,u7,(Lib.cut ((Lib.cut ((Lib.cut s [32]).2.1) [32]).2.1) ([32]:List UInt8)).2.1,([]:List (List UInt8))⟩:ItemD),none,0,(decide ((B7 ((⟨u6,u7,(Lib.cut ((Lib.cut ((Lib.cut s [32]).2.1) [32]).2.1) ([32]:List UInt8)).2.1,([]:List (List UInt8))⟩:ItemD)))=s)),rfl,hII19,A8.nil,?_,?_⟩
    ·intro hb_;first | (cases hb_;done) | exact ⟨Cr.1 (by assumption),hII19.1,dT hb_⟩
    intro hb_ y hy;obtain ⟨q1,q2,q3⟩:=E6 hy hpuu6 (by omega) hpuu7;unfold Gb at q3;first | rw [if_neg (by assumption)] at q3 | rw [if_pos (by assumption)] at q3
    first | exact absurd (show true=false from q1.symm.trans (by assumption)) (by decide) | exact absurd (show true=false from q2.symm.trans (by assumption)) (by decide) | exact absurd (show Dh 8 (⟨u6,u7,(Lib.cut ((Lib.cut ((Lib.cut s [32]).2.1) [32]).2.1) ([32]:List UInt8)).2.1,([]:List (List UInt8))⟩:ItemD)=0 by rw [q3];exact Cs hy.1) (by assumption) | exact absurd (show B7 (⟨u6,u7,(Lib.cut ((Lib.cut ((Lib.cut s [32]).2.1) [32]).2.1) ([32]:List UInt8)).2.1,([]:List (List UInt8))⟩:ItemD)=s by rw [q3];exact hy.2.2) (dF hb_)
   have h24:=dF h24b;refine k_s rfl h24b<|k_s rfl h24b<|k_s rfl h24b<|k_s rfl h24b<|k_f (fun a F w _=>Ih F rfl h24b rfl) rfl<|k_c rfl<|fun a F=>?_
   refine Di F M Af 0 ?_;clear F M a;intro w a M F;revert a;refine Au<|fun a F=>⟨Keep G [.blk b1 [.int .u64 ((u6:Nat):Int),.int .u8 ((u7:Nat):Int),.string (str ((Lib.cut ((Lib.cut ((Lib.cut s [32]).2.1) [32]).2.1) ([32]:List UInt8)).2.1)),.slice none 0 0] 26],M.keep (Gle.refl _) (by simp),?_⟩
   revert a;refine fAs rfl<|Fm<|Al<|fun a F=>D4 F M (k:=0) rfl rfl Af rfl rfl rfl rfl ?_
   refine ⟨_,(Gle.refl _),M.weaken dS1,(⟨u6,u7,(Lib.cut ((Lib.cut ((Lib.cut s [32]).2.1) [32]).2.1) ([32]:List UInt8)).2.1,([]:List (List UInt8))⟩:ItemD),none,0,false,rfl,hII19,A8.nil,?_,?_⟩
   ·intro hb_;first | (cases hb_;done) | exact ⟨Cr.1 (by assumption),hII19.1,dT hb_⟩
   intro hb_ y hy;obtain ⟨q1,q2,q3⟩:=E6 hy hpuu6 (by omega) hpuu7;unfold Gb at q3;first | rw [if_neg (by assumption)] at q3 | rw [if_pos (by assumption)] at q3
   first | exact absurd (show true=false from q1.symm.trans (by assumption)) (by decide) | exact absurd (show true=false from q2.symm.trans (by assumption)) (by decide) | exact absurd (show Dh 8 (⟨u6,u7,(Lib.cut ((Lib.cut ((Lib.cut s [32]).2.1) [32]).2.1) ([32]:List UInt8)).2.1,([]:List (List UInt8))⟩:ItemD)=0 by rw [q3];exact Cs hy.1) (by assumption) | exact absurd (show B7 (⟨u6,u7,(Lib.cut ((Lib.cut ((Lib.cut s [32]).2.1) [32]).2.1) ([32]:List UInt8)).2.1,([]:List (List UInt8))⟩:ItemD)=s by rw [q3];exact hy.2.2) (dF hb_)
  have h25:(Dc eru7)=false:=h25b;refine k_s rfl h25b<|k_s rfl h25b<|k_s rfl h25b<|k_f (fun a F w _=>Ih F rfl h25b rfl) rfl<|fMv rfl<|k_s rfl rfl<|k_s rfl rfl<|k_s rfl rfl<|k_s rfl rfl<|k_f (fun a F w _=>Ih F rfl rfl rfl) rfl<|k_c rfl<|fun a F=>?_
  refine Di F M Af 0 ?_;clear F M a;intro w a M F;revert a;refine Au<|fun a F=>⟨Keep G [.blk b1 [.int .u64 ((u6:Nat):Int),.int .u8 ((u7:Nat):Int),.string (str ((Lib.cut ((Lib.cut ((Lib.cut s [32]).2.1) [32]).2.1) ([32]:List UInt8)).2.1)),.slice none 0 0] 26],M.keep (Gle.refl _) (by simp),?_⟩
  revert a;refine fAs rfl<|Fm<|Al<|fun a F=>D4 F M (k:=0) rfl rfl Af rfl rfl rfl rfl ?_
  refine ⟨_,(Gle.refl _),M.weaken dS1,(⟨u6,u7,(Lib.cut ((Lib.cut ((Lib.cut s [32]).2.1) [32]).2.1) ([32]:List UInt8)).2.1,([]:List (List UInt8))⟩:ItemD),none,0,false,rfl,hII19,A8.nil,?_,?_⟩
  ·intro hb_;first | (cases hb_;done) | exact ⟨Cr.1 (by assumption),hII19.1,dT hb_⟩
  intro hb_ y hy;obtain ⟨q1,q2,q3⟩:=E6 hy hpuu6 (by omega) hpuu7;unfold Gb at q3;first | rw [if_neg (by assumption)] at q3 | rw [if_pos (by assumption)] at q3
  first | exact absurd (show true=false from q1.symm.trans (by assumption)) (by decide) | exact absurd (show true=false from q2.symm.trans (by assumption)) (by decide) | exact absurd (show Dh 8 (⟨u6,u7,(Lib.cut ((Lib.cut ((Lib.cut s [32]).2.1) [32]).2.1) ([32]:List UInt8)).2.1,([]:List (List UInt8))⟩:ItemD)=0 by rw [q3];exact Cs hy.1) (by assumption) | exact absurd (show B7 (⟨u6,u7,(Lib.cut ((Lib.cut ((Lib.cut s [32]).2.1) [32]).2.1) ([32]:List UInt8)).2.1,([]:List (List UInt8))⟩:ItemD)=s by rw [q3];exact hy.2.2) (dF hb_)
 have h26:(Dc eru6)=false:=h26b;refine k_s rfl h26b<|k_s rfl h26b<|k_f (fun a F w _=>Ih F rfl h26b rfl) rfl<|fMv rfl<|k_s rfl rfl<|k_s rfl rfl<|k_s rfl rfl<|k_f (fun a F w _=>Ih F rfl rfl rfl) rfl<|fMv rfl<|k_s rfl rfl<|k_s rfl rfl<|k_s rfl rfl<|k_s rfl rfl<|k_f (fun a F w _=>Ih F rfl rfl rfl) rfl<|k_c rfl<|fun a F=>?_
 refine Di F M Af 0 ?_;clear F M a;intro w a M F;revert a;refine Au<|fun a F=>⟨Keep G [.blk b1 [.int .u64 ((u6:Nat):Int),.int .u8 ((u7:Nat):Int),.string (str ((Lib.cut ((Lib.cut ((Lib.cut s [32]).2.1) [32]).2.1) ([32]:List UInt8)).2.1)),.slice none 0 0] 26],M.keep (Gle.refl _) (by simp),?_⟩
 revert a;refine fAs rfl<|Fm<|Al<|fun a F=>D4 F M (k:=0) rfl rfl Af rfl rfl rfl rfl ?_
 refine ⟨_,(Gle.refl _),M.weaken dS1,(⟨u6,u7,(Lib.cut ((Lib.cut ((Lib.cut s [32]).2.1) [32]).2.1) ([32]:List UInt8)).2.1,([]:List (List UInt8))⟩:ItemD),none,0,false,rfl,hII19,A8.nil,?_,?_⟩
 ·intro hb_;first | (cases hb_;done) | exact ⟨Cr.1 (by assumption),hII19.1,dT hb_⟩
 intro hb_ y hy;obtain ⟨q1,q2,q3⟩:=E6 hy hpuu6 (by omega) hpuu7;unfold Gb at q3;first | rw [if_neg (by assumption)] at q3 | rw [if_pos (by assumption)] at q3
 first | exact absurd (show true=false from q1.symm.trans (by assumption)) (by decide) | exact absurd (show true=false from q2.symm.trans (by assumption)) (by decide) | exact absurd (show Dh 8 (⟨u6,u7,(Lib.cut ((Lib.cut ((Lib.cut s [32]).2.1) [32]).2.1) ([32]:List UInt8)).2.1,([]:List (List UInt8))⟩:ItemD)=0 by rw [q3];exact Cs hy.1) (by assumption) | exact absurd (show B7 (⟨u6,u7,(Lib.cut ((Lib.cut ((Lib.cut s [32]).2.1) [32]).2.1) ([32]:List UInt8)).2.1,([]:List (List UInt8))⟩:ItemD)=s by rw [q3];exact hy.2.2) (dF hb_)
theorem Ys {c:UInt8} {s:List UInt8} (h:(Lib.cut s [c]).2.2=true):(Lib.cut s [c]).2.1.length < s.length:=by
 rw [Iy] at h ⊢
 split
 ·rename_i h1;simp only [List.length_drop];omega
 rename_i h1;rw [if_neg h1] at h;cases h
theorem U6 (M:Mem w0 G L w) {s:List UInt8} (hs:s.length≤1048578):Calls Tryz.prog 90 #[.string (str s)] w (Ret w0 G L fun G' v=>∃ (x:ItemD) (ma:Option Addr) (mc:Nat) (b:Bool),v=.tuple #[.agg #[.int .u64 ((x.key:Nat):Int),.int .u8 ((x.typ:Nat):Int),.string (str x.text),.slice ma x.marks.length mc],.int .i64 (if b=true then 1 else 0)]∧(x.key < 18446744073709551616∧x.typ < 256∧x.text.length≤9223372036854775807)∧A8 Cj 1 G' (.slice ma x.marks.length mc) x.marks∧(b=true→Lz s x)∧(b=false→∀ y,¬ Lz s y)):=by
 refine Az (vs:=[_]) Tryz.func90 rfl (n:=106) rfl rfl<|Ad<|Dy M Af rfl rfl<|?_;clear M;intro b1 w M
 refine Ab rfl<|Ad<|Aa rfl<|Bc Oz rfl rfl (Gq (s:=s) (c:=(32:UInt8)) M (by omega))<|?_;clear M;rintro _ w M rfl
 have hclc3:=D6 (32:UInt8) s;refine Aa rfl<|Cd rfl rfl<|Cd rfl rfl<|Cd rfl rfl<|Ab rfl<|Ab rfl<|Ab rfl<|Ad<|Aa rfl<|Bc Oz rfl rfl (Gq (s:=(Lib.cut s [(32:UInt8)]).2.1) (c:=(32:UInt8)) M (by omega))<|?_;clear M;rintro _ w M rfl
 have hclc4:=D6 (32:UInt8) ((Lib.cut s [(32:UInt8)]).2.1);refine Aa rfl<|Cd rfl rfl<|Cd rfl rfl<|Cd rfl rfl<|Ab rfl<|Ab rfl<|Ab rfl<|Ad<|Aa rfl<|Bc Oz rfl rfl (Gq (s:=(Lib.cut ((Lib.cut s [(32:UInt8)]).2.1) [(32:UInt8)]).2.1) (c:=(32:UInt8)) M (by omega))<|?_;clear M;rintro _ w M rfl
 have hclc5:=D6 (32:UInt8) ((Lib.cut ((Lib.cut s [(32:UInt8)]).2.1) [(32:UInt8)]).2.1);refine Aa rfl<|Cd rfl rfl<|Cd rfl rfl<|Cd rfl rfl<|Ab rfl<|Ab rfl<|Ab rfl<|Ad<|Aa rfl<|Bc Oz rfl rfl (Gq (s:=(Lib.cut ((Lib.cut ((Lib.cut s [(32:UInt8)]).2.1) [(32:UInt8)]).2.1) [(32:UInt8)]).2.1) (c:=(10:UInt8)) M (by omega))<|?_;clear M;rintro _ w M rfl
 have hclc6:=D6 (10:UInt8) ((Lib.cut ((Lib.cut ((Lib.cut s [(32:UInt8)]).2.1) [(32:UInt8)]).2.1) [(32:UInt8)]).2.1);refine Aa rfl<|Cd rfl rfl<|Cd rfl rfl<|Cd rfl rfl<|Ab rfl<|Ab rfl<|Ab rfl<|Ad<|Aa rfl<|Bc Yk rfl rfl (N9 (s:=(Lib.cut s [(32:UInt8)]).1) M (by omega))<|?_;clear M;rintro _ w M ⟨u7,bu7,rfl,hpuu7⟩
 refine Aa rfl<|Cd rfl rfl<|Cd rfl rfl<|Ab rfl<|Ab rfl<|Ad<|Aa rfl<|Bc Yk rfl rfl (N9 (s:=(Lib.cut ((Lib.cut s [(32:UInt8)]).2.1) [(32:UInt8)]).1) M (by omega))<|?_;clear M;rintro _ w M ⟨u8,bu8,rfl,hpuu8⟩
 refine Aa rfl<|Cd rfl rfl<|Cd rfl rfl<|Ab rfl<|Ab rfl<|Ai<|Ai<|?_
 have hB:=fun (y:ItemD) (hy:Lz s y)=>U7 hy hpuu7 (by omega) hpuu8;have hlt1:=hpuu7.1;have hlt2:=hpuu8.1;refine Aw<|Aa rfl<|Aa rfl<|Aq (fun a F=>Gt (F.ev rfl) (F.ev rfl) (Cl (by ((repeat' split) <;> omega)) (by ((repeat' split) <;> omega)))) rfl<|Aa rfl<|Aq (fun a F=>Gt (F.ev rfl) (F.ev rfl) (Cl (by ((repeat' split) <;> omega)) (by ((repeat' split) <;> omega)))) rfl<|C2 rfl rfl<|Aa rfl<|?_
 rcases bE (decide ((((if bu7=true then (1:Int) else 0)) * ((if bu8=true then (1:Int) else 0))) * ((if (Lib.cut ((Lib.cut ((Lib.cut ((Lib.cut s [(32:UInt8)]).2.1) [(32:UInt8)]).2.1) [(32:UInt8)]).2.1) [(10:UInt8)]).2.2=true then (1:Int) else 0))=0)) with h9b | h10b
 ·skip
  have h9:=dT h9b;refine g_f rfl h9b<|g_f rfl h9b<|A7 rfl h9b rfl<|Aa rfl<|g_f rfl rfl<|g_f rfl rfl<|A7 rfl rfl rfl<|Bz rfl rfl<|Ad<|Aq (fun a F=>Bf (cs:=[.int .u64 0,.int .u8 0,.string (str []),.slice none 0 0]) (ps:=[]) Af.k rfl Af (F.evp rfl) rfl) rfl<|fun a F=>?_
  refine Di F M Af 0 ?_;clear F M a;intro w a M F;revert a;refine Ab rfl<|Al<|J2<|fun a F=>D4 F M (k:=0) rfl rfl Af rfl rfl rfl rfl ?_
  refine ⟨_,(Gle.refl _),M.weaken dS1,(⟨0,0,[],[]⟩:ItemD),none,0,false,rfl,⟨by decide,by decide,by decide⟩,A8.nil,fun h_=>(by cases h_),fun _ y hy=>?_⟩;obtain ⟨q1,q2,q3,q4,q5,q6⟩:=hB y hy
  first | exact absurd (show (((if bu7=true then (1:Int) else 0)) * ((if bu8=true then (1:Int) else 0))) * ((if (Lib.cut ((Lib.cut ((Lib.cut ((Lib.cut s [(32:UInt8)]).2.1) [(32:UInt8)]).2.1) [(32:UInt8)]).2.1) [(10:UInt8)]).2.2=true then (1:Int) else 0))=0 by assumption) (by rw [q1,q2,q6];simp) | (have h9_:=hy.1.2.1;omega)
 have h10:=dF h10b;refine g_t rfl h10b<|Aa rfl<|g_t rfl h10b<|C5 rfl rfl<|A1 rfl h10b rfl<|Aa rfl<|?_
 rcases bE (decide (7 < ((u8:Nat):Int))) with h11b | h12b
 ·skip
  have h11:=dT h11b;refine g_f rfl h11b<|g_f rfl h11b<|A7 rfl h11b rfl<|Bz rfl rfl<|Ad<|Aq (fun a F=>Bf (cs:=[.int .u64 0,.int .u8 0,.string (str []),.slice none 0 0]) (ps:=[]) Af.k rfl Af (F.evp rfl) rfl) rfl<|fun a F=>?_
  refine Di F M Af 0 ?_;clear F M a;intro w a M F;revert a;refine Ab rfl<|Al<|J2<|fun a F=>D4 F M (k:=0) rfl rfl Af rfl rfl rfl rfl ?_
  refine ⟨_,(Gle.refl _),M.weaken dS1,(⟨0,0,[],[]⟩:ItemD),none,0,false,rfl,⟨by decide,by decide,by decide⟩,A8.nil,fun h_=>(by cases h_),fun _ y hy=>?_⟩;obtain ⟨q1,q2,q3,q4,q5,q6⟩:=hB y hy
  first | exact absurd (show (((if bu7=true then (1:Int) else 0)) * ((if bu8=true then (1:Int) else 0))) * ((if (Lib.cut ((Lib.cut ((Lib.cut ((Lib.cut s [(32:UInt8)]).2.1) [(32:UInt8)]).2.1) [(32:UInt8)]).2.1) [(10:UInt8)]).2.2=true then (1:Int) else 0))=0 by assumption) (by rw [q1,q2,q6];simp) | (have h9_:=hy.1.2.1;omega)
 have h12:=dF h12b;refine g_t rfl h12b<|Aa rfl<|g_t rfl h12b<|F1 rfl rfl<|A1 rfl h12b rfl<|Ap rfl ?_ ?_
 ·intro h13b;have h13:=dF (Ag h13b);have h13c:(decide (((Lib.cut ((Lib.cut ((Lib.cut ((Lib.cut s [(32:UInt8)]).2.1) [(32:UInt8)]).2.1) [(32:UInt8)]).2.1) [(10:UInt8)]).2.1)=([]:List UInt8)))=false:=(Ag h13b);refine Ad<|Aq (fun a F=>Bf (cs:=[.int .u64 0,.int .u8 0,.string (str []),.slice none 0 0]) (ps:=[]) Af.k rfl Af (F.evp rfl) rfl) rfl<|fun a F=>?_
  refine Di F M Af 0 ?_;clear F M a;intro w a M F;revert a;refine Ab rfl<|Al<|J2<|fun a F=>D4 F M (k:=0) rfl rfl Af rfl rfl rfl rfl ?_
  refine ⟨_,(Gle.refl _),M.weaken dS1,(⟨0,0,[],[]⟩:ItemD),none,0,false,rfl,⟨by decide,by decide,by decide⟩,A8.nil,fun h_=>(by cases h_),fun _ y hy=>?_⟩;obtain ⟨q1,q2,q3,q4,q5,q6⟩:=hB y hy
  first | exact absurd (show (((if bu7=true then (1:Int) else 0)) * ((if bu8=true then (1:Int) else 0))) * ((if (Lib.cut ((Lib.cut ((Lib.cut ((Lib.cut s [(32:UInt8)]).2.1) [(32:UInt8)]).2.1) [(32:UInt8)]).2.1) [(10:UInt8)]).2.2=true then (1:Int) else 0))=0 by assumption) (by rw [q1,q2,q6];simp) | (have h9_:=hy.1.2.1;omega) | exact absurd (show (Lib.cut ((Lib.cut ((Lib.cut ((Lib.cut s [(32:UInt8)]).2.1) [(32:UInt8)]).2.1) [(32:UInt8)]).2.1) [(10:UInt8)]).2.1=[] by rw [q6]) (by assumption)
 intro h14b;have h14:=dT (Ah h14b);have h14c:(decide (((Lib.cut ((Lib.cut ((Lib.cut ((Lib.cut s [(32:UInt8)]).2.1) [(32:UInt8)]).2.1) [(32:UInt8)]).2.1) [(10:UInt8)]).2.1)=([]:List UInt8)))=true:=(Ah h14b);refine Ao<|Ad<|Aa rfl<|Aa rfl<|Aq (fun a F=>Bt Cz.k ⟨_,by rw [Bs Dk.k]⟩ (F.ev rfl) (Ji (by omega) (by omega))) rfl<|Aa rfl<|Aq (fun a F=>Bf (cs:=[.int .u64 ((u7:Nat):Int),.int .u8 ((u8:Nat):Int),.string (str ((Lib.cut ((Lib.cut ((Lib.cut ((Lib.cut s [(32:UInt8)]).2.1) [(32:UInt8)]).2.1) [(32:UInt8)]).2.1) [(10:UInt8)]).1)),.slice none 0 0]) (ps:=[(0,.int .u64 ((u7:Nat):Int)),(1,.int .u8 ((u8:Nat):Int)),(2,.string (str ((Lib.cut ((Lib.cut ((Lib.cut ((Lib.cut s [(32:UInt8)]).2.1) [(32:UInt8)]).2.1) [(32:UInt8)]).2.1) [(10:UInt8)]).1)))]) Af.k rfl Af (F.evp rfl) rfl) rfl<|Dy M Af rfl rfl<|?_;clear M;intro b15 w M
 intro a F;refine Di F M Af 0 ?_;clear F M a;intro w a M F;revert a;refine Ai<|Ar<|?_
 change Mem w0 G (.blk b15 [.int .u64 ((u7:Nat):Int),.int .u8 ((u8:Nat):Int),.string (str ((Lib.cut ((Lib.cut ((Lib.cut ((Lib.cut s [(32:UInt8)]).2.1) [(32:UInt8)]).2.1) [(32:UInt8)]).2.1) [(10:UInt8)]).1)),.slice none 0 0] 26::_::L) _ at M;have M:=(M.nilrow 9 1).perm (List.Perm.swap _ _ _);change Mem w0 G (.blk b15 [.int .u64 ((u7:Nat):Int),.int .u8 ((u8:Nat):Int),.string (str ((Lib.cut ((Lib.cut ((Lib.cut ((Lib.cut s [(32:UInt8)]).2.1) [(32:UInt8)]).2.1) [(32:UInt8)]).2.1) [(10:UInt8)]).1)),.slice none 0 0] 26::.row (.slice none 0 0) 0 ([]) 9 1::.blk b1 [.int .u64 0,.int .u8 0,.string (str []),.slice none 0 0] 26::L) _ at M;intro a F;refine Bi (fun m a' w'=>∃ (am:Option Addr),∃ (nm:Nat),∃ (cm:Nat),∃ (csm:List Value),∃ (xs:List (List UInt8)),∃ (c:List UInt8),m=c.length∧Fits 106 a' [(0,.string (str s)),(2,.pointer (some ⟨b1,0,none⟩)),(3,.int .i64 0),(20,.pointer (some ⟨b15,0,none⟩)),(10,.string (str c))]∧Mem w0 G (.blk b15 [.int .u64 ((u7:Nat):Int),.int .u8 ((u8:Nat):Int),.string (str ((Lib.cut ((Lib.cut ((Lib.cut ((Lib.cut s [(32:UInt8)]).2.1) [(32:UInt8)]).2.1) [(32:UInt8)]).2.1) [(10:UInt8)]).1)),.slice am nm cm] 26::.row (.slice am nm cm) (nm) (csm) 9 1::.blk b1 [.int .u64 0,.int .u8 0,.string (str []),.slice none 0 0] 26::L) w'∧(Els Cj 1 G csm xs)∧(xs.length+c.length≤s.length)∧(nm=xs.length)∧(∀ y,Lz s y→MkI y.marks xs c)) _ ⟨none,0,0,[],[],(Lib.cut ((Lib.cut ((Lib.cut s [(32:UInt8)]).2.1) [(32:UInt8)]).2.1) [(32:UInt8)]).1,rfl,F.to ⟨rfl,rfl,rfl,rfl,rfl,trivial⟩,M,rfl,by simp only [List.length_nil];omega,rfl,fun y hy=>MkI.nil (hB y hy).2.2.2.2.1⟩ ?_
 clear F M;rintro m a w ⟨am,nm,cm,csm,xs,c,rfl,F,M,Em,hxl,hnm,hM⟩;revert a;refine Ai<|Ad<|Aa rfl<|F1 rfl rfl<|Ap rfl ?_ ?_
 ·intro h17b;have h17:=dF (Ag h17b);have h17c:(decide (c=([45]:List UInt8)))=false:=(Ag h17b);refine Ao<|Ar<|Ad<|Aa rfl<|Bc Oz rfl rfl (Gq (s:=c) (c:=(44:UInt8)) M (by omega))<|?_;clear M;rintro _ w M rfl
  have hclc18:=D6 (44:UInt8) c;refine Aa rfl<|Cd rfl rfl<|Cd rfl rfl<|Cd rfl rfl<|Ab rfl<|Ab rfl<|Ab rfl<|Ad<|A9 Af.k rfl rfl<|Bl A5 M 0 rfl rfl rfl rfl<|Aa rfl<|fun a F=>?_
  refine Ce F M A5.k A6 rfl rfl (cs:=[.string (str ((Lib.cut c [(44:UInt8)]).1))]) rfl rfl (by simp [Value.oneCell']) (by decide) rfl ?_;clear F M a;intro v19 w a M F;obtain ⟨av19,cv19,rfl,hlev19,hcmv19,hlv19⟩:=M.row_shape (k:=0) rfl;have Eb:Els Cj 1 G [.string (str ((Lib.cut c [(44:UInt8)]).1))] [(Lib.cut c [(44:UInt8)]).1]:=⟨[.string (str ((Lib.cut c [(44:UInt8)]).1))],[],rfl,rfl,⟨rfl,by omega⟩,rfl⟩;refine Cp F M (k:=2) (k2:=0) rfl rfl A5.k A6 rfl rfl (by decide) rfl rfl (by show _ * 16≤_;(try simp only [List.length_drop,List.length_take,List.length_append,List.length_cons,List.length_nil]);omega) (by (try simp only [List.length_drop,List.length_take,List.length_append,List.length_cons,List.length_nil]);omega) rfl ?_;clear F M a;intro v20 w a M F;have Ev20:=Els.append Em Eb;obtain ⟨av20,cv20,rfl,hlev20,hcmv20,hlv20⟩:=M.row_shape (k:=2) rfl;revert a;refine A9 Af.k rfl rfl<|F0 A5 M 1 rfl rfl rfl rfl rfl rfl<|?_;clear M;intro w M
  refine Ai<|Ad<|Aa rfl<|C2 rfl rfl<|qD rfl ?_ ?_
  ·intro h21;refine Br<|Bu<|e_be rfl<|Bu<|C6<|Ai<|Ai<|?_
   have hE:∀ y,Lz s y→y.marks=xs++([(Lib.cut c [(44:UInt8)]).1]):=fun y hy=>((hM y hy).step hy.1.2.2.2.2 (by assumption)).2 (fun h_=>by rw [if_pos h_] at *;omega);obtain ⟨hnz22,Gz22,az22,cz22,hGz22,hez22,Sz22,M⟩:=M.freeze_row Ax (k:=2) rfl Ev20 (by decide);clear hez22 az22 cz22;replace Em:=Em.mono Ax hGz22;replace Eb:=Eb.mono Ax hGz22;intro a F;rw [hnz22] at M Sz22;change Mem w0 Gz22 (.row (.slice av19 1 (cv19)) 1 ([.string (str ((Lib.cut c [(44:UInt8)]).1))]) 9 1::.blk b15 [.int .u64 ((u7:Nat):Int),.int .u8 ((u8:Nat):Int),.string (str ((Lib.cut ((Lib.cut ((Lib.cut ((Lib.cut s [(32:UInt8)]).2.1) [(32:UInt8)]).2.1) [(32:UInt8)]).2.1) [(10:UInt8)]).1)),.slice av20 ((xs++([(Lib.cut c [(44:UInt8)]).1])).length) (cv20)] 26::.blk b1 [.int .u64 0,.int .u8 0,.string (str []),.slice none 0 0] 26::L) _ at M;have hII23:((⟨u7,u8,(Lib.cut ((Lib.cut ((Lib.cut ((Lib.cut s [(32:UInt8)]).2.1) [(32:UInt8)]).2.1) [(32:UInt8)]).2.1) [(10:UInt8)]).1,xs++([(Lib.cut c [(44:UInt8)]).1])⟩:ItemD).key < 18446744073709551616∧(⟨u7,u8,(Lib.cut ((Lib.cut ((Lib.cut ((Lib.cut s [(32:UInt8)]).2.1) [(32:UInt8)]).2.1) [(32:UInt8)]).2.1) [(10:UInt8)]).1,xs++([(Lib.cut c [(44:UInt8)]).1])⟩:ItemD).typ < 256∧(⟨u7,u8,(Lib.cut ((Lib.cut ((Lib.cut ((Lib.cut s [(32:UInt8)]).2.1) [(32:UInt8)]).2.1) [(32:UInt8)]).2.1) [(10:UInt8)]).1,xs++([(Lib.cut c [(44:UInt8)]).1])⟩:ItemD).text.length≤9223372036854775807):=⟨by show u7 < _;omega,by show u8 < _;omega,by show ((Lib.cut ((Lib.cut ((Lib.cut ((Lib.cut s [(32:UInt8)]).2.1) [(32:UInt8)]).2.1) [(32:UInt8)]).2.1) [(10:UInt8)]).1).length≤_;omega⟩
   revert a;refine Aw<|F8 Af M 1 rfl rfl rfl rfl<|Bc O0 rfl rfl (D1 (x:=(⟨u7,u8,(Lib.cut ((Lib.cut ((Lib.cut ((Lib.cut s [(32:UInt8)]).2.1) [(32:UInt8)]).2.1) [(32:UInt8)]).2.1) [(10:UInt8)]).1,xs++([(Lib.cut c [(44:UInt8)]).1])⟩:ItemD)) (t:=8) M hII23 Sz22)<|?_;clear M;rintro _ w M rfl
   refine C5 rfl rfl<|Aa rfl<|?_
   rcases bE (decide (0 < Dh 8 ((⟨u7,u8,(Lib.cut ((Lib.cut ((Lib.cut ((Lib.cut s [(32:UInt8)]).2.1) [(32:UInt8)]).2.1) [(32:UInt8)]).2.1) [(10:UInt8)]).1,xs++([(Lib.cut c [(44:UInt8)]).1])⟩:ItemD)))) with h24b | h25b
   ·skip
    have h24:=dT h24b;refine g_f rfl h24b<|g_f rfl h24b<|g_f rfl h24b<|g_f rfl h24b<|A7 rfl h24b rfl<|Bz rfl rfl<|Ad<|Aq (fun a F=>Bf (cs:=[.int .u64 0,.int .u8 0,.string (str []),.slice none 0 0]) (ps:=[]) Af.k rfl Af (F.evp rfl) rfl) rfl<|fun a F=>?_
    refine Di F M Af 2 ?_;clear F M a;intro w a M F;revert a;refine Ab rfl<|Al<|J2<|fun a F=>D4 F M (k:=2) rfl rfl Af rfl rfl rfl rfl ?_
    refine ⟨_,hGz22,M.weaken dS3,(⟨0,0,[],[]⟩:ItemD),none,0,false,rfl,⟨by decide,by decide,by decide⟩,A8.nil,fun h_=>(by cases h_),fun _ y hy=>?_⟩;obtain ⟨q1,q2,q3,q4,q5,q6⟩:=hB y hy;have q7:(⟨u7,u8,(Lib.cut ((Lib.cut ((Lib.cut ((Lib.cut s [(32:UInt8)]).2.1) [(32:UInt8)]).2.1) [(32:UInt8)]).2.1) [(10:UInt8)]).1,xs++([(Lib.cut c [(44:UInt8)]).1])⟩:ItemD)=y:=Hu q3 q4 (by show _=_;rw [q6]) (hE y hy).symm
    first | exact absurd (q7 ▸ hy.1:Bv 8 (⟨u7,u8,(Lib.cut ((Lib.cut ((Lib.cut ((Lib.cut s [(32:UInt8)]).2.1) [(32:UInt8)]).2.1) [(32:UInt8)]).2.1) [(10:UInt8)]).1,xs++([(Lib.cut c [(44:UInt8)]).1])⟩:ItemD)) (L5 (by assumption)) | exact absurd (show B7 (⟨u7,u8,(Lib.cut ((Lib.cut ((Lib.cut ((Lib.cut s [(32:UInt8)]).2.1) [(32:UInt8)]).2.1) [(32:UInt8)]).2.1) [(10:UInt8)]).1,xs++([(Lib.cut c [(44:UInt8)]).1])⟩:ItemD)++[10]=s by rw [q7];exact hy.2.2) (by assumption)
   have h25:=dF h25b;refine g_t rfl h25b<|F8 Af M 1 rfl rfl rfl rfl<|g_t rfl h25b<|Bc Yd rfl rfl (Jr (x:=(⟨u7,u8,(Lib.cut ((Lib.cut ((Lib.cut ((Lib.cut s [(32:UInt8)]).2.1) [(32:UInt8)]).2.1) [(32:UInt8)]).2.1) [(10:UInt8)]).1,xs++([(Lib.cut c [(44:UInt8)]).1])⟩:ItemD)) M hII23 Sz22 (H6 (by assumption)))<|?_;clear M;rintro _ w M rfl
   have hlll26:=Gw (x:=(⟨u7,u8,(Lib.cut ((Lib.cut ((Lib.cut ((Lib.cut s [(32:UInt8)]).2.1) [(32:UInt8)]).2.1) [(32:UInt8)]).2.1) [(10:UInt8)]).1,xs++([(Lib.cut c [(44:UInt8)]).1])⟩:ItemD)) (H6 (by assumption)) hII23.1 hII23.2.1;refine g_t rfl h25b<|Aa rfl<|g_t rfl h25b<|F1 rfl rfl<|A1 rfl h25b rfl<|Ap rfl ?_ ?_
   ·intro h27b;have h27:=dF (Ag h27b);have h27c:(decide ((B7 ((⟨u7,u8,(Lib.cut ((Lib.cut ((Lib.cut ((Lib.cut s [(32:UInt8)]).2.1) [(32:UInt8)]).2.1) [(32:UInt8)]).2.1) [(10:UInt8)]).1,xs++([(Lib.cut c [(44:UInt8)]).1])⟩:ItemD))++[10])=s))=false:=(Ag h27b);refine Ad<|Aq (fun a F=>Bf (cs:=[.int .u64 0,.int .u8 0,.string (str []),.slice none 0 0]) (ps:=[]) Af.k rfl Af (F.evp rfl) rfl) rfl<|fun a F=>?_
    refine Di F M Af 2 ?_;clear F M a;intro w a M F;revert a;refine Ab rfl<|Al<|J2<|fun a F=>D4 F M (k:=2) rfl rfl Af rfl rfl rfl rfl ?_
    refine ⟨_,hGz22,M.weaken dS3,(⟨0,0,[],[]⟩:ItemD),none,0,false,rfl,⟨by decide,by decide,by decide⟩,A8.nil,fun h_=>(by cases h_),fun _ y hy=>?_⟩;obtain ⟨q1,q2,q3,q4,q5,q6⟩:=hB y hy;have q7:(⟨u7,u8,(Lib.cut ((Lib.cut ((Lib.cut ((Lib.cut s [(32:UInt8)]).2.1) [(32:UInt8)]).2.1) [(32:UInt8)]).2.1) [(10:UInt8)]).1,xs++([(Lib.cut c [(44:UInt8)]).1])⟩:ItemD)=y:=Hu q3 q4 (by show _=_;rw [q6]) (hE y hy).symm
    first | exact absurd (q7 ▸ hy.1:Bv 8 (⟨u7,u8,(Lib.cut ((Lib.cut ((Lib.cut ((Lib.cut s [(32:UInt8)]).2.1) [(32:UInt8)]).2.1) [(32:UInt8)]).2.1) [(10:UInt8)]).1,xs++([(Lib.cut c [(44:UInt8)]).1])⟩:ItemD)) (L5 (by assumption)) | exact absurd (show B7 (⟨u7,u8,(Lib.cut ((Lib.cut ((Lib.cut ((Lib.cut s [(32:UInt8)]).2.1) [(32:UInt8)]).2.1) [(32:UInt8)]).2.1) [(10:UInt8)]).1,xs++([(Lib.cut c [(44:UInt8)]).1])⟩:ItemD)++[10]=s by rw [q7];exact hy.2.2) (by assumption)
   intro h28b;have h28:=dT (Ah h28b);have h28c:(decide ((B7 ((⟨u7,u8,(Lib.cut ((Lib.cut ((Lib.cut ((Lib.cut s [(32:UInt8)]).2.1) [(32:UInt8)]).2.1) [(32:UInt8)]).2.1) [(10:UInt8)]).1,xs++([(Lib.cut c [(44:UInt8)]).1])⟩:ItemD))++[10])=s))=true:=(Ah h28b);refine Ao<|Ad<|F8 Af M 1 rfl rfl rfl rfl<|fun a F=>?_
   refine Di F M Af 2 ?_;clear F M a;intro w a M F;revert a;refine Ab rfl<|Al<|fun a F=>D4 F M (k:=2) rfl rfl Af rfl rfl rfl rfl ?_
   exact ⟨_,hGz22,M.weaken dS3,(⟨u7,u8,(Lib.cut ((Lib.cut ((Lib.cut ((Lib.cut s [(32:UInt8)]).2.1) [(32:UInt8)]).2.1) [(32:UInt8)]).2.1) [(10:UInt8)]).1,xs++([(Lib.cut c [(44:UInt8)]).1])⟩:ItemD),av20,cv20,true,rfl,hII23,Sz22,fun _=>⟨H6 (by assumption),hII23.1,by assumption⟩,fun h_=>(by cases h_)⟩
  intro h29;refine Ao<|Aw<|Aa rfl<|Ab rfl<|Au<|e_bn<|Ch<|fun a F=>?_
  exact ⟨_,(by have h9_:=Ys (c:=44) (s:=c) (Classical.byContradiction fun h_=>by rw [if_neg h_] at *;omega);omega),(av20),(nm+1),(cv20),csm++([.string (str ((Lib.cut c [(44:UInt8)]).1))]),xs++([(Lib.cut c [(44:UInt8)]).1]),(Lib.cut c [(44:UInt8)]).2.1,rfl,F.to ⟨rfl,rfl,rfl,rfl,rfl,trivial⟩,(M.weaken (cN (cC (.cons_cons _ (cC (sR _)))))),Ev20,by have h9_:=Ys (c:=44) (s:=c) (Classical.byContradiction fun h_=>by rw [if_neg h_] at *;omega);simp only [List.length_append,List.length_cons,List.length_nil];omega,by simp only [List.length_append,List.length_cons,List.length_nil];omega,fun y hy=>((hM y hy).step hy.1.2.2.2.2 (by assumption)).1 (Classical.byContradiction fun h_=>by rw [if_neg h_] at *;omega)⟩
 intro h30b;have h30:=dT (Ah h30b);have h30c:(decide (c=([45]:List UInt8)))=true:=(Ah h30b);refine Br<|Bu<|Bu<|C6<|Ai<|Ai<|?_
 have hE:∀ y,Lz s y→y.marks=xs:=fun y hy=>MkI.dash hy.1.2.2.2.2 (by rw [← (show c=[45] by assumption)];exact hM y hy);obtain ⟨hnz31,Gz31,az31,cz31,hGz31,hez31,Sz31,M⟩:=M.freeze_row Ax (k:=1) rfl Em (by decide);clear hez31 az31 cz31;intro a F;rw [hnz31] at M Sz31;change Mem w0 Gz31 (.blk b15 [.int .u64 ((u7:Nat):Int),.int .u8 ((u8:Nat):Int),.string (str ((Lib.cut ((Lib.cut ((Lib.cut ((Lib.cut s [(32:UInt8)]).2.1) [(32:UInt8)]).2.1) [(32:UInt8)]).2.1) [(10:UInt8)]).1)),.slice am ((xs).length) (cm)] 26::.blk b1 [.int .u64 0,.int .u8 0,.string (str []),.slice none 0 0] 26::L) _ at M;have hII32:((⟨u7,u8,(Lib.cut ((Lib.cut ((Lib.cut ((Lib.cut s [(32:UInt8)]).2.1) [(32:UInt8)]).2.1) [(32:UInt8)]).2.1) [(10:UInt8)]).1,xs⟩:ItemD).key < 18446744073709551616∧(⟨u7,u8,(Lib.cut ((Lib.cut ((Lib.cut ((Lib.cut s [(32:UInt8)]).2.1) [(32:UInt8)]).2.1) [(32:UInt8)]).2.1) [(10:UInt8)]).1,xs⟩:ItemD).typ < 256∧(⟨u7,u8,(Lib.cut ((Lib.cut ((Lib.cut ((Lib.cut s [(32:UInt8)]).2.1) [(32:UInt8)]).2.1) [(32:UInt8)]).2.1) [(10:UInt8)]).1,xs⟩:ItemD).text.length≤9223372036854775807):=⟨by show u7 < _;omega,by show u8 < _;omega,by show ((Lib.cut ((Lib.cut ((Lib.cut ((Lib.cut s [(32:UInt8)]).2.1) [(32:UInt8)]).2.1) [(32:UInt8)]).2.1) [(10:UInt8)]).1).length≤_;omega⟩;revert a;refine Aw<|F8 Af M 0 rfl rfl rfl rfl<|Bc O0 rfl rfl (D1 (x:=(⟨u7,u8,(Lib.cut ((Lib.cut ((Lib.cut ((Lib.cut s [(32:UInt8)]).2.1) [(32:UInt8)]).2.1) [(32:UInt8)]).2.1) [(10:UInt8)]).1,xs⟩:ItemD)) (t:=8) M hII32 Sz31)<|?_;clear M;rintro _ w M rfl
 refine C5 rfl rfl<|Aa rfl<|?_
 rcases bE (decide (0 < Dh 8 ((⟨u7,u8,(Lib.cut ((Lib.cut ((Lib.cut ((Lib.cut s [(32:UInt8)]).2.1) [(32:UInt8)]).2.1) [(32:UInt8)]).2.1) [(10:UInt8)]).1,xs⟩:ItemD)))) with h33b | h34b
 ·skip
  have h33:=dT h33b;refine g_f rfl h33b<|g_f rfl h33b<|g_f rfl h33b<|g_f rfl h33b<|A7 rfl h33b rfl<|Bz rfl rfl<|Ad<|Aq (fun a F=>Bf (cs:=[.int .u64 0,.int .u8 0,.string (str []),.slice none 0 0]) (ps:=[]) Af.k rfl Af (F.evp rfl) rfl) rfl<|fun a F=>?_
  refine Di F M Af 1 ?_;clear F M a;intro w a M F;revert a;refine Ab rfl<|Al<|J2<|fun a F=>D4 F M (k:=1) rfl rfl Af rfl rfl rfl rfl ?_
  refine ⟨_,hGz31,M.weaken dS2,(⟨0,0,[],[]⟩:ItemD),none,0,false,rfl,⟨by decide,by decide,by decide⟩,A8.nil,fun h_=>(by cases h_),fun _ y hy=>?_⟩;obtain ⟨q1,q2,q3,q4,q5,q6⟩:=hB y hy;have q7:(⟨u7,u8,(Lib.cut ((Lib.cut ((Lib.cut ((Lib.cut s [(32:UInt8)]).2.1) [(32:UInt8)]).2.1) [(32:UInt8)]).2.1) [(10:UInt8)]).1,xs⟩:ItemD)=y:=Hu q3 q4 (by show _=_;rw [q6]) (hE y hy).symm
  first | exact absurd (q7 ▸ hy.1:Bv 8 (⟨u7,u8,(Lib.cut ((Lib.cut ((Lib.cut ((Lib.cut s [(32:UInt8)]).2.1) [(32:UInt8)]).2.1) [(32:UInt8)]).2.1) [(10:UInt8)]).1,xs⟩:ItemD)) (L5 (by assumption)) | exact absurd (show B7 (⟨u7,u8,(Lib.cut ((Lib.cut ((Lib.cut ((Lib.cut s [(32:UInt8)]).2.1) [(32:UInt8)]).2.1) [(32:UInt8)]).2.1) [(10:UInt8)]).1,xs⟩:ItemD)++[10]=s by rw [q7];exact hy.2.2) (by assumption)
 have h34:=dF h34b;refine g_t rfl h34b<|F8 Af M 0 rfl rfl rfl rfl<|g_t rfl h34b<|Bc Yd rfl rfl (Jr (x:=(⟨u7,u8,(Lib.cut ((Lib.cut ((Lib.cut ((Lib.cut s [(32:UInt8)]).2.1) [(32:UInt8)]).2.1) [(32:UInt8)]).2.1) [(10:UInt8)]).1,xs⟩:ItemD)) M hII32 Sz31 (H6 (by assumption)))<|?_;clear M;rintro _ w M rfl
 have hlll35:=Gw (x:=(⟨u7,u8,(Lib.cut ((Lib.cut ((Lib.cut ((Lib.cut s [(32:UInt8)]).2.1) [(32:UInt8)]).2.1) [(32:UInt8)]).2.1) [(10:UInt8)]).1,xs⟩:ItemD)) (H6 (by assumption)) hII32.1 hII32.2.1;refine g_t rfl h34b<|Aa rfl<|g_t rfl h34b<|F1 rfl rfl<|A1 rfl h34b rfl<|Ap rfl ?_ ?_
 ·intro h36b;have h36:=dF (Ag h36b);have h36c:(decide ((B7 ((⟨u7,u8,(Lib.cut ((Lib.cut ((Lib.cut ((Lib.cut s [(32:UInt8)]).2.1) [(32:UInt8)]).2.1) [(32:UInt8)]).2.1) [(10:UInt8)]).1,xs⟩:ItemD))++[10])=s))=false:=(Ag h36b);refine Ad<|Aq (fun a F=>Bf (cs:=[.int .u64 0,.int .u8 0,.string (str []),.slice none 0 0]) (ps:=[]) Af.k rfl Af (F.evp rfl) rfl) rfl<|fun a F=>?_
  refine Di F M Af 1 ?_;clear F M a;intro w a M F;revert a;refine Ab rfl<|Al<|J2<|fun a F=>D4 F M (k:=1) rfl rfl Af rfl rfl rfl rfl ?_
  refine ⟨_,hGz31,M.weaken dS2,(⟨0,0,[],[]⟩:ItemD),none,0,false,rfl,⟨by decide,by decide,by decide⟩,A8.nil,fun h_=>(by cases h_),fun _ y hy=>?_⟩;obtain ⟨q1,q2,q3,q4,q5,q6⟩:=hB y hy;have q7:(⟨u7,u8,(Lib.cut ((Lib.cut ((Lib.cut ((Lib.cut s [(32:UInt8)]).2.1) [(32:UInt8)]).2.1) [(32:UInt8)]).2.1) [(10:UInt8)]).1,xs⟩:ItemD)=y:=Hu q3 q4 (by show _=_;rw [q6]) (hE y hy).symm
  first | exact absurd (q7 ▸ hy.1:Bv 8 (⟨u7,u8,(Lib.cut ((Lib.cut ((Lib.cut ((Lib.cut s [(32:UInt8)]).2.1) [(32:UInt8)]).2.1) [(32:UInt8)]).2.1) [(10:UInt8)]).1,xs⟩:ItemD)) (L5 (by assumption)) | exact absurd (show B7 (⟨u7,u8,(Lib.cut ((Lib.cut ((Lib.cut ((Lib.cut s [(32:UInt8)]).2.1) [(32:UInt8)]).2.1) [(32:UInt8)]).2.1) [(10:UInt8)]).1,xs⟩:ItemD)++[10]=s by rw [q7];exact hy.2.2) (by assumption)
 intro h37b;have h37:=dT (Ah h37b);have h37c:(decide ((B7 ((⟨u7,u8,(Lib.cut ((Lib.cut ((Lib.cut ((Lib.cut s [(32:UInt8)]).2.1) [(32:UInt8)]).2.1) [(32:UInt8)]).2.1) [(10:UInt8)]).1,xs⟩:ItemD))++[10])=s))=true:=(Ah h37b);refine Ao<|Ad<|F8 Af M 0 rfl rfl rfl rfl<|fun a F=>?_
 refine Di F M Af 1 ?_;clear F M a;intro w a M F;revert a;refine Ab rfl<|Al<|fun a F=>D4 F M (k:=1) rfl rfl Af rfl rfl rfl rfl ?_
 exact ⟨_,hGz31,M.weaken dS2,(⟨u7,u8,(Lib.cut ((Lib.cut ((Lib.cut ((Lib.cut s [(32:UInt8)]).2.1) [(32:UInt8)]).2.1) [(32:UInt8)]).2.1) [(10:UInt8)]).1,xs⟩:ItemD),am,cm,true,rfl,hII32,Sz31,fun _=>⟨H6 (by assumption),hII32.1,by assumption⟩,fun h_=>(by cases h_)⟩
end Go.Proofs.YtmmhmcplegpenaaGreatDoor
namespace Go.Y
open Go
section
variable {P:Program} {ops:Array Oper} {Q:Exit→Act→World→Prop} {w0 w:World} {G:Av} {L:List Res} {n d:Nat} {a:Act} {e:Env} {t:TypeId} {p:String} {af:Array Edge} {r:List Oper}
theorem Nv (w:World) (dT sT ty elem:TypeId) (g dLen dCap:Nat) (a:Addr) (sLen sCap sz:Nat) (cur:Array Value) (t:TypeId) (cs:List Value)
  (hu:P.underlying dT=some (.slice elem)) (hs:(P.info? elem).map (·.size)=some sz)
  (hg:w.heap[g]?=some (.cells cur t (0,0))) (hn:cs.length=Nat.min sLen dLen * sz)
  (hsrc:∀ j v,cs[j]?=some v→w.cell? (a.add j)=some v) (hfit:cs.length≤cur.size) (h1:∀ v∈cs,v.oneCell' = true) :
  (Builtin.copy_ #[dT,sT] ty #[.slice (some ⟨g,0,none⟩) dLen dCap,.slice (some a) sLen sCap]).run P w =
   .ok (goInt (Nat.min sLen dLen:Nat)) (w.setRow g (cs++cur.toList.drop cs.length).toArray):=by
 have hl:=run_loadCells_list (P:=P) w a cs hsrc;have hst:=run_storeCells_at P g 0 t cs 0 cur w hg (by simpa using hfit) h1
 cases hq:P.info? elem with
 | none=>simp [hq] at hs
 | some i =>
  have hi:i.size=sz:=by simpa [hq] using hs
  simp only [Nat.zero_add,List.take_zero,List.nil_append] at hst
  simp [Builtin.copy_,run_underlying hu,Builtin.lenOf,Builtin.firstCells,sizeOf,typeInfo,hq,hi,← hn,hl,hst]
theorem Mr {α:Type} {rd:Rd α} {sz:Nat} {dT sT et:TypeId} {i:TI} {x y:Operand} {k m c c2 b:Nat} {ad:Option Addr} {old:List Value} {xs:List α} (F:Fits n a e) (M:Mem w0 G L w)
  (hk:L[k]?=some (.row (.slice (some ⟨b,0,none⟩) m c) m old et sz)) (ht:tk P dT=.slice et) (hi:TOK P et i) (hsz:i.size=sz) (hx:ev e x=some (.slice (some ⟨b,0,none⟩) m c)) (hy:ev e y=some (.slice ad m c2))
  (S:A8 rd sz G (.slice ad m c2) xs) (hm0:0 < m) (hd:Nat.ble (d+1) n=true)
  (kk:∀ cs w' a',Els rd sz G cs xs→Mem w0 G (L.set k (.row (.slice (some ⟨b,0,none⟩) m c) m cs et sz)) w'→Fits n a' ((d,.int .i64 (m:Nat))::e)→rl P ops Q r a' w') :
  rl P ops Q (⟨some d,.call ⟨.builtin .copy,#[x,y],#[dT,sT]⟩,t,p,af,none⟩::r) a w:=by
 subst hsz;obtain ⟨rfl,_,_,news,hE,h1n,h6⟩:=S.cells;have hnl:news.length=xs.length * i.size:=hE.length
 rcases h6 with ⟨rfl,rfl⟩ | ⟨sb,so,rfl,h6⟩
 ·simp at hm0
 obtain ⟨⟨hl,hr⟩,h1c⟩:=M.row_at hk
 rcases hr with ⟨h,_⟩ | ⟨g,cap,cur,hv,_,hg,hnc,hcm,hcs,htake⟩
 ·cases h
 simp only [Value.slice.injEq,Option.some.injEq,Addr.mk.injEq,and_true,true_and] at hv;obtain ⟨rfl,rfl⟩:=hv;obtain ⟨z,hz1,hz2,_⟩:=hi.info;have hle:xs.length * i.size≤c * i.size:=Nat.mul_le_mul_right _ hnc;have hrun:=Nv (P:=P) w dT sT t et b xs.length c ⟨sb,so,none⟩ xs.length c2 i.size cur et news (Cm ht) (by rw [hz1];simp [hz2]) hg (by rw [hnl];simp [Nat.min_def])
  (fun j v hj=>by rw [Ee];exact M.cell (h6 j v hj)) (by rw [hnl,hcs];exact hle) h1n
 rw [show Nat.min xs.length xs.length=xs.length from Nat.min_self _] at hrun;refine A4 F (w':=_) (v:=_) (by simp only [execOp,resolve,Sem.run_bind,Sem.run_pure,Result.andThen_ok,invoke,builtin,List.map_toArray,List.map_cons,List.map_nil,F.ev hx,F.ev hy,hrun];rfl) hd fun a' F'=>kk news _ a' hE ?_ F';rw [← Array.length_toList] at hcs;refine M.grow_at hk (fun z hz=>Or.inl hz) ⟨⟨hnl,Or.inr ⟨b,c,_,rfl,Nat.zero_le _,setRow_heap w b cur _ et (0,0) hg,hnc,hcm,?_,?_⟩⟩,h1n⟩ rfl rfl rfl (by simp [World.setRow]) (fun z hz hne=>setRow_other w b z _ (fun h=>hne (by rw [h];rfl)))
 ·simp only [List.size_toArray,List.length_append,List.length_drop];omega
 show List.take (xs.length * i.size) (news++cur.toList.drop news.length)=news
 rw [← hnl,List.take_left]
theorem Ky {t k e:Nat} (h:tk P t=.map k e):P.underlying t=some (.map k e):=by
 unfold tk at h
 split at h <;> simp_all
def Np (es:Array MapEntry) (ks:List Nat):Prop:=(∀ x∈es.toList,∃ k:Nat,x.key=.int .u64 (k:Int)∧x.val=.bool true∧k∈ks)∧∀ k∈ks,∃ x∈es.toList,x.key=.int .u64 ((k:Nat):Int)
theorem Np.nil:Np #[] []:=⟨fun x hx=>by simp at hx,fun k hk=>by simp at hk⟩
theorem Sp {mt kt et:TypeId} (F:Fits n a e) (M:Mem w0 G L w) (hd:Nat.ble (d+1) n=true)
  (k:∀ b w' a',Mem w0 G (.obj b (.map #[] 0)::L) w'→Fits n a' ((d,.map (some b))::e)→rl P ops Q r a' w'):rl P ops Q (⟨some d,.makeMap mt none,t,p,af,none⟩::r) a w:=by
 refine A4 F (w':=_) (v:=_) (by simp only [execOp,Instr.makeMap,Option.map_none,Sem.run_bind,newObj,Sem.run,Result.andThen_ok];rfl) hd fun a' F'=>k w.heap.size _ a' (M.new (.map #[] 0)) F'
theorem Sq {mt kt et:TypeId} {ei:TI} {x y:Operand} {k b z:Nat} {es:Array MapEntry} {cl:Nat} {ks:List Nat} (F:Fits n a e) (M:Mem w0 G L w) (hk:L[k]?=some (.obj b (.map es cl))) (hS:Np es ks)
  (hm:tk P mt=.map kt et) (hkt:tk P kt=.int .u64) (hz:TOK P et ei) (hz2:ei.zero=.bool false) (hx:ev e x=some (.map (some b))) (hy:ev e y=some (.int .u64 (z:Int))) (hd:Nat.ble (d+1) n=true)
  (kk:∀ a',Fits n a' ((d,.bool (decide (z∈ks)))::e)→rl P ops Q r a' w):rl P ops Q (⟨some d,.lookup mt x y false,t,p,af,none⟩::r) a w:=by
 have hb:w.heap[b]?=some (.map es cl):=M.own _ (List.mem_of_getElem? hk);have hd':=Bs hkt;have hkey:MapKept.IsKey (.int .u64) (.int .u64 (z:Int)):=rfl;have hks:∀ x∈es.toList,MapKept.IsKey (.int .u64) x.key:=fun x hx=>by obtain ⟨q,h1,_⟩:=hS.1 x hx;rw [h1];rfl
 rcases MapKept.findNow_spec hkey es.toList 0 hks with ⟨h1,h2⟩ | ⟨j,ent,h1,h2,h3⟩
 ·have hn:¬ z∈ks:=fun hm=>by obtain ⟨x,hx,hxk⟩:=hS.2 z hm;exact h2 x hx hxk
  refine A4 F (v:=.bool false) (w':=w) ?_ hd fun a' F'=>kk a' (by rw [decide_eq_false hn];exact F');simp only [execOp,Instr.lookup,F.ev hx,F.ev hy,Sem.run_bind,B0 (Ky hm),MapKept.run_getObj_map hb,Result.andThen_ok,Sem.run_pure,MapKept.run_checkKey hd' hkey,MapKept.run_findKey hd' h1,hz.zeroValue,hz2]
  rfl
 obtain ⟨q,h4,h5,h6⟩:=hS.1 ent (List.mem_of_getElem? h2);rw [h4] at h3;simp only [Value.int.injEq,true_and] at h3;have hq:q=z:=by omega
 subst hq;refine A4 F (v:=.bool true) (w':=w) ?_ hd fun a' F'=>kk a' (by rw [decide_eq_true h6];exact F');simp only [execOp,Instr.lookup,F.ev hx,F.ev hy,Sem.run_bind,B0 (Ky hm),MapKept.run_getObj_map hb,Result.andThen_ok,Sem.run_pure,MapKept.run_checkKey hd' hkey,MapKept.run_findKey hd' h1,h5]
 rfl
theorem U1 {mt kt et:TypeId} {x y v:Operand} {k b z:Nat} {es:Array MapEntry} {cl:Nat} {ks:List Nat} (F:Fits n a e) (M:Mem w0 G L w) (hk:L[k]?=some (.obj b (.map es cl))) (hS:Np es ks)
  (hm:tk P mt=.map kt et) (hkt:tk P kt=.int .u64) (hx:ev e x=some (.map (some b))) (hy:ev e y=some (.int .u64 (z:Int))) (hv:ev e v=some (.bool true)) (hn:¬ z∈ks)
  (kk:∀ es' cl' w' a',Np es' (z::ks)→Mem w0 G (L.set k (.obj b (.map es' cl'))) w'→Fits n a' e→rl P ops Q r a' w'):rl P ops Q (⟨none,.mapUpdate mt x y v,t,p,af,none⟩::r) a w:=by
 have hb:w.heap[b]?=some (.map es cl):=M.own _ (List.mem_of_getElem? hk);have hd':=Bs hkt;have hkey:MapKept.IsKey (.int .u64) (.int .u64 (z:Int)):=rfl;have hks:∀ x∈es.toList,MapKept.IsKey (.int .u64) x.key:=fun x hx=>by obtain ⟨q,h1,_⟩:=hS.1 x hx;rw [h1];rfl
 rcases MapKept.findNow_spec hkey es.toList 0 hks with ⟨h1,h2⟩ | ⟨j,ent,h1,h2,h3⟩
 ·have hh:=MapKept.heap_set (o':=.map (es.push { key:=.int .u64 (z:Int),val:=.bool true,born:=cl }) (cl+1)) hb;refine L0 F (w':={ w with heap:=w.heap.setIfInBounds b (.map (es.push { key:=.int .u64 (z:Int),val:=.bool true,born:=cl }) (cl+1)) }) ?_ fun a' F'=>kk (es.push { key:=.int .u64 (z:Int),val:=.bool true,born:=cl }) (cl+1) _ a' ?_ ?_ F'
  ·simp only [execOp,Instr.mapUpdate,F.ev hx,F.ev hy,F.ev hv,Sem.run_bind,B0 (Ky hm),MapKept.run_getObj_map hb,Result.andThen_ok,Sem.run_pure,MapKept.run_checkKey hd' hkey,MapKept.run_findKey hd' h1,MapKept.run_setObj_map _ hb]
  ·refine ⟨fun x hx=>?_,fun q hq=>?_⟩
   ·simp only [Array.toList_push,List.mem_append,List.mem_singleton] at hx
    rcases hx with hx | rfl
    ·obtain ⟨q,h4,h5,h6⟩:=hS.1 x hx;exact ⟨q,h4,h5,List.mem_cons_of_mem _ h6⟩
    exact ⟨z,rfl,rfl,by simp⟩
   rcases List.mem_cons.1 hq with rfl | hq
   ·exact ⟨_,by simp only [Array.toList_push,List.mem_append,List.mem_singleton];exact Or.inr rfl,rfl⟩
   obtain ⟨x,h4,h5⟩:=hS.2 q hq;exact ⟨x,by simp only [Array.toList_push,List.mem_append];exact Or.inl h4,h5⟩
  exact M.swap_at hk (y:=.obj b (.map (es.push { key:=.int .u64 (z:Int),val:=.bool true,born:=cl }) (cl+1))) rfl hh.1 rfl rfl rfl (by simp) (fun b' hne=>hh.2 b' (fun e=>hne (by rw [e];rfl)))
 obtain ⟨q,h4,_,h6⟩:=hS.1 ent (List.mem_of_getElem? h2);rw [h4] at h3;simp only [Value.int.injEq,true_and] at h3
 exact absurd (show z∈ks by rw [show z=q by omega];exact h6) hn
end
end Go.Y
namespace Go.Proofs.YtmmhmcplegpenaaGreatDoor
open Go Go.Y Go.Proofs
variable {w0 w:World} {G:Av} {L:List Res}
theorem W4 {α:Type} {l:List α} {i:Nat} {x:α} (h:l[i]?=some x):l.set i x=l:=by
 apply List.ext_getElem?
 intro j;rw [List.getElem?_set]
 split
 ·rename_i e;subst e;rw [if_pos (Bm h),h]
 rfl
theorem Uf (M:Mem w0 G L w) {a1:Option Addr} {c1:Nat} {xs:List (List UInt8)} (S:A8 Cj 1 G (.slice a1 xs.length c1) xs) (hN:xs.length≤1000000) :
  Calls Tryz.prog 55 #[.slice a1 xs.length c1] w (Lf w0 G fun L' v=>∃ (a:Option Addr) (cs:List Value),v=.slice a xs.length xs.length∧L' = (.row (.slice a xs.length xs.length) xs.length cs 9 1::L)∧Els Cj 1 G cs xs):=by
 refine Az (vs:=[_]) Tryz.func55 rfl (n:=14) rfl rfl<|Ad<|Ab rfl<|Ai<|Ad<|Aa rfl<|Cf A5.k rfl<|C2 rfl rfl<|qD rfl ?_ ?_
 ·intro h1;refine Ad<|Ab rfl<|Al<|Ak rfl rfl<|?_
  have h0:=List.eq_nil_of_length_eq_zero (show xs.length=0 by omega);subst h0
  exact ⟨_,M.nilrow 9 1,none,[],rfl,rfl,rfl⟩
 intro h2;refine Ao<|Ad<|Aa rfl<|Cf A5.k rfl<|fun a F=>?_
 refine Qs (rd:=Cj) (Z:=([]:List UInt8)) F M A5.k A6 rfl (by decide) rfl rfl (l:=xs.length) (by omega) rfl (by omega) (by show 16 * _≤_;omega) (by omega) (by simp [ti9,Value.cells,Value.oneCell']) (⟨rfl,by decide⟩) rfl ?_;clear F M a;intro bv3 csv3 w a M Ev3 F;revert a;refine Ab rfl<|Ad<|Aa rfl<|Aa rfl<|fun a F=>?_
 refine Mr F M (k:=0) rfl A5.k A6 rfl rfl rfl S (by omega) rfl ?_;clear F M a;intro csq4 w a Eq4 M F;revert a;refine Ad<|Aa rfl<|Ab rfl<|Al<|Ak rfl rfl<|?_
 change Mem w0 G (_::L) _ at M
 exact ⟨_,M,_,_,rfl,rfl,Eq4⟩
theorem X8 (M:Mem w0 G L w) {a1:Option Addr} {c1:Nat} {xs:List (List UInt8)} (S:A8 Cj 1 G (.slice a1 xs.length c1) xs) (hN:xs.length≤1000000) :
  Calls Tryz.prog 55 #[.slice a1 xs.length c1] w (Ret w0 G L fun G' v=>∃ a:Option Addr,v=.slice a xs.length xs.length∧A8 Cj 1 G' (.slice a xs.length xs.length) xs):=by
 refine (Uf M S hN).mono ?_;rintro e w' h
 cases e with
 | returned v =>
  obtain ⟨L',M',a,cs,rfl,rfl,E⟩:=h;obtain ⟨_,G',_,_,hG,_,S',M2⟩:=M'.freeze_row Ax (k:=0) rfl E (by decide)
  exact ⟨G',hG,M2,a,rfl,S'⟩
 | panicked c=>exact h.elim
 | outgrown=>exact h.elim
theorem Ug (M:Mem w0 G L w) {a1:Option Addr} {c1:Nat} {xs:List (ItemD)} (S:A8 B1 4 G (.slice a1 xs.length c1) xs) (hN:xs.length≤1000000) :
  Calls Tryz.prog 54 #[.slice a1 xs.length c1] w (Lf w0 G fun L' v=>∃ (a:Option Addr) (cs:List Value),v=.slice a xs.length xs.length∧L' = (.row (.slice a xs.length xs.length) xs.length cs 26 4::L)∧Els B1 4 G cs xs):=by
 refine Az (vs:=[_]) Tryz.func54 rfl (n:=14) rfl rfl<|Ad<|Ab rfl<|Ai<|Ad<|Aa rfl<|Cf A3.k rfl<|C2 rfl rfl<|qD rfl ?_ ?_
 ·intro h1;refine Ad<|Ab rfl<|Al<|Ak rfl rfl<|?_
  have h0:=List.eq_nil_of_length_eq_zero (show xs.length=0 by omega);subst h0
  exact ⟨_,M.nilrow 26 4,none,[],rfl,rfl,rfl⟩
 intro h2;refine Ao<|Ad<|Aa rfl<|Cf A3.k rfl<|fun a F=>?_
 refine Qs (rd:=B1) (Z:=(⟨0,0,[],[]⟩:ItemD)) F M A3.k Af rfl (by decide) rfl rfl (l:=xs.length) (by omega) rfl (by omega) (by show 56 * _≤_;omega) (by omega) (by simp [ti26,Value.cells,Value.oneCell']) (⟨none,0,rfl,by decide,by decide,by decide,by decide,A8.nil⟩) rfl ?_;clear F M a;intro bv3 csv3 w a M Ev3 F;revert a;refine Ab rfl<|Ad<|Aa rfl<|Aa rfl<|fun a F=>?_
 refine Mr F M (k:=0) rfl A3.k Af rfl rfl rfl S (by omega) rfl ?_;clear F M a;intro csq4 w a Eq4 M F;revert a;refine Ad<|Aa rfl<|Ab rfl<|Al<|Ak rfl rfl<|?_
 change Mem w0 G (_::L) _ at M
 exact ⟨_,M,_,_,rfl,rfl,Eq4⟩
theorem V5 (M:Mem w0 G L w) {a1:Option Addr} {c1:Nat} {xs:List ItemD} (S:A8 B1 4 G (.slice a1 xs.length c1) xs) (hN:xs.length≤1000000) (hM:∀ x∈xs,x.marks.length≤1000000) :
  Calls Tryz.prog 15 #[.slice a1 xs.length c1] w (Ret w0 G L fun G' v=>∃ a:Option Addr,v=.slice a xs.length xs.length∧A8 B1 4 G' (.slice a xs.length xs.length) xs):=by
 refine Az (vs:=[_]) Tryz.func15 rfl (n:=24) rfl rfl<|Ad<|Ab rfl<|Ad<|Aa rfl<|Ph ent54 rfl rfl (Ug (xs:=xs) M S (by omega))<|?_;clear M;rintro _ _ w M ⟨aq1,csq1,rfl,rfl,Eq1⟩
 refine Ab rfl<|Ai<|Ad<|Aa rfl<|Cf A3.k rfl<|Aa rfl<|Ar<|fun a F=>Bi (fun m a' w'=>∃ (i:Nat),∃ (cso:List Value),m=xs.length - i∧∃ G2,Gle G G2∧Fits 24 a' [(3,.slice aq1 xs.length xs.length),(7,.slice aq1 xs.length xs.length),(8,.int .i64 ((xs.length:Nat):Int)),(9,.int .i64 ((i:Nat):Int))]∧Mem w0 G2 (.row (.slice aq1 xs.length xs.length) (xs.length) (cso) 26 4::L) w'∧(i≤xs.length)∧(Els B1 4 G2 cso xs)) _ ⟨0,csq1,rfl,G,Gle.refl _,F.to ⟨rfl,rfl,rfl,rfl,trivial⟩,M,Nat.zero_le _,Eq1⟩ ?_
 clear F M;rintro m a w ⟨i,cso,rfl,G2,hG2,F,M,hi,Eo⟩;replace S:=S.mono Ae hG2;revert a;refine Ad<|Co rfl rfl<|Ai<|qD rfl ?_ ?_
 ·intro h3;refine Ao<|Ai<|Ar<|Ad<|Aa rfl<|Ab rfl<|Aw<|Aa rfl<|Aa rfl<|Aa rfl<|Aa rfl<|?_
  obtain ⟨Xe4,hXe4⟩:=A0 (xs:=xs) (i:=i) (by omega);obtain ⟨be4,_,Ie4,hme4,_,Ae4,hTe4⟩:=M.atRow (k:=0) rfl (by decide) Eo hXe4;obtain ⟨mae4,mce4,rfl,hke4,hte4,hxe4,hne4,SMe4⟩:=hTe4;have hIe4:(Xe4.key < 18446744073709551616∧Xe4.typ < 256∧Xe4.text.length≤9223372036854775807):=⟨hke4,hte4,hxe4⟩;refine Db A3.k Af Ie4 rfl rfl<|A9 Af.k rfl rfl<|s_le A5 Ae4 3 rfl rfl rfl rfl<|Ik ent55 rfl rfl (X8 (xs:=Xe4.marks) M SMe4 (hM Xe4 (List.mem_of_getElem? hXe4)))<|?_;clear M;rintro _ Gq5 w hGq5 M ⟨aq5,rfl,Sq5⟩
  replace S:=S.mono Ae hGq5;replace Eo:=Eo.mono Ae hGq5;replace SMe4:=SMe4.mono Ax hGq5;obtain ⟨be6,_,Ie6,hme6,_,Ae6,hTe6⟩:=M.atRow (k:=0) rfl (by decide) Eo hXe4;obtain ⟨mae6,mce6,rfl,hke6,hte6,hxe6,hne6,SMe6⟩:=hTe6;have hIe6:(Xe4.key < 18446744073709551616∧Xe4.typ < 256∧Xe4.text.length≤9223372036854775807):=⟨hke6,hte6,hxe6⟩;refine Db A3.k Af Ie6 rfl rfl<|A9 Af.k rfl rfl<|fun a F=>?_
  refine F3 F M A5 rfl (k:=0) rfl Eo Ie6 hXe4 (f:=3) (by decide) rfl rfl rfl rfl (X':=Xe4) (fun ch _ h=>by obtain ⟨a_,c_,rfl,h1,h2,h3,h4,_⟩:=h;exact ⟨aq5,Xe4.marks.length,rfl,h1,h2,h3,h4,Sq5⟩) ?_;clear F M a;intro csu7 w a M Eu7 F;revert a;refine Aw<|Bw rfl rfl<|Aa rfl<|Au<|Ch<|fun a F=>?_
  exact ⟨_,by omega,i+1,csu7,rfl,Gq5,(hG2.trans hGq5),F.to ⟨rfl,rfl,rfl,rfl,trivial⟩,M,by omega,by have h_:=Eu7;rwa [W4 hXe4] at h_⟩
 intro h8;refine Br<|Bu<|Bu<|C6<|Ad<|Aa rfl<|Ab rfl<|Al<|Ak rfl rfl<|?_
 obtain ⟨hnz9,Gz9,az9,cz9,hGz9,hez9,Sz9,M⟩:=M.freeze_row Ae (k:=0) rfl Eo (by decide);clear hez9 az9 cz9
 exact ⟨Gz9,(hG2.trans hGz9),M.weaken (sR _),_,rfl,Sz9⟩
def TwR (xs:List ItemD) (i:Nat) (b:Bool):Prop :=
 (b=false∧i=0∧∀ (m:Nat) (y:ItemD),xs[m]?=some y→∀ (k:Nat) (z:ItemD),k < m→xs[k]?=some z→z.key≠y.key) ∨
 (b=true∧(∃ x,xs[i]?=some x∧∃ k z,k < i∧xs[k]?=some z∧z.key=x.key)∧∀ (m:Nat) (y:ItemD),m < i→xs[m]?=some y→∀ (k:Nat) (z:ItemD),k < m→xs[k]?=some z→z.key≠y.key)
def Upto (xs:List ItemD) (i:Nat):Prop:=∀ (m:Nat) (y:ItemD),m < i→xs[m]?=some y→∀ (k:Nat) (z:ItemD),k < m→xs[k]?=some z→z.key≠y.key
theorem Upto.step {xs:List ItemD} {i:Nat} {x:ItemD} (h:Upto xs i) (hx:xs[i]?=some x) (hn:∀ (k:Nat) (z:ItemD),k < i→xs[k]?=some z→z.key≠x.key):Upto xs (i+1):=by
 intro m y hm hy k z hk hz
 rcases Nat.lt_or_ge m i with h1 | h1
 ·exact h m y h1 hy k z hk hz
 have:m=i:=by omega
 subst this;rw [hx] at hy;simp only [Option.some.injEq] at hy;subst hy;exact hn k z hk hz
theorem TwR.uniq {xs:List ItemD} {i j:Nat} {b c:Bool} (h:TwR xs i b) (h':TwR xs j c):i=j∧b=c:=by
 rcases h with ⟨rfl,rfl,h⟩ | ⟨rfl,⟨x,hx,k,z,hk,hz,e⟩,h⟩ <;> rcases h' with ⟨rfl,rfl,h'⟩ | ⟨rfl,⟨x',hx',k',z',hk',hz',e'⟩,h'⟩
 ·exact ⟨rfl,rfl⟩
 ·exact absurd e' (h j x' hx' k' z' hk' hz')
 ·exact absurd e (h' i x hx k z hk hz)
 rcases Nat.lt_trichotomy i j with h1 | h1 | h1
 ·exact absurd e (h' i x h1 hx k z hk hz)
 ·exact ⟨h1,rfl⟩
 exact absurd e' (h j x' h1 hx' k' z' hk' hz')
theorem Vs {xs:List ItemD} {i:Nat} {ks:List Nat} {x:ItemD} (h:∀ q,q∈ks↔∃ k z,k < i∧xs[k]?=some z∧z.key=q) (hx:xs[i]?=some x):∀ q,q∈(x.key::ks)↔∃ k z,k < i+1∧xs[k]?=some z∧z.key=q:=by
 intro q;rw [List.mem_cons,h q]
 constructor
 ·rintro (rfl | ⟨k,z,h1,h2,h3⟩)
  ·exact ⟨i,x,by omega,hx,rfl⟩
  exact ⟨k,z,by omega,h2,h3⟩
 rintro ⟨k,z,h1,h2,h3⟩
 rcases Nat.lt_or_ge k i with h4 | h4
 ·exact Or.inr ⟨k,z,h4,h2,h3⟩
 have h5:k=i:=by omega
 subst h5;rw [hx] at h2;simp only [Option.some.injEq] at h2;subst h2;exact Or.inl h3.symm
theorem R9 (M:Mem w0 G L w) {a1:Option Addr} {c1:Nat} {xs:List ItemD} (S:A8 B1 4 G (.slice a1 xs.length c1) xs):Calls Tryz.prog 63 #[.slice a1 xs.length c1] w (B5 w0 G L fun v=>∃ (i:Nat) (b:Bool),v=.tuple #[.int .i64 ((i:Nat):Int),.bool b]∧TwR xs i b):=by
 have bS:=S.bound;refine Az (vs:=[_]) Tryz.func63 rfl (n:=24) rfl rfl<|Ad<|Ab rfl<|Ab rfl<|Ad<|fun a F=>?_
 refine Sp (kt:=23) (et:=4) F M rfl ?_;clear F M a;intro bm1 w a M F;revert a;refine Ab rfl<|Ai<|Ad<|Aa rfl<|Cf A3.k rfl<|Aa rfl<|Ar<|fun a F=>Bi (fun m a' w'=>∃ (i:Nat),∃ (es:Array MapEntry),∃ (cl:Nat),∃ (ks:List Nat),m=xs.length - i∧Fits 24 a' [(4,.map (some bm1)),(8,.slice a1 xs.length c1),(9,.int .i64 ((xs.length:Nat):Int)),(10,.int .i64 ((i:Nat):Int))]∧Mem w0 G (.obj bm1 (.map es cl)::L) w'∧(i≤xs.length)∧(Np es ks)∧(∀ q,q∈ks↔∃ k z,k < i∧xs[k]?=some z∧z.key=q)∧(Upto xs i)) _ ⟨0,#[],0,([]:List Nat),rfl,F.to ⟨rfl,rfl,rfl,rfl,trivial⟩,M,Nat.zero_le _,Np.nil,fun q=>⟨fun h_=>by simp at h_,fun ⟨k,z,h,_⟩=>by omega⟩,fun m y h=>by omega⟩ ?_
 clear F M;rintro m a w ⟨i,es,cl,ks,rfl,F,M,hi,Es,hks,hU⟩;revert a;refine Ad<|Co rfl rfl<|Ai<|qD rfl ?_ ?_
 ·intro h2;refine Ao<|Ai<|Ar<|Ad<|Aa rfl<|?_
  obtain ⟨Xe3,hXe3⟩:=A0 (xs:=xs) (i:=i) (by omega);obtain ⟨be3,oe3,_,Ie3,_,Ae3,hTe3⟩:=S.at hXe3;obtain ⟨mae3,mce3,rfl,hke3,hte3,hxe3,hne3,SMe3⟩:=hTe3;have hIe3:(Xe3.key < 18446744073709551616∧Xe3.typ < 256∧Xe3.text.length≤9223372036854775807):=⟨hke3,hte3,hxe3⟩;refine Db A3.k Af Ie3 rfl rfl<|Aq (fun a F=>Bj Af rfl (F.ev rfl) (cs:=[.int .u64 ((Xe3.key:Nat):Int),.int .u8 ((Xe3.typ:Nat):Int),.string (str Xe3.text),.slice mae3 Xe3.marks.length mce3]) rfl (M.cellsA Ae3 0 (by omega) rfl)) rfl<|Dy M Af rfl rfl<|?_;clear M;intro b4 w M
  refine Ab rfl<|fun a F=>?_
  refine Di F M Af 0 ?_;clear F M a;intro w a M F;revert a;refine Ai<|Ad<|Aa rfl<|A9 Af.k rfl rfl<|Bl Dk M 0 rfl rfl rfl rfl<|fun a F=>Sq F M (k:=1) rfl Es Wv.k Dk.k Hj rfl rfl rfl rfl ?_;clear F a;intro a F
  revert a;refine qD rfl ?_ ?_
  ·intro h6;refine Ad<|Aa rfl<|Ab rfl<|Ab rfl<|Al<|D5 rfl rfl rfl<|?_
   exact ⟨M.weaken dS2,i,true,rfl,Or.inr ⟨rfl,⟨_,hXe3,(hks _).1 (by assumption)⟩,hU⟩⟩
  intro h7;refine Ao<|Aw<|Aa rfl<|A9 Af.k rfl rfl<|Bl Dk M 0 rfl rfl rfl rfl<|fun a F=>?_
  refine U1 (z:=Xe3.key) F M (k:=1) rfl Es Wv.k Dk.k rfl rfl rfl (by assumption) ?_;clear F M a;intro esm8 clm8 w a Em8 M F;revert a;refine Aw<|Bw rfl rfl<|Aa rfl<|Au<|Ch<|fun a F=>?_
  exact ⟨_,by omega,i+1,esm8,clm8,(Xe3.key::ks),rfl,F.to ⟨rfl,rfl,rfl,rfl,trivial⟩,(M.weaken (cN (cC (sR _)))),by omega,Em8,Vs hks hXe3,hU.step hXe3 (fun k z hk hz e_=>absurd ((hks _).2 ⟨k,z,hk,hz,e_⟩) (by assumption))⟩
 intro h9;refine Br<|Bu<|Bu<|C6<|Ad<|Ab rfl<|Ab rfl<|Al<|D5 rfl rfl rfl<|?_
 exact ⟨M.weaken dS1,0,false,rfl,Or.inl ⟨rfl,rfl,fun m y hy=>hU m y (by have:=Bm hy;omega) hy⟩⟩
end Go.Proofs.YtmmhmcplegpenaaGreatDoor
