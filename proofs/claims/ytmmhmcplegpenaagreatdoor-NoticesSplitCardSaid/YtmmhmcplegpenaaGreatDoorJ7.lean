/- The walks, part I. · Rules: a copy of a whole slice into an owned row; a set of numbers kept as a map. · The walks, part K. · Rules: a range over a function: the loop's record and the block for its rounds' deferred calls are resources like any other. · The walks, part R. · The walks, part V. · The walks, part L. · The walks, part W. · More of the types and functions that the walks name. -/
import Derived.Test.YtmmhmcplegpenaaGreatDoorJ6
import Derived.Laws.CopyRow
import Derived.MapKept
import Derived.RangeFuncLeaves
import Derived.RangeFuncSeq
import Derived.RangeFuncCalls
import Derived.Test.YtmmhmcplegpenaaGreatDoorJ1
set_option linter.unusedSimpArgs false
set_option linter.unusedVariables false
set_option maxRecDepth 10000
namespace Go.Proofs.YtmmhmcplegpenaaGreatDoor
open Go Go.Y Go.Proofs
set_option maxHeartbeats 1600000
theorem Alg {w0 w:World} {G:Aq} {L:List Res} (M:Mem w0 G L w) (HG:Globs 0 1 2 3 G) {s:List UInt8} (hs:s.length≤1048577):Calls Tryz.prog 45 #[.string (str s)] w (Ret w0 G L fun G' v=>∃ (x:ItemD) (ma:Option Addr) (mc:Nat) (b:Bool),v=.tuple #[.agg #[.int .u64 ((x.key:Nat):Int),.int .u8 ((x.typ:Nat):Int),.string (str x.text),.slice ma x.marks.length mc],.bool b]∧(x.key < 18446744073709551616∧x.typ < 256∧x.text.length≤9223372036854775807)∧Ag Cf 1 G' (.slice ma x.marks.length mc) x.marks∧(b=true→Rd8 s x)∧(b=false→∀ y,¬ Rd8 s y)):=by
 refine Al (vs:=[_]) Tryz.func45 rfl (n:=72) rfl rfl<|?_
 refine Bt<|?_
 refine B1 M Bi rfl rfl<|?_;clear M;intro b1 w M
 refine wk ?_;refine A4 Up rfl rfl (Md (s:=s) (sep:=([32]:List UInt8)) M HG (by omega))<|?_;clear M;rintro _ w M rfl
 have hclc3:=Ib 32 s;refine wk ?_;refine A4 Up rfl rfl (Md (s:=(Lib.cut s [32]).2.1) (sep:=([32]:List UInt8)) M HG (by omega))<|?_;clear M;rintro _ w M rfl
 have hclc4:=Ib 32 ((Lib.cut s [32]).2.1);refine wk ?_;refine A4 Up rfl rfl (Md (s:=(Lib.cut ((Lib.cut s [32]).2.1) [32]).2.1) (sep:=([32]:List UInt8)) M HG (by omega))<|?_;clear M;rintro _ w M rfl
 have hclc5:=Ib 32 ((Lib.cut ((Lib.cut s [32]).2.1) [32]).2.1);refine wk ?_;refine A4 Auc rfl rfl (Aki (s:=(Lib.cut s [32]).1) M HG (by omega))<|?_;clear M;rintro _ w M ⟨u6,eru6,rfl,hiu6,hpuu6⟩
 have hltu6:=hpuu6.1;refine wk ?_;refine A4 Auc rfl rfl (Aox (s:=(Lib.cut ((Lib.cut s [32]).2.1) [32]).1) M HG (by omega))<|?_;clear M;rintro _ w M ⟨u7,eru7,rfl,hiu7,hpuu7⟩
 have hltu7:=hpuu7.1;refine wk ?_;refine Am (fun a F=>Bh Cl.k ⟨_,by rw [Bo H4.k]⟩ (F.ev rfl) (Rl (by omega) (by omega))) rfl<|?_
 refine C0 rfl<|?_
 refine Am (fun a F=>Ah (cs:=[.int .u64 ((u6:Nat):Int),.int .u8 ((u7:Nat):Int),.string (str ((Lib.cut ((Lib.cut ((Lib.cut s [32]).2.1) [32]).2.1) ([32]:List UInt8)).2.1)),.slice none 0 0]) (ps:=[(0,.int .u64 ((u6:Nat):Int)),(1,.int .u8 ((u7:Nat):Int)),(2,.string (str ((Lib.cut ((Lib.cut ((Lib.cut s [32]).2.1) [32]).2.1) ([32]:List UInt8)).2.1)))]) Bi.k rfl Bi (F.evp rfl) rfl) rfl<|fun a F=>?_
 refine Be F M Bi 0 ?_;clear F M a;intro w a M F;revert a;refine Cj<|Bt<|C0 rfl<|s_sne rfl rfl<|Ao<|F1<|?_
 refine Ae rfl ?_ ?_
 ·intro h8b;have h8:=dF (Ab h8b);have h8c:(decide (((Lib.cut ((Lib.cut ((Lib.cut s [32]).2.1) [32]).2.1) ([32]:List UInt8)).1)=([45]:List UInt8)))=false:=(Ab h8b);refine J3<|C0 rfl<|?_
  refine D4 Aub rfl rfl (Aeb (s:=(Lib.cut ((Lib.cut ((Lib.cut s [32]).2.1) [32]).2.1) ([32]:List UInt8)).1) M HG (by omega))<|?_;clear M;rintro _ Gp9 w hGp9 M ⟨ap9,rfl,Sp9⟩
  replace HG:=HG.mono hGp9;refine M7 Bi.k rfl rfl<|?_
  refine Dv E8 M 0 rfl rfl rfl rfl rfl rfl<|?_;clear M;intro w M
  refine Cj<|?_
  have hII10:((⟨u6,u7,(Lib.cut ((Lib.cut ((Lib.cut s [32]).2.1) [32]).2.1) ([32]:List UInt8)).2.1,Bw ((Lib.cut ((Lib.cut ((Lib.cut s [32]).2.1) [32]).2.1) ([32]:List UInt8)).1)⟩:ItemD).key < 18446744073709551616∧(⟨u6,u7,(Lib.cut ((Lib.cut ((Lib.cut s [32]).2.1) [32]).2.1) ([32]:List UInt8)).2.1,Bw ((Lib.cut ((Lib.cut ((Lib.cut s [32]).2.1) [32]).2.1) ([32]:List UInt8)).1)⟩:ItemD).typ < 256∧(⟨u6,u7,(Lib.cut ((Lib.cut ((Lib.cut s [32]).2.1) [32]).2.1) ([32]:List UInt8)).2.1,Bw ((Lib.cut ((Lib.cut ((Lib.cut s [32]).2.1) [32]).2.1) ([32]:List UInt8)).1)⟩:ItemD).text.length≤9223372036854775807):=⟨by show u6 < _;omega,by show u7 < _;omega,by show ((Lib.cut ((Lib.cut ((Lib.cut s [32]).2.1) [32]).2.1) ([32]:List UInt8)).2.1).length≤_;omega⟩;intro a F;refine D5 [(.pure,0),(.free,1),(.free,2),(.free,3),(.free,4),(.free,5),(.free,6),(.free,7),(.pure,8),(.keep,9),(.free,10),(.free,11),(.free,12),(.pure,13),(.free,15),(.keep,14),(.free,16),(.free,17),(.chg,18),(.free,19)] [18] (Keep Gp9 [.blk b1 [.int .u64 ((u6:Nat):Int),.int .u8 ((u7:Nat):Int),.string (str ((Lib.cut ((Lib.cut ((Lib.cut s [32]).2.1) [32]).2.1) ([32]:List UInt8)).2.1)),.slice ap9 ((Bw ((Lib.cut ((Lib.cut ((Lib.cut s [32]).2.1) [32]).2.1) ([32]:List UInt8)).1)).length) ((Bw ((Lib.cut ((Lib.cut ((Lib.cut s [32]).2.1) [32]).2.1) ([32]:List UInt8)).1)).length)] 26]) rfl (by kernel_rfl) (fun c a d v w h=>by cases d <;> exact h) (Ax (M.drew _)) ?_;replace M:=M.drew (w.drawn+1);revert a;refine wk ?_;refine k_f (fun a F w _=>Kw Pv.k hiu6 (F.ev rfl) rfl) rfl<|?_
  refine wk ?_
  rcases bE (De eru6) with h11b | h17b
  ·skip
   have h11:(De eru6)=true:=h11b;refine wk ?_;refine Lf rfl h11b (fun a F w _=>Kw Pv.k hiu7 (F.ev rfl) rfl)<|?_
   refine wk ?_
   rcases bE (De eru7) with h12b | h16b
   ·skip
    have h12:(De eru7)=true:=h12b;refine wk ?_;refine fun a F=>Fj F rfl rfl h12b ?_;revert a;refine g_t rfl h12b<|?_
    refine A4 Aco rfl rfl (Ji (x:=(⟨u6,u7,(Lib.cut ((Lib.cut ((Lib.cut s [32]).2.1) [32]).2.1) ([32]:List UInt8)).2.1,Bw ((Lib.cut ((Lib.cut ((Lib.cut s [32]).2.1) [32]).2.1) ([32]:List UInt8)).1)⟩:ItemD)) (t:=8) M hII10 Sp9)<|?_;clear M;rintro _ w M rfl
    refine Ao<|?_
    refine eQ (Ax M)<|?_
    refine wk ?_
    rcases bE (decide (Gq 8 ((⟨u6,u7,(Lib.cut ((Lib.cut ((Lib.cut s [32]).2.1) [32]).2.1) ([32]:List UInt8)).2.1,Bw ((Lib.cut ((Lib.cut ((Lib.cut s [32]).2.1) [32]).2.1) ([32]:List UInt8)).1)⟩:ItemD))=0)) with h13b | h15b
    ·skip
     have h13:=dT h13b;refine wk ?_;refine fun a F=>Fj F rfl rfl h13b ?_;revert a;refine g_t rfl h13b<|?_
     refine A4 Arb rfl rfl (Qc (x:=(⟨u6,u7,(Lib.cut ((Lib.cut ((Lib.cut s [32]).2.1) [32]).2.1) ([32]:List UInt8)).2.1,Bw ((Lib.cut ((Lib.cut ((Lib.cut s [32]).2.1) [32]).2.1) ([32]:List UInt8)).1)⟩:ItemD)) M HG hII10 Sp9 (Cz.1 (by assumption)))<|?_;clear M;rintro _ w M rfl
     have hlll14:=O7 (x:=(⟨u6,u7,(Lib.cut ((Lib.cut ((Lib.cut s [32]).2.1) [32]).2.1) ([32]:List UInt8)).2.1,Bw ((Lib.cut ((Lib.cut ((Lib.cut s [32]).2.1) [32]).2.1) ([32]:List UInt8)).1)⟩:ItemD)) (Cz.1 (by assumption)) hII10.1 hII10.2.1;refine Ao<|?_
     refine eQ (Ax M)<|?_
     refine wk ?_;refine k_c rfl<|fun a F=>?_
     refine Be F M Bi 0 ?_;clear F M a;intro w a M F;revert a;refine Ao<|?_
     refine fun a F=>⟨Keep Gp9 [.blk b1 [.int .u64 ((u6:Nat):Int),.int .u8 ((u7:Nat):Int),.string (str ((Lib.cut ((Lib.cut ((Lib.cut s [32]).2.1) [32]).2.1) ([32]:List UInt8)).2.1)),.slice ap9 ((Bw ((Lib.cut ((Lib.cut ((Lib.cut s [32]).2.1) [32]).2.1) ([32]:List UInt8)).1)).length) ((Bw ((Lib.cut ((Lib.cut ((Lib.cut s [32]).2.1) [32]).2.1) ([32]:List UInt8)).1)).length)] 26],M.keep (Gle.refl _) (by simp),?_⟩;revert a;refine wk ?_;refine fun a F=>Bs F M (k:=0) rfl rfl Bi rfl rfl rfl rfl ?_;refine ⟨_,hGp9,M.weaken dS1,(⟨u6,u7,(Lib.cut ((Lib.cut ((Lib.cut s [32]).2.1) [32]).2.1) ([32]:List UInt8)).2.1,Bw ((Lib.cut ((Lib.cut ((Lib.cut s [32]).2.1) [32]).2.1) ([32]:List UInt8)).1)⟩:ItemD),ap9,(Bw ((Lib.cut ((Lib.cut ((Lib.cut s [32]).2.1) [32]).2.1) ([32]:List UInt8)).1)).length,(decide ((Dg ((⟨u6,u7,(Lib.cut ((Lib.cut ((Lib.cut s [32]).2.1) [32]).2.1) ([32]:List UInt8)).2.1,Bw ((Lib.cut ((Lib.cut ((Lib.cut s [32]).2.1) [32]).2.1) ([32]:List UInt8)).1)⟩:ItemD)))=s)),rfl,hII10,Sp9,?_,?_⟩
     ·intro hb_;first | (cases hb_;done) | exact ⟨Cz.1 (by assumption),hII10.1,dT hb_⟩
     intro hb_ y hy;obtain ⟨q1,q2,q3⟩:=Hb hy hpuu6 (by omega) hpuu7;unfold Ja at q3;first | rw [if_neg (by assumption)] at q3 | rw [if_pos (by assumption)] at q3
     first | exact absurd (show true=false from q1.symm.trans (by assumption)) (by decide) | exact absurd (show true=false from q2.symm.trans (by assumption)) (by decide) | exact absurd (show Gq 8 (⟨u6,u7,(Lib.cut ((Lib.cut ((Lib.cut s [32]).2.1) [32]).2.1) ([32]:List UInt8)).2.1,Bw ((Lib.cut ((Lib.cut ((Lib.cut s [32]).2.1) [32]).2.1) ([32]:List UInt8)).1)⟩:ItemD)=0 by rw [q3];exact Cv hy.1) (by assumption) | exact absurd (show Dg (⟨u6,u7,(Lib.cut ((Lib.cut ((Lib.cut s [32]).2.1) [32]).2.1) ([32]:List UInt8)).2.1,Bw ((Lib.cut ((Lib.cut ((Lib.cut s [32]).2.1) [32]).2.1) ([32]:List UInt8)).1)⟩:ItemD)=s by rw [q3];exact hy.2.2) (dF hb_)
    have h15:=dF h15b;refine wk ?_;refine k_c rfl<|fun a F=>?_
    refine Be F M Bi 0 ?_;clear F M a;intro w a M F;revert a;refine Ao<|?_
    refine fun a F=>⟨Keep Gp9 [.blk b1 [.int .u64 ((u6:Nat):Int),.int .u8 ((u7:Nat):Int),.string (str ((Lib.cut ((Lib.cut ((Lib.cut s [32]).2.1) [32]).2.1) ([32]:List UInt8)).2.1)),.slice ap9 ((Bw ((Lib.cut ((Lib.cut ((Lib.cut s [32]).2.1) [32]).2.1) ([32]:List UInt8)).1)).length) ((Bw ((Lib.cut ((Lib.cut ((Lib.cut s [32]).2.1) [32]).2.1) ([32]:List UInt8)).1)).length)] 26],M.keep (Gle.refl _) (by simp),?_⟩;revert a;refine wk ?_;refine fun a F=>Bs F M (k:=0) rfl rfl Bi rfl rfl rfl rfl ?_;refine ⟨_,hGp9,M.weaken dS1,(⟨u6,u7,(Lib.cut ((Lib.cut ((Lib.cut s [32]).2.1) [32]).2.1) ([32]:List UInt8)).2.1,Bw ((Lib.cut ((Lib.cut ((Lib.cut s [32]).2.1) [32]).2.1) ([32]:List UInt8)).1)⟩:ItemD),ap9,(Bw ((Lib.cut ((Lib.cut ((Lib.cut s [32]).2.1) [32]).2.1) ([32]:List UInt8)).1)).length,false,rfl,hII10,Sp9,?_,?_⟩
    ·intro hb_;first | (cases hb_;done) | exact ⟨Cz.1 (by assumption),hII10.1,dT hb_⟩
    intro hb_ y hy;obtain ⟨q1,q2,q3⟩:=Hb hy hpuu6 (by omega) hpuu7;unfold Ja at q3;first | rw [if_neg (by assumption)] at q3 | rw [if_pos (by assumption)] at q3
    first | exact absurd (show true=false from q1.symm.trans (by assumption)) (by decide) | exact absurd (show true=false from q2.symm.trans (by assumption)) (by decide) | exact absurd (show Gq 8 (⟨u6,u7,(Lib.cut ((Lib.cut ((Lib.cut s [32]).2.1) [32]).2.1) ([32]:List UInt8)).2.1,Bw ((Lib.cut ((Lib.cut ((Lib.cut s [32]).2.1) [32]).2.1) ([32]:List UInt8)).1)⟩:ItemD)=0 by rw [q3];exact Cv hy.1) (by assumption) | exact absurd (show Dg (⟨u6,u7,(Lib.cut ((Lib.cut ((Lib.cut s [32]).2.1) [32]).2.1) ([32]:List UInt8)).2.1,Bw ((Lib.cut ((Lib.cut ((Lib.cut s [32]).2.1) [32]).2.1) ([32]:List UInt8)).1)⟩:ItemD)=s by rw [q3];exact hy.2.2) (dF hb_)
   have h16:(De eru7)=false:=h16b;refine k_s rfl h16b<|k_s rfl h16b<|k_s rfl h16b<|k_f (fun a F w _=>U2 F rfl h16b rfl) rfl<|fMv rfl<|k_s rfl rfl<|k_s rfl rfl<|k_s rfl rfl<|k_s rfl rfl<|k_f (fun a F w _=>U2 F rfl rfl rfl) rfl<|?_
   refine k_c rfl<|fun a F=>?_
   refine Be F M Bi 0 ?_;clear F M a;intro w a M F;revert a;refine Ao<|?_
   refine fun a F=>⟨Keep Gp9 [.blk b1 [.int .u64 ((u6:Nat):Int),.int .u8 ((u7:Nat):Int),.string (str ((Lib.cut ((Lib.cut ((Lib.cut s [32]).2.1) [32]).2.1) ([32]:List UInt8)).2.1)),.slice ap9 ((Bw ((Lib.cut ((Lib.cut ((Lib.cut s [32]).2.1) [32]).2.1) ([32]:List UInt8)).1)).length) ((Bw ((Lib.cut ((Lib.cut ((Lib.cut s [32]).2.1) [32]).2.1) ([32]:List UInt8)).1)).length)] 26],M.keep (Gle.refl _) (by simp),?_⟩;revert a;refine wk ?_;refine fun a F=>Bs F M (k:=0) rfl rfl Bi rfl rfl rfl rfl ?_;refine ⟨_,hGp9,M.weaken dS1,(⟨u6,u7,(Lib.cut ((Lib.cut ((Lib.cut s [32]).2.1) [32]).2.1) ([32]:List UInt8)).2.1,Bw ((Lib.cut ((Lib.cut ((Lib.cut s [32]).2.1) [32]).2.1) ([32]:List UInt8)).1)⟩:ItemD),ap9,(Bw ((Lib.cut ((Lib.cut ((Lib.cut s [32]).2.1) [32]).2.1) ([32]:List UInt8)).1)).length,false,rfl,hII10,Sp9,?_,?_⟩
   ·intro hb_;first | (cases hb_;done) | exact ⟨Cz.1 (by assumption),hII10.1,dT hb_⟩
   intro hb_ y hy;obtain ⟨q1,q2,q3⟩:=Hb hy hpuu6 (by omega) hpuu7;unfold Ja at q3;first | rw [if_neg (by assumption)] at q3 | rw [if_pos (by assumption)] at q3
   first | exact absurd (show true=false from q1.symm.trans (by assumption)) (by decide) | exact absurd (show true=false from q2.symm.trans (by assumption)) (by decide) | exact absurd (show Gq 8 (⟨u6,u7,(Lib.cut ((Lib.cut ((Lib.cut s [32]).2.1) [32]).2.1) ([32]:List UInt8)).2.1,Bw ((Lib.cut ((Lib.cut ((Lib.cut s [32]).2.1) [32]).2.1) ([32]:List UInt8)).1)⟩:ItemD)=0 by rw [q3];exact Cv hy.1) (by assumption) | exact absurd (show Dg (⟨u6,u7,(Lib.cut ((Lib.cut ((Lib.cut s [32]).2.1) [32]).2.1) ([32]:List UInt8)).2.1,Bw ((Lib.cut ((Lib.cut ((Lib.cut s [32]).2.1) [32]).2.1) ([32]:List UInt8)).1)⟩:ItemD)=s by rw [q3];exact hy.2.2) (dF hb_)
  have h17:(De eru6)=false:=h17b;refine k_s rfl h17b<|k_s rfl h17b<|k_f (fun a F w _=>U2 F rfl h17b rfl) rfl<|fMv rfl<|k_s rfl rfl<|k_s rfl rfl<|k_s rfl rfl<|k_f (fun a F w _=>U2 F rfl rfl rfl) rfl<|fMv rfl<|k_s rfl rfl<|k_s rfl rfl<|k_s rfl rfl<|k_s rfl rfl<|k_f (fun a F w _=>U2 F rfl rfl rfl) rfl<|?_
  refine k_c rfl<|fun a F=>?_
  refine Be F M Bi 0 ?_;clear F M a;intro w a M F;revert a;refine Ao<|?_
  refine fun a F=>⟨Keep Gp9 [.blk b1 [.int .u64 ((u6:Nat):Int),.int .u8 ((u7:Nat):Int),.string (str ((Lib.cut ((Lib.cut ((Lib.cut s [32]).2.1) [32]).2.1) ([32]:List UInt8)).2.1)),.slice ap9 ((Bw ((Lib.cut ((Lib.cut ((Lib.cut s [32]).2.1) [32]).2.1) ([32]:List UInt8)).1)).length) ((Bw ((Lib.cut ((Lib.cut ((Lib.cut s [32]).2.1) [32]).2.1) ([32]:List UInt8)).1)).length)] 26],M.keep (Gle.refl _) (by simp),?_⟩;revert a;refine wk ?_;refine fun a F=>Bs F M (k:=0) rfl rfl Bi rfl rfl rfl rfl ?_;refine ⟨_,hGp9,M.weaken dS1,(⟨u6,u7,(Lib.cut ((Lib.cut ((Lib.cut s [32]).2.1) [32]).2.1) ([32]:List UInt8)).2.1,Bw ((Lib.cut ((Lib.cut ((Lib.cut s [32]).2.1) [32]).2.1) ([32]:List UInt8)).1)⟩:ItemD),ap9,(Bw ((Lib.cut ((Lib.cut ((Lib.cut s [32]).2.1) [32]).2.1) ([32]:List UInt8)).1)).length,false,rfl,hII10,Sp9,?_,?_⟩
  ·intro hb_;first | (cases hb_;done) | exact ⟨Cz.1 (by assumption),hII10.1,dT hb_⟩
  intro hb_ y hy;obtain ⟨q1,q2,q3⟩:=Hb hy hpuu6 (by omega) hpuu7;unfold Ja at q3;first | rw [if_neg (by assumption)] at q3 | rw [if_pos (by assumption)] at q3
  first | exact absurd (show true=false from q1.symm.trans (by assumption)) (by decide) | exact absurd (show true=false from q2.symm.trans (by assumption)) (by decide) | exact absurd (show Gq 8 (⟨u6,u7,(Lib.cut ((Lib.cut ((Lib.cut s [32]).2.1) [32]).2.1) ([32]:List UInt8)).2.1,Bw ((Lib.cut ((Lib.cut ((Lib.cut s [32]).2.1) [32]).2.1) ([32]:List UInt8)).1)⟩:ItemD)=0 by rw [q3];exact Cv hy.1) (by assumption) | exact absurd (show Dg (⟨u6,u7,(Lib.cut ((Lib.cut ((Lib.cut s [32]).2.1) [32]).2.1) ([32]:List UInt8)).2.1,Bw ((Lib.cut ((Lib.cut ((Lib.cut s [32]).2.1) [32]).2.1) ([32]:List UInt8)).1)⟩:ItemD)=s by rw [q3];exact hy.2.2) (dF hb_)
 intro h18b;have h18:=dT (Ac h18b);have h18c:(decide (((Lib.cut ((Lib.cut ((Lib.cut s [32]).2.1) [32]).2.1) ([32]:List UInt8)).1)=([45]:List UInt8)))=true:=(Ac h18b);refine wk ?_;have hII19:((⟨u6,u7,(Lib.cut ((Lib.cut ((Lib.cut s [32]).2.1) [32]).2.1) ([32]:List UInt8)).2.1,([]:List (List UInt8))⟩:ItemD).key < 18446744073709551616∧(⟨u6,u7,(Lib.cut ((Lib.cut ((Lib.cut s [32]).2.1) [32]).2.1) ([32]:List UInt8)).2.1,([]:List (List UInt8))⟩:ItemD).typ < 256∧(⟨u6,u7,(Lib.cut ((Lib.cut ((Lib.cut s [32]).2.1) [32]).2.1) ([32]:List UInt8)).2.1,([]:List (List UInt8))⟩:ItemD).text.length≤9223372036854775807):=⟨by show u6 < _;omega,by show u7 < _;omega,by show ((Lib.cut ((Lib.cut ((Lib.cut s [32]).2.1) [32]).2.1) ([32]:List UInt8)).2.1).length≤_;omega⟩;intro a F;refine D5 [(.pure,0),(.free,1),(.free,2),(.free,3),(.free,4),(.free,5),(.free,6),(.free,7),(.pure,8),(.keep,9),(.free,10),(.free,11),(.free,12),(.pure,13),(.free,15),(.keep,14),(.free,16),(.free,17),(.chg,18),(.free,19)] [18] (Keep G [.blk b1 [.int .u64 ((u6:Nat):Int),.int .u8 ((u7:Nat):Int),.string (str ((Lib.cut ((Lib.cut ((Lib.cut s [32]).2.1) [32]).2.1) ([32]:List UInt8)).2.1)),.slice none 0 0] 26]) rfl (by kernel_rfl) (fun c a d v w h=>by cases d <;> exact h) (Ax (M.drew _)) ?_;replace M:=M.drew (w.drawn+1);revert a;refine wk ?_;refine k_f (fun a F w _=>Kw Pv.k hiu6 (F.ev rfl) rfl) rfl<|?_
 refine wk ?_
 rcases bE (De eru6) with h20b | h26b
 ·skip
  have h20:(De eru6)=true:=h20b;refine wk ?_;refine Lf rfl h20b (fun a F w _=>Kw Pv.k hiu7 (F.ev rfl) rfl)<|?_
  refine wk ?_
  rcases bE (De eru7) with h21b | h25b
  ·skip
   have h21:(De eru7)=true:=h21b;refine wk ?_;refine fun a F=>Fj F rfl rfl h21b ?_;revert a;refine g_t rfl h21b<|?_
   refine A4 Aco rfl rfl (Ji (x:=(⟨u6,u7,(Lib.cut ((Lib.cut ((Lib.cut s [32]).2.1) [32]).2.1) ([32]:List UInt8)).2.1,([]:List (List UInt8))⟩:ItemD)) (t:=8) M hII19 Ag.nil)<|?_;clear M;rintro _ w M rfl
   refine Ao<|?_
   refine eQ (Ax M)<|?_
   refine wk ?_
   rcases bE (decide (Gq 8 ((⟨u6,u7,(Lib.cut ((Lib.cut ((Lib.cut s [32]).2.1) [32]).2.1) ([32]:List UInt8)).2.1,([]:List (List UInt8))⟩:ItemD))=0)) with h22b | h24b
   ·skip
    have h22:=dT h22b;refine wk ?_;refine fun a F=>Fj F rfl rfl h22b ?_;revert a;refine g_t rfl h22b<|?_
    refine A4 Arb rfl rfl (Qc (x:=(⟨u6,u7,(Lib.cut ((Lib.cut ((Lib.cut s [32]).2.1) [32]).2.1) ([32]:List UInt8)).2.1,([]:List (List UInt8))⟩:ItemD)) M HG hII19 Ag.nil (Cz.1 (by assumption)))<|?_;clear M;rintro _ w M rfl
    have hlll23:=O7 (x:=(⟨u6,u7,(Lib.cut ((Lib.cut ((Lib.cut s [32]).2.1) [32]).2.1) ([32]:List UInt8)).2.1,([]:List (List UInt8))⟩:ItemD)) (Cz.1 (by assumption)) hII19.1 hII19.2.1;refine Ao<|?_
    refine eQ (Ax M)<|?_
    refine wk ?_;refine k_c rfl<|fun a F=>?_
    refine Be F M Bi 0 ?_;clear F M a;intro w a M F;revert a;refine Ao<|?_
    refine fun a F=>⟨Keep G [.blk b1 [.int .u64 ((u6:Nat):Int),.int .u8 ((u7:Nat):Int),.string (str ((Lib.cut ((Lib.cut ((Lib.cut s [32]).2.1) [32]).2.1) ([32]:List UInt8)).2.1)),.slice none 0 0] 26],M.keep (Gle.refl _) (by simp),?_⟩;revert a;refine wk ?_;refine fun a F=>Bs F M (k:=0) rfl rfl Bi rfl rfl rfl rfl ?_;refine ⟨_,(Gle.refl _),M.weaken dS1,(⟨u6,u7,(Lib.cut ((Lib.cut ((Lib.cut s [32]).2.1) [32]).2.1) ([32]:List UInt8)).2.1,([]:List (List UInt8))⟩:ItemD),none,0,(decide ((Dg ((⟨u6,u7,(Lib.cut ((Lib.cut ((Lib.cut s [32]).2.1) [32]).2.1) ([32]:List UInt8)).2.1,([]:List (List UInt8))⟩:ItemD)))=s)),rfl,hII19,Ag.nil,?_,?_⟩
    ·intro hb_;first | (cases hb_;done) | exact ⟨Cz.1 (by assumption),hII19.1,dT hb_⟩
    intro hb_ y hy;obtain ⟨q1,q2,q3⟩:=Hb hy hpuu6 (by omega) hpuu7;unfold Ja at q3;first | rw [if_neg (by assumption)] at q3 | rw [if_pos (by assumption)] at q3
    first | exact absurd (show true=false from q1.symm.trans (by assumption)) (by decide) | exact absurd (show true=false from q2.symm.trans (by assumption)) (by decide) | exact absurd (show Gq 8 (⟨u6,u7,(Lib.cut ((Lib.cut ((Lib.cut s [32]).2.1) [32]).2.1) ([32]:List UInt8)).2.1,([]:List (List UInt8))⟩:ItemD)=0 by rw [q3];exact Cv hy.1) (by assumption) | exact absurd (show Dg (⟨u6,u7,(Lib.cut ((Lib.cut ((Lib.cut s [32]).2.1) [32]).2.1) ([32]:List UInt8)).2.1,([]:List (List UInt8))⟩:ItemD)=s by rw [q3];exact hy.2.2) (dF hb_)
   have h24:=dF h24b;refine wk ?_;refine k_c rfl<|fun a F=>?_
   refine Be F M Bi 0 ?_;clear F M a;intro w a M F;revert a;refine Ao<|?_
   refine fun a F=>⟨Keep G [.blk b1 [.int .u64 ((u6:Nat):Int),.int .u8 ((u7:Nat):Int),.string (str ((Lib.cut ((Lib.cut ((Lib.cut s [32]).2.1) [32]).2.1) ([32]:List UInt8)).2.1)),.slice none 0 0] 26],M.keep (Gle.refl _) (by simp),?_⟩;revert a;refine wk ?_;refine fun a F=>Bs F M (k:=0) rfl rfl Bi rfl rfl rfl rfl ?_;refine ⟨_,(Gle.refl _),M.weaken dS1,(⟨u6,u7,(Lib.cut ((Lib.cut ((Lib.cut s [32]).2.1) [32]).2.1) ([32]:List UInt8)).2.1,([]:List (List UInt8))⟩:ItemD),none,0,false,rfl,hII19,Ag.nil,?_,?_⟩
   ·intro hb_;first | (cases hb_;done) | exact ⟨Cz.1 (by assumption),hII19.1,dT hb_⟩
   intro hb_ y hy;obtain ⟨q1,q2,q3⟩:=Hb hy hpuu6 (by omega) hpuu7;unfold Ja at q3;first | rw [if_neg (by assumption)] at q3 | rw [if_pos (by assumption)] at q3
   first | exact absurd (show true=false from q1.symm.trans (by assumption)) (by decide) | exact absurd (show true=false from q2.symm.trans (by assumption)) (by decide) | exact absurd (show Gq 8 (⟨u6,u7,(Lib.cut ((Lib.cut ((Lib.cut s [32]).2.1) [32]).2.1) ([32]:List UInt8)).2.1,([]:List (List UInt8))⟩:ItemD)=0 by rw [q3];exact Cv hy.1) (by assumption) | exact absurd (show Dg (⟨u6,u7,(Lib.cut ((Lib.cut ((Lib.cut s [32]).2.1) [32]).2.1) ([32]:List UInt8)).2.1,([]:List (List UInt8))⟩:ItemD)=s by rw [q3];exact hy.2.2) (dF hb_)
  have h25:(De eru7)=false:=h25b;refine k_s rfl h25b<|k_s rfl h25b<|k_s rfl h25b<|k_f (fun a F w _=>U2 F rfl h25b rfl) rfl<|fMv rfl<|k_s rfl rfl<|k_s rfl rfl<|k_s rfl rfl<|k_s rfl rfl<|k_f (fun a F w _=>U2 F rfl rfl rfl) rfl<|?_
  refine k_c rfl<|fun a F=>?_
  refine Be F M Bi 0 ?_;clear F M a;intro w a M F;revert a;refine Ao<|?_
  refine fun a F=>⟨Keep G [.blk b1 [.int .u64 ((u6:Nat):Int),.int .u8 ((u7:Nat):Int),.string (str ((Lib.cut ((Lib.cut ((Lib.cut s [32]).2.1) [32]).2.1) ([32]:List UInt8)).2.1)),.slice none 0 0] 26],M.keep (Gle.refl _) (by simp),?_⟩;revert a;refine wk ?_;refine fun a F=>Bs F M (k:=0) rfl rfl Bi rfl rfl rfl rfl ?_;refine ⟨_,(Gle.refl _),M.weaken dS1,(⟨u6,u7,(Lib.cut ((Lib.cut ((Lib.cut s [32]).2.1) [32]).2.1) ([32]:List UInt8)).2.1,([]:List (List UInt8))⟩:ItemD),none,0,false,rfl,hII19,Ag.nil,?_,?_⟩
  ·intro hb_;first | (cases hb_;done) | exact ⟨Cz.1 (by assumption),hII19.1,dT hb_⟩
  intro hb_ y hy;obtain ⟨q1,q2,q3⟩:=Hb hy hpuu6 (by omega) hpuu7;unfold Ja at q3;first | rw [if_neg (by assumption)] at q3 | rw [if_pos (by assumption)] at q3
  first | exact absurd (show true=false from q1.symm.trans (by assumption)) (by decide) | exact absurd (show true=false from q2.symm.trans (by assumption)) (by decide) | exact absurd (show Gq 8 (⟨u6,u7,(Lib.cut ((Lib.cut ((Lib.cut s [32]).2.1) [32]).2.1) ([32]:List UInt8)).2.1,([]:List (List UInt8))⟩:ItemD)=0 by rw [q3];exact Cv hy.1) (by assumption) | exact absurd (show Dg (⟨u6,u7,(Lib.cut ((Lib.cut ((Lib.cut s [32]).2.1) [32]).2.1) ([32]:List UInt8)).2.1,([]:List (List UInt8))⟩:ItemD)=s by rw [q3];exact hy.2.2) (dF hb_)
 have h26:(De eru6)=false:=h26b;refine k_s rfl h26b<|k_s rfl h26b<|k_f (fun a F w _=>U2 F rfl h26b rfl) rfl<|fMv rfl<|k_s rfl rfl<|k_s rfl rfl<|k_s rfl rfl<|k_f (fun a F w _=>U2 F rfl rfl rfl) rfl<|fMv rfl<|k_s rfl rfl<|k_s rfl rfl<|k_s rfl rfl<|k_s rfl rfl<|k_f (fun a F w _=>U2 F rfl rfl rfl) rfl<|?_
 refine k_c rfl<|fun a F=>?_
 refine Be F M Bi 0 ?_;clear F M a;intro w a M F;revert a;refine Ao<|?_
 refine fun a F=>⟨Keep G [.blk b1 [.int .u64 ((u6:Nat):Int),.int .u8 ((u7:Nat):Int),.string (str ((Lib.cut ((Lib.cut ((Lib.cut s [32]).2.1) [32]).2.1) ([32]:List UInt8)).2.1)),.slice none 0 0] 26],M.keep (Gle.refl _) (by simp),?_⟩;revert a;refine wk ?_;refine fun a F=>Bs F M (k:=0) rfl rfl Bi rfl rfl rfl rfl ?_;refine ⟨_,(Gle.refl _),M.weaken dS1,(⟨u6,u7,(Lib.cut ((Lib.cut ((Lib.cut s [32]).2.1) [32]).2.1) ([32]:List UInt8)).2.1,([]:List (List UInt8))⟩:ItemD),none,0,false,rfl,hII19,Ag.nil,?_,?_⟩
 ·intro hb_;first | (cases hb_;done) | exact ⟨Cz.1 (by assumption),hII19.1,dT hb_⟩
 intro hb_ y hy;obtain ⟨q1,q2,q3⟩:=Hb hy hpuu6 (by omega) hpuu7;unfold Ja at q3;first | rw [if_neg (by assumption)] at q3 | rw [if_pos (by assumption)] at q3
 first | exact absurd (show true=false from q1.symm.trans (by assumption)) (by decide) | exact absurd (show true=false from q2.symm.trans (by assumption)) (by decide) | exact absurd (show Gq 8 (⟨u6,u7,(Lib.cut ((Lib.cut ((Lib.cut s [32]).2.1) [32]).2.1) ([32]:List UInt8)).2.1,([]:List (List UInt8))⟩:ItemD)=0 by rw [q3];exact Cv hy.1) (by assumption) | exact absurd (show Dg (⟨u6,u7,(Lib.cut ((Lib.cut ((Lib.cut s [32]).2.1) [32]).2.1) ([32]:List UInt8)).2.1,([]:List (List UInt8))⟩:ItemD)=s by rw [q3];exact hy.2.2) (dF hb_)
end Go.Proofs.YtmmhmcplegpenaaGreatDoor
namespace Go.Y
open Go
section
variable {P:Program} {ops:Array Oper} {Q:Exit→Act→World→Prop} {w0 w:World} {G:Aq} {L:List Res} {n d:Nat} {a:Act} {e:Env} {t:TypeId} {p:String} {af:Array Edge} {r:List Oper}
theorem Vc (w:World) (dT sT ty elem:TypeId) (g dLen dCap:Nat) (a:Addr) (sLen sCap sz:Nat) (cur:Array Value) (t:TypeId) (cs:List Value)
  (hu:P.underlying dT=some (.slice elem)) (hs:(P.info? elem).map (·.size)=some sz)
  (hg:w.heap[g]?=some (.cells cur t (0,0))) (hn:cs.length=Nat.min sLen dLen * sz)
  (hsrc:∀ j v,cs[j]?=some v→w.cell? (a.add j)=some v) (hfit:cs.length≤cur.size) (h1:∀ v∈cs,v.oneCell' = true) :
  (Builtin.copy_ #[dT,sT] ty #[.slice (some ⟨g,0,none⟩) dLen dCap,.slice (some a) sLen sCap]).run P w =
   .ok (goInt (Nat.min sLen dLen:Nat)) (w.setRow g (cs++cur.toList.drop cs.length).toArray):=by
 have hl:=run_loadCells_list (P:=P) w a cs hsrc;have hst:=run_storeCells_at P g 0 t cs 0 cur w hg (by simpa using hfit) h1
 cases hq:P.info? elem with
 | none=>simp [hq] at hs
 | some i =>
  have hi:i.size=sz:=by simpa [hq] using hs
  simp only [Nat.zero_add,List.take_zero,List.nil_append] at hst
  simp [Builtin.copy_,run_underlying hu,Builtin.lenOf,Builtin.firstCells,sizeOf,typeInfo,hq,hi,← hn,hl,hst]
theorem Tg {α:Type} {rd:Rd α} {sz:Nat} {dT sT et:TypeId} {i:TI} {x y:Operand} {k m c c2 b:Nat} {ad:Option Addr} {old:List Value} {xs:List α} (F:Fits n a e) (M:Mem w0 G L w)
  (hk:L[k]?=some (.row (.slice (some ⟨b,0,none⟩) m c) m old et sz)) (ht:tk P dT=.slice et) (hi:TOK P et i) (hsz:i.size=sz) (hx:ev e x=some (.slice (some ⟨b,0,none⟩) m c)) (hy:ev e y=some (.slice ad m c2))
  (S:Ag rd sz G (.slice ad m c2) xs) (hm0:0 < m) (hd:Nat.ble (d+1) n=true)
  (kk:∀ cs w' a',Els rd sz G cs xs→Mem w0 G (L.set k (.row (.slice (some ⟨b,0,none⟩) m c) m cs et sz)) w'→Fits n a' ((d,.int .i64 (m:Nat))::e)→rl P ops Q r a' w') :
  rl P ops Q (⟨some d,.call ⟨.builtin .copy,#[x,y],#[dT,sT]⟩,t,p,af,none⟩::r) a w:=by
 subst hsz;obtain ⟨rfl,_,_,news,hE,h1n,h6⟩:=S.cells;have hnl:news.length=xs.length * i.size:=hE.length
 rcases h6 with ⟨rfl,rfl⟩ | ⟨sb,so,rfl,h6⟩
 ·simp at hm0
 obtain ⟨⟨hl,hr⟩,h1c⟩:=M.row_at hk
 rcases hr with ⟨h,_⟩ | ⟨g,cap,cur,hv,_,hg,hnc,hcm,hcs,htake⟩
 ·cases h
 simp only [Value.slice.injEq,Option.some.injEq,Addr.mk.injEq,and_true,true_and] at hv;obtain ⟨rfl,rfl⟩:=hv;obtain ⟨z,hz1,hz2,_⟩:=hi.info;have hle:xs.length * i.size≤c * i.size:=Nat.mul_le_mul_right _ hnc;have hrun:=Vc (P:=P) w dT sT t et b xs.length c ⟨sb,so,none⟩ xs.length c2 i.size cur et news (C9 ht) (by rw [hz1];simp [hz2]) hg (by rw [hnl];simp [Nat.min_def])
  (fun j v hj=>by rw [D9];exact M.cell (h6 j v hj)) (by rw [hnl,hcs];exact hle) h1n
 rw [show Nat.min xs.length xs.length=xs.length from Nat.min_self _] at hrun;refine Bf F (w':=_) (v:=_) (by simp only [execOp,resolve,Sem.run_bind,Sem.run_pure,Result.andThen_ok,invoke,builtin,List.map_toArray,List.map_cons,List.map_nil,F.ev hx,F.ev hy,hrun];rfl) hd fun a' F'=>kk news _ a' hE ?_ F';rw [← Array.length_toList] at hcs;refine M.grow_at hk (fun z hz=>Or.inl hz) ⟨⟨hnl,Or.inr ⟨b,c,_,rfl,Nat.zero_le _,setRow_heap w b cur _ et (0,0) hg,hnc,hcm,?_,?_⟩⟩,h1n⟩ rfl rfl rfl (by simp [World.setRow]) (fun z hz hne=>setRow_other w b z _ (fun h=>hne (by rw [h];rfl)))
 ·simp only [List.size_toArray,List.length_append,List.length_drop];omega
 show List.take (xs.length * i.size) (news++cur.toList.drop news.length)=news
 rw [← hnl,List.take_left]
theorem Pt {t k e:Nat} (h:tk P t=.map k e):P.underlying t=some (.map k e):=by
 unfold tk at h
 split at h <;> simp_all
def Il (es:Array MapEntry) (ks:List Nat):Prop:=(∀ x∈es.toList,∃ k:Nat,x.key=.int .u64 (k:Int)∧x.val=.bool true∧k∈ks)∧∀ k∈ks,∃ x∈es.toList,x.key=.int .u64 ((k:Nat):Int)
theorem Il.nil:Il #[] []:=⟨fun x hx=>by simp at hx,fun k hk=>by simp at hk⟩
theorem Td {mt kt et:TypeId} (F:Fits n a e) (M:Mem w0 G L w) (hd:Nat.ble (d+1) n=true)
  (k:∀ b w' a',Mem w0 G (.obj b (.map #[] 0)::L) w'→Fits n a' ((d,.map (some b))::e)→rl P ops Q r a' w'):rl P ops Q (⟨some d,.makeMap mt none,t,p,af,none⟩::r) a w:=by
 refine Bf F (w':=_) (v:=_) (by simp only [execOp,Instr.makeMap,Option.map_none,Sem.run_bind,newObj,Sem.run,Result.andThen_ok];rfl) hd fun a' F'=>k w.heap.size _ a' (M.new (.map #[] 0)) F'
theorem Te {mt kt et:TypeId} {ei:TI} {x y:Operand} {k b z:Nat} {es:Array MapEntry} {cl:Nat} {ks:List Nat} (F:Fits n a e) (M:Mem w0 G L w) (hk:L[k]?=some (.obj b (.map es cl))) (hS:Il es ks)
  (hm:tk P mt=.map kt et) (hkt:tk P kt=.int .u64) (hz:TOK P et ei) (hz2:ei.zero=.bool false) (hx:ev e x=some (.map (some b))) (hy:ev e y=some (.int .u64 (z:Int))) (hd:Nat.ble (d+1) n=true)
  (kk:∀ a',Fits n a' ((d,.bool (decide (z∈ks)))::e)→rl P ops Q r a' w):rl P ops Q (⟨some d,.lookup mt x y false,t,p,af,none⟩::r) a w:=by
 have hb:w.heap[b]?=some (.map es cl):=M.own _ (List.mem_of_getElem? hk);have hd':=Bo hkt;have hkey:MapKept.IsKey (.int .u64) (.int .u64 (z:Int)):=rfl;have hks:∀ x∈es.toList,MapKept.IsKey (.int .u64) x.key:=fun x hx=>by obtain ⟨q,h1,_⟩:=hS.1 x hx;rw [h1];rfl
 rcases MapKept.findNow_spec hkey es.toList 0 hks with ⟨h1,h2⟩ | ⟨j,ent,h1,h2,h3⟩
 ·have hn:¬ z∈ks:=fun hm=>by obtain ⟨x,hx,hxk⟩:=hS.2 z hm;exact h2 x hx hxk
  refine Bf F (v:=.bool false) (w':=w) ?_ hd fun a' F'=>kk a' (by rw [decide_eq_false hn];exact F');simp only [execOp,Instr.lookup,F.ev hx,F.ev hy,Sem.run_bind,B0 (Pt hm),MapKept.run_getObj_map hb,Result.andThen_ok,Sem.run_pure,MapKept.run_checkKey hd' hkey,MapKept.run_findKey hd' h1,hz.zeroValue,hz2]
  rfl
 obtain ⟨q,h4,h5,h6⟩:=hS.1 ent (List.mem_of_getElem? h2);rw [h4] at h3;simp only [Value.int.injEq,true_and] at h3;have hq:q=z:=by omega
 subst hq;refine Bf F (v:=.bool true) (w':=w) ?_ hd fun a' F'=>kk a' (by rw [decide_eq_true h6];exact F');simp only [execOp,Instr.lookup,F.ev hx,F.ev hy,Sem.run_bind,B0 (Pt hm),MapKept.run_getObj_map hb,Result.andThen_ok,Sem.run_pure,MapKept.run_checkKey hd' hkey,MapKept.run_findKey hd' h1,h5]
 rfl
theorem P6 {mt kt et:TypeId} {x y v:Operand} {k b z:Nat} {es:Array MapEntry} {cl:Nat} {ks:List Nat} (F:Fits n a e) (M:Mem w0 G L w) (hk:L[k]?=some (.obj b (.map es cl))) (hS:Il es ks)
  (hm:tk P mt=.map kt et) (hkt:tk P kt=.int .u64) (hx:ev e x=some (.map (some b))) (hy:ev e y=some (.int .u64 (z:Int))) (hv:ev e v=some (.bool true)) (hn:¬ z∈ks)
  (kk:∀ es' cl' w' a',Il es' (z::ks)→Mem w0 G (L.set k (.obj b (.map es' cl'))) w'→Fits n a' e→rl P ops Q r a' w'):rl P ops Q (⟨none,.mapUpdate mt x y v,t,p,af,none⟩::r) a w:=by
 have hb:w.heap[b]?=some (.map es cl):=M.own _ (List.mem_of_getElem? hk);have hd':=Bo hkt;have hkey:MapKept.IsKey (.int .u64) (.int .u64 (z:Int)):=rfl;have hks:∀ x∈es.toList,MapKept.IsKey (.int .u64) x.key:=fun x hx=>by obtain ⟨q,h1,_⟩:=hS.1 x hx;rw [h1];rfl
 rcases MapKept.findNow_spec hkey es.toList 0 hks with ⟨h1,h2⟩ | ⟨j,ent,h1,h2,h3⟩
 ·have hh:=MapKept.heap_set (o':=.map (es.push { key:=.int .u64 (z:Int),val:=.bool true,born:=cl }) (cl+1)) hb;refine Ow F (w':={ w with heap:=w.heap.setIfInBounds b (.map (es.push { key:=.int .u64 (z:Int),val:=.bool true,born:=cl }) (cl+1)) }) ?_ fun a' F'=>kk (es.push { key:=.int .u64 (z:Int),val:=.bool true,born:=cl }) (cl+1) _ a' ?_ ?_ F'
  ·simp only [execOp,Instr.mapUpdate,F.ev hx,F.ev hy,F.ev hv,Sem.run_bind,B0 (Pt hm),MapKept.run_getObj_map hb,Result.andThen_ok,Sem.run_pure,MapKept.run_checkKey hd' hkey,MapKept.run_findKey hd' h1,MapKept.run_setObj_map _ hb]
  ·refine ⟨fun x hx=>?_,fun q hq=>?_⟩
   ·simp only [Array.toList_push,List.mem_append,List.mem_singleton] at hx
    rcases hx with hx | rfl
    ·obtain ⟨q,h4,h5,h6⟩:=hS.1 x hx;exact ⟨q,h4,h5,List.mem_cons_of_mem _ h6⟩
    exact ⟨z,rfl,rfl,by simp⟩
   rcases List.mem_cons.1 hq with rfl | hq
   ·exact ⟨_,by simp only [Array.toList_push,List.mem_append,List.mem_singleton];exact Or.inr rfl,rfl⟩
   obtain ⟨x,h4,h5⟩:=hS.2 q hq;exact ⟨x,by simp only [Array.toList_push,List.mem_append];exact Or.inl h4,h5⟩
  exact M.swap_at hk (y:=.obj b (.map (es.push { key:=.int .u64 (z:Int),val:=.bool true,born:=cl }) (cl+1))) rfl hh.1 rfl rfl rfl (by simp) (fun b' hne=>hh.2 b' (fun e=>hne (by rw [e];rfl)))
 obtain ⟨q,h4,_,h6⟩:=hS.1 ent (List.mem_of_getElem? h2);rw [h4] at h3;simp only [Value.int.injEq,true_and] at h3
 exact absurd (show z∈ks by rw [show z=q by omega];exact h6) hn
end
end Go.Y
namespace Go.Proofs.YtmmhmcplegpenaaGreatDoor
open Go Go.Y Go.Proofs
variable {w0 w:World} {G:Aq} {L:List Res}
set_option maxHeartbeats 1600000
theorem Aob {α:Type} {l:List α} {i:Nat} {x:α} (h:l[i]?=some x):l.set i x=l:=by
 apply List.ext_getElem?
 intro j;rw [List.getElem?_set]
 split
 ·rename_i e;subst e;rw [if_pos (A0 h),h]
 rfl
theorem Aih (M:Mem w0 G L w) {a1:Option Addr} {c1:Nat} {xs:List (List UInt8)} (S:Ag Cf 1 G (.slice a1 xs.length c1) xs) (hN:xs.length≤1000000) :
  Calls Tryz.prog 55 #[.slice a1 xs.length c1] w (Ke w0 G fun L' v=>∃ (a:Option Addr) (cs:List Value),v=.slice a xs.length xs.length∧L' = (.row (.slice a xs.length xs.length) xs.length cs 9 1::L)∧Els Cf 1 G cs xs):=by
 refine Al (vs:=[_]) Tryz.func55 rfl (n:=14) rfl rfl<|?_
 refine wk ?_;refine qD rfl ?_ ?_
 ·intro h1;refine wk ?_;refine Ad rfl rfl<|?_
  have h0:=List.eq_nil_of_length_eq_zero (show xs.length=0 by omega);subst h0
  exact ⟨_,M.nilrow 9 1,none,[],rfl,rfl,rfl⟩
 intro h2;refine wk ?_;intro a F;refine Ox (rd:=Cf) (Z:=([]:List UInt8)) F M E8.k Ej rfl (by decide) rfl rfl (l:=xs.length) (by omega) rfl (by omega) (by show 16 * _≤_;omega) (by omega) (by simp [ti9,Value.cells,Value.oneCell']) (⟨rfl,by decide⟩) rfl ?_;clear F M a;intro bv3 csv3 w a M Ev3 F;revert a;refine wk ?_;intro a F;refine Tg F M (k:=0) rfl E8.k Ej rfl rfl rfl S (by omega) rfl ?_;clear F M a;intro csq4 w a Eq4 M F;revert a;refine wk ?_;refine Ad rfl rfl<|?_
 replace M:=z_M M
 exact ⟨_,M,_,_,rfl,rfl,Eq4⟩
theorem Aqu (M:Mem w0 G L w) {a1:Option Addr} {c1:Nat} {xs:List (List UInt8)} (S:Ag Cf 1 G (.slice a1 xs.length c1) xs) (hN:xs.length≤1000000) :
  Calls Tryz.prog 55 #[.slice a1 xs.length c1] w (Ret w0 G L fun G' v=>∃ a:Option Addr,v=.slice a xs.length xs.length∧Ag Cf 1 G' (.slice a xs.length xs.length) xs):=by
 refine (Aih M S hN).mono ?_;rintro e w' h
 cases e with
 | returned v =>
  obtain ⟨L',M',a,cs,rfl,rfl,E⟩:=h;obtain ⟨_,G',_,_,hG,_,S',M2⟩:=M'.freeze_row Ay (k:=0) rfl E (by decide)
  exact ⟨G',hG,M2,a,rfl,S'⟩
 | panicked c=>exact h.elim
 | outgrown=>exact h.elim
theorem Aii (M:Mem w0 G L w) {a1:Option Addr} {c1:Nat} {xs:List (ItemD)} (S:Ag Bn 4 G (.slice a1 xs.length c1) xs) (hN:xs.length≤1000000) :
  Calls Tryz.prog 54 #[.slice a1 xs.length c1] w (Ke w0 G fun L' v=>∃ (a:Option Addr) (cs:List Value),v=.slice a xs.length xs.length∧L' = (.row (.slice a xs.length xs.length) xs.length cs 26 4::L)∧Els Bn 4 G cs xs):=by
 refine Al (vs:=[_]) Tryz.func54 rfl (n:=14) rfl rfl<|?_
 refine wk ?_;refine qD rfl ?_ ?_
 ·intro h1;refine wk ?_;refine Ad rfl rfl<|?_
  have h0:=List.eq_nil_of_length_eq_zero (show xs.length=0 by omega);subst h0
  exact ⟨_,M.nilrow 26 4,none,[],rfl,rfl,rfl⟩
 intro h2;refine wk ?_;intro a F;refine Ox (rd:=Bn) (Z:=(⟨0,0,[],[]⟩:ItemD)) F M Co.k Bi rfl (by decide) rfl rfl (l:=xs.length) (by omega) rfl (by omega) (by show 56 * _≤_;omega) (by omega) (by simp [ti26,Value.cells,Value.oneCell']) (⟨none,0,rfl,by decide,by decide,by decide,by decide,Ag.nil⟩) rfl ?_;clear F M a;intro bv3 csv3 w a M Ev3 F;revert a;refine wk ?_;intro a F;refine Tg F M (k:=0) rfl Co.k Bi rfl rfl rfl S (by omega) rfl ?_;clear F M a;intro csq4 w a Eq4 M F;revert a;refine wk ?_;refine Ad rfl rfl<|?_
 replace M:=z_M M
 exact ⟨_,M,_,_,rfl,rfl,Eq4⟩
theorem Xe (M:Mem w0 G L w) {a1:Option Addr} {c1:Nat} {xs:List ItemD} (S:Ag Bn 4 G (.slice a1 xs.length c1) xs) (hN:xs.length≤1000000) (hM:∀ x∈xs,x.marks.length≤1000000) :
  Calls Tryz.prog 15 #[.slice a1 xs.length c1] w (Ret w0 G L fun G' v=>∃ a:Option Addr,v=.slice a xs.length xs.length∧Ag Bn 4 G' (.slice a xs.length xs.length) xs):=by
 refine Al (vs:=[_]) Tryz.func15 rfl (n:=24) rfl rfl<|?_
 refine wk ?_;refine Py ent54 rfl rfl (Aii (xs:=xs) M S (by omega))<|?_;clear M;rintro _ _ w M ⟨aq1,csq1,rfl,rfl,Eq1⟩
 refine wk ?_;refine fun a F=>Ba (fun m a' w'=>∃ (i:Nat),∃ (cso:List Value),m=xs.length - i∧∃ G2,Gle G G2∧Fits 24 a' [(3,.slice aq1 xs.length xs.length),(7,.slice aq1 xs.length xs.length),(8,.int .i64 ((xs.length:Nat):Int)),(9,.int .i64 ((i:Nat):Int))]∧Mem w0 G2 (.row (.slice aq1 xs.length xs.length) (xs.length) (cso) 26 4::L) w'∧(i≤xs.length)∧(Els Bn 4 G2 cso xs)) _ ⟨0,csq1,rfl,G,Gle.refl _,F.to ⟨rfl,rfl,rfl,rfl,trivial⟩,M,Nat.zero_le _,Eq1⟩ ?_;clear F M;rintro m a w ⟨i,cso,rfl,G2,hG2,F,M,hi,Eo⟩;replace S:=S.mono Ai hG2;revert a;refine wk ?_;refine qD rfl ?_ ?_
 ·intro h3;refine wk ?_;obtain ⟨Xe4,hXe4⟩:=Ap (xs:=xs) (i:=i) (by omega);obtain ⟨be4,_,Ie4,hme4,_,Ae4,hTe4⟩:=M.atRow (k:=0) rfl (by decide) Eo hXe4;obtain ⟨mae4,mce4,rfl,hke4,hte4,hxe4,hne4,SMe4⟩:=hTe4;have hIe4:(Xe4.key < 18446744073709551616∧Xe4.typ < 256∧Xe4.text.length≤9223372036854775807):=⟨hke4,hte4,hxe4⟩;refine wk ?_;refine s_le E8 Ae4 3 rfl rfl rfl rfl<|D4 ent55 rfl rfl (Aqu (xs:=Xe4.marks) M SMe4 (hM Xe4 (List.mem_of_getElem? hXe4)))<|?_;clear M;rintro _ Gq5 w hGq5 M ⟨aq5,rfl,Sq5⟩
  replace S:=S.mono Ai hGq5;replace Eo:=Eo.mono Ai hGq5;replace SMe4:=SMe4.mono Ay hGq5;obtain ⟨be6,_,Ie6,hme6,_,Ae6,hTe6⟩:=M.atRow (k:=0) rfl (by decide) Eo hXe4;obtain ⟨mae6,mce6,rfl,hke6,hte6,hxe6,hne6,SMe6⟩:=hTe6;have hIe6:(Xe4.key < 18446744073709551616∧Xe4.typ < 256∧Xe4.text.length≤9223372036854775807):=⟨hke6,hte6,hxe6⟩;refine wk ?_;intro a F;refine Q8 F M E8 rfl (k:=0) rfl Eo Ie6 hXe4 (f:=3) (by decide) rfl rfl rfl rfl (X':=Xe4) (fun ch _ h=>by obtain ⟨a_,c_,rfl,h1,h2,h3,h4,_⟩:=h;exact ⟨aq5,Xe4.marks.length,rfl,h1,h2,h3,h4,Sq5⟩) ?_;clear F M a;intro csu7 w a M Eu7 F;revert a;refine wk ?_;intro a F
  exact ⟨_,by omega,i+1,csu7,rfl,Gq5,(hG2.trans hGq5),F.to ⟨rfl,rfl,rfl,rfl,trivial⟩,M,by omega,by have h_:=Eu7;rwa [Aob hXe4] at h_⟩
 intro h8;refine wk ?_;refine Ad rfl rfl<|?_
 obtain ⟨hnz9,Gz9,az9,cz9,hGz9,hez9,Sz9,M⟩:=M.freeze_row Ai (k:=0) rfl Eo (by decide);clear hez9 az9 cz9
 exact ⟨Gz9,(hG2.trans hGz9),M.weaken (sR _),_,rfl,Sz9⟩
def TwR (xs:List ItemD) (i:Nat) (b:Bool):Prop :=
 (b=false∧i=0∧∀ (m:Nat) (y:ItemD),xs[m]?=some y→∀ (k:Nat) (z:ItemD),k < m→xs[k]?=some z→z.key≠y.key) ∨
 (b=true∧(∃ x,xs[i]?=some x∧∃ k z,k < i∧xs[k]?=some z∧z.key=x.key)∧∀ (m:Nat) (y:ItemD),m < i→xs[m]?=some y→∀ (k:Nat) (z:ItemD),k < m→xs[k]?=some z→z.key≠y.key)
def Upto (xs:List ItemD) (i:Nat):Prop:=∀ (m:Nat) (y:ItemD),m < i→xs[m]?=some y→∀ (k:Nat) (z:ItemD),k < m→xs[k]?=some z→z.key≠y.key
theorem Upto.step {xs:List ItemD} {i:Nat} {x:ItemD} (h:Upto xs i) (hx:xs[i]?=some x) (hn:∀ (k:Nat) (z:ItemD),k < i→xs[k]?=some z→z.key≠x.key):Upto xs (i+1):=by
 intro m y hm hy k z hk hz
 rcases Nat.lt_or_ge m i with h1 | h1
 ·exact h m y h1 hy k z hk hz
 have:m=i:=by omega
 subst this;rw [hx] at hy;simp only [Option.some.injEq] at hy;subst hy;exact hn k z hk hz
theorem TwR.uniq {xs:List ItemD} {i j:Nat} {b c:Bool} (h:TwR xs i b) (h':TwR xs j c):i=j∧b=c:=by
 rcases h with ⟨rfl,rfl,h⟩ | ⟨rfl,⟨x,hx,k,z,hk,hz,e⟩,h⟩ <;> rcases h' with ⟨rfl,rfl,h'⟩ | ⟨rfl,⟨x',hx',k',z',hk',hz',e'⟩,h'⟩
 ·exact ⟨rfl,rfl⟩
 ·exact absurd e' (h j x' hx' k' z' hk' hz')
 ·exact absurd e (h' i x hx k z hk hz)
 rcases Nat.lt_trichotomy i j with h1 | h1 | h1
 ·exact absurd e (h' i x h1 hx k z hk hz)
 ·exact ⟨h1,rfl⟩
 exact absurd e' (h j x' h1 hx' k' z' hk' hz')
end Go.Proofs.YtmmhmcplegpenaaGreatDoor
namespace Go.Y
open Go
section
variable {P:Program} {ops:Array Oper} {Q:Exit→Act→World→Prop} {w0 w:World} {G:Aq} {L:List Res} {n d:Nat} {a:Act} {e:Env} {t:TypeId} {p:String} {af:Array Edge} {r:List Oper}
abbrev Rnd (l:Nat):Fence:=Fence.wide.inRound l
def R3 (o:Oper):Bool:=match o.op with | .defer _=>false | _=>true
theorem Afa {l m:Nat} {o:Oper} {next next':Act→World→Prop} (hnd:R3 o=true) (h:o.wp P a w next Q) (hn:∀ a w,next a w→next' a w):o.wpIn (Rnd l) m P a w next' Q:=by
 refine ⟨fun _ _=>trivial,?_⟩;have hnd':∀ c,o.op≠.defer c:=fun c hc=>by simp [R3,hc] at hnd
 rw [show (Rnd l).round=some l from rfl,Oper.semAt_some l _ _ hnd'];unfold Oper.wp at h;have hdep:(Rnd l).depth.isSome=true→1≤m:=fun h=>by cases h
 generalize (execOp a.eval o).run P w=res at h
 cases res with
 | ok nx w' =>
  cases nx with
  | value v=>exact hn _ _ h
  | skip=>exact hn _ _ h
  | defer d=>exact hn _ _ h
  | enter f args =>
   refine ⟨hdep,CallsIn.inRound l (callsIn_wide.2 (Calls.mono h fun x w'' hx=>?_))⟩
   cases x with
   | returned v=>exact hn _ _ hx
   | panicked c=>exact hx
   | outgrown=>exact hx
  | row row args =>
   exact ⟨hdep,fun c cs _=>let ⟨v,w'',r',s⟩:=h c cs;⟨v,w'',hn _ _ r',stepsIn_wide.2 s⟩⟩
  | _=>exact h.elim
 | halt x w' =>
  cases x with
  | panic v=>exact h
  | _=>exact h.elim
theorem H1 {l m:Nat}:∀ (is:List Nat) (a:Act) (w:World),(∀ (i:Nat) (o:Oper),ops[i]?=some o→R3 o=true)→rl P ops Q (is.filterMap (ops[·]?)) a w→wpOpsIn (Rnd l) m P ops Q is a w
 | [],a,w,_,h=>h
 | i::is,a,w,hnd,h=>by
  cases ho:ops[i]? with
  | none =>
   simp only [wpOpsIn,ho];simp only [List.filterMap_cons,ho] at h
   exact H1 is a w hnd h
  | some o =>
   simp only [wpOpsIn,ho];simp only [List.filterMap_cons,ho,rl] at h
   by_cases hw:Region.wanted o (yielded ops a.tmps)=true
   ·simp only [hw,if_true]
    exact Afa (hnd i o ho) (h.1 hw) (fun a w=>H1 is a w hnd)
   ·simp only [hw]
    exact ⟨fun _ _=>trivial,H1 is _ _ hnd (h.2 (by simpa using hw))⟩
theorem Im {l m id:Nat} {os:List Oper} (hnd:os.all R3=true) (h:rl P os.toArray Q os a w):(Code.region id os.toArray false).wpIn (Rnd l) m P Q a w :=
 wpIn_region (H1 _ a w (fun i o ho=>List.all_eq_true.1 hnd o (by simpa using List.mem_of_getElem? (by simpa using ho))) (by rw [Ih];simpa using h))
theorem Oh {Fe:Fence} {m:Nat} {c:Operand} {x y:Code} {t:Bool} (F:Fits n a e) (hc:ev e c=some (.bool t)) (ht:t=true→x.wpIn Fe m P Q a w) (hf:t=false→y.wpIn Fe m P Q a w):(Code.cond c x y).wpIn Fe m P Q a w :=
 wpIn_cond_split (F.ev hc) ht hf
theorem Sf {Fe:Fence} {m:Nat} {c:Operand} {x y:Code} {t:Bool} (F:Fits n a e) (hc:ev e c=some (.bool t)) (ht:t=true) (k:x.wpIn Fe m P Q a w):(Code.cond c x y).wpIn Fe m P Q a w :=
 wpIn_cond_split (F.ev hc) (fun _=>k) (fun h=>by rw [ht] at h;cases h)
theorem Adk {Fe:Fence} {m:Nat} {c:Operand} {x y:Code} {t:Bool} (F:Fits n a e) (hc:ev e c=some (.bool t)) (ht:t=false) (k:y.wpIn Fe m P Q a w):(Code.cond c x y).wpIn Fe m P Q a w :=
 wpIn_cond_split (F.ev hc) (fun h=>by rw [ht] at h;cases h) (fun _=>k)
theorem Amj {Fe:Fence} {m:Nat} {c:Code} (I:Nat→Act→World→Prop) (m0:Nat) (h0:I m0 a w)
  (round:∀ k a w,I k a w→c.wpIn Fe m P (Exit.then (fun a' w'=>∃ k',k' < k∧I k' a' w') Q) a w):(Code.loop c).wpIn Fe m P Q a w:=by
 classical
 have ex:∀ a w,(∃ k,I k a w)→∃ k,I k a w∧∀ j,I j a w→k≤j:=by
  intro a w ⟨k,hk⟩
  induction k using Nat.strongRecOn with
  | _ k ih =>
   by_cases h:∃ j,j < k∧I j a w
   ·obtain ⟨j,h1,h2⟩:=h;exact ih j h1 h2
   ·exact ⟨k,hk,fun j hj=>Nat.le_of_not_lt fun hlt=>h ⟨j,hlt,hj⟩⟩
 refine wpIn_loop (fun a w=>∃ k,I k a w) (fun a w=>if h:∃ k,I k a w then Classical.choose (ex a w h) else 0) ⟨m0,h0⟩ fun a w hI=>?_;have hc:=Classical.choose_spec (ex a w hI);refine wpIn_mono (round _ a w hc.1) fun x a' w' hq=>?_
 cases x with
 | normal =>
  obtain ⟨k',hk',hI'⟩:=hq;have hex:∃ k,I k a' w':=⟨k',hI'⟩;refine ⟨hex,?_⟩;rw [dif_pos hI,dif_pos hex]
  exact Nat.lt_of_le_of_lt ((Classical.choose_spec (ex a' w' hex)).2 k' hI') hk'
 | _=>exact hq
def rlW (P:Program) (m:Nat) (ops:Array Oper) (Q:Exit→Act→World→Prop):List Oper→Act→World→Prop
 | [],a,w=>Q .normal a w
 | o::r,a,w =>
  (Region.wanted o (yielded ops a.tmps)=true→o.wpIn Fence.wide m P a w (rlW P m ops Q r) Q) ∧
  (Region.wanted o (yielded ops a.tmps)=false→rlW P m ops Q r (a.put o.dst undef) w)
theorem Dk {m:Nat}:∀ (is:List Nat) (a:Act) (w:World),rlW P m ops Q (is.filterMap (ops[·]?)) a w→wpOpsIn Fence.wide m P ops Q is a w
 | [],a,w,h=>h
 | i::is,a,w,h=>by
  cases ho:ops[i]? with
  | none =>
   simp only [wpOpsIn,ho];simp only [List.filterMap_cons,ho] at h
   exact Dk is a w h
  | some o =>
   simp only [wpOpsIn,ho];simp only [List.filterMap_cons,ho,rlW] at h
   by_cases hw:Region.wanted o (yielded ops a.tmps)=true
   ·simp only [hw,if_true];have h1:=h.1 hw;refine ⟨h1.1,?_⟩;have h2:=h1.2
    generalize (Oper.semAt Fence.wide.round a.eval o).run P w=res at h2 ⊢
    cases res with
    | ok nx w' =>
     cases nx with
     | value v=>exact Dk is _ _ h2
     | skip=>exact Dk is _ _ h2
     | defer d=>exact Dk is _ _ h2
     | enter f args =>
      refine ⟨h2.1,CallsIn.mono h2.2 fun x w'' hx=>?_⟩
      cases x with
      | returned v=>exact Dk is _ _ hx
      | panicked c=>exact hx
      | outgrown=>exact hx
     | row row args=>exact ⟨h2.1,RowsIn.mono h2.2 fun v w'' hx=>Dk is _ _ hx⟩
     | round l f tmps assign body =>
      refine ⟨h2.1,RoundIn.mono h2.2 fun x w'' hx=>?_⟩
      cases x with
      | returned v=>exact Dk is _ _ hx
      | panicked c=>exact hx
      | outgrown=>exact hx
     | _=>exact h2
    | halt x w' =>
     cases x with
     | panic v=>exact h2
     | _=>exact h2
   ·simp only [hw]
    exact ⟨fun _ _=>trivial,Dk is _ _ (h.2 (by simpa using hw))⟩
theorem w_regW {m id:Nat} {os:List Oper} (h:rlW P m os.toArray Q os a w):(Code.region id os.toArray false).wpIn Fence.wide m P Q a w :=
 wpIn_region (Dk _ a w (by rw [Ih];simpa using h))
theorem Ym {m:Nat} {op:Op} {v:Value} {w':World} (F:Fits n a e) (hr:(execOp a.eval ⟨some d,op,t,p,af,none⟩).run P w=.ok (.value v) w') (hd:Nat.ble (d+1) n=true)
  (k:∀ a',Fits n a' ((d,v)::e)→rlW P m ops Q r a' w'):rlW P m ops Q (⟨some d,op,t,p,af,none⟩::r) a w:=by
 refine ⟨fun _=>⟨fun _ _=>trivial,?_⟩,fun h=>by simp [Region.wanted] at h⟩
 show Oper.uponIn _ _ _ _ _ _ _ ((execOp a.eval ⟨some d,op,t,p,af,none⟩).run P w)
 rw [hr]
 exact k _ (F.put hd)
theorem Ajv {m l:Nat} {cal:Operand} {args:List Operand} {ats:Array TypeId} {vs:List Value} {R:Ending→World→Prop} (F:Fits n a e) (hc:ev e cal=some (.func (.yield l) #[] #[])) (hv:evs e args=some vs) (hd:Nat.ble (d+1) n=true)
  (hy:YieldAt Fence.wide (m - 1) P l vs.toArray w R) (k:∀ x w',R x w'→∃ b,x=.returned (.bool b)∧∀ a',Fits n a' ((d,.bool b)::e)→rlW P m ops Q r a' w') :
  rlW P m ops Q (⟨some d,.call ⟨.value cal,args.toArray,ats⟩,t,p,af,none⟩::r) a w:=by
 refine ⟨fun _=>⟨fun _ _=>trivial,?_⟩,fun h=>by simp [Region.wanted] at h⟩;obtain ⟨fn,tmps,assign,body,h1,h2⟩:=hy;have hr:(execOp a.eval ⟨some d,.call ⟨.value cal,args.toArray,ats⟩,t,p,af,none⟩).run P w=.ok (.round l fn tmps assign body) w:=by
  have h3:=F.ev hc;have h4:=F.evs hv;simp only [execOp,resolve,h3,Deferred.ofValue,Sem.run_bind,Sem.run_pure,Result.andThen_ok,invoke];rw [show (#[]++Array.map a.eval args.toArray)=vs.toArray by simp [← h4]]
  exact h1
 show Oper.uponIn _ _ _ _ _ _ _ ((execOp a.eval ⟨some d,.call ⟨.value cal,args.toArray,ats⟩,t,p,af,none⟩).run P w)
 rw [hr];refine ⟨(fun h=>by cases h),RoundIn.mono h2 fun x w' hx=>?_⟩;obtain ⟨b,rfl,hk⟩:=k x w' hx
 exact hk _ (F.put hd)
def Kp (ds:List Deferred) (a:Act):Act:={ a with defers:=a.defers++ds }
theorem U1 (ds:List Deferred) (a:Act) (d:Option Tmp) (v:Value):(Kp ds a).put d v=Kp ds (a.put d v):=by cases d <;> rfl
theorem Yl {Q:Exit→Act→World→Prop} {ds:List Deferred}:∀ (l:List Oper) (a:Act) (w:World),rl P ops (fun e a w=>Q e (Kp ds a) w) l a w→rl P ops Q l (Kp ds a) w
 | [],a,w,h=>h
 | o::l,a,w,h=>by
  refine ⟨fun hw=>?_,fun hw=>?_⟩
  ·have h1:=Oper.wp_mono (fun a w=>Yl (Q:=Q) (ds:=ds) l a w) (h.1 hw);unfold Oper.wp at h1 ⊢;rw [show (Kp ds a).eval=a.eval from rfl]
   generalize (execOp a.eval o).run P w=r at h1 ⊢
   cases r with
   | ok nx w' =>
    cases nx <;> simp only [Oper.upon,U1] at h1 ⊢
    case value u=>exact h1
    case skip=>exact h1
    case defer d=>rw [show ({ tmps:=(Kp ds a).tmps,defers:=d::(Kp ds a).defers }:Act)=Kp ds { tmps:=a.tmps,defers:=d::a.defers } from rfl,U1];exact h1
    case enter f args =>
     refine Calls.mono h1 fun e w'' he=>?_
     cases e with
     | returned u=>exact he
     | panicked c=>exact he
     | outgrown=>obtain ⟨a0,w0,h0⟩:=he;exact ⟨_,w0,h0⟩
    case row row args=>exact h1
   | halt x w'=>cases x <;> simp only [Oper.upon] at h1 ⊢ <;> exact h1
  ·rw [U1];exact Yl l _ _ (h.2 hw)
abbrev W0:Fence:=Fence.wide
theorem Nn {m id:Nat} {os:List Oper} (h:rl P os.toArray Q os a w):(Code.region id os.toArray false).wpIn W0 m P Q a w:=wpIn_wide.2 (Ami h)
theorem w_regXD {m id:Nat} {ds:List Deferred} {os:List Oper} (h:rl P os.toArray (fun e a w=>Q e (Kp ds a) w) os a w):(Code.region id os.toArray false).wpIn W0 m P Q (Kp ds a) w:=wpIn_wide.2 (Ami (Yl _ _ _ h))
theorem Pm {R:Ending→World→Prop} {f:FuncId} {fn:Func} {c:Code} {vs:List Value} (hf:P.funcs[f]?=some fn) (hb:fn.body=some c) {n:Nat} (hn:fn.ntmps=n) (hs:Nat.ble vs.length n=true)
  (h:∀ a,Fits n a (Rt 0 vs)→c.wpIn W0 0 P (bodyPostM W0 0 P fn R) a w):Calls P f vs.toArray w R:=by
 have hs':=Nat.le_of_ble_eq_true hs;refine (callsIn_wide (n:=0)).1 (callsIn_of_wp_marks hf hb trivial (h _ ⟨by simp [hn];omega,rfl,?_⟩));intro i v hi;obtain ⟨_,h2⟩:=N2 vs 0 i v hi;have hlt:i < vs.length:=by
  rcases Nat.lt_or_ge i vs.length with h' | h'
  ·exact h'
  simp [List.getElem?_eq_none h'] at h2
 simp only [Nat.sub_zero] at h2;rw [Array.getElem?_append_left (by simpa using hlt)]
 simpa using h2
def Lh (a:Act) (ps:Array Tmp) (assign body:Code) (fn D:Nat) (st:LoopState) (pe:Option Code):Loop:={ state:=st,pending:=pe,fn,tmps:=a.tmps,params:=ps,assign,body,defers:=D }
def Nj (D:Nat):Deferred:={ target:=.collected D,args:=#[] }
theorem R5 {b:Nat} {o o':Obj} {w':World} (M:Mem w0 G (.obj b o::L) w) (h:w' = w.putObj b o'):Mem w0 G (.obj b o'::L) w':=by
 subst h;have hb:w.heap[b]?=some o:=M.own (.obj b o) (by simp)
 exact M.swap_head (y:=.obj b o') rfl (World.putObj_heap_same (Array.getElem?_eq_some_iff.1 hb).1) rfl rfl rfl (by simp) (fun b' hne=>World.putObj_heap_other (fun e=>hne (by rw [e];rfl)))
theorem Xr {g:Operand} {ps:Array Tmp} {assign body:Code} {gf m:Nat} {lb:List Value} (F:Fits n a e) (M:Mem w0 G L w) (hg:ev e g=some (.func (.func gf) #[] lb.toArray)) (hE:Ent P gf)
  (h:∀ fn l D W,Mem w0 G (.obj l (.loop (Lh a ps assign body fn D .ready none))::.obj D (.deferred (some []))::L) W →
   Calls P gf (#[.func (.yield l) #[] #[]]++lb.toArray) W fun x W'=>∃ v pe G2 L2 st,x=.returned v∧st≠LoopState.busy∧Gle G G2∧Mem w0 G2 (.obj l (.loop (Lh a ps assign body fn D st pe))::.obj D (.deferred (some []))::L2) W' ∧
    ∀ W'',Mem w0 G2 (.obj D (.deferred (some []))::L2) W''→match pe with
     | none=>Q .normal (Kp [Nj D] a) W''
     | some c=>c.wpIn W0 m P Q (Kp [Nj D] a) W'') :
  (Code.rangeFunc g ps assign body).wpIn W0 m P Q a w:=by
 refine wpIn_rangeFunc ?_;intro fn _;have hd:Kp [Nj w.heap.size] a = { a with defers:=[{ target:=.collected w.heap.size,args:=#[] }]++a.defers }:=by unfold Kp Nj;rw [F.defers];rfl
 have M1:=(M.new (.deferred (some [])));have M2:=M1.new (.loop (Lh a ps assign body fn w.heap.size .ready none));have hsz:(({ w with heap:=w.heap.push (.deferred (some [])) }:World)).heap.size=w.heap.size+1:=by simp
 rw [hsz] at M2;have hen:=run_enterLoop_outer (P:=P) (w:=w) fn a.tmps ps assign body;have hg':=F.ev hg;obtain ⟨W1,hW1⟩:∃ W1,(w.alloc (.deferred (some []))).alloc (.loop (Lh a ps assign body fn w.heap.size .ready none))=W1:=⟨_,rfl⟩;have hen':(Instr.enterLoop fn a.tmps ps assign body none).run P w=.ok (w.heap.size+1,[{ target:=.collected w.heap.size,args:=#[] }]) W1:=by rw [hen,← hW1];rfl
 have M3:Mem w0 G (.obj (w.heap.size+1) (.loop (Lh a ps assign body fn w.heap.size .ready none))::.obj w.heap.size (.deferred (some []))::L) W1:=by rw [← hW1];exact M2
 clear hen M1 M2 hsz hW1;have hin:=P4 (P:=P) (w:=W1) (args:=#[.func (.yield (w.heap.size+1)) #[] #[]]++lb.toArray) hE;refine ⟨w.heap.size+1,[{ target:=.collected w.heap.size,args:=#[] }],W1,{ target:=.fn (.func gf) lb.toArray,args:=#[.func (.yield (w.heap.size+1)) #[] #[]] },W1,gf,#[.func (.yield (w.heap.size+1)) #[] #[]]++lb.toArray,W1,hen',?_,fun _ _=>trivial,?_,(fun h=>by cases h),?_⟩
 ·simp only [resolve,rangeCall,hg']
  simp [go_sem]
 ·simp only [invoke]
  exact hin
 ·refine callsIn_wide.2 (Calls.mono (h fn _ _ _ M3) ?_);rintro x W' ⟨v,pe,G2,L2,st,rfl,hst,hG,M4,hk⟩;have hb:W'.heap[w.heap.size+1]?=some (.loop (Lh a ps assign body fn w.heap.size st pe)):=M4.own (.obj (w.heap.size+1) (.loop (Lh a ps assign body fn w.heap.size st pe))) (by simp);have M5:=(R5 (o':=.loop { Lh a ps assign body fn w.heap.size st pe with state:=.exhausted }) M4 rfl).weaken (List.sublist_cons_self _ _);have hk2:=hk _ M5;rw [hd] at hk2
  exact ⟨pe,_,run_endLoop hb hst,by cases pe with
   | none=>exact hk2
   | some c=>exact hk2⟩
theorem yield2 {l m fn D i j:Nat} {v1 v2:Value} {assign body:Code} {e0:Env} {a0:Act} {R:Ending→World→Prop} (F:Fits n a0 e0) (hi:Nat.ble (i+1) n=true) (hj:Nat.ble (j+1) n=true)
  (M:Mem w0 G (.obj l (.loop (Lh a0 #[i,j] assign body fn D .ready none))::L) w)
  (h:∀ a1,Fits n a1 ((j,v2)::(i,v1)::e0)→assign.wpIn (Rnd l) m P (Exit.then (fun a2 w2=>∀ W2,Mem w0 G (.obj l (.loop (Lh a0 #[i,j] assign body fn D .busy none))::L) W2→w2=w∧body.wpIn (Rnd l) m P (roundPost P l R) a2 W2) (fun _ _ _=>False)) a1 w) :
  YieldAt W0 m P l #[v1,v2] w R:=by
 have hb:w.heap[l]?=some (.loop (Lh a0 #[i,j] assign body fn D .ready none)):=M.own (.obj l (.loop (Lh a0 #[i,j] assign body fn D .ready none))) (by simp);have hz:((#[i,j]:Array Tmp).zip #[v1,v2]).foldl (fun t (x:Tmp × Value)=>t.setIfInBounds x.1 x.2) a0.tmps=(a0.tmps.setIfInBounds i v1).setIfInBounds j v2:=by simp
 have hy:=run_yield (P:=P) (args:=#[v1,v2]) hb rfl;have hy2:(Instr.yield l #[v1,v2]).run P w=.ok (.round l fn ((a0.tmps.setIfInBounds i v1).setIfInBounds j v2) assign body) w:=by rw [← hz];exact hy
 refine ⟨fn,_,assign,body,hy2,roundIn_of_wpIn trivial (wpIn_mono (h _ ?_) ?_)⟩
 ·have F2:=(F.put (v:=v1) hi).put (v:=v2) hj
  exact ⟨F2.size,rfl,F2.slot⟩
 ·intro x a2 w2 hq
  cases x with
  | normal =>
   have M2:=R5 (o':=.loop (Lh a0 #[i,j] assign body fn D .busy none)) M rfl;obtain ⟨rfl,hq2⟩:=hq _ M2
   exact ⟨_,run_beginRound hb rfl,hq2⟩
  | _=>exact hq
theorem Mn {l fn D:Nat} {ps:Array Tmp} {assign body:Code} {a0:Act} (jump:Option Code) (M:Mem w0 G (.obj l (.loop (Lh a0 ps assign body fn D .busy none))::L) w) :
  ∃ w',(Instr.endRound l jump).run P w=.ok (.bool jump.isNone) w'∧Mem w0 G (.obj l (.loop (Lh a0 ps assign body fn D (if jump.isNone then .ready else .done) jump))::L) w' :=
 ⟨_,run_endRound jump (M.own (.obj l (.loop (Lh a0 ps assign body fn D .busy none))) (by simp)),R5 M rfl⟩
theorem Yn {fn:Func} {e0:Env} {t u s ty1 ty2 ty3 k1 k2 k3 b1 b2 b3:Nat} {x y z:Value} (F:Fits n a e0) (M:Mem w0 G L w) (hk1:L[k1]?=some (.blk b1 [x] ty1)) (hk2:L[k2]?=some (.blk b2 [y] ty2)) (hk3:L[k3]?=some (.blk b3 [z] ty3))
  (hf:fn.results = #[.cell t ty1,.cell u ty2,.cell s ty3]) (h1:(tk P ty1).agg=some false) (h2:(tk P ty2).agg=some false) (h3:(tk P ty3).agg=some false)
  (hv1:look e0 t=some (.pointer (some ⟨b1,0,none⟩))) (hv2:look e0 u=some (.pointer (some ⟨b2,0,none⟩))) (hv3:look e0 s=some (.pointer (some ⟨b3,0,none⟩))) :
  (results fn a.tmps).run P w=.ok (.tuple #[x,y,z]) w:=by
 have l1:(loadVar ty1 ⟨b1,0,none⟩).run P w=.ok x w:=Gm h1 (M.cellL hk1 rfl);have l2:(loadVar ty2 ⟨b2,0,none⟩).run P w=.ok y w:=Gm h2 (M.cellL hk2 rfl);have l3:(loadVar ty3 ⟨b3,0,none⟩).run P w=.ok z w:=Gm h3 (M.cellL hk3 rfl)
 simp [results,hf,F.slot _ _ hv1,F.slot _ _ hv2,F.slot _ _ hv3,asAddr,l1,l2,l3]
theorem finM {fn:Func} {R:Ending→World→Prop} {e0:Env} {v:Value} (F:Fits n a e0) (hr:(results fn a.tmps).run P w=.ok v w) (h:R (.returned v) w):bodyPostM W0 0 P fn R .ret a w:=by
 show LeavesInM _ _ _ _ _ _ a.defers _ _
 rw [F.defers]
 exact ⟨v,hr,h⟩
theorem finMD {fn:Func} {R:Ending→World→Prop} {e0:Env} {v:Value} {D:Nat} (F:Fits n a e0) (M:Mem w0 G (.obj D (.deferred (some []))::L) w) (hr:∀ w',Mem w0 G L w'→(results fn a.tmps).run P w' = .ok v w') (h:∀ w',Mem w0 G L w'→R (.returned v) w'):bodyPostM W0 0 P fn R .ret (Kp [Nj D] a) w:=by
 show LeavesInM _ _ _ _ _ _ (Kp [Nj D] a).defers _ _
 rw [show (Kp [Nj D] a).defers=[Nj D] by unfold Kp;rw [F.defers];rfl];have M2:=(R5 (o':=.deferred none) M rfl).weaken (List.sublist_cons_self _ _)
 exact ⟨by simp,Or.inl ⟨D,_,rfl,run_takeDeferred (M.own (.obj D (.deferred (some []))) (by simp)),v,hr _ M2,h _ M2⟩⟩
theorem finMn {fn:Func} {R:Ending→World→Prop} {e0:Env} {v:Value} (F:Fits n a e0) (hr:(results fn a.tmps).run P w=.ok v w) (h:R (.returned v) w):bodyPostM W0 0 P fn R .normal a w:=finM F hr h
theorem Agt {m:Nat} (h:Q .normal a w):rlW P m ops Q [] a w:=h
theorem Xq {g:Operand} {ps:Array Tmp} {assign body:Code} {gf m:Nat} {lb:List Value} (F:Fits n a e) (M:Mem w0 G L w) (hg:ev e g=some (.func (.func gf) #[] lb.toArray)) (hE:Ent P gf)
  (h:∀ fn l D (Rc:LoopState→Option Code→Res) W,(∀ st pe,Rc st pe=.obj l (.loop (Lh a ps assign body fn D st pe)))→Mem w0 G (Rc .ready none::.obj D (.deferred (some []))::L) W →
   Calls P gf (#[.func (.yield l) #[] #[]]++lb.toArray) W fun x W'=>∃ v pe G2 L2 st,x=.returned v∧st≠LoopState.busy∧Gle G G2∧Mem w0 G2 (Rc st pe::.obj D (.deferred (some []))::L2) W' ∧
    ∀ W'',Mem w0 G2 (.obj D (.deferred (some []))::L2) W''→match pe with
     | none=>Q .normal (Kp [Nj D] a) W''
     | some c=>c.wpIn W0 m P Q (Kp [Nj D] a) W'') :
  (Code.rangeFunc g ps assign body).wpIn W0 m P Q a w :=
 Xr F M hg hE fun fn l D W M'=>h fn l D (fun st pe=>.obj l (.loop (Lh a ps assign body fn D st pe))) W (fun _ _=>rfl) M'
end
end Go.Y
namespace Go.Proofs.YtmmhmcplegpenaaGreatDoor
open Go Go.Y Go.Proofs
variable {w0 w:World} {G:Aq} {L:List Res}
set_option maxHeartbeats 1600000
theorem cut_lt9 {s:List UInt8} (h:¬ s=[]):(Lib.cut s [10]).2.1.length < s.length:=by
 have h0:=List.length_pos_iff.2 h;rw [N9]
 split
 ·simp only [List.length_drop];omega
 simpa using h0
theorem Abv {w0:World} {Rc:LoopState→Option Code→Res} {DD:Res} {l sb:Nat} {J:List UInt8→Aq→List Res→Prop} {Jx:Code→Aq→List Res→Prop}
  (hy:∀ (c:List UInt8) (G:Aq) (L:List Res) (W:World),Globs 0 1 2 3 G→¬ c=[]→c.length≤1048576→J c G L→Mem w0 G (Rc .ready none::DD::.blk sb [.string (str c)] 9::L) W →
   YieldAt W0 0 Tryz.prog l #[.string (str (Lib.cut c [10]).1),.bool (Lib.cut c [10]).2.2] W fun x W' =>
    (x=.returned (.bool true)∧∃ G2 L2,Gle G G2∧Mem w0 G2 (Rc .ready none::DD::.blk sb [.string (str c)] 9::L2) W'∧J (Lib.cut c [10]).2.1 G2 L2) ∨
    (x=.returned (.bool false)∧∃ pe G2 L2,Gle G G2∧Mem w0 G2 (Rc .done (some pe)::DD::.blk sb [.string (str c)] 9::L2) W'∧Jx pe G2 L2))
  {w:World} {G:Aq} {L:List Res} {c0:List UInt8} (HG:Globs 0 1 2 3 G) (hc:c0.length≤1048576) (hJ0:J c0 G L) (M:Mem w0 G (Rc .ready none::DD::.blk sb [.string (str c0)] 9::L) w) :
  Calls Tryz.prog 99 #[.func (.yield l) #[] #[],.pointer (some ⟨sb,0,none⟩)] w fun x W'=>∃ v,x=.returned v ∧
   ((∃ G2 L2 c2,Gle G G2∧Mem w0 G2 (Rc .ready none::DD::.blk sb [.string (str c2)] 9::L2) W'∧J [] G2 L2)∨(∃ pe G2 L2 c2,Gle G G2∧Mem w0 G2 (Rc .done (some pe)::DD::.blk sb [.string (str c2)] 9::L2) W'∧Jx pe G2 L2)):=by
 refine Pm (vs:=[_,_]) Tryz.func99 rfl (n:=20) rfl rfl ?_;intro a F;refine wpIn_block<|Amj (fun m a' w'=>∃ (c:List UInt8),∃ (Lq:List Res),m=c.length∧∃ G1,Gle G G1∧Fits 20 a' [(0,.func (.yield l) #[] #[]),(1,.pointer (some ⟨sb,0,none⟩))]∧Mem w0 G1 ((Rc .ready none)::DD::.blk sb [.string (str c)] 9::Lq) w'∧(c.length≤1048576)∧(J c G1 Lq)) _ ⟨c0,L,rfl,G,Gle.refl _,F.to ⟨rfl,rfl,trivial⟩,M,hc,hJ0⟩ ?_
 clear F M;rintro m a w ⟨c,Lq,rfl,G1,hG1,F,M,hcl,hJ⟩;replace HG:=HG.mono hG1
 iterate 2 (refine wpIn_seq ?_)
 refine Nn<|Bf F (Cs (agf Ej rfl) (F.ev rfl) (M.cellL (k:=2) rfl rfl)) rfl ?_;clear F a;intro a F
 refine Bf F (P0 (F.ev rfl) (F.ev rfl)) rfl ?_;clear F a;intro a F;refine F0<|Ii<|Oh F rfl ?_ ?_
 ·intro h2b;have h2:=dF (Ab h2b);have h2c:(decide (c=([]:List UInt8)))=false:=(Ab h2b);refine wpIn_skip<|Ii<|wpIn_block<|wpIn_seq<|Nn<|Bf F (Cs (agf Ej rfl) (F.ev rfl) (M.cellL (k:=2) rfl rfl)) rfl ?_;clear F a;intro a F
  refine Aak F Up rfl rfl (Md (s:=c) (sep:=([10]:List UInt8)) M HG (by omega)) ?_;clear F M a;rintro _ w a M rfl F;have hclc3:=Ib 10 c;refine Bf F (Fi (F.ev rfl)) rfl ?_;clear F a;intro a F;refine Bf F (Gh (v:=.string (str ((Lib.cut c [10]).1))) (F.ev rfl) rfl) rfl ?_;clear F a;intro a F;refine Bf F (Gh (v:=.string (str ((Lib.cut c [10]).2.1))) (F.ev rfl) rfl) rfl ?_;clear F a;intro a F;refine Bf F (Gh (v:=.bool ((Lib.cut c [10]).2.2)) (F.ev rfl) rfl) rfl ?_;clear F a;intro a F
  iterate 3 (refine Bf F (Gy (F.ev rfl)) rfl ?_;clear F a;intro a F)
  refine F0<|Ii ?_
  iterate 2 (refine wpIn_seq ?_)
  refine w_regW ?_
  iterate 3 (refine Ym F (Fi (F.ev rfl)) rfl ?_;clear F a;intro a F)
  refine Ajv (m:=0) (vs:=[.string (str ((Lib.cut c [10]).1)),.bool ((Lib.cut c [10]).2.2)]) F rfl rfl rfl (hy _ _ _ _ HG (by assumption) hcl hJ M) ?_;clear F M a;rintro x w (⟨rfl,G9,L9,hG9,M,hJ9⟩ | ⟨rfl,pe9,G9,L9,hG9,M,hJx9⟩)
  ·skip
   refine ⟨true,rfl,fun a F=>?_⟩;replace HG:=HG.mono hG9;refine Ym F (Ot (F.ev rfl)) rfl ?_;clear F a;intro a F;refine Agt<|Ii<|Adk F rfl rfl ?_
   refine wpIn_skip<|Ii<|Nn<|Bf F (Fi (F.ev rfl)) rfl ?_;clear F a;intro a F
   refine Mc F M Ej 2 ?_;clear F M a;intro w a M F;refine F0<|q_bn<|Ii ?_
   exact ⟨_,(by have h9_:=cut_lt9 (s:=c) (by assumption);omega),_,L9,rfl,G9,(hG1.trans hG9),F.to ⟨rfl,rfl,trivial⟩,M,by omega,hJ9⟩
  refine ⟨false,rfl,fun a F=>?_⟩;replace HG:=HG.mono hG9;refine Ym F (Ot (F.ev rfl)) rfl ?_;clear F a;intro a F;refine Agt<|Ii<|Sf F rfl rfl ?_
  refine wpIn_ret<|Aex<|Akh<|Aex<|Akh<|finM F (v:=.tuple #[]) (results_none rfl _ _ _) ?_
  exact ⟨_,rfl,Or.inr ⟨_,_,_,_,(hG1.trans hG9),M,hJx9⟩⟩
 intro h4b;have h4:=dT (Ac h4b);have h4c:(decide (c=([]:List UInt8)))=true:=(Ac h4b);refine wpIn_exit ?_
 iterate 2 (refine q_te ?_)
 refine q_bh<|finMn F (v:=.tuple #[]) (results_none rfl _ _ _) ?_
 exact ⟨_,rfl,Or.inl ⟨_,_,_,hG1,M,by rw [← (show c=[] by assumption)];exact hJ⟩⟩
theorem Afj (M:Mem w0 G L w) {s:List UInt8}:Calls Tryz.prog 44 #[.string (str s)] w (Ke w0 G fun L' v=>∃ b:Nat,v=.func (.func 99) #[] #[.pointer (some ⟨b,0,none⟩)]∧L' = (.blk b [.string (str s)] 9::L)):=by
 refine Al (vs:=[_]) Tryz.func44 rfl (n:=4) rfl rfl<|?_
 refine Bt<|?_
 refine B2 M rfl rfl rfl<|?_;clear M;intro b1 w M
 refine wk ?_;refine Am (fun a F=>Ct (vs:=#[.pointer (some ⟨b1,0,none⟩)]) (by simp only [List.map_toArray,List.map_cons,List.map_nil,F.ev (x:=.tmp 1) rfl])) rfl<|?_
 refine wk ?_;refine Ad rfl rfl<|?_
 exact ⟨_,M,_,rfl,rfl⟩
theorem Aez (M:Mem w0 G L w) (HG:Globs 0 1 2 3 G) {s:List UInt8} (hs:s.length≤9223372036854775807):Calls Tryz.prog 12 #[.string (str s)] w (Ret w0 G L fun G' v=>∃ a:Option Addr,v=.tuple #[.slice a (Di s).1.length (Di s).1.length,.int .i64 (((Di s).2.1:Nat):Int),.int .i64 (Di s).2.2]∧Ag Bn 4 G' (.slice a (Di s).1.length (Di s).1.length) (Di s).1):=by
 refine Pm (vs:=[_]) Tryz.func12 rfl (n:=42) rfl rfl ?_;intro a F;refine wpIn_seq<|Nn<|Lz F M Co rfl rfl ?_;clear F M a;intro b1 w a M F
 refine Lz F M Cq rfl rfl ?_;clear F M a;intro b3 w a M F;refine Lz F M Ng rfl rfl ?_;clear F M a;intro b5 w a M F;refine F0<|Ii ?_
 iterate 2 (refine wpIn_seq ?_)
 refine Nn<|Bf F (Fi (F.ev rfl)) rfl ?_;clear F a;intro a F
 refine Bf F (S1 Ej.k (F.ev rfl)) rfl ?_;clear F a;intro a F;refine Bf F (Yc (F.ev rfl) (F.ev rfl)) rfl ?_;clear F a;intro a F;refine F0<|Ii<|Oh F rfl ?_ ?_
 ·intro h7b;have h7:=dT h7b;refine wpIn_seq<|Nn<|Mc F M Co 2 ?_;clear F M a;intro w a M F
  refine Mc F M Cq 1 ?_;clear F M a;intro w a M F;refine Mc F M Ng 0 ?_;clear F M a;intro w a M F;refine F0<|Ii<|wpIn_ret<|Aex<|finM F (Yn F M (k1:=2) (k2:=1) (k3:=0) rfl rfl rfl rfl (agf Co rfl) (agf Cq rfl) (agf Ng rfl) rfl rfl rfl) ?_
  exact ⟨_,(Gle.refl _),M.weaken dS3,by rw [Akn (by omega)];exact ⟨none,rfl,Ag.nil⟩⟩
 intro h8b;have h8:=dF h8b;refine wpIn_skip<|Ii ?_
 iterate 2 (refine wpIn_seq ?_)
 refine Nn<|Bf F (Fi (F.ev rfl)) rfl ?_;clear F a;intro a F
 refine Aal F ent44 rfl rfl (Afj (s:=s) M) ?_;clear F M a;rintro _ _ w a M ⟨bs9,rfl,rfl⟩ F;refine F0<|Ii<|wpIn_block ?_
 replace M:=M.perm (Af _ 3 _ rfl);replace M:=z_M M;have M:=(M.nilrow 26 4).perm (List.Perm.swap _ _ _);replace M:=M.perm (Af _ 1 _ rfl);replace M:=M.perm (Af _ 3 _ rfl);replace M:=M.perm (Af _ 4 _ rfl);replace M:=M.perm (Af _ 3 _ rfl);replace M:=M.perm (Af _ 4 _ rfl);replace M:=z_M M;replace M:=z_M M;refine Xq F M rfl ent99 (fun fn l D Rc W hRc M2=>?_);clear M;refine Calls.mono (Abv (Rc:=Rc) (DD:=.obj D (.deferred (some []))) (l:=l) (sb:=bs9) (J:=(fun c G' L'=>Gle G G'∧∃ (ar:Option Addr) (nr cr:Nat) (csr:List Value) (xs:List ItemD),L' = (.blk b1 [.slice ar nr cr] 22::.blk b3 [.int .i64 0] 3::.blk b5 [.int .i64 0] 27::.row (.slice ar nr cr) nr csr 26 4::L)∧Els Bn 4 G' csr xs∧nr=xs.length∧Mh s xs c)) (Jx:=(fun pe G' L'=>Gle G G'∧pe=Code.ret∧∃ (n:Nat) (e:Int),L' = (.blk b1 [.slice none 0 0] 22::.blk b3 [.int .i64 ((n:Nat):Int)] 3::.blk b5 [.int .i64 e] 27::L)∧Di s=([],n,e))) ?_ HG (by omega) ⟨Gle.refl _,_,_,_,_,_,rfl,Els.nil,rfl,Mh.start (by omega)⟩ M2) ?_
 ·intro c Gc Lc Wc HGc hne hcl hJ M;obtain ⟨hGc,ar,nr,cr,csr,xs,rfl,Er,hnr,hP⟩:=hJ;subst hnr;obtain ⟨f9,hf9,hp9,hx9,hok9⟩:=id hP;rw [hRc] at M;clear HG M2;have HG:=HGc;have hcl9:=Ib 10 c;refine yield2 F rfl rfl M (fun a F=>?_);refine wpIn_seq<|Im (by kernel_rfl) ?_
  refine Bf F (Gy (F.ev rfl)) rfl ?_;clear F;intro a F;refine F0<|Ii<|Im (by kernel_rfl) ?_
  refine Bf F (Gy (F.ev rfl)) rfl ?_;clear F;intro a F;refine F0<|Ii ?_
  intro W2 M3;refine ⟨rfl,?_⟩;clear M;have M:=M3;clear M3;refine wpIn_block<|wpIn_seq<|Im (by kernel_rfl) ?_
  refine Bf F (Fi (F.ev rfl)) rfl ?_;clear F;intro a F;refine Yh F ent45 rfl rfl (Alg (s:=(Lib.cut c [10]).1) M HG (by omega)) ?_;clear F M;rintro _ Gk10 w a hGk10 M ⟨xk10,mak10,mck10,bk10,rfl,hIk10,SMk10,hyk10,hnk10⟩ F;replace HG:=HG.mono hGk10;replace Er:=Er.mono Ai hGk10;refine Bf F (Fi (F.ev rfl)) rfl ?_;clear F;intro a F;refine Bf F (Gh (v:=.agg #[.int .u64 ((xk10.key:Nat):Int),.int .u8 ((xk10.typ:Nat):Int),.string (str xk10.text),.slice mak10 xk10.marks.length mck10]) (F.ev rfl) rfl) rfl ?_;clear F;intro a F;refine Bf F (Gh (v:=.bool bk10) (F.ev rfl) rfl) rfl ?_;clear F;intro a F;refine Lz F M Bi rfl rfl ?_;clear F M;intro b11 w a M F;refine Be F M Bi 0 ?_;clear F M;intro w a M F;replace M:=z_M M;refine Bf F (Gy (F.ev rfl)) rfl ?_;clear F;intro a F;refine F0<|Ii ?_
  iterate 2 (refine wpIn_seq ?_)
  refine Im (by kernel_rfl) ?_;refine Bf F (Fi (F.ev rfl)) rfl ?_;clear F;intro a F;refine Bf F (Ot (F.ev rfl)) rfl ?_;clear F;intro a F;refine Bf F (Fi (F.ev rfl)) rfl ?_;clear F;intro a F
  rcases bE (!((Lib.cut c [10]).2.2)) with h13b | h14b
  ·skip
   have h13:=Ab h13b;have h13c:((Lib.cut c [10]).2.2)=false:=(Ab h13b)
   iterate 2 (refine Tf F rfl rfl rfl (Abe h13c) ?_;clear F;intro a F)
   refine Bf F (Nu (F.ev rfl) (Abe h13c) (F.ev rfl)) rfl ?_;clear F;intro a F;refine F0<|Ii<|Sf F rfl rfl ?_
   refine wpIn_seq<|Im (by kernel_rfl) ?_
   refine Bf F (Cs (agf Co rfl) (F.ev rfl) (M.cellL (k:=4) rfl rfl)) rfl ?_;clear F;intro a F;refine Bf F (Iw Co.k (F.ev rfl)) rfl ?_;clear F;intro a F;refine Bf F (Gi (F.ev rfl) (F.ev rfl) (Br (by omega) (by omega))) rfl ?_;clear F;intro a F;refine Mc F M Co 4 ?_;clear F M;intro w a M F;refine Mc F M Cq 5 ?_;clear F M;intro w a M F;refine Mc F M Ng 6 ?_;clear F M;intro w a M F;refine F0<|Ii<|wpIn_ret<|Aex<|Akh ?_
   replace M:=M.perm (Af _ 6 _ rfl);replace M:=M.perm (Af _ 6 _ rfl);replace M:=M.perm (Af _ 6 _ rfl);replace M:=M.perm (Af _ 6 _ rfl);replace M:=M.perm (Af _ 6 _ rfl);replace M:=M.perm (Af _ 6 _ rfl);replace M:=z_M M;rw [show (((xs.length:Nat):Int)+1)=(((xs.length+1:Nat)):Int) by omega] at M;obtain ⟨w',hend,M⟩:=Mn (some .ret) (M.weaken (cC (.cons_cons _ (cC (.cons_cons _ (cC (.cons_cons _ (cN (.cons _ (sR _))))))))))
   exact ⟨_,w',hend,Or.inr ⟨rfl,.ret,_,_,hGk10,by rw [hRc];exact M,hGc.trans hGk10,rfl,_,_,rfl,by first | exact hP.bad hne (Or.inl (fun h_=>absurd (show true=false from h_.symm.trans (by assumption)) (by decide))) | exact hP.bad hne (Or.inr (hnk10 (by assumption)))⟩⟩
  have h14:=Ac h14b;have h14c:((Lib.cut c [10]).2.2)=true:=(Ac h14b);refine Nv F rfl rfl rfl (F4 h14c) ?_;refine Bf F (Fi (F.ev rfl)) rfl ?_;clear F;intro a F;refine Nv F rfl rfl rfl (F4 h14c) ?_;refine Bf F (Ot (F.ev rfl)) rfl ?_;clear F;intro a F;refine Bf F (Kv (F.ev rfl) (F4 h14c) (F.ev rfl)) rfl ?_;clear F;intro a F;refine F0<|Ii<|Oh F rfl ?_ ?_
  ·intro h15b;have h15:=Ab h15b;have h15c:(bk10)=false:=(Ab h15b);refine wpIn_seq<|Im (by kernel_rfl) ?_
   refine Bf F (Cs (agf Co rfl) (F.ev rfl) (M.cellL (k:=4) rfl rfl)) rfl ?_;clear F;intro a F;refine Bf F (Iw Co.k (F.ev rfl)) rfl ?_;clear F;intro a F;refine Bf F (Gi (F.ev rfl) (F.ev rfl) (Br (by omega) (by omega))) rfl ?_;clear F;intro a F;refine Mc F M Co 4 ?_;clear F M;intro w a M F;refine Mc F M Cq 5 ?_;clear F M;intro w a M F;refine Mc F M Ng 6 ?_;clear F M;intro w a M F;refine F0<|Ii<|wpIn_ret<|Aex<|Akh ?_
   replace M:=M.perm (Af _ 6 _ rfl);replace M:=M.perm (Af _ 6 _ rfl);replace M:=M.perm (Af _ 6 _ rfl);replace M:=M.perm (Af _ 6 _ rfl);replace M:=M.perm (Af _ 6 _ rfl);replace M:=M.perm (Af _ 6 _ rfl);replace M:=z_M M;rw [show (((xs.length:Nat):Int)+1)=(((xs.length+1:Nat)):Int) by omega] at M;obtain ⟨w',hend,M⟩:=Mn (some .ret) (M.weaken (cC (.cons_cons _ (cC (.cons_cons _ (cC (.cons_cons _ (cN (.cons _ (sR _))))))))))
   exact ⟨_,w',hend,Or.inr ⟨rfl,.ret,_,_,hGk10,by rw [hRc];exact M,hGc.trans hGk10,rfl,_,_,rfl,by first | exact hP.bad hne (Or.inl (fun h_=>absurd (show true=false from h_.symm.trans (by assumption)) (by decide))) | exact hP.bad hne (Or.inr (hnk10 (by assumption)))⟩⟩
  intro h16b;have h16:=Ac h16b;have h16c:(bk10)=true:=(Ac h16b);refine wpIn_skip<|Ii ?_
  iterate 2 (refine wpIn_seq ?_)
  refine Im (by kernel_rfl) ?_;refine Bf F (Cs (agf Co rfl) (F.ev rfl) (M.cellL (k:=4) rfl rfl)) rfl ?_;clear F;intro a F;refine Bf F (Iw Co.k (F.ev rfl)) rfl ?_;clear F;intro a F;refine Bf F (Yd (F.ev rfl) (F.ev rfl)) rfl ?_;clear F;intro a F;refine F0<|Ii<|Oh F rfl ?_ ?_
  ·intro h17b;have h17:=dT h17b;refine wpIn_seq<|Im (by kernel_rfl) ?_
   refine Bf F (Cs (agf Co rfl) (F.ev rfl) (M.cellL (k:=4) rfl rfl)) rfl ?_;clear F;intro a F;refine Bf F (Iw Co.k (F.ev rfl)) rfl ?_;clear F;intro a F;refine Bf F (Gi (F.ev rfl) (F.ev rfl) (Br (by omega) (by omega))) rfl ?_;clear F;intro a F;refine Mc F M Co 4 ?_;clear F M;intro w a M F;refine Mc F M Cq 5 ?_;clear F M;intro w a M F;refine Mc F M Ng 6 ?_;clear F M;intro w a M F;refine F0<|Ii<|wpIn_ret<|Aex<|Akh ?_
   replace M:=M.perm (Af _ 6 _ rfl);replace M:=M.perm (Af _ 6 _ rfl);replace M:=M.perm (Af _ 6 _ rfl);replace M:=M.perm (Af _ 6 _ rfl);replace M:=M.perm (Af _ 6 _ rfl);replace M:=M.perm (Af _ 6 _ rfl);replace M:=z_M M;rw [show (((xs.length:Nat):Int)+1)=(((xs.length+1:Nat)):Int) by omega] at M;obtain ⟨w',hend,M⟩:=Mn (some .ret) (M.weaken (cC (.cons_cons _ (cC (.cons_cons _ (cC (.cons_cons _ (cN (.cons _ (sR _))))))))))
   exact ⟨_,w',hend,Or.inr ⟨rfl,.ret,_,_,hGk10,by rw [hRc];exact M,hGc.trans hGk10,rfl,_,_,rfl,by exact hP.full hne (by assumption) (hyk10 (by assumption)) (by omega)⟩⟩
  intro h18b;have h18:=dF h18b;refine wpIn_skip<|Ii<|Im (by kernel_rfl) ?_
  refine Bf F (Cs (agf Co rfl) (F.ev rfl) (M.cellL (k:=4) rfl rfl)) rfl ?_;clear F;intro a F;refine Bf F (Da Bi rfl (F.ev rfl) (cs:=[.int .u64 ((xk10.key:Nat):Int),.int .u8 ((xk10.typ:Nat):Int),.string (str xk10.text),.slice mak10 xk10.marks.length mck10]) rfl (M.cellsL (k:=0) rfl rfl)) rfl ?_;clear F;intro a F;refine Ar F M Co.k Bi rfl rfl (cs:=[.int .u64 ((xk10.key:Nat):Int),.int .u8 ((xk10.typ:Nat):Int),.string (str xk10.text),.slice mak10 xk10.marks.length mck10]) rfl rfl (by simp [Value.oneCell']) (by decide) rfl ?_;clear F M;intro v19 w a M F;obtain ⟨av19,cv19,rfl,hlev19,hcmv19,hlv19⟩:=M.row_shape (k:=0) rfl;have Eb:Els Bn 4 Gk10 [.int .u64 ((xk10.key:Nat):Int),.int .u8 ((xk10.typ:Nat):Int),.string (str xk10.text),.slice mak10 xk10.marks.length mck10] [xk10]:=⟨[.int .u64 ((xk10.key:Nat):Int),.int .u8 ((xk10.typ:Nat):Int),.string (str xk10.text),.slice mak10 xk10.marks.length mck10],[],rfl,rfl,⟨mak10,mck10,rfl,hIk10.1,hIk10.2.1,hIk10.2.2,(by have h_:=SMk10.bound;omega),SMk10⟩,rfl⟩;refine A3 F M (k:=8) (k2:=0) rfl rfl Co.k Bi rfl rfl (by decide) rfl rfl (by show _ * 56≤_;(try simp only [List.length_drop,List.length_take,List.length_append,List.length_cons,List.length_nil]);omega) (by (try simp only [List.length_drop,List.length_take,List.length_append,List.length_cons,List.length_nil]);omega) rfl ?_;clear F M;intro v20 w a M F;have Ev20:=Els.append Er Eb;obtain ⟨av20,cv20,rfl,hlev20,hcmv20,hlv20⟩:=M.row_shape (k:=8) rfl;refine Mc F M Co 5 ?_;clear F M;intro w a M F;refine F0<|q_bn ?_
  replace M:=M.perm (Af _ 8 _ rfl);replace M:=M.perm (Af _ 8 _ rfl);replace M:=M.perm (Af _ 8 _ rfl);replace M:=M.perm (Af _ 8 _ rfl);replace M:=M.perm (Af _ 8 _ rfl);replace M:=M.perm (Af _ 8 _ rfl);replace M:=M.perm (Af _ 8 _ rfl);replace M:=z_M M;obtain ⟨w',hend,M⟩:=Mn none (M.weaken (cC (.cons_cons _ (cC (.cons_cons _ (cC (.cons_cons _ (cC (cN (.cons _ (sR _)))))))))))
  exact ⟨_,w',hend,Or.inl ⟨rfl,_,_,hGk10,by rw [hRc];exact M,hGc.trans hGk10,_,_,_,_,_,rfl,Ev20,by simp,hP.next hne (by assumption) (hyk10 (by assumption)) (by omega)⟩⟩
 rintro x W' ⟨v,rfl,(⟨G2,L2,c2,hG2,M,hJ⟩ | ⟨pe,G2,L2,c2,hG2,M,hJ⟩)⟩
 ·skip
  obtain ⟨hG9,ar,nr,cr,csr,xs,rfl,Er,hnr,hP⟩:=hJ;subst hnr;have hp:=hP.fin;obtain ⟨f9,hf9,hp9,hx9,hok9⟩:=id hP;refine ⟨v,none,G2,_,.ready,rfl,(fun h=>by cases h),hG2,M,fun w M=>?_⟩;clear hRc M2;replace HG:=HG.mono hG2;refine q_bn<|Ii<|wpIn_seq ?_
  obtain ⟨hnz21,Gz21,az21,cz21,hGz21,hez21,Sz21,M⟩:=M.freeze_row Ai (k:=5) rfl Er (by decide);clear hez21 az21 cz21;replace HG:=HG.mono hGz21;replace M:=z_M M;refine w_regXD<|Bf F (Cs (agf Co rfl) (F.ev rfl) (M.cellL (k:=2) rfl rfl)) rfl ?_;clear F a;intro a F
  refine Yh F Ars rfl rfl (Xe (xs:=xs) M Sz21 (by omega) (fun x hx=>by have:=(hok9 x hx).2.2.2.1;omega)) ?_;clear F M a;rintro _ Gq22 w a hGq22 M ⟨aq22,rfl,Sq22⟩ F;replace HG:=HG.mono hGq22;replace Sz21:=Sz21.mono Ai hGq22;refine Mc F M Co 2 ?_;clear F M a;intro w a M F;refine Mc F M Cq 3 ?_;clear F M a;intro w a M F;refine Mc F M Ng 4 ?_;clear F M a;intro w a M F;refine F0<|Ii<|wpIn_ret ?_
  replace M:=z_M M;refine finMD F M (v:=.tuple #[.slice aq22 xs.length xs.length,.int .i64 0,.int .i64 0]) (fun w_ M_=>Yn F M_ (k1:=1) (k2:=2) (k3:=3) rfl rfl rfl rfl (agf Co rfl) (agf Cq rfl) (agf Ng rfl) rfl rfl rfl) (fun w_ M_=>?_)
  exact ⟨_,((hG2.trans hGz21).trans hGq22),M_.weaken dS4,by rw [hp];exact ⟨aq22,rfl,Sq22⟩⟩
 obtain ⟨hG9,rfl,n9,e9,rfl,hp⟩:=hJ;refine ⟨v,some .ret,G2,_,.done,rfl,(fun h=>by cases h),hG2,M,fun w M=>?_⟩;clear hRc M2;replace HG:=HG.mono hG2;refine wpIn_ret<|Akh<|Aex ?_
 replace M:=z_M M;refine finMD F M (v:=.tuple #[.slice none 0 0,.int .i64 ((n9:Nat):Int),.int .i64 e9]) (fun w_ M_=>Yn F M_ (k1:=1) (k2:=2) (k3:=3) rfl rfl rfl rfl (agf Co rfl) (agf Cq rfl) (agf Ng rfl) rfl rfl rfl) (fun w_ M_=>?_)
 exact ⟨_,hG2,M_.weaken dS4,by rw [hp];exact ⟨none,rfl,Ag.nil⟩⟩
set_option maxHeartbeats 1600000
set_option maxHeartbeats 1600000
theorem d2:Lib.decDigits 2=[50]:=by rw [Lib.decDigits,dif_pos (by decide)];rfl
theorem d0:Lib.decDigits 0=[48]:=by rw [Lib.decDigits,dif_pos (by decide)];rfl
set_option maxHeartbeats 1600000
theorem Za {G:Aq} {a:Option Addr} {c:Nat} {xs:List ItemD} (S:Ag Bn 4 G (.slice a xs.length c) xs):∀ x∈xs,x.key < 18446744073709551616∧x.typ < 256:=by
 intro x hx;obtain ⟨i,hi⟩:=List.mem_iff_getElem?.1 hx;obtain ⟨b,o,cs,_,_,_,_,hr⟩:=S.index hi;obtain ⟨a',c',_,h1,h2,_⟩:=hr
 exact ⟨h1,h2⟩
abbrev ti2:TI:=⟨.int .i64,1,8,.int .i64 0⟩
theorem Adr:TOK Tryz.prog 2 ti2:=⟨by kernel_rfl,by kernel_rfl,by kernel_rfl⟩
abbrev ti49:TI:=⟨.slice 81,1,24,.slice none 0 0⟩
theorem Amp:TOK Tryz.prog 49 ti49:=⟨by kernel_rfl,by kernel_rfl,by kernel_rfl⟩
abbrev ti51:TI:=⟨.struct [(0,1,49),(1,1,3)],2,32,.agg #[.slice none 0 0,.int .i64 0]⟩
theorem Gb:TOK Tryz.prog 51 ti51:=⟨by kernel_rfl,by kernel_rfl,by kernel_rfl⟩
abbrev ti52:TI:=⟨.slice 69,1,24,.slice none 0 0⟩
theorem C6:TOK Tryz.prog 52 ti52:=⟨by kernel_rfl,by kernel_rfl,by kernel_rfl⟩
abbrev ti54:TI:=⟨.struct [(0,1,52)],1,24,.agg #[.slice none 0 0]⟩
theorem Az:TOK Tryz.prog 54 ti54:=⟨by kernel_rfl,by kernel_rfl,by kernel_rfl⟩
abbrev ti69:TI:=⟨.struct [(0,4,26),(4,1,2),(5,1,4)],6,72,.agg #[.int .u64 0,.int .u8 0,.string ⟨#[]⟩,.slice none 0 0,.int .i64 0,.bool false]⟩
theorem B9:TOK Tryz.prog 69 ti69:=⟨by kernel_rfl,by kernel_rfl,by kernel_rfl⟩
abbrev ti81:TI:=⟨.struct [(0,6,79),(6,1,2),(7,1,4),(8,1,3)],9,128,.agg #[.int .u8 0,.string ⟨#[]⟩,.string ⟨#[]⟩,.slice none 0 0,.string ⟨#[]⟩,.slice none 0 0,.int .i64 0,.bool false,.int .i64 0]⟩
theorem Ll:TOK Tryz.prog 81 ti81:=⟨by kernel_rfl,by kernel_rfl,by kernel_rfl⟩
abbrev ti204:TI:=⟨.func,1,8,.nilFunc⟩
theorem tok204:TOK Tryz.prog 204 ti204:=⟨by kernel_rfl,by kernel_rfl,by kernel_rfl⟩
abbrev ti205:TI:=⟨.func,1,8,.nilFunc⟩
theorem tok205:TOK Tryz.prog 205 ti205:=⟨by kernel_rfl,by kernel_rfl,by kernel_rfl⟩
abbrev ti207:TI:=⟨.struct [(0,1,4),(1,1,3),(2,1,22),(3,1,205),(4,1,204)],5,56,.agg #[.bool false,.int .i64 0,.slice none 0 0,.nilFunc,.nilFunc]⟩
theorem Hw:TOK Tryz.prog 207 ti207:=⟨by kernel_rfl,by kernel_rfl,by kernel_rfl⟩
theorem ent61:Ent Tryz.prog 61:=.mk' Tryz.func61 (by kernel_rfl) (by kernel_rfl)
theorem Ain:Ent Tryz.prog 66:=.mk' Tryz.func66 (by kernel_rfl) (by kernel_rfl)
theorem Aim:Ent Tryz.prog 67:=.mk' Tryz.func67 (by kernel_rfl) (by kernel_rfl)
theorem Ara:Ent Tryz.prog 68:=.mk' Tryz.func68 (by kernel_rfl) (by kernel_rfl)
theorem ent70:Ent Tryz.prog 70:=.mk' Tryz.func70 (by kernel_rfl) (by kernel_rfl)
theorem ent71:Ent Tryz.prog 71:=.mk' Tryz.func71 (by kernel_rfl) (by kernel_rfl)
theorem W6:Ent Tryz.prog 78:=.mk' Tryz.func78 (by kernel_rfl) (by kernel_rfl)
theorem ent79:Ent Tryz.prog 79:=.mk' Tryz.func79 (by kernel_rfl) (by kernel_rfl)
theorem ent80:Ent Tryz.prog 80:=.mk' Tryz.func80 (by kernel_rfl) (by kernel_rfl)
theorem Arz:Ent Tryz.prog 111:=.mk' Tryz.func111 (by kernel_rfl) (by kernel_rfl)
theorem ent112:Ent Tryz.prog 112:=.mk' Tryz.func112 (by kernel_rfl) (by kernel_rfl)
theorem Ary:Ent Tryz.prog 113:=.mk' Tryz.func113 (by kernel_rfl) (by kernel_rfl)
theorem Arx:Ent Tryz.prog 114:=.mk' Tryz.func114 (by kernel_rfl) (by kernel_rfl)
theorem Uo:Ent Tryz.prog 115:=.mk' Tryz.func115 (by kernel_rfl) (by kernel_rfl)
theorem Qo:Ent Tryz.prog 116:=.mk' Tryz.func116 (by kernel_rfl) (by kernel_rfl)
theorem Un:Ent Tryz.prog 117:=.mk' Tryz.func117 (by kernel_rfl) (by kernel_rfl)
theorem ent118:Ent Tryz.prog 118:=.mk' Tryz.func118 (by kernel_rfl) (by kernel_rfl)
theorem Um:Ent Tryz.prog 119:=.mk' Tryz.func119 (by kernel_rfl) (by kernel_rfl)
theorem Arw:Ent Tryz.prog 120:=.mk' Tryz.func120 (by kernel_rfl) (by kernel_rfl)
theorem Zl:Ent Tryz.prog 121:=.mk' Tryz.func121 (by kernel_rfl) (by kernel_rfl)
theorem ent131:Ent Tryz.prog 131:=.mk' Tryz.func131 (by kernel_rfl) (by kernel_rfl)
theorem Art:Ent Tryz.prog 139:=.mk' Tryz.func139 (by kernel_rfl) (by kernel_rfl)
theorem ent140:Ent Tryz.prog 140:=.mk' Tryz.func140 (by kernel_rfl) (by kernel_rfl)
theorem ent154:Ent Tryz.prog 154:=.mk' Tryz.func154 (by kernel_rfl) (by kernel_rfl)
theorem ent156:Ent Tryz.prog 156:=.mk' Tryz.func156 (by kernel_rfl) (by kernel_rfl)
theorem ent157:Ent Tryz.prog 157:=.mk' Tryz.func157 (by kernel_rfl) (by kernel_rfl)
theorem ent158:Ent Tryz.prog 158:=.mk' Tryz.func158 (by kernel_rfl) (by kernel_rfl)
theorem Zk:Ent Tryz.prog 159:=.mk' Tryz.func159 (by kernel_rfl) (by kernel_rfl)
theorem Aro:Ent Tryz.prog 160:=.mk' Tryz.func160 (by kernel_rfl) (by kernel_rfl)
theorem ent161:Ent Tryz.prog 161:=.mk' Tryz.func161 (by kernel_rfl) (by kernel_rfl)
theorem ent162:Ent Tryz.prog 162:=.mk' Tryz.func162 (by kernel_rfl) (by kernel_rfl)
theorem ent163:Ent Tryz.prog 163:=.mk' Tryz.func163 (by kernel_rfl) (by kernel_rfl)
theorem ent164:Ent Tryz.prog 164:=.mk' Tryz.func164 (by kernel_rfl) (by kernel_rfl)
theorem Arm:Ent Tryz.prog 168:=.mk' Tryz.func168 (by kernel_rfl) (by kernel_rfl)
theorem ent190:Ent Tryz.prog 190:=.mk' Tryz.func190 (by kernel_rfl) (by kernel_rfl)
instance:CT Tryz.prog 2 ti2:=⟨Adr⟩
instance:CT Tryz.prog 49 ti49:=⟨Amp⟩
instance:CT Tryz.prog 51 ti51:=⟨Gb⟩
instance:CT Tryz.prog 52 ti52:=⟨C6⟩
instance:CT Tryz.prog 54 ti54:=⟨Az⟩
instance:CT Tryz.prog 69 ti69:=⟨B9⟩
instance:CT Tryz.prog 81 ti81:=⟨Ll⟩
instance:CT Tryz.prog 204 ti204:=⟨tok204⟩
instance:CT Tryz.prog 205 ti205:=⟨tok205⟩
instance:CT Tryz.prog 207 ti207:=⟨Hw⟩
end Go.Proofs.YtmmhmcplegpenaaGreatDoor
