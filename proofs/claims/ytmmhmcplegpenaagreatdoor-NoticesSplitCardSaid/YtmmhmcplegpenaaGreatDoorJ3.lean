/- The walks, part TD. · The walks, part TE. · The walks, part TH. · The walks, part TI. -/
import Derived.Test.YtmmhmcplegpenaaGreatDoorJ2
set_option linter.unusedSimpArgs false
set_option linter.unusedVariables false
set_option maxRecDepth 10000
namespace Go.Proofs.YtmmhmcplegpenaaGreatDoor.T
open Go Go.Y Go.Proofs
variable {w0 w:World} {G:Aq} {L:List Res}
set_option maxHeartbeats 1600000
theorem G8 (M:Mem w0 G L w) {s:List UInt8} (hs:s.length≤9223372036854775807):Calls Tryz.prog 216 #[.string (str s)] w (Bu w0 G L fun v=>∃ b:Bool,v=.bool b∧(b=true↔Ck s)):=by
 refine Al (vs:=[_]) Tryz.func216 rfl (n:=7) rfl rfl<|?_
 refine wk ?_;refine Am (fun a F=>Ah (cs:=[.int .u8 1,.string (str s),.string (str []),.slice none 0 0,.string (str []),.slice none 0 0]) (ps:=[(0,.int .u8 1),(1,.string (str s))]) Aw.k rfl Aw (F.evp rfl) rfl) rfl<|A4 Are rfl rfl (Ha (x:=(.mk 1 s ([]:List UInt8) [] ([]:List UInt8) []:NT)) M ⟨by show (0:Int)≤1;omega,by show 1≤(255:Int);omega⟩ ⟨by first | exact Nat.zero_le _ | assumption | (simp only [Tr.tag,Tr.key,Tr.text];omega),by first | exact Nat.zero_le _ | assumption | (simp only [Tr.tag,Tr.key,Tr.text];omega),by first | exact Nat.zero_le _ | assumption | (simp only [Tr.tag,Tr.key,Tr.text];omega)⟩ Ag.nil Ag.nil)<|?_;clear M;rintro _ w M rfl
 refine wk ?_;refine Ad rfl rfl<|?_
 exact ⟨M,(decide (Uu ((.mk 1 s ([]:List UInt8) [] ([]:List UInt8) []:NT))=0)),rfl,(decide_eq_true_iff.trans (Qr.trans Abk))⟩
theorem Lk (M:Mem w0 G L w) {s:List UInt8} (hs:s.length≤9223372036854775807):Calls Tryz.prog 214 #[.string (str s)] w (Bu w0 G L fun v=>∃ b:Bool,v=.bool b∧(b=true↔Str s)):=by
 refine Al (vs:=[_]) Tryz.func214 rfl (n:=7) rfl rfl<|?_
 refine wk ?_;refine Am (fun a F=>Ah (cs:=[.int .u8 2,.string (str []),.string (str []),.slice none 0 0,.string (str s),.slice none 0 0]) (ps:=[(0,.int .u8 2),(4,.string (str s))]) Aw.k rfl Aw (F.evp rfl) rfl) rfl<|A4 Are rfl rfl (Ha (x:=(.mk 2 ([]:List UInt8) ([]:List UInt8) [] s []:NT)) M ⟨by show (0:Int)≤2;omega,by show 2≤(255:Int);omega⟩ ⟨by first | exact Nat.zero_le _ | assumption | (simp only [Tr.tag,Tr.key,Tr.text];omega),by first | exact Nat.zero_le _ | assumption | (simp only [Tr.tag,Tr.key,Tr.text];omega),by first | exact Nat.zero_le _ | assumption | (simp only [Tr.tag,Tr.key,Tr.text];omega)⟩ Ag.nil Ag.nil)<|?_;clear M;rintro _ w M rfl
 refine wk ?_;refine Ad rfl rfl<|?_
 exact ⟨M,(decide (Uu ((.mk 2 ([]:List UInt8) ([]:List UInt8) [] s []:NT))=0)),rfl,(decide_eq_true_iff.trans (Qr.trans Zx))⟩
theorem Lj (M:Mem w0 G L w) {ad:Option Addr} {cd:Nat} {xs:List SlotD} (S:Ag rdSlot 3 G (.slice ad xs.length cd) xs) (hxs:xs.length≤9223372036854775807):Calls Tryz.prog 235 #[.slice ad xs.length cd] w (Bu w0 G L fun v=>∃ b:Bool,v=.bool b∧(b=true↔Gx xs)):=by
 refine Al (vs:=[_]) Tryz.func235 rfl (n:=56) rfl rfl<|?_
 refine wk ?_;refine qD rfl ?_ ?_
 ·intro h1;refine wk ?_;refine Ad rfl rfl<|?_
  exact ⟨M,false,rfl,⟨fun h_=>(by cases h_),fun h_=>(by have:=h_.1;omega)⟩⟩
 intro h2;refine wk ?_;refine fun a F=>Ba (fun m a' w'=>∃ (i:Nat),m=xs.length - i∧Fits 56 a' [(0,.slice ad xs.length cd),(8,.slice ad xs.length cd),(9,.int .i64 ((xs.length:Nat):Int)),(10,.int .i64 ((i:Nat):Int))]∧Mem w0 G (L) w'∧(i≤xs.length)∧(Gs xs i)) _ ⟨0,rfl,F.to ⟨rfl,rfl,rfl,rfl,trivial⟩,M,Nat.zero_le _,Gs.zero _⟩ ?_;clear F M;rintro m a w ⟨i,rfl,F,M,hi,hS⟩;revert a;refine wk ?_;refine qD rfl ?_ ?_
 ·intro h3;refine wk ?_;obtain ⟨Xe4,hXe4⟩:=Ap (xs:=xs) (i:=i) (by omega);obtain ⟨be4,oe4,_,Ie4,_,Ae4,⟨rfl,hn1e4,hk1e4,hv1e4⟩⟩:=S.at hXe4;refine wk ?_;refine B1 M Fa rfl rfl<|?_;clear M;intro b5 w M
  refine Ew rfl<|?_
  intro a F;refine Be F M Fa 0 ?_;clear F M a;intro w a M F;revert a;refine Cj<|?_
  refine fun a F=>D5 [(.free,0),(.pure,1),(.keep,2),(.free,3),(.free,4),(.free,5),(.pure,6),(.free,7),(.free,8),(.free,9),(.free,10),(.pure,11),(.keep,12),(.free,13),(.free,14),(.free,15),(.free,16),(.pure,17),(.free,18),(.free,19),(.free,20),(.pure,21),(.free,22),(.free,23),(.free,24),(.free,25),(.free,26),(.free,27),(.free,28),(.free,29),(.pure,30),(.free,31),(.free,32),(.free,33),(.free,34),(.free,35),(.pure,36),(.free,37),(.free,38),(.free,39)] [] (Keep G [.blk b5 [.string (str Xe4.n),.int .u8 Xe4.src,.string (str Xe4.v)] 189]) rfl (by kernel_rfl) (fun c a d v w h=>by cases d <;> exact h) (Ax (M.drew _)) ?_;replace M:=M.drew (w.drawn+1);revert a;refine wk ?_;refine k_k rfl<|A4 Qn rfl rfl (G8 (s:=Xe4.n) M (by omega))<|?_;clear M;rintro _ w M ⟨b7,rfl,hb7⟩
  refine Ao<|?_
  refine eQ (Ax M)<|?_
  refine wk ?_
  rcases bE (!(b7)) with h8b | h9b
  ·skip
   have h8:=Ab h8b;have h8c:(b7)=false:=(Ab h8b);refine wk ?_;refine Ad rfl rfl<|?_
   exact ⟨(M.weaken (cN (sR _))),false,rfl,(by have hu:=J9 hk1e4;have q0:=Fc hXe4;have q9:=@Fm;clear M;unfold D3 at q0;grind)⟩
  have h9:=Ac h9b;have h9c:(b7)=true:=(Ac h9b);refine wk ?_
  rcases bE (decide (3 < Xe4.src)) with h10b | h11b
  ·skip
   have h10:=dT h10b;refine wk ?_;refine Ad rfl rfl<|?_
   exact ⟨(M.weaken (cN (sR _))),false,rfl,(by have hu:=J9 hk1e4;have q0:=Fc hXe4;have q9:=@Fm;clear M;unfold D3 at q0;grind)⟩
  have h11:=dF h11b;refine wk ?_;refine fun a F=>Fj F rfl rfl h11b ?_;revert a;refine g_t rfl h11b<|?_
  refine A4 Afw rfl rfl (Lk (s:=Xe4.v) M (by omega))<|?_;clear M;rintro _ w M ⟨b12,rfl,hb12⟩
  refine Ao<|?_
  refine eQ (Ax M)<|?_
  refine wk ?_
  rcases bE (!(b12)) with h13b | h14b
  ·skip
   have h13:=Ab h13b;have h13c:(b12)=false:=(Ab h13b);refine wk ?_;refine Ad rfl rfl<|?_
   exact ⟨(M.weaken (cN (sR _))),false,rfl,(by have hu:=J9 hk1e4;have q0:=Fc hXe4;have q9:=@Fm;clear M;unfold D3 at q0;grind)⟩
  have h14:=Ac h14b;have h14c:(b12)=true:=(Ac h14b);refine wk ?_
  rcases bE (decide (0 < Xe4.src)) with h15b | h24b
  ·skip
   have h15:=dT h15b;refine wk ?_
   rcases bE (!(decide (Xe4.v=([]:List UInt8)))) with h16b | h17b
   ·skip
    have h16:=dF (Ab h16b);have h16c:(decide (Xe4.v=([]:List UInt8)))=false:=(Ab h16b);refine wk ?_;refine Ad rfl rfl<|?_
    exact ⟨(M.weaken (cN (sR _))),false,rfl,(by have hu:=J9 hk1e4;have q0:=Fc hXe4;have q9:=@Fm;clear M;unfold D3 at q0;grind)⟩
   have h17:=dT (Ac h17b);have h17c:(decide (Xe4.v=([]:List UInt8)))=true:=(Ac h17b);refine wk ?_
   rcases bE (decide (0 < ((i:Nat):Int))) with h18b | h23b
   ·skip
    have h18:=dT h18b;refine wk ?_;have hs19:(((i:Nat):Int) - 1:Int)=((i - 1:Nat):Int):=by omega
    intro a F;rw [hs19] at F;obtain ⟨Xe20,hXe20⟩:=Ap (xs:=xs) (i:=i - 1) (by omega);obtain ⟨be20,oe20,_,Ie20,_,Ae20,⟨rfl,hn1e20,hk1e20,hv1e20⟩⟩:=S.at hXe20;revert a;refine wk ?_;refine Lf rfl h18b (fun a F w _=>Ns (F.ev rfl) (F.ev rfl))<|?_
    refine wk ?_;refine Ae rfl ?_ ?_
    ·intro h21b;have h21:(Op.bytesLess Xe4.n Xe20.n || Xe4.n==Xe20.n)=true:=h21b;refine wk ?_;refine Ad rfl rfl<|?_
     exact ⟨(M.weaken (cN (sR _))),false,rfl,(by have hu:=J9 hk1e4;have q0:=Fc hXe4;have q1:=Ml hXe4 hXe20;have q9:=@Fm;clear M;unfold D3 at q0;grind)⟩
    intro h22b;have h22:(Op.bytesLess Xe4.n Xe20.n || Xe4.n==Xe20.n)=false:=h22b;refine wk ?_;intro a F
    exact ⟨_,by omega,i+1,rfl,F.to ⟨rfl,rfl,rfl,rfl,trivial⟩,(M.weaken (cN (sR _))),by omega,hS.step hXe4 (by have hu:=J9 hk1e4;clear F M;unfold D3;grind) (fun y h_ hy=>by rw [hXe20] at hy;simp only [Option.some.injEq] at hy;subst hy;clear F M;have q99:=@Fm;grind)⟩
   have h23:=dF h23b;refine wk ?_;intro a F
   exact ⟨_,by omega,i+1,rfl,F.to ⟨rfl,rfl,rfl,rfl,trivial⟩,(M.weaken (cN (sR _))),by omega,hS.step hXe4 (by have hu:=J9 hk1e4;clear F M;unfold D3;grind) (fun y h_=>by omega)⟩
  have h24:=dF h24b;refine wk ?_
  rcases bE (decide (0 < ((i:Nat):Int))) with h25b | h30b
  ·skip
   have h25:=dT h25b;refine wk ?_;have hs26:(((i:Nat):Int) - 1:Int)=((i - 1:Nat):Int):=by omega
   intro a F;rw [hs26] at F;obtain ⟨Xe27,hXe27⟩:=Ap (xs:=xs) (i:=i - 1) (by omega);obtain ⟨be27,oe27,_,Ie27,_,Ae27,⟨rfl,hn1e27,hk1e27,hv1e27⟩⟩:=S.at hXe27;revert a;refine wk ?_;refine Lf rfl h25b (fun a F w _=>Ns (F.ev rfl) (F.ev rfl))<|?_
   refine wk ?_;refine Ae rfl ?_ ?_
   ·intro h28b;have h28:(Op.bytesLess Xe4.n Xe27.n || Xe4.n==Xe27.n)=true:=h28b;refine wk ?_;refine Ad rfl rfl<|?_
    exact ⟨(M.weaken (cN (sR _))),false,rfl,(by have hu:=J9 hk1e4;have q0:=Fc hXe4;have q1:=Ml hXe4 hXe27;have q9:=@Fm;clear M;unfold D3 at q0;grind)⟩
   intro h29b;have h29:(Op.bytesLess Xe4.n Xe27.n || Xe4.n==Xe27.n)=false:=h29b;refine wk ?_;intro a F
   exact ⟨_,by omega,i+1,rfl,F.to ⟨rfl,rfl,rfl,rfl,trivial⟩,(M.weaken (cN (sR _))),by omega,hS.step hXe4 (by have hu:=J9 hk1e4;clear F M;unfold D3;grind) (fun y h_ hy=>by rw [hXe27] at hy;simp only [Option.some.injEq] at hy;subst hy;clear F M;have q99:=@Fm;grind)⟩
  have h30:=dF h30b;refine wk ?_;intro a F
  exact ⟨_,by omega,i+1,rfl,F.to ⟨rfl,rfl,rfl,rfl,trivial⟩,(M.weaken (cN (sR _))),by omega,hS.step hXe4 (by have hu:=J9 hk1e4;clear F M;unfold D3;grind) (fun y h_=>by omega)⟩
 intro h31;refine wk ?_;refine Ad rfl rfl<|?_
 exact ⟨M,true,rfl,⟨fun _=>hS.done (by omega) (by omega),fun _=>rfl⟩⟩
theorem Ly (M:Mem w0 G L w) {ad:Option Addr} {cd:Nat} {xs:List SlotD} (S:Ag rdSlot 3 G (.slice ad xs.length cd) xs) (hxs:xs.length≤9223372036854775807):Calls Tryz.prog 234 #[.slice ad xs.length cd] w (Bu w0 G L fun v=>∃ b:Bool,v=.bool b∧(b=true↔Gx xs)):=by
 refine Al (vs:=[_]) Tryz.func234 rfl (n:=58) rfl rfl<|?_
 refine wk ?_;refine qD rfl ?_ ?_
 ·intro h1;refine wk ?_;refine Ad rfl rfl<|?_
  exact ⟨M,false,rfl,⟨fun h_=>(by cases h_),fun h_=>(by have:=h_.1;omega)⟩⟩
 intro h2;refine wk ?_;refine fun a F=>Ba (fun m a' w'=>∃ (i:Nat),m=xs.length - i∧Fits 58 a' [(0,.slice ad xs.length cd),(3,.int .i64 ((i:Nat):Int))]∧Mem w0 G (L) w'∧(i≤xs.length)∧(Gs xs i)) _ ⟨0,rfl,F.to ⟨rfl,rfl,trivial⟩,M,Nat.zero_le _,Gs.zero _⟩ ?_;clear F M;rintro m a w ⟨i,rfl,F,M,hi,hS⟩;revert a;refine wk ?_;refine qD rfl ?_ ?_
 ·intro h3;refine wk ?_;obtain ⟨Xe4,hXe4⟩:=Ap (xs:=xs) (i:=i) (by omega);obtain ⟨be4,oe4,_,Ie4,_,Ae4,⟨rfl,hn1e4,hk1e4,hv1e4⟩⟩:=S.at hXe4;refine wk ?_;refine B1 M Fa rfl rfl<|?_;clear M;intro b5 w M
  intro a F;refine Be F M Fa 0 ?_;clear F M a;intro w a M F;revert a;refine Cj<|?_
  refine fun a F=>D5 [(.free,0),(.pure,1),(.keep,2),(.free,3),(.free,4),(.free,5),(.pure,6),(.free,7),(.free,8),(.free,9),(.free,10),(.pure,11),(.keep,12),(.free,13),(.free,14),(.free,15),(.free,16),(.pure,17),(.free,18),(.free,19),(.free,20),(.pure,21),(.free,22),(.free,23),(.free,24),(.free,25),(.free,26),(.free,27),(.free,28),(.free,29),(.free,30),(.free,31),(.free,32),(.free,33),(.pure,34),(.free,35),(.pure,36),(.free,37),(.free,38),(.free,39)] [] (Keep G [.blk b5 [.string (str Xe4.n),.int .u8 Xe4.src,.string (str Xe4.v)] 189]) rfl (by kernel_rfl) (fun c a d v w h=>by cases d <;> exact h) (Ax (M.drew _)) ?_;replace M:=M.drew (w.drawn+1);revert a;refine wk ?_;refine k_k rfl<|A4 Mb rfl rfl (Dx (s:=Xe4.n) M (by omega))<|?_;clear M;rintro _ w M ⟨b7,rfl,hb7⟩
  refine Ao<|?_
  refine eQ (Ax M)<|?_
  refine wk ?_
  rcases bE (!(b7)) with h8b | h9b
  ·skip
   have h8:=Ab h8b;have h8c:(b7)=false:=(Ab h8b);refine wk ?_;refine Ad rfl rfl<|?_
   exact ⟨(M.weaken (cN (sR _))),false,rfl,(by have hu:=J9 hk1e4;have q0:=Fc hXe4;have q9:=@Fm;clear M;unfold D3 at q0;grind)⟩
  have h9:=Ac h9b;have h9c:(b7)=true:=(Ac h9b);refine wk ?_
  rcases bE (decide (3 < Xe4.src)) with h10b | h11b
  ·skip
   have h10:=dT h10b;refine wk ?_;refine Ad rfl rfl<|?_
   exact ⟨(M.weaken (cN (sR _))),false,rfl,(by have hu:=J9 hk1e4;have q0:=Fc hXe4;have q9:=@Fm;clear M;unfold D3 at q0;grind)⟩
  have h11:=dF h11b;refine wk ?_;refine fun a F=>Fj F rfl rfl h11b ?_;revert a;refine g_t rfl h11b<|?_
  refine A4 Ul rfl rfl (Kk (s:=Xe4.v) M (by omega))<|?_;clear M;rintro _ w M ⟨b12,rfl,hb12⟩
  refine Ao<|?_
  refine eQ (Ax M)<|?_
  refine wk ?_
  rcases bE (!(b12)) with h13b | h14b
  ·skip
   have h13:=Ab h13b;have h13c:(b12)=false:=(Ab h13b);refine wk ?_;refine Ad rfl rfl<|?_
   exact ⟨(M.weaken (cN (sR _))),false,rfl,(by have hu:=J9 hk1e4;have q0:=Fc hXe4;have q9:=@Fm;clear M;unfold D3 at q0;grind)⟩
  have h14:=Ac h14b;have h14c:(b12)=true:=(Ac h14b);refine wk ?_
  rcases bE (!(decide (Xe4.src=0))) with h15b | h24b
  ·skip
   have h15:=dF (Ab h15b);have h15c:(decide (Xe4.src=0))=false:=(Ab h15b);refine wk ?_
   rcases bE (!(decide (Xe4.v=([]:List UInt8)))) with h16b | h17b
   ·skip
    have h16:=dF (Ab h16b);have h16c:(decide (Xe4.v=([]:List UInt8)))=false:=(Ab h16b);refine wk ?_;refine Ad rfl rfl<|?_
    exact ⟨(M.weaken (cN (sR _))),false,rfl,(by have hu:=J9 hk1e4;have q0:=Fc hXe4;have q9:=@Fm;clear M;unfold D3 at q0;grind)⟩
   have h17:=dT (Ac h17b);have h17c:(decide (Xe4.v=([]:List UInt8)))=true:=(Ac h17b);refine wk ?_
   rcases bE (decide (0 < ((i:Nat):Int))) with h18b | h23b
   ·skip
    have h18:=dT h18b;refine wk ?_;have hs19:(((i:Nat):Int) - 1:Int)=((i - 1:Nat):Int):=by omega
    intro a F;rw [hs19] at F;obtain ⟨Xe20,hXe20⟩:=Ap (xs:=xs) (i:=i - 1) (by omega);obtain ⟨be20,oe20,_,Ie20,_,Ae20,⟨rfl,hn1e20,hk1e20,hv1e20⟩⟩:=S.at hXe20;revert a;refine wk ?_;refine Lf rfl h18b (fun a F w _=>Nt (F.ev rfl) (F.ev rfl))<|?_
    refine wk ?_;refine Ae rfl ?_ ?_
    ·intro h21b;have h21:=Ab h21b;have h21c:(Op.bytesLess Xe20.n Xe4.n)=false:=(Ab h21b);refine wk ?_;refine Ad rfl rfl<|?_
     exact ⟨(M.weaken (cN (sR _))),false,rfl,(by have hu:=J9 hk1e4;have q0:=Fc hXe4;have q1:=Ml hXe4 hXe20;have q9:=@Fm;clear M;unfold D3 at q0;grind)⟩
    intro h22b;have h22:=Ac h22b;have h22c:(Op.bytesLess Xe20.n Xe4.n)=true:=(Ac h22b);refine wk ?_;intro a F
    exact ⟨_,by omega,i+1,rfl,F.to ⟨rfl,rfl,trivial⟩,(M.weaken (cN (sR _))),by omega,hS.step hXe4 (by have hu:=J9 hk1e4;clear F M;unfold D3;grind) (fun y h_ hy=>by rw [hXe20] at hy;simp only [Option.some.injEq] at hy;subst hy;clear F M;have q99:=@Fm;grind)⟩
   have h23:=dF h23b;refine wk ?_;intro a F
   exact ⟨_,by omega,i+1,rfl,F.to ⟨rfl,rfl,trivial⟩,(M.weaken (cN (sR _))),by omega,hS.step hXe4 (by have hu:=J9 hk1e4;clear F M;unfold D3;grind) (fun y h_=>by omega)⟩
  have h24:=dT (Ac h24b);have h24c:(decide (Xe4.src=0))=true:=(Ac h24b);refine wk ?_
  rcases bE (decide (0 < ((i:Nat):Int))) with h25b | h30b
  ·skip
   have h25:=dT h25b;refine wk ?_;have hs26:(((i:Nat):Int) - 1:Int)=((i - 1:Nat):Int):=by omega
   intro a F;rw [hs26] at F;obtain ⟨Xe27,hXe27⟩:=Ap (xs:=xs) (i:=i - 1) (by omega);obtain ⟨be27,oe27,_,Ie27,_,Ae27,⟨rfl,hn1e27,hk1e27,hv1e27⟩⟩:=S.at hXe27;revert a;refine wk ?_;refine Lf rfl h25b (fun a F w _=>Nt (F.ev rfl) (F.ev rfl))<|?_
   refine wk ?_;refine Ae rfl ?_ ?_
   ·intro h28b;have h28:=Ab h28b;have h28c:(Op.bytesLess Xe27.n Xe4.n)=false:=(Ab h28b);refine wk ?_;refine Ad rfl rfl<|?_
    exact ⟨(M.weaken (cN (sR _))),false,rfl,(by have hu:=J9 hk1e4;have q0:=Fc hXe4;have q1:=Ml hXe4 hXe27;have q9:=@Fm;clear M;unfold D3 at q0;grind)⟩
   intro h29b;have h29:=Ac h29b;have h29c:(Op.bytesLess Xe27.n Xe4.n)=true:=(Ac h29b);refine wk ?_;intro a F
   exact ⟨_,by omega,i+1,rfl,F.to ⟨rfl,rfl,trivial⟩,(M.weaken (cN (sR _))),by omega,hS.step hXe4 (by have hu:=J9 hk1e4;clear F M;unfold D3;grind) (fun y h_ hy=>by rw [hXe27] at hy;simp only [Option.some.injEq] at hy;subst hy;clear F M;have q99:=@Fm;grind)⟩
  have h30:=dF h30b;refine wk ?_;intro a F
  exact ⟨_,by omega,i+1,rfl,F.to ⟨rfl,rfl,trivial⟩,(M.weaken (cN (sR _))),by omega,hS.step hXe4 (by have hu:=J9 hk1e4;clear F M;unfold D3;grind) (fun y h_=>by omega)⟩
 intro h31;refine wk ?_;refine Ad rfl rfl<|?_
 exact ⟨M,true,rfl,⟨fun _=>hS.done (by omega) (by omega),fun _=>rfl⟩⟩
theorem Z6 (M:Mem w0 G L w) {rk:Rd PT} {x:PT} {ta:Option Addr} {tc:Nat} {ka:Option Addr} {kc:Nat} (hk:Au .u8 x.kind) (hl:(x.tag.length≤9223372036854775807∧x.key.length≤9223372036854775807∧x.text.length≤9223372036854775807)) (SA:Ag rdSlot 3 G (.slice ta x.as.length tc) x.as) (SK:Ag rk 6 G (.slice ka x.kids.length kc) x.kids) {nb no:Nat} (A:At G nb no [.int .u8 x.kind,.string (str x.tag),.string (str x.key),.slice ta x.as.length tc,.string (str x.text),.slice ka x.kids.length kc]):Calls Tryz.prog 228 #[.pointer (some ⟨nb,no,none⟩)] w (Bu w0 G L fun v=>∃ bb:Bool,v=.bool bb∧(bb=true↔Bc x)):=by
 refine Al (vs:=[_]) Tryz.func228 rfl (n:=91) rfl rfl<|?_
 refine wk ?_;refine B1 M Du rfl rfl<|?_;clear M;intro b1 w M
 intro a F;refine Be F M Du 0 ?_;clear F M a;intro w a M F;replace M:=z_M M;revert a;refine wk ?_;refine qD rfl ?_ ?_
 ·intro h3;refine wk ?_
  rcases bE (!(decide (x.key=([]:List UInt8)))) with h4b | h18b
  ·skip
   have h4:=dF (Ab h4b);have h4c:(decide (x.key=([]:List UInt8)))=false:=(Ab h4b);refine wk ?_;refine A4 Qn rfl rfl (G8 (s:=x.key) M (by omega))<|?_;clear M;rintro _ w M ⟨b5,rfl,hb5⟩
   refine wk ?_
   rcases bE (!(b5)) with h6b | h7b
   ·skip
    have h6:=Ab h6b;have h6c:(b5)=false:=(Ab h6b);refine wk ?_;refine Ad rfl rfl<|?_
    exact ⟨(M.weaken (cN (sR _))),false,rfl,(by clear M;unfold Bc;grind)⟩
   have h7:=Ac h7b;have h7c:(b5)=true:=(Ac h7b);refine wk ?_;refine qD rfl ?_ ?_
   ·intro h8;refine wk ?_;refine Ad rfl rfl<|?_
    exact ⟨(M.weaken (cN (sR _))),false,rfl,(by clear M;unfold Bc;grind)⟩
   intro h9;refine wk ?_;refine Dv Ej M 0 rfl rfl rfl rfl rfl rfl<|?_;clear M;intro w M
   refine wk ?_;refine Dv Qz M 0 rfl rfl rfl rfl rfl rfl<|?_;clear M;intro w M
   refine wk ?_;refine A4 Qn rfl rfl (G8 (s:=x.tag) M (by omega))<|?_;clear M;rintro _ w M ⟨b10,rfl,hb10⟩
   refine wk ?_
   rcases bE (!(b10)) with h11b | h12b
   ·skip
    have h11:=Ab h11b;have h11c:(b10)=false:=(Ab h11b);refine wk ?_;refine Ad rfl rfl<|?_
    exact ⟨(M.weaken (cN (sR _))),false,rfl,(by clear M;unfold Bc;grind)⟩
   have h12:=Ac h12b;have h12c:(b10)=true:=(Ac h12b);refine wk ?_;refine A4 Aft rfl rfl (Lj (xs:=x.as) M SA (by have:=SA.bound;omega))<|?_;clear M;rintro _ w M ⟨b13,rfl,hb13⟩
   refine wk ?_;refine Ae rfl ?_ ?_
   ·intro h14b;have h14:=Ab h14b;have h14c:(b13)=false:=(Ab h14b);refine wk ?_;refine Ad rfl rfl<|?_
    exact ⟨(M.weaken (cN (sR _))),false,rfl,(by clear M;unfold Bc;grind)⟩
   intro h15b;have h15:=Ac h15b;have h15c:(b13)=true:=(Ac h15b);refine wk ?_;refine Dv Ej M 0 rfl rfl rfl rfl rfl rfl<|?_;clear M;intro w M
   refine wk ?_;refine Dv Oj M 0 rfl rfl rfl rfl rfl rfl<|?_;clear M;intro w M
   refine wk ?_
   rcases bE (decide (x.text=([]:List UInt8))) with h16b | h17b
   ·skip
    have h16:=dT h16b;refine wk ?_;refine Ad rfl rfl<|?_
    exact ⟨(M.weaken (cN (sR _))),(decide (((0:Nat):Int)=0)),rfl,(by clear M;unfold Bc;grind)⟩
   have h17:=dF h17b;refine wk ?_;refine Ad rfl rfl<|?_
   exact ⟨(M.weaken (cN (sR _))),false,rfl,(by clear M;unfold Bc;grind)⟩
  have h18:=dT (Ac h18b);have h18c:(decide (x.key=([]:List UInt8)))=true:=(Ac h18b);refine wk ?_;refine qD rfl ?_ ?_
  ·intro h19;refine wk ?_;refine Ad rfl rfl<|?_
   exact ⟨(M.weaken (cN (sR _))),false,rfl,(by clear M;unfold Bc;grind)⟩
  intro h20;refine wk ?_;refine Dv Ej M 0 rfl rfl rfl rfl rfl rfl<|?_;clear M;intro w M
  refine wk ?_;refine Dv Qz M 0 rfl rfl rfl rfl rfl rfl<|?_;clear M;intro w M
  refine wk ?_;refine A4 Qn rfl rfl (G8 (s:=x.tag) M (by omega))<|?_;clear M;rintro _ w M ⟨b21,rfl,hb21⟩
  refine wk ?_
  rcases bE (!(b21)) with h22b | h23b
  ·skip
   have h22:=Ab h22b;have h22c:(b21)=false:=(Ab h22b);refine wk ?_;refine Ad rfl rfl<|?_
   exact ⟨(M.weaken (cN (sR _))),false,rfl,(by clear M;unfold Bc;grind)⟩
  have h23:=Ac h23b;have h23c:(b21)=true:=(Ac h23b);refine wk ?_;refine A4 Aft rfl rfl (Lj (xs:=x.as) M SA (by have:=SA.bound;omega))<|?_;clear M;rintro _ w M ⟨b24,rfl,hb24⟩
  refine wk ?_;refine Ae rfl ?_ ?_
  ·intro h25b;have h25:=Ab h25b;have h25c:(b24)=false:=(Ab h25b);refine wk ?_;refine Ad rfl rfl<|?_
   exact ⟨(M.weaken (cN (sR _))),false,rfl,(by clear M;unfold Bc;grind)⟩
  intro h26b;have h26:=Ac h26b;have h26c:(b24)=true:=(Ac h26b);refine wk ?_;refine Dv Ej M 0 rfl rfl rfl rfl rfl rfl<|?_;clear M;intro w M
  refine wk ?_;refine Dv Oj M 0 rfl rfl rfl rfl rfl rfl<|?_;clear M;intro w M
  refine wk ?_
  rcases bE (decide (x.text=([]:List UInt8))) with h27b | h28b
  ·skip
   have h27:=dT h27b;refine wk ?_;refine Ad rfl rfl<|?_
   exact ⟨(M.weaken (cN (sR _))),(decide (((0:Nat):Int)=0)),rfl,(by clear M;unfold Bc;grind)⟩
  have h28:=dF h28b;refine wk ?_;refine Ad rfl rfl<|?_
  exact ⟨(M.weaken (cN (sR _))),false,rfl,(by clear M;unfold Bc;grind)⟩
 intro h29;refine wk ?_;refine qD rfl ?_ ?_
 ·intro h30;refine wk ?_;refine A4 Qn rfl rfl (G8 (s:=x.tag) M (by omega))<|?_;clear M;rintro _ w M ⟨b31,rfl,hb31⟩
  refine wk ?_
  rcases bE (!(b31)) with h32b | h33b
  ·skip
   have h32:=Ab h32b;have h32c:(b31)=false:=(Ab h32b);refine wk ?_;refine Ad rfl rfl<|?_
   exact ⟨(M.weaken (cN (sR _))),false,rfl,(by clear M;unfold Bc;grind)⟩
  have h33:=Ac h33b;have h33c:(b31)=true:=(Ac h33b);refine wk ?_;refine A4 Aft rfl rfl (Lj (xs:=x.as) M SA (by have:=SA.bound;omega))<|?_;clear M;rintro _ w M ⟨b34,rfl,hb34⟩
  refine wk ?_;refine Ae rfl ?_ ?_
  ·intro h35b;have h35:=Ab h35b;have h35c:(b34)=false:=(Ab h35b);refine wk ?_;refine Ad rfl rfl<|?_
   exact ⟨(M.weaken (cN (sR _))),false,rfl,(by clear M;unfold Bc;grind)⟩
  intro h36b;have h36:=Ac h36b;have h36c:(b34)=true:=(Ac h36b);refine wk ?_;refine Dv Ej M 0 rfl rfl rfl rfl rfl rfl<|?_;clear M;intro w M
  refine wk ?_;refine Dv Oj M 0 rfl rfl rfl rfl rfl rfl<|?_;clear M;intro w M
  refine wk ?_
  rcases bE (decide (x.key=([]:List UInt8))) with h37b | h40b
  ·skip
   have h37:=dT h37b;refine wk ?_
   rcases bE (decide (x.text=([]:List UInt8))) with h38b | h39b
   ·skip
    have h38:=dT h38b;refine wk ?_;refine Ad rfl rfl<|?_
    exact ⟨(M.weaken (cN (sR _))),(decide (((x.kids.length:Nat):Int)=0)),rfl,(by clear M;unfold Bc;grind)⟩
   have h39:=dF h39b;refine wk ?_;refine Ad rfl rfl<|?_
   exact ⟨(M.weaken (cN (sR _))),false,rfl,(by clear M;unfold Bc;grind)⟩
  have h40:=dF h40b;refine wk ?_;refine Ad rfl rfl<|?_
  exact ⟨(M.weaken (cN (sR _))),false,rfl,(by clear M;unfold Bc;grind)⟩
 intro h41;refine wk ?_;refine qD rfl ?_ ?_
 ·intro h42;refine wk ?_;refine A4 Afw rfl rfl (Lk (s:=x.text) M (by omega))<|?_;clear M;rintro _ w M ⟨b43,rfl,hb43⟩
  refine wk ?_;refine Ae rfl ?_ ?_
  ·intro h44b;have h44:=Ab h44b;have h44c:(b43)=false:=(Ab h44b);refine wk ?_;refine Ad rfl rfl<|?_
   exact ⟨(M.weaken (cN (sR _))),false,rfl,(by clear M;unfold Bc;grind)⟩
  intro h45b;have h45:=Ac h45b;have h45c:(b43)=true:=(Ac h45b);refine wk ?_;refine Dv Ej M 0 rfl rfl rfl rfl rfl rfl<|?_;clear M;intro w M
  refine wk ?_
  rcases bE (decide (x.tag=([]:List UInt8))) with h46b | h51b
  ·skip
   have h46:=dT h46b;refine wk ?_
   rcases bE (decide (x.key=([]:List UInt8))) with h47b | h50b
   ·skip
    have h47:=dT h47b;refine wk ?_
    rcases bE (decide (((x.as.length:Nat):Int)=0)) with h48b | h49b
    ·skip
     have h48:=dT h48b;refine wk ?_;refine Ad rfl rfl<|?_
     exact ⟨(M.weaken (cN (sR _))),(decide (((x.kids.length:Nat):Int)=0)),rfl,(by clear M;unfold Bc;grind)⟩
    have h49:=dF h49b;refine wk ?_;refine Ad rfl rfl<|?_
    exact ⟨(M.weaken (cN (sR _))),false,rfl,(by clear M;unfold Bc;grind)⟩
   have h50:=dF h50b;refine wk ?_;refine Ad rfl rfl<|?_
   exact ⟨(M.weaken (cN (sR _))),false,rfl,(by clear M;unfold Bc;grind)⟩
  have h51:=dF h51b;refine wk ?_;refine Ad rfl rfl<|?_
  exact ⟨(M.weaken (cN (sR _))),false,rfl,(by clear M;unfold Bc;grind)⟩
 intro h52;refine wk ?_;refine qD rfl ?_ ?_
 ·intro h53;refine wk ?_
  rcases bE (decide (x.tag=([]:List UInt8))) with h54b | h61b
  ·skip
   have h54:=dT h54b;refine wk ?_
   rcases bE (decide (x.key=([]:List UInt8))) with h55b | h60b
   ·skip
    have h55:=dT h55b;refine wk ?_
    rcases bE (decide (x.text=([]:List UInt8))) with h56b | h59b
    ·skip
     have h56:=dT h56b;refine wk ?_
     rcases bE (decide (((x.as.length:Nat):Int)=0)) with h57b | h58b
     ·skip
      have h57:=dT h57b;refine wk ?_;refine Ad rfl rfl<|?_
      exact ⟨(M.weaken (cN (sR _))),(decide (((x.kids.length:Nat):Int)=0)),rfl,(by clear M;unfold Bc;grind)⟩
     have h58:=dF h58b;refine wk ?_;refine Ad rfl rfl<|?_
     exact ⟨(M.weaken (cN (sR _))),false,rfl,(by clear M;unfold Bc;grind)⟩
    have h59:=dF h59b;refine wk ?_;refine Ad rfl rfl<|?_
    exact ⟨(M.weaken (cN (sR _))),false,rfl,(by clear M;unfold Bc;grind)⟩
   have h60:=dF h60b;refine wk ?_;refine Ad rfl rfl<|?_
   exact ⟨(M.weaken (cN (sR _))),false,rfl,(by clear M;unfold Bc;grind)⟩
  have h61:=dF h61b;refine wk ?_;refine Ad rfl rfl<|?_
  exact ⟨(M.weaken (cN (sR _))),false,rfl,(by clear M;unfold Bc;grind)⟩
 intro h62;refine wk ?_;refine qD rfl ?_ ?_
 ·intro h63;refine wk ?_
  rcases bE (decide (x.tag=([]:List UInt8))) with h64b | h71b
  ·skip
   have h64:=dT h64b;refine wk ?_
   rcases bE (decide (x.key=([]:List UInt8))) with h65b | h70b
   ·skip
    have h65:=dT h65b;refine wk ?_
    rcases bE (decide (x.text=([]:List UInt8))) with h66b | h69b
    ·skip
     have h66:=dT h66b;refine wk ?_
     rcases bE (decide (((x.as.length:Nat):Int)=0)) with h67b | h68b
     ·skip
      have h67:=dT h67b;refine wk ?_;refine Ad rfl rfl<|?_
      exact ⟨(M.weaken (cN (sR _))),(decide (((x.kids.length:Nat):Int)=0)),rfl,(by clear M;unfold Bc;grind)⟩
     have h68:=dF h68b;refine wk ?_;refine Ad rfl rfl<|?_
     exact ⟨(M.weaken (cN (sR _))),false,rfl,(by clear M;unfold Bc;grind)⟩
    have h69:=dF h69b;refine wk ?_;refine Ad rfl rfl<|?_
    exact ⟨(M.weaken (cN (sR _))),false,rfl,(by clear M;unfold Bc;grind)⟩
   have h70:=dF h70b;refine wk ?_;refine Ad rfl rfl<|?_
   exact ⟨(M.weaken (cN (sR _))),false,rfl,(by clear M;unfold Bc;grind)⟩
  have h71:=dF h71b;refine wk ?_;refine Ad rfl rfl<|?_
  exact ⟨(M.weaken (cN (sR _))),false,rfl,(by clear M;unfold Bc;grind)⟩
 intro h72;refine wk ?_;refine Ad rfl rfl<|?_
 exact ⟨(M.weaken (cN (sR _))),false,rfl,(by clear M;unfold Bc;grind)⟩
theorem Aen (M:Mem w0 G L w) {x:PT} {ta:Option Addr} {tc:Nat} {ka:Option Addr} {kc:Nat} (hk:Au .u8 x.kind) (hl:(x.tag.length≤9223372036854775807∧x.key.length≤9223372036854775807∧x.text.length≤9223372036854775807)) (SA:Ag rdSlot 3 G (.slice ta x.as.length tc) x.as) (SK:Ag rdP 6 G (.slice ka x.kids.length kc) x.kids):Calls Tryz.prog 221 #[.agg #[.int .u8 x.kind,.string (str x.tag),.string (str x.key),.slice ta x.as.length tc,.string (str x.text),.slice ka x.kids.length kc]] w (Bu w0 G L fun v=>∃ bb:Bool,v=.bool bb∧(bb=true↔Bc x)):=by
 have bA:=SA.bound;have bK:=SK.bound;refine Al (vs:=[_]) Tryz.func221 rfl (n:=113) rfl rfl<|?_
 refine Bt<|?_
 refine B2 M rfl rfl rfl<|?_;clear M;intro b1 w M
 refine wk ?_;refine qD rfl ?_ ?_
 ·intro h2;refine wk ?_;refine A4 Mb rfl rfl (Dx (s:=x.tag) M (by omega))<|?_;clear M;rintro _ w M ⟨b3,rfl,hb3⟩
  refine C0 rfl<|?_
  rcases bE (b3) with h4b | h20b
  ·skip
   have h4:(b3)=true:=h4b;refine wk ?_
   rcases bE (decide (x.key=([]:List UInt8))) with h5b | h11b
   ·skip
    have h5:=dT h5b;refine wk ?_;refine A4 Afu rfl rfl (Ly (xs:=x.as) M SA (by have:=SA.bound;omega))<|?_;clear M;rintro _ w M ⟨b6,rfl,hb6⟩
    refine wk ?_
    rcases bE (b6) with h7b | h10b
    ·skip
     have h7:(b6)=true:=h7b;refine wk ?_
     rcases bE (decide (x.text=([]:List UInt8))) with h8b | h9b
     ·skip
      have h8:=dT h8b;refine wk ?_;refine Ad rfl rfl<|?_
      exact ⟨(M.weaken (cN (sR _))),(decide (((x.kids.length:Nat):Int)≤16)),rfl,(by have q0:=@Cp x.as.length x.kids.length (by omega) (by omega);clear M;unfold Bc;grind)⟩
     have h9:=dF h9b;refine wk ?_;refine Ad rfl rfl<|?_
     exact ⟨(M.weaken (cN (sR _))),false,rfl,(by have q0:=@Cp x.as.length x.kids.length (by omega) (by omega);clear M;unfold Bc;grind)⟩
    have h10:(b6)=false:=h10b;refine g_f rfl h10b<|g_f rfl h10b<|g_f rfl h10b<|Hj rfl h10b rfl<|C0 rfl<|g_f rfl rfl<|g_f rfl rfl<|g_f rfl rfl<|g_f rfl rfl<|Hj rfl rfl rfl<|Ew rfl<|E9<|Kd<|Gr<|?_
    refine Ad rfl rfl<|?_
    exact ⟨(M.weaken (cN (sR _))),false,rfl,(by have q0:=@Cp x.as.length x.kids.length (by omega) (by omega);clear M;unfold Bc;grind)⟩
   have h11:=dF h11b;refine wk ?_;refine A4 Mb rfl rfl (Dx (s:=x.key) M (by omega))<|?_;clear M;rintro _ w M ⟨b12,rfl,hb12⟩
   refine wk ?_
   rcases bE (b12) with h13b | h19b
   ·skip
    have h13:(b12)=true:=h13b;refine wk ?_;refine A4 Afu rfl rfl (Ly (xs:=x.as) M SA (by have:=SA.bound;omega))<|?_;clear M;rintro _ w M ⟨b14,rfl,hb14⟩
    refine wk ?_
    rcases bE (b14) with h15b | h18b
    ·skip
     have h15:(b14)=true:=h15b;refine wk ?_
     rcases bE (decide (x.text=([]:List UInt8))) with h16b | h17b
     ·skip
      have h16:=dT h16b;refine wk ?_;refine Ad rfl rfl<|?_
      exact ⟨(M.weaken (cN (sR _))),(decide (((x.kids.length:Nat):Int)≤16)),rfl,(by have q0:=@Cp x.as.length x.kids.length (by omega) (by omega);clear M;unfold Bc;grind)⟩
     have h17:=dF h17b;refine wk ?_;refine Ad rfl rfl<|?_
     exact ⟨(M.weaken (cN (sR _))),false,rfl,(by have q0:=@Cp x.as.length x.kids.length (by omega) (by omega);clear M;unfold Bc;grind)⟩
    have h18:(b14)=false:=h18b;refine g_f rfl h18b<|g_f rfl h18b<|g_f rfl h18b<|Hj rfl h18b rfl<|C0 rfl<|g_f rfl rfl<|g_f rfl rfl<|g_f rfl rfl<|g_f rfl rfl<|Hj rfl rfl rfl<|Ew rfl<|E9<|Kd<|Gr<|?_
    refine Ad rfl rfl<|?_
    exact ⟨(M.weaken (cN (sR _))),false,rfl,(by have q0:=@Cp x.as.length x.kids.length (by omega) (by omega);clear M;unfold Bc;grind)⟩
   have h19:(b12)=false:=h19b;refine g_f rfl h19b<|g_f rfl h19b<|g_f rfl h19b<|Hj rfl h19b rfl<|C0 rfl<|g_f rfl rfl<|g_f rfl rfl<|g_f rfl rfl<|Hj rfl rfl rfl<|C0 rfl<|g_f rfl rfl<|g_f rfl rfl<|g_f rfl rfl<|g_f rfl rfl<|Hj rfl rfl rfl<|Ew rfl<|E9<|Kd<|Gr<|?_
   refine Ad rfl rfl<|?_
   exact ⟨(M.weaken (cN (sR _))),false,rfl,(by have q0:=@Cp x.as.length x.kids.length (by omega) (by omega);clear M;unfold Bc;grind)⟩
  have h20:(b3)=false:=h20b;refine g_f rfl h20b<|g_f rfl h20b<|g_f rfl h20b<|g_f rfl h20b<|g_u rfl<|g_u rfl<|g_u rfl<|g_f rfl h20b<|Hj rfl h20b rfl<|C0 rfl<|g_f rfl rfl<|g_f rfl rfl<|g_f rfl rfl<|Hj rfl rfl rfl<|C0 rfl<|g_f rfl rfl<|g_f rfl rfl<|g_f rfl rfl<|Hj rfl rfl rfl<|C0 rfl<|g_f rfl rfl<|g_f rfl rfl<|g_f rfl rfl<|g_f rfl rfl<|Hj rfl rfl rfl<|Ew rfl<|E9<|Kd<|Gr<|?_
  refine Ad rfl rfl<|?_
  exact ⟨(M.weaken (cN (sR _))),false,rfl,(by have q0:=@Cp x.as.length x.kids.length (by omega) (by omega);clear M;unfold Bc;grind)⟩
 intro h21;refine wk ?_;refine qD rfl ?_ ?_
 ·intro h22;refine wk ?_;refine A4 Ul rfl rfl (Kk (s:=x.text) M (by omega))<|?_;clear M;rintro _ w M ⟨b23,rfl,hb23⟩
  refine C0 rfl<|?_
  rcases bE (b23) with h24b | h29b
  ·skip
   have h24:(b23)=true:=h24b;refine wk ?_
   rcases bE (decide (x.tag=([]:List UInt8))) with h25b | h28b
   ·skip
    have h25:=dT h25b;refine wk ?_
    rcases bE (decide (x.key=([]:List UInt8))) with h26b | h27b
    ·skip
     have h26:=dT h26b;refine wk ?_;refine Am (fun a F=>Mm (F.ev rfl) (F.ev rfl)) rfl<|?_
     refine wk ?_;refine Ad rfl rfl<|?_
     exact ⟨(M.weaken (cN (sR _))),(decide (IntKind.i64.wrap (((x.as.length:Nat):Int)+((x.kids.length:Nat):Int))=0)),rfl,(by have q0:=@Cp x.as.length x.kids.length (by omega) (by omega);clear M;unfold Bc;grind)⟩
    have h27:=dF h27b;refine wk ?_;refine Ad rfl rfl<|?_
    exact ⟨(M.weaken (cN (sR _))),false,rfl,(by have q0:=@Cp x.as.length x.kids.length (by omega) (by omega);clear M;unfold Bc;grind)⟩
   have h28:=dF h28b;refine wk ?_;refine Ad rfl rfl<|?_
   exact ⟨(M.weaken (cN (sR _))),false,rfl,(by have q0:=@Cp x.as.length x.kids.length (by omega) (by omega);clear M;unfold Bc;grind)⟩
  have h29:(b23)=false:=h29b;refine g_f rfl h29b<|g_f rfl h29b<|g_f rfl h29b<|Hj rfl h29b rfl<|C0 rfl<|g_f rfl rfl<|g_f rfl rfl<|g_f rfl rfl<|Hj rfl rfl rfl<|C0 rfl<|g_f rfl rfl<|g_f rfl rfl<|g_f rfl rfl<|g_f rfl rfl<|g_f rfl rfl<|g_f rfl rfl<|g_f rfl rfl<|g_f rfl rfl<|Hj rfl rfl rfl<|Ew rfl<|E9<|Kd<|Gr<|?_
  refine Ad rfl rfl<|?_
  exact ⟨(M.weaken (cN (sR _))),false,rfl,(by have q0:=@Cp x.as.length x.kids.length (by omega) (by omega);clear M;unfold Bc;grind)⟩
 intro h30;refine wk ?_;refine qD rfl ?_ ?_
 ·intro h31;refine wk ?_
  rcases bE (decide (x.text=([]:List UInt8))) with h32b | h37b
  ·skip
   have h32:=dT h32b;refine wk ?_
   rcases bE (decide (x.tag=([]:List UInt8))) with h33b | h36b
   ·skip
    have h33:=dT h33b;refine wk ?_
    rcases bE (decide (x.key=([]:List UInt8))) with h34b | h35b
    ·skip
     have h34:=dT h34b;refine wk ?_;refine Am (fun a F=>Mm (F.ev rfl) (F.ev rfl)) rfl<|?_
     refine wk ?_;refine Ad rfl rfl<|?_
     exact ⟨(M.weaken (cN (sR _))),(decide (IntKind.i64.wrap (((x.as.length:Nat):Int)+((x.kids.length:Nat):Int))=0)),rfl,(by have q0:=@Cp x.as.length x.kids.length (by omega) (by omega);clear M;unfold Bc;grind)⟩
    have h35:=dF h35b;refine wk ?_;refine Ad rfl rfl<|?_
    exact ⟨(M.weaken (cN (sR _))),false,rfl,(by have q0:=@Cp x.as.length x.kids.length (by omega) (by omega);clear M;unfold Bc;grind)⟩
   have h36:=dF h36b;refine wk ?_;refine Ad rfl rfl<|?_
   exact ⟨(M.weaken (cN (sR _))),false,rfl,(by have q0:=@Cp x.as.length x.kids.length (by omega) (by omega);clear M;unfold Bc;grind)⟩
  have h37:=dF h37b;refine wk ?_;refine Ad rfl rfl<|?_
  exact ⟨(M.weaken (cN (sR _))),false,rfl,(by have q0:=@Cp x.as.length x.kids.length (by omega) (by omega);clear M;unfold Bc;grind)⟩
 intro h38;refine wk ?_;refine qD rfl ?_ ?_
 ·intro h39;refine wk ?_
  rcases bE (decide (x.text=([]:List UInt8))) with h40b | h45b
  ·skip
   have h40:=dT h40b;refine wk ?_
   rcases bE (decide (x.tag=([]:List UInt8))) with h41b | h44b
   ·skip
    have h41:=dT h41b;refine wk ?_
    rcases bE (decide (x.key=([]:List UInt8))) with h42b | h43b
    ·skip
     have h42:=dT h42b;refine wk ?_;refine Am (fun a F=>Mm (F.ev rfl) (F.ev rfl)) rfl<|?_
     refine wk ?_;refine Ad rfl rfl<|?_
     exact ⟨(M.weaken (cN (sR _))),(decide (IntKind.i64.wrap (((x.as.length:Nat):Int)+((x.kids.length:Nat):Int))=0)),rfl,(by have q0:=@Cp x.as.length x.kids.length (by omega) (by omega);clear M;unfold Bc;grind)⟩
    have h43:=dF h43b;refine wk ?_;refine Ad rfl rfl<|?_
    exact ⟨(M.weaken (cN (sR _))),false,rfl,(by have q0:=@Cp x.as.length x.kids.length (by omega) (by omega);clear M;unfold Bc;grind)⟩
   have h44:=dF h44b;refine wk ?_;refine Ad rfl rfl<|?_
   exact ⟨(M.weaken (cN (sR _))),false,rfl,(by have q0:=@Cp x.as.length x.kids.length (by omega) (by omega);clear M;unfold Bc;grind)⟩
  have h45:=dF h45b;refine wk ?_;refine Ad rfl rfl<|?_
  exact ⟨(M.weaken (cN (sR _))),false,rfl,(by have q0:=@Cp x.as.length x.kids.length (by omega) (by omega);clear M;unfold Bc;grind)⟩
 intro h46;refine wk ?_;refine qD rfl ?_ ?_
 ·intro h47;refine wk ?_;refine A4 Mb rfl rfl (Dx (s:=x.tag) M (by omega))<|?_;clear M;rintro _ w M ⟨b48,rfl,hb48⟩
  refine C0 rfl<|?_
  rcases bE (b48) with h49b | h57b
  ·skip
   have h49:(b48)=true:=h49b;refine wk ?_;refine A4 Afu rfl rfl (Ly (xs:=x.as) M SA (by have:=SA.bound;omega))<|?_;clear M;rintro _ w M ⟨b50,rfl,hb50⟩
   refine wk ?_
   rcases bE (b50) with h51b | h56b
   ·skip
    have h51:(b50)=true:=h51b;refine wk ?_
    rcases bE (decide (x.key=([]:List UInt8))) with h52b | h55b
    ·skip
     have h52:=dT h52b;refine wk ?_
     rcases bE (decide (x.text=([]:List UInt8))) with h53b | h54b
     ·skip
      have h53:=dT h53b;refine wk ?_;refine Ad rfl rfl<|?_
      exact ⟨(M.weaken (cN (sR _))),(decide (((x.kids.length:Nat):Int)=0)),rfl,(by have q0:=@Cp x.as.length x.kids.length (by omega) (by omega);clear M;unfold Bc;grind)⟩
     have h54:=dF h54b;refine wk ?_;refine Ad rfl rfl<|?_
     exact ⟨(M.weaken (cN (sR _))),false,rfl,(by have q0:=@Cp x.as.length x.kids.length (by omega) (by omega);clear M;unfold Bc;grind)⟩
    have h55:=dF h55b;refine wk ?_;refine Ad rfl rfl<|?_
    exact ⟨(M.weaken (cN (sR _))),false,rfl,(by have q0:=@Cp x.as.length x.kids.length (by omega) (by omega);clear M;unfold Bc;grind)⟩
   have h56:(b50)=false:=h56b;refine g_f rfl h56b<|g_f rfl h56b<|g_f rfl h56b<|Hj rfl h56b rfl<|C0 rfl<|g_f rfl rfl<|g_f rfl rfl<|g_f rfl rfl<|Hj rfl rfl rfl<|C0 rfl<|g_f rfl rfl<|g_f rfl rfl<|g_f rfl rfl<|g_f rfl rfl<|Hj rfl rfl rfl<|Ew rfl<|E9<|Kd<|Gr<|?_
   refine Ad rfl rfl<|?_
   exact ⟨(M.weaken (cN (sR _))),false,rfl,(by have q0:=@Cp x.as.length x.kids.length (by omega) (by omega);clear M;unfold Bc;grind)⟩
  have h57:(b48)=false:=h57b;refine g_f rfl h57b<|g_f rfl h57b<|g_f rfl h57b<|Hj rfl h57b rfl<|C0 rfl<|g_f rfl rfl<|g_f rfl rfl<|g_f rfl rfl<|Hj rfl rfl rfl<|C0 rfl<|g_f rfl rfl<|g_f rfl rfl<|g_f rfl rfl<|Hj rfl rfl rfl<|C0 rfl<|g_f rfl rfl<|g_f rfl rfl<|g_f rfl rfl<|g_f rfl rfl<|Hj rfl rfl rfl<|Ew rfl<|E9<|Kd<|Gr<|?_
  refine Ad rfl rfl<|?_
  exact ⟨(M.weaken (cN (sR _))),false,rfl,(by have q0:=@Cp x.as.length x.kids.length (by omega) (by omega);clear M;unfold Bc;grind)⟩
 intro h58;refine wk ?_;refine Ad rfl rfl<|?_
 exact ⟨(M.weaken (cN (sR _))),false,rfl,(by have q0:=@Cp x.as.length x.kids.length (by omega) (by omega);clear M;unfold Bc;grind)⟩
set_option maxHeartbeats 1600000
structure FEff (w0:World) (ff:FuncId) (caps:List Value) {σ:Type} (Rs:σ→List Res) (stp:σ→PT→σ):Prop where
 ent:Ent Tryz.prog ff
 run:∀ {w:World} {G:Aq} {L:List Res} {nb no:Nat} {s:σ} {x:PT} {ta ka:Option Addr} {tc kc:Nat},Mem w0 G (Rs s++L) w→Au .u8 x.kind→(x.tag.length≤9223372036854775807∧x.key.length≤9223372036854775807∧x.text.length≤9223372036854775807)→Ag rdSlot 3 G (.slice ta x.as.length tc) x.as→Ag rdP 6 G (.slice ka x.kids.length kc) x.kids→At G nb no [.int .u8 x.kind,.string (str x.tag),.string (str x.key),.slice ta x.as.length tc,.string (str x.text),.slice ka x.kids.length kc]→Bc x →
  Calls Tryz.prog ff (.pointer (some ⟨nb,no,none⟩)::caps).toArray w (Ke w0 G fun L' v=>v=.tuple #[]∧L' = Rs (stp s x)++L)
def WalkP (w0:World) (ff:FuncId) (caps:List Value) {σ:Type} (Rs:σ→List Res) (stp:σ→PT→σ) (x:PT):Prop:=∀ (w:World) (G:Aq) (L:List Res) (cb fb eb nb no c lev:Nat) (s:σ) (ta ka:Option Addr) (tc kc:Nat),Mem w0 G (.blk cb [.int .i64 ((c:Nat):Int)] 3::.blk fb [.func (.func ff) #[] caps.toArray] 286::.blk eb [.func (.func 227) #[] #[.pointer (some ⟨cb,0,none⟩),.pointer (some ⟨fb,0,none⟩),.pointer (some ⟨eb,0,none⟩)]] 297::(Rs s++L)) w →
  Au .u8 x.kind→(x.tag.length≤9223372036854775807∧x.key.length≤9223372036854775807∧x.text.length≤9223372036854775807)→Ag rdSlot 3 G (.slice ta x.as.length tc) x.as→Ag rdP 6 G (.slice ka x.kids.length kc) x.kids→At G nb no [.int .u8 x.kind,.string (str x.tag),.string (str x.key),.slice ta x.as.length tc,.string (str x.text),.slice ka x.kids.length kc]→c≤64→1≤lev→lev≤7→Calls Tryz.prog 227 #[.pointer (some ⟨nb,no,none⟩),.int .i64 (lev:Int),.pointer (some ⟨cb,0,none⟩),.pointer (some ⟨fb,0,none⟩),.pointer (some ⟨eb,0,none⟩)] w (Ke w0 G fun L' v=>∃ (bb:Bool) (c':Nat) (s':σ),v=.bool bb∧L' = (.blk cb [.int .i64 ((c':Nat):Int)] 3::.blk fb [.func (.func ff) #[] caps.toArray] 286::.blk eb [.func (.func 227) #[] #[.pointer (some ⟨cb,0,none⟩),.pointer (some ⟨fb,0,none⟩),.pointer (some ⟨eb,0,none⟩)]] 297::(Rs s'++L))∧(bb=true↔Tr.Ok Bc (7 - lev) x∧c+x.size≤64)∧(bb=true→c' = c+x.size∧s' = Sh stp s x))
theorem tw_step {w0:World} {ff:FuncId} {caps:List Value} {σ:Type} {Rs:σ→List Res} {stp:σ→PT→σ} (hF:FEff w0 ff caps Rs stp) {x:PT} (ih:∀ y∈x.kids,WalkP w0 ff caps Rs stp y) {w:World} {G:Aq} {L:List Res} {cb fb eb nb no c lev:Nat} {s:σ} {ta ka:Option Addr} {tc kc:Nat} (M:Mem w0 G (.blk cb [.int .i64 ((c:Nat):Int)] 3::.blk fb [.func (.func ff) #[] caps.toArray] 286::.blk eb [.func (.func 227) #[] #[.pointer (some ⟨cb,0,none⟩),.pointer (some ⟨fb,0,none⟩),.pointer (some ⟨eb,0,none⟩)]] 297::(Rs s++L)) w) (hk:Au .u8 x.kind) (hl:(x.tag.length≤9223372036854775807∧x.key.length≤9223372036854775807∧x.text.length≤9223372036854775807))
  (SA:Ag rdSlot 3 G (.slice ta x.as.length tc) x.as) (SK:Ag rdP 6 G (.slice ka x.kids.length kc) x.kids) (A:At G nb no [.int .u8 x.kind,.string (str x.tag),.string (str x.key),.slice ta x.as.length tc,.string (str x.text),.slice ka x.kids.length kc]) (hc:c≤64) (hl1:1≤lev) (hl2:lev≤7) :
  Calls Tryz.prog 227 #[.pointer (some ⟨nb,no,none⟩),.int .i64 (lev:Int),.pointer (some ⟨cb,0,none⟩),.pointer (some ⟨fb,0,none⟩),.pointer (some ⟨eb,0,none⟩)] w (Ke w0 G fun L' v=>∃ (bb:Bool) (c':Nat) (s':σ),v=.bool bb∧L' = (.blk cb [.int .i64 ((c':Nat):Int)] 3::.blk fb [.func (.func ff) #[] caps.toArray] 286::.blk eb [.func (.func 227) #[] #[.pointer (some ⟨cb,0,none⟩),.pointer (some ⟨fb,0,none⟩),.pointer (some ⟨eb,0,none⟩)]] 297::(Rs s'++L))∧(bb=true↔Tr.Ok Bc (7 - lev) x∧c+x.size≤64)∧(bb=true→c' = c+x.size∧s' = Sh stp s x)):=by
 refine Al (vs:=[_,_,_,_,_]) Tryz.func227 rfl (n:=45) rfl rfl<|?_
 refine wk ?_;refine Dv Cq M 0 rfl rfl rfl rfl rfl rfl<|?_;clear M;intro w M
 refine wk ?_
 rcases bE (decide (6 < (lev:Int))) with h1b | h2b
 ·skip
  have h1:=dT h1b;refine wk ?_;refine Ad rfl rfl<|?_
  replace M:=M.perm (Af _ 2 _ rfl);replace M:=M.perm (Af _ 2 _ rfl);replace M:=M.perm (Af _ 2 _ rfl);replace M:=z_M M
  exact ⟨_,M,false,_,_,rfl,rfl,⟨fun h_=>(by cases h_),fun h_=>absurd h_ (Kn (by clear M;grind))⟩,fun h_=>(by cases h_)⟩
 have h2:=dF h2b;refine wk ?_
 rcases bE (decide (64 < ((c:Nat):Int)+1)) with h3b | h4b
 ·skip
  have h3:=dT h3b;refine wk ?_;refine Ad rfl rfl<|?_
  replace M:=M.perm (Af _ 2 _ rfl);replace M:=M.perm (Af _ 2 _ rfl);replace M:=M.perm (Af _ 2 _ rfl);replace M:=z_M M
  exact ⟨_,M,false,_,_,rfl,rfl,⟨fun h_=>(by cases h_),fun h_=>absurd h_ (Kn (by clear M;grind))⟩,fun h_=>(by cases h_)⟩
 have h4:=dF h4b;refine wk ?_;refine A4 ent228 rfl rfl (Z6 (x:=x) M hk hl SA SK A)<|?_;clear M;rintro _ w M ⟨b5,rfl,hb5⟩
 refine wk ?_;refine Ae rfl ?_ ?_
 ·intro h6b;have h6:=Ab h6b;have h6c:(b5)=false:=(Ab h6b);refine wk ?_;refine Ad rfl rfl<|?_
  replace M:=M.perm (Af _ 2 _ rfl);replace M:=M.perm (Af _ 2 _ rfl);replace M:=M.perm (Af _ 2 _ rfl);replace M:=z_M M
  exact ⟨_,M,false,_,_,rfl,rfl,⟨fun h_=>(by cases h_),fun h_=>absurd h_ (Kn (by clear M;grind))⟩,fun h_=>(by cases h_)⟩
 intro h7b;have h7:=Ac h7b;have h7c:(b5)=true:=(Ac h7b);refine wk ?_;have hAl:Bc x:=by clear M;grind
 have hl6:lev≤6:=by omega
 have hkl:=Oe hAl;refine wk ?_;replace M:=M.perm (Af _ 2 _ rfl);replace M:=M.perm (Af _ 2 _ rfl);replace M:=M.perm (Af _ 2 _ rfl);replace M:=z_M M;replace M:=M.perm (V9 _ _);intro a F;refine P8 F hF.ent (caps:=caps) rfl rfl rfl (hF.run (s:=s) (x:=x) M hk hl SA SK A hAl) ?_;clear F M a;rintro _ _ w a M ⟨rfl,rfl⟩ F;replace M:=M.perm (V9 _ _).symm;revert a;refine wk ?_;refine fun a F=>Ba (fun m a' w'=>∃ (i:Nat),∃ (ci:Nat),∃ (si:σ),m=x.kids.length - i∧Fits 45 a' [(0,.pointer (some ⟨nb,no,none⟩)),(1,.int .i64 ((lev:Int))),(2,.pointer (some ⟨cb,0,none⟩)),(3,.pointer (some ⟨fb,0,none⟩)),(4,.pointer (some ⟨eb,0,none⟩)),(28,.slice ka x.kids.length kc),(29,.int .i64 ((x.kids.length:Nat):Int)),(30,.int .i64 ((i:Nat):Int))]∧Mem w0 G (.blk cb [.int .i64 ((ci:Nat):Int)] 3::.blk fb [.func (.func ff) #[] caps.toArray] 286::.blk eb [.func (.func 227) #[] #[.pointer (some ⟨cb,0,none⟩),.pointer (some ⟨fb,0,none⟩),.pointer (some ⟨eb,0,none⟩)]] 297::(Rs si++L)) w'∧(i≤x.kids.length)∧(ci=c+1+Tr.sizes (x.kids.take i)∧ci≤64)∧(si=Hu stp (stp s x) (x.kids.take i))∧(∀ (m:Nat) (y:PT),m < i→x.kids[m]?=some y→Tr.Ok Bc (7 - (lev+1)) y)) _ ⟨0,c+1,(stp s x),rfl,F.to ⟨rfl,rfl,rfl,rfl,rfl,rfl,rfl,rfl,trivial⟩,M,Nat.zero_le _,⟨by simp [Tr.sizes],by omega⟩,by simp [Hu],fun m y h=>by omega⟩ ?_;clear F M;rintro m a w ⟨i,ci,si,rfl,F,M,hi,hci,hsi,hO⟩;revert a;refine wk ?_;refine qD rfl ?_ ?_
 ·intro h8;refine wk ?_;refine fun a F=>D5 [(.pure,0),(.free,1),(.free,2),(.free,3),(.pure,4),(.free,5),(.free,6),(.free,7),(.free,8),(.keep,9),(.free,10)] [] (Keep G [.blk eb [.func (.func 227) #[] #[.pointer (some ⟨cb,0,none⟩),.pointer (some ⟨fb,0,none⟩),.pointer (some ⟨eb,0,none⟩)]] 297]) rfl (by kernel_rfl) (fun c a d v w h=>by cases d <;> exact h) (Ax (M.drew _)) ?_;replace M:=M.drew (w.drawn+1);revert a;refine wk ?_;obtain ⟨Xe9,hXe9⟩:=Ap (xs:=x.kids) (i:=i) (by omega);obtain ⟨be9,oe9,_,Ie9,_,Ae9,hTe9⟩:=SK.at hXe9;obtain ⟨tae9,tce9,kae9,kce9,rfl,hke9,hle9,SAe9,SKe9⟩:=Dn hTe9;refine wk ?_;refine k_k rfl<|?_
  replace M:=M.perm (Af _ 2 _ rfl);replace M:=M.perm (Af _ 2 _ rfl);replace M:=M.perm (Af _ 2 _ rfl);replace M:=z_M M;refine s_vL Arf (caps:=[.pointer (some ⟨cb,0,none⟩),.pointer (some ⟨fb,0,none⟩),.pointer (some ⟨eb,0,none⟩)]) rfl rfl rfl (ih Xe9 (List.mem_of_getElem? hXe9) _ _ L _ _ _ _ _ ci (lev+1) si _ _ _ _ M hke9 hle9 SAe9 SKe9 Ae9 (by omega) (by omega) (by omega))<|?_;clear M;rintro _ _ w M ⟨b10,cb10,sb10,rfl,rfl,hb10,eb10⟩
  refine Ao<|?_
  refine eQ (Ax M)<|?_
  refine wk ?_;refine Ae rfl ?_ ?_
  ·intro h11b;have h11:=Ab h11b;have h11c:(b10)=false:=(Ab h11b);refine wk ?_;refine Ad rfl rfl<|?_
   replace M:=M.perm (Af _ 2 _ rfl);replace M:=M.perm (Af _ 2 _ rfl);replace M:=M.perm (Af _ 2 _ rfl);replace M:=z_M M
   exact ⟨_,M,false,_,_,rfl,rfl,⟨fun h_=>(by cases h_),fun h_=>absurd h_ (Rf hXe9 hl6 (by rw [← hci.1];exact fun h_=>by have h9:=hb10.2 h_;simp_all))⟩,fun h_=>(by cases h_)⟩
  intro h12b;have h12:=Ac h12b;have h12c:(b10)=true:=(Ac h12b);refine wk ?_;have hq:=hb10.1 (by assumption);obtain ⟨hc2,hd2⟩:=eb10 (by assumption);have hs2:=Tr.sizes_snoc hXe9;intro a F
  exact ⟨_,by omega,i+1,cb10,sb10,rfl,F.to ⟨rfl,rfl,rfl,rfl,rfl,rfl,rfl,rfl,trivial⟩,M,by omega,by omega,by rw [Z0 stp hXe9,← hsi];exact hd2,Yw hO hXe9 hq.1⟩
 intro h13;refine wk ?_;refine Ad rfl rfl<|?_
 replace M:=M.perm (Af _ 2 _ rfl);replace M:=M.perm (Af _ 2 _ rfl);replace M:=M.perm (Af _ 2 _ rfl);replace M:=z_M M;have hf:=Kt (x:=x) (i:=i) (by omega);rw [List.take_of_length_le (by omega)] at hsi
 exact ⟨_,M,true,_,_,rfl,rfl,⟨fun _=>⟨Abr hl6 hAl (by omega) hO,by omega⟩,fun _=>rfl⟩,fun _=>⟨by omega,by rw [Amm];exact hsi⟩⟩
theorem tw_all {w0:World} {ff:FuncId} {caps:List Value} {σ:Type} {Rs:σ→List Res} {stp:σ→PT→σ} (hF:FEff w0 ff caps Rs stp) (x:PT):WalkP w0 ff caps Rs stp x:=by
 induction x using Tr.ind with
 | _ x ih=>intro w G L cb fb eb nb no c lev s ta ka tc kc M hk hl SA SK A hc hl1 hl2;exact tw_step hF ih M hk hl SA SK A hc hl1 hl2
theorem Adm {w0:World} {ff:FuncId} {caps:List Value} {σ:Type} {Rs:σ→List Res} {stp:σ→PT→σ} (hF:FEff w0 ff caps Rs stp) {x:PT} {w:World} {G:Aq} {L:List Res} {nb no:Nat} {s:σ} {ta ka:Option Addr} {tc kc:Nat} (M:Mem w0 G (Rs s++L) w) (hk:Au .u8 x.kind) (hl:(x.tag.length≤9223372036854775807∧x.key.length≤9223372036854775807∧x.text.length≤9223372036854775807))
  (SA:Ag rdSlot 3 G (.slice ta x.as.length tc) x.as) (SK:Ag rdP 6 G (.slice ka x.kids.length kc) x.kids) (A:At G nb no [.int .u8 x.kind,.string (str x.tag),.string (str x.key),.slice ta x.as.length tc,.string (str x.text),.slice ka x.kids.length kc]) :
  Calls Tryz.prog 212 #[.pointer (some ⟨nb,no,none⟩),.func (.func ff) #[] caps.toArray] w (Ke w0 G fun L' v=>∃ (k:Nat) (s':σ),v=.int .i64 (k:Int)∧L' = (Rs s'++L)∧k=cntP x∧(ValidP x→s' = Sh stp s x)):=by
 refine Al (vs:=[_,_]) Tryz.func212 rfl (n:=18) rfl rfl<|?_
 refine Bt<|?_
 refine B2 M rfl rfl rfl<|?_;clear M;intro b1 w M
 refine wk ?_;refine Ae rfl ?_ ?_
 ·intro h2b;have h2:=dF (Ab h2b);have h2c:(decide (x.kind=1))=false:=(Ab h2b);refine wk ?_;refine Ad rfl rfl<|?_
  have hV:¬ ValidP x:=fun h_=>by have:=h_.1;omega
  exact ⟨_,M.weaken dS1,0,s,rfl,rfl,(Zo hV).symm,fun h_=>absurd h_ hV⟩
 intro h3b;have h3:=dT (Ac h3b);have h3c:(decide (x.kind=1))=true:=(Ac h3b);refine wk ?_;refine B1 M Cq rfl rfl<|?_;clear M;intro b4 w M
 refine Dv Cq M 0 rfl rfl rfl rfl rfl rfl<|?_;clear M;intro w M
 refine wk ?_;refine B1 M Adp rfl rfl<|?_;clear M;intro b6 w M
 refine wk ?_;refine Am (fun a F=>Ct (vs:=#[.pointer (some ⟨b4,0,none⟩),.pointer (some ⟨b1,0,none⟩),.pointer (some ⟨b6,0,none⟩)]) (by simp only [List.map_toArray,List.map_cons,List.map_nil,F.ev (x:=.tmp 5) rfl,F.ev (x:=.tmp 3) rfl,F.ev (x:=.tmp 6) rfl])) rfl<|Dv Adp M 0 rfl rfl rfl rfl rfl rfl<|?_;clear M;intro w M
 refine wk ?_;replace M:=M.perm (Af _ 2 _ rfl);replace M:=M.perm (Af _ 2 _ rfl);replace M:=z_M M;refine s_vL Arf (caps:=[.pointer (some ⟨b4,0,none⟩),.pointer (some ⟨b1,0,none⟩),.pointer (some ⟨b6,0,none⟩)]) rfl rfl rfl (tw_all hF x _ _ L _ _ _ _ _ 0 1 s _ _ _ _ M hk hl SA SK A (by omega) (by omega) (by omega))<|?_;clear M;rintro _ _ w M ⟨b8,cb8,sb8,rfl,rfl,hb8,eb8⟩
 refine wk ?_;refine Ae rfl ?_ ?_
 ·intro h9b;have h9:=Ab h9b;have h9c:(b8)=false:=(Ab h9b);refine wk ?_;refine Ad rfl rfl<|?_
  have hV:¬ ValidP x:=fun h_=>by have h9:=hb8.2 ⟨h_.2.1,by have:=h_.2.2;omega⟩;simp_all
  exact ⟨_,M.weaken dS3,0,_,rfl,rfl,(Zo hV).symm,fun h_=>absurd h_ hV⟩
 intro h10b;have h10:=Ac h10b;have h10c:(b8)=true:=(Ac h10b);refine wk ?_;refine Ad rfl rfl<|?_
 have hq:=hb8.1 (by assumption);have hV:ValidP x:=⟨by omega,hq.1,by omega⟩;obtain ⟨hc2,hd2⟩:=eb8 (by assumption)
 exact ⟨_,M.weaken dS3,_,_,rfl,rfl,by rw [Acw hV];omega,fun _=>hd2⟩
theorem Adz (M:Mem w0 G L w) {v:Value}:Calls Tryz.prog 213 #[v] w (Ke w0 G fun L' v=>v=.tuple #[]∧L' = L):=by
 refine Al (vs:=[_]) Tryz.func213 rfl (n:=2) rfl rfl<|?_
 refine F3<|?_
 refine fun a F=>Aqs F rfl ?_
 exact ⟨_,M,rfl,rfl⟩
theorem Afp {w0:World}:FEff w0 213 [] (fun _:Unit=>[]) (fun _ _=>()):=⟨ent213,fun M _ _ _ _ _ _=>Adz M⟩
theorem Ady (M:Mem w0 G L w) {x:PT} {ta:Option Addr} {tc:Nat} {ka:Option Addr} {kc:Nat} (hk:Au .u8 x.kind) (hl:(x.tag.length≤9223372036854775807∧x.key.length≤9223372036854775807∧x.text.length≤9223372036854775807)) (SA:Ag rdSlot 3 G (.slice ta x.as.length tc) x.as) (SK:Ag rdP 6 G (.slice ka x.kids.length kc) x.kids):Calls Tryz.prog 189 #[.agg #[.int .u8 x.kind,.string (str x.tag),.string (str x.key),.slice ta x.as.length tc,.string (str x.text),.slice ka x.kids.length kc]] w (Ret w0 G L fun _ v=>v=.int .i64 ((cntP x:Nat):Int)):=by
 refine Al (vs:=[_]) Tryz.func189 rfl (n:=4) rfl rfl<|?_
 refine Bt<|?_
 refine B2 M rfl rfl rfl<|?_;clear M;intro b1 w M
 refine wk ?_;obtain ⟨Gq2,hGq2,hbq2,M⟩:=M.freeze (k:=0) rfl;have Aq2:At Gq2 b1 0 [.int .u8 x.kind,.string (str x.tag),.string (str x.key),.slice ta x.as.length tc,.string (str x.text),.slice ka x.kids.length kc]:=At.of_cells hbq2;clear hbq2;replace SA:=SA.mono mono_rdSlot hGq2;replace SK:=SK.mono mono_rdP hGq2;replace M:=z_M M;refine wk ?_;replace M:=z_M M;refine Py ent212 rfl rfl (Adm Afp (x:=x) (s:=()) (L:=L) M hk hl SA SK Aq2)<|?_;clear M;rintro _ _ w M ⟨k3,sk3,rfl,hLk3,hk3,ek3⟩
 intro a F;rw [hLk3] at M;clear hLk3;replace M:Mem w0 Gq2 (L) _:=M;revert a;refine wk ?_;refine Ad rfl rfl<|?_
 exact ⟨_,hGq2,M.weaken (sR _),by rw [hk3]⟩
theorem Z5 (M:Mem w0 G L w) {x:PT} {ta:Option Addr} {tc:Nat} {ka:Option Addr} {kc:Nat} (hk:Au .u8 x.kind) (hl:(x.tag.length≤9223372036854775807∧x.key.length≤9223372036854775807∧x.text.length≤9223372036854775807)) (SA:Ag rdSlot 3 G (.slice ta x.as.length tc) x.as) (SK:Ag rdP 6 G (.slice ka x.kids.length kc) x.kids):Calls Tryz.prog 189 #[.agg #[.int .u8 x.kind,.string (str x.tag),.string (str x.key),.slice ta x.as.length tc,.string (str x.text),.slice ka x.kids.length kc]] w (Bu w0 G L fun v=>v=.int .i64 ((cntP x:Nat):Int)):=Ret.plain M (Ady M hk hl SA SK)
theorem tcheck_spec (M:Mem w0 G L w) {x:PT} {ta:Option Addr} {tc:Nat} {ka:Option Addr} {kc:Nat} (hk:Au .u8 x.kind) (hl:(x.tag.length≤9223372036854775807∧x.key.length≤9223372036854775807∧x.text.length≤9223372036854775807)) (SA:Ag rdSlot 3 G (.slice ta x.as.length tc) x.as) (SK:Ag rdP 6 G (.slice ka x.kids.length kc) x.kids):Calls Tryz.prog 155 #[.agg #[.int .u8 x.kind,.string (str x.tag),.string (str x.key),.slice ta x.as.length tc,.string (str x.text),.slice ka x.kids.length kc]] w (Bu w0 G L fun v=>v=.int .i64 (Vl x)):=by
 refine Al (vs:=[_]) Tryz.func155 rfl (n:=6) rfl rfl<|?_
 refine Bt<|?_
 refine B2 M rfl rfl rfl<|?_;clear M;intro b1 w M
 refine wk ?_;refine A4 ent189 rfl rfl (Z5 (x:=x) M hk hl SA SK)<|?_;clear M;rintro _ w M rfl
 refine wk ?_;refine qD rfl ?_ ?_
 ·intro h2;refine wk ?_;refine Ad rfl rfl<|?_
  exact ⟨M.weaken dS1,by rw [Se fun h_=>by have:=Pi.2 h_;omega]⟩
 intro h3;refine wk ?_;refine Ad rfl rfl<|?_
 exact ⟨M.weaken dS1,by rw [Acy (Pi.1 (by omega))]⟩
def Avb (x:PT):Prop:=∀ (w0 w:World) (G:Aq) (L:List Res) (ta ka:Option Addr) (tc kc lev:Nat),Mem w0 G L w→Au .u8 x.kind→(x.tag.length≤9223372036854775807∧x.key.length≤9223372036854775807∧x.text.length≤9223372036854775807)→Ag rdSlot 3 G (.slice ta x.as.length tc) x.as→Ag rdP 6 G (.slice ka x.kids.length kc) x.kids→lev≤8 →
  Calls Tryz.prog 194 #[.agg #[.int .u8 x.kind,.string (str x.tag),.string (str x.key),.slice ta x.as.length tc,.string (str x.text),.slice ka x.kids.length kc],.int .i64 (lev:Int)] w (Bu w0 G L fun v=>∃ r:Nat,v=.int .i64 (r:Int)∧Cnt Bc x lev r)
theorem Aeo {x:PT} (ih:∀ y∈x.kids,Avb y) {w0 w:World} {G:Aq} {L:List Res} (M:Mem w0 G L w) {ta:Option Addr} {tc:Nat} {ka:Option Addr} {kc:Nat} (hk:Au .u8 x.kind) (hl:(x.tag.length≤9223372036854775807∧x.key.length≤9223372036854775807∧x.text.length≤9223372036854775807)) (SA:Ag rdSlot 3 G (.slice ta x.as.length tc) x.as) (SK:Ag rdP 6 G (.slice ka x.kids.length kc) x.kids) {lev:Nat} (hlev:lev≤8):Calls Tryz.prog 194 #[.agg #[.int .u8 x.kind,.string (str x.tag),.string (str x.key),.slice ta x.as.length tc,.string (str x.text),.slice ka x.kids.length kc],.int .i64 (lev:Int)] w (Bu w0 G L fun v=>∃ r:Nat,v=.int .i64 (r:Int)∧Cnt Bc x lev r):=by
 refine Al (vs:=[_,_]) Tryz.func194 rfl (n:=36) rfl rfl<|?_
 refine Bt<|?_
 refine B2 M rfl rfl rfl<|?_;clear M;intro b1 w M
 refine wk ?_
 rcases bE (decide ((lev:Int) < 1)) with h2b | h3b
 ·skip
  have h2:=dT h2b;refine wk ?_;refine Ad rfl rfl<|?_
  exact ⟨M.weaken dS1,1000,rfl,Cnt.bad (by clear M;grind)⟩
 have h3:=dF h3b;refine wk ?_;refine A4 ent221 rfl rfl (Aen (x:=x) M hk hl SA SK)<|?_;clear M;rintro _ w M ⟨b4,rfl,hb4⟩
 refine wk ?_;refine Ae rfl ?_ ?_
 ·intro h5b;have h5:=Ab h5b;have h5c:(b4)=false:=(Ab h5b);refine wk ?_;refine Ad rfl rfl<|?_
  exact ⟨M.weaken dS1,1000,rfl,Cnt.bad (by clear M;grind)⟩
 intro h6b;have h6:=Ac h6b;have h6c:(b4)=true:=(Ac h6b);refine wk ?_;have hAl:Bc x:=by clear M;grind
 have hl1:1≤lev:=by omega
 have hkl:=Oe hAl;refine wk ?_;refine fun a F=>Ba (fun m a' w'=>∃ (i:Nat),∃ (c:Nat),m=x.kids.length - i∧Fits 36 a' [(1,.int .i64 ((lev:Int))),(2,.pointer (some ⟨b1,0,none⟩)),(5,.int .i64 ((c:Nat):Int)),(6,.int .i64 ((i:Nat):Int))]∧Mem w0 G (.blk b1 [.int .u8 x.kind,.string (str x.tag),.string (str x.key),.slice ta x.as.length tc,.string (str x.text),.slice ka x.kids.length kc] 79::L) w'∧(i≤x.kids.length)∧(CntL Bc x lev i c)) _ ⟨0,1,rfl,F.to ⟨rfl,rfl,rfl,rfl,trivial⟩,M,Nat.zero_le _,CntL.zero _ _⟩ ?_;clear F M;rintro m a w ⟨i,c,rfl,F,M,hi,hL⟩;revert a;refine Cj<|Cj<|?_
 have hchi:=hL.hi;refine wk ?_
 rcases bE (decide (((i:Nat):Int) < ((x.kids.length:Nat):Int))) with h7b | h13b
 ·skip
  have h7:=dT h7b;refine wk ?_;refine qD rfl ?_ ?_
  ·intro h8;refine wk ?_;obtain ⟨Xe9,hXe9⟩:=Ap (xs:=x.kids) (i:=i) (by omega);obtain ⟨be9,oe9,_,Ie9,_,Ae9,hTe9⟩:=SK.at hXe9;obtain ⟨tae9,tce9,kae9,kce9,rfl,hke9,hle9,SAe9,SKe9⟩:=Dn hTe9;refine wk ?_;have hs10:((lev:Int) - 1:Int)=((lev - 1:Nat):Int):=by omega
   intro a F;rw [hs10] at F;revert a;refine A4 Ari rfl rfl (ih Xe9 (List.mem_of_getElem? hXe9) _ _ _ _ _ _ _ _ (lev - 1) M hke9 hle9 SAe9 SKe9 (by omega))<|?_;clear M;rintro _ w M ⟨r11,rfl,hr11⟩
   have hir11:=hr11.hi;have lor11:=hr11.lo;refine wk ?_;intro a F
   exact ⟨_,by omega,i+1,c+r11,rfl,F.to ⟨rfl,rfl,rfl,rfl,trivial⟩,M,by omega,hL.step (by omega) (by omega) hXe9 hr11⟩
  intro h12;refine wk ?_;refine Ad rfl rfl<|?_
  exact ⟨M.weaken dS1,c,rfl,hL.done (by omega) hAl (by omega)⟩
 have h13:=dF h13b;refine wk ?_;refine Ad rfl rfl<|?_
 exact ⟨M.weaken dS1,c,rfl,hL.done (by omega) hAl (by omega)⟩
theorem Ajq (x:PT):Avb x:=by
 induction x using Tr.ind with
 | _ x ih=>intro w0 w G L ta ka tc kc lev M hk hl SA SK hlev;exact Aeo ih M hk hl SA SK hlev
theorem Ye (M:Mem w0 G L w) {x:PT} {ta:Option Addr} {tc:Nat} {ka:Option Addr} {kc:Nat} (hk:Au .u8 x.kind) (hl:(x.tag.length≤9223372036854775807∧x.key.length≤9223372036854775807∧x.text.length≤9223372036854775807)) (SA:Ag rdSlot 3 G (.slice ta x.as.length tc) x.as) (SK:Ag rdP 6 G (.slice ka x.kids.length kc) x.kids):Calls Tryz.prog 165 #[.agg #[.int .u8 x.kind,.string (str x.tag),.string (str x.key),.slice ta x.as.length tc,.string (str x.text),.slice ka x.kids.length kc]] w (Bu w0 G L fun v=>v=.int .i64 ((cntP x:Nat):Int)):=by
 refine Al (vs:=[_]) Tryz.func165 rfl (n:=14) rfl rfl<|?_
 refine Bt<|?_
 refine B2 M rfl rfl rfl<|?_;clear M;intro b1 w M
 refine wk ?_;refine A4 Ari rfl rfl (Ajq x _ _ _ _ _ _ _ _ 6 M hk hl SA SK (by omega))<|?_;clear M;rintro _ w M ⟨r2,rfl,hr2⟩
 have hir2:=hr2.hi;have lor2:=hr2.lo;refine wk ?_
 rcases bE (!(decide (x.kind=1))) with h3b | h4b
 ·skip
  have h3:=dF (Ab h3b);refine wk ?_;refine Ad rfl rfl<|?_
  exact ⟨M.weaken dS1,by rw [hr2.cntP.1 (by omega)];rfl⟩
 have h4:=dT (Ac h4b);refine wk ?_;refine qD rfl ?_ ?_
 ·intro h5;refine wk ?_;refine Ad rfl rfl<|?_
  exact ⟨M.weaken dS1,by rw [hr2.cntP.1 (by omega)];rfl⟩
 intro h6;refine wk ?_;refine Ad rfl rfl<|?_
 exact ⟨M.weaken dS1,by rw [hr2.cntP.2 (by omega) (by omega)]⟩
theorem Ou (M:Mem w0 G L w) {x:PT} {ta:Option Addr} {tc:Nat} {ka:Option Addr} {kc:Nat} (hk:Au .u8 x.kind) (hl:(x.tag.length≤9223372036854775807∧x.key.length≤9223372036854775807∧x.text.length≤9223372036854775807)) (SA:Ag rdSlot 3 G (.slice ta x.as.length tc) x.as) (SK:Ag rdP 6 G (.slice ka x.kids.length kc) x.kids):Calls Tryz.prog 130 #[.agg #[.int .u8 x.kind,.string (str x.tag),.string (str x.key),.slice ta x.as.length tc,.string (str x.text),.slice ka x.kids.length kc]] w (Bu w0 G L fun v=>v=.int .i64 (Vl x)):=by
 refine Al (vs:=[_]) Tryz.func130 rfl (n:=6) rfl rfl<|?_
 refine Bt<|?_
 refine B2 M rfl rfl rfl<|?_;clear M;intro b1 w M
 refine wk ?_;refine A4 ent165 rfl rfl (Ye (x:=x) M hk hl SA SK)<|?_;clear M;rintro _ w M rfl
 refine wk ?_;refine qD rfl ?_ ?_
 ·intro h2;refine wk ?_;refine Ad rfl rfl<|?_
  exact ⟨M.weaken dS1,by rw [Se fun h_=>by have:=Pi.2 h_;omega]⟩
 intro h3;refine wk ?_;refine Ad rfl rfl<|?_
 exact ⟨M.weaken dS1,by rw [Acy (Pi.1 (by omega))]⟩
set_option maxHeartbeats 1600000
theorem Auo (M:Mem w0 G L w) {s:List UInt8} (hs:s.length≤9223372036854775807):Calls Tryz.prog 215 #[.string (str s)] w (Bu w0 G L fun v=>∃ b:Bool,v=.bool b∧(b=true↔¬ Ck s)):=by
 refine Al (vs:=[_]) Tryz.func215 rfl (n:=6) rfl rfl<|?_
 refine wk ?_;refine A4 Qn rfl rfl (G8 (s:=s) M (by assumption))<|?_;clear M;rintro _ w M ⟨b1,rfl,hb1⟩
 refine wk ?_;refine Ad rfl rfl<|?_
 exact ⟨M,(!(b1)),rfl,(by clear M;grind)⟩
theorem Qi (M:Mem w0 G L w) {ad:Option Addr} {cd:Nat} {xs:List (List UInt8)} (S:Ag Cf 1 G (.slice ad xs.length cd) xs):Calls Tryz.prog 104 #[.slice ad xs.length cd,.func (.func 215) #[] #[]] w (Bu w0 G L fun v=>∃ z:Int,v=.int .i64 z∧(0≤z↔¬ ∀ s∈xs,Ck s)):=by
 have bS:=S.bound;refine Al (vs:=[_,_]) Tryz.func104 rfl (n:=19) rfl rfl<|?_
 refine wk ?_;refine fun a F=>Ba (fun m a' w'=>∃ (i:Nat),m=xs.length - i∧Fits 19 a' [(0,.slice ad xs.length cd),(1,.func (.func 215) #[] #[]),(7,.int .i64 ((xs.length:Nat):Int)),(8,.int .i64 ((i:Nat):Int))]∧Mem w0 G (L) w'∧(i≤xs.length)∧(∀ (m:Nat) (s:List UInt8),m < i→xs[m]?=some s→Ck s)) _ ⟨0,rfl,F.to ⟨rfl,rfl,rfl,rfl,trivial⟩,M,Nat.zero_le _,fun m d h=>by omega⟩ ?_;clear F M;rintro m a w ⟨i,rfl,F,M,hi,hA⟩;revert a;refine wk ?_;refine qD rfl ?_ ?_
 ·intro h1;refine wk ?_;obtain ⟨Xe2,hXe2⟩:=Ap (xs:=xs) (i:=i) (by omega);obtain ⟨be2,oe2,_,Ie2,_,Ae2,⟨rfl,hsle2⟩⟩:=S.at hXe2;refine wk ?_;refine Aef ent215 (caps:=[]) rfl rfl rfl (Auo (s:=Xe2) M (by omega))<|?_;clear M;rintro _ w M ⟨b3,rfl,hb3⟩
  refine Ao<|F1<|?_
  refine Ae rfl ?_ ?_
  ·intro h4b;have h4:(b3)=true:=h4b;refine wk ?_;refine Ad rfl rfl<|?_
   exact ⟨M,_,rfl,⟨fun _ h_=>(hb3.1 (by assumption)) (h_ _ (List.mem_of_getElem? hXe2)),fun _=>by omega⟩⟩
  intro h5b;have h5:(b3)=false:=h5b;refine wk ?_;intro a F
  exact ⟨_,by omega,i+1,rfl,F.to ⟨rfl,rfl,rfl,rfl,trivial⟩,M,by omega,Mq hA hXe2 (by clear F M;grind)⟩
 intro h6;refine wk ?_;refine Ad rfl rfl<|?_
 exact ⟨M,_,rfl,⟨fun h=>by omega,fun h=>absurd (Fx hA (by omega)) h⟩⟩
theorem Oa (M:Mem w0 G L w) {ad:Option Addr} {cd:Nat} {xs:List (List UInt8)} (S:Ag Cf 1 G (.slice ad xs.length cd) xs):Calls Tryz.prog 51 #[.slice ad xs.length cd,.func (.func 215) #[] #[]] w (Bu w0 G L fun v=>∃ b:Bool,v=.bool b∧(b=true↔¬ ∀ s∈xs,Ck s)):=by
 refine Al (vs:=[_,_]) Tryz.func51 rfl (n:=9) rfl rfl<|?_
 refine wk ?_;refine A4 Aua rfl rfl (Qi (xs:=xs) M S)<|?_;clear M;rintro _ w M ⟨z1,rfl,hz1⟩
 refine wk ?_;refine Ad rfl rfl<|?_
 exact ⟨M,_,rfl,decide_eq_true_iff.trans hz1⟩
theorem Uw (M:Mem w0 G L w) {x:ItemD} {ma:Option Addr} {mc:Nat} (ht:x.text.length≤9223372036854775807) (SM:Ag Cf 1 G (.slice ma x.marks.length mc) x.marks):Calls Tryz.prog 191 #[.agg #[.int .u64 x.key,.int .u8 x.typ,.string (str x.text),.slice ma x.marks.length mc]] w (Bu w0 G L fun v=>v=.int .i64 (Gq x)):=by
 refine Al (vs:=[_]) Tryz.func191 rfl (n:=23) rfl rfl<|?_
 refine Bt<|?_
 refine B2 M rfl rfl rfl<|?_;clear M;intro b1 w M
 refine wk ?_
 rcases bE (decide (x.key=0)) with h2b | h3b
 ·skip
  have h2:=dT h2b;refine wk ?_;refine Ad rfl rfl<|?_
  exact ⟨M.weaken dS1,by rw [Dt (by clear M;unfold ItemOk;grind)]⟩
 have h3:=dF h3b;refine wk ?_;refine A4 Afw rfl rfl (Lk (s:=x.text) M (by omega))<|?_;clear M;rintro _ w M ⟨b4,rfl,hb4⟩
 refine wk ?_
 rcases bE (!(b4)) with h5b | h6b
 ·skip
  have h5:=Ab h5b;have h5c:(b4)=false:=(Ab h5b);refine wk ?_;refine Ad rfl rfl<|?_
  exact ⟨M.weaken dS1,by rw [Dt (by clear M;unfold ItemOk;grind)]⟩
 have h6:=Ac h6b;have h6c:(b4)=true:=(Ac h6b);refine wk ?_
 rcases bE (decide (8 < ((x.marks.length:Nat):Int))) with h7b | h8b
 ·skip
  have h7:=dT h7b;refine wk ?_;refine Ad rfl rfl<|?_
  exact ⟨M.weaken dS1,by rw [Dt (by clear M;unfold ItemOk;grind)]⟩
 have h8:=dF h8b;refine wk ?_;refine A4 ent51 rfl rfl (Oa (xs:=x.marks) M SM)<|?_;clear M;rintro _ w M ⟨b9,rfl,hb9⟩
 refine wk ?_;refine Ae rfl ?_ ?_
 ·intro h10b;have h10:(b9)=true:=h10b;refine wk ?_;refine Ad rfl rfl<|?_
  exact ⟨M.weaken dS1,by rw [Dt (by clear M;unfold ItemOk;grind)]⟩
 intro h11b;have h11:(b9)=false:=h11b;refine wk ?_;refine Ad rfl rfl<|?_
 exact ⟨M.weaken dS1,by rw [Cv (by first | (clear M;unfold ItemOk;grind) | exact ⟨by omega,by clear M;grind,by omega,Fx hA (by omega)⟩)]⟩
theorem Ld (M:Mem w0 G L w) {x:ItemD} {ma:Option Addr} {mc:Nat} (ht:x.text.length≤9223372036854775807) (SM:Ag Cf 1 G (.slice ma x.marks.length mc) x.marks):Calls Tryz.prog 150 #[.agg #[.int .u64 x.key,.int .u8 x.typ,.string (str x.text),.slice ma x.marks.length mc]] w (Bu w0 G L fun v=>v=.int .i64 (Gq x)):=by
 refine Al (vs:=[_]) Tryz.func150 rfl (n:=33) rfl rfl<|?_
 refine Bt<|?_
 refine B2 M rfl rfl rfl<|?_;clear M;intro b1 w M
 refine wk ?_
 rcases bE (decide (x.key=0)) with h2b | h3b
 ·skip
  have h2:=dT h2b;refine wk ?_;refine Ad rfl rfl<|?_
  exact ⟨M.weaken dS1,by rw [Dt (by clear M;unfold ItemOk;grind)]⟩
 have h3:=dF h3b;refine wk ?_;refine A4 Ul rfl rfl (Kk (s:=x.text) M (by omega))<|?_;clear M;rintro _ w M ⟨b4,rfl,hb4⟩
 refine wk ?_
 rcases bE (!(b4)) with h5b | h6b
 ·skip
  have h5:=Ab h5b;have h5c:(b4)=false:=(Ab h5b);refine wk ?_;refine Ad rfl rfl<|?_
  exact ⟨M.weaken dS1,by rw [Dt (by clear M;unfold ItemOk;grind)]⟩
 have h6:=Ac h6b;have h6c:(b4)=true:=(Ac h6b);refine wk ?_;refine qD rfl ?_ ?_
 ·intro h7;refine wk ?_;refine Ad rfl rfl<|?_
  exact ⟨M.weaken dS1,by rw [Dt (by clear M;unfold ItemOk;grind)]⟩
 intro h8;refine wk ?_;refine fun a F=>Ba (fun m a' w'=>∃ (i:Nat),m=x.marks.length - i∧Fits 33 a' [(1,.pointer (some ⟨b1,0,none⟩)),(3,.int .i64 ((i:Nat):Int))]∧Mem w0 G (.blk b1 [.int .u64 x.key,.int .u8 x.typ,.string (str x.text),.slice ma x.marks.length mc] 26::L) w'∧(i≤x.marks.length)∧(∀ (m:Nat) (s:List UInt8),m < i→x.marks[m]?=some s→Ck s)) _ ⟨0,rfl,F.to ⟨rfl,rfl,trivial⟩,M,Nat.zero_le _,fun m d h=>by omega⟩ ?_;clear F M;rintro m a w ⟨i,rfl,F,M,hi,hA⟩;revert a;refine wk ?_;refine qD rfl ?_ ?_
 ·intro h9;refine wk ?_;obtain ⟨Xe10,hXe10⟩:=Ap (xs:=x.marks) (i:=i) (by omega);obtain ⟨be10,oe10,_,Ie10,_,Ae10,⟨rfl,hsle10⟩⟩:=SM.at hXe10;refine wk ?_;refine A4 Mb rfl rfl (Dx (s:=Xe10) M (by omega))<|?_;clear M;rintro _ w M ⟨b11,rfl,hb11⟩
  refine wk ?_;refine Ae rfl ?_ ?_
  ·intro h12b;have h12:=Ab h12b;have h12c:(b11)=false:=(Ab h12b);refine wk ?_;refine Ad rfl rfl<|?_
   exact ⟨M.weaken dS1,by rw [Dt (Abt hXe10 (by clear M;grind))]⟩
  intro h13b;have h13:=Ac h13b;have h13c:(b11)=true:=(Ac h13b);refine wk ?_;intro a F
  exact ⟨_,by omega,i+1,rfl,F.to ⟨rfl,rfl,trivial⟩,M,by omega,Mq hA hXe10 (by clear F M;grind)⟩
 intro h14;refine wk ?_;refine Ad rfl rfl<|?_
 exact ⟨M.weaken dS1,by rw [Cv (by first | (clear M;unfold ItemOk;grind) | exact ⟨by omega,by clear M;grind,by omega,Fx hA (by omega)⟩)]⟩
set_option maxHeartbeats 1600000
theorem Qp (M:Mem w0 G L w) {u:Nat} (hu:u < 18446744073709551616):Calls Tryz.prog 219 #[.int .u64 (u:Int)] w (Bu w0 G L fun v=>v=.string (str (Lib.decDigits u))):=by
 refine Al (vs:=[_]) Tryz.func219 rfl (n:=19) rfl rfl<|?_
 refine wk ?_;refine B1 M Xy rfl rfl<|?_;clear M;intro b1 w M
 refine wk ?_;replace M:Mem w0 G (.blk b1 (bc (List.replicate 20 0)) 302::L) w:=M;refine wk ?_;refine fun a F=>Ba (fun m a' w'=>∃ (i:Nat),∃ (n:Nat),∃ (ls:List UInt8),m=i+1∧Fits 19 a' [(3,.pointer (some ⟨b1,0,none⟩)),(0,.int .u64 ((n:Nat):Int)),(4,.int .i64 ((i:Nat):Int))]∧Mem w0 G (.blk b1 (bc (ls)) 302::L) w'∧(i≤20)∧(ls.length=20)∧(n < 18446744073709551616)∧(Lib.decDigits u=Lib.decDigits n++ls.drop i)) _ ⟨20,u,List.replicate 20 0,rfl,F.to ⟨rfl,rfl,rfl,trivial⟩,M,Nat.le_refl _,by simp,hu,by simp⟩ ?_;clear F M;rintro m a w ⟨i,n,ls,rfl,F,M,hi,hl20,hn64,hD⟩;revert a;refine J4<|Cj<|?_
 have h1i:=Auk hD hu hl20 hi;refine wk ?_;have hs3:(((i:Nat):Int) - 1:Int)=((i - 1:Nat):Int):=by omega
 intro a F;rw [hs3] at F;revert a;refine wk ?_;refine Am (fun a F=>C2 (F.ev rfl) (F.ev rfl) (by omega) (by omega)) rfl<|?_
 obtain ⟨B4,hB4⟩:=Ap (xs:=([48,49,50,51,52,53,54,55,56,57]:List UInt8)) (i:=n % 10) (by (show n % 10 < 10;omega));have lB4:=Wi B4;refine Am (fun a F=>C4 (i:=n % 10) Ej.k (F.ev rfl) (F.ev rfl) hB4) rfl<|Am (fun a F=>Bz (j:=i - 1) Xy.k Cl rfl (F.ev rfl) (F.ev rfl) (by omega) (by omega)) rfl<|fun a F=>?_
 refine P5 F M Cl rfl (k:=0) rfl rfl rfl rfl (List.getElem?_eq_getElem (by rw [Uy];omega)) ?_;clear F M a;intro w a M F;rw [Nat.zero_add,bc_set] at M;replace M:=z_M M;have hBt:=hB4;revert a;refine wk ?_;refine Am (fun a F=>Kj (F.ev rfl) (F.ev rfl) (by omega) (by omega) (Jc (by omega) (by omega))) rfl<|?_
 refine wk ?_;refine qD rfl ?_ ?_
 ·intro h5;refine wk ?_;refine Am (fun a F=>U6 (l:=i - 1) Xy.k Cl rfl (F.ev rfl) (F.ev rfl) (by omega) (by omega)) rfl<|Am (fun a F=>U4 M (k:=0) rfl La.k Cl.k Ej.k (F.ev rfl) (by rw [List.length_set];omega)) rfl<|?_
  refine wk ?_;refine Ad rfl rfl<|?_
  have h_:=Xd hD h1i hi hl20 hBt;rw [if_pos (by omega),List.nil_append] at h_
  exact ⟨M.weaken dS1,by rw [h_]⟩
 intro h6;refine wk ?_;intro a F
 exact ⟨_,by omega,i - 1,n / 10,(ls).set (i - 1) B4,rfl,F.to ⟨rfl,rfl,rfl,trivial⟩,M,by omega,by rw [List.length_set];exact hl20,by omega,by have h_:=Xd hD h1i hi hl20 hBt;rw [if_neg (by omega)] at h_;exact h_⟩
def RdecP (u:Nat):Prop:=∀ (w0 w:World) (G:Aq) (L:List Res),Mem w0 G L w→u < 18446744073709551616→Calls Tryz.prog 186 #[.int .u64 (u:Int)] w (Bu w0 G L fun v=>v=.string (str (Lib.decDigits u)))
theorem Aet {u:Nat} (ih:∀ v,v < u→RdecP v) {w0 w:World} {G:Aq} {L:List Res} (M:Mem w0 G L w) (hu:u < 18446744073709551616):Calls Tryz.prog 186 #[.int .u64 (u:Int)] w (Bu w0 G L fun v=>v=.string (str (Lib.decDigits u))):=by
 refine Al (vs:=[_]) Tryz.func186 rfl (n:=16) rfl rfl<|?_
 refine wk ?_;refine qD rfl ?_ ?_
 ·intro h1;refine wk ?_;refine Am (fun a F=>Gi (F.ev rfl) (F.ev rfl) (Jc (by omega) (by omega))) rfl<|Am (fun a F=>X8 (a:=u) (b:=u+1) Ej.k (F.ev rfl) ⟨(F.ev rfl),by omega⟩ ⟨(F.ev rfl),by omega⟩ (by (first | omega | (show u+1≤10;omega))) (by (first | omega | (show u+1≤10;omega)))) rfl<|?_
  have hsl2:(([48,49,50,51,52,53,54,55,56,57]:List UInt8).take (u+1)).drop (u)=[UInt8.ofNat (48+u)]:=Xb u (by omega);intro a F;rw [hsl2] at F;revert a;refine wk ?_;refine Ad rfl rfl<|?_
  exact ⟨M,by rw [Qq (by omega)]⟩
 intro h3;refine wk ?_;refine Am (fun a F=>Kj (F.ev rfl) (F.ev rfl) (by omega) (by omega) (Jc (by omega) (by omega))) rfl<|A4 Uk rfl rfl (ih (u / 10) (by omega) _ _ _ _ M (by omega))<|?_;clear M;rintro _ w M rfl
 have hdld4:=Dd (u / 10) (by omega);refine C0 rfl<|?_
 refine Am (fun a F=>C2 (F.ev rfl) (F.ev rfl) (by omega) (by omega)) rfl<|A4 Uk rfl rfl (ih (u % 10) (by omega) _ _ _ _ M (by omega))<|?_;clear M;rintro _ w M rfl
 have hdld5:=Dd (u % 10) (by omega);refine Am (fun a F=>C1 (F.ev rfl) (F.ev rfl) (by (try simp only [List.length_append,List.length_cons,List.length_nil]);omega)) rfl<|?_
 refine wk ?_;refine Ad rfl rfl<|?_
 exact ⟨M,by rw [dec_two (by omega)]⟩
theorem Akb (u:Nat):RdecP u:=by
 induction u using Nat.strongRecOn with
 | _ u ih=>intro w0 w G L M hu;exact Aet ih M hu
theorem Nx (M:Mem w0 G L w) {u:Nat} (hu:u < 18446744073709551616):Calls Tryz.prog 186 #[.int .u64 (u:Int)] w (Bu w0 G L fun v=>v=.string (str (Lib.decDigits u))):=Akb u _ _ _ _ M hu
end Go.Proofs.YtmmhmcplegpenaaGreatDoor.T
