/- The walks, part TD. · The walks, part TE. · The walks, part TH. · The walks, part TI. -/
import Derived.Test.YtmmhmcplegpenaaGreatDoorJ2
set_option linter.unusedSimpArgs false
set_option linter.unusedVariables false
set_option maxRecDepth 10000
namespace Go.Proofs.YtmmhmcplegpenaaGreatDoor.T
open Go Go.Y Go.Proofs
variable {w0 w:World} {G:Ap} {L:List Res}
set_option maxHeartbeats 1600000
theorem Gw (M:Mem w0 G L w) {s:List UInt8} (hs:s.length≤9223372036854775807):Calls Tryz.prog 216 #[.string (str s)] w (Bn w0 G L fun v=>∃ b:Bool,v=.bool b∧(b=true↔Cf s)):=by
 refine Aj (vs:=[_]) Tryz.func216 rfl (n:=7) rfl rfl<|?_
 refine wk ?_;refine Aq (fun a F=>Ai (cs:=[.int .u8 1,.string (str s),.string (str []),.slice none 0 0,.string (str []),.slice none 0 0]) (ps:=[(0,.int .u8 1),(1,.string (str s))]) Av.k rfl Av (F.evp rfl) rfl) rfl<|A2 Arl rfl rfl (Gx (x:=(.mk 1 s ([]:List UInt8) [] ([]:List UInt8) []:NT)) M ⟨by show (0:Int)≤1;omega,by show 1≤(255:Int);omega⟩ ⟨by first | exact Nat.zero_le _ | assumption | (simp only [Tr.tag,Tr.key,Tr.text];omega),by first | exact Nat.zero_le _ | assumption | (simp only [Tr.tag,Tr.key,Tr.text];omega),by first | exact Nat.zero_le _ | assumption | (simp only [Tr.tag,Tr.key,Tr.text];omega)⟩ Ag.nil Ag.nil)<|?_;clear M;rintro _ w M rfl
 refine wk ?_;refine Aa rfl rfl<|?_
 exact ⟨M,(decide (Uw ((.mk 1 s ([]:List UInt8) [] ([]:List UInt8) []:NT))=0)),rfl,(decide_eq_true_iff.trans (Qx.trans Aay))⟩
theorem Lj (M:Mem w0 G L w) {s:List UInt8} (hs:s.length≤9223372036854775807):Calls Tryz.prog 214 #[.string (str s)] w (Bn w0 G L fun v=>∃ b:Bool,v=.bool b∧(b=true↔Str s)):=by
 refine Aj (vs:=[_]) Tryz.func214 rfl (n:=7) rfl rfl<|?_
 refine wk ?_;refine Aq (fun a F=>Ai (cs:=[.int .u8 2,.string (str []),.string (str []),.slice none 0 0,.string (str s),.slice none 0 0]) (ps:=[(0,.int .u8 2),(4,.string (str s))]) Av.k rfl Av (F.evp rfl) rfl) rfl<|A2 Arl rfl rfl (Gx (x:=(.mk 2 ([]:List UInt8) ([]:List UInt8) [] s []:NT)) M ⟨by show (0:Int)≤2;omega,by show 2≤(255:Int);omega⟩ ⟨by first | exact Nat.zero_le _ | assumption | (simp only [Tr.tag,Tr.key,Tr.text];omega),by first | exact Nat.zero_le _ | assumption | (simp only [Tr.tag,Tr.key,Tr.text];omega),by first | exact Nat.zero_le _ | assumption | (simp only [Tr.tag,Tr.key,Tr.text];omega)⟩ Ag.nil Ag.nil)<|?_;clear M;rintro _ w M rfl
 refine wk ?_;refine Aa rfl rfl<|?_
 exact ⟨M,(decide (Uw ((.mk 2 ([]:List UInt8) ([]:List UInt8) [] s []:NT))=0)),rfl,(decide_eq_true_iff.trans (Qx.trans Zq))⟩
theorem Li (M:Mem w0 G L w) {ad:Option Addr} {cd:Nat} {xs:List SlotD} (S:Ag rdSlot 3 G (.slice ad xs.length cd) xs) (hxs:xs.length≤9223372036854775807):Calls Tryz.prog 235 #[.slice ad xs.length cd] w (Bn w0 G L fun v=>∃ b:Bool,v=.bool b∧(b=true↔Gs xs)):=by
 refine Aj (vs:=[_]) Tryz.func235 rfl (n:=56) rfl rfl<|?_
 refine wk ?_;refine qD rfl ?_ ?_
 ·intro h1;refine wk ?_;refine Aa rfl rfl<|?_
  exact ⟨M,false,rfl,⟨fun h_=>(by cases h_),fun h_=>(by have:=h_.1;omega)⟩⟩
 intro h2;refine wk ?_;refine fun a F=>A3 (fun m a' w'=>∃ (i:Nat),m=xs.length - i∧Fits 56 a' [(0,.slice ad xs.length cd),(8,.slice ad xs.length cd),(9,.int .i64 ((xs.length:Nat):Int)),(10,.int .i64 ((i:Nat):Int))]∧Mem w0 G (L) w'∧(i≤xs.length)∧(Gl xs i)) _ ⟨0,rfl,F.to ⟨rfl,rfl,rfl,rfl,trivial⟩,M,Nat.zero_le _,Gl.zero _⟩ ?_;clear F M;rintro m a w ⟨i,rfl,F,M,hi,hS⟩;revert a;refine wk ?_;refine qD rfl ?_ ?_
 ·intro h3;refine wk ?_;obtain ⟨Xe4,hXe4⟩:=Ak (xs:=xs) (i:=i) (by omega);obtain ⟨be4,oe4,_,Ie4,_,Ae4,⟨rfl,hn1e4,hk1e4,hv1e4⟩⟩:=S.at hXe4;refine wk ?_;refine Bv M E8 rfl rfl<|?_;clear M;intro b5 w M
  refine Eh rfl<|?_
  intro a F;refine Be F M E8 0 ?_;clear F M a;intro w a M F;revert a;refine B7<|?_
  refine fun a F=>D4 [(.free,0),(.pure,1),(.keep,2),(.free,3),(.free,4),(.free,5),(.pure,6),(.free,7),(.free,8),(.free,9),(.free,10),(.pure,11),(.keep,12),(.free,13),(.free,14),(.free,15),(.free,16),(.pure,17),(.free,18),(.free,19),(.free,20),(.pure,21),(.free,22),(.free,23),(.free,24),(.free,25),(.free,26),(.free,27),(.free,28),(.free,29),(.pure,30),(.free,31),(.free,32),(.free,33),(.free,34),(.free,35),(.pure,36),(.free,37),(.free,38),(.free,39)] [] (Keep G [.blk b5 [.string (str Xe4.n),.int .u8 Xe4.src,.string (str Xe4.v)] 189]) rfl (by kernel_rfl) (fun c a d v w h=>by cases d <;> exact h) (Aw (M.drew _)) ?_;replace M:=M.drew (w.drawn+1);revert a;refine wk ?_;refine k_k rfl<|A2 Qt rfl rfl (Gw (s:=Xe4.n) M (by omega))<|?_;clear M;rintro _ w M ⟨b7,rfl,hb7⟩
  refine Ao<|?_
  refine eQ (Aw M)<|?_
  refine wk ?_
  rcases bE (!(b7)) with h8b | h9b
  ·skip
   have h8:=Ab h8b;have h8c:(b7)=false:=(Ab h8b);refine wk ?_;refine Aa rfl rfl<|?_
   exact ⟨(M.weaken (cN (sR _))),false,rfl,(by have hu:=J3 hk1e4;have q0:=Fa hXe4;have q9:=@Fo;clear M;unfold D3 at q0;grind)⟩
  have h9:=Ac h9b;have h9c:(b7)=true:=(Ac h9b);refine wk ?_
  rcases bE (decide (3 < Xe4.src)) with h10b | h11b
  ·skip
   have h10:=dT h10b;refine wk ?_;refine Aa rfl rfl<|?_
   exact ⟨(M.weaken (cN (sR _))),false,rfl,(by have hu:=J3 hk1e4;have q0:=Fa hXe4;have q9:=@Fo;clear M;unfold D3 at q0;grind)⟩
  have h11:=dF h11b;refine wk ?_;refine fun a F=>Fk F rfl rfl h11b ?_;revert a;refine g_t rfl h11b<|?_
  refine A2 Afw rfl rfl (Lj (s:=Xe4.v) M (by omega))<|?_;clear M;rintro _ w M ⟨b12,rfl,hb12⟩
  refine Ao<|?_
  refine eQ (Aw M)<|?_
  refine wk ?_
  rcases bE (!(b12)) with h13b | h14b
  ·skip
   have h13:=Ab h13b;have h13c:(b12)=false:=(Ab h13b);refine wk ?_;refine Aa rfl rfl<|?_
   exact ⟨(M.weaken (cN (sR _))),false,rfl,(by have hu:=J3 hk1e4;have q0:=Fa hXe4;have q9:=@Fo;clear M;unfold D3 at q0;grind)⟩
  have h14:=Ac h14b;have h14c:(b12)=true:=(Ac h14b);refine wk ?_
  rcases bE (decide (0 < Xe4.src)) with h15b | h24b
  ·skip
   have h15:=dT h15b;refine wk ?_
   rcases bE (!(decide (Xe4.v=([]:List UInt8)))) with h16b | h17b
   ·skip
    have h16:=dF (Ab h16b);have h16c:(decide (Xe4.v=([]:List UInt8)))=false:=(Ab h16b);refine wk ?_;refine Aa rfl rfl<|?_
    exact ⟨(M.weaken (cN (sR _))),false,rfl,(by have hu:=J3 hk1e4;have q0:=Fa hXe4;have q9:=@Fo;clear M;unfold D3 at q0;grind)⟩
   have h17:=dT (Ac h17b);have h17c:(decide (Xe4.v=([]:List UInt8)))=true:=(Ac h17b);refine wk ?_
   rcases bE (decide (0 < ((i:Nat):Int))) with h18b | h23b
   ·skip
    have h18:=dT h18b;refine wk ?_;have hs19:(((i:Nat):Int) - 1:Int)=((i - 1:Nat):Int):=by omega
    intro a F;rw [hs19] at F;obtain ⟨Xe20,hXe20⟩:=Ak (xs:=xs) (i:=i - 1) (by omega);obtain ⟨be20,oe20,_,Ie20,_,Ae20,⟨rfl,hn1e20,hk1e20,hv1e20⟩⟩:=S.at hXe20;revert a;refine wk ?_;refine Le rfl h18b (fun a F w _=>Nu (F.ev rfl) (F.ev rfl))<|?_
    refine wk ?_;refine Ae rfl ?_ ?_
    ·intro h21b;have h21:(Op.bytesLess Xe4.n Xe20.n || Xe4.n==Xe20.n)=true:=h21b;refine wk ?_;refine Aa rfl rfl<|?_
     exact ⟨(M.weaken (cN (sR _))),false,rfl,(by have hu:=J3 hk1e4;have q0:=Fa hXe4;have q1:=Mo hXe4 hXe20;have q9:=@Fo;clear M;unfold D3 at q0;grind)⟩
    intro h22b;have h22:(Op.bytesLess Xe4.n Xe20.n || Xe4.n==Xe20.n)=false:=h22b;refine wk ?_;intro a F
    exact ⟨_,by omega,i+1,rfl,F.to ⟨rfl,rfl,rfl,rfl,trivial⟩,(M.weaken (cN (sR _))),by omega,hS.step hXe4 (by have hu:=J3 hk1e4;clear F M;unfold D3;grind) (fun y h_ hy=>by rw [hXe20] at hy;simp only [Option.some.injEq] at hy;subst hy;clear F M;have q99:=@Fo;grind)⟩
   have h23:=dF h23b;refine wk ?_;intro a F
   exact ⟨_,by omega,i+1,rfl,F.to ⟨rfl,rfl,rfl,rfl,trivial⟩,(M.weaken (cN (sR _))),by omega,hS.step hXe4 (by have hu:=J3 hk1e4;clear F M;unfold D3;grind) (fun y h_=>by omega)⟩
  have h24:=dF h24b;refine wk ?_
  rcases bE (decide (0 < ((i:Nat):Int))) with h25b | h30b
  ·skip
   have h25:=dT h25b;refine wk ?_;have hs26:(((i:Nat):Int) - 1:Int)=((i - 1:Nat):Int):=by omega
   intro a F;rw [hs26] at F;obtain ⟨Xe27,hXe27⟩:=Ak (xs:=xs) (i:=i - 1) (by omega);obtain ⟨be27,oe27,_,Ie27,_,Ae27,⟨rfl,hn1e27,hk1e27,hv1e27⟩⟩:=S.at hXe27;revert a;refine wk ?_;refine Le rfl h25b (fun a F w _=>Nu (F.ev rfl) (F.ev rfl))<|?_
   refine wk ?_;refine Ae rfl ?_ ?_
   ·intro h28b;have h28:(Op.bytesLess Xe4.n Xe27.n || Xe4.n==Xe27.n)=true:=h28b;refine wk ?_;refine Aa rfl rfl<|?_
    exact ⟨(M.weaken (cN (sR _))),false,rfl,(by have hu:=J3 hk1e4;have q0:=Fa hXe4;have q1:=Mo hXe4 hXe27;have q9:=@Fo;clear M;unfold D3 at q0;grind)⟩
   intro h29b;have h29:(Op.bytesLess Xe4.n Xe27.n || Xe4.n==Xe27.n)=false:=h29b;refine wk ?_;intro a F
   exact ⟨_,by omega,i+1,rfl,F.to ⟨rfl,rfl,rfl,rfl,trivial⟩,(M.weaken (cN (sR _))),by omega,hS.step hXe4 (by have hu:=J3 hk1e4;clear F M;unfold D3;grind) (fun y h_ hy=>by rw [hXe27] at hy;simp only [Option.some.injEq] at hy;subst hy;clear F M;have q99:=@Fo;grind)⟩
  have h30:=dF h30b;refine wk ?_;intro a F
  exact ⟨_,by omega,i+1,rfl,F.to ⟨rfl,rfl,rfl,rfl,trivial⟩,(M.weaken (cN (sR _))),by omega,hS.step hXe4 (by have hu:=J3 hk1e4;clear F M;unfold D3;grind) (fun y h_=>by omega)⟩
 intro h31;refine wk ?_;refine Aa rfl rfl<|?_
 exact ⟨M,true,rfl,⟨fun _=>hS.done (by omega) (by omega),fun _=>rfl⟩⟩
theorem Lz (M:Mem w0 G L w) {ad:Option Addr} {cd:Nat} {xs:List SlotD} (S:Ag rdSlot 3 G (.slice ad xs.length cd) xs) (hxs:xs.length≤9223372036854775807):Calls Tryz.prog 234 #[.slice ad xs.length cd] w (Bn w0 G L fun v=>∃ b:Bool,v=.bool b∧(b=true↔Gs xs)):=by
 refine Aj (vs:=[_]) Tryz.func234 rfl (n:=58) rfl rfl<|?_
 refine wk ?_;refine qD rfl ?_ ?_
 ·intro h1;refine wk ?_;refine Aa rfl rfl<|?_
  exact ⟨M,false,rfl,⟨fun h_=>(by cases h_),fun h_=>(by have:=h_.1;omega)⟩⟩
 intro h2;refine wk ?_;refine fun a F=>A3 (fun m a' w'=>∃ (i:Nat),m=xs.length - i∧Fits 58 a' [(0,.slice ad xs.length cd),(3,.int .i64 ((i:Nat):Int))]∧Mem w0 G (L) w'∧(i≤xs.length)∧(Gl xs i)) _ ⟨0,rfl,F.to ⟨rfl,rfl,trivial⟩,M,Nat.zero_le _,Gl.zero _⟩ ?_;clear F M;rintro m a w ⟨i,rfl,F,M,hi,hS⟩;revert a;refine wk ?_;refine qD rfl ?_ ?_
 ·intro h3;refine wk ?_;obtain ⟨Xe4,hXe4⟩:=Ak (xs:=xs) (i:=i) (by omega);obtain ⟨be4,oe4,_,Ie4,_,Ae4,⟨rfl,hn1e4,hk1e4,hv1e4⟩⟩:=S.at hXe4;refine wk ?_;refine Bv M E8 rfl rfl<|?_;clear M;intro b5 w M
  intro a F;refine Be F M E8 0 ?_;clear F M a;intro w a M F;revert a;refine B7<|?_
  refine fun a F=>D4 [(.free,0),(.pure,1),(.keep,2),(.free,3),(.free,4),(.free,5),(.pure,6),(.free,7),(.free,8),(.free,9),(.free,10),(.pure,11),(.keep,12),(.free,13),(.free,14),(.free,15),(.free,16),(.pure,17),(.free,18),(.free,19),(.free,20),(.pure,21),(.free,22),(.free,23),(.free,24),(.free,25),(.free,26),(.free,27),(.free,28),(.free,29),(.free,30),(.free,31),(.free,32),(.free,33),(.pure,34),(.free,35),(.pure,36),(.free,37),(.free,38),(.free,39)] [] (Keep G [.blk b5 [.string (str Xe4.n),.int .u8 Xe4.src,.string (str Xe4.v)] 189]) rfl (by kernel_rfl) (fun c a d v w h=>by cases d <;> exact h) (Aw (M.drew _)) ?_;replace M:=M.drew (w.drawn+1);revert a;refine wk ?_;refine k_k rfl<|A2 Mf rfl rfl (Dt (s:=Xe4.n) M (by omega))<|?_;clear M;rintro _ w M ⟨b7,rfl,hb7⟩
  refine Ao<|?_
  refine eQ (Aw M)<|?_
  refine wk ?_
  rcases bE (!(b7)) with h8b | h9b
  ·skip
   have h8:=Ab h8b;have h8c:(b7)=false:=(Ab h8b);refine wk ?_;refine Aa rfl rfl<|?_
   exact ⟨(M.weaken (cN (sR _))),false,rfl,(by have hu:=J3 hk1e4;have q0:=Fa hXe4;have q9:=@Fo;clear M;unfold D3 at q0;grind)⟩
  have h9:=Ac h9b;have h9c:(b7)=true:=(Ac h9b);refine wk ?_
  rcases bE (decide (3 < Xe4.src)) with h10b | h11b
  ·skip
   have h10:=dT h10b;refine wk ?_;refine Aa rfl rfl<|?_
   exact ⟨(M.weaken (cN (sR _))),false,rfl,(by have hu:=J3 hk1e4;have q0:=Fa hXe4;have q9:=@Fo;clear M;unfold D3 at q0;grind)⟩
  have h11:=dF h11b;refine wk ?_;refine fun a F=>Fk F rfl rfl h11b ?_;revert a;refine g_t rfl h11b<|?_
  refine A2 Um rfl rfl (Kc (s:=Xe4.v) M (by omega))<|?_;clear M;rintro _ w M ⟨b12,rfl,hb12⟩
  refine Ao<|?_
  refine eQ (Aw M)<|?_
  refine wk ?_
  rcases bE (!(b12)) with h13b | h14b
  ·skip
   have h13:=Ab h13b;have h13c:(b12)=false:=(Ab h13b);refine wk ?_;refine Aa rfl rfl<|?_
   exact ⟨(M.weaken (cN (sR _))),false,rfl,(by have hu:=J3 hk1e4;have q0:=Fa hXe4;have q9:=@Fo;clear M;unfold D3 at q0;grind)⟩
  have h14:=Ac h14b;have h14c:(b12)=true:=(Ac h14b);refine wk ?_
  rcases bE (!(decide (Xe4.src=0))) with h15b | h24b
  ·skip
   have h15:=dF (Ab h15b);have h15c:(decide (Xe4.src=0))=false:=(Ab h15b);refine wk ?_
   rcases bE (!(decide (Xe4.v=([]:List UInt8)))) with h16b | h17b
   ·skip
    have h16:=dF (Ab h16b);have h16c:(decide (Xe4.v=([]:List UInt8)))=false:=(Ab h16b);refine wk ?_;refine Aa rfl rfl<|?_
    exact ⟨(M.weaken (cN (sR _))),false,rfl,(by have hu:=J3 hk1e4;have q0:=Fa hXe4;have q9:=@Fo;clear M;unfold D3 at q0;grind)⟩
   have h17:=dT (Ac h17b);have h17c:(decide (Xe4.v=([]:List UInt8)))=true:=(Ac h17b);refine wk ?_
   rcases bE (decide (0 < ((i:Nat):Int))) with h18b | h23b
   ·skip
    have h18:=dT h18b;refine wk ?_;have hs19:(((i:Nat):Int) - 1:Int)=((i - 1:Nat):Int):=by omega
    intro a F;rw [hs19] at F;obtain ⟨Xe20,hXe20⟩:=Ak (xs:=xs) (i:=i - 1) (by omega);obtain ⟨be20,oe20,_,Ie20,_,Ae20,⟨rfl,hn1e20,hk1e20,hv1e20⟩⟩:=S.at hXe20;revert a;refine wk ?_;refine Le rfl h18b (fun a F w _=>Nv (F.ev rfl) (F.ev rfl))<|?_
    refine wk ?_;refine Ae rfl ?_ ?_
    ·intro h21b;have h21:=Ab h21b;have h21c:(Op.bytesLess Xe20.n Xe4.n)=false:=(Ab h21b);refine wk ?_;refine Aa rfl rfl<|?_
     exact ⟨(M.weaken (cN (sR _))),false,rfl,(by have hu:=J3 hk1e4;have q0:=Fa hXe4;have q1:=Mo hXe4 hXe20;have q9:=@Fo;clear M;unfold D3 at q0;grind)⟩
    intro h22b;have h22:=Ac h22b;have h22c:(Op.bytesLess Xe20.n Xe4.n)=true:=(Ac h22b);refine wk ?_;intro a F
    exact ⟨_,by omega,i+1,rfl,F.to ⟨rfl,rfl,trivial⟩,(M.weaken (cN (sR _))),by omega,hS.step hXe4 (by have hu:=J3 hk1e4;clear F M;unfold D3;grind) (fun y h_ hy=>by rw [hXe20] at hy;simp only [Option.some.injEq] at hy;subst hy;clear F M;have q99:=@Fo;grind)⟩
   have h23:=dF h23b;refine wk ?_;intro a F
   exact ⟨_,by omega,i+1,rfl,F.to ⟨rfl,rfl,trivial⟩,(M.weaken (cN (sR _))),by omega,hS.step hXe4 (by have hu:=J3 hk1e4;clear F M;unfold D3;grind) (fun y h_=>by omega)⟩
  have h24:=dT (Ac h24b);have h24c:(decide (Xe4.src=0))=true:=(Ac h24b);refine wk ?_
  rcases bE (decide (0 < ((i:Nat):Int))) with h25b | h30b
  ·skip
   have h25:=dT h25b;refine wk ?_;have hs26:(((i:Nat):Int) - 1:Int)=((i - 1:Nat):Int):=by omega
   intro a F;rw [hs26] at F;obtain ⟨Xe27,hXe27⟩:=Ak (xs:=xs) (i:=i - 1) (by omega);obtain ⟨be27,oe27,_,Ie27,_,Ae27,⟨rfl,hn1e27,hk1e27,hv1e27⟩⟩:=S.at hXe27;revert a;refine wk ?_;refine Le rfl h25b (fun a F w _=>Nv (F.ev rfl) (F.ev rfl))<|?_
   refine wk ?_;refine Ae rfl ?_ ?_
   ·intro h28b;have h28:=Ab h28b;have h28c:(Op.bytesLess Xe27.n Xe4.n)=false:=(Ab h28b);refine wk ?_;refine Aa rfl rfl<|?_
    exact ⟨(M.weaken (cN (sR _))),false,rfl,(by have hu:=J3 hk1e4;have q0:=Fa hXe4;have q1:=Mo hXe4 hXe27;have q9:=@Fo;clear M;unfold D3 at q0;grind)⟩
   intro h29b;have h29:=Ac h29b;have h29c:(Op.bytesLess Xe27.n Xe4.n)=true:=(Ac h29b);refine wk ?_;intro a F
   exact ⟨_,by omega,i+1,rfl,F.to ⟨rfl,rfl,trivial⟩,(M.weaken (cN (sR _))),by omega,hS.step hXe4 (by have hu:=J3 hk1e4;clear F M;unfold D3;grind) (fun y h_ hy=>by rw [hXe27] at hy;simp only [Option.some.injEq] at hy;subst hy;clear F M;have q99:=@Fo;grind)⟩
  have h30:=dF h30b;refine wk ?_;intro a F
  exact ⟨_,by omega,i+1,rfl,F.to ⟨rfl,rfl,trivial⟩,(M.weaken (cN (sR _))),by omega,hS.step hXe4 (by have hu:=J3 hk1e4;clear F M;unfold D3;grind) (fun y h_=>by omega)⟩
 intro h31;refine wk ?_;refine Aa rfl rfl<|?_
 exact ⟨M,true,rfl,⟨fun _=>hS.done (by omega) (by omega),fun _=>rfl⟩⟩
theorem Z0 (M:Mem w0 G L w) {rk:Rd PT} {x:PT} {ta:Option Addr} {tc:Nat} {ka:Option Addr} {kc:Nat} (hk:Al .u8 x.kind) (hl:(x.tag.length≤9223372036854775807∧x.key.length≤9223372036854775807∧x.text.length≤9223372036854775807)) (SA:Ag rdSlot 3 G (.slice ta x.as.length tc) x.as) (SK:Ag rk 6 G (.slice ka x.kids.length kc) x.kids) {nb no:Nat} (A:At G nb no [.int .u8 x.kind,.string (str x.tag),.string (str x.key),.slice ta x.as.length tc,.string (str x.text),.slice ka x.kids.length kc]):Calls Tryz.prog 228 #[.pointer (some ⟨nb,no,none⟩)] w (Bn w0 G L fun v=>∃ bb:Bool,v=.bool bb∧(bb=true↔Bb x)):=by
 refine Aj (vs:=[_]) Tryz.func228 rfl (n:=91) rfl rfl<|?_
 refine wk ?_;refine Bv M Dr rfl rfl<|?_;clear M;intro b1 w M
 intro a F;refine Be F M Dr 0 ?_;clear F M a;intro w a M F;replace M:=z_M M;revert a;refine wk ?_;refine qD rfl ?_ ?_
 ·intro h3;refine wk ?_
  rcases bE (!(decide (x.key=([]:List UInt8)))) with h4b | h18b
  ·skip
   have h4:=dF (Ab h4b);have h4c:(decide (x.key=([]:List UInt8)))=false:=(Ab h4b);refine wk ?_;refine A2 Qt rfl rfl (Gw (s:=x.key) M (by omega))<|?_;clear M;rintro _ w M ⟨b5,rfl,hb5⟩
   refine wk ?_
   rcases bE (!(b5)) with h6b | h7b
   ·skip
    have h6:=Ab h6b;have h6c:(b5)=false:=(Ab h6b);refine wk ?_;refine Aa rfl rfl<|?_
    exact ⟨(M.weaken (cN (sR _))),false,rfl,(by clear M;unfold Bb;grind)⟩
   have h7:=Ac h7b;have h7c:(b5)=true:=(Ac h7b);refine wk ?_;refine qD rfl ?_ ?_
   ·intro h8;refine wk ?_;refine Aa rfl rfl<|?_
    exact ⟨(M.weaken (cN (sR _))),false,rfl,(by clear M;unfold Bb;grind)⟩
   intro h9;refine wk ?_;refine Dz Dg M 0 rfl rfl rfl rfl rfl rfl<|?_;clear M;intro w M
   refine wk ?_;refine Dz Q6 M 0 rfl rfl rfl rfl rfl rfl<|?_;clear M;intro w M
   refine wk ?_;refine A2 Qt rfl rfl (Gw (s:=x.tag) M (by omega))<|?_;clear M;rintro _ w M ⟨b10,rfl,hb10⟩
   refine wk ?_
   rcases bE (!(b10)) with h11b | h12b
   ·skip
    have h11:=Ab h11b;have h11c:(b10)=false:=(Ab h11b);refine wk ?_;refine Aa rfl rfl<|?_
    exact ⟨(M.weaken (cN (sR _))),false,rfl,(by clear M;unfold Bb;grind)⟩
   have h12:=Ac h12b;have h12c:(b10)=true:=(Ac h12b);refine wk ?_;refine A2 Aft rfl rfl (Li (xs:=x.as) M SA (by have:=SA.bound;omega))<|?_;clear M;rintro _ w M ⟨b13,rfl,hb13⟩
   refine wk ?_;refine Ae rfl ?_ ?_
   ·intro h14b;have h14:=Ab h14b;have h14c:(b13)=false:=(Ab h14b);refine wk ?_;refine Aa rfl rfl<|?_
    exact ⟨(M.weaken (cN (sR _))),false,rfl,(by clear M;unfold Bb;grind)⟩
   intro h15b;have h15:=Ac h15b;have h15c:(b13)=true:=(Ac h15b);refine wk ?_;refine Dz Dg M 0 rfl rfl rfl rfl rfl rfl<|?_;clear M;intro w M
   refine wk ?_;refine Dz Ot M 0 rfl rfl rfl rfl rfl rfl<|?_;clear M;intro w M
   refine wk ?_
   rcases bE (decide (x.text=([]:List UInt8))) with h16b | h17b
   ·skip
    have h16:=dT h16b;refine wk ?_;refine Aa rfl rfl<|?_
    exact ⟨(M.weaken (cN (sR _))),(decide (((0:Nat):Int)=0)),rfl,(by clear M;unfold Bb;grind)⟩
   have h17:=dF h17b;refine wk ?_;refine Aa rfl rfl<|?_
   exact ⟨(M.weaken (cN (sR _))),false,rfl,(by clear M;unfold Bb;grind)⟩
  have h18:=dT (Ac h18b);have h18c:(decide (x.key=([]:List UInt8)))=true:=(Ac h18b);refine wk ?_;refine qD rfl ?_ ?_
  ·intro h19;refine wk ?_;refine Aa rfl rfl<|?_
   exact ⟨(M.weaken (cN (sR _))),false,rfl,(by clear M;unfold Bb;grind)⟩
  intro h20;refine wk ?_;refine Dz Dg M 0 rfl rfl rfl rfl rfl rfl<|?_;clear M;intro w M
  refine wk ?_;refine Dz Q6 M 0 rfl rfl rfl rfl rfl rfl<|?_;clear M;intro w M
  refine wk ?_;refine A2 Qt rfl rfl (Gw (s:=x.tag) M (by omega))<|?_;clear M;rintro _ w M ⟨b21,rfl,hb21⟩
  refine wk ?_
  rcases bE (!(b21)) with h22b | h23b
  ·skip
   have h22:=Ab h22b;have h22c:(b21)=false:=(Ab h22b);refine wk ?_;refine Aa rfl rfl<|?_
   exact ⟨(M.weaken (cN (sR _))),false,rfl,(by clear M;unfold Bb;grind)⟩
  have h23:=Ac h23b;have h23c:(b21)=true:=(Ac h23b);refine wk ?_;refine A2 Aft rfl rfl (Li (xs:=x.as) M SA (by have:=SA.bound;omega))<|?_;clear M;rintro _ w M ⟨b24,rfl,hb24⟩
  refine wk ?_;refine Ae rfl ?_ ?_
  ·intro h25b;have h25:=Ab h25b;have h25c:(b24)=false:=(Ab h25b);refine wk ?_;refine Aa rfl rfl<|?_
   exact ⟨(M.weaken (cN (sR _))),false,rfl,(by clear M;unfold Bb;grind)⟩
  intro h26b;have h26:=Ac h26b;have h26c:(b24)=true:=(Ac h26b);refine wk ?_;refine Dz Dg M 0 rfl rfl rfl rfl rfl rfl<|?_;clear M;intro w M
  refine wk ?_;refine Dz Ot M 0 rfl rfl rfl rfl rfl rfl<|?_;clear M;intro w M
  refine wk ?_
  rcases bE (decide (x.text=([]:List UInt8))) with h27b | h28b
  ·skip
   have h27:=dT h27b;refine wk ?_;refine Aa rfl rfl<|?_
   exact ⟨(M.weaken (cN (sR _))),(decide (((0:Nat):Int)=0)),rfl,(by clear M;unfold Bb;grind)⟩
  have h28:=dF h28b;refine wk ?_;refine Aa rfl rfl<|?_
  exact ⟨(M.weaken (cN (sR _))),false,rfl,(by clear M;unfold Bb;grind)⟩
 intro h29;refine wk ?_;refine qD rfl ?_ ?_
 ·intro h30;refine wk ?_;refine A2 Qt rfl rfl (Gw (s:=x.tag) M (by omega))<|?_;clear M;rintro _ w M ⟨b31,rfl,hb31⟩
  refine wk ?_
  rcases bE (!(b31)) with h32b | h33b
  ·skip
   have h32:=Ab h32b;have h32c:(b31)=false:=(Ab h32b);refine wk ?_;refine Aa rfl rfl<|?_
   exact ⟨(M.weaken (cN (sR _))),false,rfl,(by clear M;unfold Bb;grind)⟩
  have h33:=Ac h33b;have h33c:(b31)=true:=(Ac h33b);refine wk ?_;refine A2 Aft rfl rfl (Li (xs:=x.as) M SA (by have:=SA.bound;omega))<|?_;clear M;rintro _ w M ⟨b34,rfl,hb34⟩
  refine wk ?_;refine Ae rfl ?_ ?_
  ·intro h35b;have h35:=Ab h35b;have h35c:(b34)=false:=(Ab h35b);refine wk ?_;refine Aa rfl rfl<|?_
   exact ⟨(M.weaken (cN (sR _))),false,rfl,(by clear M;unfold Bb;grind)⟩
  intro h36b;have h36:=Ac h36b;have h36c:(b34)=true:=(Ac h36b);refine wk ?_;refine Dz Dg M 0 rfl rfl rfl rfl rfl rfl<|?_;clear M;intro w M
  refine wk ?_;refine Dz Ot M 0 rfl rfl rfl rfl rfl rfl<|?_;clear M;intro w M
  refine wk ?_
  rcases bE (decide (x.key=([]:List UInt8))) with h37b | h40b
  ·skip
   have h37:=dT h37b;refine wk ?_
   rcases bE (decide (x.text=([]:List UInt8))) with h38b | h39b
   ·skip
    have h38:=dT h38b;refine wk ?_;refine Aa rfl rfl<|?_
    exact ⟨(M.weaken (cN (sR _))),(decide (((x.kids.length:Nat):Int)=0)),rfl,(by clear M;unfold Bb;grind)⟩
   have h39:=dF h39b;refine wk ?_;refine Aa rfl rfl<|?_
   exact ⟨(M.weaken (cN (sR _))),false,rfl,(by clear M;unfold Bb;grind)⟩
  have h40:=dF h40b;refine wk ?_;refine Aa rfl rfl<|?_
  exact ⟨(M.weaken (cN (sR _))),false,rfl,(by clear M;unfold Bb;grind)⟩
 intro h41;refine wk ?_;refine qD rfl ?_ ?_
 ·intro h42;refine wk ?_;refine A2 Afw rfl rfl (Lj (s:=x.text) M (by omega))<|?_;clear M;rintro _ w M ⟨b43,rfl,hb43⟩
  refine wk ?_;refine Ae rfl ?_ ?_
  ·intro h44b;have h44:=Ab h44b;have h44c:(b43)=false:=(Ab h44b);refine wk ?_;refine Aa rfl rfl<|?_
   exact ⟨(M.weaken (cN (sR _))),false,rfl,(by clear M;unfold Bb;grind)⟩
  intro h45b;have h45:=Ac h45b;have h45c:(b43)=true:=(Ac h45b);refine wk ?_;refine Dz Dg M 0 rfl rfl rfl rfl rfl rfl<|?_;clear M;intro w M
  refine wk ?_
  rcases bE (decide (x.tag=([]:List UInt8))) with h46b | h51b
  ·skip
   have h46:=dT h46b;refine wk ?_
   rcases bE (decide (x.key=([]:List UInt8))) with h47b | h50b
   ·skip
    have h47:=dT h47b;refine wk ?_
    rcases bE (decide (((x.as.length:Nat):Int)=0)) with h48b | h49b
    ·skip
     have h48:=dT h48b;refine wk ?_;refine Aa rfl rfl<|?_
     exact ⟨(M.weaken (cN (sR _))),(decide (((x.kids.length:Nat):Int)=0)),rfl,(by clear M;unfold Bb;grind)⟩
    have h49:=dF h49b;refine wk ?_;refine Aa rfl rfl<|?_
    exact ⟨(M.weaken (cN (sR _))),false,rfl,(by clear M;unfold Bb;grind)⟩
   have h50:=dF h50b;refine wk ?_;refine Aa rfl rfl<|?_
   exact ⟨(M.weaken (cN (sR _))),false,rfl,(by clear M;unfold Bb;grind)⟩
  have h51:=dF h51b;refine wk ?_;refine Aa rfl rfl<|?_
  exact ⟨(M.weaken (cN (sR _))),false,rfl,(by clear M;unfold Bb;grind)⟩
 intro h52;refine wk ?_;refine qD rfl ?_ ?_
 ·intro h53;refine wk ?_
  rcases bE (decide (x.tag=([]:List UInt8))) with h54b | h61b
  ·skip
   have h54:=dT h54b;refine wk ?_
   rcases bE (decide (x.key=([]:List UInt8))) with h55b | h60b
   ·skip
    have h55:=dT h55b;refine wk ?_
    rcases bE (decide (x.text=([]:List UInt8))) with h56b | h59b
    ·skip
     have h56:=dT h56b;refine wk ?_
     rcases bE (decide (((x.as.length:Nat):Int)=0)) with h57b | h58b
     ·skip
      have h57:=dT h57b;refine wk ?_;refine Aa rfl rfl<|?_
      exact ⟨(M.weaken (cN (sR _))),(decide (((x.kids.length:Nat):Int)=0)),rfl,(by clear M;unfold Bb;grind)⟩
     have h58:=dF h58b;refine wk ?_;refine Aa rfl rfl<|?_
     exact ⟨(M.weaken (cN (sR _))),false,rfl,(by clear M;unfold Bb;grind)⟩
    have h59:=dF h59b;refine wk ?_;refine Aa rfl rfl<|?_
    exact ⟨(M.weaken (cN (sR _))),false,rfl,(by clear M;unfold Bb;grind)⟩
   have h60:=dF h60b;refine wk ?_;refine Aa rfl rfl<|?_
   exact ⟨(M.weaken (cN (sR _))),false,rfl,(by clear M;unfold Bb;grind)⟩
  have h61:=dF h61b;refine wk ?_;refine Aa rfl rfl<|?_
  exact ⟨(M.weaken (cN (sR _))),false,rfl,(by clear M;unfold Bb;grind)⟩
 intro h62;refine wk ?_;refine qD rfl ?_ ?_
 ·intro h63;refine wk ?_
  rcases bE (decide (x.tag=([]:List UInt8))) with h64b | h71b
  ·skip
   have h64:=dT h64b;refine wk ?_
   rcases bE (decide (x.key=([]:List UInt8))) with h65b | h70b
   ·skip
    have h65:=dT h65b;refine wk ?_
    rcases bE (decide (x.text=([]:List UInt8))) with h66b | h69b
    ·skip
     have h66:=dT h66b;refine wk ?_
     rcases bE (decide (((x.as.length:Nat):Int)=0)) with h67b | h68b
     ·skip
      have h67:=dT h67b;refine wk ?_;refine Aa rfl rfl<|?_
      exact ⟨(M.weaken (cN (sR _))),(decide (((x.kids.length:Nat):Int)=0)),rfl,(by clear M;unfold Bb;grind)⟩
     have h68:=dF h68b;refine wk ?_;refine Aa rfl rfl<|?_
     exact ⟨(M.weaken (cN (sR _))),false,rfl,(by clear M;unfold Bb;grind)⟩
    have h69:=dF h69b;refine wk ?_;refine Aa rfl rfl<|?_
    exact ⟨(M.weaken (cN (sR _))),false,rfl,(by clear M;unfold Bb;grind)⟩
   have h70:=dF h70b;refine wk ?_;refine Aa rfl rfl<|?_
   exact ⟨(M.weaken (cN (sR _))),false,rfl,(by clear M;unfold Bb;grind)⟩
  have h71:=dF h71b;refine wk ?_;refine Aa rfl rfl<|?_
  exact ⟨(M.weaken (cN (sR _))),false,rfl,(by clear M;unfold Bb;grind)⟩
 intro h72;refine wk ?_;refine Aa rfl rfl<|?_
 exact ⟨(M.weaken (cN (sR _))),false,rfl,(by clear M;unfold Bb;grind)⟩
theorem Aeh (M:Mem w0 G L w) {x:PT} {ta:Option Addr} {tc:Nat} {ka:Option Addr} {kc:Nat} (hk:Al .u8 x.kind) (hl:(x.tag.length≤9223372036854775807∧x.key.length≤9223372036854775807∧x.text.length≤9223372036854775807)) (SA:Ag rdSlot 3 G (.slice ta x.as.length tc) x.as) (SK:Ag rdP 6 G (.slice ka x.kids.length kc) x.kids):Calls Tryz.prog 221 #[.agg #[.int .u8 x.kind,.string (str x.tag),.string (str x.key),.slice ta x.as.length tc,.string (str x.text),.slice ka x.kids.length kc]] w (Bn w0 G L fun v=>∃ bb:Bool,v=.bool bb∧(bb=true↔Bb x)):=by
 have bA:=SA.bound;have bK:=SK.bound;refine Aj (vs:=[_]) Tryz.func221 rfl (n:=113) rfl rfl<|?_
 refine Bo<|?_
 refine Bw M rfl rfl rfl<|?_;clear M;intro b1 w M
 refine wk ?_;refine qD rfl ?_ ?_
 ·intro h2;refine wk ?_;refine A2 Mf rfl rfl (Dt (s:=x.tag) M (by omega))<|?_;clear M;rintro _ w M ⟨b3,rfl,hb3⟩
  refine Cl rfl<|?_
  rcases bE (b3) with h4b | h20b
  ·skip
   have h4:(b3)=true:=h4b;refine wk ?_
   rcases bE (decide (x.key=([]:List UInt8))) with h5b | h11b
   ·skip
    have h5:=dT h5b;refine wk ?_;refine A2 Afu rfl rfl (Lz (xs:=x.as) M SA (by have:=SA.bound;omega))<|?_;clear M;rintro _ w M ⟨b6,rfl,hb6⟩
    refine wk ?_
    rcases bE (b6) with h7b | h10b
    ·skip
     have h7:(b6)=true:=h7b;refine wk ?_
     rcases bE (decide (x.text=([]:List UInt8))) with h8b | h9b
     ·skip
      have h8:=dT h8b;refine wk ?_;refine Aa rfl rfl<|?_
      exact ⟨(M.weaken (cN (sR _))),(decide (((x.kids.length:Nat):Int)≤16)),rfl,(by have q0:=@Cj x.as.length x.kids.length (by omega) (by omega);clear M;unfold Bb;grind)⟩
     have h9:=dF h9b;refine wk ?_;refine Aa rfl rfl<|?_
     exact ⟨(M.weaken (cN (sR _))),false,rfl,(by have q0:=@Cj x.as.length x.kids.length (by omega) (by omega);clear M;unfold Bb;grind)⟩
    have h10:(b6)=false:=h10b;refine g_f rfl h10b<|g_f rfl h10b<|g_f rfl h10b<|G8 rfl h10b rfl<|Cl rfl<|g_f rfl rfl<|g_f rfl rfl<|g_f rfl rfl<|g_f rfl rfl<|G8 rfl rfl rfl<|Eh rfl<|E4<|Ib<|Fp<|?_
    refine Aa rfl rfl<|?_
    exact ⟨(M.weaken (cN (sR _))),false,rfl,(by have q0:=@Cj x.as.length x.kids.length (by omega) (by omega);clear M;unfold Bb;grind)⟩
   have h11:=dF h11b;refine wk ?_;refine A2 Mf rfl rfl (Dt (s:=x.key) M (by omega))<|?_;clear M;rintro _ w M ⟨b12,rfl,hb12⟩
   refine wk ?_
   rcases bE (b12) with h13b | h19b
   ·skip
    have h13:(b12)=true:=h13b;refine wk ?_;refine A2 Afu rfl rfl (Lz (xs:=x.as) M SA (by have:=SA.bound;omega))<|?_;clear M;rintro _ w M ⟨b14,rfl,hb14⟩
    refine wk ?_
    rcases bE (b14) with h15b | h18b
    ·skip
     have h15:(b14)=true:=h15b;refine wk ?_
     rcases bE (decide (x.text=([]:List UInt8))) with h16b | h17b
     ·skip
      have h16:=dT h16b;refine wk ?_;refine Aa rfl rfl<|?_
      exact ⟨(M.weaken (cN (sR _))),(decide (((x.kids.length:Nat):Int)≤16)),rfl,(by have q0:=@Cj x.as.length x.kids.length (by omega) (by omega);clear M;unfold Bb;grind)⟩
     have h17:=dF h17b;refine wk ?_;refine Aa rfl rfl<|?_
     exact ⟨(M.weaken (cN (sR _))),false,rfl,(by have q0:=@Cj x.as.length x.kids.length (by omega) (by omega);clear M;unfold Bb;grind)⟩
    have h18:(b14)=false:=h18b;refine g_f rfl h18b<|g_f rfl h18b<|g_f rfl h18b<|G8 rfl h18b rfl<|Cl rfl<|g_f rfl rfl<|g_f rfl rfl<|g_f rfl rfl<|g_f rfl rfl<|G8 rfl rfl rfl<|Eh rfl<|E4<|Ib<|Fp<|?_
    refine Aa rfl rfl<|?_
    exact ⟨(M.weaken (cN (sR _))),false,rfl,(by have q0:=@Cj x.as.length x.kids.length (by omega) (by omega);clear M;unfold Bb;grind)⟩
   have h19:(b12)=false:=h19b;refine g_f rfl h19b<|g_f rfl h19b<|g_f rfl h19b<|G8 rfl h19b rfl<|Cl rfl<|g_f rfl rfl<|g_f rfl rfl<|g_f rfl rfl<|G8 rfl rfl rfl<|Cl rfl<|g_f rfl rfl<|g_f rfl rfl<|g_f rfl rfl<|g_f rfl rfl<|G8 rfl rfl rfl<|Eh rfl<|E4<|Ib<|Fp<|?_
   refine Aa rfl rfl<|?_
   exact ⟨(M.weaken (cN (sR _))),false,rfl,(by have q0:=@Cj x.as.length x.kids.length (by omega) (by omega);clear M;unfold Bb;grind)⟩
  have h20:(b3)=false:=h20b;refine g_f rfl h20b<|g_f rfl h20b<|g_f rfl h20b<|g_f rfl h20b<|g_u rfl<|g_u rfl<|g_u rfl<|g_f rfl h20b<|G8 rfl h20b rfl<|Cl rfl<|g_f rfl rfl<|g_f rfl rfl<|g_f rfl rfl<|G8 rfl rfl rfl<|Cl rfl<|g_f rfl rfl<|g_f rfl rfl<|g_f rfl rfl<|G8 rfl rfl rfl<|Cl rfl<|g_f rfl rfl<|g_f rfl rfl<|g_f rfl rfl<|g_f rfl rfl<|G8 rfl rfl rfl<|Eh rfl<|E4<|Ib<|Fp<|?_
  refine Aa rfl rfl<|?_
  exact ⟨(M.weaken (cN (sR _))),false,rfl,(by have q0:=@Cj x.as.length x.kids.length (by omega) (by omega);clear M;unfold Bb;grind)⟩
 intro h21;refine wk ?_;refine qD rfl ?_ ?_
 ·intro h22;refine wk ?_;refine A2 Um rfl rfl (Kc (s:=x.text) M (by omega))<|?_;clear M;rintro _ w M ⟨b23,rfl,hb23⟩
  refine Cl rfl<|?_
  rcases bE (b23) with h24b | h29b
  ·skip
   have h24:(b23)=true:=h24b;refine wk ?_
   rcases bE (decide (x.tag=([]:List UInt8))) with h25b | h28b
   ·skip
    have h25:=dT h25b;refine wk ?_
    rcases bE (decide (x.key=([]:List UInt8))) with h26b | h27b
    ·skip
     have h26:=dT h26b;refine wk ?_;refine Aq (fun a F=>O0 (F.ev rfl) (F.ev rfl)) rfl<|?_
     refine wk ?_;refine Aa rfl rfl<|?_
     exact ⟨(M.weaken (cN (sR _))),(decide (IntKind.i64.wrap (((x.as.length:Nat):Int)+((x.kids.length:Nat):Int))=0)),rfl,(by have q0:=@Cj x.as.length x.kids.length (by omega) (by omega);clear M;unfold Bb;grind)⟩
    have h27:=dF h27b;refine wk ?_;refine Aa rfl rfl<|?_
    exact ⟨(M.weaken (cN (sR _))),false,rfl,(by have q0:=@Cj x.as.length x.kids.length (by omega) (by omega);clear M;unfold Bb;grind)⟩
   have h28:=dF h28b;refine wk ?_;refine Aa rfl rfl<|?_
   exact ⟨(M.weaken (cN (sR _))),false,rfl,(by have q0:=@Cj x.as.length x.kids.length (by omega) (by omega);clear M;unfold Bb;grind)⟩
  have h29:(b23)=false:=h29b;refine g_f rfl h29b<|g_f rfl h29b<|g_f rfl h29b<|G8 rfl h29b rfl<|Cl rfl<|g_f rfl rfl<|g_f rfl rfl<|g_f rfl rfl<|G8 rfl rfl rfl<|Cl rfl<|g_f rfl rfl<|g_f rfl rfl<|g_f rfl rfl<|g_f rfl rfl<|g_f rfl rfl<|g_f rfl rfl<|g_f rfl rfl<|g_f rfl rfl<|G8 rfl rfl rfl<|Eh rfl<|E4<|Ib<|Fp<|?_
  refine Aa rfl rfl<|?_
  exact ⟨(M.weaken (cN (sR _))),false,rfl,(by have q0:=@Cj x.as.length x.kids.length (by omega) (by omega);clear M;unfold Bb;grind)⟩
 intro h30;refine wk ?_;refine qD rfl ?_ ?_
 ·intro h31;refine wk ?_
  rcases bE (decide (x.text=([]:List UInt8))) with h32b | h37b
  ·skip
   have h32:=dT h32b;refine wk ?_
   rcases bE (decide (x.tag=([]:List UInt8))) with h33b | h36b
   ·skip
    have h33:=dT h33b;refine wk ?_
    rcases bE (decide (x.key=([]:List UInt8))) with h34b | h35b
    ·skip
     have h34:=dT h34b;refine wk ?_;refine Aq (fun a F=>O0 (F.ev rfl) (F.ev rfl)) rfl<|?_
     refine wk ?_;refine Aa rfl rfl<|?_
     exact ⟨(M.weaken (cN (sR _))),(decide (IntKind.i64.wrap (((x.as.length:Nat):Int)+((x.kids.length:Nat):Int))=0)),rfl,(by have q0:=@Cj x.as.length x.kids.length (by omega) (by omega);clear M;unfold Bb;grind)⟩
    have h35:=dF h35b;refine wk ?_;refine Aa rfl rfl<|?_
    exact ⟨(M.weaken (cN (sR _))),false,rfl,(by have q0:=@Cj x.as.length x.kids.length (by omega) (by omega);clear M;unfold Bb;grind)⟩
   have h36:=dF h36b;refine wk ?_;refine Aa rfl rfl<|?_
   exact ⟨(M.weaken (cN (sR _))),false,rfl,(by have q0:=@Cj x.as.length x.kids.length (by omega) (by omega);clear M;unfold Bb;grind)⟩
  have h37:=dF h37b;refine wk ?_;refine Aa rfl rfl<|?_
  exact ⟨(M.weaken (cN (sR _))),false,rfl,(by have q0:=@Cj x.as.length x.kids.length (by omega) (by omega);clear M;unfold Bb;grind)⟩
 intro h38;refine wk ?_;refine qD rfl ?_ ?_
 ·intro h39;refine wk ?_
  rcases bE (decide (x.text=([]:List UInt8))) with h40b | h45b
  ·skip
   have h40:=dT h40b;refine wk ?_
   rcases bE (decide (x.tag=([]:List UInt8))) with h41b | h44b
   ·skip
    have h41:=dT h41b;refine wk ?_
    rcases bE (decide (x.key=([]:List UInt8))) with h42b | h43b
    ·skip
     have h42:=dT h42b;refine wk ?_;refine Aq (fun a F=>O0 (F.ev rfl) (F.ev rfl)) rfl<|?_
     refine wk ?_;refine Aa rfl rfl<|?_
     exact ⟨(M.weaken (cN (sR _))),(decide (IntKind.i64.wrap (((x.as.length:Nat):Int)+((x.kids.length:Nat):Int))=0)),rfl,(by have q0:=@Cj x.as.length x.kids.length (by omega) (by omega);clear M;unfold Bb;grind)⟩
    have h43:=dF h43b;refine wk ?_;refine Aa rfl rfl<|?_
    exact ⟨(M.weaken (cN (sR _))),false,rfl,(by have q0:=@Cj x.as.length x.kids.length (by omega) (by omega);clear M;unfold Bb;grind)⟩
   have h44:=dF h44b;refine wk ?_;refine Aa rfl rfl<|?_
   exact ⟨(M.weaken (cN (sR _))),false,rfl,(by have q0:=@Cj x.as.length x.kids.length (by omega) (by omega);clear M;unfold Bb;grind)⟩
  have h45:=dF h45b;refine wk ?_;refine Aa rfl rfl<|?_
  exact ⟨(M.weaken (cN (sR _))),false,rfl,(by have q0:=@Cj x.as.length x.kids.length (by omega) (by omega);clear M;unfold Bb;grind)⟩
 intro h46;refine wk ?_;refine qD rfl ?_ ?_
 ·intro h47;refine wk ?_;refine A2 Mf rfl rfl (Dt (s:=x.tag) M (by omega))<|?_;clear M;rintro _ w M ⟨b48,rfl,hb48⟩
  refine Cl rfl<|?_
  rcases bE (b48) with h49b | h57b
  ·skip
   have h49:(b48)=true:=h49b;refine wk ?_;refine A2 Afu rfl rfl (Lz (xs:=x.as) M SA (by have:=SA.bound;omega))<|?_;clear M;rintro _ w M ⟨b50,rfl,hb50⟩
   refine wk ?_
   rcases bE (b50) with h51b | h56b
   ·skip
    have h51:(b50)=true:=h51b;refine wk ?_
    rcases bE (decide (x.key=([]:List UInt8))) with h52b | h55b
    ·skip
     have h52:=dT h52b;refine wk ?_
     rcases bE (decide (x.text=([]:List UInt8))) with h53b | h54b
     ·skip
      have h53:=dT h53b;refine wk ?_;refine Aa rfl rfl<|?_
      exact ⟨(M.weaken (cN (sR _))),(decide (((x.kids.length:Nat):Int)=0)),rfl,(by have q0:=@Cj x.as.length x.kids.length (by omega) (by omega);clear M;unfold Bb;grind)⟩
     have h54:=dF h54b;refine wk ?_;refine Aa rfl rfl<|?_
     exact ⟨(M.weaken (cN (sR _))),false,rfl,(by have q0:=@Cj x.as.length x.kids.length (by omega) (by omega);clear M;unfold Bb;grind)⟩
    have h55:=dF h55b;refine wk ?_;refine Aa rfl rfl<|?_
    exact ⟨(M.weaken (cN (sR _))),false,rfl,(by have q0:=@Cj x.as.length x.kids.length (by omega) (by omega);clear M;unfold Bb;grind)⟩
   have h56:(b50)=false:=h56b;refine g_f rfl h56b<|g_f rfl h56b<|g_f rfl h56b<|G8 rfl h56b rfl<|Cl rfl<|g_f rfl rfl<|g_f rfl rfl<|g_f rfl rfl<|G8 rfl rfl rfl<|Cl rfl<|g_f rfl rfl<|g_f rfl rfl<|g_f rfl rfl<|g_f rfl rfl<|G8 rfl rfl rfl<|Eh rfl<|E4<|Ib<|Fp<|?_
   refine Aa rfl rfl<|?_
   exact ⟨(M.weaken (cN (sR _))),false,rfl,(by have q0:=@Cj x.as.length x.kids.length (by omega) (by omega);clear M;unfold Bb;grind)⟩
  have h57:(b48)=false:=h57b;refine g_f rfl h57b<|g_f rfl h57b<|g_f rfl h57b<|G8 rfl h57b rfl<|Cl rfl<|g_f rfl rfl<|g_f rfl rfl<|g_f rfl rfl<|G8 rfl rfl rfl<|Cl rfl<|g_f rfl rfl<|g_f rfl rfl<|g_f rfl rfl<|G8 rfl rfl rfl<|Cl rfl<|g_f rfl rfl<|g_f rfl rfl<|g_f rfl rfl<|g_f rfl rfl<|G8 rfl rfl rfl<|Eh rfl<|E4<|Ib<|Fp<|?_
  refine Aa rfl rfl<|?_
  exact ⟨(M.weaken (cN (sR _))),false,rfl,(by have q0:=@Cj x.as.length x.kids.length (by omega) (by omega);clear M;unfold Bb;grind)⟩
 intro h58;refine wk ?_;refine Aa rfl rfl<|?_
 exact ⟨(M.weaken (cN (sR _))),false,rfl,(by have q0:=@Cj x.as.length x.kids.length (by omega) (by omega);clear M;unfold Bb;grind)⟩
set_option maxHeartbeats 1600000
structure FEff (w0:World) (ff:FuncId) (caps:List Value) {σ:Type} (Rs:σ→List Res) (stp:σ→PT→σ):Prop where
 ent:Ent Tryz.prog ff
 run:∀ {w:World} {G:Ap} {L:List Res} {nb no:Nat} {s:σ} {x:PT} {ta ka:Option Addr} {tc kc:Nat},Mem w0 G (Rs s++L) w→Al .u8 x.kind→(x.tag.length≤9223372036854775807∧x.key.length≤9223372036854775807∧x.text.length≤9223372036854775807)→Ag rdSlot 3 G (.slice ta x.as.length tc) x.as→Ag rdP 6 G (.slice ka x.kids.length kc) x.kids→At G nb no [.int .u8 x.kind,.string (str x.tag),.string (str x.key),.slice ta x.as.length tc,.string (str x.text),.slice ka x.kids.length kc]→Bb x →
  Calls Tryz.prog ff (.pointer (some ⟨nb,no,none⟩)::caps).toArray w (J8 w0 G fun L' v=>v=.tuple #[]∧L' = Rs (stp s x)++L)
def WalkP (w0:World) (ff:FuncId) (caps:List Value) {σ:Type} (Rs:σ→List Res) (stp:σ→PT→σ) (x:PT):Prop:=∀ (w:World) (G:Ap) (L:List Res) (cb fb eb nb no c lev:Nat) (s:σ) (ta ka:Option Addr) (tc kc:Nat),Mem w0 G (.blk cb [.int .i64 ((c:Nat):Int)] 3::.blk fb [.func (.func ff) #[] caps.toArray] 286::.blk eb [.func (.func 227) #[] #[.pointer (some ⟨cb,0,none⟩),.pointer (some ⟨fb,0,none⟩),.pointer (some ⟨eb,0,none⟩)]] 297::(Rs s++L)) w →
  Al .u8 x.kind→(x.tag.length≤9223372036854775807∧x.key.length≤9223372036854775807∧x.text.length≤9223372036854775807)→Ag rdSlot 3 G (.slice ta x.as.length tc) x.as→Ag rdP 6 G (.slice ka x.kids.length kc) x.kids→At G nb no [.int .u8 x.kind,.string (str x.tag),.string (str x.key),.slice ta x.as.length tc,.string (str x.text),.slice ka x.kids.length kc]→c≤64→1≤lev→lev≤7→Calls Tryz.prog 227 #[.pointer (some ⟨nb,no,none⟩),.int .i64 (lev:Int),.pointer (some ⟨cb,0,none⟩),.pointer (some ⟨fb,0,none⟩),.pointer (some ⟨eb,0,none⟩)] w (J8 w0 G fun L' v=>∃ (bb:Bool) (c':Nat) (s':σ),v=.bool bb∧L' = (.blk cb [.int .i64 ((c':Nat):Int)] 3::.blk fb [.func (.func ff) #[] caps.toArray] 286::.blk eb [.func (.func 227) #[] #[.pointer (some ⟨cb,0,none⟩),.pointer (some ⟨fb,0,none⟩),.pointer (some ⟨eb,0,none⟩)]] 297::(Rs s'++L))∧(bb=true↔Tr.Ok Bb (7 - lev) x∧c+x.size≤64)∧(bb=true→c' = c+x.size∧s' = Sm stp s x))
theorem tw_step {w0:World} {ff:FuncId} {caps:List Value} {σ:Type} {Rs:σ→List Res} {stp:σ→PT→σ} (hF:FEff w0 ff caps Rs stp) {x:PT} (ih:∀ y∈x.kids,WalkP w0 ff caps Rs stp y) {w:World} {G:Ap} {L:List Res} {cb fb eb nb no c lev:Nat} {s:σ} {ta ka:Option Addr} {tc kc:Nat} (M:Mem w0 G (.blk cb [.int .i64 ((c:Nat):Int)] 3::.blk fb [.func (.func ff) #[] caps.toArray] 286::.blk eb [.func (.func 227) #[] #[.pointer (some ⟨cb,0,none⟩),.pointer (some ⟨fb,0,none⟩),.pointer (some ⟨eb,0,none⟩)]] 297::(Rs s++L)) w) (hk:Al .u8 x.kind) (hl:(x.tag.length≤9223372036854775807∧x.key.length≤9223372036854775807∧x.text.length≤9223372036854775807))
  (SA:Ag rdSlot 3 G (.slice ta x.as.length tc) x.as) (SK:Ag rdP 6 G (.slice ka x.kids.length kc) x.kids) (A:At G nb no [.int .u8 x.kind,.string (str x.tag),.string (str x.key),.slice ta x.as.length tc,.string (str x.text),.slice ka x.kids.length kc]) (hc:c≤64) (hl1:1≤lev) (hl2:lev≤7) :
  Calls Tryz.prog 227 #[.pointer (some ⟨nb,no,none⟩),.int .i64 (lev:Int),.pointer (some ⟨cb,0,none⟩),.pointer (some ⟨fb,0,none⟩),.pointer (some ⟨eb,0,none⟩)] w (J8 w0 G fun L' v=>∃ (bb:Bool) (c':Nat) (s':σ),v=.bool bb∧L' = (.blk cb [.int .i64 ((c':Nat):Int)] 3::.blk fb [.func (.func ff) #[] caps.toArray] 286::.blk eb [.func (.func 227) #[] #[.pointer (some ⟨cb,0,none⟩),.pointer (some ⟨fb,0,none⟩),.pointer (some ⟨eb,0,none⟩)]] 297::(Rs s'++L))∧(bb=true↔Tr.Ok Bb (7 - lev) x∧c+x.size≤64)∧(bb=true→c' = c+x.size∧s' = Sm stp s x)):=by
 refine Aj (vs:=[_,_,_,_,_]) Tryz.func227 rfl (n:=45) rfl rfl<|?_
 refine wk ?_;refine Dz Cw M 0 rfl rfl rfl rfl rfl rfl<|?_;clear M;intro w M
 refine wk ?_
 rcases bE (decide (6 < (lev:Int))) with h1b | h2b
 ·skip
  have h1:=dT h1b;refine wk ?_;refine Aa rfl rfl<|?_
  replace M:=M.perm (Af _ 2 _ rfl);replace M:=M.perm (Af _ 2 _ rfl);replace M:=M.perm (Af _ 2 _ rfl);replace M:=z_M M
  exact ⟨_,M,false,_,_,rfl,rfl,⟨fun h_=>(by cases h_),fun h_=>absurd h_ (Kg (by clear M;grind))⟩,fun h_=>(by cases h_)⟩
 have h2:=dF h2b;refine wk ?_
 rcases bE (decide (64 < ((c:Nat):Int)+1)) with h3b | h4b
 ·skip
  have h3:=dT h3b;refine wk ?_;refine Aa rfl rfl<|?_
  replace M:=M.perm (Af _ 2 _ rfl);replace M:=M.perm (Af _ 2 _ rfl);replace M:=M.perm (Af _ 2 _ rfl);replace M:=z_M M
  exact ⟨_,M,false,_,_,rfl,rfl,⟨fun h_=>(by cases h_),fun h_=>absurd h_ (Kg (by clear M;grind))⟩,fun h_=>(by cases h_)⟩
 have h4:=dF h4b;refine wk ?_;refine A2 ent228 rfl rfl (Z0 (x:=x) M hk hl SA SK A)<|?_;clear M;rintro _ w M ⟨b5,rfl,hb5⟩
 refine wk ?_;refine Ae rfl ?_ ?_
 ·intro h6b;have h6:=Ab h6b;have h6c:(b5)=false:=(Ab h6b);refine wk ?_;refine Aa rfl rfl<|?_
  replace M:=M.perm (Af _ 2 _ rfl);replace M:=M.perm (Af _ 2 _ rfl);replace M:=M.perm (Af _ 2 _ rfl);replace M:=z_M M
  exact ⟨_,M,false,_,_,rfl,rfl,⟨fun h_=>(by cases h_),fun h_=>absurd h_ (Kg (by clear M;grind))⟩,fun h_=>(by cases h_)⟩
 intro h7b;have h7:=Ac h7b;have h7c:(b5)=true:=(Ac h7b);refine wk ?_;have hAl:Bb x:=by clear M;grind
 have hl6:lev≤6:=by omega
 have hkl:=Oh hAl;refine wk ?_;replace M:=M.perm (Af _ 2 _ rfl);replace M:=M.perm (Af _ 2 _ rfl);replace M:=M.perm (Af _ 2 _ rfl);replace M:=z_M M;replace M:=M.perm (V6 _ _);intro a F;refine Qd F hF.ent (caps:=caps) rfl rfl rfl (hF.run (s:=s) (x:=x) M hk hl SA SK A hAl) ?_;clear F M a;rintro _ _ w a M ⟨rfl,rfl⟩ F;replace M:=M.perm (V6 _ _).symm;revert a;refine wk ?_;refine fun a F=>A3 (fun m a' w'=>∃ (i:Nat),∃ (ci:Nat),∃ (si:σ),m=x.kids.length - i∧Fits 45 a' [(0,.pointer (some ⟨nb,no,none⟩)),(1,.int .i64 ((lev:Int))),(2,.pointer (some ⟨cb,0,none⟩)),(3,.pointer (some ⟨fb,0,none⟩)),(4,.pointer (some ⟨eb,0,none⟩)),(28,.slice ka x.kids.length kc),(29,.int .i64 ((x.kids.length:Nat):Int)),(30,.int .i64 ((i:Nat):Int))]∧Mem w0 G (.blk cb [.int .i64 ((ci:Nat):Int)] 3::.blk fb [.func (.func ff) #[] caps.toArray] 286::.blk eb [.func (.func 227) #[] #[.pointer (some ⟨cb,0,none⟩),.pointer (some ⟨fb,0,none⟩),.pointer (some ⟨eb,0,none⟩)]] 297::(Rs si++L)) w'∧(i≤x.kids.length)∧(ci=c+1+Tr.sizes (x.kids.take i)∧ci≤64)∧(si=Ho stp (stp s x) (x.kids.take i))∧(∀ (m:Nat) (y:PT),m < i→x.kids[m]?=some y→Tr.Ok Bb (7 - (lev+1)) y)) _ ⟨0,c+1,(stp s x),rfl,F.to ⟨rfl,rfl,rfl,rfl,rfl,rfl,rfl,rfl,trivial⟩,M,Nat.zero_le _,⟨by simp [Tr.sizes],by omega⟩,by simp [Ho],fun m y h=>by omega⟩ ?_;clear F M;rintro m a w ⟨i,ci,si,rfl,F,M,hi,hci,hsi,hO⟩;revert a;refine wk ?_;refine qD rfl ?_ ?_
 ·intro h8;refine wk ?_;refine fun a F=>D4 [(.pure,0),(.free,1),(.free,2),(.free,3),(.pure,4),(.free,5),(.free,6),(.free,7),(.free,8),(.keep,9),(.free,10)] [] (Keep G [.blk eb [.func (.func 227) #[] #[.pointer (some ⟨cb,0,none⟩),.pointer (some ⟨fb,0,none⟩),.pointer (some ⟨eb,0,none⟩)]] 297]) rfl (by kernel_rfl) (fun c a d v w h=>by cases d <;> exact h) (Aw (M.drew _)) ?_;replace M:=M.drew (w.drawn+1);revert a;refine wk ?_;obtain ⟨Xe9,hXe9⟩:=Ak (xs:=x.kids) (i:=i) (by omega);obtain ⟨be9,oe9,_,Ie9,_,Ae9,hTe9⟩:=SK.at hXe9;obtain ⟨tae9,tce9,kae9,kce9,rfl,hke9,hle9,SAe9,SKe9⟩:=Dk hTe9;refine wk ?_;refine k_k rfl<|?_
  replace M:=M.perm (Af _ 2 _ rfl);replace M:=M.perm (Af _ 2 _ rfl);replace M:=M.perm (Af _ 2 _ rfl);replace M:=z_M M;refine s_vL Arm (caps:=[.pointer (some ⟨cb,0,none⟩),.pointer (some ⟨fb,0,none⟩),.pointer (some ⟨eb,0,none⟩)]) rfl rfl rfl (ih Xe9 (List.mem_of_getElem? hXe9) _ _ L _ _ _ _ _ ci (lev+1) si _ _ _ _ M hke9 hle9 SAe9 SKe9 Ae9 (by omega) (by omega) (by omega))<|?_;clear M;rintro _ _ w M ⟨b10,cb10,sb10,rfl,rfl,hb10,eb10⟩
  refine Ao<|?_
  refine eQ (Aw M)<|?_
  refine wk ?_;refine Ae rfl ?_ ?_
  ·intro h11b;have h11:=Ab h11b;have h11c:(b10)=false:=(Ab h11b);refine wk ?_;refine Aa rfl rfl<|?_
   replace M:=M.perm (Af _ 2 _ rfl);replace M:=M.perm (Af _ 2 _ rfl);replace M:=M.perm (Af _ 2 _ rfl);replace M:=z_M M
   exact ⟨_,M,false,_,_,rfl,rfl,⟨fun h_=>(by cases h_),fun h_=>absurd h_ (Rl hXe9 hl6 (by rw [← hci.1];exact fun h_=>by have h9:=hb10.2 h_;simp_all))⟩,fun h_=>(by cases h_)⟩
  intro h12b;have h12:=Ac h12b;have h12c:(b10)=true:=(Ac h12b);refine wk ?_;have hq:=hb10.1 (by assumption);obtain ⟨hc2,hd2⟩:=eb10 (by assumption);have hs2:=Tr.sizes_snoc hXe9;intro a F
  exact ⟨_,by omega,i+1,cb10,sb10,rfl,F.to ⟨rfl,rfl,rfl,rfl,rfl,rfl,rfl,rfl,trivial⟩,M,by omega,by omega,by rw [Zt stp hXe9,← hsi];exact hd2,Yr hO hXe9 hq.1⟩
 intro h13;refine wk ?_;refine Aa rfl rfl<|?_
 replace M:=M.perm (Af _ 2 _ rfl);replace M:=M.perm (Af _ 2 _ rfl);replace M:=M.perm (Af _ 2 _ rfl);replace M:=z_M M;have hf:=Kn (x:=x) (i:=i) (by omega);rw [List.take_of_length_le (by omega)] at hsi
 exact ⟨_,M,true,_,_,rfl,rfl,⟨fun _=>⟨Abf hl6 hAl (by omega) hO,by omega⟩,fun _=>rfl⟩,fun _=>⟨by omega,by rw [Amg];exact hsi⟩⟩
theorem tw_all {w0:World} {ff:FuncId} {caps:List Value} {σ:Type} {Rs:σ→List Res} {stp:σ→PT→σ} (hF:FEff w0 ff caps Rs stp) (x:PT):WalkP w0 ff caps Rs stp x:=by
 induction x using Tr.ind with
 | _ x ih=>intro w G L cb fb eb nb no c lev s ta ka tc kc M hk hl SA SK A hc hl1 hl2;exact tw_step hF ih M hk hl SA SK A hc hl1 hl2
theorem Adf {w0:World} {ff:FuncId} {caps:List Value} {σ:Type} {Rs:σ→List Res} {stp:σ→PT→σ} (hF:FEff w0 ff caps Rs stp) {x:PT} {w:World} {G:Ap} {L:List Res} {nb no:Nat} {s:σ} {ta ka:Option Addr} {tc kc:Nat} (M:Mem w0 G (Rs s++L) w) (hk:Al .u8 x.kind) (hl:(x.tag.length≤9223372036854775807∧x.key.length≤9223372036854775807∧x.text.length≤9223372036854775807))
  (SA:Ag rdSlot 3 G (.slice ta x.as.length tc) x.as) (SK:Ag rdP 6 G (.slice ka x.kids.length kc) x.kids) (A:At G nb no [.int .u8 x.kind,.string (str x.tag),.string (str x.key),.slice ta x.as.length tc,.string (str x.text),.slice ka x.kids.length kc]) :
  Calls Tryz.prog 212 #[.pointer (some ⟨nb,no,none⟩),.func (.func ff) #[] caps.toArray] w (J8 w0 G fun L' v=>∃ (k:Nat) (s':σ),v=.int .i64 (k:Int)∧L' = (Rs s'++L)∧k=cntP x∧(ValidP x→s' = Sm stp s x)):=by
 refine Aj (vs:=[_,_]) Tryz.func212 rfl (n:=18) rfl rfl<|?_
 refine Bo<|?_
 refine Bw M rfl rfl rfl<|?_;clear M;intro b1 w M
 refine wk ?_;refine Ae rfl ?_ ?_
 ·intro h2b;have h2:=dF (Ab h2b);have h2c:(decide (x.kind=1))=false:=(Ab h2b);refine wk ?_;refine Aa rfl rfl<|?_
  have hV:¬ ValidP x:=fun h_=>by have:=h_.1;omega
  exact ⟨_,M.weaken dS1,0,s,rfl,rfl,(Zi hV).symm,fun h_=>absurd h_ hV⟩
 intro h3b;have h3:=dT (Ac h3b);have h3c:(decide (x.kind=1))=true:=(Ac h3b);refine wk ?_;refine Bv M Cw rfl rfl<|?_;clear M;intro b4 w M
 refine Dz Cw M 0 rfl rfl rfl rfl rfl rfl<|?_;clear M;intro w M
 refine wk ?_;refine Bv M Adi rfl rfl<|?_;clear M;intro b6 w M
 refine wk ?_;refine Aq (fun a F=>Cp (vs:=#[.pointer (some ⟨b4,0,none⟩),.pointer (some ⟨b1,0,none⟩),.pointer (some ⟨b6,0,none⟩)]) (by simp only [List.map_toArray,List.map_cons,List.map_nil,F.ev (x:=.tmp 5) rfl,F.ev (x:=.tmp 3) rfl,F.ev (x:=.tmp 6) rfl])) rfl<|Dz Adi M 0 rfl rfl rfl rfl rfl rfl<|?_;clear M;intro w M
 refine wk ?_;replace M:=M.perm (Af _ 2 _ rfl);replace M:=M.perm (Af _ 2 _ rfl);replace M:=z_M M;refine s_vL Arm (caps:=[.pointer (some ⟨b4,0,none⟩),.pointer (some ⟨b1,0,none⟩),.pointer (some ⟨b6,0,none⟩)]) rfl rfl rfl (tw_all hF x _ _ L _ _ _ _ _ 0 1 s _ _ _ _ M hk hl SA SK A (by omega) (by omega) (by omega))<|?_;clear M;rintro _ _ w M ⟨b8,cb8,sb8,rfl,rfl,hb8,eb8⟩
 refine wk ?_;refine Ae rfl ?_ ?_
 ·intro h9b;have h9:=Ab h9b;have h9c:(b8)=false:=(Ab h9b);refine wk ?_;refine Aa rfl rfl<|?_
  have hV:¬ ValidP x:=fun h_=>by have h9:=hb8.2 ⟨h_.2.1,by have:=h_.2.2;omega⟩;simp_all
  exact ⟨_,M.weaken dS3,0,_,rfl,rfl,(Zi hV).symm,fun h_=>absurd h_ hV⟩
 intro h10b;have h10:=Ac h10b;have h10c:(b8)=true:=(Ac h10b);refine wk ?_;refine Aa rfl rfl<|?_
 have hq:=hb8.1 (by assumption);have hV:ValidP x:=⟨by omega,hq.1,by omega⟩;obtain ⟨hc2,hd2⟩:=eb8 (by assumption)
 exact ⟨_,M.weaken dS3,_,_,rfl,rfl,by rw [Acm hV];omega,fun _=>hd2⟩
theorem Adt (M:Mem w0 G L w) {v:Value}:Calls Tryz.prog 213 #[v] w (J8 w0 G fun L' v=>v=.tuple #[]∧L' = L):=by
 refine Aj (vs:=[_]) Tryz.func213 rfl (n:=2) rfl rfl<|?_
 refine Ep<|?_
 refine fun a F=>Aqv F rfl ?_
 exact ⟨_,M,rfl,rfl⟩
theorem Afp {w0:World}:FEff w0 213 [] (fun _:Unit=>[]) (fun _ _=>()):=⟨ent213,fun M _ _ _ _ _ _=>Adt M⟩
theorem Ads (M:Mem w0 G L w) {x:PT} {ta:Option Addr} {tc:Nat} {ka:Option Addr} {kc:Nat} (hk:Al .u8 x.kind) (hl:(x.tag.length≤9223372036854775807∧x.key.length≤9223372036854775807∧x.text.length≤9223372036854775807)) (SA:Ag rdSlot 3 G (.slice ta x.as.length tc) x.as) (SK:Ag rdP 6 G (.slice ka x.kids.length kc) x.kids):Calls Tryz.prog 189 #[.agg #[.int .u8 x.kind,.string (str x.tag),.string (str x.key),.slice ta x.as.length tc,.string (str x.text),.slice ka x.kids.length kc]] w (Ret w0 G L fun _ v=>v=.int .i64 ((cntP x:Nat):Int)):=by
 refine Aj (vs:=[_]) Tryz.func189 rfl (n:=4) rfl rfl<|?_
 refine Bo<|?_
 refine Bw M rfl rfl rfl<|?_;clear M;intro b1 w M
 refine wk ?_;obtain ⟨Gq2,hGq2,hbq2,M⟩:=M.freeze (k:=0) rfl;have Aq2:At Gq2 b1 0 [.int .u8 x.kind,.string (str x.tag),.string (str x.key),.slice ta x.as.length tc,.string (str x.text),.slice ka x.kids.length kc]:=At.of_cells hbq2;clear hbq2;replace SA:=SA.mono mono_rdSlot hGq2;replace SK:=SK.mono mono_rdP hGq2;replace M:=z_M M;refine wk ?_;replace M:=z_M M;refine P4 ent212 rfl rfl (Adf Afp (x:=x) (s:=()) (L:=L) M hk hl SA SK Aq2)<|?_;clear M;rintro _ _ w M ⟨k3,sk3,rfl,hLk3,hk3,ek3⟩
 intro a F;rw [hLk3] at M;clear hLk3;replace M:Mem w0 Gq2 (L) _:=M;revert a;refine wk ?_;refine Aa rfl rfl<|?_
 exact ⟨_,hGq2,M.weaken (sR _),by rw [hk3]⟩
theorem Zz (M:Mem w0 G L w) {x:PT} {ta:Option Addr} {tc:Nat} {ka:Option Addr} {kc:Nat} (hk:Al .u8 x.kind) (hl:(x.tag.length≤9223372036854775807∧x.key.length≤9223372036854775807∧x.text.length≤9223372036854775807)) (SA:Ag rdSlot 3 G (.slice ta x.as.length tc) x.as) (SK:Ag rdP 6 G (.slice ka x.kids.length kc) x.kids):Calls Tryz.prog 189 #[.agg #[.int .u8 x.kind,.string (str x.tag),.string (str x.key),.slice ta x.as.length tc,.string (str x.text),.slice ka x.kids.length kc]] w (Bn w0 G L fun v=>v=.int .i64 ((cntP x:Nat):Int)):=Ret.plain M (Ads M hk hl SA SK)
theorem tcheck_spec (M:Mem w0 G L w) {x:PT} {ta:Option Addr} {tc:Nat} {ka:Option Addr} {kc:Nat} (hk:Al .u8 x.kind) (hl:(x.tag.length≤9223372036854775807∧x.key.length≤9223372036854775807∧x.text.length≤9223372036854775807)) (SA:Ag rdSlot 3 G (.slice ta x.as.length tc) x.as) (SK:Ag rdP 6 G (.slice ka x.kids.length kc) x.kids):Calls Tryz.prog 155 #[.agg #[.int .u8 x.kind,.string (str x.tag),.string (str x.key),.slice ta x.as.length tc,.string (str x.text),.slice ka x.kids.length kc]] w (Bn w0 G L fun v=>v=.int .i64 (Vn x)):=by
 refine Aj (vs:=[_]) Tryz.func155 rfl (n:=6) rfl rfl<|?_
 refine Bo<|?_
 refine Bw M rfl rfl rfl<|?_;clear M;intro b1 w M
 refine wk ?_;refine A2 ent189 rfl rfl (Zz (x:=x) M hk hl SA SK)<|?_;clear M;rintro _ w M rfl
 refine wk ?_;refine qD rfl ?_ ?_
 ·intro h2;refine wk ?_;refine Aa rfl rfl<|?_
  exact ⟨M.weaken dS1,by rw [Sj fun h_=>by have:=Pp.2 h_;omega]⟩
 intro h3;refine wk ?_;refine Aa rfl rfl<|?_
 exact ⟨M.weaken dS1,by rw [Aco (Pp.1 (by omega))]⟩
def Ave (x:PT):Prop:=∀ (w0 w:World) (G:Ap) (L:List Res) (ta ka:Option Addr) (tc kc lev:Nat),Mem w0 G L w→Al .u8 x.kind→(x.tag.length≤9223372036854775807∧x.key.length≤9223372036854775807∧x.text.length≤9223372036854775807)→Ag rdSlot 3 G (.slice ta x.as.length tc) x.as→Ag rdP 6 G (.slice ka x.kids.length kc) x.kids→lev≤8 →
  Calls Tryz.prog 194 #[.agg #[.int .u8 x.kind,.string (str x.tag),.string (str x.key),.slice ta x.as.length tc,.string (str x.text),.slice ka x.kids.length kc],.int .i64 (lev:Int)] w (Bn w0 G L fun v=>∃ r:Nat,v=.int .i64 (r:Int)∧Cnt Bb x lev r)
theorem Aei {x:PT} (ih:∀ y∈x.kids,Ave y) {w0 w:World} {G:Ap} {L:List Res} (M:Mem w0 G L w) {ta:Option Addr} {tc:Nat} {ka:Option Addr} {kc:Nat} (hk:Al .u8 x.kind) (hl:(x.tag.length≤9223372036854775807∧x.key.length≤9223372036854775807∧x.text.length≤9223372036854775807)) (SA:Ag rdSlot 3 G (.slice ta x.as.length tc) x.as) (SK:Ag rdP 6 G (.slice ka x.kids.length kc) x.kids) {lev:Nat} (hlev:lev≤8):Calls Tryz.prog 194 #[.agg #[.int .u8 x.kind,.string (str x.tag),.string (str x.key),.slice ta x.as.length tc,.string (str x.text),.slice ka x.kids.length kc],.int .i64 (lev:Int)] w (Bn w0 G L fun v=>∃ r:Nat,v=.int .i64 (r:Int)∧Cnt Bb x lev r):=by
 refine Aj (vs:=[_,_]) Tryz.func194 rfl (n:=36) rfl rfl<|?_
 refine Bo<|?_
 refine Bw M rfl rfl rfl<|?_;clear M;intro b1 w M
 refine wk ?_
 rcases bE (decide ((lev:Int) < 1)) with h2b | h3b
 ·skip
  have h2:=dT h2b;refine wk ?_;refine Aa rfl rfl<|?_
  exact ⟨M.weaken dS1,1000,rfl,Cnt.bad (by clear M;grind)⟩
 have h3:=dF h3b;refine wk ?_;refine A2 ent221 rfl rfl (Aeh (x:=x) M hk hl SA SK)<|?_;clear M;rintro _ w M ⟨b4,rfl,hb4⟩
 refine wk ?_;refine Ae rfl ?_ ?_
 ·intro h5b;have h5:=Ab h5b;have h5c:(b4)=false:=(Ab h5b);refine wk ?_;refine Aa rfl rfl<|?_
  exact ⟨M.weaken dS1,1000,rfl,Cnt.bad (by clear M;grind)⟩
 intro h6b;have h6:=Ac h6b;have h6c:(b4)=true:=(Ac h6b);refine wk ?_;have hAl:Bb x:=by clear M;grind
 have hl1:1≤lev:=by omega
 have hkl:=Oh hAl;refine wk ?_;refine fun a F=>A3 (fun m a' w'=>∃ (i:Nat),∃ (c:Nat),m=x.kids.length - i∧Fits 36 a' [(1,.int .i64 ((lev:Int))),(2,.pointer (some ⟨b1,0,none⟩)),(5,.int .i64 ((c:Nat):Int)),(6,.int .i64 ((i:Nat):Int))]∧Mem w0 G (.blk b1 [.int .u8 x.kind,.string (str x.tag),.string (str x.key),.slice ta x.as.length tc,.string (str x.text),.slice ka x.kids.length kc] 79::L) w'∧(i≤x.kids.length)∧(CntL Bb x lev i c)) _ ⟨0,1,rfl,F.to ⟨rfl,rfl,rfl,rfl,trivial⟩,M,Nat.zero_le _,CntL.zero _ _⟩ ?_;clear F M;rintro m a w ⟨i,c,rfl,F,M,hi,hL⟩;revert a;refine B7<|B7<|?_
 have hchi:=hL.hi;refine wk ?_
 rcases bE (decide (((i:Nat):Int) < ((x.kids.length:Nat):Int))) with h7b | h13b
 ·skip
  have h7:=dT h7b;refine wk ?_;refine qD rfl ?_ ?_
  ·intro h8;refine wk ?_;obtain ⟨Xe9,hXe9⟩:=Ak (xs:=x.kids) (i:=i) (by omega);obtain ⟨be9,oe9,_,Ie9,_,Ae9,hTe9⟩:=SK.at hXe9;obtain ⟨tae9,tce9,kae9,kce9,rfl,hke9,hle9,SAe9,SKe9⟩:=Dk hTe9;refine wk ?_;have hs10:((lev:Int) - 1:Int)=((lev - 1:Nat):Int):=by omega
   intro a F;rw [hs10] at F;revert a;refine A2 Aro rfl rfl (ih Xe9 (List.mem_of_getElem? hXe9) _ _ _ _ _ _ _ _ (lev - 1) M hke9 hle9 SAe9 SKe9 (by omega))<|?_;clear M;rintro _ w M ⟨r11,rfl,hr11⟩
   have hir11:=hr11.hi;have lor11:=hr11.lo;refine wk ?_;intro a F
   exact ⟨_,by omega,i+1,c+r11,rfl,F.to ⟨rfl,rfl,rfl,rfl,trivial⟩,M,by omega,hL.step (by omega) (by omega) hXe9 hr11⟩
  intro h12;refine wk ?_;refine Aa rfl rfl<|?_
  exact ⟨M.weaken dS1,c,rfl,hL.done (by omega) hAl (by omega)⟩
 have h13:=dF h13b;refine wk ?_;refine Aa rfl rfl<|?_
 exact ⟨M.weaken dS1,c,rfl,hL.done (by omega) hAl (by omega)⟩
theorem Ajl (x:PT):Ave x:=by
 induction x using Tr.ind with
 | _ x ih=>intro w0 w G L ta ka tc kc lev M hk hl SA SK hlev;exact Aei ih M hk hl SA SK hlev
theorem Ya (M:Mem w0 G L w) {x:PT} {ta:Option Addr} {tc:Nat} {ka:Option Addr} {kc:Nat} (hk:Al .u8 x.kind) (hl:(x.tag.length≤9223372036854775807∧x.key.length≤9223372036854775807∧x.text.length≤9223372036854775807)) (SA:Ag rdSlot 3 G (.slice ta x.as.length tc) x.as) (SK:Ag rdP 6 G (.slice ka x.kids.length kc) x.kids):Calls Tryz.prog 165 #[.agg #[.int .u8 x.kind,.string (str x.tag),.string (str x.key),.slice ta x.as.length tc,.string (str x.text),.slice ka x.kids.length kc]] w (Bn w0 G L fun v=>v=.int .i64 ((cntP x:Nat):Int)):=by
 refine Aj (vs:=[_]) Tryz.func165 rfl (n:=14) rfl rfl<|?_
 refine Bo<|?_
 refine Bw M rfl rfl rfl<|?_;clear M;intro b1 w M
 refine wk ?_;refine A2 Aro rfl rfl (Ajl x _ _ _ _ _ _ _ _ 6 M hk hl SA SK (by omega))<|?_;clear M;rintro _ w M ⟨r2,rfl,hr2⟩
 have hir2:=hr2.hi;have lor2:=hr2.lo;refine wk ?_
 rcases bE (!(decide (x.kind=1))) with h3b | h4b
 ·skip
  have h3:=dF (Ab h3b);refine wk ?_;refine Aa rfl rfl<|?_
  exact ⟨M.weaken dS1,by rw [hr2.cntP.1 (by omega)];rfl⟩
 have h4:=dT (Ac h4b);refine wk ?_;refine qD rfl ?_ ?_
 ·intro h5;refine wk ?_;refine Aa rfl rfl<|?_
  exact ⟨M.weaken dS1,by rw [hr2.cntP.1 (by omega)];rfl⟩
 intro h6;refine wk ?_;refine Aa rfl rfl<|?_
 exact ⟨M.weaken dS1,by rw [hr2.cntP.2 (by omega) (by omega)]⟩
theorem O1 (M:Mem w0 G L w) {x:PT} {ta:Option Addr} {tc:Nat} {ka:Option Addr} {kc:Nat} (hk:Al .u8 x.kind) (hl:(x.tag.length≤9223372036854775807∧x.key.length≤9223372036854775807∧x.text.length≤9223372036854775807)) (SA:Ag rdSlot 3 G (.slice ta x.as.length tc) x.as) (SK:Ag rdP 6 G (.slice ka x.kids.length kc) x.kids):Calls Tryz.prog 130 #[.agg #[.int .u8 x.kind,.string (str x.tag),.string (str x.key),.slice ta x.as.length tc,.string (str x.text),.slice ka x.kids.length kc]] w (Bn w0 G L fun v=>v=.int .i64 (Vn x)):=by
 refine Aj (vs:=[_]) Tryz.func130 rfl (n:=6) rfl rfl<|?_
 refine Bo<|?_
 refine Bw M rfl rfl rfl<|?_;clear M;intro b1 w M
 refine wk ?_;refine A2 ent165 rfl rfl (Ya (x:=x) M hk hl SA SK)<|?_;clear M;rintro _ w M rfl
 refine wk ?_;refine qD rfl ?_ ?_
 ·intro h2;refine wk ?_;refine Aa rfl rfl<|?_
  exact ⟨M.weaken dS1,by rw [Sj fun h_=>by have:=Pp.2 h_;omega]⟩
 intro h3;refine wk ?_;refine Aa rfl rfl<|?_
 exact ⟨M.weaken dS1,by rw [Aco (Pp.1 (by omega))]⟩
set_option maxHeartbeats 1600000
theorem Aut (M:Mem w0 G L w) {s:List UInt8} (hs:s.length≤9223372036854775807):Calls Tryz.prog 215 #[.string (str s)] w (Bn w0 G L fun v=>∃ b:Bool,v=.bool b∧(b=true↔¬ Cf s)):=by
 refine Aj (vs:=[_]) Tryz.func215 rfl (n:=6) rfl rfl<|?_
 refine wk ?_;refine A2 Qt rfl rfl (Gw (s:=s) M (by assumption))<|?_;clear M;rintro _ w M ⟨b1,rfl,hb1⟩
 refine wk ?_;refine Aa rfl rfl<|?_
 exact ⟨M,(!(b1)),rfl,(by clear M;grind)⟩
theorem Qn (M:Mem w0 G L w) {ad:Option Addr} {cd:Nat} {xs:List (List UInt8)} (S:Ag Cb 1 G (.slice ad xs.length cd) xs):Calls Tryz.prog 104 #[.slice ad xs.length cd,.func (.func 215) #[] #[]] w (Bn w0 G L fun v=>∃ z:Int,v=.int .i64 z∧(0≤z↔¬ ∀ s∈xs,Cf s)):=by
 have bS:=S.bound;refine Aj (vs:=[_,_]) Tryz.func104 rfl (n:=19) rfl rfl<|?_
 refine wk ?_;refine fun a F=>A3 (fun m a' w'=>∃ (i:Nat),m=xs.length - i∧Fits 19 a' [(0,.slice ad xs.length cd),(1,.func (.func 215) #[] #[]),(7,.int .i64 ((xs.length:Nat):Int)),(8,.int .i64 ((i:Nat):Int))]∧Mem w0 G (L) w'∧(i≤xs.length)∧(∀ (m:Nat) (s:List UInt8),m < i→xs[m]?=some s→Cf s)) _ ⟨0,rfl,F.to ⟨rfl,rfl,rfl,rfl,trivial⟩,M,Nat.zero_le _,fun m d h=>by omega⟩ ?_;clear F M;rintro m a w ⟨i,rfl,F,M,hi,hA⟩;revert a;refine wk ?_;refine qD rfl ?_ ?_
 ·intro h1;refine wk ?_;obtain ⟨Xe2,hXe2⟩:=Ak (xs:=xs) (i:=i) (by omega);obtain ⟨be2,oe2,_,Ie2,_,Ae2,⟨rfl,hsle2⟩⟩:=S.at hXe2;refine wk ?_;refine Adz ent215 (caps:=[]) rfl rfl rfl (Aut (s:=Xe2) M (by omega))<|?_;clear M;rintro _ w M ⟨b3,rfl,hb3⟩
  refine Ao<|F4<|?_
  refine Ae rfl ?_ ?_
  ·intro h4b;have h4:(b3)=true:=h4b;refine wk ?_;refine Aa rfl rfl<|?_
   exact ⟨M,_,rfl,⟨fun _ h_=>(hb3.1 (by assumption)) (h_ _ (List.mem_of_getElem? hXe2)),fun _=>by omega⟩⟩
  intro h5b;have h5:(b3)=false:=h5b;refine wk ?_;intro a F
  exact ⟨_,by omega,i+1,rfl,F.to ⟨rfl,rfl,rfl,rfl,trivial⟩,M,by omega,Mu hA hXe2 (by clear F M;grind)⟩
 intro h6;refine wk ?_;refine Aa rfl rfl<|?_
 exact ⟨M,_,rfl,⟨fun h=>by omega,fun h=>absurd (F5 hA (by omega)) h⟩⟩
theorem Od (M:Mem w0 G L w) {ad:Option Addr} {cd:Nat} {xs:List (List UInt8)} (S:Ag Cb 1 G (.slice ad xs.length cd) xs):Calls Tryz.prog 51 #[.slice ad xs.length cd,.func (.func 215) #[] #[]] w (Bn w0 G L fun v=>∃ b:Bool,v=.bool b∧(b=true↔¬ ∀ s∈xs,Cf s)):=by
 refine Aj (vs:=[_,_]) Tryz.func51 rfl (n:=9) rfl rfl<|?_
 refine wk ?_;refine A2 Aug rfl rfl (Qn (xs:=xs) M S)<|?_;clear M;rintro _ w M ⟨z1,rfl,hz1⟩
 refine wk ?_;refine Aa rfl rfl<|?_
 exact ⟨M,_,rfl,decide_eq_true_iff.trans hz1⟩
theorem Uy (M:Mem w0 G L w) {x:ItemD} {ma:Option Addr} {mc:Nat} (ht:x.text.length≤9223372036854775807) (SM:Ag Cb 1 G (.slice ma x.marks.length mc) x.marks):Calls Tryz.prog 191 #[.agg #[.int .u64 x.key,.int .u8 x.typ,.string (str x.text),.slice ma x.marks.length mc]] w (Bn w0 G L fun v=>v=.int .i64 (Gk x)):=by
 refine Aj (vs:=[_]) Tryz.func191 rfl (n:=23) rfl rfl<|?_
 refine Bo<|?_
 refine Bw M rfl rfl rfl<|?_;clear M;intro b1 w M
 refine wk ?_
 rcases bE (decide (x.key=0)) with h2b | h3b
 ·skip
  have h2:=dT h2b;refine wk ?_;refine Aa rfl rfl<|?_
  exact ⟨M.weaken dS1,by rw [Dq (by clear M;unfold ItemOk;grind)]⟩
 have h3:=dF h3b;refine wk ?_;refine A2 Afw rfl rfl (Lj (s:=x.text) M (by omega))<|?_;clear M;rintro _ w M ⟨b4,rfl,hb4⟩
 refine wk ?_
 rcases bE (!(b4)) with h5b | h6b
 ·skip
  have h5:=Ab h5b;have h5c:(b4)=false:=(Ab h5b);refine wk ?_;refine Aa rfl rfl<|?_
  exact ⟨M.weaken dS1,by rw [Dq (by clear M;unfold ItemOk;grind)]⟩
 have h6:=Ac h6b;have h6c:(b4)=true:=(Ac h6b);refine wk ?_
 rcases bE (decide (8 < ((x.marks.length:Nat):Int))) with h7b | h8b
 ·skip
  have h7:=dT h7b;refine wk ?_;refine Aa rfl rfl<|?_
  exact ⟨M.weaken dS1,by rw [Dq (by clear M;unfold ItemOk;grind)]⟩
 have h8:=dF h8b;refine wk ?_;refine A2 ent51 rfl rfl (Od (xs:=x.marks) M SM)<|?_;clear M;rintro _ w M ⟨b9,rfl,hb9⟩
 refine wk ?_;refine Ae rfl ?_ ?_
 ·intro h10b;have h10:(b9)=true:=h10b;refine wk ?_;refine Aa rfl rfl<|?_
  exact ⟨M.weaken dS1,by rw [Dq (by clear M;unfold ItemOk;grind)]⟩
 intro h11b;have h11:(b9)=false:=h11b;refine wk ?_;refine Aa rfl rfl<|?_
 exact ⟨M.weaken dS1,by rw [Cs (by first | (clear M;unfold ItemOk;grind) | exact ⟨by omega,by clear M;grind,by omega,F5 hA (by omega)⟩)]⟩
theorem Lb (M:Mem w0 G L w) {x:ItemD} {ma:Option Addr} {mc:Nat} (ht:x.text.length≤9223372036854775807) (SM:Ag Cb 1 G (.slice ma x.marks.length mc) x.marks):Calls Tryz.prog 150 #[.agg #[.int .u64 x.key,.int .u8 x.typ,.string (str x.text),.slice ma x.marks.length mc]] w (Bn w0 G L fun v=>v=.int .i64 (Gk x)):=by
 refine Aj (vs:=[_]) Tryz.func150 rfl (n:=33) rfl rfl<|?_
 refine Bo<|?_
 refine Bw M rfl rfl rfl<|?_;clear M;intro b1 w M
 refine wk ?_
 rcases bE (decide (x.key=0)) with h2b | h3b
 ·skip
  have h2:=dT h2b;refine wk ?_;refine Aa rfl rfl<|?_
  exact ⟨M.weaken dS1,by rw [Dq (by clear M;unfold ItemOk;grind)]⟩
 have h3:=dF h3b;refine wk ?_;refine A2 Um rfl rfl (Kc (s:=x.text) M (by omega))<|?_;clear M;rintro _ w M ⟨b4,rfl,hb4⟩
 refine wk ?_
 rcases bE (!(b4)) with h5b | h6b
 ·skip
  have h5:=Ab h5b;have h5c:(b4)=false:=(Ab h5b);refine wk ?_;refine Aa rfl rfl<|?_
  exact ⟨M.weaken dS1,by rw [Dq (by clear M;unfold ItemOk;grind)]⟩
 have h6:=Ac h6b;have h6c:(b4)=true:=(Ac h6b);refine wk ?_;refine qD rfl ?_ ?_
 ·intro h7;refine wk ?_;refine Aa rfl rfl<|?_
  exact ⟨M.weaken dS1,by rw [Dq (by clear M;unfold ItemOk;grind)]⟩
 intro h8;refine wk ?_;refine fun a F=>A3 (fun m a' w'=>∃ (i:Nat),m=x.marks.length - i∧Fits 33 a' [(1,.pointer (some ⟨b1,0,none⟩)),(3,.int .i64 ((i:Nat):Int))]∧Mem w0 G (.blk b1 [.int .u64 x.key,.int .u8 x.typ,.string (str x.text),.slice ma x.marks.length mc] 26::L) w'∧(i≤x.marks.length)∧(∀ (m:Nat) (s:List UInt8),m < i→x.marks[m]?=some s→Cf s)) _ ⟨0,rfl,F.to ⟨rfl,rfl,trivial⟩,M,Nat.zero_le _,fun m d h=>by omega⟩ ?_;clear F M;rintro m a w ⟨i,rfl,F,M,hi,hA⟩;revert a;refine wk ?_;refine qD rfl ?_ ?_
 ·intro h9;refine wk ?_;obtain ⟨Xe10,hXe10⟩:=Ak (xs:=x.marks) (i:=i) (by omega);obtain ⟨be10,oe10,_,Ie10,_,Ae10,⟨rfl,hsle10⟩⟩:=SM.at hXe10;refine wk ?_;refine A2 Mf rfl rfl (Dt (s:=Xe10) M (by omega))<|?_;clear M;rintro _ w M ⟨b11,rfl,hb11⟩
  refine wk ?_;refine Ae rfl ?_ ?_
  ·intro h12b;have h12:=Ab h12b;have h12c:(b11)=false:=(Ab h12b);refine wk ?_;refine Aa rfl rfl<|?_
   exact ⟨M.weaken dS1,by rw [Dq (Abh hXe10 (by clear M;grind))]⟩
  intro h13b;have h13:=Ac h13b;have h13c:(b11)=true:=(Ac h13b);refine wk ?_;intro a F
  exact ⟨_,by omega,i+1,rfl,F.to ⟨rfl,rfl,trivial⟩,M,by omega,Mu hA hXe10 (by clear F M;grind)⟩
 intro h14;refine wk ?_;refine Aa rfl rfl<|?_
 exact ⟨M.weaken dS1,by rw [Cs (by first | (clear M;unfold ItemOk;grind) | exact ⟨by omega,by clear M;grind,by omega,F5 hA (by omega)⟩)]⟩
set_option maxHeartbeats 1600000
theorem Qv (M:Mem w0 G L w) {u:Nat} (hu:u < 18446744073709551616):Calls Tryz.prog 219 #[.int .u64 (u:Int)] w (Bn w0 G L fun v=>v=.string (str (Lib.decDigits u))):=by
 refine Aj (vs:=[_]) Tryz.func219 rfl (n:=19) rfl rfl<|?_
 refine wk ?_;refine Bv M Xu rfl rfl<|?_;clear M;intro b1 w M
 refine wk ?_;replace M:Mem w0 G (.blk b1 (bc (List.replicate 20 0)) 302::L) w:=M;refine wk ?_;refine fun a F=>A3 (fun m a' w'=>∃ (i:Nat),∃ (n:Nat),∃ (ls:List UInt8),m=i+1∧Fits 19 a' [(3,.pointer (some ⟨b1,0,none⟩)),(0,.int .u64 ((n:Nat):Int)),(4,.int .i64 ((i:Nat):Int))]∧Mem w0 G (.blk b1 (bc (ls)) 302::L) w'∧(i≤20)∧(ls.length=20)∧(n < 18446744073709551616)∧(Lib.decDigits u=Lib.decDigits n++ls.drop i)) _ ⟨20,u,List.replicate 20 0,rfl,F.to ⟨rfl,rfl,rfl,trivial⟩,M,Nat.le_refl _,by simp,hu,by simp⟩ ?_;clear F M;rintro m a w ⟨i,n,ls,rfl,F,M,hi,hl20,hn64,hD⟩;revert a;refine Hx<|B7<|?_
 have h1i:=Aup hD hu hl20 hi;refine wk ?_;have hs3:(((i:Nat):Int) - 1:Int)=((i - 1:Nat):Int):=by omega
 intro a F;rw [hs3] at F;revert a;refine wk ?_;refine Aq (fun a F=>Fi (F.ev rfl) (F.ev rfl) (by omega) (by omega)) rfl<|?_
 obtain ⟨B4,hB4⟩:=Ak (xs:=([48,49,50,51,52,53,54,55,56,57]:List UInt8)) (i:=n % 10) (by (show n % 10 < 10;omega));have lB4:=Wf B4;refine Aq (fun a F=>C1 (i:=n % 10) Dg.k (F.ev rfl) (F.ev rfl) hB4) rfl<|Aq (fun a F=>Ge (j:=i - 1) Xu.k E6 rfl (F.ev rfl) (F.ev rfl) (by omega) (by omega)) rfl<|fun a F=>?_
 refine Qa F M E6 rfl (k:=0) rfl rfl rfl rfl (List.getElem?_eq_getElem (by rw [U0];omega)) ?_;clear F M a;intro w a M F;rw [Nat.zero_add,bc_set] at M;replace M:=z_M M;have hBt:=hB4;revert a;refine wk ?_;refine Aq (fun a F=>Lu (F.ev rfl) (F.ev rfl) (by omega) (by omega) (K0 (by omega) (by omega))) rfl<|?_
 refine wk ?_;refine qD rfl ?_ ?_
 ·intro h5;refine wk ?_;refine Aq (fun a F=>U8 (l:=i - 1) Xu.k E6 rfl (F.ev rfl) (F.ev rfl) (by omega) (by omega)) rfl<|Aq (fun a F=>U6 M (k:=0) rfl K9.k E6.k Dg.k (F.ev rfl) (by rw [List.length_set];omega)) rfl<|?_
  refine wk ?_;refine Aa rfl rfl<|?_
  have h_:=Xb hD h1i hi hl20 hBt;rw [if_pos (by omega),List.nil_append] at h_
  exact ⟨M.weaken dS1,by rw [h_]⟩
 intro h6;refine wk ?_;intro a F
 exact ⟨_,by omega,i - 1,n / 10,(ls).set (i - 1) B4,rfl,F.to ⟨rfl,rfl,rfl,trivial⟩,M,by omega,by rw [List.length_set];exact hl20,by omega,by have h_:=Xb hD h1i hi hl20 hBt;rw [if_neg (by omega)] at h_;exact h_⟩
def RdecP (u:Nat):Prop:=∀ (w0 w:World) (G:Ap) (L:List Res),Mem w0 G L w→u < 18446744073709551616→Calls Tryz.prog 186 #[.int .u64 (u:Int)] w (Bn w0 G L fun v=>v=.string (str (Lib.decDigits u)))
theorem Aep {u:Nat} (ih:∀ v,v < u→RdecP v) {w0 w:World} {G:Ap} {L:List Res} (M:Mem w0 G L w) (hu:u < 18446744073709551616):Calls Tryz.prog 186 #[.int .u64 (u:Int)] w (Bn w0 G L fun v=>v=.string (str (Lib.decDigits u))):=by
 refine Aj (vs:=[_]) Tryz.func186 rfl (n:=16) rfl rfl<|?_
 refine wk ?_;refine qD rfl ?_ ?_
 ·intro h1;refine wk ?_;refine Aq (fun a F=>Gp (F.ev rfl) (F.ev rfl) (K0 (by omega) (by omega))) rfl<|Aq (fun a F=>X4 (a:=u) (b:=u+1) Dg.k (F.ev rfl) ⟨(F.ev rfl),by omega⟩ ⟨(F.ev rfl),by omega⟩ (by (first | omega | (show u+1≤10;omega))) (by (first | omega | (show u+1≤10;omega)))) rfl<|?_
  have hsl2:(([48,49,50,51,52,53,54,55,56,57]:List UInt8).take (u+1)).drop (u)=[UInt8.ofNat (48+u)]:=W9 u (by omega);intro a F;rw [hsl2] at F;revert a;refine wk ?_;refine Aa rfl rfl<|?_
  exact ⟨M,by rw [Qw (by omega)]⟩
 intro h3;refine wk ?_;refine Aq (fun a F=>Lu (F.ev rfl) (F.ev rfl) (by omega) (by omega) (K0 (by omega) (by omega))) rfl<|A2 Ul rfl rfl (ih (u / 10) (by omega) _ _ _ _ M (by omega))<|?_;clear M;rintro _ w M rfl
 have hdld4:=C9 (u / 10) (by omega);refine Cl rfl<|?_
 refine Aq (fun a F=>Fi (F.ev rfl) (F.ev rfl) (by omega) (by omega)) rfl<|A2 Ul rfl rfl (ih (u % 10) (by omega) _ _ _ _ M (by omega))<|?_;clear M;rintro _ w M rfl
 have hdld5:=C9 (u % 10) (by omega);refine Aq (fun a F=>Cy (F.ev rfl) (F.ev rfl) (by (try simp only [List.length_append,List.length_cons,List.length_nil]);omega)) rfl<|?_
 refine wk ?_;refine Aa rfl rfl<|?_
 exact ⟨M,by rw [dec_two (by omega)]⟩
theorem Ajw (u:Nat):RdecP u:=by
 induction u using Nat.strongRecOn with
 | _ u ih=>intro w0 w G L M hu;exact Aep ih M hu
theorem N0 (M:Mem w0 G L w) {u:Nat} (hu:u < 18446744073709551616):Calls Tryz.prog 186 #[.int .u64 (u:Int)] w (Bn w0 G L fun v=>v=.string (str (Lib.decDigits u))):=Ajw u _ _ _ _ M hu
end Go.Proofs.YtmmhmcplegpenaaGreatDoor.T
