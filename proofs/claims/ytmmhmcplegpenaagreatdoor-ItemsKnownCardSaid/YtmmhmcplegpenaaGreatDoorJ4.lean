/- The walks, part C. · The walks, part S. · The walks, part N. · The walks, part P. · The walks, part T. -/
import Derived.Test.YtmmhmcplegpenaaGreatDoorJ3
import Derived.Test.YtmmhmcplegpenaaGreatDoorYB
set_option linter.unusedSimpArgs false
set_option linter.unusedVariables false
set_option maxRecDepth 10000
namespace Go.Proofs.YtmmhmcplegpenaaGreatDoor
open Go Go.Y Go.Proofs
variable {w0 w:World} {G:Av} {L:List Res}
theorem Sn (M:Mem w0 G L w) {x:ItemD} {max:Option Addr} {mcx:Nat} (hIx:(x.key < 18446744073709551616∧x.typ < 256∧x.text.length≤9223372036854775807)) (SMx:A8 Cj 1 G (.slice max x.marks.length mcx) x.marks) {y:ItemD} {may:Option Addr} {mcy:Nat} (hIy:(y.key < 18446744073709551616∧y.typ < 256∧y.text.length≤9223372036854775807)) (SMy:A8 Cj 1 G (.slice may y.marks.length mcy) y.marks):Calls Tryz.prog 46 #[.agg #[.int .u64 ((x.key:Nat):Int),.int .u8 ((x.typ:Nat):Int),.string (str x.text),.slice max x.marks.length mcx],.agg #[.int .u64 ((y.key:Nat):Int),.int .u8 ((y.typ:Nat):Int),.string (str y.text),.slice may y.marks.length mcy]] w (B5 w0 G L fun v=>v=.int .i64 (if x=y then (1:Int) else 0)):=by
 refine Az (vs:=[_,_]) Tryz.func46 rfl (n:=52) rfl rfl<|Ad<|G4 M rfl rfl rfl<|?_;clear M;intro b1 w M
 refine G4 M rfl rfl rfl<|?_;clear M;intro b2 w M
 refine Ab rfl<|Ai<|Ai<|?_
 have bSM:=SMx.bound;refine Aw<|A9 Af.k rfl rfl<|Bl Dk M 1 rfl rfl rfl rfl<|A9 Af.k rfl rfl<|Bl Dk M 0 rfl rfl rfl rfl<|Df rfl rfl<|Aa rfl<|?_
 rcases bE (!(decide (((x.key:Nat):Int)=((y.key:Nat):Int)))) with h3b | h4b
 ·skip
  have h3:=dF (Ag h3b);have h3c:(decide (((x.key:Nat):Int)=((y.key:Nat):Int)))=false:=(Ag h3b);refine g_f rfl (Aj h3c)<|g_f rfl (Aj h3c)<|g_f rfl (Aj h3c)<|g_f rfl (Aj h3c)<|g_f rfl (Aj h3c)<|A7 rfl (Aj h3c) rfl<|Aa rfl<|g_f rfl rfl<|g_f rfl rfl<|g_f rfl rfl<|g_f rfl rfl<|g_f rfl rfl<|A7 rfl rfl rfl<|Aa rfl<|g_f rfl rfl<|g_f rfl rfl<|g_f rfl rfl<|g_f rfl rfl<|g_f rfl rfl<|g_f rfl rfl<|g_f rfl rfl<|A7 rfl rfl rfl<|Au<|Ch<|?_
  refine Bz rfl rfl<|Ad<|Ab rfl<|Al<|Ak rfl rfl<|?_
  exact ⟨M.weaken dS2,by rw [if_neg (fun h_=>by subst h_;clear M;grind)]⟩
 have h4:=dT (Ah h4b);have h4c:(decide (((x.key:Nat):Int)=((y.key:Nat):Int)))=true:=(Ah h4b);refine g_t rfl (Ac h4c)<|A9 Af.k rfl rfl<|g_t rfl (Ac h4c)<|Bl Cz M 1 rfl rfl rfl rfl<|g_t rfl (Ac h4c)<|A9 Af.k rfl rfl<|g_t rfl (Ac h4c)<|Bl Cz M 0 rfl rfl rfl rfl<|g_t rfl (Ac h4c)<|Df rfl rfl<|A1 rfl (Ac h4c) rfl<|Aa rfl<|?_
 rcases bE (!(decide (((x.typ:Nat):Int)=((y.typ:Nat):Int)))) with h5b | h6b
 ·skip
  have h5:=dF (Ag h5b);have h5c:(decide (((x.typ:Nat):Int)=((y.typ:Nat):Int)))=false:=(Ag h5b);refine g_f rfl (Aj h5c)<|g_f rfl (Aj h5c)<|g_f rfl (Aj h5c)<|g_f rfl (Aj h5c)<|g_f rfl (Aj h5c)<|A7 rfl (Aj h5c) rfl<|Aa rfl<|g_f rfl rfl<|g_f rfl rfl<|g_f rfl rfl<|g_f rfl rfl<|g_f rfl rfl<|g_f rfl rfl<|g_f rfl rfl<|A7 rfl rfl rfl<|Bz rfl rfl<|Ad<|Ab rfl<|Al<|?_
  refine Ak rfl rfl<|?_
  exact ⟨M.weaken dS2,by rw [if_neg (fun h_=>by subst h_;clear M;grind)]⟩
 have h6:=dT (Ah h6b);have h6c:(decide (((x.typ:Nat):Int)=((y.typ:Nat):Int)))=true:=(Ah h6b);refine g_t rfl (Ac h6c)<|A9 Af.k rfl rfl<|g_t rfl (Ac h6c)<|Bl A6 M 1 rfl rfl rfl rfl<|g_t rfl (Ac h6c)<|A9 Af.k rfl rfl<|g_t rfl (Ac h6c)<|Bl A6 M 0 rfl rfl rfl rfl<|g_t rfl (Ac h6c)<|F1 rfl rfl<|A1 rfl (Ac h6c) rfl<|Aa rfl<|?_
 rcases bE (!(decide (x.text=y.text))) with h7b | h8b
 ·skip
  have h7:=dF (Ag h7b);have h7c:(decide (x.text=y.text))=false:=(Ag h7b);refine g_f rfl (Aj h7c)<|g_f rfl (Aj h7c)<|g_f rfl (Aj h7c)<|g_f rfl (Aj h7c)<|g_f rfl (Aj h7c)<|g_f rfl (Aj h7c)<|g_f rfl (Aj h7c)<|A7 rfl (Aj h7c) rfl<|Bz rfl rfl<|Ad<|Ab rfl<|Al<|Ak rfl rfl<|?_
  exact ⟨M.weaken dS2,by rw [if_neg (fun h_=>by subst h_;clear M;grind)]⟩
 have h8:=dT (Ah h8b);have h8c:(decide (x.text=y.text))=true:=(Ah h8b);refine g_t rfl (Ac h8c)<|A9 Af.k rfl rfl<|g_t rfl (Ac h8c)<|Bl A5 M 1 rfl rfl rfl rfl<|g_t rfl (Ac h8c)<|Cf A5.k rfl<|g_t rfl (Ac h8c)<|A9 Af.k rfl rfl<|g_t rfl (Ac h8c)<|Bl A5 M 0 rfl rfl rfl rfl<|g_t rfl (Ac h8c)<|Cf A5.k rfl<|g_t rfl (Ac h8c)<|Df rfl rfl<|A1 rfl (Ac h8c) rfl<|Ap rfl ?_ ?_
 ·intro h9b;have h9:=dF (Ag h9b);have h9c:(decide (((x.marks.length:Nat):Int)=((y.marks.length:Nat):Int)))=false:=(Ag h9b);refine Ad<|Ab rfl<|Al<|Ak rfl rfl<|?_
  exact ⟨M.weaken dS2,by rw [if_neg (fun h_=>by subst h_;clear M;grind)]⟩
 intro h10b;have h10:=dT (Ah h10b);have h10c:(decide (((x.marks.length:Nat):Int)=((y.marks.length:Nat):Int)))=true:=(Ah h10b);refine Ao<|Ai<|Ad<|Ab rfl<|Ar<|fun a F=>Bi (fun m a' w'=>∃ (i:Nat),m=x.marks.length - i∧Fits 52 a' [(2,.pointer (some ⟨b1,0,none⟩)),(3,.pointer (some ⟨b2,0,none⟩)),(5,.int .i64 ((i:Nat):Int))]∧Mem w0 G (.blk b2 [.int .u64 ((y.key:Nat):Int),.int .u8 ((y.typ:Nat):Int),.string (str y.text),.slice may y.marks.length mcy] 26::.blk b1 [.int .u64 ((x.key:Nat):Int),.int .u8 ((x.typ:Nat):Int),.string (str x.text),.slice max x.marks.length mcx] 26::L) w'∧(i≤x.marks.length)∧(∀ m,m < i→x.marks[m]?=y.marks[m]?)) _ ⟨0,rfl,F.to ⟨rfl,rfl,rfl,trivial⟩,M,Nat.zero_le _,fun m h=>by omega⟩ ?_
 clear F M;rintro m a w ⟨i,rfl,F,M,hi,hA⟩;revert a;refine Ai<|Ad<|Aa rfl<|A9 Af.k rfl rfl<|Bl A5 M 1 rfl rfl rfl rfl<|Cf A5.k rfl<|Co rfl rfl<|qD rfl ?_ ?_
 ·intro h11;refine Ao<|Ai<|Ar<|Ai<|fun a F=>Hw [(true,0),(true,1),(true,2),(true,3),(true,4),(true,5),(true,6),(true,7),(true,8),(true,9),(true,10)] (Keep G [.blk b2 [.int .u64 ((y.key:Nat):Int),.int .u8 ((y.typ:Nat):Int),.string (str y.text),.slice may y.marks.length mcy] 26,.blk b1 [.int .u64 ((x.key:Nat):Int),.int .u8 ((x.typ:Nat):Int),.string (str x.text),.slice max x.marks.length mcx] 26]) rfl (by kernel_rfl) (fun c a d v w h=>by cases d <;> exact h) (Bx (M.drew _)) ?_
  replace M:=M.drew (w.drawn+1);revert a;refine lFa Af.k rfl rfl<|lLd A5 1 rfl rfl rfl rfl<|lMv rfl<|?_
  obtain ⟨Xe12,hXe12⟩:=A0 (xs:=x.marks) (i:=i) (by omega);obtain ⟨be12,oe12,_,Ie12,_,Ae12,⟨rfl,hsle12⟩⟩:=SMx.at hXe12;refine l_r (fun a F w M=>Bo A5.k A6 (F.ev rfl) (F.ev rfl) (by omega) Ie12) rfl<|l_r (fun a F w M=>Bk (agf A6 rfl) (F.ev rfl) (M.cellA Ae12 0 (by omega) rfl)) rfl<|lFa Af.k rfl rfl<|lLd A5 0 rfl rfl rfl rfl<|lMv rfl<|?_
  obtain ⟨Xe13,hXe13⟩:=A0 (xs:=y.marks) (i:=i) (by omega);obtain ⟨be13,oe13,_,Ie13,_,Ae13,⟨rfl,hsle13⟩⟩:=SMy.at hXe13;refine l_r (fun a F w M=>Bo A5.k A6 (F.ev rfl) (F.ev rfl) (by omega) Ie13) rfl<|l_r (fun a F w M=>Bk (agf A6 rfl) (F.ev rfl) (M.cellA Ae13 0 (by omega) rfl)) rfl<|l_r (fun a F w M=>I3 (F.ev rfl) (F.ev rfl)) rfl<|Jh<|?_
  generalize ({ w with drawn:=w.drawn+1 }:World)=w at M ⊢
  refine Ap rfl ?_ ?_
  ·intro h14b;have h14:=dF (Ag h14b);have h14c:(decide (Xe12=Xe13))=false:=(Ag h14b);refine Ad<|Ab rfl<|Al<|Ak rfl rfl<|?_
   exact ⟨M.weaken dS2,by rw [if_neg (fun h_=>absurd (congrArg ItemD.marks h_) (Oh hXe12 hXe13 (by assumption)))]⟩
  intro h15b;have h15:=dT (Ah h15b);have h15c:(decide (Xe12=Xe13))=true:=(Ah h15b);refine Ao<|Aw<|Aa rfl<|Bw rfl rfl<|Ab rfl<|Au<|Ch<|fun a F=>?_
  exact ⟨_,by omega,i+1,rfl,F.to ⟨rfl,rfl,rfl,trivial⟩,M,by omega,Ui hA hXe12 hXe13 (by assumption)⟩
 intro h16;refine Br<|Bu<|Bu<|C6<|Ad<|Ab rfl<|Al<|Ak rfl rfl<|?_
 exact ⟨M.weaken dS2,by rw [if_pos (Hu (by omega) (by omega) (by assumption) (Ya hA (by omega) (by omega)))]⟩
theorem Fy (M:Mem w0 G L w) {a1:Option Addr} {c1:Nat} {xs:List ItemD} (S:A8 B1 4 G (.slice a1 xs.length c1) xs) {a2:Option Addr} {c2:Nat} {ys:List ItemD} (T:A8 B1 4 G (.slice a2 ys.length c2) ys):Calls Tryz.prog 13 #[.slice a1 xs.length c1,.slice a2 ys.length c2] w (B5 w0 G L fun v=>v=.int .i64 (if xs=ys then (1:Int) else 0)):=by
 have bS:=S.bound;have bT:=T.bound;refine Az (vs:=[_,_]) Tryz.func13 rfl (n:=27) rfl rfl<|Ad<|Ab rfl<|Ai<|Ad<|Aa rfl<|Cf A3.k rfl<|Aa rfl<|Cf A3.k rfl<|Df rfl rfl<|Ap rfl ?_ ?_
 ·intro h1b;have h1:=dF (Ag h1b);refine Ad<|Ab rfl<|Al<|Ak rfl rfl<|?_
  exact ⟨M,by rw [if_neg (fun h_=>absurd (congrArg List.length h_) (by omega))]⟩
 intro h2b;have h2:=dT (Ah h2b);refine Ao<|Ai<|Ad<|Ab rfl<|Ar<|fun a F=>Bi (fun m a' w'=>∃ (i:Nat),m=xs.length - i∧Fits 27 a' [(0,.slice a1 xs.length c1),(1,.slice a2 ys.length c2),(5,.int .i64 ((i:Nat):Int))]∧Mem w0 G (L) w'∧(i≤xs.length)∧(∀ m,m < i→xs[m]?=ys[m]?)) _ ⟨0,rfl,F.to ⟨rfl,rfl,rfl,trivial⟩,M,Nat.zero_le _,fun m h=>by omega⟩ ?_
 clear F M;rintro m a w ⟨i,rfl,F,M,hi,hA⟩;revert a;refine Ai<|Ad<|Aa rfl<|Aa rfl<|Cf A3.k rfl<|Co rfl rfl<|qD rfl ?_ ?_
 ·intro h3;refine Ao<|Ai<|Ar<|Ai<|fun a F=>Hw [(true,0),(true,1),(true,2),(true,3),(true,4),(true,5),(true,6),(true,7),(false,8),(true,9)] (Keep G []) rfl (by kernel_rfl) (fun c a d v w h=>by cases d <;> exact h) (Bx (M.drew _)) ?_
  replace M:=M.drew (w.drawn+1);revert a;refine lMv rfl<|lMv rfl<|?_
  obtain ⟨Xe4,hXe4⟩:=A0 (xs:=xs) (i:=i) (by omega);obtain ⟨be4,oe4,_,Ie4,_,Ae4,hTe4⟩:=S.at hXe4;obtain ⟨mae4,mce4,rfl,hke4,hte4,hxe4,hne4,SMe4⟩:=hTe4;have hIe4:(Xe4.key < 18446744073709551616∧Xe4.typ < 256∧Xe4.text.length≤9223372036854775807):=⟨hke4,hte4,hxe4⟩;refine l_r (fun a F w M=>Bo A3.k Af (F.ev rfl) (F.ev rfl) (by omega) Ie4) rfl<|l_r (fun a F w M=>Bj Af rfl (F.ev rfl) (cs:=[.int .u64 ((Xe4.key:Nat):Int),.int .u8 ((Xe4.typ:Nat):Int),.string (str Xe4.text),.slice mae4 Xe4.marks.length mce4]) rfl (M.cellsA Ae4 0 (by omega) rfl)) rfl<|lMv rfl<|lMv rfl<|?_
  obtain ⟨Xe5,hXe5⟩:=A0 (xs:=ys) (i:=i) (by omega);obtain ⟨be5,oe5,_,Ie5,_,Ae5,hTe5⟩:=T.at hXe5;obtain ⟨mae5,mce5,rfl,hke5,hte5,hxe5,hne5,SMe5⟩:=hTe5;have hIe5:(Xe5.key < 18446744073709551616∧Xe5.typ < 256∧Xe5.text.length≤9223372036854775807):=⟨hke5,hte5,hxe5⟩;refine l_r (fun a F w M=>Bo A3.k Af (F.ev rfl) (F.ev rfl) (by omega) Ie5) rfl<|l_r (fun a F w M=>Bj Af rfl (F.ev rfl) (cs:=[.int .u64 ((Xe5.key:Nat):Int),.int .u8 ((Xe5.typ:Nat):Int),.string (str Xe5.text),.slice mae5 Xe5.marks.length mce5]) rfl (M.cellsA Ae5 0 (by omega) rfl)) rfl<|l_a rfl<|Bc ent46 rfl rfl (Sn (x:=Xe4) (y:=Xe5) M hIe4 SMe4 hIe5 SMe5)<|?_;clear M;rintro _ w M rfl
  refine eQ (Bx M)<|l_r (fun a F w M=>Kg (F.ev rfl) (F.ev rfl)) rfl<|Jh<|qD rfl ?_ ?_
  ·intro h6;refine Ad<|Ab rfl<|Al<|Ak rfl rfl<|?_
   exact ⟨M,by rw [if_neg (Oh hXe4 hXe5 (fun h_=>by rw [if_pos h_] at *;omega))]⟩
  intro h7;refine Ao<|Aw<|Aa rfl<|Bw rfl rfl<|Ab rfl<|Au<|Ch<|fun a F=>?_
  exact ⟨_,by omega,i+1,rfl,F.to ⟨rfl,rfl,rfl,trivial⟩,M,by omega,Ui hA hXe4 hXe5 (Classical.byContradiction fun h_=>by rw [if_neg h_] at *;omega)⟩
 intro h8;refine Br<|Bu<|Bu<|C6<|Ad<|Ab rfl<|Al<|Ak rfl rfl<|?_
 exact ⟨M,by rw [if_pos (Ya hA (by omega) (by omega))]⟩
theorem Rp (M:Mem w0 G L w) {a1:Option Addr} {c1:Nat} {xs:List ItemD} (S:A8 B1 4 G (.slice a1 xs.length c1) xs):Calls Tryz.prog 56 #[.slice a1 xs.length c1] w (B5 w0 G L fun v=>v=.int .i64 (if Few xs then (1:Int) else 0)):=by
 have bS:=S.bound;refine Az (vs:=[_]) Tryz.func56 rfl (n:=50) rfl rfl<|Ad<|Ab rfl<|Ai<|Ad<|Aa rfl<|Cf A3.k rfl<|C5 rfl rfl<|qD rfl ?_ ?_
 ·intro h1;refine Ad<|Ab rfl<|Al<|Ak rfl rfl<|?_
  exact ⟨M,by rw [if_neg (fun h_:Few xs=>by have:=h_.1;omega)]⟩
 intro h2;refine Ao<|Ai<|Ad<|Ab rfl<|Ar<|fun a F=>Bi (fun m a' w'=>∃ (i:Nat),m=xs.length - i∧Fits 50 a' [(0,.slice a1 xs.length c1),(3,.int .i64 ((i:Nat):Int))]∧Mem w0 G (L) w'∧(i≤xs.length)∧(∀ (m:Nat) (x:ItemD),m < i→xs[m]?=some x→R4 x)) _ ⟨0,rfl,F.to ⟨rfl,rfl,trivial⟩,M,Nat.zero_le _,fun m x h=>by omega⟩ ?_
 clear F M;rintro m a w ⟨i,rfl,F,M,hi,hA⟩;revert a;refine Ai<|Ad<|Aa rfl<|Aa rfl<|Cf A3.k rfl<|Co rfl rfl<|qD rfl ?_ ?_
 ·intro h3;refine Ao<|Ai<|Ar<|Ai<|Ad<|Aa rfl<|Aa rfl<|?_
  obtain ⟨Xe4,hXe4⟩:=A0 (xs:=xs) (i:=i) (by omega);obtain ⟨be4,oe4,_,Ie4,_,Ae4,hTe4⟩:=S.at hXe4;obtain ⟨mae4,mce4,rfl,hke4,hte4,hxe4,hne4,SMe4⟩:=hTe4;have hIe4:(Xe4.key < 18446744073709551616∧Xe4.typ < 256∧Xe4.text.length≤9223372036854775807):=⟨hke4,hte4,hxe4⟩;refine Db A3.k Af Ie4 rfl rfl<|A9 Af.k rfl rfl<|Dm A6 M Ae4 2 rfl rfl rfl rfl<|Aq (fun a F=>Bp A6.k (F.ev rfl)) rfl<|C5 rfl rfl<|Aa rfl<|?_
  rcases bE (decide (70 < (((Xe4.text).length:Nat):Int))) with h5b | h6b
  ·skip
   have h5:=dT h5b;refine g_f rfl h5b<|g_f rfl h5b<|g_f rfl h5b<|g_f rfl h5b<|g_f rfl h5b<|g_f rfl h5b<|g_f rfl h5b<|A7 rfl h5b rfl<|Bz rfl rfl<|Ad<|Ab rfl<|Al<|Ak rfl rfl<|?_
   exact ⟨M,by rw [if_neg (Few.no hXe4 (fun h_=>by have h1_:=h_.1;have h2_:=h_.2.1;omega))]⟩
  have h6:=dF h6b;refine g_t rfl h6b<|Aa rfl<|g_t rfl h6b<|Aa rfl<|g_t rfl h6b<|?_
  obtain ⟨be7,oe7,_,Ie7,_,Ae7,hTe7⟩:=S.at hXe4;obtain ⟨mae7,mce7,rfl,hke7,hte7,hxe7,hne7,SMe7⟩:=hTe7;have hIe7:(Xe4.key < 18446744073709551616∧Xe4.typ < 256∧Xe4.text.length≤9223372036854775807):=⟨hke7,hte7,hxe7⟩;refine Db A3.k Af Ie7 rfl rfl<|g_t rfl h6b<|A9 Af.k rfl rfl<|g_t rfl h6b<|Dm A5 M Ae7 3 rfl rfl rfl rfl<|g_t rfl h6b<|Cf A5.k rfl<|g_t rfl h6b<|C5 rfl rfl<|A1 rfl h6b rfl<|qD rfl ?_ ?_
  ·intro h8;refine Ad<|Ab rfl<|Al<|Ak rfl rfl<|?_
   exact ⟨M,by rw [if_neg (Few.no hXe4 (fun h_=>by have h1_:=h_.1;have h2_:=h_.2.1;omega))]⟩
  intro h9;refine Ao<|Ad<|Ab rfl<|Ar<|fun a F=>Bi (fun m a' w'=>∃ (j:Nat),m=Xe4.marks.length - j∧Fits 50 a' [(0,.slice a1 xs.length c1),(3,.int .i64 ((i:Nat):Int)),(4,.int .i64 ((j:Nat):Int))]∧Mem w0 G (L) w'∧(j≤Xe4.marks.length)∧(∀ (m:Nat) (s:List UInt8),m < j→Xe4.marks[m]?=some s→s.length≤20)) _ ⟨0,rfl,F.to ⟨rfl,rfl,rfl,trivial⟩,M,Nat.zero_le _,fun m x h=>by omega⟩ ?_
  clear F M;rintro m a w ⟨j,rfl,F,M,hj,hB⟩;revert a;refine Ai<|Ad<|Aa rfl<|Aa rfl<|Aa rfl<|?_
  obtain ⟨be10,oe10,_,Ie10,_,Ae10,hTe10⟩:=S.at hXe4;obtain ⟨mae10,mce10,rfl,hke10,hte10,hxe10,hne10,SMe10⟩:=hTe10;have hIe10:(Xe4.key < 18446744073709551616∧Xe4.typ < 256∧Xe4.text.length≤9223372036854775807):=⟨hke10,hte10,hxe10⟩;refine Db A3.k Af Ie10 rfl rfl<|A9 Af.k rfl rfl<|Dm A5 M Ae10 3 rfl rfl rfl rfl<|Cf A5.k rfl<|Co rfl rfl<|qD rfl ?_ ?_
  ·intro h11;refine Ao<|Ai<|Ar<|Ad<|Aa rfl<|Aa rfl<|?_
   obtain ⟨be12,oe12,_,Ie12,_,Ae12,hTe12⟩:=S.at hXe4;obtain ⟨mae12,mce12,rfl,hke12,hte12,hxe12,hne12,SMe12⟩:=hTe12;have hIe12:(Xe4.key < 18446744073709551616∧Xe4.typ < 256∧Xe4.text.length≤9223372036854775807):=⟨hke12,hte12,hxe12⟩;refine Db A3.k Af Ie12 rfl rfl<|A9 Af.k rfl rfl<|Dm A5 M Ae12 3 rfl rfl rfl rfl<|Aa rfl<|?_
   obtain ⟨Xe13,hXe13⟩:=A0 (xs:=Xe4.marks) (i:=j) (by omega);obtain ⟨be13,oe13,_,Ie13,_,Ae13,⟨rfl,hsle13⟩⟩:=SMe12.at hXe13;refine Db A5.k A6 Ie13 rfl rfl<|Dm A6 M Ae13 0 rfl rfl (by omega) rfl<|Aq (fun a F=>Bp A6.k (F.ev rfl)) rfl<|C5 rfl rfl<|qD rfl ?_ ?_
   ·intro h14;refine Ad<|Ab rfl<|Al<|Ak rfl rfl<|?_
    exact ⟨M,by rw [if_neg (Few.no hXe4 (fun h_=>by have:=h_.2.2 _ (List.mem_of_getElem? hXe13);omega))]⟩
   intro h15;refine Ao<|Aw<|Aa rfl<|Bw rfl rfl<|Ab rfl<|Au<|Ch<|fun a F=>?_
   exact ⟨_,by omega,j+1,rfl,F.to ⟨rfl,rfl,rfl,trivial⟩,M,by omega,Cx hB hXe13 (by omega)⟩
  intro h16;refine Br<|Bu<|Bu<|C6<|Aw<|Aa rfl<|Bw rfl rfl<|Ab rfl<|Au<|Ch<|fun a F=>?_
  exact ⟨_,by omega,i+1,rfl,F.to ⟨rfl,rfl,trivial⟩,M,by omega,Cx hA hXe4 ⟨by omega,by omega,C4 hB (by omega)⟩⟩
 intro h17;refine Br<|Bu<|Bu<|C6<|Ad<|Ab rfl<|Al<|Ak rfl rfl<|?_
 exact ⟨M,by rw [if_pos (show Few xs from ⟨by omega,C4 hA (by omega)⟩)]⟩
theorem Tg {w0 w:World} {G:Av} {L:List Res} {b k:Nat} {x:ItemD} {ma:Option Addr} {mc:Nat} (M:Mem w0 G (.blk b [.int .u64 ((k:Nat):Int)] 23::L) w) (SM:A8 Cj 1 G (.slice ma x.marks.length mc) x.marks) :
  Calls Tryz.prog 110 #[.agg #[.int .u64 ((x.key:Nat):Int),.int .u8 ((x.typ:Nat):Int),.string (str x.text),.slice ma x.marks.length mc],.pointer (some ⟨b,0,none⟩)] w (B5 w0 G (.blk b [.int .u64 ((k:Nat):Int)] 23::L) fun v=>∃ bb:Bool,v=.bool bb∧(bb=true↔x.key=k)):=by
 refine Az (vs:=[_,_]) Tryz.func110 rfl (n:=8) rfl rfl<|Ad<|G4 M rfl rfl rfl<|?_;clear M;intro b1 w M
 refine Ab rfl<|Ad<|A9 Af.k rfl rfl<|Bl Dk M 0 rfl rfl rfl rfl<|Bl Dk M 1 rfl rfl rfl rfl<|C2 rfl rfl<|Ab rfl<|Al<|Ak rfl rfl<|?_
 exact ⟨M.weaken (cN (cC (sR _))),_,rfl,by rw [decide_eq_true_iff];omega⟩
theorem Vy {w0 w:World} {G:Av} {L:List Res} {b k:Nat} (M:Mem w0 G (.blk b [.int .u64 ((k:Nat):Int)] 23::L) w) {a1:Option Addr} {c1:Nat} {xs:List ItemD} (S:A8 B1 4 G (.slice a1 xs.length c1) xs) :
  Calls Tryz.prog 109 #[.slice a1 xs.length c1,.func (.func 110) #[] #[.pointer (some ⟨b,0,none⟩)]] w (B5 w0 G (.blk b [.int .u64 ((k:Nat):Int)] 23::L) fun v=>∃ z:Int,v=.int .i64 z∧Ff xs k z):=by
 have bS:=S.bound;refine Az (vs:=[_,_]) Tryz.func109 rfl (n:=19) rfl rfl<|Ad<|Ab rfl<|Ai<|Ad<|Aa rfl<|Cf A3.k rfl<|Aa rfl<|Ar<|fun a F=>Bi (fun m a' w'=>∃ (i:Nat),m=xs.length - i∧Fits 19 a' [(0,.slice a1 xs.length c1),(1,.func (.func 110) #[] #[.pointer (some ⟨b,0,none⟩)]),(7,.int .i64 ((xs.length:Nat):Int)),(8,.int .i64 ((i:Nat):Int))]∧Mem w0 G (.blk b [.int .u64 ((k:Nat):Int)] 23::L) w'∧(i≤xs.length)∧(∀ (m:Nat) (y:ItemD),m < i→xs[m]?=some y→y.key≠k)) _ ⟨0,rfl,F.to ⟨rfl,rfl,rfl,rfl,trivial⟩,M,Nat.zero_le _,fun m d h=>by omega⟩ ?_
 clear F M;rintro m a w ⟨i,rfl,F,M,hi,hA⟩;revert a;refine Ad<|Co rfl rfl<|Ai<|qD rfl ?_ ?_
 ·intro h1;refine Ao<|Ai<|Ar<|Ad<|Aa rfl<|Ab rfl<|Ad<|Aa rfl<|Aa rfl<|Aa rfl<|?_
  obtain ⟨Xe2,hXe2⟩:=A0 (xs:=xs) (i:=i) (by omega);obtain ⟨be2,oe2,_,Ie2,_,Ae2,hTe2⟩:=S.at hXe2;obtain ⟨mae2,mce2,rfl,hke2,hte2,hxe2,hne2,SMe2⟩:=hTe2;have hIe2:(Xe2.key < 18446744073709551616∧Xe2.typ < 256∧Xe2.text.length≤9223372036854775807):=⟨hke2,hte2,hxe2⟩;refine Db A3.k Af Ie2 rfl rfl<|Aq (fun a F=>Bj Af rfl (F.ev rfl) (cs:=[.int .u64 ((Xe2.key:Nat):Int),.int .u8 ((Xe2.typ:Nat):Int),.string (str Xe2.text),.slice mae2 Xe2.marks.length mce2]) rfl (M.cellsA Ae2 0 (by omega) rfl)) rfl<|?_
  change Mem w0 G (_::L) _ at M;refine Si ent110 (caps:=[.pointer (some ⟨b,0,none⟩)]) rfl rfl rfl (Tg (x:=Xe2) M SMe2)<|?_;clear M;rintro _ w M ⟨b3,rfl,hb3⟩
  refine Ap rfl ?_ ?_
  ·intro h4b;have h4:(b3)=true:=h4b;refine Ad<|Aa rfl<|Ab rfl<|Al<|Ak rfl rfl<|?_
   exact ⟨M,_,rfl,Ff.some hA hXe2 (by clear M;grind)⟩
  intro h5b;have h5:(b3)=false:=h5b;refine Ao<|Aw<|Bw rfl rfl<|Aa rfl<|Au<|Ch<|fun a F=>?_
  exact ⟨_,by omega,i+1,rfl,F.to ⟨rfl,rfl,rfl,rfl,trivial⟩,M,by omega,Cx (p:=fun y:ItemD=>y.key≠k) hA hXe2 (by clear F M;grind)⟩
 intro h6;refine Br<|Bu<|Bu<|C6<|Ad<|Ab rfl<|Al<|Ak rfl rfl<|?_
 exact ⟨M,_,rfl,Ff.none hA (by omega)⟩
theorem V1 (M:Mem w0 G L w) {a1:Option Addr} {c1:Nat} {xs:List ItemD} (S:A8 B1 4 G (.slice a1 xs.length c1) xs) {k:Nat}:Calls Tryz.prog 64 #[.slice a1 xs.length c1,.int .u64 ((k:Nat):Int)] w (B5 w0 G L fun v=>∃ z:Int,v=.tuple #[.int .i64 (max z 0),.bool (decide (0≤z))]∧Ff xs k z):=by
 refine Az (vs:=[_,_]) Tryz.func64 rfl (n:=13) rfl rfl<|Ad<|G4 M rfl rfl rfl<|?_;clear M;intro b1 w M
 refine Ab rfl<|Ab rfl<|Ad<|Aa rfl<|Aq (fun a F=>D8 (vs:=#[.pointer (some ⟨b1,0,none⟩)]) (by simp only [List.map_toArray,List.map_cons,List.map_nil,F.ev (x:=.tmp 3) rfl])) rfl<|?_
 change Mem w0 G (_::L) _ at M;refine Bc ent109 rfl rfl (Vy (xs:=xs) M S)<|?_;clear M;rintro _ w M ⟨z2,rfl,hz2⟩
 refine Ab rfl<|Ad<|Aa rfl<|Aq (fun a F=>Mm (F.ev rfl) (F.ev rfl)) rfl<|Aa rfl<|Jc rfl rfl<|Ab rfl<|Ab rfl<|Al<|D5 rfl rfl rfl<|?_
 exact ⟨M.weaken dS1,_,rfl,hz2⟩
theorem Ss (M:Mem w0 G L w) {a1:Option Addr} {c1:Nat} {xs:List ItemD} (S:A8 B1 4 G (.slice a1 xs.length c1) xs) {k:Nat}:Calls Tryz.prog 61 #[.slice a1 xs.length c1,.int .u64 ((k:Nat):Int)] w (B5 w0 G L fun v=>∃ z:Int,v=.int .i64 z∧Ff xs k z):=by
 have bS:=S.bound;refine Az (vs:=[_,_]) Tryz.func61 rfl (n:=20) rfl rfl<|Ad<|Ab rfl<|Ai<|Ad<|Ab rfl<|Ar<|fun a F=>Bi (fun m a' w'=>∃ (i:Nat),m=xs.length - i∧Fits 20 a' [(0,.slice a1 xs.length c1),(1,.int .u64 ((k:Nat):Int)),(5,.int .i64 ((i:Nat):Int))]∧Mem w0 G (L) w'∧(i≤xs.length)∧(∀ (m:Nat) (y:ItemD),m < i→xs[m]?=some y→y.key≠k)) _ ⟨0,rfl,F.to ⟨rfl,rfl,rfl,trivial⟩,M,Nat.zero_le _,fun m d h=>by omega⟩ ?_
 clear F M;rintro m a w ⟨i,rfl,F,M,hi,hA⟩;revert a;refine Ai<|Ad<|Aa rfl<|Aa rfl<|Cf A3.k rfl<|Co rfl rfl<|qD rfl ?_ ?_
 ·intro h1;refine Ao<|Ai<|Ar<|Ad<|Aa rfl<|Aa rfl<|?_
  obtain ⟨Xe2,hXe2⟩:=A0 (xs:=xs) (i:=i) (by omega);obtain ⟨be2,oe2,_,Ie2,_,Ae2,hTe2⟩:=S.at hXe2;obtain ⟨mae2,mce2,rfl,hke2,hte2,hxe2,hne2,SMe2⟩:=hTe2;have hIe2:(Xe2.key < 18446744073709551616∧Xe2.typ < 256∧Xe2.text.length≤9223372036854775807):=⟨hke2,hte2,hxe2⟩;refine Db A3.k Af Ie2 rfl rfl<|A9 Af.k rfl rfl<|Dm Dk M Ae2 0 rfl rfl rfl rfl<|Aa rfl<|C2 rfl rfl<|qD rfl ?_ ?_
  ·intro h3;refine Ad<|Aa rfl<|Ab rfl<|Al<|Ak rfl rfl<|?_
   exact ⟨M,_,rfl,Ff.some hA hXe2 (by omega)⟩
  intro h4;refine Ao<|Aw<|Aa rfl<|Bw rfl rfl<|Ab rfl<|Au<|Ch<|fun a F=>?_
  exact ⟨_,by omega,i+1,rfl,F.to ⟨rfl,rfl,rfl,trivial⟩,M,by omega,Cx (p:=fun y:ItemD=>y.key≠k) hA hXe2 (by omega)⟩
 intro h5;refine Br<|Bu<|Bu<|C6<|Ad<|Ab rfl<|Al<|Ak rfl rfl<|?_
 exact ⟨M,_,rfl,Ff.none hA (by omega)⟩
theorem N0 {w0 w:World} {G:Av} {L:List Res} {b n c:Nat} {ad:Option Addr} (M:Mem w0 G (.blk b [.pointer none,.slice ad n c] 101::L) w) :
  Calls Tryz.prog 96 #[.pointer (some ⟨b,0,none⟩)] w (B5 w0 G (.blk b [.pointer (some ⟨b,0,none⟩),.slice ad n c] 101::L) fun v=>v=.tuple #[]):=by
 refine Az (vs:=[_]) Tryz.func96 rfl (n:=20) rfl rfl<|Ad<|Aa rfl<|Fj rfl<|A9 Eg.k rfl rfl<|Bl J9 M 0 rfl rfl rfl rfl<|Aq (fun a F=>Oa J9.k (F.ev rfl) (F.ev rfl)) rfl<|Bz rfl rfl<|Aw<|Aa rfl<|Aa rfl<|Aq (fun a F=>Pi M (k:=0) rfl (by simp) J9.k (by kernel_rfl) Eg (by decide) (F.ev rfl)) rfl<|Aq (fun a F=>run_noEscape Tryz.func142 (by kernel_rfl) (by kernel_rfl) (by kernel_rfl) (by kernel_rfl) (F.ev rfl) (F.ev (x:=.func 142) rfl)) rfl<|Aq (fun a F=>Mn M (k:=0) rfl (by kernel_rfl) J9.k Eg (by kernel_rfl) (F.ev rfl)) rfl<|Fj rfl<|A9 Eg.k rfl rfl<|F0 J9 M 0 rfl rfl rfl rfl rfl rfl<|?_;clear M;intro w M
 refine Au<|fun a F=>fin0n F rfl ?_
 exact ⟨M,rfl⟩
theorem Nz {w0 w:World} {G:Av} {L:List Res} {b n c:Nat} {ad:Option Addr} (M:Mem w0 G (.blk b [.pointer (some ⟨b,0,none⟩),.slice ad n c] 101::L) w) :
  Calls Tryz.prog 96 #[.pointer (some ⟨b,0,none⟩)] w (B5 w0 G (.blk b [.pointer (some ⟨b,0,none⟩),.slice ad n c] 101::L) fun v=>v=.tuple #[]):=by
 refine Az (vs:=[_]) Tryz.func96 rfl (n:=20) rfl rfl<|Ad<|Aa rfl<|Fj rfl<|A9 Eg.k rfl rfl<|Bl J9 M 0 rfl rfl rfl rfl<|Aq (fun a F=>Oa J9.k (F.ev rfl) (F.ev rfl)) rfl<|Cq rfl rfl<|Ad<|Aa rfl<|Fj rfl<|A9 Eg.k rfl rfl<|Bl J9 M 0 rfl rfl rfl rfl<|Aa rfl<|Aq (fun a F=>Ml J9.k Eg (F.ev rfl) (F.ev rfl)) rfl<|Cq rfl rfl<|Ao<|fun a F=>fin0n F rfl ?_
 exact ⟨M,rfl⟩
theorem Ng {w0 w:World} {G:Av} {L:List Res} {b n c:Nat} {ad:Option Addr} {p:Value} (hp:p=.pointer none∨p=.pointer (some ⟨b,0,none⟩)) (M:Mem w0 G (.blk b [p,.slice ad n c] 101::L) w) :
  Calls Tryz.prog 96 #[.pointer (some ⟨b,0,none⟩)] w (B5 w0 G (.blk b [.pointer (some ⟨b,0,none⟩),.slice ad n c] 101::L) fun v=>v=.tuple #[]):=by
 rcases hp with rfl | rfl
 ·exact N0 M
 exact Nz M
theorem I1 {w0 w:World} {G:Av} {L:List Res} {b n c:Nat} {ad:Option Addr} {l:List UInt8} {p:Value} {s:List UInt8} (hp:p=.pointer none∨p=.pointer (some ⟨b,0,none⟩)) (M:Mem w0 G (.blk b [p,.slice ad n c] 101::.row (.slice ad n c) n (bc l) 5 1::L) w) (hn:n=l.length) (hnil:l=[]→ad=none) (hlen:l.length+s.length≤140737488355328) :
  Calls Tryz.prog 41 #[.pointer (some ⟨b,0,none⟩),.string (str s)] w (Lf w0 G fun L' v=>v=.tuple #[.int .i64 (s.length:Nat),.nilIface]∧∃ a' n' c',L' = (.blk b [.pointer (some ⟨b,0,none⟩),.slice a' n' c'] 101::.row (.slice a' n' c') n' (bc (l++s)) 5 1::L)∧n' = (l++s).length∧(l++s=[]→a' = none)):=by
 have hrow:ad.isNone=true→ad=none∧n=0∧c=0∧_:=fun h=>M.row_none (k:=1) rfl h;refine Az (vs:=[_,_]) Tryz.func41 rfl (n:=19) rfl rfl<|Ad<|Ab rfl<|Ab rfl<|Ad<|Aa rfl<|?_
 change Mem w0 G (_::_::L) _ at M;refine Bc ent96 rfl rfl (Ng hp M)<|?_;clear M;rintro _ w M rfl
 refine Ad<|Aa rfl<|Aa rfl<|Fj rfl<|A9 Eg.k rfl rfl<|Bl G7 M 0 rfl rfl rfl rfl<|Aa rfl<|fun a F=>?_
 refine Pp F M (k:=1) rfl G7.k A6.k Cz rfl rfl rfl rfl rfl (by omega) rfl ?_;clear F M a;intro v1 w a M hwv1 F;obtain ⟨av1,cv1,rfl,hlev1,hcmv1,hlv1⟩:=M.row_shape (k:=1) rfl;rw [← Wf] at M;revert a;refine Fj rfl<|A9 Eg.k rfl rfl<|F0 G7 M 0 rfl rfl rfl rfl rfl rfl<|?_;clear M;intro w M
 refine Ad<|Aa rfl<|Aq (fun a F=>Bp A6.k (F.ev rfl)) rfl<|Ab rfl<|Ab rfl<|Al<|D5 rfl rfl rfl<|?_
 replace M:=M.perm (Am _ 1 _ rfl);replace M:=M.perm (Am _ 1 _ rfl);change Mem w0 G (.blk b [.pointer (some ⟨b,0,none⟩),.slice av1 (n+(s).length) (cv1)] 101::_::L) _ at M
 exact ⟨_,M,rfl,_,_,_,rfl,by rw [List.length_append,hn],fun h=>by obtain ⟨h1,h2⟩:=List.append_eq_nil_iff.1 h;have h3:=hnil h1;subst h3;obtain ⟨_,h4,h5,_⟩:=hrow rfl;subst h4 h5;have h6:=hwv1.2 ⟨rfl,h2⟩;simp only [Value.slice.injEq] at h6;exact h6.1⟩
theorem Wd {w0 w:World} {G:Av} {L:List Res} {b c gb:Nat} {p:Value} {l:List UInt8} (M:Mem w0 G (.blk b [p,.slice none 0 0] 101::.row (.slice none 0 0) 0 (bc []) 5 1::L) w) :
  Calls Tryz.prog 43 #[.pointer (some ⟨b,0,none⟩)] w (B5 w0 G L fun v=>v=.string (str [])):=by
 refine Az (vs:=[_]) Tryz.func43 rfl (n:=14) rfl rfl<|Ad<|Ab rfl<|Ai<|fun a F=>Hw [(true,0),(true,1),(true,2),(true,3),(true,5),(true,6),(true,7),(true,8),(true,9),(false,4),(false,10),(true,11)] (Keep G [.blk b [p,.slice none 0 0] 101]) rfl (by kernel_rfl) (fun c a d v w h=>by cases d <;> exact h) (Bx (M.drew _)) ?_
 replace M:=M.drew (w.drawn+1);revert a;refine lMv rfl<|l_r (fun a F w M=>C3 (F.ev rfl)) rfl<|lFa Eg.k rfl rfl<|lLd G7 0 rfl rfl rfl rfl<|lMv rfl<|l_r (fun a F w M=>C3 (F.ev rfl)) rfl<|lFa Eg.k rfl rfl<|lLd G7 0 rfl rfl rfl rfl<|l_r (fun a F w M=>Ec G7.k (F.ev rfl)) rfl<|l_a rfl<|Aq (fun a F=>Mj (F.ev rfl)) rfl<|eQ (Bx M)<|l_a rfl<|Aq (fun a F=>Mf (F.ev rfl) (F.ev rfl)) rfl<|eK (C':=Keep G [.blk b [p,.slice none 0 0] 101]) (Bx M) (fun w h=>h.mono (Gle.refl _) (by simp))<|lAs rfl<|Jh<|Al<|Ak rfl rfl<|?_
 exact ⟨M.weaken dS2,rfl⟩
theorem Wb {w0 w:World} {G:Av} {L:List Res} {b c gb:Nat} {p:Value} {l:List UInt8} (M:Mem w0 G (.blk b [p,.slice (some ⟨gb,0,none⟩) (l.length) c] 101::.row (.slice (some ⟨gb,0,none⟩) (l.length) c) (l.length) (bc l) 5 1::L) w) (h0:l≠[]) (hc:l.length≤c) :
  Calls Tryz.prog 43 #[.pointer (some ⟨b,0,none⟩)] w (B5 w0 G L fun v=>v=.string (str l)):=by
 have h0':0 < l.length:=List.length_pos_iff.2 h0;refine Az (vs:=[_]) Tryz.func43 rfl (n:=14) rfl rfl<|Ad<|Ab rfl<|Ai<|fun a F=>Hw [(true,0),(true,1),(true,2),(true,3),(true,5),(true,6),(true,7),(true,8),(true,9),(false,4),(false,10),(true,11)] (Keep G [.blk b [p,.slice (some ⟨gb,0,none⟩) (l.length) (c)] 101]) rfl (by kernel_rfl) (fun c a d v w h=>by cases d <;> exact h) (Bx (M.drew _)) ?_
 replace M:=M.drew (w.drawn+1);revert a;refine lMv rfl<|l_r (fun a F w M=>C3 (F.ev rfl)) rfl<|lFa Eg.k rfl rfl<|lLd G7 0 rfl rfl rfl rfl<|lMv rfl<|l_r (fun a F w M=>C3 (F.ev rfl)) rfl<|lFa Eg.k rfl rfl<|lLd G7 0 rfl rfl rfl rfl<|l_r (fun a F w M=>Ec G7.k (F.ev rfl)) rfl<|l_a rfl<|Aq (fun a F=>Nr (F.ev rfl) (by omega)) rfl<|eQ (Bx M)<|l_a rfl<|fun a F=>?_
 refine Pn F M (k:=1) rfl tok174.k Cz rfl h0 rfl rfl rfl ?_;clear F M a;intro w a M F;revert a;refine eQ (Bx M)<|lAs rfl<|Jh<|Al<|Ak rfl rfl<|?_
 exact ⟨M.weaken dS1,rfl⟩
theorem O3 {w0 w:World} {G:Av} {L:List Res} {b n c:Nat} {ad:Option Addr} {l:List UInt8} {p:Value} (M:Mem w0 G (.blk b [p,.slice ad n c] 101::.row (.slice ad n c) n (bc l) 5 1::L) w) (hn:n=l.length) (hnil:l=[]→ad=none) :
  Calls Tryz.prog 43 #[.pointer (some ⟨b,0,none⟩)] w (B5 w0 G L fun v=>v=.string (str l)):=by
 subst hn
 by_cases h0:l=[]
 ·have h1:=hnil h0;subst h1 h0;obtain ⟨_,_,h4,_⟩:=M.row_none (k:=1) rfl rfl;subst h4
  exact Wd (gb:=0) (c:=0) (l:=[]) M
 have h0':0 < l.length:=List.length_pos_iff.2 h0;obtain ⟨gb,h1⟩:=M.row_some (k:=1) rfl h0';subst h1;obtain ⟨_,_,he,hle,_⟩:=M.row_shape (k:=1) rfl;simp only [Value.slice.injEq] at he
 exact Wb M h0 (by omega)
theorem Kr (M:Mem w0 G L w) (HG:Globs 0 1 2 3 G) {s sep:List UInt8} (hs:s.length < 4294967281) :
  Calls Tryz.prog 100 #[.string (str s),.string (str sep)] w (B5 w0 G L fun v=>v=.tuple #[.string (str (Lib.cut s sep).1),.string (str (Lib.cut s sep).2.1),.bool (Lib.cut s sep).2.2]):=by
 obtain ⟨m,hm⟩:=HG.max;refine (Any.strings_Cut Tryz.lays145 (str s) (str sep) m w (by rw [B9];exact hs) (M.cell hm)).mono ?_;rintro e w' ⟨rfl,n,rfl⟩;rw [Dn,Dn]
 exact ⟨M.drewN n,rfl⟩
theorem Sw (M:Mem w0 G L w) (HG:Globs 0 1 2 3 G) {s:List UInt8} (hs:s.length≤281474976710656) :
  Calls Tryz.prog 101 #[.string (str s),.int .i64 10,.int .i64 64] w (B5 w0 G L fun v=>∃ (u:Nat) (er:Value),v=.tuple #[.int .u64 (u:Int),er]∧u≤18446744073709551615∧(er=.nilIface∨∃ te pe,er=.iface te pe) ∧
   ((Lib.parseUintB 64 s=.ok u∧Dc er=true)∨((∀ x,Lib.parseUintB 64 s≠.ok x)∧Dc er=false))):=by
 have hd:(str s).data.toList=s:=Dn s
 cases h:Lib.parseUintB 64 s with
 | ok u =>
  refine (Any.strconv_ParseUint_10_at64_ok Tryz.laysPu14 (str s) (by rw [B9];omega) u (by rw [hd];exact h) w).mono ?_;rintro e w' ⟨rfl,hw⟩;refine ⟨?_,u,_,rfl,pu64_le h,Or.inl rfl,Or.inl ⟨rfl,rfl⟩⟩
  rcases hw with rfl | rfl
  ·exact M
  ·exact M.bytesWorld _ _
 | range =>
  obtain ⟨ev,h1,h2⟩:=HG.rng;refine (Any.strconv_ParseUint_10_at64_range Tryz.laysPu14 (str s) (by rw [B9];omega) (by rw [hd];exact h) ev w (M.cell h1) h2).mono ?_;rintro e w' ⟨N,rfl,_,_,hb⟩
  exact ⟨M.below' hb,18446744073709551615,_,rfl,by omega,Or.inr ⟨_,_,rfl⟩,Or.inr ⟨(fun x hx=>by cases hx),rfl⟩⟩
 | _ =>
  obtain ⟨ev,h1,h2⟩:=HG.syn;refine (Any.strconv_ParseUint_10_at64_syntax Tryz.laysPu14 (str s) (by rw [B9];omega) (by rw [hd];exact h) ev w (M.cell h1) h2).mono ?_;rintro e w' ⟨N,rfl,_,_,hb⟩
  exact ⟨M.below' hb,0,_,rfl,by omega,Or.inr ⟨_,_,rfl⟩,Or.inr ⟨(fun x hx=>by cases hx),rfl⟩⟩
theorem Rk (M:Mem w0 G L w) (HG:Globs 0 1 2 3 G) {n:Int} (hn:Bh .i64 n) :
  Calls Tryz.prog 166 #[.int .i64 n,.int .i64 10] w (B5 w0 G L fun v=>v=.string (str (Lib.itoa n))):=by
 refine (Any.internal_strconv_FormatInt_10 Tryz.laysM246 n hn.1 hn.2 w (HG.tabIs M (by kernel_rfl))).mono ?_;rintro e w' ⟨rfl,k,os,rfl⟩
 exact ⟨(M.drewN k).grew os,rfl⟩
theorem Sh (M:Mem w0 G L w) {i:Nat} (h:i < 100):Calls Tryz.prog 170 #[.int .i64 (i:Int)] w (B5 w0 G L fun v=>v=.string (str (Lib.decDigits i))):=by
 refine (Any.internal_strconv_small Tryz.lays283 i h w).mono ?_;rintro e w' ⟨rfl,rfl⟩
 exact ⟨M,rfl⟩
theorem Vk (M:Mem w0 G L w) (HG:Globs 0 1 2 3 G) {u:Nat} (h1:1≤u) (h2:u < 18446744073709551616):Calls Tryz.prog 171 #[.int .u64 (u:Int)] w (B5 w0 G L fun v=>v=.int .i64 ((Lib.nDigits u:Nat):Int)):=by
 refine (Any.internal_strconv_numDigits Tryz.laysM284 u h1 h2 w (HG.tabIs M (by kernel_rfl))).mono ?_;rintro e w' ⟨rfl,rfl⟩
 exact ⟨M,rfl⟩
theorem V2 {w0 w:World} {G:Av} {L:List Res} {b u c:Nat} {l:List UInt8} (M:Mem w0 G (.blk b (bc l) 244::L) w) (hl:l.length=24) (hnd:Lib.nDigits u≤24) (h2:u < 18446744073709551616) :
  Calls Tryz.prog 172 #[.slice (some ⟨b,0,none⟩) (Lib.nDigits u) c,.int .u64 (u:Int)] w (Lf w0 G fun L' v=>v=.tuple #[]∧∃ r,L' = (.blk b (bc (Lib.decDigits u++r)) 244::L)):=by
 have hH:=M.holdsB (k:=0) rfl (Lib.nDigits u) (by omega);have hs:(l.take (Lib.nDigits u)).toArray.size=Lib.nDigits u:=by simp;omega
 have:=Any.internal_strconv_formatBase10 Tryz.lays285 b 0 c u (l.take (Lib.nDigits u)).toArray w hH (by rw [hs];exact Lib.lt_pow_nDigits u) h2 (by rw [hs];omega);rw [hs] at this;refine this.mono ?_;rintro e w' ⟨rfl,n,v',dk,rfl,hF⟩;have hd:=Te hF;have M':=M.putRowB (k:=0) rfl dk (by rw [hF.size];omega) n;rw [hd] at M'
 exact ⟨_,M',rfl,_,rfl⟩
theorem Xz (M:Mem w0 G L w) (HG:Globs 0 1 2 3 G) {u:Nat} (hu:u < 18446744073709551616) :
  Calls Tryz.prog 144 #[.int .u64 (u:Int),.int .i64 10] w (B5 w0 G L fun v=>v=.string (str (Lib.decDigits u))):=by
 refine Az (vs:=[_,_]) Tryz.func144 rfl (n:=32) rfl rfl<|Ad<|Ab rfl<|Ai<|Ad<|Aa rfl<|C2 rfl rfl<|Bz rfl (decide_eq_true (by rfl))<|Ai<|Ad<|Aa rfl<|Co rfl rfl<|qD rfl ?_ ?_
 ·intro h1;refine Ad<|Aa rfl<|Aq (fun a F=>Bt Ct.k ⟨_,by rw [Bs Dk.k]⟩ (F.ev rfl) (Cl (by omega) (by omega))) rfl<|Bc ent170 rfl rfl (Sh (i:=u) M (by omega))<|?_;clear M;rintro _ w M rfl
  refine Ab rfl<|Al<|Ak rfl rfl<|?_
  exact ⟨M.weaken (sR _),rfl⟩
 intro h2;refine Ao<|Ad<|Dy M Sa rfl rfl<|?_;clear M;intro b3 w M
 refine Ai<|?_
 change Mem w0 G (_::L) _ at M;change Mem w0 G (.blk b3 (bc (List.replicate 24 0)) 244::L) w at M;refine Aw<|Aa rfl<|Bc ent171 rfl rfl (Vk (u:=u) M HG (by omega) (by omega))<|?_;clear M;rintro _ w M rfl
 refine Ab rfl<|Ai<|?_
 have hnd:Lib.nDigits u≤20:=by have h1:=Lib.numDigits_eq u (by omega) hu;split at h1 <;> omega
 refine Aw<|Aa rfl<|Aq (fun a F=>Kf (h:=Lib.nDigits u) Sa.k Cz (F.ev rfl) (F.ev rfl) (by omega) (by omega)) rfl<|Aa rfl<|?_
 change Mem w0 G (_::L) _ at M;refine Ph ent172 rfl rfl (V2 (u:=u) (l:=List.replicate 24 0) M (by simp) (by omega) (by omega))<|?_;clear M;rintro _ _ w M ⟨rfl,rr,rfl⟩
 refine Ad<|Aa rfl<|Aq (fun a F=>Kf (h:=Lib.nDigits u) Sa.k Cz (F.ev rfl) (F.ev rfl) (by omega) (by omega)) rfl<|Aq (fun a F=>Pk M (k:=0) rfl G7.k Cz.k A6.k (F.ev rfl) (by rw [List.length_append,Lib.decDigits_length];omega)) rfl<|fun a F=>?_
 rw [show (Lib.decDigits u++rr).take (Lib.nDigits u)=Lib.decDigits u by rw [← Lib.decDigits_length,List.take_left]] at F;revert a;refine Ab rfl<|Al<|Ak rfl rfl<|?_
 exact ⟨M.weaken dS1,rfl⟩
theorem Ub (M:Mem w0 G L w) (HG:Globs 0 1 2 3 G) {u:Nat} (hu:u < 18446744073709551616) :
  Calls Tryz.prog 98 #[.int .u64 (u:Int),.int .i64 10] w (B5 w0 G L fun v=>v=.string (str (Lib.decDigits u))):=by
 refine Az (vs:=[_,_]) Tryz.func98 rfl (n:=8) rfl rfl<|Ad<|Ab rfl<|Ad<|Aa rfl<|Aa rfl<|Bc ent144 rfl rfl (Xz (u:=u) M HG (by omega))<|?_;clear M;rintro _ w M rfl
 refine Ab rfl<|Al<|Ak rfl rfl<|?_
 exact ⟨M,rfl⟩
theorem itoa_nn {n:Int} (h:0≤n):Lib.itoa n=Lib.decDigits n.toNat:=by unfold Lib.itoa;rw [if_neg (by omega)]
theorem O1:∀ k:Nat,k < 10→(([48,49,50,51,52,53,54,55,56,57]:List UInt8).take (k+1)).drop k=[UInt8.ofNat (48+k)]:=by decide
theorem O2 {k:Nat} (h:k < 10):Lib.decDigits k=[UInt8.ofNat (48+k)]:=by
 rw [E8,if_pos (by omega),Nat.mod_eq_of_lt h];rfl
theorem dec_big {u:Nat} (h:9 < u):Lib.decDigits (u / 10)++[UInt8.ofNat (48+u % 10)]=Lib.decDigits u:=by
 rw [E8 u,if_neg (by omega)]
theorem pub8_le {s:List UInt8} {u:Nat} (h:Lib.parseUintB 8 s=.ok u):u≤255:=by
 have key:∀ (l:List UInt8) (acc:Nat),acc≤255→Lib.parseUintM (2 ^ 8 - 1) acc l=.ok u→u≤255:=by
  intro l
  induction l with
  | nil=>intro acc h1 h2;simp only [Lib.parseUintM,Lib.NumEnd.ok.injEq] at h2;omega
  | cons c r ih =>
   intro acc h1 h2;unfold Lib.parseUintM at h2
   split at h2
   ·split at h2
    ·cases h2
    ·split at h2
     ·cases h2
     ·exact ih _ (by omega) h2
   ·cases h2
 unfold Lib.parseUintB at h
 split at h
 ·cases h
 ·exact key s 0 (by omega) h
theorem Tb (M:Mem w0 G L w) (HG:Globs 0 1 2 3 G) {u:Nat} (hu:u < 9223372036854775808):Calls Tryz.prog 133 #[.int .i64 ((u:Nat):Int)] w (B5 w0 G L fun v=>v=.string (str (Lib.decDigits u))):=by
 refine Az (vs:=[_]) Tryz.func133 rfl (n:=5) rfl rfl<|Ad<|Ab rfl<|Ad<|Aa rfl<|Bc Yj rfl rfl (Rk (n:=((u:Nat):Int)) M HG (by first | assumption | exact ⟨by decide,by decide⟩ | exact wrap_ink _ _ | exact Cl (by omega) (by omega)))<|?_;clear M;rintro _ w M rfl
 refine Ab rfl<|Al<|Ak rfl rfl<|?_
 exact ⟨M,by rw [itoa_nn (by omega),Int.toNat_natCast]⟩
theorem Ov (M:Mem w0 G L w) (HG:Globs 0 1 2 3 G) {u:Nat} (hu:u < 9223372036854775808):Calls Tryz.prog 83 #[.int .i64 ((u:Nat):Int)] w (B5 w0 G L fun v=>v=.string (str (Lib.decDigits u))):=by
 refine Az (vs:=[_]) Tryz.func83 rfl (n:=5) rfl rfl<|Ad<|Ab rfl<|Ad<|Aa rfl<|Bc Yl rfl rfl (Tb (u:=u) M HG (by omega))<|?_;clear M;rintro _ w M rfl
 refine Ab rfl<|Al<|Ak rfl rfl<|?_
 exact ⟨M,rfl⟩
def RnumP (u:Nat):Prop:=∀ (w0 w:World) (G:Av) (L:List Res),Mem w0 G L w→u < 18446744073709551616→Calls Tryz.prog 108 #[.int .u64 ((u:Nat):Int)] w (B5 w0 G L fun v=>v=.string (str (Lib.decDigits u)))
theorem Uz {u:Nat} (ih:∀ v,v < u→RnumP v) {w0 w:World} {G:Av} {L:List Res} (M:Mem w0 G L w) (hu:u < 18446744073709551616):Calls Tryz.prog 108 #[.int .u64 ((u:Nat):Int)] w (B5 w0 G L fun v=>v=.string (str (Lib.decDigits u))):=by
 refine Az (vs:=[_]) Tryz.func108 rfl (n:=19) rfl rfl<|Ad<|Ab rfl<|Ad<|Aa rfl<|Aq (fun a F=>Hq (F.ev rfl) (F.ev rfl) (by (first | omega | (show u % 10 < 10;omega))) (by (first | omega | (show u % 10 < 10;omega)))) rfl<|Ab rfl<|Ad<|Aa rfl<|Aa rfl<|Aq (fun a F=>Fa (F.ev rfl) (F.ev rfl) (H8 (by (first | omega | (show u % 10+1≤10;omega))) (by (first | omega | (show u % 10+1≤10;omega))))) rfl<|Aq (fun a F=>Hz (a:=u % 10) (b:=(u % 10)+1) A6.k (F.ev rfl) ⟨(F.ev rfl),by omega⟩ ⟨(F.ev rfl),by omega⟩ (by (first | omega | (show u % 10+1≤10;omega))) (by (first | omega | (show u % 10+1≤10;omega)))) rfl<|?_
 have hsl1:(([48,49,50,51,52,53,54,55,56,57]:List UInt8).take ((u % 10)+1)).drop (u % 10)=[UInt8.ofNat (48+u % 10)]:=O1 (u % 10) (by omega);intro a F;rw [hsl1] at F;revert a;refine Ab rfl<|Ai<|Ad<|Aa rfl<|C5 rfl rfl<|qD rfl ?_ ?_
 ·intro h2;refine Aw<|Aa rfl<|Aq (fun a F=>Mk (F.ev rfl) (F.ev rfl) (by omega) (by omega) (H8 (by omega) (by omega))) rfl<|Bc Lb rfl rfl (ih (u / 10) (by omega) _ _ _ _ M (by omega))<|?_;clear M;rintro _ w M rfl
  have hdld3:=Ed (u / 10) (by omega);refine Aa rfl<|Aq (fun a F=>Bb (F.ev rfl) (F.ev rfl) (by (try simp only [List.length_append,List.length_cons,List.length_nil]);omega)) rfl<|Ab rfl<|Ad<|Aa rfl<|Ab rfl<|Al<|Ak rfl rfl<|?_
  exact ⟨M,by rw [dec_big (by omega)]⟩
 intro h4;refine Ao<|Ad<|Aa rfl<|Ab rfl<|Al<|Ak rfl rfl<|?_
 exact ⟨M,by rw [O2 (by omega),Nat.mod_eq_of_lt (by omega)]⟩
theorem W8 (u:Nat):RnumP u:=by
 induction u using Nat.strongRecOn with
 | _ u ih=>intro w0 w G L M hu;exact Uz ih M hu
theorem Hr (M:Mem w0 G L w) {u:Nat} (hu:u < 18446744073709551616):Calls Tryz.prog 108 #[.int .u64 ((u:Nat):Int)] w (B5 w0 G L fun v=>v=.string (str (Lib.decDigits u))):=W8 u _ _ _ _ M hu
theorem nb_inj {a b:UInt8} (h:nb a=nb b):a=b:=by
 simp only [nb] at h
 exact UInt8.toNat_inj.1 (by omega)
theorem cut_hit {c B:UInt8} {s:List UInt8} {i:Nat} (h:∀ (m:Nat) (b:UInt8),m < i→s[m]?=some b→b≠c) (hB:s[i]?=some B) (e:nb B=nb c):Lib.cut s [c]=((s.take i).drop 0,(s.take s.length).drop (i+1),true):=by
 have hb:=nb_inj e;subst hb;have:=Bm hB;rw [Iy,K7 h (Or.inl hB),if_pos this]
 simp
theorem cut_end {c:UInt8} {s:List UInt8} {i:Nat} (h:∀ (m:Nat) (b:UInt8),m < i→s[m]?=some b→b≠c) (hi:s.length≤i):Lib.cut s [c]=(s,[],false):=by
 apply Ru
 intro hc;obtain ⟨m,hm⟩:=List.mem_iff_getElem?.1 hc
 exact h m c (by have:=Bm hm;omega) hm rfl
theorem Gq (M:Mem w0 G L w) {s:List UInt8} (hs:s.length≤9223372036854775807) {c:UInt8}:Calls Tryz.prog 89 #[.string (str s),.int .u8 (nb c)] w (B5 w0 G L fun v=>v=.tuple #[.string (str (Lib.cut s [c]).1),.string (str (Lib.cut s [c]).2.1),.int .i64 (if (Lib.cut s [c]).2.2=true then 1 else 0)]):=by
 refine Az (vs:=[_,_]) Tryz.func89 rfl (n:=27) rfl rfl<|Ad<|Ab rfl<|Ab rfl<|Ab rfl<|Ai<|Ad<|Ab rfl<|Ar<|fun a F=>Bi (fun m a' w'=>∃ (i:Nat),m=s.length - i∧Fits 27 a' [(0,.string (str s)),(1,.int .u8 (nb c)),(7,.int .i64 ((i:Nat):Int))]∧Mem w0 G (L) w'∧(i≤s.length)∧(∀ (m:Nat) (b:UInt8),m < i→s[m]?=some b→b≠c)) _ ⟨0,rfl,F.to ⟨rfl,rfl,rfl,trivial⟩,M,by omega,fun m b h=>by omega⟩ ?_
 clear F M;rintro m a w ⟨i,rfl,F,M,hi,hA⟩;revert a;refine Ai<|Ad<|Aa rfl<|Aa rfl<|Aq (fun a F=>Bp A6.k (F.ev rfl)) rfl<|Co rfl rfl<|qD rfl ?_ ?_
 ·intro h1;refine Ao<|Ai<|Ar<|Ad<|Aa rfl<|Aa rfl<|?_
  obtain ⟨B2,hB2⟩:=A0 (xs:=(s)) (i:=i) (by omega);have lB2:=Mx B2;refine Aq (fun a F=>B8 (i:=i) A6.k (F.ev rfl) (F.ev rfl) hB2) rfl<|Aa rfl<|C2 rfl rfl<|qD rfl ?_ ?_
  ·intro h3;refine Ai<|fun a F=>Hw [(true,0),(true,1),(true,2),(true,3),(true,4),(true,5),(true,6),(true,7),(true,8),(true,9)] (Keep G []) rfl (by kernel_rfl) (fun c a d v w h=>by cases d <;> exact h) (Bx (M.drew _)) ?_
   replace M:=M.drew (w.drawn+1);revert a;refine lMv rfl<|lMv rfl<|l_r (fun a F w M=>Hz (a:=0) (b:=i) (ka:=.i64) (za:=0) A6.k (F.ev rfl) rfl ⟨(F.ev rfl),by omega⟩ (by omega) (by omega)) rfl<|lMv rfl<|lMv rfl<|l_r (fun a F w M=>Fa (F.ev rfl) (F.ev rfl) (Cl (by omega) (by omega))) rfl<|l_r (fun a F w M=>Hz (a:=i+1) (b:=(s).length) (kb:=.i64) (zb:=0) A6.k (F.ev rfl) ⟨(F.ev rfl),by omega⟩ rfl (by omega) (by omega)) rfl<|lAs rfl<|lAs rfl<|lAs rfl<|Jh<|?_
   generalize ({ w with drawn:=w.drawn+1 }:World)=w at M ⊢
   refine Al<|Ld rfl rfl rfl rfl<|?_
   exact ⟨M,by rw [cut_hit hA hB2 (by omega)];rfl⟩
  intro h4;refine Ao<|Aw<|Aa rfl<|Bw rfl rfl<|Ab rfl<|Au<|Ch<|fun a F=>?_
  exact ⟨_,by omega,i+1,rfl,F.to ⟨rfl,rfl,rfl,trivial⟩,M,by omega,Cx (p:=fun b=>b≠c) hA hB2 (fun e_=>by subst e_;omega)⟩
 intro h5;refine Br<|Bu<|Bu<|C6<|Ad<|Aa rfl<|Ab rfl<|Ab rfl<|Ab rfl<|Al<|Ld rfl rfl rfl rfl<|?_
 exact ⟨M,by rw [cut_end hA (by omega)];rfl⟩
theorem Vb (M:Mem w0 G L w) (HG:Globs 0 1 2 3 G) {s:List UInt8} (hs:s.length≤281474976710656) :
  Calls Tryz.prog 101 #[.string (str s),.int .i64 10,.int .i64 64] w (B5 w0 G L fun v=>∃ (u:Nat) (er:Value),v=.tuple #[.int .u64 (u:Int),er]∧(er=.nilIface∨∃ te pe,er=.iface te pe)∧R3 18446744073709551616 s u (Dc er)):=by
 refine (Sw M HG hs).mono ?_;rintro e w' h
 cases e with
 | returned v =>
  obtain ⟨M',u,er,h1,h2,h3,h4⟩:=h;refine ⟨M',u,er,h1,h3,by omega,fun m hm he=>?_⟩;subst he;have h5:=Pw (B:=64) (by decide) (u:=m) hm
  rcases h4 with ⟨h6,h7⟩ | ⟨h6,_⟩
  ·rw [h5] at h6;simp only [Lib.NumEnd.ok.injEq] at h6;exact ⟨h7,h6.symm⟩
  ·exact absurd h5 (h6 m)
 | panicked c=>exact h.elim
 | outgrown=>exact h.elim
theorem Xd (M:Mem w0 G L w) (HG:Globs 0 1 2 3 G) {s:List UInt8} (hs:s.length≤281474976710656) :
  Calls Tryz.prog 101 #[.string (str s),.int .i64 10,.int .i64 8] w (B5 w0 G L fun v=>∃ (u:Nat) (er:Value),v=.tuple #[.int .u64 (u:Int),er]∧(er=.nilIface∨∃ te pe,er=.iface te pe)∧R3 256 s u (Dc er)):=by
 have hd:(str s).data.toList=s:=Dn s;have no:∀ {b:Bool} {u:Nat},u < 256→(∀ m,m < 256→Lib.parseUintB 8 s≠.ok m)→R3 256 s u b:=fun hu h=>⟨hu,fun m hm he=>absurd (by rw [he];exact Pw (B:=8) (by decide) hm) (h m hm)⟩
 cases h:Lib.parseUintB 8 s with
 | ok u =>
  refine (Any.strconv_ParseUint_10_at8_ok Tryz.laysPu14 (str s) (by rw [B9];omega) u (by rw [hd];exact h) w).mono ?_;rintro e w' ⟨rfl,hw⟩;refine ⟨?_,u,_,rfl,Or.inl rfl,by have:=pub8_le h;omega,fun m hm he=>?_⟩
  ·rcases hw with rfl | rfl
   ·exact M
   ·exact M.bytesWorld _ _
  ·subst he;rw [Pw (B:=8) (by decide) hm] at h;simp only [Lib.NumEnd.ok.injEq] at h
   exact ⟨rfl,h.symm⟩
 | range =>
  obtain ⟨ev,h1,h2⟩:=HG.rng;refine (Any.strconv_ParseUint_10_at8_range Tryz.laysPu14 (str s) (by rw [B9];omega) (by rw [hd];exact h) ev w (M.cell h1) h2).mono ?_;rintro e w' ⟨N,rfl,_,_,hb⟩
  exact ⟨M.below' hb,255,_,rfl,Or.inr ⟨_,_,rfl⟩,no (by omega) (fun m _ hx=>by rw [h] at hx;cases hx)⟩
 | _ =>
  obtain ⟨ev,h1,h2⟩:=HG.syn;refine (Any.strconv_ParseUint_10_at8_syntax Tryz.laysPu14 (str s) (by rw [B9];omega) (by rw [hd];exact h) ev w (M.cell h1) h2).mono ?_;rintro e w' ⟨N,rfl,_,_,hb⟩
  exact ⟨M.below' hb,0,_,rfl,Or.inr ⟨_,_,rfl⟩,no (by omega) (fun m _ hx=>by rw [h] at hx;cases hx)⟩
theorem Wh (z:Int):IntKind.u64.wrap z=z % 18446744073709551616:=by
 simp [IntKind.wrap,IntKind.bits,IntKind.signed]
theorem Wr {s:List UInt8} {i:Nat} {B:UInt8} {z:Int} (hz:z=((Hl (s.take i) 0:Nat):Int) % 18446744073709551616) (hB:s[i]?=some B) (h1:48≤nb B) (h2:nb B≤57) :
  IntKind.u64.wrap (IntKind.u64.wrap (z * 10)+IntKind.u64.wrap (nb B - 48))=((Hl (s.take (i+1)) 0:Nat):Int) % 18446744073709551616:=by
 rw [List.take_add_one,hB];simp only [Option.toList_some,Kx,Wh,nb] at *
 omega
theorem Qi {s:List UInt8} {i:Nat} {z:Int} (hz:z=((Hl (s.take i) 0:Nat):Int) % 18446744073709551616) (h:i=s.length):z=((Hl (s.take s.length) 0:Nat):Int) % 18446744073709551616:=h ▸ hz
theorem Tu {s:List UInt8} {z:Int} (hz:z=((Hl (s.take s.length) 0:Nat):Int) % 18446744073709551616) {m:Nat} (hm:m < 18446744073709551616) (e:s=Lib.decDigits m):z.toNat=m:=by
 rw [List.take_length,e,Gi] at hz
 omega
theorem N9 (M:Mem w0 G L w) {s:List UInt8} (hs:s.length≤9223372036854775807):Calls Tryz.prog 137 #[.string (str s)] w (B5 w0 G L fun v=>∃ (u:Nat) (b:Bool),v=.tuple #[.int .u64 (u:Int),.int .i64 (if b=true then 1 else 0)]∧R3 18446744073709551616 s u b):=by
 refine Az (vs:=[_]) Tryz.func137 rfl (n:=41) rfl rfl<|Ad<|Ab rfl<|Ab rfl<|Ad<|Ab rfl<|Ai<|Ad<|Ab rfl<|Ar<|fun a F=>Bi (fun m a' w'=>∃ (i:Nat),∃ (z:Int),m=s.length - i∧Fits 41 a' [(0,.string (str s)),(4,.int .u64 z),(5,.int .i64 ((i:Nat):Int))]∧Mem w0 G (L) w'∧(i≤s.length)∧(z=((Hl (s.take i) 0:Nat):Int) % 18446744073709551616)) _ ⟨0,0,rfl,F.to ⟨rfl,rfl,rfl,trivial⟩,M,by omega,by simp [Hl]⟩ ?_
 clear F M;rintro m a w ⟨i,z,rfl,F,M,hi,hz⟩;revert a;refine Ai<|Ad<|Aa rfl<|Aa rfl<|Aq (fun a F=>Bp A6.k (F.ev rfl)) rfl<|Co rfl rfl<|qD rfl ?_ ?_
 ·intro h1;refine Ao<|Ai<|Ar<|Ad<|Aa rfl<|Aa rfl<|?_
  obtain ⟨B2,hB2⟩:=A0 (xs:=(s)) (i:=i) (by omega);have lB2:=Mx B2;refine Aq (fun a F=>B8 (i:=i) A6.k (F.ev rfl) (F.ev rfl) hB2) rfl<|Aq (fun a F=>Bt Dk.k ⟨_,by rw [Bs Cz.k]⟩ (F.ev rfl) (H8 (by (clear F M;simp only [nb] at *;omega)) (by (clear F M;simp only [nb] at *;omega)))) rfl<|Aq (fun a F=>Tw (F.ev rfl) (F.ev rfl)) rfl<|Ab rfl<|Ai<|Ad<|Aa rfl<|Aa rfl<|Aq (fun a F=>B8 (i:=i) A6.k (F.ev rfl) (F.ev rfl) hB2) rfl<|Co rfl rfl<|Aa rfl<|?_
  rcases bE (decide (nb B2 < 48)) with h3b | h4b
  ·skip
   have h3:=dT h3b;refine g_f rfl h3b<|g_f rfl h3b<|g_f rfl h3b<|g_f rfl h3b<|A7 rfl h3b rfl<|Aa rfl<|g_f rfl rfl<|g_f rfl rfl<|A7 rfl rfl rfl<|Bz rfl rfl<|Ad<|Ab rfl<|Ab rfl<|Al<|J2<|e_br<|J2<|J2<|e_br<|?_
   refine D5 rfl rfl rfl<|?_
   exact ⟨M,0,false,rfl,by omega,fun m hm he=>by exfalso;first | (have h9_:=Ib m _ (he ▸ List.mem_of_getElem? hB2);unfold Iv at h9_;simp only [nb] at *;omega) | (have h9_:=Ed m hm;rw [← he] at h9_;have:=Bm hB2;omega)⟩
  have h4:=dF h4b;refine g_t rfl h4b<|Aa rfl<|g_t rfl h4b<|Aa rfl<|g_t rfl h4b<|Aq (fun a F=>B8 (i:=i) A6.k (F.ev rfl) (F.ev rfl) hB2) rfl<|g_t rfl h4b<|C5 rfl rfl<|A1 rfl h4b rfl<|Aa rfl<|?_
  rcases bE (decide (57 < nb B2)) with h5b | h6b
  ·skip
   have h5:=dT h5b;refine g_f rfl h5b<|g_f rfl h5b<|A7 rfl h5b rfl<|Bz rfl rfl<|Ad<|Ab rfl<|Ab rfl<|Al<|D5 rfl rfl rfl<|?_
   exact ⟨M,0,false,rfl,by omega,fun m hm he=>by exfalso;first | (have h9_:=Ib m _ (he ▸ List.mem_of_getElem? hB2);unfold Iv at h9_;simp only [nb] at *;omega) | (have h9_:=Ed m hm;rw [← he] at h9_;have:=Bm hB2;omega)⟩
  have h6:=dF h6b;refine g_t rfl h6b<|Aa rfl<|g_t rfl h6b<|C5 rfl rfl<|A1 rfl h6b rfl<|qD rfl ?_ ?_
  ·intro h7;refine Ad<|Ab rfl<|Ab rfl<|Al<|D5 rfl rfl rfl<|?_
   exact ⟨M,0,false,rfl,by omega,fun m hm he=>by exfalso;first | (have h9_:=Ib m _ (he ▸ List.mem_of_getElem? hB2);unfold Iv at h9_;simp only [nb] at *;omega) | (have h9_:=Ed m hm;rw [← he] at h9_;have:=Bm hB2;omega)⟩
  intro h8;refine Ao<|Aw<|Aa rfl<|Aq (fun a F=>Tx (F.ev rfl) (F.ev rfl)) rfl<|Aa rfl<|Aq (fun a F=>Ty (F.ev rfl) (F.ev rfl)) rfl<|Ab rfl<|Aw<|Aa rfl<|Bw rfl rfl<|Ab rfl<|Au<|Ch<|fun a F=>?_
  exact ⟨_,by omega,i+1,IntKind.u64.wrap ((IntKind.u64.wrap (z * 10))+(IntKind.u64.wrap ((nb B2) - 48))),rfl,F.to ⟨rfl,rfl,rfl,trivial⟩,M,by omega,Wr hz hB2 (by omega) (by omega)⟩
 intro h9;refine Br<|Bu<|Bu<|C6<|Ai<|Ad<|Aa rfl<|?_
 have hu10:(z:Int)=(((z).toNat:Nat):Int):=by omega
 intro a F;rw [hu10] at F;revert a;refine Bc Lb rfl rfl (Hr (u:=(z).toNat) M (by omega))<|?_;clear M;rintro _ w M rfl
 refine Aa rfl<|F1 rfl rfl<|Ap rfl ?_ ?_
 ·intro h11b;have h11:=dF (Ag h11b);have h11c:(decide ((Lib.decDigits ((z).toNat))=s))=false:=(Ag h11b);refine Ad<|Ab rfl<|Ab rfl<|Al<|D5 rfl rfl rfl<|?_
  exact ⟨M,0,false,rfl,by omega,fun m hm he=>absurd (show Lib.decDigits z.toNat=s by rw [Tu (Qi hz (by omega)) hm he];exact he.symm) (by assumption)⟩
 intro h12b;have h12:=dT (Ah h12b);have h12c:(decide ((Lib.decDigits ((z).toNat))=s))=true:=(Ah h12b);refine Ao<|Ad<|Aa rfl<|Ab rfl<|Ab rfl<|Al<|D5 rfl rfl rfl<|?_
 exact ⟨M,z.toNat,true,by rw [Int.toNat_of_nonneg (by omega)];rfl,by omega,fun m hm he=>⟨rfl,Tu (Qi hz (by omega)) hm he⟩⟩
theorem Vu (M:Mem w0 G L w) {ad:Option Addr} {cd:Nat} {xs:List (List UInt8)} (S:A8 Cj 1 G (.slice ad xs.length cd) xs) (hN:xs.length≤140737488355328) (hlen:(Lib.join xs [44]).length≤140737488355328) :
  Calls Tryz.prog 97 #[.slice ad xs.length cd,.string (str [44])] w (B5 w0 G L fun v=>v=.string (str (Lib.join xs [44]))):=by
 by_cases h0:xs=[]
 ·subst h0;refine (Any.strings_Join_none Tryz.lays156 Tryz.Builder_Extra_156 ad cd (str [44]) w).mono ?_;rintro e w' ⟨rfl,rfl⟩
  exact ⟨M,rfl⟩
 ·obtain ⟨x0,hx0⟩:=A0 (xs:=xs) (i:=0) (List.length_pos_iff.2 h0);obtain ⟨b,o,_,rfl,_,_,_,_⟩:=S.index hx0;obtain ⟨_,_,he,hcap,_⟩:=S.shape;simp only [Value.slice.injEq] at he;obtain ⟨_,_,rfl⟩:=he;have hcell:∀ (j:Nat) (x:List UInt8),xs[j]?=some x→w.cell? ⟨b,o+j,none⟩=some (.string (str x)):=by
   intro j x hx;obtain ⟨b',o',cs,h1,_,_,hA,hr,_⟩:=S.index hx;simp only [Option.some.injEq,Addr.mk.injEq,and_true] at h1;obtain ⟨rfl,rfl⟩:=h1;subst hr;have:=hA 0 _ rfl;rw [Nat.mul_one,Nat.add_zero] at this
   exact M.cell this
  have hm:(xs.map str).map (·.data.toList)=xs:=by
   rw [List.map_map]
   conv=>rhs;rw [← List.map_id xs]
   exact List.map_congr_left fun x _=>Dn x
  have:=Any.strings_Join Tryz.lays156 Tryz.Builder_Extra_156 b o cd (xs.map str) (str [44]) w (by
   intro j x hx;rw [List.getElem?_map] at hx
   cases hq:xs[j]? with
   | none=>rw [hq] at hx;cases hx
   | some y=>rw [hq] at hx;simp only [Option.map_some,Option.some.injEq] at hx;subst hx;exact hcell j y hq)
   (World.block_lt_of_cell? _ _ (hcell 0 x0 hx0)) (by rw [List.length_map];exact hN) (by rw [List.length_map];exact hcap) (by rw [hm,Dn];exact hlen)
  rw [List.length_map,hm,Dn] at this;refine this.mono ?_;rintro e w' ⟨rfl,hb⟩
  exact ⟨M.below' hb,rfl⟩
theorem F5 {G:Av}:∀ (xs:List (List UInt8)),(∀ x∈xs,x.length≤9223372036854775807)→Els Cj 1 G (xs.map fun x=>Value.string (str x)) xs
 | [],_=>rfl
 | x::xs,h=>⟨[.string (str x)],_,rfl,rfl,⟨rfl,h x (by simp)⟩,F5 xs (fun y hy=>h y (by simp [hy]))⟩
theorem Qm (s:List UInt8):(Lib.splitB (str [44]) 0 (Lib.countB (str s) (str [44])) (str s)).map Value.string=(Bg s).map (fun x=>Value.string (str x)):=by
 have h:=Lib.splitB_data (str [44]) 0 (Lib.countB (str s) (str [44])) (str s);rw [Dn,Dn] at h;have h2:Lib.countB (str s) (str [44])=Lib.count s [44]:=by
  show Lib.count (str s).data.toList (str [44]).data.toList=_
  rw [Dn,Dn]
 rw [h2] at h ⊢
 show _=(Lib.splitK [44] 0 (Lib.count s [44]) s).map _
 rw [← h,List.map_map]
 exact List.map_congr_left fun x _=>rfl
theorem Se (M:Mem w0 G L w) (HG:Globs 0 1 2 3 G) {s:List UInt8} (hs:s.length < 4294967281) :
  Calls Tryz.prog 102 #[.string (str s),.string (str [44])] w (Ret w0 G L fun G' v=>∃ a:Option Addr,v=.slice a (Bg s).length (Bg s).length∧A8 Cj 1 G' (.slice a (Bg s).length (Bg s).length) (Bg s)):=by
 obtain ⟨m,hm⟩:=HG.max;refine (Any.strings_Split Tryz.lays146 (by kernel_rfl) (str s) (str [44]) m w (by rw [B9];exact hs) (M.cell hm) (by rw [B9];decide)).mono ?_;rintro e w' ⟨rfl,rfl⟩;have hl:(Bg s).length=Lib.countB (str s) (str [44])+1:=by
  have h1:=Lib.splitB_all (str [44]) (by rw [B9];decide) 0 _ (str s) rfl;rw [← h1,← List.length_map (f:=Value.string),Qm,List.length_map]
 rw [Qm,← hl];have hcb:=Lib.countB_le (str [44]) (by rw [B9];decide) (str s).size (str s) (Nat.le_refl _);rw [B9] at hcb;have hle:(Bg s).length≤4294967281:=by omega
 have M1:=M.newrow (t:=Tryz.lays146_ren.t 9) (sz:=1) (n:=(Bg s).length) (c:=(Bg s).length) (cs:=(Bg s).map fun x=>Value.string (str x)) (spare:=[])
  (by intro u hu;obtain ⟨x,_,rfl⟩:=List.mem_map.1 hu;rfl) (by simp) (by simp) (Nat.le_refl _) (by unfold maxLen;omega)
 rw [List.append_nil] at M1;obtain ⟨_,G',a,c,hG,he,S,M2⟩:=M1.freeze_row Ax (k:=0) rfl (F5 (Bg s) (fun x hx=>by have:=Sg hx;omega)) (by decide)
 exact ⟨G',hG,M2,_,rfl,S⟩
theorem K4 (M:Mem w0 G L w) (HG:Globs 0 1 2 3 G) {x:ItemD} {ma:Option Addr} {mc:Nat} (hI:(x.key < 18446744073709551616∧x.typ < 256∧x.text.length≤9223372036854775807)) (SM:A8 Cj 1 G (.slice ma x.marks.length mc) x.marks) (hok:Bv 8 x):Calls Tryz.prog 42 #[.agg #[.int .u64 ((x.key:Nat):Int),.int .u8 ((x.typ:Nat):Int),.string (str x.text),.slice ma x.marks.length mc]] w (B5 w0 G L fun v=>v=.string (str (B7 x))):=by
 obtain ⟨hI1,hI2,hI3⟩:=id hI;have hm8:=hok.2.2.2.1;have hj:=H5 hm8 hok.2.2.2.2;have htx:=hok.2.2.1.1;have hdk:=Ed x.key hI1;have hdt:=Ed x.typ (by omega);refine Az (vs:=[_]) Tryz.func42 rfl (n:=25) rfl rfl<|Ad<|G4 M rfl rfl rfl<|?_;clear M;intro b1 w M
 refine Ab rfl<|Ad<|A9 Af.k rfl rfl<|Bl A5 M 0 rfl rfl rfl rfl<|Bc ent97 rfl rfl (Vu (xs:=x.marks) M SM (by omega) (by omega))<|?_;clear M;rintro _ w M rfl
 refine Ab rfl<|Ai<|Ad<|Aa rfl<|Kd rfl rfl<|qD rfl ?_ ?_
 ·intro h2;refine Aw<|Ab rfl<|Ai<|fun a F=>Gh [(.free,0),(.pure,1),(.free,4),(.pure,5),(.free,6),(.free,10),(.free,13),(.pure,14),(.keep,2),(.free,3),(.keep,7),(.free,8),(.free,9),(.free,11),(.free,12),(.free,15),(.free,16)] [] (Keep G [.blk b1 [.int .u64 ((x.key:Nat):Int),.int .u8 ((x.typ:Nat):Int),.string (str x.text),.slice ma x.marks.length mc] 26]) rfl (by kernel_rfl) (fun c a d v w h=>by cases d <;> exact h) (Bx (M.drew _)) ?_
  replace M:=M.drew (w.drawn+1);revert a;refine fFa Af.k rfl rfl<|pLd Dk 0 rfl rfl rfl rfl<|fFa Af.k rfl rfl<|pLd Cz 0 rfl rfl rfl rfl<|k_f (fun a F w _=>Bt Ct.k ⟨_,by rw [Bs Cz.k]⟩ (F.ev rfl) (Cl (by omega) (by omega))) rfl<|fMv rfl<|fFa Af.k rfl rfl<|pLd A6 0 rfl rfl rfl rfl<|k_k rfl<|Bc ent98 rfl rfl (Ub (u:=x.key) M HG (by omega))<|?_;clear M;rintro _ w M rfl
  refine eQ (Bx M)<|k_f (fun a F w _=>Bb (F.ev rfl) (F.ev rfl) (by (first | omega | (simp only [List.length_append,List.length_cons,List.length_nil];omega)))) rfl<|k_k rfl<|Bc Yb rfl rfl (Ov (u:=x.typ) M HG (by omega))<|?_;clear M;rintro _ w M rfl
  refine eQ (Bx M)<|k_f (fun a F w _=>Bb (F.ev rfl) (F.ev rfl) (by (first | omega | (simp only [List.length_append,List.length_cons,List.length_nil];omega)))) rfl<|k_f (fun a F w _=>Bb (F.ev rfl) (F.ev rfl) (by (first | omega | (simp only [List.length_append,List.length_cons,List.length_nil];omega)))) rfl<|k_f (fun a F w _=>Bb (F.ev rfl) (F.ev rfl) (by (first | omega | (simp only [List.length_append,List.length_cons,List.length_nil];omega)))) rfl<|k_f (fun a F w _=>Bb (F.ev rfl) (F.ev rfl) (by (first | omega | (simp only [List.length_append,List.length_cons,List.length_nil];omega)))) rfl<|k_f (fun a F w _=>Bb (F.ev rfl) (F.ev rfl) (by (first | omega | (simp only [List.length_append,List.length_cons,List.length_nil];omega)))) rfl<|fAs rfl<|Fm<|Al<|Ak rfl rfl<|?_
  exact ⟨M.weaken dS1,by first | rw [Oq (by assumption)] | rw [Ot (by assumption) hok]⟩
 intro h3;refine Ao<|Ai<|fun a F=>Gh [(.free,0),(.pure,1),(.free,4),(.pure,5),(.free,6),(.free,10),(.free,13),(.pure,14),(.keep,2),(.free,3),(.keep,7),(.free,8),(.free,9),(.free,11),(.free,12),(.free,15),(.free,16)] [] (Keep G [.blk b1 [.int .u64 ((x.key:Nat):Int),.int .u8 ((x.typ:Nat):Int),.string (str x.text),.slice ma x.marks.length mc] 26]) rfl (by kernel_rfl) (fun c a d v w h=>by cases d <;> exact h) (Bx (M.drew _)) ?_
 replace M:=M.drew (w.drawn+1);revert a;refine fFa Af.k rfl rfl<|pLd Dk 0 rfl rfl rfl rfl<|fFa Af.k rfl rfl<|pLd Cz 0 rfl rfl rfl rfl<|k_f (fun a F w _=>Bt Ct.k ⟨_,by rw [Bs Cz.k]⟩ (F.ev rfl) (Cl (by omega) (by omega))) rfl<|fMv rfl<|fFa Af.k rfl rfl<|pLd A6 0 rfl rfl rfl rfl<|k_k rfl<|Bc ent98 rfl rfl (Ub (u:=x.key) M HG (by omega))<|?_;clear M;rintro _ w M rfl
 refine eQ (Bx M)<|k_f (fun a F w _=>Bb (F.ev rfl) (F.ev rfl) (by (first | omega | (simp only [List.length_append,List.length_cons,List.length_nil];omega)))) rfl<|k_k rfl<|Bc Yb rfl rfl (Ov (u:=x.typ) M HG (by omega))<|?_;clear M;rintro _ w M rfl
 refine eQ (Bx M)<|k_f (fun a F w _=>Bb (F.ev rfl) (F.ev rfl) (by (first | omega | (simp only [List.length_append,List.length_cons,List.length_nil];omega)))) rfl<|k_f (fun a F w _=>Bb (F.ev rfl) (F.ev rfl) (by (first | omega | (simp only [List.length_append,List.length_cons,List.length_nil];omega)))) rfl<|k_f (fun a F w _=>Bb (F.ev rfl) (F.ev rfl) (by (first | omega | (simp only [List.length_append,List.length_cons,List.length_nil];omega)))) rfl<|k_f (fun a F w _=>Bb (F.ev rfl) (F.ev rfl) (by (first | omega | (simp only [List.length_append,List.length_cons,List.length_nil];omega)))) rfl<|k_f (fun a F w _=>Bb (F.ev rfl) (F.ev rfl) (by (first | omega | (simp only [List.length_append,List.length_cons,List.length_nil];omega)))) rfl<|fAs rfl<|Fm<|Al<|Ak rfl rfl<|?_
 exact ⟨M.weaken dS1,by first | rw [Oq (by assumption)] | rw [Ot (by assumption) hok]⟩
theorem Jr (M:Mem w0 G L w) {x:ItemD} {ma:Option Addr} {mc:Nat} (hI:(x.key < 18446744073709551616∧x.typ < 256∧x.text.length≤9223372036854775807)) (SM:A8 Cj 1 G (.slice ma x.marks.length mc) x.marks) (hok:Bv 8 x):Calls Tryz.prog 59 #[.agg #[.int .u64 ((x.key:Nat):Int),.int .u8 ((x.typ:Nat):Int),.string (str x.text),.slice ma x.marks.length mc]] w (B5 w0 G L fun v=>v=.string (str (B7 x++[10]))):=by
 obtain ⟨hI1,hI2,hI3⟩:=id hI;have hm8:=hok.2.2.2.1;have hj:=H5 hm8 hok.2.2.2.2;have htx:=hok.2.2.1.1;have hdk:=Ed x.key hI1;have hdt:=Ed x.typ (by omega);refine Az (vs:=[_]) Tryz.func59 rfl (n:=44) rfl rfl<|Ad<|G4 M rfl rfl rfl<|?_;clear M;intro b1 w M
 refine Ab rfl<|Ad<|Ab rfl<|Ai<|Ad<|Ab rfl<|Ar<|fun a F=>Bi (fun m a' w'=>∃ (i:Nat),m=x.marks.length - i∧Fits 44 a' [(1,.pointer (some ⟨b1,0,none⟩)),(2,.string (str [])),(3,.string (str (Lib.join (x.marks.take i) [44]))),(4,.int .i64 ((i:Nat):Int))]∧Mem w0 G (.blk b1 [.int .u64 ((x.key:Nat):Int),.int .u8 ((x.typ:Nat):Int),.string (str x.text),.slice ma x.marks.length mc] 26::L) w'∧(i≤x.marks.length)) _ ⟨0,rfl,F.to ⟨rfl,rfl,rfl,rfl,trivial⟩,M,by omega⟩ ?_
 clear F M;rintro m a w ⟨i,rfl,F,M,hi⟩;revert a;refine Ai<|Ad<|Aa rfl<|A9 Af.k rfl rfl<|Bl A5 M 0 rfl rfl rfl rfl<|Cf A5.k rfl<|Co rfl rfl<|qD rfl ?_ ?_
 ·intro h2;refine Ao<|Ai<|Ar<|Ai<|Ai<|?_
  have hjt:=K6 hok i;have hjt2:=K6 hok (i+1);refine Aw<|Aa rfl<|C5 rfl rfl<|qD rfl ?_ ?_
  ·intro h3;refine Aw<|Aa rfl<|Aq (fun a F=>Bb (F.ev rfl) (F.ev rfl) (by (first | omega | (simp only [List.length_append,List.length_cons,List.length_nil];omega)))) rfl<|Ab rfl<|Aw<|Aa rfl<|A9 Af.k rfl rfl<|Bl A5 M 0 rfl rfl rfl rfl<|Aa rfl<|?_
   obtain ⟨Xe4,hXe4⟩:=A0 (xs:=x.marks) (i:=i) (by omega);obtain ⟨be4,oe4,_,Ie4,_,Ae4,⟨rfl,hsle4⟩⟩:=SM.at hXe4;refine Db A5.k A6 Ie4 rfl rfl<|Dm A6 M Ae4 0 rfl rfl (by omega) rfl<|?_
   have hmn:=(hok.2.2.2.2 Xe4 (List.mem_of_getElem? hXe4)).1.2;refine Aq (fun a F=>Bb (F.ev rfl) (F.ev rfl) (by (first | omega | (simp only [List.length_append,List.length_cons,List.length_nil];omega)))) rfl<|Ab rfl<|Aw<|Aa rfl<|Bw rfl rfl<|Ab rfl<|Au<|Ch<|fun a F=>?_
   rw [← Vv hXe4 (by omega)] at F
   exact ⟨_,by omega,i+1,rfl,F.to ⟨rfl,rfl,rfl,rfl,trivial⟩,M,by omega⟩
  intro h5;refine Ao<|Aw<|Aa rfl<|A9 Af.k rfl rfl<|Bl A5 M 0 rfl rfl rfl rfl<|Aa rfl<|?_
  obtain ⟨Xe6,hXe6⟩:=A0 (xs:=x.marks) (i:=i) (by omega);obtain ⟨be6,oe6,_,Ie6,_,Ae6,⟨rfl,hsle6⟩⟩:=SM.at hXe6;refine Db A5.k A6 Ie6 rfl rfl<|Dm A6 M Ae6 0 rfl rfl (by omega) rfl<|?_
  have hmn:=(hok.2.2.2.2 Xe6 (List.mem_of_getElem? hXe6)).1.2;refine Aq (fun a F=>Bb (F.ev rfl) (F.ev rfl) (by (first | omega | (simp only [List.length_append,List.length_cons,List.length_nil];omega)))) rfl<|Ab rfl<|Aw<|Aa rfl<|Bw rfl rfl<|Ab rfl<|Au<|Ch<|?_
  have hi0:i=0:=by omega
  have hq0:(Lib.join (x.marks.take i) [44])++Xe6=Lib.join (x.marks.take (i+1)) [44]:=by subst hi0;rw [Xw hXe6];rfl
  intro a F;rw [hq0] at F
  exact ⟨_,by omega,i+1,rfl,F.to ⟨rfl,rfl,rfl,rfl,trivial⟩,M,by omega⟩
 intro h7;refine Br<|Bu<|Bu<|C6<|Ai<|Ai<|?_
 have hjt:=K6 hok i;refine Aw<|A9 Af.k rfl rfl<|Bl A5 M 0 rfl rfl rfl rfl<|Cf A5.k rfl<|C2 rfl rfl<|qD rfl ?_ ?_
 ·intro h8;refine Aw<|Ab rfl<|Ai<|fun a F=>Gh [(.free,0),(.pure,1),(.free,4),(.pure,5),(.free,6),(.free,10),(.free,13),(.pure,14),(.keep,2),(.free,3),(.keep,7),(.free,8),(.free,9),(.free,11),(.free,12),(.free,15),(.free,16),(.free,17)] [] (Keep G [.blk b1 [.int .u64 ((x.key:Nat):Int),.int .u8 ((x.typ:Nat):Int),.string (str x.text),.slice ma x.marks.length mc] 26]) rfl (by kernel_rfl) (fun c a d v w h=>by cases d <;> exact h) (Bx (M.drew _)) ?_
  replace M:=M.drew (w.drawn+1);revert a;refine fFa Af.k rfl rfl<|pLd Dk 0 rfl rfl rfl rfl<|fFa Af.k rfl rfl<|pLd Cz 0 rfl rfl rfl rfl<|k_f (fun a F w _=>Bt Dk.k ⟨_,by rw [Bs Cz.k]⟩ (F.ev rfl) (H8 (by omega) (by omega))) rfl<|fMv rfl<|fFa Af.k rfl rfl<|pLd A6 0 rfl rfl rfl rfl<|k_k rfl<|Bc Lb rfl rfl (Hr (u:=x.key) M (by (first | omega | assumption)))<|?_;clear M;rintro _ w M rfl
  refine eQ (Bx M)<|k_f (fun a F w _=>Bb (F.ev rfl) (F.ev rfl) (by (first | omega | (simp only [List.length_append,List.length_cons,List.length_nil];omega)))) rfl<|k_k rfl<|Bc Lb rfl rfl (Hr (u:=x.typ) M (by (first | omega | assumption)))<|?_;clear M;rintro _ w M rfl
  refine eQ (Bx M)<|k_f (fun a F w _=>Bb (F.ev rfl) (F.ev rfl) (by (first | omega | (simp only [List.length_append,List.length_cons,List.length_nil];omega)))) rfl<|k_f (fun a F w _=>Bb (F.ev rfl) (F.ev rfl) (by (first | omega | (simp only [List.length_append,List.length_cons,List.length_nil];omega)))) rfl<|k_f (fun a F w _=>Bb (F.ev rfl) (F.ev rfl) (by (first | omega | (simp only [List.length_append,List.length_cons,List.length_nil];omega)))) rfl<|k_f (fun a F w _=>Bb (F.ev rfl) (F.ev rfl) (by (first | omega | (simp only [List.length_append,List.length_cons,List.length_nil];omega)))) rfl<|k_f (fun a F w _=>Bb (F.ev rfl) (F.ev rfl) (by (first | omega | (simp only [List.length_append,List.length_cons,List.length_nil];omega)))) rfl<|k_f (fun a F w _=>Bb (F.ev rfl) (F.ev rfl) (by (first | omega | (simp only [List.length_append,List.length_cons,List.length_nil];omega)))) rfl<|fAs rfl<|Fm<|Al<|Ak rfl rfl<|?_
  exact ⟨M.weaken dS1,by first | rw [Oo (by omega)] | rw [On (i:=i) (by omega) (by omega)]⟩
 intro h9;refine Ao<|Ai<|fun a F=>Gh [(.free,0),(.pure,1),(.free,4),(.pure,5),(.free,6),(.free,10),(.free,13),(.pure,14),(.keep,2),(.free,3),(.keep,7),(.free,8),(.free,9),(.free,11),(.free,12),(.free,15),(.free,16),(.free,17)] [] (Keep G [.blk b1 [.int .u64 ((x.key:Nat):Int),.int .u8 ((x.typ:Nat):Int),.string (str x.text),.slice ma x.marks.length mc] 26]) rfl (by kernel_rfl) (fun c a d v w h=>by cases d <;> exact h) (Bx (M.drew _)) ?_
 replace M:=M.drew (w.drawn+1);revert a;refine fFa Af.k rfl rfl<|pLd Dk 0 rfl rfl rfl rfl<|fFa Af.k rfl rfl<|pLd Cz 0 rfl rfl rfl rfl<|k_f (fun a F w _=>Bt Dk.k ⟨_,by rw [Bs Cz.k]⟩ (F.ev rfl) (H8 (by omega) (by omega))) rfl<|fMv rfl<|fFa Af.k rfl rfl<|pLd A6 0 rfl rfl rfl rfl<|k_k rfl<|Bc Lb rfl rfl (Hr (u:=x.key) M (by (first | omega | assumption)))<|?_;clear M;rintro _ w M rfl
 refine eQ (Bx M)<|k_f (fun a F w _=>Bb (F.ev rfl) (F.ev rfl) (by (first | omega | (simp only [List.length_append,List.length_cons,List.length_nil];omega)))) rfl<|k_k rfl<|Bc Lb rfl rfl (Hr (u:=x.typ) M (by (first | omega | assumption)))<|?_;clear M;rintro _ w M rfl
 refine eQ (Bx M)<|k_f (fun a F w _=>Bb (F.ev rfl) (F.ev rfl) (by (first | omega | (simp only [List.length_append,List.length_cons,List.length_nil];omega)))) rfl<|k_f (fun a F w _=>Bb (F.ev rfl) (F.ev rfl) (by (first | omega | (simp only [List.length_append,List.length_cons,List.length_nil];omega)))) rfl<|k_f (fun a F w _=>Bb (F.ev rfl) (F.ev rfl) (by (first | omega | (simp only [List.length_append,List.length_cons,List.length_nil];omega)))) rfl<|k_f (fun a F w _=>Bb (F.ev rfl) (F.ev rfl) (by (first | omega | (simp only [List.length_append,List.length_cons,List.length_nil];omega)))) rfl<|k_f (fun a F w _=>Bb (F.ev rfl) (F.ev rfl) (by (first | omega | (simp only [List.length_append,List.length_cons,List.length_nil];omega)))) rfl<|k_f (fun a F w _=>Bb (F.ev rfl) (F.ev rfl) (by (first | omega | (simp only [List.length_append,List.length_cons,List.length_nil];omega)))) rfl<|fAs rfl<|Fm<|Al<|Ak rfl rfl<|?_
 exact ⟨M.weaken dS1,by first | rw [Oo (by omega)] | rw [On (i:=i) (by omega) (by omega)]⟩
theorem Fo (M:Mem w0 G L w) (HG:Globs 0 1 2 3 G) {a1:Option Addr} {c1:Nat} {xs:List ItemD} (S:A8 B1 4 G (.slice a1 xs.length c1) xs) :
  Calls Tryz.prog 11 #[.slice a1 xs.length c1] w (B5 w0 G L fun v=>v=.tuple #[.string (str (Eh xs)),.int .i64 (Dj xs)]):=by
 have bS:=S.bound;refine Az (vs:=[_]) Tryz.func11 rfl (n:=28) rfl rfl<|Ad<|Ab rfl<|Ab rfl<|Ai<|Ad<|Aa rfl<|Cf A3.k rfl<|C5 rfl rfl<|qD rfl ?_ ?_
 ·intro h1;refine Ad<|Ab rfl<|Ab rfl<|Al<|D5 rfl rfl rfl<|?_
  exact ⟨M,by rw [(Kb (by omega)).1,(Kb (by omega)).2];rfl⟩
 intro h2;refine Ao<|Ad<|Dy M Eg rfl rfl<|?_;clear M;intro b3 w M
 refine Ai<|Ai<|?_
 change Mem w0 G (_::L) _ at M;have M:=(M.nilrow 5 1).perm (List.Perm.swap _ _ _);intro a F;rw [show ([]:List Value)=bc [] from rfl] at M;revert a;refine Aw<|Aa rfl<|Cf A3.k rfl<|Aa rfl<|Ar<|fun a F=>Bi (fun m a' w'=>∃ (i:Nat),∃ (am:Option Addr),∃ (nm:Nat),∃ (cm:Nat),∃ (pm:Value),m=xs.length - i∧Fits 28 a' [(0,.slice a1 xs.length c1),(4,.pointer (some ⟨b3,0,none⟩)),(11,.slice a1 xs.length c1),(12,.int .i64 ((xs.length:Nat):Int)),(13,.int .i64 ((i:Nat):Int))]∧Mem w0 G (.blk b3 [pm,.slice am nm cm] 101::.row (.slice am nm cm) (nm) (bc (Bd (xs.take i))) 5 1::L) w'∧(i≤xs.length)∧((Bd (xs.take i)).length≤301 * i)∧(∀ (m:Nat) (x:ItemD),m < i→xs[m]?=some x→Bv 8 x)∧(pm=.pointer none∨pm=.pointer (some ⟨b3,0,none⟩))∧(nm=(Bd (xs.take i)).length)∧((Bd (xs.take i))=[]→am=none)) _ ⟨0,(none),(0),(0),(.pointer none),rfl,F.to ⟨rfl,rfl,rfl,rfl,rfl,trivial⟩,M,Nat.zero_le _,by simp [Bd],fun m x h=>by omega,(Or.inl rfl),rfl,(fun _=>rfl)⟩ ?_
 clear F M;rintro m a w ⟨i,am,nm,cm,pm,rfl,F,M,hi,hlen,hA,hpm,hnm,hnilm⟩;revert a;refine Ad<|Co rfl rfl<|Ai<|qD rfl ?_ ?_
 ·intro h5;refine Ao<|Ai<|Ar<|Ad<|?_
  obtain ⟨Xe6,hXe6⟩:=A0 (xs:=xs) (i:=i) (by omega);obtain ⟨be6,oe6,_,Ie6,_,Ae6,hTe6⟩:=S.at hXe6;obtain ⟨mae6,mce6,rfl,hke6,hte6,hxe6,hne6,SMe6⟩:=hTe6;have hIe6:(Xe6.key < 18446744073709551616∧Xe6.typ < 256∧Xe6.text.length≤9223372036854775807):=⟨hke6,hte6,hxe6⟩;refine Db A3.k Af Ie6 rfl rfl<|Aq (fun a F=>Bj Af rfl (F.ev rfl) (cs:=[.int .u64 ((Xe6.key:Nat):Int),.int .u8 ((Xe6.typ:Nat):Int),.string (str Xe6.text),.slice mae6 Xe6.marks.length mce6]) rfl (M.cellsA Ae6 0 (by omega) rfl)) rfl<|Dy M Af rfl rfl<|?_;clear M;intro b7 w M
  intro a F;refine Di F M Af 0 ?_;clear F M a;intro w a M F;revert a;refine Ai<|Ad<|F8 Af M 0 rfl rfl rfl rfl<|Bc Hg rfl rfl (Cw (x:=Xe6) (t:=8) M hIe6 SMe6)<|?_;clear M;rintro _ w M rfl
  refine Ab rfl<|Ad<|Aa rfl<|Df rfl rfl<|Ap rfl ?_ ?_
  ·intro h9b;have h9:=dF (Ag h9b);refine Ad<|Aa rfl<|Ab rfl<|Ab rfl<|Al<|D5 rfl rfl rfl<|?_
   exact ⟨(M.weaken (cN (.cons _ (cN (sR _))))),by rw [(Kc (by omega) (Dl.no hXe6 (fun h_=>by have:=Cs h_;omega))).1,(Kc (by omega) (Dl.no hXe6 (fun h_=>by have:=Cs h_;omega))).2,Ek (fun h_=>by have:=Cs h_;omega)];rfl⟩
  intro h10b;have h10:=dT (Ah h10b);refine Ao<|Ch<|?_
  have hokX:Bv 8 Xe6:=Cr.1 (by omega);refine Aw<|F8 Af M 0 rfl rfl rfl rfl<|Bc Ye rfl rfl (K4 (x:=Xe6) M HG hIe6 SMe6 hokX)<|?_;clear M;rintro _ w M rfl
  have hlll11:=Gw (x:=Xe6) hokX hIe6.1 hIe6.2.1;refine Aq (fun a F=>Bb (F.ev rfl) (F.ev rfl) (by (first | omega | (simp only [List.length_append,List.length_cons,List.length_nil];omega)))) rfl<|?_
  replace M:=M.perm (Am _ 2 _ rfl);replace M:=M.perm (Am _ 2 _ rfl);change Mem w0 G (_::_::.blk b7 [.int .u64 ((Xe6.key:Nat):Int),.int .u8 ((Xe6.typ:Nat):Int),.string (str Xe6.text),.slice mae6 Xe6.marks.length mce6] 26::L) _ at M;refine Ph Uj rfl rfl (I1 (s:=((B7 Xe6)++([10]:List UInt8))) hpm M hnm hnilm (by (first | omega | (simp only [List.length_append,List.length_cons,List.length_nil];omega))))<|?_;clear M;rintro _ _ w M ⟨rfl,au12,nu12,cu12,rfl,hnu12,hnilu12⟩
  refine Aw<|Bw rfl rfl<|Aa rfl<|Au<|Ch<|?_
  have hsn:(Bd (xs.take i))++((B7 Xe6)++([10]:List UInt8))=Bd (xs.take (i+1)):=by rw [Jm hXe6]
  intro a F;rw [hsn] at M hnu12 hnilu12
  exact ⟨_,by omega,i+1,(au12),(nu12),(cu12),(.pointer (some ⟨b3,0,none⟩)),rfl,F.to ⟨rfl,rfl,rfl,rfl,rfl,trivial⟩,(M.weaken (cC (.cons_cons _ (cN (sR _))))),by omega,by rw [← hsn];simp only [List.length_append,List.length_cons,List.length_nil];omega,Cx hA hXe6 hokX,(Or.inr rfl),hnu12,hnilu12⟩
 intro h13;refine Br<|Bu<|Bu<|C6<|Ad<|?_
 replace M:=M.perm (Am _ 1 _ rfl);replace M:=M.perm (Am _ 1 _ rfl);change Mem w0 G (_::_::L) _ at M;refine Bc ent43 rfl rfl (O3 M hnm hnilm)<|?_;clear M;rintro _ w M rfl
 refine Ab rfl<|Ab rfl<|Al<|D5 rfl rfl rfl<|?_
 exact ⟨M,by rw [(G8 (by omega) (C4 hA (by omega))).1,(G8 (by omega) (C4 hA (by omega))).2,List.take_of_length_le (by omega)]⟩
end Go.Proofs.YtmmhmcplegpenaaGreatDoor
