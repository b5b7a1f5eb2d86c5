/- The walks, part LK. · The walks, part LM. · The walks, part LN. · The walks, part LO. · The walks, part LP. -/
import Derived.Test.YtmmhmcplegpenaaGreatDoorJ12
set_option linter.unusedSimpArgs false
set_option linter.unusedVariables false
namespace Go.Proofs.YtmmhmcplegpenaaGreatDoor
open Go Go.Y Go.Proofs
variable {w0 w:World} {G:A4} {L:List Res}
theorem Gw (M:Mem w0 G L w):Calls Tryz.prog 75 #[] w (Cs w0 G L fun v=>v=.agg Il.toArray):=by
 refine Ay (vs:=[]) Tryz.func75 rfl (n:=7) rfl rfl<|Ac<|C9 M Hf rfl rfl<|?_;clear M;intro b1 w M
 refine Ac<|Ar (fun a F=>A3 (cs:=[.string (str [105,110,115,101,114,116]),.bool true,.bool false,.bool false,.bool true,.func (.func 122) #[] #[]]) (ps:=[(0,.string (str [105,110,115,101,114,116])),(1,.bool true),(2,.bool false),(3,.bool false),(4,.bool true),(5,.func (.func 122) #[] #[])]) Cl.k rfl Cl (F.evp rfl) rfl) rfl<|Ar (fun a F=>A3 (cs:=[.string (str [114,101,109,111,118,101]),.bool true,.bool true,.bool false,.bool false,.func (.func 124) #[] #[]]) (ps:=[(0,.string (str [114,101,109,111,118,101])),(1,.bool true),(2,.bool true),(3,.bool false),(4,.bool false),(5,.func (.func 124) #[] #[])]) Cl.k rfl Cl (F.evp rfl) rfl) rfl<|Ar (fun a F=>A3 (cs:=[.string (str [109,111,118,101]),.bool true,.bool true,.bool true,.bool false,.func (.func 125) #[] #[]]) (ps:=[(0,.string (str [109,111,118,101])),(1,.bool true),(2,.bool true),(3,.bool true),(4,.bool false),(5,.func (.func 125) #[] #[])]) Cl.k rfl Cl (F.evp rfl) rfl) rfl<|Ar (fun a F=>A3 (cs:=[.string (str [99,104,97,110,103,101]),.bool true,.bool false,.bool false,.bool true,.func (.func 127) #[] #[]]) (ps:=[(0,.string (str [99,104,97,110,103,101])),(1,.bool true),(2,.bool false),(3,.bool false),(4,.bool true),(5,.func (.func 127) #[] #[])]) Cl.k rfl Cl (F.evp rfl) rfl) rfl<|Ar (fun a F=>A3 (cs:=[.string (str [114,101,115,101,116]),.bool false,.bool false,.bool false,.bool true,.func (.func 129) #[] #[]]) (ps:=[(0,.string (str [114,101,115,101,116])),(1,.bool false),(2,.bool false),(3,.bool false),(4,.bool true),(5,.func (.func 129) #[] #[])]) Cl.k rfl Cl (F.evp rfl) rfl) rfl<|Ar (fun a F=>Gu F (ps:=[(1,.agg #[.string (str [105,110,115,101,114,116]),.bool true,.bool false,.bool false,.bool true,.func (.func 122) #[] #[]]),(2,.agg #[.string (str [114,101,109,111,118,101]),.bool true,.bool true,.bool false,.bool false,.func (.func 124) #[] #[]]),(3,.agg #[.string (str [109,111,118,101]),.bool true,.bool true,.bool true,.bool false,.func (.func 125) #[] #[]]),(4,.agg #[.string (str [99,104,97,110,103,101]),.bool true,.bool false,.bool false,.bool true,.func (.func 127) #[] #[]]),(5,.agg #[.string (str [114,101,115,101,116]),.bool false,.bool false,.bool false,.bool true,.func (.func 129) #[] #[]])]) (cs:=[.string (str []),.bool false,.bool false,.bool false,.bool false,.nilFunc,.string (str [105,110,115,101,114,116]),.bool true,.bool false,.bool false,.bool true,.func (.func 122) #[] #[],.string (str [114,101,109,111,118,101]),.bool true,.bool true,.bool false,.bool false,.func (.func 124) #[] #[],.string (str [109,111,118,101]),.bool true,.bool true,.bool true,.bool false,.func (.func 125) #[] #[],.string (str [99,104,97,110,103,101]),.bool true,.bool false,.bool false,.bool true,.func (.func 127) #[] #[],.string (str [114,101,115,101,116]),.bool false,.bool false,.bool false,.bool true,.func (.func 129) #[] #[]]) Hf.k Hf Cl rfl rfl) rfl<|fun a F=>?_
 refine Cj F M Hf 0 ?_;clear F M a;intro w a M F;change Mem w0 G (.blk b1 [.string (str []),.bool false,.bool false,.bool false,.bool false,.nilFunc,.string (str [105,110,115,101,114,116]),.bool true,.bool false,.bool false,.bool true,.func (.func 122) #[] #[],.string (str [114,101,109,111,118,101]),.bool true,.bool true,.bool false,.bool false,.func (.func 124) #[] #[],.string (str [109,111,118,101]),.bool true,.bool true,.bool true,.bool false,.func (.func 125) #[] #[],.string (str [99,104,97,110,103,101]),.bool true,.bool false,.bool false,.bool true,.func (.func 127) #[] #[],.string (str [114,101,115,101,116]),.bool false,.bool false,.bool false,.bool true,.func (.func 129) #[] #[]] 139::L) _ at M;revert a;refine Ae<|fun a F=>L5 F M (k:=0) rfl rfl Hf rfl rfl rfl ?_
 exact ⟨M.weaken dS1,rfl⟩
theorem H4 (M:Mem w0 G L w) {x:NotD} {na:Option Addr} {nc:Nat} (hN:x.kind < 256∧Bb .i64 x.at_∧Bb .i64 x.count∧Bb .i64 x.to∧x.items.length≤9223372036854775807) (SI:Au Cv 4 G (.slice na x.items.length nc) x.items):Calls Tryz.prog 37 #[.agg #[.int .u8 ((x.kind:Nat):Int),.int .i64 x.at_,.int .i64 x.count,.int .i64 x.to,.slice na x.items.length nc]] w (Cs w0 G L fun v=>v=.int .i64 (E4 x)):=by
 refine Ay (vs:=[_]) Tryz.func37 rfl (n:=55) rfl rfl<|Ac<|Cz M rfl rfl rfl<|?_;clear M;intro b1 w M
 refine Ab rfl<|Ag<|Ac<|A0 Bm.k rfl rfl<|Bg Fa M 0 rfl rfl rfl rfl<|C2 rfl rfl<|Aa rfl<|?_
 rcases bE (decide (((x.kind:Nat):Int) < 1)) with h2b | h3b
 ·skip
  have h2:=dT h2b;refine g_f rfl h2b<|g_f rfl h2b<|g_f rfl h2b<|Bh rfl h2b rfl<|Bl rfl rfl<|Ac<|Ab rfl<|Ae<|Ad rfl rfl<|?_
  exact ⟨M.weaken dS1,by rw [X8 (by omega)]⟩
 have h3:=dF h3b;refine g_t rfl h3b<|A0 Bm.k rfl rfl<|g_t rfl h3b<|Bg Fa M 0 rfl rfl rfl rfl<|g_t rfl h3b<|Da rfl rfl<|Be rfl h3b rfl<|Ap rfl ?_ ?_
 ·intro h4b;have h4:=dT h4b;refine Ac<|Ab rfl<|Ae<|Ad rfl rfl<|?_
  exact ⟨M.weaken dS1,by rw [X8 (by omega)]⟩
 intro h5b;have h5:=dF h5b;refine Aq<|Ag<|fun a F=>Mb (fun a' w'=>∃ (b3k:Nat),Fits 55 a' [(1,.pointer (some ⟨b1,0,none⟩)),(3,.pointer (some ⟨b3k,0,none⟩))]∧Mem w0 G (.blk b3k [.string (str (C1 x.kind)),.bool (decide (uAt x.kind)),.bool (decide (uCo x.kind)),.bool (decide (uTo x.kind)),.bool (decide (uIt x.kind)),.func (.func (Ff x.kind)) #[] #[]] 138::.blk b1 [.int .u8 ((x.kind:Nat):Int),.int .i64 x.at_,.int .i64 x.count,.int .i64 x.to,.slice na x.items.length nc] 65::L) w') ?_ ?_
 ·skip
  refine P2 (.run 1 (.run 2 (.act 0 (.run 3 (.act 4 (.act 5 .fin .no) .no)) (.act 4 (.act 0 (.run 3 (.act 5 .fin .no)) .no) .no)))) (Keep G [.blk b1 [.int .u8 ((x.kind:Nat):Int),.int .i64 x.at_,.int .i64 x.count,.int .i64 x.to,.slice na x.items.length nc] 65]) rfl (by kernel_rfl) (fun c a d v w h=>by cases d <;> exact h) (Bo (M.drew _)) ?_;replace M:=M.drew (w.drawn+1);revert a;refine t_r (fun a F w M=>Ce Bm.k rfl F rfl) rfl<|t_r (fun a F w M=>Al (agf Fa rfl) (F.ev rfl) (M.cellL (k:=0) rfl rfl)) rfl<|fun a F=>Cd ?_ rfl ?_
  ·skip
   revert a;refine Bs Pq rfl rfl (Gw M)<|?_;clear M;rintro _ w M rfl
   refine eQ (Bo M)<|t_r (fun a F w M=>Gs (j:=x.kind) Hf.k Cl rfl (F.ev rfl) (F.ev rfl) rfl (by omega) (us:=[.string (str (C1 x.kind)),.bool (decide (uAt x.kind)),.bool (decide (uCo x.kind)),.bool (decide (uTo x.kind)),.bool (decide (uIt x.kind)),.func (.func (Ff x.kind)) #[] #[]]) (I7 (by omega))) rfl<|fun a F=>Cd ?_ rfl Db
   revert a;refine C9 M Cl rfl rfl<|?_;clear M;intro b6 w M
   refine eQ (Bo M)<|fun a F=>Cd ?_ rfl Db
   refine Cj F M Cl 0 ?_;clear F M a;intro w a M F;change Mem w0 G (.blk b6 [.string (str (C1 x.kind)),.bool (decide (uAt x.kind)),.bool (decide (uCo x.kind)),.bool (decide (uTo x.kind)),.bool (decide (uIt x.kind)),.func (.func (Ff x.kind)) #[] #[]] 138::_::L) _ at M;revert a;refine eQ (Bo M)<|Ik<|fun a F=>?_
   exact ⟨b6,F.to ⟨rfl,rfl,trivial⟩,M⟩
  refine Cd ?_ rfl ?_
  ·skip
   revert a;refine C9 M Cl rfl rfl<|?_;clear M;intro b8 w M
   refine eQ (Bo M)<|fun a F=>Cd ?_ rfl Db
   revert a;refine Bs Pq rfl rfl (Gw M)<|?_;clear M;rintro _ w M rfl
   refine eQ (Bo M)<|t_r (fun a F w M=>Gs (j:=x.kind) Hf.k Cl rfl (F.ev rfl) (F.ev rfl) rfl (by omega) (us:=[.string (str (C1 x.kind)),.bool (decide (uAt x.kind)),.bool (decide (uCo x.kind)),.bool (decide (uTo x.kind)),.bool (decide (uIt x.kind)),.func (.func (Ff x.kind)) #[] #[]]) (I7 (by omega))) rfl<|fun a F=>Cd ?_ rfl Db
   refine Cj F M Cl 0 ?_;clear F M a;intro w a M F;change Mem w0 G (.blk b8 [.string (str (C1 x.kind)),.bool (decide (uAt x.kind)),.bool (decide (uCo x.kind)),.bool (decide (uTo x.kind)),.bool (decide (uIt x.kind)),.func (.func (Ff x.kind)) #[] #[]] 138::_::L) _ at M;revert a;refine eQ (Bo M)<|Ik<|fun a F=>?_
   exact ⟨b8,F.to ⟨rfl,rfl,trivial⟩,M⟩
  exact Db
 clear F M;rintro a w ⟨b3k,F,M⟩;revert a;refine Ag<|Ag<|fun a F=>Mb (fun a' w'=>∃ (bb:Bool),Fits 55 a' [(1,.pointer (some ⟨b1,0,none⟩)),(54,.bool bb)]∧Mem w0 G (.blk b3k [.string (str (C1 x.kind)),.bool (decide (uAt x.kind)),.bool (decide (uCo x.kind)),.bool (decide (uTo x.kind)),.bool (decide (uIt x.kind)),.func (.func (Ff x.kind)) #[] #[]] 138::.blk b1 [.int .u8 ((x.kind:Nat):Int),.int .i64 x.at_,.int .i64 x.count,.int .i64 x.to,.slice na x.items.length nc] 65::L) w'∧(bb=true↔¬ Fu x)) ?_ ?_
 ·skip
  revert a;refine Az<|A0 Cl.k rfl rfl<|Bg Io M 0 rfl rfl rfl rfl<|Dh rfl<|Aa rfl<|?_
  rcases bE (!(decide (uAt x.kind))) with h10b | h33b
  ·skip
   have h10:=dF (Ah h10b);have h10c:(decide (uAt x.kind))=false:=(Ah h10b);refine g_t rfl (Ak h10c)<|A0 Bm.k rfl rfl<|g_t rfl (Ak h10c)<|Bg Cg M 1 rfl rfl rfl rfl<|g_t rfl (Ak h10c)<|Fh rfl rfl<|Bh rfl (Ak h10c) rfl<|Aa rfl<|?_
   rcases bE (!(decide (x.at_=0))) with h11b | h12b
   ·skip
    have h11:=dF (Ah h11b);have h11c:(decide (x.at_=0))=false:=(Ah h11b);refine g_f rfl (Ak h11c)<|g_f rfl (Ak h11c)<|g_f rfl (Ak h11c)<|g_f rfl (Ak h11c)<|g_u rfl<|g_u rfl<|g_u rfl<|g_f rfl (Ak h11c)<|Bh rfl (Ak h11c) rfl<|Aa rfl<|g_f rfl rfl<|g_f rfl rfl<|g_f rfl rfl<|g_f rfl rfl<|g_u rfl<|g_u rfl<|g_u rfl<|g_f rfl rfl<|Bh rfl rfl rfl<|Aa rfl<|g_f rfl rfl<|g_f rfl rfl<|g_f rfl rfl<|g_f rfl rfl<|?_
    refine g_u rfl<|g_u rfl<|g_u rfl<|g_u rfl<|g_f rfl rfl<|Bh rfl rfl rfl<|Bc<|fun a F=>?_
    exact ⟨true,F.to ⟨rfl,rfl,trivial⟩,M,by clear F M;unfold Fu;first | (simp only [Bool.true_eq_false,true_iff,false_iff,Bool.false_eq_true,decide_eq_true_eq];grind) | grind⟩
   have h12:=dT (Ai h12b);have h12c:(decide (x.at_=0))=true:=(Ai h12b);refine g_t rfl (Aj h12c)<|A0 Cl.k rfl rfl<|g_t rfl (Aj h12c)<|Bg Io M 0 rfl rfl rfl rfl<|g_t rfl (Aj h12c)<|Dh rfl<|g_t rfl (Aj h12c)<|Aa rfl<|?_
   rcases bE (!(decide (uCo x.kind))) with h13b | h24b
   ·skip
    have h13:=dF (Ah h13b);have h13c:(decide (uCo x.kind))=false:=(Ah h13b);refine g_t rfl (Ak h13c)<|A0 Bm.k rfl rfl<|g_t rfl (Ak h13c)<|Bg Cg M 1 rfl rfl rfl rfl<|g_t rfl (Ak h13c)<|Fh rfl rfl<|g_t rfl (Aj h12c)<|Bh rfl (Ak h13c) rfl<|Be rfl (Aj h12c) rfl<|Aa rfl<|?_
    rcases bE (!(decide (x.count=0))) with h14b | h15b
    ·skip
     have h14:=dF (Ah h14b);have h14c:(decide (x.count=0))=false:=(Ah h14b);refine g_f rfl (Ak h14c)<|g_f rfl (Ak h14c)<|g_f rfl (Ak h14c)<|g_f rfl (Ak h14c)<|g_u rfl<|g_u rfl<|g_u rfl<|g_f rfl (Ak h14c)<|Bh rfl (Ak h14c) rfl<|Aa rfl<|g_f rfl rfl<|g_f rfl rfl<|g_f rfl rfl<|g_f rfl rfl<|g_u rfl<|g_u rfl<|g_u rfl<|g_u rfl<|g_f rfl rfl<|Bh rfl rfl rfl<|Bc<|fun a F=>?_
     exact ⟨true,F.to ⟨rfl,rfl,trivial⟩,M,by clear F M;unfold Fu;first | (simp only [Bool.true_eq_false,true_iff,false_iff,Bool.false_eq_true,decide_eq_true_eq];grind) | grind⟩
    have h15:=dT (Ai h15b);have h15c:(decide (x.count=0))=true:=(Ai h15b);refine g_t rfl (Aj h15c)<|A0 Cl.k rfl rfl<|g_t rfl (Aj h15c)<|Bg Io M 0 rfl rfl rfl rfl<|g_t rfl (Aj h15c)<|Dh rfl<|g_t rfl (Aj h15c)<|Aa rfl<|?_
    rcases bE (!(decide (uTo x.kind))) with h16b | h21b
    ·skip
     have h16:=dF (Ah h16b);have h16c:(decide (uTo x.kind))=false:=(Ah h16b);refine g_t rfl (Ak h16c)<|A0 Bm.k rfl rfl<|g_t rfl (Ak h16c)<|Bg Cg M 1 rfl rfl rfl rfl<|g_t rfl (Ak h16c)<|Fh rfl rfl<|g_t rfl (Aj h15c)<|Bh rfl (Ak h16c) rfl<|Be rfl (Aj h15c) rfl<|Aa rfl<|?_
     rcases bE (!(decide (x.to=0))) with h17b | h18b
     ·skip
      have h17:=dF (Ah h17b);have h17c:(decide (x.to=0))=false:=(Ah h17b);refine g_f rfl (Ak h17c)<|g_f rfl (Ak h17c)<|g_f rfl (Ak h17c)<|g_f rfl (Ak h17c)<|g_u rfl<|g_u rfl<|g_u rfl<|g_u rfl<|g_f rfl (Ak h17c)<|Bh rfl (Ak h17c) rfl<|Bc<|fun a F=>?_
      exact ⟨true,F.to ⟨rfl,rfl,trivial⟩,M,by clear F M;unfold Fu;first | (simp only [Bool.true_eq_false,true_iff,false_iff,Bool.false_eq_true,decide_eq_true_eq];grind) | grind⟩
     have h18:=dT (Ai h18b);have h18c:(decide (x.to=0))=true:=(Ai h18b);refine g_t rfl (Aj h18c)<|A0 Cl.k rfl rfl<|g_t rfl (Aj h18c)<|Bg Io M 0 rfl rfl rfl rfl<|g_t rfl (Aj h18c)<|Dh rfl<|g_t rfl (Aj h18c)<|Aa rfl<|?_
     rcases bE (!(decide (uIt x.kind))) with h19b | h20b
     ·skip
      have h19:=dF (Ah h19b);have h19c:(decide (uIt x.kind))=false:=(Ah h19b);refine g_t rfl (Ak h19c)<|A0 Bm.k rfl rfl<|g_t rfl (Ak h19c)<|Bg B9 M 1 rfl rfl rfl rfl<|g_t rfl (Ak h19c)<|B8 B9.k rfl<|g_t rfl (Ak h19c)<|Da rfl rfl<|g_t rfl (Aj h18c)<|Bh rfl (Ak h19c) rfl<|Be rfl (Aj h18c) rfl<|Bc<|fun a F=>?_
      exact ⟨(decide (0 < ((x.items.length:Nat):Int))),F.to ⟨rfl,rfl,trivial⟩,M,by clear F M;unfold Fu;first | (simp only [Bool.true_eq_false,true_iff,false_iff,Bool.false_eq_true,decide_eq_true_eq];grind) | grind⟩
     have h20:=dT (Ai h20b);have h20c:(decide (uIt x.kind))=true:=(Ai h20b);refine g_f rfl (Aj h20c)<|g_f rfl (Aj h20c)<|g_f rfl (Aj h20c)<|g_f rfl (Aj h20c)<|g_t rfl (Aj h18c)<|Be rfl (Aj h20c) rfl<|Be rfl (Aj h18c) rfl<|Bc<|fun a F=>?_
     exact ⟨false,F.to ⟨rfl,rfl,trivial⟩,M,by clear F M;unfold Fu;first | (simp only [Bool.true_eq_false,true_iff,false_iff,Bool.false_eq_true,decide_eq_true_eq];grind) | grind⟩
    have h21:=dT (Ai h21b);have h21c:(decide (uTo x.kind))=true:=(Ai h21b);refine g_f rfl (Aj h21c)<|g_f rfl (Aj h21c)<|g_f rfl (Aj h21c)<|g_t rfl (Aj h15c)<|Be rfl (Aj h21c) rfl<|Be rfl (Aj h15c) rfl<|Aa rfl<|g_t rfl rfl<|A0 Cl.k rfl rfl<|g_t rfl rfl<|Bg Io M 0 rfl rfl rfl rfl<|g_t rfl rfl<|Dh rfl<|g_t rfl rfl<|Aa rfl<|?_
    rcases bE (!(decide (uIt x.kind))) with h22b | h23b
    ·skip
     have h22:=dF (Ah h22b);have h22c:(decide (uIt x.kind))=false:=(Ah h22b);refine g_t rfl (Ak h22c)<|A0 Bm.k rfl rfl<|g_t rfl (Ak h22c)<|Bg B9 M 1 rfl rfl rfl rfl<|g_t rfl (Ak h22c)<|B8 B9.k rfl<|g_t rfl (Ak h22c)<|Da rfl rfl<|g_t rfl rfl<|Bh rfl (Ak h22c) rfl<|Be rfl rfl rfl<|Bc<|fun a F=>?_
     exact ⟨(decide (0 < ((x.items.length:Nat):Int))),F.to ⟨rfl,rfl,trivial⟩,M,by clear F M;unfold Fu;first | (simp only [Bool.true_eq_false,true_iff,false_iff,Bool.false_eq_true,decide_eq_true_eq];grind) | grind⟩
    have h23:=dT (Ai h23b);have h23c:(decide (uIt x.kind))=true:=(Ai h23b);refine g_f rfl (Aj h23c)<|g_f rfl (Aj h23c)<|g_f rfl (Aj h23c)<|g_f rfl (Aj h23c)<|g_t rfl rfl<|Be rfl (Aj h23c) rfl<|Be rfl rfl rfl<|Bc<|fun a F=>?_
    exact ⟨false,F.to ⟨rfl,rfl,trivial⟩,M,by clear F M;unfold Fu;first | (simp only [Bool.true_eq_false,true_iff,false_iff,Bool.false_eq_true,decide_eq_true_eq];grind) | grind⟩
   have h24:=dT (Ai h24b);have h24c:(decide (uCo x.kind))=true:=(Ai h24b);refine g_f rfl (Aj h24c)<|g_f rfl (Aj h24c)<|g_f rfl (Aj h24c)<|g_t rfl (Aj h12c)<|Be rfl (Aj h24c) rfl<|Be rfl (Aj h12c) rfl<|Aa rfl<|g_t rfl rfl<|A0 Cl.k rfl rfl<|g_t rfl rfl<|Bg Io M 0 rfl rfl rfl rfl<|g_t rfl rfl<|Dh rfl<|g_t rfl rfl<|Aa rfl<|?_
   rcases bE (!(decide (uTo x.kind))) with h25b | h30b
   ·skip
    have h25:=dF (Ah h25b);have h25c:(decide (uTo x.kind))=false:=(Ah h25b);refine g_t rfl (Ak h25c)<|A0 Bm.k rfl rfl<|g_t rfl (Ak h25c)<|Bg Cg M 1 rfl rfl rfl rfl<|g_t rfl (Ak h25c)<|Fh rfl rfl<|g_t rfl rfl<|Bh rfl (Ak h25c) rfl<|Be rfl rfl rfl<|Aa rfl<|?_
    rcases bE (!(decide (x.to=0))) with h26b | h27b
    ·skip
     have h26:=dF (Ah h26b);have h26c:(decide (x.to=0))=false:=(Ah h26b);refine g_f rfl (Ak h26c)<|g_f rfl (Ak h26c)<|g_f rfl (Ak h26c)<|g_f rfl (Ak h26c)<|g_u rfl<|g_u rfl<|g_u rfl<|g_u rfl<|g_f rfl (Ak h26c)<|Bh rfl (Ak h26c) rfl<|Bc<|fun a F=>?_
     exact ⟨true,F.to ⟨rfl,rfl,trivial⟩,M,by clear F M;unfold Fu;first | (simp only [Bool.true_eq_false,true_iff,false_iff,Bool.false_eq_true,decide_eq_true_eq];grind) | grind⟩
    have h27:=dT (Ai h27b);have h27c:(decide (x.to=0))=true:=(Ai h27b);refine g_t rfl (Aj h27c)<|A0 Cl.k rfl rfl<|g_t rfl (Aj h27c)<|Bg Io M 0 rfl rfl rfl rfl<|g_t rfl (Aj h27c)<|Dh rfl<|g_t rfl (Aj h27c)<|Aa rfl<|?_
    rcases bE (!(decide (uIt x.kind))) with h28b | h29b
    ·skip
     have h28:=dF (Ah h28b);have h28c:(decide (uIt x.kind))=false:=(Ah h28b);refine g_t rfl (Ak h28c)<|A0 Bm.k rfl rfl<|g_t rfl (Ak h28c)<|Bg B9 M 1 rfl rfl rfl rfl<|g_t rfl (Ak h28c)<|B8 B9.k rfl<|g_t rfl (Ak h28c)<|Da rfl rfl<|g_t rfl (Aj h27c)<|Bh rfl (Ak h28c) rfl<|Be rfl (Aj h27c) rfl<|Bc<|fun a F=>?_
     exact ⟨(decide (0 < ((x.items.length:Nat):Int))),F.to ⟨rfl,rfl,trivial⟩,M,by clear F M;unfold Fu;first | (simp only [Bool.true_eq_false,true_iff,false_iff,Bool.false_eq_true,decide_eq_true_eq];grind) | grind⟩
    have h29:=dT (Ai h29b);have h29c:(decide (uIt x.kind))=true:=(Ai h29b);refine g_f rfl (Aj h29c)<|g_f rfl (Aj h29c)<|g_f rfl (Aj h29c)<|g_f rfl (Aj h29c)<|g_t rfl (Aj h27c)<|Be rfl (Aj h29c) rfl<|Be rfl (Aj h27c) rfl<|Bc<|fun a F=>?_
    exact ⟨false,F.to ⟨rfl,rfl,trivial⟩,M,by clear F M;unfold Fu;first | (simp only [Bool.true_eq_false,true_iff,false_iff,Bool.false_eq_true,decide_eq_true_eq];grind) | grind⟩
   have h30:=dT (Ai h30b);have h30c:(decide (uTo x.kind))=true:=(Ai h30b);refine g_f rfl (Aj h30c)<|g_f rfl (Aj h30c)<|g_f rfl (Aj h30c)<|g_t rfl rfl<|Be rfl (Aj h30c) rfl<|Be rfl rfl rfl<|Aa rfl<|g_t rfl rfl<|A0 Cl.k rfl rfl<|g_t rfl rfl<|Bg Io M 0 rfl rfl rfl rfl<|g_t rfl rfl<|Dh rfl<|g_t rfl rfl<|Aa rfl<|?_
   rcases bE (!(decide (uIt x.kind))) with h31b | h32b
   ·skip
    have h31:=dF (Ah h31b);have h31c:(decide (uIt x.kind))=false:=(Ah h31b);refine g_t rfl (Ak h31c)<|A0 Bm.k rfl rfl<|g_t rfl (Ak h31c)<|Bg B9 M 1 rfl rfl rfl rfl<|g_t rfl (Ak h31c)<|B8 B9.k rfl<|g_t rfl (Ak h31c)<|Da rfl rfl<|g_t rfl rfl<|Bh rfl (Ak h31c) rfl<|Be rfl rfl rfl<|Bc<|fun a F=>?_
    exact ⟨(decide (0 < ((x.items.length:Nat):Int))),F.to ⟨rfl,rfl,trivial⟩,M,by clear F M;unfold Fu;first | (simp only [Bool.true_eq_false,true_iff,false_iff,Bool.false_eq_true,decide_eq_true_eq];grind) | grind⟩
   have h32:=dT (Ai h32b);have h32c:(decide (uIt x.kind))=true:=(Ai h32b);refine g_f rfl (Aj h32c)<|g_f rfl (Aj h32c)<|g_f rfl (Aj h32c)<|g_f rfl (Aj h32c)<|g_t rfl rfl<|Be rfl (Aj h32c) rfl<|Be rfl rfl rfl<|Bc<|fun a F=>?_
   exact ⟨false,F.to ⟨rfl,rfl,trivial⟩,M,by clear F M;unfold Fu;first | (simp only [Bool.true_eq_false,true_iff,false_iff,Bool.false_eq_true,decide_eq_true_eq];grind) | grind⟩
  have h33:=dT (Ai h33b);have h33c:(decide (uAt x.kind))=true:=(Ai h33b);refine g_f rfl (Aj h33c)<|g_f rfl (Aj h33c)<|g_f rfl (Aj h33c)<|Be rfl (Aj h33c) rfl<|Aa rfl<|g_t rfl rfl<|A0 Cl.k rfl rfl<|g_t rfl rfl<|Bg Io M 0 rfl rfl rfl rfl<|g_t rfl rfl<|Dh rfl<|g_t rfl rfl<|Aa rfl<|?_
  rcases bE (!(decide (uCo x.kind))) with h34b | h45b
  ·skip
   have h34:=dF (Ah h34b);have h34c:(decide (uCo x.kind))=false:=(Ah h34b);refine g_t rfl (Ak h34c)<|A0 Bm.k rfl rfl<|g_t rfl (Ak h34c)<|Bg Cg M 1 rfl rfl rfl rfl<|g_t rfl (Ak h34c)<|Fh rfl rfl<|g_t rfl rfl<|Bh rfl (Ak h34c) rfl<|Be rfl rfl rfl<|Aa rfl<|?_
   rcases bE (!(decide (x.count=0))) with h35b | h36b
   ·skip
    have h35:=dF (Ah h35b);have h35c:(decide (x.count=0))=false:=(Ah h35b);refine g_f rfl (Ak h35c)<|g_f rfl (Ak h35c)<|g_f rfl (Ak h35c)<|g_f rfl (Ak h35c)<|g_u rfl<|g_u rfl<|g_u rfl<|g_f rfl (Ak h35c)<|Bh rfl (Ak h35c) rfl<|Aa rfl<|g_f rfl rfl<|g_f rfl rfl<|g_f rfl rfl<|g_f rfl rfl<|g_u rfl<|g_u rfl<|g_u rfl<|g_u rfl<|g_f rfl rfl<|Bh rfl rfl rfl<|Bc<|fun a F=>?_
    exact ⟨true,F.to ⟨rfl,rfl,trivial⟩,M,by clear F M;unfold Fu;first | (simp only [Bool.true_eq_false,true_iff,false_iff,Bool.false_eq_true,decide_eq_true_eq];grind) | grind⟩
   have h36:=dT (Ai h36b);have h36c:(decide (x.count=0))=true:=(Ai h36b);refine g_t rfl (Aj h36c)<|A0 Cl.k rfl rfl<|g_t rfl (Aj h36c)<|Bg Io M 0 rfl rfl rfl rfl<|g_t rfl (Aj h36c)<|Dh rfl<|g_t rfl (Aj h36c)<|Aa rfl<|?_
   rcases bE (!(decide (uTo x.kind))) with h37b | h42b
   ·skip
    have h37:=dF (Ah h37b);have h37c:(decide (uTo x.kind))=false:=(Ah h37b);refine g_t rfl (Ak h37c)<|A0 Bm.k rfl rfl<|g_t rfl (Ak h37c)<|Bg Cg M 1 rfl rfl rfl rfl<|g_t rfl (Ak h37c)<|Fh rfl rfl<|g_t rfl (Aj h36c)<|Bh rfl (Ak h37c) rfl<|Be rfl (Aj h36c) rfl<|Aa rfl<|?_
    rcases bE (!(decide (x.to=0))) with h38b | h39b
    ·skip
     have h38:=dF (Ah h38b);have h38c:(decide (x.to=0))=false:=(Ah h38b);refine g_f rfl (Ak h38c)<|g_f rfl (Ak h38c)<|g_f rfl (Ak h38c)<|g_f rfl (Ak h38c)<|g_u rfl<|g_u rfl<|g_u rfl<|g_u rfl<|g_f rfl (Ak h38c)<|Bh rfl (Ak h38c) rfl<|Bc<|fun a F=>?_
     exact ⟨true,F.to ⟨rfl,rfl,trivial⟩,M,by clear F M;unfold Fu;first | (simp only [Bool.true_eq_false,true_iff,false_iff,Bool.false_eq_true,decide_eq_true_eq];grind) | grind⟩
    have h39:=dT (Ai h39b);have h39c:(decide (x.to=0))=true:=(Ai h39b);refine g_t rfl (Aj h39c)<|A0 Cl.k rfl rfl<|g_t rfl (Aj h39c)<|Bg Io M 0 rfl rfl rfl rfl<|g_t rfl (Aj h39c)<|Dh rfl<|g_t rfl (Aj h39c)<|Aa rfl<|?_
    rcases bE (!(decide (uIt x.kind))) with h40b | h41b
    ·skip
     have h40:=dF (Ah h40b);have h40c:(decide (uIt x.kind))=false:=(Ah h40b);refine g_t rfl (Ak h40c)<|A0 Bm.k rfl rfl<|g_t rfl (Ak h40c)<|Bg B9 M 1 rfl rfl rfl rfl<|g_t rfl (Ak h40c)<|B8 B9.k rfl<|g_t rfl (Ak h40c)<|Da rfl rfl<|g_t rfl (Aj h39c)<|Bh rfl (Ak h40c) rfl<|Be rfl (Aj h39c) rfl<|Bc<|fun a F=>?_
     exact ⟨(decide (0 < ((x.items.length:Nat):Int))),F.to ⟨rfl,rfl,trivial⟩,M,by clear F M;unfold Fu;first | (simp only [Bool.true_eq_false,true_iff,false_iff,Bool.false_eq_true,decide_eq_true_eq];grind) | grind⟩
    have h41:=dT (Ai h41b);have h41c:(decide (uIt x.kind))=true:=(Ai h41b);refine g_f rfl (Aj h41c)<|g_f rfl (Aj h41c)<|g_f rfl (Aj h41c)<|g_f rfl (Aj h41c)<|g_t rfl (Aj h39c)<|Be rfl (Aj h41c) rfl<|Be rfl (Aj h39c) rfl<|Bc<|fun a F=>?_
    exact ⟨false,F.to ⟨rfl,rfl,trivial⟩,M,by clear F M;unfold Fu;first | (simp only [Bool.true_eq_false,true_iff,false_iff,Bool.false_eq_true,decide_eq_true_eq];grind) | grind⟩
   have h42:=dT (Ai h42b);have h42c:(decide (uTo x.kind))=true:=(Ai h42b);refine g_f rfl (Aj h42c)<|g_f rfl (Aj h42c)<|g_f rfl (Aj h42c)<|g_t rfl (Aj h36c)<|Be rfl (Aj h42c) rfl<|Be rfl (Aj h36c) rfl<|Aa rfl<|g_t rfl rfl<|A0 Cl.k rfl rfl<|g_t rfl rfl<|Bg Io M 0 rfl rfl rfl rfl<|g_t rfl rfl<|Dh rfl<|g_t rfl rfl<|Aa rfl<|?_
   rcases bE (!(decide (uIt x.kind))) with h43b | h44b
   ·skip
    have h43:=dF (Ah h43b);have h43c:(decide (uIt x.kind))=false:=(Ah h43b);refine g_t rfl (Ak h43c)<|A0 Bm.k rfl rfl<|g_t rfl (Ak h43c)<|Bg B9 M 1 rfl rfl rfl rfl<|g_t rfl (Ak h43c)<|B8 B9.k rfl<|g_t rfl (Ak h43c)<|Da rfl rfl<|g_t rfl rfl<|Bh rfl (Ak h43c) rfl<|Be rfl rfl rfl<|Bc<|fun a F=>?_
    exact ⟨(decide (0 < ((x.items.length:Nat):Int))),F.to ⟨rfl,rfl,trivial⟩,M,by clear F M;unfold Fu;first | (simp only [Bool.true_eq_false,true_iff,false_iff,Bool.false_eq_true,decide_eq_true_eq];grind) | grind⟩
   have h44:=dT (Ai h44b);have h44c:(decide (uIt x.kind))=true:=(Ai h44b);refine g_f rfl (Aj h44c)<|g_f rfl (Aj h44c)<|g_f rfl (Aj h44c)<|g_f rfl (Aj h44c)<|g_t rfl rfl<|Be rfl (Aj h44c) rfl<|Be rfl rfl rfl<|Bc<|fun a F=>?_
   exact ⟨false,F.to ⟨rfl,rfl,trivial⟩,M,by clear F M;unfold Fu;first | (simp only [Bool.true_eq_false,true_iff,false_iff,Bool.false_eq_true,decide_eq_true_eq];grind) | grind⟩
  have h45:=dT (Ai h45b);have h45c:(decide (uCo x.kind))=true:=(Ai h45b);refine g_f rfl (Aj h45c)<|g_f rfl (Aj h45c)<|g_f rfl (Aj h45c)<|g_t rfl rfl<|Be rfl (Aj h45c) rfl<|Be rfl rfl rfl<|Aa rfl<|g_t rfl rfl<|A0 Cl.k rfl rfl<|g_t rfl rfl<|Bg Io M 0 rfl rfl rfl rfl<|g_t rfl rfl<|Dh rfl<|g_t rfl rfl<|Aa rfl<|?_
  rcases bE (!(decide (uTo x.kind))) with h46b | h51b
  ·skip
   have h46:=dF (Ah h46b);have h46c:(decide (uTo x.kind))=false:=(Ah h46b);refine g_t rfl (Ak h46c)<|A0 Bm.k rfl rfl<|g_t rfl (Ak h46c)<|Bg Cg M 1 rfl rfl rfl rfl<|g_t rfl (Ak h46c)<|Fh rfl rfl<|g_t rfl rfl<|Bh rfl (Ak h46c) rfl<|Be rfl rfl rfl<|Aa rfl<|?_
   rcases bE (!(decide (x.to=0))) with h47b | h48b
   ·skip
    have h47:=dF (Ah h47b);have h47c:(decide (x.to=0))=false:=(Ah h47b);refine g_f rfl (Ak h47c)<|g_f rfl (Ak h47c)<|g_f rfl (Ak h47c)<|g_f rfl (Ak h47c)<|g_u rfl<|g_u rfl<|g_u rfl<|g_u rfl<|g_f rfl (Ak h47c)<|Bh rfl (Ak h47c) rfl<|Bc<|fun a F=>?_
    exact ⟨true,F.to ⟨rfl,rfl,trivial⟩,M,by clear F M;unfold Fu;first | (simp only [Bool.true_eq_false,true_iff,false_iff,Bool.false_eq_true,decide_eq_true_eq];grind) | grind⟩
   have h48:=dT (Ai h48b);have h48c:(decide (x.to=0))=true:=(Ai h48b);refine g_t rfl (Aj h48c)<|A0 Cl.k rfl rfl<|g_t rfl (Aj h48c)<|Bg Io M 0 rfl rfl rfl rfl<|g_t rfl (Aj h48c)<|Dh rfl<|g_t rfl (Aj h48c)<|Aa rfl<|?_
   rcases bE (!(decide (uIt x.kind))) with h49b | h50b
   ·skip
    have h49:=dF (Ah h49b);have h49c:(decide (uIt x.kind))=false:=(Ah h49b);refine g_t rfl (Ak h49c)<|A0 Bm.k rfl rfl<|g_t rfl (Ak h49c)<|Bg B9 M 1 rfl rfl rfl rfl<|g_t rfl (Ak h49c)<|B8 B9.k rfl<|g_t rfl (Ak h49c)<|Da rfl rfl<|g_t rfl (Aj h48c)<|Bh rfl (Ak h49c) rfl<|Be rfl (Aj h48c) rfl<|Bc<|fun a F=>?_
    exact ⟨(decide (0 < ((x.items.length:Nat):Int))),F.to ⟨rfl,rfl,trivial⟩,M,by clear F M;unfold Fu;first | (simp only [Bool.true_eq_false,true_iff,false_iff,Bool.false_eq_true,decide_eq_true_eq];grind) | grind⟩
   have h50:=dT (Ai h50b);have h50c:(decide (uIt x.kind))=true:=(Ai h50b);refine g_f rfl (Aj h50c)<|g_f rfl (Aj h50c)<|g_f rfl (Aj h50c)<|g_f rfl (Aj h50c)<|g_t rfl (Aj h48c)<|Be rfl (Aj h50c) rfl<|Be rfl (Aj h48c) rfl<|Bc<|fun a F=>?_
   exact ⟨false,F.to ⟨rfl,rfl,trivial⟩,M,by clear F M;unfold Fu;first | (simp only [Bool.true_eq_false,true_iff,false_iff,Bool.false_eq_true,decide_eq_true_eq];grind) | grind⟩
  have h51:=dT (Ai h51b);have h51c:(decide (uTo x.kind))=true:=(Ai h51b);refine g_f rfl (Aj h51c)<|g_f rfl (Aj h51c)<|g_f rfl (Aj h51c)<|g_t rfl rfl<|Be rfl (Aj h51c) rfl<|Be rfl rfl rfl<|Aa rfl<|g_t rfl rfl<|A0 Cl.k rfl rfl<|g_t rfl rfl<|Bg Io M 0 rfl rfl rfl rfl<|g_t rfl rfl<|Dh rfl<|g_t rfl rfl<|Aa rfl<|?_
  rcases bE (!(decide (uIt x.kind))) with h52b | h53b
  ·skip
   have h52:=dF (Ah h52b);have h52c:(decide (uIt x.kind))=false:=(Ah h52b);refine g_t rfl (Ak h52c)<|A0 Bm.k rfl rfl<|g_t rfl (Ak h52c)<|Bg B9 M 1 rfl rfl rfl rfl<|g_t rfl (Ak h52c)<|B8 B9.k rfl<|g_t rfl (Ak h52c)<|Da rfl rfl<|g_t rfl rfl<|Bh rfl (Ak h52c) rfl<|Be rfl rfl rfl<|Bc<|fun a F=>?_
   exact ⟨(decide (0 < ((x.items.length:Nat):Int))),F.to ⟨rfl,rfl,trivial⟩,M,by clear F M;unfold Fu;first | (simp only [Bool.true_eq_false,true_iff,false_iff,Bool.false_eq_true,decide_eq_true_eq];grind) | grind⟩
  have h53:=dT (Ai h53b);have h53c:(decide (uIt x.kind))=true:=(Ai h53b);refine g_f rfl (Aj h53c)<|g_f rfl (Aj h53c)<|g_f rfl (Aj h53c)<|g_f rfl (Aj h53c)<|g_t rfl rfl<|Be rfl (Aj h53c) rfl<|Be rfl rfl rfl<|Bc<|fun a F=>?_
  exact ⟨false,F.to ⟨rfl,rfl,trivial⟩,M,by clear F M;unfold Fu;first | (simp only [Bool.true_eq_false,true_iff,false_iff,Bool.false_eq_true,decide_eq_true_eq];grind) | grind⟩
 clear F M;rintro a w ⟨bb,F,M,hbb⟩;revert a;refine Ap rfl ?_ ?_
 ·intro h54b;have h54:(bb)=true:=h54b;refine Ag<|?_
  have hF:¬ Fu x:=hbb.1 (by assumption);refine Az<|Ab rfl<|Ae<|Ad rfl rfl<|?_
  exact ⟨M.weaken dS2,by rw [Alj (by omega) hF]⟩
 intro h55b;have h55:(bb)=false:=h55b;refine Aq<|Ag<|?_
 have hF:Fu x:=Classical.byContradiction fun h_=>by have h9_:=hbb.2 h_;simp_all
 refine Az<|Ab rfl<|Ae<|Ad rfl rfl<|?_
 exact ⟨M.weaken dS2,by rw [Alk (by omega) hF]⟩
theorem Acn (M:Mem w0 G L w) {k:Nat}:Calls Tryz.prog 93 #[.int .u8 ((k:Nat):Int)] w (Cs w0 G L fun v=>v=.agg #[.int .i64 (uG k 0),.int .i64 (uG k 1),.int .i64 (uG k 2),.int .i64 (uG k 3)]):=by
 refine Ay (vs:=[_]) Tryz.func93 rfl (n:=18) rfl rfl<|Ac<|C9 M E7 rfl rfl<|?_;clear M;intro b1 w M
 refine Ag<|Ac<|Aa rfl<|Ax<|Ag<|Ac<|C3 rfl rfl<|Ab rfl<|Ap rfl ?_ ?_
 ·intro h3b;have h3:=dT h3b;refine Aq<|Bl rfl h3b<|Ac<|Ar (fun a F=>Gu F (ps:=[(0,.int .i64 1),(1,.int .i64 0),(2,.int .i64 0),(3,.int .i64 1)]) (cs:=[.int .i64 1,.int .i64 0,.int .i64 0,.int .i64 1]) E7.k E7 Cg rfl rfl) rfl<|fun a F=>?_
  refine Cj F M E7 0 ?_;clear F M a;intro w a M F;change Mem w0 G (.blk b1 [.int .i64 1,.int .i64 0,.int .i64 0,.int .i64 1] 167::L) _ at M;revert a;refine Ae<|Fy<|C5<|fun a F=>L5 F M (k:=0) rfl rfl E7 rfl rfl rfl ?_
  exact ⟨M.weaken dS1,by rw [show uG k 0=1 from if_pos (by unfold uAt;omega),show uG k 1=0 from if_neg (by unfold uCo;omega),show uG k 2=0 from if_neg (by unfold uTo;omega),show uG k 3=1 from if_pos (by unfold uIt;omega)]⟩
 intro h4b;have h4:=dF h4b;refine Az<|C3 rfl rfl<|Ab rfl<|Ap rfl ?_ ?_
 ·intro h5b;have h5:=dT h5b;refine Ac<|Ar (fun a F=>Gu F (ps:=[(0,.int .i64 1),(1,.int .i64 0),(2,.int .i64 0),(3,.int .i64 1)]) (cs:=[.int .i64 1,.int .i64 0,.int .i64 0,.int .i64 1]) E7.k E7 Cg rfl rfl) rfl<|fun a F=>?_
  refine Cj F M E7 0 ?_;clear F M a;intro w a M F;change Mem w0 G (.blk b1 [.int .i64 1,.int .i64 0,.int .i64 0,.int .i64 1] 167::L) _ at M;revert a;refine Ae<|Fy<|C5<|fun a F=>L5 F M (k:=0) rfl rfl E7 rfl rfl rfl ?_
  exact ⟨M.weaken dS1,by rw [show uG k 0=1 from if_pos (by unfold uAt;omega),show uG k 1=0 from if_neg (by unfold uCo;omega),show uG k 2=0 from if_neg (by unfold uTo;omega),show uG k 3=1 from if_pos (by unfold uIt;omega)]⟩
 intro h6b;have h6:=dF h6b;refine Ac<|C3 rfl rfl<|Ab rfl<|Ap rfl ?_ ?_
 ·intro h7b;have h7:=dT h7b;refine Ac<|Ar (fun a F=>Gu F (ps:=[(0,.int .i64 1),(1,.int .i64 1),(2,.int .i64 0),(3,.int .i64 0)]) (cs:=[.int .i64 1,.int .i64 1,.int .i64 0,.int .i64 0]) E7.k E7 Cg rfl rfl) rfl<|fun a F=>?_
  refine Cj F M E7 0 ?_;clear F M a;intro w a M F;change Mem w0 G (.blk b1 [.int .i64 1,.int .i64 1,.int .i64 0,.int .i64 0] 167::L) _ at M;revert a;refine Ae<|Fy<|C5<|fun a F=>L5 F M (k:=0) rfl rfl E7 rfl rfl rfl ?_
  exact ⟨M.weaken dS1,by rw [show uG k 0=1 from if_pos (by unfold uAt;omega),show uG k 1=1 from if_pos (by unfold uCo;omega),show uG k 2=0 from if_neg (by unfold uTo;omega),show uG k 3=0 from if_neg (by unfold uIt;omega)]⟩
 intro h8b;have h8:=dF h8b;refine Ac<|C3 rfl rfl<|Ab rfl<|Ap rfl ?_ ?_
 ·intro h9b;have h9:=dT h9b;refine Ac<|Ar (fun a F=>Gu F (ps:=[(0,.int .i64 1),(1,.int .i64 1),(2,.int .i64 1),(3,.int .i64 0)]) (cs:=[.int .i64 1,.int .i64 1,.int .i64 1,.int .i64 0]) E7.k E7 Cg rfl rfl) rfl<|fun a F=>?_
  refine Cj F M E7 0 ?_;clear F M a;intro w a M F;change Mem w0 G (.blk b1 [.int .i64 1,.int .i64 1,.int .i64 1,.int .i64 0] 167::L) _ at M;revert a;refine Ae<|Fy<|C5<|fun a F=>L5 F M (k:=0) rfl rfl E7 rfl rfl rfl ?_
  exact ⟨M.weaken dS1,by rw [show uG k 0=1 from if_pos (by unfold uAt;omega),show uG k 1=1 from if_pos (by unfold uCo;omega),show uG k 2=1 from if_pos (by unfold uTo;omega),show uG k 3=0 from if_neg (by unfold uIt;omega)]⟩
 intro h10b;have h10:=dF h10b;refine Ac<|C3 rfl rfl<|Ab rfl<|Ap rfl ?_ ?_
 ·intro h11b;have h11:=dT h11b;refine Ac<|Ar (fun a F=>Gu F (ps:=[(0,.int .i64 0),(1,.int .i64 0),(2,.int .i64 0),(3,.int .i64 1)]) (cs:=[.int .i64 0,.int .i64 0,.int .i64 0,.int .i64 1]) E7.k E7 Cg rfl rfl) rfl<|fun a F=>?_
  refine Cj F M E7 0 ?_;clear F M a;intro w a M F;change Mem w0 G (.blk b1 [.int .i64 0,.int .i64 0,.int .i64 0,.int .i64 1] 167::L) _ at M;revert a;refine Ae<|Fy<|C5<|fun a F=>L5 F M (k:=0) rfl rfl E7 rfl rfl rfl ?_
  exact ⟨M.weaken dS1,by rw [show uG k 0=0 from if_neg (by unfold uAt;omega),show uG k 1=0 from if_neg (by unfold uCo;omega),show uG k 2=0 from if_neg (by unfold uTo;omega),show uG k 3=1 from if_pos (by unfold uIt;omega)]⟩
 intro h12b;have h12:=dF h12b;refine Aq<|Ac<|Ar (fun a F=>Gu F (ps:=[]) (cs:=[.int .i64 0,.int .i64 0,.int .i64 0,.int .i64 0]) E7.k E7 Cg rfl rfl) rfl<|fun a F=>?_
 refine Cj F M E7 0 ?_;clear F M a;intro w a M F;change Mem w0 G (.blk b1 [.int .i64 0,.int .i64 0,.int .i64 0,.int .i64 0] 167::L) _ at M;revert a;refine Ae<|fun a F=>L5 F M (k:=0) rfl rfl E7 rfl rfl rfl ?_
 exact ⟨M.weaken dS1,by rw [show uG k 0=0 from if_neg (by unfold uAt;omega),show uG k 1=0 from if_neg (by unfold uCo;omega),show uG k 2=0 from if_neg (by unfold uTo;omega),show uG k 3=0 from if_neg (by unfold uIt;omega)]⟩
theorem O9 (M:Mem w0 G L w) {x:NotD} {na:Option Addr} {nc:Nat} (hN:x.kind < 256∧Bb .i64 x.at_∧Bb .i64 x.count∧Bb .i64 x.to∧x.items.length≤9223372036854775807) (SI:Au Cv 4 G (.slice na x.items.length nc) x.items):Calls Tryz.prog 38 #[.agg #[.int .u8 ((x.kind:Nat):Int),.int .i64 x.at_,.int .i64 x.count,.int .i64 x.to,.slice na x.items.length nc]] w (Cs w0 G L fun v=>v=.int .i64 (E4 x)):=by
 refine Ay (vs:=[_]) Tryz.func38 rfl (n:=40) rfl rfl<|Ac<|Cz M rfl rfl rfl<|?_;clear M;intro b1 w M
 refine Ab rfl<|Ag<|Ac<|A0 Bm.k rfl rfl<|Bg Fa M 0 rfl rfl rfl rfl<|C2 rfl rfl<|Aa rfl<|?_
 rcases bE (decide (((x.kind:Nat):Int) < 1)) with h2b | h3b
 ·skip
  have h2:=dT h2b;refine g_f rfl h2b<|g_f rfl h2b<|g_f rfl h2b<|Bh rfl h2b rfl<|Bl rfl rfl<|Ac<|Ab rfl<|Ae<|Ad rfl rfl<|?_
  exact ⟨M.weaken dS1,by rw [X8 (by omega)]⟩
 have h3:=dF h3b;refine g_t rfl h3b<|A0 Bm.k rfl rfl<|g_t rfl h3b<|Bg Fa M 0 rfl rfl rfl rfl<|g_t rfl h3b<|Da rfl rfl<|Be rfl h3b rfl<|Ap rfl ?_ ?_
 ·intro h4b;have h4:=dT h4b;refine Ac<|Ab rfl<|Ae<|Ad rfl rfl<|?_
  exact ⟨M.weaken dS1,by rw [X8 (by omega)]⟩
 intro h5b;have h5:=dF h5b;refine Aq<|Ac<|A0 Bm.k rfl rfl<|Bg Fa M 0 rfl rfl rfl rfl<|Bs ent93 rfl rfl (Acn (k:=x.kind) M)<|?_;clear M;rintro _ w M rfl
 refine C9 M E7 rfl rfl<|?_;clear M;intro b6 w M
 intro a F;refine Cj F M E7 0 ?_;clear F M a;intro w a M F;change Mem w0 G (.blk b6 [.int .i64 (uG x.kind 0),.int .i64 (uG x.kind 1),.int .i64 (uG x.kind 2),.int .i64 (uG x.kind 3)] 167::_::L) _ at M;revert a;refine Ag<|Ac<|Ab rfl<|Ax<|fun a F=>Bz (fun m a' w'=>∃ (i:Nat),m=4 - i∧Fits 40 a' [(1,.pointer (some ⟨b1,0,none⟩)),(3,.pointer (some ⟨b6,0,none⟩)),(4,.int .i64 ((i:Nat):Int))]∧Mem w0 G (.blk b6 [.int .i64 (uG x.kind 0),.int .i64 (uG x.kind 1),.int .i64 (uG x.kind 2),.int .i64 (uG x.kind 3)] 167::.blk b1 [.int .u8 ((x.kind:Nat):Int),.int .i64 x.at_,.int .i64 x.count,.int .i64 x.to,.slice na x.items.length nc] 65::L) w'∧(i≤4)∧(∀ j,j < i→uG x.kind j=0→nG x j=0)) _ ⟨0,rfl,F.to ⟨rfl,rfl,rfl,trivial⟩,M,by omega,fun j h=>by omega⟩ ?_
 clear F M;rintro m a w ⟨i,rfl,F,M,hi,hA⟩;revert a;refine Ag<|Ac<|Aa rfl<|C2 rfl rfl<|Ap rfl ?_ ?_
 ·intro h8b;have h8:=dT h8b;refine Aq<|Ag<|Ax<|Ag<|fun a F=>Mb (fun a' w'=>∃ (bb:Bool),Fits 40 a' [(1,.pointer (some ⟨b1,0,none⟩)),(3,.pointer (some ⟨b6,0,none⟩)),(4,.int .i64 ((i:Nat):Int)),(39,.bool bb)]∧Mem w0 G (.blk b6 [.int .i64 (uG x.kind 0),.int .i64 (uG x.kind 1),.int .i64 (uG x.kind 2),.int .i64 (uG x.kind 3)] 167::.blk b1 [.int .u8 ((x.kind:Nat):Int),.int .i64 x.at_,.int .i64 x.count,.int .i64 x.to,.slice na x.items.length nc] 65::L) w'∧(bb=true↔uG x.kind i=0∧nG x i≠0)) ?_ ?_
  ·skip
   revert a;refine Az<|Aa rfl<|Ar (fun a F=>S0 (j:=i) E7.k Cg rfl (F.ev rfl) (F.ev rfl) (by omega) (by omega)) rfl<|Ar (fun a F=>Al (agf Cg rfl) (F.ev rfl) (M.cellL (k:=0) rfl (u_cell (i:=i) (by omega)))) rfl<|C3 rfl rfl<|Aa rfl<|?_
   rcases bE (decide (uG x.kind i=0)) with h9b | h13b
   ·skip
    have h9:=dT h9b;refine g_t rfl h9b<|A0 Bm.k rfl rfl<|g_t rfl h9b<|Bg Cg M 1 rfl rfl rfl rfl<|g_t rfl h9b<|A0 Bm.k rfl rfl<|g_t rfl h9b<|Bg Cg M 1 rfl rfl rfl rfl<|g_t rfl h9b<|A0 Bm.k rfl rfl<|g_t rfl h9b<|Bg Cg M 1 rfl rfl rfl rfl<|g_t rfl h9b<|A0 Bm.k rfl rfl<|g_t rfl h9b<|Bg B9 M 1 rfl rfl rfl rfl<|g_t rfl h9b<|B8 B9.k rfl<|g_t rfl h9b<|fun a F=>?_
    refine F3 F M Akh.k Cg (ps:=[(0,.int .i64 x.at_),(1,.int .i64 x.count),(2,.int .i64 x.to),(3,.int .i64 ((x.items.length:Nat):Int))]) (cs:=[[.int .i64 x.at_],[.int .i64 x.count],[.int .i64 x.to],[.int .i64 ((x.items.length:Nat):Int)]]) (fl:=[.int .i64 x.at_,.int .i64 x.count,.int .i64 x.to,.int .i64 ((x.items.length:Nat):Int)]) rfl rfl (by simp [N0,Value.cells]) (by simp [ti3]) rfl (by simp [Value.oneCell']) (by decide) (by decide) rfl ?_;clear F M a;intro v10 w a M F;obtain ⟨av10,cv10,rfl,hlev10,hcmv10,hlv10⟩:=M.row_shape (k:=0) rfl;have Ez11:Els rdZ 1 G [.int .i64 x.at_,.int .i64 x.count,.int .i64 x.to,.int .i64 ((x.items.length:Nat):Int)] [nG x 0,nG x 1,nG x 2,nG x 3]:=els_z (zs:=[nG x 0,nG x 1,nG x 2,nG x 3]);revert a;refine g_t rfl h9b<|Aa rfl<|g_t rfl h9b<|?_
    obtain ⟨be12,_,Ie12,hme12,_,Ae12,rfl⟩:=M.atRow (k:=0) rfl (by decide) Ez11 (n_cell (x:=x) (i:=i) (by omega));refine D0 Akh.k Cg Ie12 rfl rfl<|g_t rfl h9b<|s_le Cg Ae12 0 rfl rfl (by omega) rfl<|g_t rfl h9b<|Fh rfl rfl<|Bh rfl h9b rfl<|Bc<|fun a F=>?_
    exact ⟨(!(decide ((nG x i)=0))),F.to ⟨rfl,rfl,rfl,rfl,trivial⟩,M.weaken dS1,by clear F M;first | (simp only [Bool.true_eq_false,true_iff,false_iff,Bool.false_eq_true,decide_eq_true_eq];omega) | grind⟩
   have h13:=dF h13b;refine g_f rfl h13b<|g_f rfl h13b<|g_f rfl h13b<|g_f rfl h13b<|g_f rfl h13b<|g_f rfl h13b<|g_f rfl h13b<|g_f rfl h13b<|g_f rfl h13b<|g_f rfl h13b<|g_f rfl h13b<|g_f rfl h13b<|g_f rfl h13b<|g_f rfl h13b<|Be rfl h13b rfl<|Bc<|fun a F=>?_
   exact ⟨false,F.to ⟨rfl,rfl,rfl,rfl,trivial⟩,M,by clear F M;first | (simp only [Bool.true_eq_false,true_iff,false_iff,Bool.false_eq_true,decide_eq_true_eq];omega) | grind⟩
  clear F M;rintro a w ⟨bb,F,M,hbb⟩;revert a;refine Ap rfl ?_ ?_
  ·intro h14b;have h14:(bb)=true:=h14b;refine Ag<|?_
   have h8_:=hbb;refine Az<|Ab rfl<|Ae<|Ad rfl rfl<|?_
   exact ⟨M.weaken dS2,by rw [Alj (by omega) (Alm (j:=i) (by omega) (hbb.1 (by assumption)).1 (hbb.1 (by assumption)).2)]⟩
  intro h15b;have h15:(bb)=false:=h15b;refine Aq<|Az<|Aa rfl<|Bx rfl rfl<|Ab rfl<|Bc<|Cm<|fun a F=>?_
  exact ⟨_,by omega,i+1,rfl,F.to ⟨rfl,rfl,rfl,trivial⟩,M,by omega,fun j hj hu=>by rcases Nat.lt_succ_iff_lt_or_eq.1 hj with h_ | h_;exact hA j h_ hu;subst h_;clear F M;first | omega | simp_all⟩
 intro h16b;have h16:=dF h16b;refine B5<|Bw<|Bw<|Dj<|Ac<|Ab rfl<|Ae<|Ad rfl rfl<|?_
 exact ⟨M.weaken dS2,by rw [Alk (by omega) (form_of fun j hj hu=>hA j (by omega) hu)]⟩
theorem k1_spec (M:Mem w0 G L w) {c:RulesD} {kca:Option Addr} {kcc:Nat} (SC:Au C6 9 G (.slice kca c.kinds.length kcc) c.kinds) {a1:Option Addr} {c1:Nat} {l:List EntD} (S:Au Ca 6 G (.slice a1 l.length c1) l) (hck:Bv c l=0) {x:NotD} {na:Option Addr} {nc:Nat} (hN:x.kind < 256∧Bb .i64 x.at_∧Bb .i64 x.count∧Bb .i64 x.to∧x.items.length≤9223372036854775807) (SI:Au Cv 4 G (.slice na x.items.length nc) x.items) (hX:x.items.length≤900000) (h0:E4 x=0) (hk:x.kind=1):Calls Tryz.prog 122 #[.agg #[.slice kca c.kinds.length kcc,.int .i64 c.cap],.agg #[.slice a1 l.length c1],.agg #[.int .u8 ((x.kind:Nat):Int),.int .i64 x.at_,.int .i64 x.count,.int .i64 x.to,.slice na x.items.length nc]] w (Iz w0 G (Kd L (F6 c l x))):=by
 rw [Abn h0 hk];have bS:=S.bound;refine Ay (vs:=[_,_,_]) Tryz.func122 rfl (n:=17) rfl rfl<|Ac<|Cz M rfl rfl rfl<|?_;clear M;intro b1 w M
 refine Cz M rfl rfl rfl<|?_;clear M;intro b2 w M
 refine Cz M rfl rfl rfl<|?_;clear M;intro b3 w M
 refine C9 M Ba rfl rfl<|?_;clear M;intro b4 w M
 refine Ab rfl<|Ac<|Ar (fun a F=>Af Co rfl (F.ev rfl) (cs:=[.slice kca c.kinds.length kcc,.int .i64 c.cap]) rfl (M.cellsL (k:=3) rfl rfl)) rfl<|Ar (fun a F=>Af Ba rfl (F.ev rfl) (cs:=[.slice a1 l.length c1]) rfl (M.cellsL (k:=2) rfl rfl)) rfl<|A0 Bm.k rfl rfl<|Bg Cg M 1 rfl rfl rfl rfl<|A0 Bm.k rfl rfl<|Bg B9 M 1 rfl rfl rfl rfl<|fun a F=>?_
 refine Dy F ent123 rfl rfl (Ya (c:=c) (l:=l) (xs:=x.items) (z:=x.at_) M SC S hck SI (by omega)) ?_;clear F M a;rintro _ Gq6 _ w a hGq6 M ⟨aoq6,csq6,Loq6,rfl,rfl,Eoq6⟩ F;replace SC:=SC.mono A1 hGq6;replace S:=S.mono Am hGq6;replace SI:=SI.mono Aw hGq6;have M:=M.perm (Cp (Cy aoq6 (E2 c l x.at_ x.items).1.length csq6::Loq6) [.blk b4 [.slice none 0 0] 54,.blk b3 [.int .u8 ((x.kind:Nat):Int),.int .i64 x.at_,.int .i64 x.count,.int .i64 x.to,.slice na x.items.length nc] 65,.blk b2 [.slice a1 l.length c1] 54,.blk b1 [.slice kca c.kinds.length kcc,.int .i64 c.cap] 51] L);change Mem w0 Gq6 (.blk b4 [.slice none 0 0] 54::.blk b3 [.int .u8 ((x.kind:Nat):Int),.int .i64 x.at_,.int .i64 x.count,.int .i64 x.to,.slice na x.items.length nc] 65::.blk b2 [.slice a1 l.length c1] 54::.blk b1 [.slice kca c.kinds.length kcc,.int .i64 c.cap] 51::((Cy aoq6 (E2 c l x.at_ x.items).1.length csq6::Loq6)++L)) _ at M;revert a;refine Df rfl rfl<|Df rfl rfl<|fun a F=>?_
 refine Cj F M Ba 0 ?_;clear F M a;intro w a M F;change Mem w0 Gq6 (.blk b4 [.slice aoq6 ((E2 c l x.at_ x.items).1.length) ((E2 c l x.at_ x.items).1.length)] 54::_::_::_::((Cy aoq6 (E2 c l x.at_ x.items).1.length csq6::Loq6)++L)) _ at M;revert a;refine Ab rfl<|Ae<|fun a F=>Cn F M (k:=0) rfl rfl Ba rfl rfl rfl rfl ?_
 exact ⟨_,_,hGq6,M.weaken dS4,aoq6,csq6,Loq6,rfl,rfl,Eoq6⟩
theorem k2_spec (M:Mem w0 G L w) {c:RulesD} {kca:Option Addr} {kcc:Nat} (SC:Au C6 9 G (.slice kca c.kinds.length kcc) c.kinds) {a1:Option Addr} {c1:Nat} {l:List EntD} (S:Au Ca 6 G (.slice a1 l.length c1) l) (hck:Bv c l=0) {x:NotD} {na:Option Addr} {nc:Nat} (hN:x.kind < 256∧Bb .i64 x.at_∧Bb .i64 x.count∧Bb .i64 x.to∧x.items.length≤9223372036854775807) (SI:Au Cv 4 G (.slice na x.items.length nc) x.items) (hX:x.items.length≤900000) (h0:E4 x=0) (hk:x.kind=2):Calls Tryz.prog 124 #[.agg #[.slice kca c.kinds.length kcc,.int .i64 c.cap],.agg #[.slice a1 l.length c1],.agg #[.int .u8 ((x.kind:Nat):Int),.int .i64 x.at_,.int .i64 x.count,.int .i64 x.to,.slice na x.items.length nc]] w (Iz w0 G (Kd L (F6 c l x))):=by
 rw [W7 h0 hk];have bS:=S.bound;refine Ay (vs:=[_,_,_]) Tryz.func124 rfl (n:=17) rfl rfl<|Ac<|Cz M rfl rfl rfl<|?_;clear M;intro b1 w M
 refine Cz M rfl rfl rfl<|?_;clear M;intro b2 w M
 refine Cz M rfl rfl rfl<|?_;clear M;intro b3 w M
 refine C9 M Ba rfl rfl<|?_;clear M;intro b4 w M
 refine Ab rfl<|Ac<|Ar (fun a F=>Af Co rfl (F.ev rfl) (cs:=[.slice kca c.kinds.length kcc,.int .i64 c.cap]) rfl (M.cellsL (k:=3) rfl rfl)) rfl<|Ar (fun a F=>Af Ba rfl (F.ev rfl) (cs:=[.slice a1 l.length c1]) rfl (M.cellsL (k:=2) rfl rfl)) rfl<|A0 Bm.k rfl rfl<|Bg Cg M 1 rfl rfl rfl rfl<|A0 Bm.k rfl rfl<|Bg Cg M 1 rfl rfl rfl rfl<|fun a F=>?_
 refine Dy F ent69 rfl rfl (Pi (c:=c) (l:=l) (z:=x.at_) (n:=x.count) M SC S hck ) ?_;clear F M a;rintro _ Gq6 _ w a hGq6 M ⟨aoq6,csq6,Loq6,rfl,rfl,Eoq6⟩ F;replace SC:=SC.mono A1 hGq6;replace S:=S.mono Am hGq6;replace SI:=SI.mono Aw hGq6;have M:=M.perm (Cp (Cy aoq6 (Ic l x.at_ x.count).1.length csq6::Loq6) [.blk b4 [.slice none 0 0] 54,.blk b3 [.int .u8 ((x.kind:Nat):Int),.int .i64 x.at_,.int .i64 x.count,.int .i64 x.to,.slice na x.items.length nc] 65,.blk b2 [.slice a1 l.length c1] 54,.blk b1 [.slice kca c.kinds.length kcc,.int .i64 c.cap] 51] L);change Mem w0 Gq6 (.blk b4 [.slice none 0 0] 54::.blk b3 [.int .u8 ((x.kind:Nat):Int),.int .i64 x.at_,.int .i64 x.count,.int .i64 x.to,.slice na x.items.length nc] 65::.blk b2 [.slice a1 l.length c1] 54::.blk b1 [.slice kca c.kinds.length kcc,.int .i64 c.cap] 51::((Cy aoq6 (Ic l x.at_ x.count).1.length csq6::Loq6)++L)) _ at M;revert a;refine Df rfl rfl<|Df rfl rfl<|fun a F=>?_
 refine Cj F M Ba 0 ?_;clear F M a;intro w a M F;change Mem w0 Gq6 (.blk b4 [.slice aoq6 ((Ic l x.at_ x.count).1.length) ((Ic l x.at_ x.count).1.length)] 54::_::_::_::((Cy aoq6 (Ic l x.at_ x.count).1.length csq6::Loq6)++L)) _ at M;revert a;refine Ab rfl<|Ae<|fun a F=>Cn F M (k:=0) rfl rfl Ba rfl rfl rfl rfl ?_
 exact ⟨_,_,hGq6,M.weaken dS4,aoq6,csq6,Loq6,rfl,rfl,Eoq6⟩
theorem k3_spec (M:Mem w0 G L w) {c:RulesD} {kca:Option Addr} {kcc:Nat} (SC:Au C6 9 G (.slice kca c.kinds.length kcc) c.kinds) {a1:Option Addr} {c1:Nat} {l:List EntD} (S:Au Ca 6 G (.slice a1 l.length c1) l) (hck:Bv c l=0) {x:NotD} {na:Option Addr} {nc:Nat} (hN:x.kind < 256∧Bb .i64 x.at_∧Bb .i64 x.count∧Bb .i64 x.to∧x.items.length≤9223372036854775807) (SI:Au Cv 4 G (.slice na x.items.length nc) x.items) (hX:x.items.length≤900000) (h0:E4 x=0) (hk:x.kind=3):Calls Tryz.prog 125 #[.agg #[.slice kca c.kinds.length kcc,.int .i64 c.cap],.agg #[.slice a1 l.length c1],.agg #[.int .u8 ((x.kind:Nat):Int),.int .i64 x.at_,.int .i64 x.count,.int .i64 x.to,.slice na x.items.length nc]] w (Iz w0 G (Kd L (F6 c l x))):=by
 rw [Abm h0 hk];have bS:=S.bound;refine Ay (vs:=[_,_,_]) Tryz.func125 rfl (n:=19) rfl rfl<|Ac<|Cz M rfl rfl rfl<|?_;clear M;intro b1 w M
 refine Cz M rfl rfl rfl<|?_;clear M;intro b2 w M
 refine Cz M rfl rfl rfl<|?_;clear M;intro b3 w M
 refine C9 M Ba rfl rfl<|?_;clear M;intro b4 w M
 refine Ab rfl<|Ac<|Ar (fun a F=>Af Co rfl (F.ev rfl) (cs:=[.slice kca c.kinds.length kcc,.int .i64 c.cap]) rfl (M.cellsL (k:=3) rfl rfl)) rfl<|Ar (fun a F=>Af Ba rfl (F.ev rfl) (cs:=[.slice a1 l.length c1]) rfl (M.cellsL (k:=2) rfl rfl)) rfl<|A0 Bm.k rfl rfl<|Bg Cg M 1 rfl rfl rfl rfl<|A0 Bm.k rfl rfl<|Bg Cg M 1 rfl rfl rfl rfl<|A0 Bm.k rfl rfl<|Bg Cg M 1 rfl rfl rfl rfl<|fun a F=>?_
 refine Dy F ent126 rfl rfl (Adp (c:=c) (l:=l) (z:=x.at_) (n:=x.count) (q:=x.to) M SC S hck ) ?_;clear F M a;rintro _ Gq6 _ w a hGq6 M ⟨aoq6,csq6,Loq6,rfl,rfl,Eoq6⟩ F;replace SC:=SC.mono A1 hGq6;replace S:=S.mono Am hGq6;replace SI:=SI.mono Aw hGq6;have M:=M.perm (Cp (Cy aoq6 (Gr l x.at_ x.count x.to).1.length csq6::Loq6) [.blk b4 [.slice none 0 0] 54,.blk b3 [.int .u8 ((x.kind:Nat):Int),.int .i64 x.at_,.int .i64 x.count,.int .i64 x.to,.slice na x.items.length nc] 65,.blk b2 [.slice a1 l.length c1] 54,.blk b1 [.slice kca c.kinds.length kcc,.int .i64 c.cap] 51] L);change Mem w0 Gq6 (.blk b4 [.slice none 0 0] 54::.blk b3 [.int .u8 ((x.kind:Nat):Int),.int .i64 x.at_,.int .i64 x.count,.int .i64 x.to,.slice na x.items.length nc] 65::.blk b2 [.slice a1 l.length c1] 54::.blk b1 [.slice kca c.kinds.length kcc,.int .i64 c.cap] 51::((Cy aoq6 (Gr l x.at_ x.count x.to).1.length csq6::Loq6)++L)) _ at M;revert a;refine Df rfl rfl<|Df rfl rfl<|fun a F=>?_
 refine Cj F M Ba 0 ?_;clear F M a;intro w a M F;change Mem w0 Gq6 (.blk b4 [.slice aoq6 ((Gr l x.at_ x.count x.to).1.length) ((Gr l x.at_ x.count x.to).1.length)] 54::_::_::_::((Cy aoq6 (Gr l x.at_ x.count x.to).1.length csq6::Loq6)++L)) _ at M;revert a;refine Ab rfl<|Ae<|fun a F=>Cn F M (k:=0) rfl rfl Ba rfl rfl rfl rfl ?_
 exact ⟨_,_,hGq6,M.weaken dS4,aoq6,csq6,Loq6,rfl,rfl,Eoq6⟩
theorem k4_spec (M:Mem w0 G L w) {c:RulesD} {kca:Option Addr} {kcc:Nat} (SC:Au C6 9 G (.slice kca c.kinds.length kcc) c.kinds) {a1:Option Addr} {c1:Nat} {l:List EntD} (S:Au Ca 6 G (.slice a1 l.length c1) l) (hck:Bv c l=0) {x:NotD} {na:Option Addr} {nc:Nat} (hN:x.kind < 256∧Bb .i64 x.at_∧Bb .i64 x.count∧Bb .i64 x.to∧x.items.length≤9223372036854775807) (SI:Au Cv 4 G (.slice na x.items.length nc) x.items) (hX:x.items.length≤900000) (h0:E4 x=0) (hk:x.kind=4):Calls Tryz.prog 127 #[.agg #[.slice kca c.kinds.length kcc,.int .i64 c.cap],.agg #[.slice a1 l.length c1],.agg #[.int .u8 ((x.kind:Nat):Int),.int .i64 x.at_,.int .i64 x.count,.int .i64 x.to,.slice na x.items.length nc]] w (Iz w0 G (Kd L (F6 c l x))):=by
 rw [Agx h0 hk];have bS:=S.bound;refine Ay (vs:=[_,_,_]) Tryz.func127 rfl (n:=17) rfl rfl<|Ac<|Cz M rfl rfl rfl<|?_;clear M;intro b1 w M
 refine Cz M rfl rfl rfl<|?_;clear M;intro b2 w M
 refine Cz M rfl rfl rfl<|?_;clear M;intro b3 w M
 refine C9 M Ba rfl rfl<|?_;clear M;intro b4 w M
 refine Ab rfl<|Ac<|Ar (fun a F=>Af Co rfl (F.ev rfl) (cs:=[.slice kca c.kinds.length kcc,.int .i64 c.cap]) rfl (M.cellsL (k:=3) rfl rfl)) rfl<|Ar (fun a F=>Af Ba rfl (F.ev rfl) (cs:=[.slice a1 l.length c1]) rfl (M.cellsL (k:=2) rfl rfl)) rfl<|A0 Bm.k rfl rfl<|Bg Cg M 1 rfl rfl rfl rfl<|A0 Bm.k rfl rfl<|Bg B9 M 1 rfl rfl rfl rfl<|fun a F=>?_
 refine Dy F ent128 rfl rfl (Yb (c:=c) (l:=l) (xs:=x.items) (z:=x.at_) M SC S hck SI (by omega)) ?_;clear F M a;rintro _ Gq6 _ w a hGq6 M ⟨aoq6,csq6,Loq6,rfl,rfl,Eoq6⟩ F;replace SC:=SC.mono A1 hGq6;replace S:=S.mono Am hGq6;replace SI:=SI.mono Aw hGq6;have M:=M.perm (Cp (Cy aoq6 (Hn c l x.at_ x.items).1.length csq6::Loq6) [.blk b4 [.slice none 0 0] 54,.blk b3 [.int .u8 ((x.kind:Nat):Int),.int .i64 x.at_,.int .i64 x.count,.int .i64 x.to,.slice na x.items.length nc] 65,.blk b2 [.slice a1 l.length c1] 54,.blk b1 [.slice kca c.kinds.length kcc,.int .i64 c.cap] 51] L);change Mem w0 Gq6 (.blk b4 [.slice none 0 0] 54::.blk b3 [.int .u8 ((x.kind:Nat):Int),.int .i64 x.at_,.int .i64 x.count,.int .i64 x.to,.slice na x.items.length nc] 65::.blk b2 [.slice a1 l.length c1] 54::.blk b1 [.slice kca c.kinds.length kcc,.int .i64 c.cap] 51::((Cy aoq6 (Hn c l x.at_ x.items).1.length csq6::Loq6)++L)) _ at M;revert a;refine Df rfl rfl<|Df rfl rfl<|fun a F=>?_
 refine Cj F M Ba 0 ?_;clear F M a;intro w a M F;change Mem w0 Gq6 (.blk b4 [.slice aoq6 ((Hn c l x.at_ x.items).1.length) ((Hn c l x.at_ x.items).1.length)] 54::_::_::_::((Cy aoq6 (Hn c l x.at_ x.items).1.length csq6::Loq6)++L)) _ at M;revert a;refine Ab rfl<|Ae<|fun a F=>Cn F M (k:=0) rfl rfl Ba rfl rfl rfl rfl ?_
 exact ⟨_,_,hGq6,M.weaken dS4,aoq6,csq6,Loq6,rfl,rfl,Eoq6⟩
theorem k5_spec (M:Mem w0 G L w) {c:RulesD} {kca:Option Addr} {kcc:Nat} (SC:Au C6 9 G (.slice kca c.kinds.length kcc) c.kinds) {a1:Option Addr} {c1:Nat} {l:List EntD} (S:Au Ca 6 G (.slice a1 l.length c1) l) (hck:Bv c l=0) {x:NotD} {na:Option Addr} {nc:Nat} (hN:x.kind < 256∧Bb .i64 x.at_∧Bb .i64 x.count∧Bb .i64 x.to∧x.items.length≤9223372036854775807) (SI:Au Cv 4 G (.slice na x.items.length nc) x.items) (hX:x.items.length≤900000) (h0:E4 x=0) (hk:x.kind=5):Calls Tryz.prog 129 #[.agg #[.slice kca c.kinds.length kcc,.int .i64 c.cap],.agg #[.slice a1 l.length c1],.agg #[.int .u8 ((x.kind:Nat):Int),.int .i64 x.at_,.int .i64 x.count,.int .i64 x.to,.slice na x.items.length nc]] w (Iz w0 G (Kd L (F6 c l x))):=by
 rw [Agw h0 hk];have bS:=S.bound;refine Ay (vs:=[_,_,_]) Tryz.func129 rfl (n:=15) rfl rfl<|Ac<|Cz M rfl rfl rfl<|?_;clear M;intro b1 w M
 refine Cz M rfl rfl rfl<|?_;clear M;intro b2 w M
 refine Cz M rfl rfl rfl<|?_;clear M;intro b3 w M
 refine C9 M Ba rfl rfl<|?_;clear M;intro b4 w M
 refine Ab rfl<|Ac<|Ar (fun a F=>Af Co rfl (F.ev rfl) (cs:=[.slice kca c.kinds.length kcc,.int .i64 c.cap]) rfl (M.cellsL (k:=3) rfl rfl)) rfl<|Ar (fun a F=>Af Ba rfl (F.ev rfl) (cs:=[.slice a1 l.length c1]) rfl (M.cellsL (k:=2) rfl rfl)) rfl<|A0 Bm.k rfl rfl<|Bg B9 M 1 rfl rfl rfl rfl<|fun a F=>?_
 refine Dy F ent92 rfl rfl (Rj (c:=c) (l:=l) (xs:=x.items) M SC S hck SI (by omega)) ?_;clear F M a;rintro _ Gq6 _ w a hGq6 M ⟨aoq6,csq6,Loq6,rfl,rfl,Eoq6⟩ F;replace SC:=SC.mono A1 hGq6;replace S:=S.mono Am hGq6;replace SI:=SI.mono Aw hGq6;have M:=M.perm (Cp (Cy aoq6 (E2 c [] 0 x.items).1.length csq6::Loq6) [.blk b4 [.slice none 0 0] 54,.blk b3 [.int .u8 ((x.kind:Nat):Int),.int .i64 x.at_,.int .i64 x.count,.int .i64 x.to,.slice na x.items.length nc] 65,.blk b2 [.slice a1 l.length c1] 54,.blk b1 [.slice kca c.kinds.length kcc,.int .i64 c.cap] 51] L);change Mem w0 Gq6 (.blk b4 [.slice none 0 0] 54::.blk b3 [.int .u8 ((x.kind:Nat):Int),.int .i64 x.at_,.int .i64 x.count,.int .i64 x.to,.slice na x.items.length nc] 65::.blk b2 [.slice a1 l.length c1] 54::.blk b1 [.slice kca c.kinds.length kcc,.int .i64 c.cap] 51::((Cy aoq6 (E2 c [] 0 x.items).1.length csq6::Loq6)++L)) _ at M;revert a;refine Df rfl rfl<|Df rfl rfl<|fun a F=>?_
 refine Cj F M Ba 0 ?_;clear F M a;intro w a M F;change Mem w0 Gq6 (.blk b4 [.slice aoq6 ((E2 c [] 0 x.items).1.length) ((E2 c [] 0 x.items).1.length)] 54::_::_::_::((Cy aoq6 (E2 c [] 0 x.items).1.length csq6::Loq6)++L)) _ at M;revert a;refine Ab rfl<|Ae<|fun a F=>Cn F M (k:=0) rfl rfl Ba rfl rfl rfl rfl ?_
 exact ⟨_,_,hGq6,M.weaken dS4,aoq6,csq6,Loq6,rfl,rfl,Eoq6⟩
theorem Aje (M:Mem w0 G L w) {c:RulesD} {kca:Option Addr} {kcc:Nat} (SC:Au C6 9 G (.slice kca c.kinds.length kcc) c.kinds) {a1:Option Addr} {c1:Nat} {l:List EntD} (S:Au Ca 6 G (.slice a1 l.length c1) l) (hck:Bv c l=0) {x:NotD} {na:Option Addr} {nc:Nat} (hN:x.kind < 256∧Bb .i64 x.at_∧Bb .i64 x.count∧Bb .i64 x.to∧x.items.length≤9223372036854775807) (SI:Au Cv 4 G (.slice na x.items.length nc) x.items) (hX:x.items.length≤900000) (h0:E4 x=0):Calls Tryz.prog (Ff x.kind) #[.agg #[.slice kca c.kinds.length kcc,.int .i64 c.cap],.agg #[.slice a1 l.length c1],.agg #[.int .u8 ((x.kind:Nat):Int),.int .i64 x.at_,.int .i64 x.count,.int .i64 x.to,.slice na x.items.length nc]] w (Iz w0 G (Kd L (F6 c l x))):=by
 have hk:=(Jv.1 h0).1
 rcases (show x.kind=1∨x.kind=2∨x.kind=3∨x.kind=4∨x.kind=5 by omega) with e | e | e | e | e
 ·have h:=k1_spec M SC S hck hN SI hX h0 e;rw [show Ff x.kind=122 by rw [e];rfl];exact h
 ·have h:=k2_spec M SC S hck hN SI hX h0 e;rw [show Ff x.kind=124 by rw [e];rfl];exact h
 ·have h:=k3_spec M SC S hck hN SI hX h0 e;rw [show Ff x.kind=125 by rw [e];rfl];exact h
 ·have h:=k4_spec M SC S hck hN SI hX h0 e;rw [show Ff x.kind=127 by rw [e];rfl];exact h
 have h:=k5_spec M SC S hck hN SI hX h0 e;rw [show Ff x.kind=129 by rw [e];rfl];exact h
theorem Ams {k:Nat}:Ent Tryz.prog (Ff k):=by
 unfold Ff
 split
 ·exact ent122
 ·exact ent124
 ·exact ent125
 ·exact ent127
 exact ent129
theorem Rg (M:Mem w0 G L w) {c:RulesD} {kca:Option Addr} {kcc:Nat} (SC:Au C6 9 G (.slice kca c.kinds.length kcc) c.kinds) {a1:Option Addr} {c1:Nat} {l:List EntD} (S:Au Ca 6 G (.slice a1 l.length c1) l)  {x:NotD} {na:Option Addr} {nc:Nat} (hN:x.kind < 256∧Bb .i64 x.at_∧Bb .i64 x.count∧Bb .i64 x.to∧x.items.length≤9223372036854775807) (SI:Au Cv 4 G (.slice na x.items.length nc) x.items) (hX:x.items.length≤900000):Calls Tryz.prog 28 #[.agg #[.slice kca c.kinds.length kcc,.int .i64 c.cap],.agg #[.slice a1 l.length c1],.agg #[.int .u8 ((x.kind:Nat):Int),.int .i64 x.at_,.int .i64 x.count,.int .i64 x.to,.slice na x.items.length nc]] w (Iz w0 G (Kd L (Iy c l x))):=by
 have bS:=S.bound;refine Ay (vs:=[_,_,_]) Tryz.func28 rfl (n:=34) rfl rfl<|Ac<|Cz M rfl rfl rfl<|?_;clear M;intro b1 w M
 refine Cz M rfl rfl rfl<|?_;clear M;intro b2 w M
 refine Cz M rfl rfl rfl<|?_;clear M;intro b3 w M
 refine C9 M Ba rfl rfl<|?_;clear M;intro b4 w M
 refine Ab rfl<|Ag<|Ac<|Ar (fun a F=>Af Co rfl (F.ev rfl) (cs:=[.slice kca c.kinds.length kcc,.int .i64 c.cap]) rfl (M.cellsL (k:=3) rfl rfl)) rfl<|Ar (fun a F=>Af Ba rfl (F.ev rfl) (cs:=[.slice a1 l.length c1]) rfl (M.cellsL (k:=2) rfl rfl)) rfl<|Bs Amu rfl rfl (Mr (c:=c) (l:=l) M SC S)<|?_;clear M;rintro _ w M rfl
 refine Ab rfl<|Ac<|Aa rfl<|Fh rfl rfl<|Ap rfl ?_ ?_
 ·intro h6b;have h6:=dF (Ah h6b);refine Ac<|Ar (fun a F=>A3 (cs:=[.slice none 0 0]) (ps:=[]) Ba.k rfl Ba (F.evp rfl) rfl) rfl<|Aa rfl<|fun a F=>?_
  refine Cj F M Ba 0 ?_;clear F M a;intro w a M F;change Mem w0 G (.blk b4 [.slice none 0 0] 54::_::_::_::L) _ at M;revert a;refine Ab rfl<|Ae<|C5<|fun a F=>Cn F M (k:=0) rfl rfl Ba rfl rfl rfl rfl ?_
  exact Gn (Agy (by omega)) (Gle.refl _) (M.weaken (cN (.cons _ (cN (.cons _ (sR _))))))
 intro h7b;have h7:=dT (Ai h7b);refine Aq<|Ag<|Ac<|Ar (fun a F=>Af Bm rfl (F.ev rfl) (cs:=[.int .u8 ((x.kind:Nat):Int),.int .i64 x.at_,.int .i64 x.count,.int .i64 x.to,.slice na x.items.length nc]) rfl (M.cellsL (k:=1) rfl rfl)) rfl<|Bs Aax rfl rfl (H4 (x:=x) M hN SI)<|?_;clear M;rintro _ w M rfl
 refine Ab rfl<|Ac<|Aa rfl<|Fh rfl rfl<|Ap rfl ?_ ?_
 ·intro h8b;have h8:=dF (Ah h8b);refine Ac<|Ar (fun a F=>A3 (cs:=[.slice none 0 0]) (ps:=[]) Ba.k rfl Ba (F.evp rfl) rfl) rfl<|Aa rfl<|fun a F=>?_
  refine Cj F M Ba 0 ?_;clear F M a;intro w a M F;change Mem w0 G (.blk b4 [.slice none 0 0] 54::_::_::_::L) _ at M;revert a;refine Ab rfl<|Ae<|C5<|fun a F=>Cn F M (k:=0) rfl rfl Ba rfl rfl rfl rfl ?_
  exact Gn (((Sf (by omega)).trans (Agv (by omega)))) (Gle.refl _) (M.weaken (cN (.cons _ (cN (.cons _ (sR _))))))
 intro h9b;have h9:=dT (Ai h9b);refine Aq<|Ag<|?_
 have hkk:=(Jv.1 (show E4 x=0 by omega)).1;intro a F;refine O0 [(.free,1),(.pure,2),(.pure,5),(.pure,6),(.pure,7),(.keep,0),(.free,3),(.free,4),(.keep,8),(.free,9),(.free,10),(.chg,11),(.free,12)] [11] (Keep G [.blk b3 [.int .u8 ((x.kind:Nat):Int),.int .i64 x.at_,.int .i64 x.count,.int .i64 x.to,.slice na x.items.length nc] 65,.blk b2 [.slice a1 l.length c1] 54,.blk b1 [.slice kca c.kinds.length kcc,.int .i64 c.cap] 51]) rfl (by kernel_rfl) (fun c a d v w h=>by cases d <;> exact h) (Bo (M.drew _)) ?_;replace M:=M.drew (w.drawn+1);revert a;refine k_f (fun a F w _=>Ce Bm.k rfl F rfl) rfl<|k_p (fun a F w M=>Al (agf Fa rfl) (F.ev rfl) (M.cellL (k:=0) rfl rfl)) rfl<|k_p (fun a F w M=>Af Co rfl (F.ev rfl) (cs:=[.slice kca c.kinds.length kcc,.int .i64 c.cap]) rfl (M.cellsL (k:=2) rfl rfl)) rfl<|k_p (fun a F w M=>Af Ba rfl (F.ev rfl) (cs:=[.slice a1 l.length c1]) rfl (M.cellsL (k:=1) rfl rfl)) rfl<|k_p (fun a F w M=>Af Bm rfl (F.ev rfl) (cs:=[.int .u8 ((x.kind:Nat):Int),.int .i64 x.at_,.int .i64 x.count,.int .i64 x.to,.slice na x.items.length nc]) rfl (M.cellsL (k:=0) rfl rfl)) rfl<|k_k rfl<|Bs Pq rfl rfl (Gw M)<|?_;clear M;rintro _ w M rfl
 refine eQ (Bo M)<|k_f (fun a F w _=>Gs (j:=x.kind) Hf.k Cl rfl (F.ev rfl) (F.ev rfl) rfl (by omega) (us:=[.string (str (C1 x.kind)),.bool (decide (uAt x.kind)),.bool (decide (uCo x.kind)),.bool (decide (uTo x.kind)),.bool (decide (uIt x.kind)),.func (.func (Ff x.kind)) #[] #[]]) (I7 (by omega))) rfl<|k_f (fun a F w _=>Acq Cl.k rfl tok67 rfl (F.ev rfl) rfl) rfl<|k_k rfl<|fun a F=>?_
 refine Ahp F Ams rfl rfl rfl (Aje M SC S (by omega) hN SI hX (by omega)) ?_;clear F M a;rintro _ Gq10 _ w a hGq10 M ⟨aoq10,csq10,Loq10,rfl,rfl,Eoq10⟩ F;replace SC:=SC.mono A1 hGq10;replace S:=S.mono Am hGq10;replace SI:=SI.mono Aw hGq10;have M:=M.perm (Cp (Cy aoq10 (F6 c l x).1.length csq10::Loq10) [.blk b4 [.slice none 0 0] 54,.blk b3 [.int .u8 ((x.kind:Nat):Int),.int .i64 x.at_,.int .i64 x.count,.int .i64 x.to,.slice na x.items.length nc] 65,.blk b2 [.slice a1 l.length c1] 54,.blk b1 [.slice kca c.kinds.length kcc,.int .i64 c.cap] 51] L);change Mem w0 Gq10 (.blk b4 [.slice none 0 0] 54::.blk b3 [.int .u8 ((x.kind:Nat):Int),.int .i64 x.at_,.int .i64 x.count,.int .i64 x.to,.slice na x.items.length nc] 65::.blk b2 [.slice a1 l.length c1] 54::.blk b1 [.slice kca c.kinds.length kcc,.int .i64 c.cap] 51::((Cy aoq10 (F6 c l x).1.length csq10::Loq10)++L)) _ at M;revert a;refine eK (C':=Keep Gq10 [.blk b3 [.int .u8 ((x.kind:Nat):Int),.int .i64 x.at_,.int .i64 x.count,.int .i64 x.to,.slice na x.items.length nc] 65,.blk b2 [.slice a1 l.length c1] 54,.blk b1 [.slice kca c.kinds.length kcc,.int .i64 c.cap] 51]) (Bo M) (fun w h=>h.mono hGq10 (by simp))<|k_f (fun a F w _=>Cr (v:=.agg #[.slice aoq10 ((F6 c l x).1.length) ((F6 c l x).1.length)]) (F.ev rfl) rfl) rfl<|k_f (fun a F w _=>Cr (v:=.int .i64 ((F6 c l x).2)) (F.ev rfl) rfl) rfl<|k_c rfl<|fun a F=>?_
 refine Cj F M Ba 0 ?_;clear F M a;intro w a M F;change Mem w0 Gq10 (.blk b4 [.slice aoq10 ((F6 c l x).1.length) ((F6 c l x).1.length)] 54::_::_::_::((Cy aoq10 (F6 c l x).1.length csq10::Loq10)++L)) _ at M;revert a;refine Bc<|fun a F=>⟨Keep Gq10 [.blk b4 [.slice aoq10 ((F6 c l x).1.length) ((F6 c l x).1.length)] 54,.blk b3 [.int .u8 ((x.kind:Nat):Int),.int .i64 x.at_,.int .i64 x.count,.int .i64 x.to,.slice na x.items.length nc] 65,.blk b2 [.slice a1 l.length c1] 54,.blk b1 [.slice kca c.kinds.length kcc,.int .i64 c.cap] 51],M.keep (Gle.refl _) (by simp),?_⟩
 revert a;refine k_f (fun a F w _=>G8 F rfl) rfl<|De<|Ae<|fun a F=>Cn F M (k:=0) rfl rfl Ba rfl rfl rfl rfl ?_
 rw [Sf (by omega)]
 exact ⟨_,_,hGq10,M.weaken dS4,aoq10,csq10,Loq10,rfl,rfl,Eoq10⟩
theorem Zq {w0 w:World} {G:A4} {L:List Res} (M:Mem w0 G L w) {c:RulesD} {kca:Option Addr} {kcc:Nat} (SC:Au C6 9 G (.slice kca c.kinds.length kcc) c.kinds) {a1:Option Addr} {c1:Nat} {l:List EntD} (S:Au Ca 6 G (.slice a1 l.length c1) l) (hck:Bv c l=0) {x:NotD} {na:Option Addr} {nc:Nat} (hN:x.kind < 256∧Bb .i64 x.at_∧Bb .i64 x.count∧Bb .i64 x.to∧x.items.length≤9223372036854775807) (SI:Au Cv 4 G (.slice na x.items.length nc) x.items) (hX:x.items.length≤900000):Calls Tryz.prog 27 #[.agg #[.slice kca c.kinds.length kcc,.int .i64 c.cap],.slice a1 l.length c1,.agg #[.int .u8 ((x.kind:Nat):Int),.int .i64 x.at_,.int .i64 x.count,.int .i64 x.to,.slice na x.items.length nc]] w (Ret w0 G L fun G' v=>∃ (a:Option Addr) (cc:Nat),v=.tuple #[.slice a (F6 c l x).1.length cc,.int .i64 (F6 c l x).2]∧Au Ca 6 G' (.slice a (F6 c l x).1.length cc) (F6 c l x).1):=by
 have hvc:=(E9 hck).1;have hl2:=(E9 hck).2.1;have bS:=S.bound;have hnn:=note_nn x;refine Ay (vs:=[_,_,_]) Tryz.func27 rfl (n:=65) rfl rfl<|Ac<|Cz M rfl rfl rfl<|?_;clear M;intro b1 w M
 refine Cz M rfl rfl rfl<|?_;clear M;intro b2 w M
 refine Ab rfl<|Ab rfl<|Ag<|Ac<|Ar (fun a F=>Af Bm rfl (F.ev rfl) (cs:=[.int .u8 ((x.kind:Nat):Int),.int .i64 x.at_,.int .i64 x.count,.int .i64 x.to,.slice na x.items.length nc]) rfl (M.cellsL (k:=0) rfl rfl)) rfl<|Bs ent38 rfl rfl (O9 (x:=x) M hN SI)<|?_;clear M;rintro _ w M rfl
 refine Da rfl rfl<|Ap rfl ?_ ?_
 ·intro h3b;have h3:=dT h3b;refine Ac<|Ar (fun a F=>Af Bm rfl (F.ev rfl) (cs:=[.int .u8 ((x.kind:Nat):Int),.int .i64 x.at_,.int .i64 x.count,.int .i64 x.to,.slice na x.items.length nc]) rfl (M.cellsL (k:=0) rfl rfl)) rfl<|Bs ent38 rfl rfl (O9 (x:=x) M hN SI)<|?_;clear M;rintro _ w M rfl
  refine Ab rfl<|Ab rfl<|Ae<|D6 rfl rfl rfl<|?_
  exact ⟨_,(Gle.refl _),M.weaken dS2,none,0,by rw [Agv (by omega)];rfl,by rw [Agv (by omega)];exact Au.nil⟩
 intro h4b;have h4:=dF h4b;refine Aq<|Ag<|Ag<|?_
 have hkk:=(Jv.1 (show E4 x=0 by omega)).1;refine Az<|A0 Bm.k rfl rfl<|Bg Fa M 0 rfl rfl rfl rfl<|Ax<|Ac<|C3 rfl rfl<|Ab rfl<|Ap rfl ?_ ?_
 ·intro h5b;have h5:=dT h5b;refine Ac<|Ar (fun a F=>Af Co rfl (F.ev rfl) (cs:=[.slice kca c.kinds.length kcc,.int .i64 c.cap]) rfl (M.cellsL (k:=1) rfl rfl)) rfl<|Aa rfl<|A0 Bm.k rfl rfl<|Bg Cg M 0 rfl rfl rfl rfl<|A0 Bm.k rfl rfl<|Bg B9 M 0 rfl rfl rfl rfl<|Ge ent70 rfl rfl (Aan (c:=c) (l:=l) (z:=x.at_) (xs:=x.items) M SC hvc S SI (by omega) (by omega))<|?_;clear M;rintro _ Gq6 w hGq6 M ⟨aq6,cq6,rfl,Sq6⟩
  replace SC:=SC.mono A1 hGq6;replace S:=S.mono Am hGq6;replace SI:=SI.mono Aw hGq6;refine Df rfl rfl<|Df rfl rfl<|Ab rfl<|Ab rfl<|Ae<|D6 rfl rfl rfl<|?_
  exact ⟨_,hGq6,M.weaken dS2,aq6,cq6,by rw [Abn (by omega) (by omega)],by rw [Abn (by omega) (by omega)];exact Sq6⟩
 intro h7b;have h7:=dF h7b;refine Ac<|C3 rfl rfl<|Ab rfl<|Ap rfl ?_ ?_
 ·intro h8b;have h8:=dT h8b;refine Ac<|Aa rfl<|A0 Bm.k rfl rfl<|Bg Cg M 0 rfl rfl rfl rfl<|A0 Bm.k rfl rfl<|Bg Cg M 0 rfl rfl rfl rfl<|Ge ent71 rfl rfl (Zp (l:=l) (z:=x.at_) (n:=x.count) M S (by omega))<|?_;clear M;rintro _ Gq9 w hGq9 M ⟨aq9,cq9,rfl,Sq9⟩
  replace SC:=SC.mono A1 hGq9;replace S:=S.mono Am hGq9;replace SI:=SI.mono Aw hGq9;refine Df rfl rfl<|Df rfl rfl<|Ab rfl<|Ab rfl<|Ae<|D6 rfl rfl rfl<|?_
  exact ⟨_,hGq9,M.weaken dS2,aq9,cq9,by rw [W7 (by omega) (by omega)],by rw [W7 (by omega) (by omega)];exact Sq9⟩
 intro h10b;have h10:=dF h10b;refine Ac<|C3 rfl rfl<|Ab rfl<|Ap rfl ?_ ?_
 ·intro h11b;have h11:=dT h11b;refine Ac<|Aa rfl<|A0 Bm.k rfl rfl<|Bg Cg M 0 rfl rfl rfl rfl<|A0 Bm.k rfl rfl<|Bg Cg M 0 rfl rfl rfl rfl<|A0 Bm.k rfl rfl<|Bg Cg M 0 rfl rfl rfl rfl<|Ge ent72 rfl rfl (Aln (l:=l) (z:=x.at_) (n:=x.count) (b:=x.to) M S (by omega))<|?_;clear M;rintro _ Gq12 w hGq12 M ⟨aq12,cq12,rfl,Sq12⟩
  replace SC:=SC.mono A1 hGq12;replace S:=S.mono Am hGq12;replace SI:=SI.mono Aw hGq12;refine Df rfl rfl<|Df rfl rfl<|Ab rfl<|Ab rfl<|Ae<|D6 rfl rfl rfl<|?_
  exact ⟨_,hGq12,M.weaken dS2,aq12,cq12,by rw [Abm (by omega) (by omega)],by rw [Abm (by omega) (by omega)];exact Sq12⟩
 intro h13b;have h13:=dF h13b;refine Ac<|C3 rfl rfl<|Ab rfl<|Ap rfl ?_ ?_
 ·intro h14b;have h14:=dT h14b;refine Ac<|Ar (fun a F=>Af Co rfl (F.ev rfl) (cs:=[.slice kca c.kinds.length kcc,.int .i64 c.cap]) rfl (M.cellsL (k:=1) rfl rfl)) rfl<|Aa rfl<|A0 Bm.k rfl rfl<|Bg Cg M 0 rfl rfl rfl rfl<|A0 Bm.k rfl rfl<|Bg B9 M 0 rfl rfl rfl rfl<|Ge ent73 rfl rfl (Aph (c:=c) (l:=l) (z:=x.at_) (xs:=x.items) M SC hvc S SI (by omega))<|?_;clear M;rintro _ Gq15 w hGq15 M ⟨aq15,cq15,rfl,Sq15⟩
  replace SC:=SC.mono A1 hGq15;replace S:=S.mono Am hGq15;replace SI:=SI.mono Aw hGq15;refine Df rfl rfl<|Df rfl rfl<|Ab rfl<|Ab rfl<|Ae<|D6 rfl rfl rfl<|?_
  exact ⟨_,hGq15,M.weaken dS2,aq15,cq15,by rw [Agx (by omega) (by omega)],by rw [Agx (by omega) (by omega)];exact Sq15⟩
 intro h16b;have h16:=dF h16b;refine Aq<|Ac<|Ar (fun a F=>Af Co rfl (F.ev rfl) (cs:=[.slice kca c.kinds.length kcc,.int .i64 c.cap]) rfl (M.cellsL (k:=1) rfl rfl)) rfl<|A0 Bm.k rfl rfl<|Bg B9 M 0 rfl rfl rfl rfl<|Ge ent74 rfl rfl (Akq (c:=c) (xs:=x.items) M SC hvc SI (by omega))<|?_;clear M;rintro _ Gq17 w hGq17 M ⟨aq17,cq17,rfl,Sq17⟩
 replace SC:=SC.mono A1 hGq17;replace S:=S.mono Am hGq17;replace SI:=SI.mono Aw hGq17;refine Df rfl rfl<|Df rfl rfl<|Ab rfl<|Ab rfl<|Ae<|D6 rfl rfl rfl<|?_
 exact ⟨_,hGq17,M.weaken dS2,aq17,cq17,by rw [Agw (by omega) (by omega)],by rw [Agw (by omega) (by omega)];exact Sq17⟩
theorem Adm (M:Mem w0 G L w) {c:RulesD} {kca:Option Addr} {kcc:Nat} (SC:Au C6 9 G (.slice kca c.kinds.length kcc) c.kinds) {a1:Option Addr} {c1 i:Nat} {l:List EntD} {ns:List NotD} (S:Au Ca 6 G (.slice a1 (Dp c l ns i).1.length c1) (Dp c l ns i).1) (hck:Bv c l=0) (hR:(Dp c l ns i).2=0) {x:NotD} {na:Option Addr} {nc:Nat} (hN:x.kind < 256∧Bb .i64 x.at_∧Bb .i64 x.count∧Bb .i64 x.to∧x.items.length≤9223372036854775807) (SI:Au Cv 4 G (.slice na x.items.length nc) x.items) (hx:ns[i]?=some x) (hNX:∀ x∈ns,x.items.length≤900000) :
  Calls Tryz.prog 28 #[.agg #[.slice kca c.kinds.length kcc,.int .i64 c.cap],.agg #[.slice a1 (Dp c l ns i).1.length c1],.agg #[.int .u8 ((x.kind:Nat):Int),.int .i64 x.at_,.int .i64 x.count,.int .i64 x.to,.slice na x.items.length nc]] w (Iz w0 G (Kd L (Dp c l ns (i+1)))):=by
 rw [Ia hR hx,← Sf (Vp hck hR)]
 exact Rg M SC S hN SI (hNX _ (List.mem_of_getElem? hx))
theorem Aag (M:Mem w0 G L w) {c:RulesD} {kca:Option Addr} {kcc:Nat} (SC:Au C6 9 G (.slice kca c.kinds.length kcc) c.kinds) {a1:Option Addr} {c1:Nat} {l:List EntD} (S:Au Ca 6 G (.slice a1 l.length c1) l) (hck:Bv c l=0) {ns:List NotD}:Calls Tryz.prog 69 #[.agg #[.slice kca c.kinds.length kcc,.int .i64 c.cap],.agg #[.slice a1 l.length c1],.int .i64 0,.int .i64 0] w (Iz w0 G (Kd L (Dp c l ns 0))):=by
 rw [Akm,← rem_00]
 exact Pi M SC S hck
theorem V9 (M:Mem w0 G L w) {c:RulesD} {kca:Option Addr} {kcc:Nat} (SC:Au C6 9 G (.slice kca c.kinds.length kcc) c.kinds) {a1:Option Addr} {c1:Nat} {l:List EntD} (S:Au Ca 6 G (.slice a1 l.length c1) l)  {an:Option Addr} {cn:Nat} {ns:List NotD} (SN:Au Gi 5 G (.slice an ns.length cn) ns) (hNX:∀ x∈ns,x.items.length≤900000):Calls Tryz.prog 25 #[.agg #[.slice kca c.kinds.length kcc,.int .i64 c.cap],.agg #[.slice a1 l.length c1],.slice an ns.length cn] w (Iz w0 G (fun G' L' v=>∃ (a:Option Addr) (cs:List Value) (Ls:List Res),v=.tuple #[.agg #[.slice a (Jf c l ns).1.length (Jf c l ns).1.length],.int .i64 (((Jf c l ns).2.1:Nat):Int),.int .i64 (Jf c l ns).2.2]∧L' = (Cy a (Jf c l ns).1.length cs::(Ls++L))∧Els (Oc Ls) 6 G' cs (Jf c l ns).1)):=by
 have bS:=S.bound;have bN:=SN.bound;refine Ay (vs:=[_,_,_]) Tryz.func25 rfl (n:=53) rfl rfl<|Ac<|Cz M rfl rfl rfl<|?_;clear M;intro b1 w M
 refine Cz M rfl rfl rfl<|?_;clear M;intro b2 w M
 refine C9 M Ba rfl rfl<|?_;clear M;intro b3 w M
 refine Ab rfl<|Ab rfl<|Ag<|Ac<|Ar (fun a F=>Af Co rfl (F.ev rfl) (cs:=[.slice kca c.kinds.length kcc,.int .i64 c.cap]) rfl (M.cellsL (k:=2) rfl rfl)) rfl<|Ar (fun a F=>Af Ba rfl (F.ev rfl) (cs:=[.slice a1 l.length c1]) rfl (M.cellsL (k:=1) rfl rfl)) rfl<|Bs Amu rfl rfl (Mr (c:=c) (l:=l) M SC S)<|?_;clear M;rintro _ w M rfl
 refine Ab rfl<|Ac<|Aa rfl<|Fh rfl rfl<|Ap rfl ?_ ?_
 ·intro h5b;have h5:=dF (Ah h5b);refine Ac<|Ar (fun a F=>A3 (cs:=[.slice none 0 0]) (ps:=[]) Ba.k rfl Ba (F.evp rfl) rfl) rfl<|Aa rfl<|fun a F=>?_
  refine Cj F M Ba 0 ?_;clear F M a;intro w a M F;change Mem w0 G (.blk b3 [.slice none 0 0] 54::_::_::L) _ at M;revert a;refine Ab rfl<|Ab rfl<|Ae<|C5<|fun a F=>Sb F M (k:=0) rfl rfl Ba rfl rfl rfl rfl rfl ?_
  rw [Agz (by omega)]
  exact ⟨_,_,(Gle.refl _),(M.weaken (cN (.cons _ (cN (sR _))))).nilrow 69 6,none,[],[],rfl,rfl,Els.nil⟩
 intro h6b;have h6:=dT (Ai h6b);refine Aq<|Ag<|Ag<|?_
 have hck:Bv c l=0:=by omega
 refine Az<|Aa rfl<|B8 H2.k rfl<|Da rfl rfl<|Ap rfl ?_ ?_
 ·intro h7b;have h7:=dT h7b;refine Ac<|Ar (fun a F=>A3 (cs:=[.slice none 0 0]) (ps:=[]) Ba.k rfl Ba (F.evp rfl) rfl) rfl<|fun a F=>?_
  refine Cj F M Ba 0 ?_;clear F M a;intro w a M F;change Mem w0 G (.blk b3 [.slice none 0 0] 54::_::_::L) _ at M;revert a;refine Ab rfl<|Ab rfl<|Ae<|C5<|fun a F=>Sb F M (k:=0) rfl rfl Ba rfl rfl rfl rfl rfl ?_
  rw [(Nm (by omega)).trans (all_3 (by omega))]
  exact ⟨_,_,(Gle.refl _),(M.weaken (cN (.cons _ (cN (sR _))))).nilrow 69 6,none,[],[],rfl,rfl,Els.nil⟩
 intro h8b;have h8:=dF h8b;refine Aq<|Ac<|Ar (fun a F=>Af Co rfl (F.ev rfl) (cs:=[.slice kca c.kinds.length kcc,.int .i64 c.cap]) rfl (M.cellsL (k:=2) rfl rfl)) rfl<|Ar (fun a F=>Af Ba rfl (F.ev rfl) (cs:=[.slice a1 l.length c1]) rfl (M.cellsL (k:=1) rfl rfl)) rfl<|fun a F=>?_
 refine Dy F ent69 rfl rfl (Aag (ns:=ns) M SC S hck) ?_;clear F M a;rintro _ Gq9 _ w a hGq9 M ⟨aoq9,csq9,Loq9,rfl,rfl,Eoq9⟩ F;replace SC:=SC.mono A1 hGq9;replace S:=S.mono Am hGq9;replace SN:=SN.mono Bp hGq9;have M:=M.perm (Cp (Cy aoq9 (Dp c l ns 0).1.length csq9::Loq9) [.blk b3 [.slice none 0 0] 54,.blk b2 [.slice a1 l.length c1] 54,.blk b1 [.slice kca c.kinds.length kcc,.int .i64 c.cap] 51] L);change Mem w0 Gq9 (.blk b3 [.slice none 0 0] 54::.blk b2 [.slice a1 l.length c1] 54::.blk b1 [.slice kca c.kinds.length kcc,.int .i64 c.cap] 51::((Cy aoq9 (Dp c l ns 0).1.length csq9::Loq9)++L)) _ at M;revert a;refine Aa rfl<|Df rfl rfl<|Df rfl rfl<|fun a F=>?_
 refine Cj F M Ba 0 ?_;clear F M a;intro w a M F;change Mem w0 Gq9 (.blk b3 [.slice aoq9 ((Dp c l ns 0).1.length) ((Dp c l ns 0).1.length)] 54::_::_::((Cy aoq9 (Dp c l ns 0).1.length csq9::Loq9)++L)) _ at M;revert a;refine Ab rfl<|Ag<|Ac<|Aa rfl<|B8 H2.k rfl<|Aa rfl<|Ax<|fun a F=>Bz (fun m a' w'=>∃ (i:Nat),∃ (ao:Option Addr),∃ (cso:List Value),∃ (Lo:List Res),∃ (z:Int),m=ns.length - i∧∃ G10,Gle Gq9 G10∧Fits 53 a' [(2,.slice an ns.length cn),(3,.pointer (some ⟨b1,0,none⟩)),(4,.pointer (some ⟨b2,0,none⟩)),(6,.pointer (some ⟨b3,0,none⟩)),(29,.slice an ns.length cn),(30,.int .i64 ((ns.length:Nat):Int)),(31,.int .i64 ((i:Nat):Int)),(8,.int .i64 z)]∧Mem w0 G10 (.blk b3 [.slice ao ((Dp c l ns i).1.length) ((Dp c l ns i).1.length)] 54::.blk b2 [.slice a1 l.length c1] 54::.blk b1 [.slice kca c.kinds.length kcc,.int .i64 c.cap] 51::((Cy ao (Dp c l ns i).1.length cso::Lo)++L)) w'∧(i≤ns.length)∧((Dp c l ns i).2=0)∧(Els (Oc Lo) 6 G10 cso (Dp c l ns i).1)∧(z=0)) _ ⟨0,aoq9,csq9,Loq9,_,rfl,Gq9,Gle.refl _,F.to ⟨rfl,rfl,rfl,rfl,rfl,rfl,rfl,rfl,trivial⟩,M,Nat.zero_le _,rfl,Eoq9,rfl⟩ ?_
 clear F M;rintro m a w ⟨i,ao,cso,Lo,z,rfl,G10,hG10,F,M,hi,hR,Eo,hz⟩;replace SC:=SC.mono A1 hG10;replace S:=S.mono Am hG10;replace SN:=SN.mono Bp hG10;revert a;refine Ac<|C2 rfl rfl<|Ag<|Ap rfl ?_ ?_
 ·intro h11b;have h11:=dT h11b;refine Aq<|Ag<|Ax<|Ac<|Aa rfl<|?_
  obtain ⟨Xe12,hXe12⟩:=A2 (xs:=ns) (i:=i) (by omega);obtain ⟨be12,oe12,_,Ie12,_,Ae12,hTe12⟩:=SN.at hXe12;obtain ⟨nae12,nce12,rfl,h1e12,h2e12,h3e12,h4e12,h5e12,SIe12⟩:=hTe12;have hNe12:Xe12.kind < 256∧Bb .i64 Xe12.at_∧Bb .i64 Xe12.count∧Bb .i64 Xe12.to∧Xe12.items.length≤9223372036854775807:=⟨h1e12,h2e12,h3e12,h4e12,h5e12⟩;refine D0 H2.k Bm Ie12 rfl rfl<|Ar (fun a F=>Af Bm rfl (F.ev rfl) (cs:=[.int .u8 ((Xe12.kind:Nat):Int),.int .i64 Xe12.at_,.int .i64 Xe12.count,.int .i64 Xe12.to,.slice nae12 Xe12.items.length nce12]) rfl (M.cellsA Ae12 0 (by omega) rfl)) rfl<|C9 M Bm rfl rfl<|?_;clear M;intro b13 w M
  refine Ab rfl<|fun a F=>?_
  refine Cj F M Bm 0 ?_;clear F M a;intro w a M F;change Mem w0 G10 (.blk b13 [.int .u8 ((Xe12.kind:Nat):Int),.int .i64 Xe12.at_,.int .i64 Xe12.count,.int .i64 Xe12.to,.slice nae12 Xe12.items.length nce12] 65::_::_::_::((Cy ao (Dp c l ns i).1.length cso::Lo)++L)) _ at M;revert a;refine Ag<|?_
  obtain ⟨Gg,hGg,M,Sg⟩:=K5 (M.perm (Cp [.blk b13 [.int .u8 ((Xe12.kind:Nat):Int),.int .i64 Xe12.at_,.int .i64 Xe12.count,.int .i64 Xe12.to,.slice nae12 Xe12.items.length nce12] 65,.blk b3 [.slice ao ((Dp c l ns i).1.length) ((Dp c l ns i).1.length)] 54,.blk b2 [.slice a1 l.length c1] 54,.blk b1 [.slice kca c.kinds.length kcc,.int .i64 c.cap] 51] (Cy ao (Dp c l ns i).1.length cso::Lo) L)) Eo;replace SC:=SC.mono A1 hGg;replace S:=S.mono Am hGg;replace SN:=SN.mono Bp hGg;replace Ae12:=Ae12.mono hGg;replace SIe12:=SIe12.mono Aw hGg;change Mem w0 Gg (.blk b13 [.int .u8 ((Xe12.kind:Nat):Int),.int .i64 Xe12.at_,.int .i64 Xe12.count,.int .i64 Xe12.to,.slice nae12 Xe12.items.length nce12] 65::.blk b3 [.slice ao ((Dp c l ns i).1.length) ((Dp c l ns i).1.length)] 54::.blk b2 [.slice a1 l.length c1] 54::.blk b1 [.slice kca c.kinds.length kcc,.int .i64 c.cap] 51::L) _ at M;refine Az<|Ar (fun a F=>Af Co rfl (F.ev rfl) (cs:=[.slice kca c.kinds.length kcc,.int .i64 c.cap]) rfl (M.cellsL (k:=3) rfl rfl)) rfl<|Ar (fun a F=>Af Ba rfl (F.ev rfl) (cs:=[.slice ao ((Dp c l ns i).1.length) ((Dp c l ns i).1.length)]) rfl (M.cellsL (k:=1) rfl rfl)) rfl<|Ar (fun a F=>Af Bm rfl (F.ev rfl) (cs:=[.int .u8 ((Xe12.kind:Nat):Int),.int .i64 Xe12.at_,.int .i64 Xe12.count,.int .i64 Xe12.to,.slice nae12 Xe12.items.length nce12]) rfl (M.cellsL (k:=0) rfl rfl)) rfl<|fun a F=>?_
  refine Dy F ent28 rfl rfl (Adm (ns:=ns) M SC Sg hck hR hNe12 SIe12 hXe12 hNX) ?_;clear F M a;rintro _ Gq15 _ w a hGq15 M ⟨aoq15,csq15,Loq15,rfl,rfl,Eoq15⟩ F;replace SC:=SC.mono A1 hGq15;replace S:=S.mono Am hGq15;replace SN:=SN.mono Bp hGq15;replace Ae12:=Ae12.mono hGq15;replace SIe12:=SIe12.mono Aw hGq15;replace Sg:=Sg.mono Am hGq15;have M:=M.perm (Cp (Cy aoq15 ((Dp c l ns (i+1))).1.length csq15::Loq15) [.blk b13 [.int .u8 ((Xe12.kind:Nat):Int),.int .i64 Xe12.at_,.int .i64 Xe12.count,.int .i64 Xe12.to,.slice nae12 Xe12.items.length nce12] 65,.blk b3 [.slice ao ((Dp c l ns i).1.length) ((Dp c l ns i).1.length)] 54,.blk b2 [.slice a1 l.length c1] 54,.blk b1 [.slice kca c.kinds.length kcc,.int .i64 c.cap] 51] L);change Mem w0 Gq15 (.blk b13 [.int .u8 ((Xe12.kind:Nat):Int),.int .i64 Xe12.at_,.int .i64 Xe12.count,.int .i64 Xe12.to,.slice nae12 Xe12.items.length nce12] 65::.blk b3 [.slice ao ((Dp c l ns i).1.length) ((Dp c l ns i).1.length)] 54::.blk b2 [.slice a1 l.length c1] 54::.blk b1 [.slice kca c.kinds.length kcc,.int .i64 c.cap] 51::((Cy aoq15 ((Dp c l ns (i+1))).1.length csq15::Loq15)++L)) _ at M;revert a;refine Aa rfl<|Df rfl rfl<|Df rfl rfl<|fun a F=>?_
  refine Cj F M Ba 1 ?_;clear F M a;intro w a M F;change Mem w0 Gq15 (.blk b13 [.int .u8 ((Xe12.kind:Nat):Int),.int .i64 Xe12.at_,.int .i64 Xe12.count,.int .i64 Xe12.to,.slice nae12 Xe12.items.length nce12] 65::.blk b3 [.slice aoq15 (((Dp c l ns (i+1))).1.length) (((Dp c l ns (i+1))).1.length)] 54::_::_::((Cy aoq15 ((Dp c l ns (i+1))).1.length csq15::Loq15)++L)) _ at M;revert a;refine Ab rfl<|Ac<|Aa rfl<|Fh rfl rfl<|Ap rfl ?_ ?_
  ·intro h16b;have h16:=dF (Ah h16b);refine Ac<|Ar (fun a F=>A3 (cs:=[.slice none 0 0]) (ps:=[]) Ba.k rfl Ba (F.evp rfl) rfl) rfl<|Aa rfl<|Aa rfl<|fun a F=>?_
   refine Cj F M Ba 1 ?_;clear F M a;intro w a M F;change Mem w0 Gq15 (.blk b13 [.int .u8 ((Xe12.kind:Nat):Int),.int .i64 Xe12.at_,.int .i64 Xe12.count,.int .i64 Xe12.to,.slice nae12 Xe12.items.length nce12] 65::.blk b3 [.slice none 0 0] 54::_::_::((Cy aoq15 ((Dp c l ns (i+1))).1.length csq15::Loq15)++L)) _ at M;revert a;refine Ab rfl<|Ab rfl<|Ae<|Fy<|C5<|C5<|Fy<|C5<|fun a F=>Sb F M (k:=1) rfl rfl Ba rfl rfl rfl rfl rfl ?_
   rw [(Nm hck).trans (Apq (by omega) hR (by omega) (by omega))]
   exact ⟨_,_,(((hGq9.trans hG10).trans hGg).trans hGq15),(M.weaken (cN (.cons _ (cN (.cons _ (List.sublist_append_right _ _)))))).nilrow 69 6,none,[],[],rfl,rfl,Els.nil⟩
  intro h17b;have h17:=dT (Ai h17b);refine Aq<|Az<|Bx rfl rfl<|Aa rfl<|Bc<|Cm<|fun a F=>?_
  exact ⟨_,by omega,i+1,aoq15,csq15,Loq15,_,rfl,Gq15,((hG10.trans hGg).trans hGq15),F.to ⟨rfl,rfl,rfl,rfl,rfl,rfl,rfl,rfl,trivial⟩,(M.weaken (cN (cC (.cons_cons _ (cC (sR _)))))),by omega,by omega,Eoq15,by omega⟩
 intro h18b;have h18:=dF h18b;refine B5<|Bw<|Bw<|Dj<|Ac<|Ar (fun a F=>Af Ba rfl (F.ev rfl) (cs:=[.slice ao ((Dp c l ns i).1.length) ((Dp c l ns i).1.length)]) rfl (M.cellsL (k:=0) rfl rfl)) rfl<|Aa rfl<|B8 H2.k rfl<|Aa rfl<|fun a F=>?_
 refine Cj F M Ba 0 ?_;clear F M a;intro w a M F;change Mem w0 G10 (.blk b3 [.slice ao ((Dp c l ns i).1.length) ((Dp c l ns i).1.length)] 54::_::_::((Cy ao (Dp c l ns i).1.length cso::Lo)++L)) _ at M;revert a;refine Ab rfl<|Ab rfl<|Ae<|fun a F=>Sb F M (k:=0) rfl rfl Ba rfl rfl rfl rfl rfl ?_
 subst hz;rw [Nm hck,Apr (by omega) hR (by omega)]
 exact ⟨_,_,(hGq9.trans hG10),M.weaken dS3,ao,cso,Lo,rfl,rfl,Eo⟩
deriving instance DecidableEq for EntD
deriving instance DecidableEq for NotD
end Go.Proofs.YtmmhmcplegpenaaGreatDoor
