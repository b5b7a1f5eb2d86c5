/- The walks, part LK. · The walks, part LM. · The walks, part LN. · The walks, part LO. · The walks, part LP. -/
import Derived.Test.YtmmhmcplegpenaaGreatDoorJ10
namespace Go.Proofs.YtmmhmcplegpenaaGreatDoor
open Go Go.Y Go.Proofs
variable {w0 w:World} {G:A4} {L:List Res}
set_option linter.unusedSimpArgs false
set_option linter.unusedVariables false
theorem F8 (M:Mem w0 G L w):Calls Tryz.prog 75 #[] w (Cl w0 G L fun v=>v=.agg H6.toArray):=by
 refine Az (vs:=[]) Tryz.func75 rfl (n:=7) rfl rfl<|Ab<|Ac<|Cz M Gj rfl rfl<|?_;clear M;intro b1 w M
 refine Aa<|Ad<|Ab<|Ac<|Ap (fun a F=>Ba (cs:=[.string (str ([105,110,115,101,114,116]:List UInt8)),.bool true,.bool false,.bool false,.bool true,.func (.func 122) #[] #[]]) (ps:=[(0,.string (str ([105,110,115,101,114,116]:List UInt8))),(1,.bool true),(2,.bool false),(3,.bool false),(4,.bool true),(5,.func (.func 122) #[] #[])]) Cc.k rfl Cc (F.evp rfl) rfl) rfl<|Ap (fun a F=>Ba (cs:=[.string (str ([114,101,109,111,118,101]:List UInt8)),.bool true,.bool true,.bool false,.bool false,.func (.func 124) #[] #[]]) (ps:=[(0,.string (str ([114,101,109,111,118,101]:List UInt8))),(1,.bool true),(2,.bool true),(3,.bool false),(4,.bool false),(5,.func (.func 124) #[] #[])]) Cc.k rfl Cc (F.evp rfl) rfl) rfl<|Ap (fun a F=>Ba (cs:=[.string (str ([109,111,118,101]:List UInt8)),.bool true,.bool true,.bool true,.bool false,.func (.func 125) #[] #[]]) (ps:=[(0,.string (str ([109,111,118,101]:List UInt8))),(1,.bool true),(2,.bool true),(3,.bool true),(4,.bool false),(5,.func (.func 125) #[] #[])]) Cc.k rfl Cc (F.evp rfl) rfl) rfl<|Ap (fun a F=>Ba (cs:=[.string (str ([99,104,97,110,103,101]:List UInt8)),.bool true,.bool false,.bool false,.bool true,.func (.func 127) #[] #[]]) (ps:=[(0,.string (str ([99,104,97,110,103,101]:List UInt8))),(1,.bool true),(2,.bool false),(3,.bool false),(4,.bool true),(5,.func (.func 127) #[] #[])]) Cc.k rfl Cc (F.evp rfl) rfl) rfl<|Ap (fun a F=>Ba (cs:=[.string (str ([114,101,115,101,116]:List UInt8)),.bool false,.bool false,.bool false,.bool true,.func (.func 129) #[] #[]]) (ps:=[(0,.string (str ([114,101,115,101,116]:List UInt8))),(1,.bool false),(2,.bool false),(3,.bool false),(4,.bool true),(5,.func (.func 129) #[] #[])]) Cc.k rfl Cc (F.evp rfl) rfl) rfl<|Ap (fun a F=>F7 F (ps:=[(1,.agg #[.string (str ([105,110,115,101,114,116]:List UInt8)),.bool true,.bool false,.bool false,.bool true,.func (.func 122) #[] #[]]),(2,.agg #[.string (str ([114,101,109,111,118,101]:List UInt8)),.bool true,.bool true,.bool false,.bool false,.func (.func 124) #[] #[]]),(3,.agg #[.string (str ([109,111,118,101]:List UInt8)),.bool true,.bool true,.bool true,.bool false,.func (.func 125) #[] #[]]),(4,.agg #[.string (str ([99,104,97,110,103,101]:List UInt8)),.bool true,.bool false,.bool false,.bool true,.func (.func 127) #[] #[]]),(5,.agg #[.string (str ([114,101,115,101,116]:List UInt8)),.bool false,.bool false,.bool false,.bool true,.func (.func 129) #[] #[]])]) (cs:=[.string (str ([]:List UInt8)),.bool false,.bool false,.bool false,.bool false,.nilFunc,.string (str ([105,110,115,101,114,116]:List UInt8)),.bool true,.bool false,.bool false,.bool true,.func (.func 122) #[] #[],.string (str ([114,101,109,111,118,101]:List UInt8)),.bool true,.bool true,.bool false,.bool false,.func (.func 124) #[] #[],.string (str ([109,111,118,101]:List UInt8)),.bool true,.bool true,.bool true,.bool false,.func (.func 125) #[] #[],.string (str ([99,104,97,110,103,101]:List UInt8)),.bool true,.bool false,.bool false,.bool true,.func (.func 127) #[] #[],.string (str ([114,101,115,101,116]:List UInt8)),.bool false,.bool false,.bool false,.bool true,.func (.func 129) #[] #[]]) Gj.k Gj Cc rfl rfl) rfl<|fun a F=>?_
 refine Ar F M Gj (k:=0) rfl rfl rfl (us:=[.string (str ([]:List UInt8)),.bool false,.bool false,.bool false,.bool false,.nilFunc,.string (str ([105,110,115,101,114,116]:List UInt8)),.bool true,.bool false,.bool false,.bool true,.func (.func 122) #[] #[],.string (str ([114,101,109,111,118,101]:List UInt8)),.bool true,.bool true,.bool false,.bool false,.func (.func 124) #[] #[],.string (str ([109,111,118,101]:List UInt8)),.bool true,.bool true,.bool true,.bool false,.func (.func 125) #[] #[],.string (str ([99,104,97,110,103,101]:List UInt8)),.bool true,.bool false,.bool false,.bool true,.func (.func 127) #[] #[],.string (str ([114,101,115,101,116]:List UInt8)),.bool false,.bool false,.bool false,.bool true,.func (.func 129) #[] #[]]) rfl rfl (by simp [Value.oneCell']) (by simp) ?_;clear F M a;intro w a M F
 change Mem w0 G (.blk b1 [.string (str ([]:List UInt8)),.bool false,.bool false,.bool false,.bool false,.nilFunc,.string (str ([105,110,115,101,114,116]:List UInt8)),.bool true,.bool false,.bool false,.bool true,.func (.func 122) #[] #[],.string (str ([114,101,109,111,118,101]:List UInt8)),.bool true,.bool true,.bool false,.bool false,.func (.func 124) #[] #[],.string (str ([109,111,118,101]:List UInt8)),.bool true,.bool true,.bool true,.bool false,.func (.func 125) #[] #[],.string (str ([99,104,97,110,103,101]:List UInt8)),.bool true,.bool false,.bool false,.bool true,.func (.func 127) #[] #[],.string (str ([114,101,115,101,116]:List UInt8)),.bool false,.bool false,.bool false,.bool true,.func (.func 129) #[] #[]] 139::L) _ at M
 revert a
 refine Aa<|Ad<|Aj<|fun a F=>Md F M (k:=0) rfl rfl Gj rfl rfl rfl ?_
 exact ⟨M.weaken (.cons _ (sR _)),rfl⟩
theorem Hj (M:Mem w0 G L w) {x:NotD} {na:Option Addr} {nc:Nat} (hN:x.kind < 256∧A2 .i64 x.at_∧A2 .i64 x.count∧A2 .i64 x.to∧x.items.length≤9223372036854775807) (SI:Ay Cn 4 G (.slice na x.items.length nc) x.items):Calls Tryz.prog 37 #[.agg #[.int .u8 ((x.kind:Nat):Int),.int .i64 x.at_,.int .i64 x.count,.int .i64 x.to,.slice na x.items.length nc]] w (Cl w0 G L fun v=>v=.int .i64 (E2 x)):=by
 refine Az (vs:=[_]) Tryz.func37 rfl (n:=55) rfl rfl<|Ab<|Ac<|C4 M rfl rfl rfl<|?_;clear M;intro b1 w M
 refine Af rfl<|Aa<|Ad<|Ab<|Ab<|Ac<|Bc Bf.k rfl rfl<|Bl Ew M 0 rfl rfl rfl rfl<|Df rfl rfl<|Ae rfl<|?_
 rcases bE (decide (((x.kind:Nat):Int) < 1)) with h2b | h3b
 ·skip
  have h2:=dT h2b
  refine g_f rfl h2b<|g_f rfl h2b<|g_f rfl h2b<|Bi rfl h2b rfl<|Aa<|Ad<|Bk rfl rfl<|Ab<|Ac<|Af rfl<|Aa<|Ad<|Aj<|Aw<|Al rfl rfl<|?_
  exact ⟨M.weaken (.cons _ (sR _)),by rw [Ajw (by omega)]⟩
 ·skip
  have h3:=dF h3b
  refine g_t rfl h3b<|Bc Bf.k rfl rfl<|g_t rfl h3b<|Bl Ew M 0 rfl rfl rfl rfl<|g_t rfl h3b<|Dn rfl rfl<|Bh rfl h3b rfl<|Aa<|Ad<|Av rfl ?_ ?_
  ·intro h4b
   have h4:=dT h4b
   refine Ab<|Ac<|Af rfl<|Aa<|Ad<|Aj<|Aw<|Al rfl rfl<|?_
   exact ⟨M.weaken (.cons _ (sR _)),by rw [Ajw (by omega)]⟩
  ·intro h5b
   have h5:=dF h5b
   refine Au<|Ad<|Ab<|fun a F=>Qd (fun a' w'=>∃ (b3k:Nat),Fits 55 a' [(1,.pointer (some ⟨b1,0,none⟩)),(3,.pointer (some ⟨b3k,0,none⟩))]∧Mem w0 G (.blk b3k [.string (str (Bz x.kind)),.bool (decide (uAt x.kind)),.bool (decide (uCo x.kind)),.bool (decide (uTo x.kind)),.bool (decide (uIt x.kind)),.func (.func (Ds x.kind)) #[] #[]] 138::.blk b1 [.int .u8 ((x.kind:Nat):Int),.int .i64 x.at_,.int .i64 x.count,.int .i64 x.to,.slice na x.items.length nc] 65::L) w') ?_ ?_
   ·skip
    refine Aak (.run 1 (.run 2 (.act 0 (.run 3 (.act 4 (.act 5 .fin .no) .no)) (.act 4 (.act 0 (.run 3 (.act 5 .fin .no)) .no) .no)))) (Keep G [.blk b1 [.int .u8 ((x.kind:Nat):Int),.int .i64 x.at_,.int .i64 x.count,.int .i64 x.to,.slice na x.items.length nc] 65]) rfl (by kernel_rfl) (fun c a d v w h=>by cases d <;> exact h) ((M.drew _).keep (Gle.refl _) (by simp)) ?_
    replace M:=M.drew (w.drawn+1)
    revert a
    refine t_r (fun a F w M=>Co Bf.k rfl F rfl) rfl<|t_r (fun a F w M=>Aq (agf Ew rfl) (F.ev rfl) (M.cellL (k:=0) rfl rfl)) rfl<|fun a F=>Cu ?_ rfl ?_
    ·skip
     revert a
     refine Br O6 rfl rfl (F8 M)<|?_;clear M;rintro _ w M rfl
     refine Aa<|eK (C':=Keep G [.blk b1 [.int .u8 ((x.kind:Nat):Int),.int .i64 x.at_,.int .i64 x.count,.int .i64 x.to,.slice na x.items.length nc] 65]) (M.keep (Gle.refl _) (by simp)) (fun w h=>h.mono (Gle.refl _) (by simp))<|t_r (fun a F w M=>F6 (j:=x.kind) Gj.k Cc rfl (F.ev rfl) (F.ev rfl) rfl (by omega) (us:=[.string (str (Bz x.kind)),.bool (decide (uAt x.kind)),.bool (decide (uCo x.kind)),.bool (decide (uTo x.kind)),.bool (decide (uIt x.kind)),.func (.func (Ds x.kind)) #[] #[]]) (Iw (by omega))) rfl<|fun a F=>Cu ?_ rfl D7
     revert a
     refine Cz M Cc rfl rfl<|?_;clear M;intro b6 w M
     refine Aa<|eK (C':=Keep G [.blk b1 [.int .u8 ((x.kind:Nat):Int),.int .i64 x.at_,.int .i64 x.count,.int .i64 x.to,.slice na x.items.length nc] 65]) (M.keep (Gle.refl _) (by simp)) (fun w h=>h.mono (Gle.refl _) (by simp))<|fun a F=>Cu ?_ rfl D7
     refine Ar F M Cc (k:=0) rfl rfl rfl (us:=[.string (str (Bz x.kind)),.bool (decide (uAt x.kind)),.bool (decide (uCo x.kind)),.bool (decide (uTo x.kind)),.bool (decide (uIt x.kind)),.func (.func (Ds x.kind)) #[] #[]]) rfl rfl (by simp [Value.oneCell']) (by simp) ?_;clear F M a;intro w a M F
     change Mem w0 G (.blk b6 [.string (str (Bz x.kind)),.bool (decide (uAt x.kind)),.bool (decide (uCo x.kind)),.bool (decide (uTo x.kind)),.bool (decide (uIt x.kind)),.func (.func (Ds x.kind)) #[] #[]] 138::_::L) _ at M
     revert a
     refine Aa<|eK (C':=Keep G [.blk b1 [.int .u8 ((x.kind:Nat):Int),.int .i64 x.at_,.int .i64 x.count,.int .i64 x.to,.slice na x.items.length nc] 65]) (M.keep (Gle.refl _) (by simp)) (fun w h=>h.mono (Gle.refl _) (by simp))<|Lf<|fun a F=>?_
     exact ⟨b6,F.to ⟨rfl,rfl,trivial⟩,M⟩
    refine Cu ?_ rfl ?_
    ·skip
     revert a
     refine Cz M Cc rfl rfl<|?_;clear M;intro b8 w M
     refine Aa<|eK (C':=Keep G [.blk b1 [.int .u8 ((x.kind:Nat):Int),.int .i64 x.at_,.int .i64 x.count,.int .i64 x.to,.slice na x.items.length nc] 65]) (M.keep (Gle.refl _) (by simp)) (fun w h=>h.mono (Gle.refl _) (by simp))<|fun a F=>Cu ?_ rfl D7
     revert a
     refine Br O6 rfl rfl (F8 M)<|?_;clear M;rintro _ w M rfl
     refine Aa<|eK (C':=Keep G [.blk b1 [.int .u8 ((x.kind:Nat):Int),.int .i64 x.at_,.int .i64 x.count,.int .i64 x.to,.slice na x.items.length nc] 65]) (M.keep (Gle.refl _) (by simp)) (fun w h=>h.mono (Gle.refl _) (by simp))<|t_r (fun a F w M=>F6 (j:=x.kind) Gj.k Cc rfl (F.ev rfl) (F.ev rfl) rfl (by omega) (us:=[.string (str (Bz x.kind)),.bool (decide (uAt x.kind)),.bool (decide (uCo x.kind)),.bool (decide (uTo x.kind)),.bool (decide (uIt x.kind)),.func (.func (Ds x.kind)) #[] #[]]) (Iw (by omega))) rfl<|fun a F=>Cu ?_ rfl D7
     refine Ar F M Cc (k:=0) rfl rfl rfl (us:=[.string (str (Bz x.kind)),.bool (decide (uAt x.kind)),.bool (decide (uCo x.kind)),.bool (decide (uTo x.kind)),.bool (decide (uIt x.kind)),.func (.func (Ds x.kind)) #[] #[]]) rfl rfl (by simp [Value.oneCell']) (by simp) ?_;clear F M a;intro w a M F
     change Mem w0 G (.blk b8 [.string (str (Bz x.kind)),.bool (decide (uAt x.kind)),.bool (decide (uCo x.kind)),.bool (decide (uTo x.kind)),.bool (decide (uIt x.kind)),.func (.func (Ds x.kind)) #[] #[]] 138::_::L) _ at M
     revert a
     refine Aa<|eK (C':=Keep G [.blk b1 [.int .u8 ((x.kind:Nat):Int),.int .i64 x.at_,.int .i64 x.count,.int .i64 x.to,.slice na x.items.length nc] 65]) (M.keep (Gle.refl _) (by simp)) (fun w h=>h.mono (Gle.refl _) (by simp))<|Lf<|fun a F=>?_
     exact ⟨b8,F.to ⟨rfl,rfl,trivial⟩,M⟩
    exact D7
   ·clear F M
    rintro a w ⟨b3k,F,M⟩
    revert a
    refine Ad<|Ab<|Ab<|fun a F=>Qd (fun a' w'=>∃ (bb:Bool),Fits 55 a' [(1,.pointer (some ⟨b1,0,none⟩)),(54,.bool bb)]∧Mem w0 G (.blk b3k [.string (str (Bz x.kind)),.bool (decide (uAt x.kind)),.bool (decide (uCo x.kind)),.bool (decide (uTo x.kind)),.bool (decide (uIt x.kind)),.func (.func (Ds x.kind)) #[] #[]] 138::.blk b1 [.int .u8 ((x.kind:Nat):Int),.int .i64 x.at_,.int .i64 x.count,.int .i64 x.to,.slice na x.items.length nc] 65::L) w'∧(bb=true↔¬ Fg x)) ?_ ?_
    ·skip
     revert a
     refine Ac<|Bc Cc.k rfl rfl<|Bl I6 M 0 rfl rfl rfl rfl<|C9 rfl<|Ae rfl<|?_
     rcases bE (!(decide (uAt x.kind))) with h10b | h33b
     ·skip
      have h10:=dF (Ag h10b)
      have h10c:(decide (uAt x.kind))=false:=(Ag h10b)
      refine g_t rfl (Ak h10c)<|Bc Bf.k rfl rfl<|g_t rfl (Ak h10c)<|Bl B7 M 1 rfl rfl rfl rfl<|g_t rfl (Ak h10c)<|D9 rfl rfl<|Bi rfl (Ak h10c) rfl<|Ae rfl<|?_
      rcases bE (!(decide (x.at_=0))) with h11b | h12b
      ·skip
       have h11:=dF (Ag h11b)
       have h11c:(decide (x.at_=0))=false:=(Ag h11b)
       refine g_f rfl (Ak h11c)<|g_f rfl (Ak h11c)<|g_f rfl (Ak h11c)<|g_f rfl (Ak h11c)<|g_u rfl<|g_u rfl<|g_u rfl<|g_f rfl (Ak h11c)<|Bi rfl (Ak h11c) rfl<|Ae rfl<|g_f rfl rfl<|g_f rfl rfl<|g_f rfl rfl<|g_f rfl rfl<|g_u rfl<|g_u rfl<|g_u rfl<|g_f rfl rfl<|Bi rfl rfl rfl<|Ae rfl<|g_f rfl rfl<|g_f rfl rfl<|g_f rfl rfl<|g_f rfl rfl<|?_
       refine g_u rfl<|g_u rfl<|g_u rfl<|g_u rfl<|g_f rfl rfl<|Bi rfl rfl rfl<|Aa<|fun a F=>?_
       exact ⟨true,F.to ⟨rfl,rfl,trivial⟩,M,by clear F M;unfold Fg;first | (simp only [Bool.true_eq_false,true_iff,false_iff,Bool.false_eq_true,decide_eq_true_eq];grind) | grind⟩
      ·skip
       have h12:=dT (Ah h12b)
       have h12c:(decide (x.at_=0))=true:=(Ah h12b)
       refine g_t rfl (Ai h12c)<|Bc Cc.k rfl rfl<|g_t rfl (Ai h12c)<|Bl I6 M 0 rfl rfl rfl rfl<|g_t rfl (Ai h12c)<|C9 rfl<|g_t rfl (Ai h12c)<|Ae rfl<|?_
       rcases bE (!(decide (uCo x.kind))) with h13b | h24b
       ·skip
        have h13:=dF (Ag h13b)
        have h13c:(decide (uCo x.kind))=false:=(Ag h13b)
        refine g_t rfl (Ak h13c)<|Bc Bf.k rfl rfl<|g_t rfl (Ak h13c)<|Bl B7 M 1 rfl rfl rfl rfl<|g_t rfl (Ak h13c)<|D9 rfl rfl<|g_t rfl (Ai h12c)<|Bi rfl (Ak h13c) rfl<|Bh rfl (Ai h12c) rfl<|Ae rfl<|?_
        rcases bE (!(decide (x.count=0))) with h14b | h15b
        ·skip
         have h14:=dF (Ag h14b)
         have h14c:(decide (x.count=0))=false:=(Ag h14b)
         refine g_f rfl (Ak h14c)<|g_f rfl (Ak h14c)<|g_f rfl (Ak h14c)<|g_f rfl (Ak h14c)<|g_u rfl<|g_u rfl<|g_u rfl<|g_f rfl (Ak h14c)<|Bi rfl (Ak h14c) rfl<|Ae rfl<|g_f rfl rfl<|g_f rfl rfl<|g_f rfl rfl<|g_f rfl rfl<|g_u rfl<|g_u rfl<|g_u rfl<|g_u rfl<|g_f rfl rfl<|Bi rfl rfl rfl<|Aa<|fun a F=>?_
         exact ⟨true,F.to ⟨rfl,rfl,trivial⟩,M,by clear F M;unfold Fg;first | (simp only [Bool.true_eq_false,true_iff,false_iff,Bool.false_eq_true,decide_eq_true_eq];grind) | grind⟩
        ·skip
         have h15:=dT (Ah h15b)
         have h15c:(decide (x.count=0))=true:=(Ah h15b)
         refine g_t rfl (Ai h15c)<|Bc Cc.k rfl rfl<|g_t rfl (Ai h15c)<|Bl I6 M 0 rfl rfl rfl rfl<|g_t rfl (Ai h15c)<|C9 rfl<|g_t rfl (Ai h15c)<|Ae rfl<|?_
         rcases bE (!(decide (uTo x.kind))) with h16b | h21b
         ·skip
          have h16:=dF (Ag h16b)
          have h16c:(decide (uTo x.kind))=false:=(Ag h16b)
          refine g_t rfl (Ak h16c)<|Bc Bf.k rfl rfl<|g_t rfl (Ak h16c)<|Bl B7 M 1 rfl rfl rfl rfl<|g_t rfl (Ak h16c)<|D9 rfl rfl<|g_t rfl (Ai h15c)<|Bi rfl (Ak h16c) rfl<|Bh rfl (Ai h15c) rfl<|Ae rfl<|?_
          rcases bE (!(decide (x.to=0))) with h17b | h18b
          ·skip
           have h17:=dF (Ag h17b)
           have h17c:(decide (x.to=0))=false:=(Ag h17b)
           refine g_f rfl (Ak h17c)<|g_f rfl (Ak h17c)<|g_f rfl (Ak h17c)<|g_f rfl (Ak h17c)<|g_u rfl<|g_u rfl<|g_u rfl<|g_u rfl<|g_f rfl (Ak h17c)<|Bi rfl (Ak h17c) rfl<|Aa<|fun a F=>?_
           exact ⟨true,F.to ⟨rfl,rfl,trivial⟩,M,by clear F M;unfold Fg;first | (simp only [Bool.true_eq_false,true_iff,false_iff,Bool.false_eq_true,decide_eq_true_eq];grind) | grind⟩
          ·skip
           have h18:=dT (Ah h18b)
           have h18c:(decide (x.to=0))=true:=(Ah h18b)
           refine g_t rfl (Ai h18c)<|Bc Cc.k rfl rfl<|g_t rfl (Ai h18c)<|Bl I6 M 0 rfl rfl rfl rfl<|g_t rfl (Ai h18c)<|C9 rfl<|g_t rfl (Ai h18c)<|Ae rfl<|?_
           rcases bE (!(decide (uIt x.kind))) with h19b | h20b
           ·skip
            have h19:=dF (Ag h19b)
            have h19c:(decide (uIt x.kind))=false:=(Ag h19b)
            refine g_t rfl (Ak h19c)<|Bc Bf.k rfl rfl<|g_t rfl (Ak h19c)<|Bl B5 M 1 rfl rfl rfl rfl<|g_t rfl (Ak h19c)<|Cg B5.k rfl<|g_t rfl (Ak h19c)<|Dn rfl rfl<|g_t rfl (Ai h18c)<|Bi rfl (Ak h19c) rfl<|Bh rfl (Ai h18c) rfl<|Aa<|fun a F=>?_
            exact ⟨(decide (0 < ((x.items.length:Nat):Int))),F.to ⟨rfl,rfl,trivial⟩,M,by clear F M;unfold Fg;first | (simp only [Bool.true_eq_false,true_iff,false_iff,Bool.false_eq_true,decide_eq_true_eq];grind) | grind⟩
           ·skip
            have h20:=dT (Ah h20b)
            have h20c:(decide (uIt x.kind))=true:=(Ah h20b)
            refine g_f rfl (Ai h20c)<|g_f rfl (Ai h20c)<|g_f rfl (Ai h20c)<|g_f rfl (Ai h20c)<|g_t rfl (Ai h18c)<|Bh rfl (Ai h20c) rfl<|Bh rfl (Ai h18c) rfl<|Aa<|fun a F=>?_
            exact ⟨false,F.to ⟨rfl,rfl,trivial⟩,M,by clear F M;unfold Fg;first | (simp only [Bool.true_eq_false,true_iff,false_iff,Bool.false_eq_true,decide_eq_true_eq];grind) | grind⟩
         ·skip
          have h21:=dT (Ah h21b)
          have h21c:(decide (uTo x.kind))=true:=(Ah h21b)
          refine g_f rfl (Ai h21c)<|g_f rfl (Ai h21c)<|g_f rfl (Ai h21c)<|g_t rfl (Ai h15c)<|Bh rfl (Ai h21c) rfl<|Bh rfl (Ai h15c) rfl<|Ae rfl<|g_t rfl rfl<|Bc Cc.k rfl rfl<|g_t rfl rfl<|Bl I6 M 0 rfl rfl rfl rfl<|g_t rfl rfl<|C9 rfl<|g_t rfl rfl<|Ae rfl<|?_
          rcases bE (!(decide (uIt x.kind))) with h22b | h23b
          ·skip
           have h22:=dF (Ag h22b)
           have h22c:(decide (uIt x.kind))=false:=(Ag h22b)
           refine g_t rfl (Ak h22c)<|Bc Bf.k rfl rfl<|g_t rfl (Ak h22c)<|Bl B5 M 1 rfl rfl rfl rfl<|g_t rfl (Ak h22c)<|Cg B5.k rfl<|g_t rfl (Ak h22c)<|Dn rfl rfl<|g_t rfl rfl<|Bi rfl (Ak h22c) rfl<|Bh rfl rfl rfl<|Aa<|fun a F=>?_
           exact ⟨(decide (0 < ((x.items.length:Nat):Int))),F.to ⟨rfl,rfl,trivial⟩,M,by clear F M;unfold Fg;first | (simp only [Bool.true_eq_false,true_iff,false_iff,Bool.false_eq_true,decide_eq_true_eq];grind) | grind⟩
          ·skip
           have h23:=dT (Ah h23b)
           have h23c:(decide (uIt x.kind))=true:=(Ah h23b)
           refine g_f rfl (Ai h23c)<|g_f rfl (Ai h23c)<|g_f rfl (Ai h23c)<|g_f rfl (Ai h23c)<|g_t rfl rfl<|Bh rfl (Ai h23c) rfl<|Bh rfl rfl rfl<|Aa<|fun a F=>?_
           exact ⟨false,F.to ⟨rfl,rfl,trivial⟩,M,by clear F M;unfold Fg;first | (simp only [Bool.true_eq_false,true_iff,false_iff,Bool.false_eq_true,decide_eq_true_eq];grind) | grind⟩
       ·skip
        have h24:=dT (Ah h24b)
        have h24c:(decide (uCo x.kind))=true:=(Ah h24b)
        refine g_f rfl (Ai h24c)<|g_f rfl (Ai h24c)<|g_f rfl (Ai h24c)<|g_t rfl (Ai h12c)<|Bh rfl (Ai h24c) rfl<|Bh rfl (Ai h12c) rfl<|Ae rfl<|g_t rfl rfl<|Bc Cc.k rfl rfl<|g_t rfl rfl<|Bl I6 M 0 rfl rfl rfl rfl<|g_t rfl rfl<|C9 rfl<|g_t rfl rfl<|Ae rfl<|?_
        rcases bE (!(decide (uTo x.kind))) with h25b | h30b
        ·skip
         have h25:=dF (Ag h25b)
         have h25c:(decide (uTo x.kind))=false:=(Ag h25b)
         refine g_t rfl (Ak h25c)<|Bc Bf.k rfl rfl<|g_t rfl (Ak h25c)<|Bl B7 M 1 rfl rfl rfl rfl<|g_t rfl (Ak h25c)<|D9 rfl rfl<|g_t rfl rfl<|Bi rfl (Ak h25c) rfl<|Bh rfl rfl rfl<|Ae rfl<|?_
         rcases bE (!(decide (x.to=0))) with h26b | h27b
         ·skip
          have h26:=dF (Ag h26b)
          have h26c:(decide (x.to=0))=false:=(Ag h26b)
          refine g_f rfl (Ak h26c)<|g_f rfl (Ak h26c)<|g_f rfl (Ak h26c)<|g_f rfl (Ak h26c)<|g_u rfl<|g_u rfl<|g_u rfl<|g_u rfl<|g_f rfl (Ak h26c)<|Bi rfl (Ak h26c) rfl<|Aa<|fun a F=>?_
          exact ⟨true,F.to ⟨rfl,rfl,trivial⟩,M,by clear F M;unfold Fg;first | (simp only [Bool.true_eq_false,true_iff,false_iff,Bool.false_eq_true,decide_eq_true_eq];grind) | grind⟩
         ·skip
          have h27:=dT (Ah h27b)
          have h27c:(decide (x.to=0))=true:=(Ah h27b)
          refine g_t rfl (Ai h27c)<|Bc Cc.k rfl rfl<|g_t rfl (Ai h27c)<|Bl I6 M 0 rfl rfl rfl rfl<|g_t rfl (Ai h27c)<|C9 rfl<|g_t rfl (Ai h27c)<|Ae rfl<|?_
          rcases bE (!(decide (uIt x.kind))) with h28b | h29b
          ·skip
           have h28:=dF (Ag h28b)
           have h28c:(decide (uIt x.kind))=false:=(Ag h28b)
           refine g_t rfl (Ak h28c)<|Bc Bf.k rfl rfl<|g_t rfl (Ak h28c)<|Bl B5 M 1 rfl rfl rfl rfl<|g_t rfl (Ak h28c)<|Cg B5.k rfl<|g_t rfl (Ak h28c)<|Dn rfl rfl<|g_t rfl (Ai h27c)<|Bi rfl (Ak h28c) rfl<|Bh rfl (Ai h27c) rfl<|Aa<|fun a F=>?_
           exact ⟨(decide (0 < ((x.items.length:Nat):Int))),F.to ⟨rfl,rfl,trivial⟩,M,by clear F M;unfold Fg;first | (simp only [Bool.true_eq_false,true_iff,false_iff,Bool.false_eq_true,decide_eq_true_eq];grind) | grind⟩
          ·skip
           have h29:=dT (Ah h29b)
           have h29c:(decide (uIt x.kind))=true:=(Ah h29b)
           refine g_f rfl (Ai h29c)<|g_f rfl (Ai h29c)<|g_f rfl (Ai h29c)<|g_f rfl (Ai h29c)<|g_t rfl (Ai h27c)<|Bh rfl (Ai h29c) rfl<|Bh rfl (Ai h27c) rfl<|Aa<|fun a F=>?_
           exact ⟨false,F.to ⟨rfl,rfl,trivial⟩,M,by clear F M;unfold Fg;first | (simp only [Bool.true_eq_false,true_iff,false_iff,Bool.false_eq_true,decide_eq_true_eq];grind) | grind⟩
        ·skip
         have h30:=dT (Ah h30b)
         have h30c:(decide (uTo x.kind))=true:=(Ah h30b)
         refine g_f rfl (Ai h30c)<|g_f rfl (Ai h30c)<|g_f rfl (Ai h30c)<|g_t rfl rfl<|Bh rfl (Ai h30c) rfl<|Bh rfl rfl rfl<|Ae rfl<|g_t rfl rfl<|Bc Cc.k rfl rfl<|g_t rfl rfl<|Bl I6 M 0 rfl rfl rfl rfl<|g_t rfl rfl<|C9 rfl<|g_t rfl rfl<|Ae rfl<|?_
         rcases bE (!(decide (uIt x.kind))) with h31b | h32b
         ·skip
          have h31:=dF (Ag h31b)
          have h31c:(decide (uIt x.kind))=false:=(Ag h31b)
          refine g_t rfl (Ak h31c)<|Bc Bf.k rfl rfl<|g_t rfl (Ak h31c)<|Bl B5 M 1 rfl rfl rfl rfl<|g_t rfl (Ak h31c)<|Cg B5.k rfl<|g_t rfl (Ak h31c)<|Dn rfl rfl<|g_t rfl rfl<|Bi rfl (Ak h31c) rfl<|Bh rfl rfl rfl<|Aa<|fun a F=>?_
          exact ⟨(decide (0 < ((x.items.length:Nat):Int))),F.to ⟨rfl,rfl,trivial⟩,M,by clear F M;unfold Fg;first | (simp only [Bool.true_eq_false,true_iff,false_iff,Bool.false_eq_true,decide_eq_true_eq];grind) | grind⟩
         ·skip
          have h32:=dT (Ah h32b)
          have h32c:(decide (uIt x.kind))=true:=(Ah h32b)
          refine g_f rfl (Ai h32c)<|g_f rfl (Ai h32c)<|g_f rfl (Ai h32c)<|g_f rfl (Ai h32c)<|g_t rfl rfl<|Bh rfl (Ai h32c) rfl<|Bh rfl rfl rfl<|Aa<|fun a F=>?_
          exact ⟨false,F.to ⟨rfl,rfl,trivial⟩,M,by clear F M;unfold Fg;first | (simp only [Bool.true_eq_false,true_iff,false_iff,Bool.false_eq_true,decide_eq_true_eq];grind) | grind⟩
     ·skip
      have h33:=dT (Ah h33b)
      have h33c:(decide (uAt x.kind))=true:=(Ah h33b)
      refine g_f rfl (Ai h33c)<|g_f rfl (Ai h33c)<|g_f rfl (Ai h33c)<|Bh rfl (Ai h33c) rfl<|Ae rfl<|g_t rfl rfl<|Bc Cc.k rfl rfl<|g_t rfl rfl<|Bl I6 M 0 rfl rfl rfl rfl<|g_t rfl rfl<|C9 rfl<|g_t rfl rfl<|Ae rfl<|?_
      rcases bE (!(decide (uCo x.kind))) with h34b | h45b
      ·skip
       have h34:=dF (Ag h34b)
       have h34c:(decide (uCo x.kind))=false:=(Ag h34b)
       refine g_t rfl (Ak h34c)<|Bc Bf.k rfl rfl<|g_t rfl (Ak h34c)<|Bl B7 M 1 rfl rfl rfl rfl<|g_t rfl (Ak h34c)<|D9 rfl rfl<|g_t rfl rfl<|Bi rfl (Ak h34c) rfl<|Bh rfl rfl rfl<|Ae rfl<|?_
       rcases bE (!(decide (x.count=0))) with h35b | h36b
       ·skip
        have h35:=dF (Ag h35b)
        have h35c:(decide (x.count=0))=false:=(Ag h35b)
        refine g_f rfl (Ak h35c)<|g_f rfl (Ak h35c)<|g_f rfl (Ak h35c)<|g_f rfl (Ak h35c)<|g_u rfl<|g_u rfl<|g_u rfl<|g_f rfl (Ak h35c)<|Bi rfl (Ak h35c) rfl<|Ae rfl<|g_f rfl rfl<|g_f rfl rfl<|g_f rfl rfl<|g_f rfl rfl<|g_u rfl<|g_u rfl<|g_u rfl<|g_u rfl<|g_f rfl rfl<|Bi rfl rfl rfl<|Aa<|fun a F=>?_
        exact ⟨true,F.to ⟨rfl,rfl,trivial⟩,M,by clear F M;unfold Fg;first | (simp only [Bool.true_eq_false,true_iff,false_iff,Bool.false_eq_true,decide_eq_true_eq];grind) | grind⟩
       ·skip
        have h36:=dT (Ah h36b)
        have h36c:(decide (x.count=0))=true:=(Ah h36b)
        refine g_t rfl (Ai h36c)<|Bc Cc.k rfl rfl<|g_t rfl (Ai h36c)<|Bl I6 M 0 rfl rfl rfl rfl<|g_t rfl (Ai h36c)<|C9 rfl<|g_t rfl (Ai h36c)<|Ae rfl<|?_
        rcases bE (!(decide (uTo x.kind))) with h37b | h42b
        ·skip
         have h37:=dF (Ag h37b)
         have h37c:(decide (uTo x.kind))=false:=(Ag h37b)
         refine g_t rfl (Ak h37c)<|Bc Bf.k rfl rfl<|g_t rfl (Ak h37c)<|Bl B7 M 1 rfl rfl rfl rfl<|g_t rfl (Ak h37c)<|D9 rfl rfl<|g_t rfl (Ai h36c)<|Bi rfl (Ak h37c) rfl<|Bh rfl (Ai h36c) rfl<|Ae rfl<|?_
         rcases bE (!(decide (x.to=0))) with h38b | h39b
         ·skip
          have h38:=dF (Ag h38b)
          have h38c:(decide (x.to=0))=false:=(Ag h38b)
          refine g_f rfl (Ak h38c)<|g_f rfl (Ak h38c)<|g_f rfl (Ak h38c)<|g_f rfl (Ak h38c)<|g_u rfl<|g_u rfl<|g_u rfl<|g_u rfl<|g_f rfl (Ak h38c)<|Bi rfl (Ak h38c) rfl<|Aa<|fun a F=>?_
          exact ⟨true,F.to ⟨rfl,rfl,trivial⟩,M,by clear F M;unfold Fg;first | (simp only [Bool.true_eq_false,true_iff,false_iff,Bool.false_eq_true,decide_eq_true_eq];grind) | grind⟩
         ·skip
          have h39:=dT (Ah h39b)
          have h39c:(decide (x.to=0))=true:=(Ah h39b)
          refine g_t rfl (Ai h39c)<|Bc Cc.k rfl rfl<|g_t rfl (Ai h39c)<|Bl I6 M 0 rfl rfl rfl rfl<|g_t rfl (Ai h39c)<|C9 rfl<|g_t rfl (Ai h39c)<|Ae rfl<|?_
          rcases bE (!(decide (uIt x.kind))) with h40b | h41b
          ·skip
           have h40:=dF (Ag h40b)
           have h40c:(decide (uIt x.kind))=false:=(Ag h40b)
           refine g_t rfl (Ak h40c)<|Bc Bf.k rfl rfl<|g_t rfl (Ak h40c)<|Bl B5 M 1 rfl rfl rfl rfl<|g_t rfl (Ak h40c)<|Cg B5.k rfl<|g_t rfl (Ak h40c)<|Dn rfl rfl<|g_t rfl (Ai h39c)<|Bi rfl (Ak h40c) rfl<|Bh rfl (Ai h39c) rfl<|Aa<|fun a F=>?_
           exact ⟨(decide (0 < ((x.items.length:Nat):Int))),F.to ⟨rfl,rfl,trivial⟩,M,by clear F M;unfold Fg;first | (simp only [Bool.true_eq_false,true_iff,false_iff,Bool.false_eq_true,decide_eq_true_eq];grind) | grind⟩
          ·skip
           have h41:=dT (Ah h41b)
           have h41c:(decide (uIt x.kind))=true:=(Ah h41b)
           refine g_f rfl (Ai h41c)<|g_f rfl (Ai h41c)<|g_f rfl (Ai h41c)<|g_f rfl (Ai h41c)<|g_t rfl (Ai h39c)<|Bh rfl (Ai h41c) rfl<|Bh rfl (Ai h39c) rfl<|Aa<|fun a F=>?_
           exact ⟨false,F.to ⟨rfl,rfl,trivial⟩,M,by clear F M;unfold Fg;first | (simp only [Bool.true_eq_false,true_iff,false_iff,Bool.false_eq_true,decide_eq_true_eq];grind) | grind⟩
        ·skip
         have h42:=dT (Ah h42b)
         have h42c:(decide (uTo x.kind))=true:=(Ah h42b)
         refine g_f rfl (Ai h42c)<|g_f rfl (Ai h42c)<|g_f rfl (Ai h42c)<|g_t rfl (Ai h36c)<|Bh rfl (Ai h42c) rfl<|Bh rfl (Ai h36c) rfl<|Ae rfl<|g_t rfl rfl<|Bc Cc.k rfl rfl<|g_t rfl rfl<|Bl I6 M 0 rfl rfl rfl rfl<|g_t rfl rfl<|C9 rfl<|g_t rfl rfl<|Ae rfl<|?_
         rcases bE (!(decide (uIt x.kind))) with h43b | h44b
         ·skip
          have h43:=dF (Ag h43b)
          have h43c:(decide (uIt x.kind))=false:=(Ag h43b)
          refine g_t rfl (Ak h43c)<|Bc Bf.k rfl rfl<|g_t rfl (Ak h43c)<|Bl B5 M 1 rfl rfl rfl rfl<|g_t rfl (Ak h43c)<|Cg B5.k rfl<|g_t rfl (Ak h43c)<|Dn rfl rfl<|g_t rfl rfl<|Bi rfl (Ak h43c) rfl<|Bh rfl rfl rfl<|Aa<|fun a F=>?_
          exact ⟨(decide (0 < ((x.items.length:Nat):Int))),F.to ⟨rfl,rfl,trivial⟩,M,by clear F M;unfold Fg;first | (simp only [Bool.true_eq_false,true_iff,false_iff,Bool.false_eq_true,decide_eq_true_eq];grind) | grind⟩
         ·skip
          have h44:=dT (Ah h44b)
          have h44c:(decide (uIt x.kind))=true:=(Ah h44b)
          refine g_f rfl (Ai h44c)<|g_f rfl (Ai h44c)<|g_f rfl (Ai h44c)<|g_f rfl (Ai h44c)<|g_t rfl rfl<|Bh rfl (Ai h44c) rfl<|Bh rfl rfl rfl<|Aa<|fun a F=>?_
          exact ⟨false,F.to ⟨rfl,rfl,trivial⟩,M,by clear F M;unfold Fg;first | (simp only [Bool.true_eq_false,true_iff,false_iff,Bool.false_eq_true,decide_eq_true_eq];grind) | grind⟩
      ·skip
       have h45:=dT (Ah h45b)
       have h45c:(decide (uCo x.kind))=true:=(Ah h45b)
       refine g_f rfl (Ai h45c)<|g_f rfl (Ai h45c)<|g_f rfl (Ai h45c)<|g_t rfl rfl<|Bh rfl (Ai h45c) rfl<|Bh rfl rfl rfl<|Ae rfl<|g_t rfl rfl<|Bc Cc.k rfl rfl<|g_t rfl rfl<|Bl I6 M 0 rfl rfl rfl rfl<|g_t rfl rfl<|C9 rfl<|g_t rfl rfl<|Ae rfl<|?_
       rcases bE (!(decide (uTo x.kind))) with h46b | h51b
       ·skip
        have h46:=dF (Ag h46b)
        have h46c:(decide (uTo x.kind))=false:=(Ag h46b)
        refine g_t rfl (Ak h46c)<|Bc Bf.k rfl rfl<|g_t rfl (Ak h46c)<|Bl B7 M 1 rfl rfl rfl rfl<|g_t rfl (Ak h46c)<|D9 rfl rfl<|g_t rfl rfl<|Bi rfl (Ak h46c) rfl<|Bh rfl rfl rfl<|Ae rfl<|?_
        rcases bE (!(decide (x.to=0))) with h47b | h48b
        ·skip
         have h47:=dF (Ag h47b)
         have h47c:(decide (x.to=0))=false:=(Ag h47b)
         refine g_f rfl (Ak h47c)<|g_f rfl (Ak h47c)<|g_f rfl (Ak h47c)<|g_f rfl (Ak h47c)<|g_u rfl<|g_u rfl<|g_u rfl<|g_u rfl<|g_f rfl (Ak h47c)<|Bi rfl (Ak h47c) rfl<|Aa<|fun a F=>?_
         exact ⟨true,F.to ⟨rfl,rfl,trivial⟩,M,by clear F M;unfold Fg;first | (simp only [Bool.true_eq_false,true_iff,false_iff,Bool.false_eq_true,decide_eq_true_eq];grind) | grind⟩
        ·skip
         have h48:=dT (Ah h48b)
         have h48c:(decide (x.to=0))=true:=(Ah h48b)
         refine g_t rfl (Ai h48c)<|Bc Cc.k rfl rfl<|g_t rfl (Ai h48c)<|Bl I6 M 0 rfl rfl rfl rfl<|g_t rfl (Ai h48c)<|C9 rfl<|g_t rfl (Ai h48c)<|Ae rfl<|?_
         rcases bE (!(decide (uIt x.kind))) with h49b | h50b
         ·skip
          have h49:=dF (Ag h49b)
          have h49c:(decide (uIt x.kind))=false:=(Ag h49b)
          refine g_t rfl (Ak h49c)<|Bc Bf.k rfl rfl<|g_t rfl (Ak h49c)<|Bl B5 M 1 rfl rfl rfl rfl<|g_t rfl (Ak h49c)<|Cg B5.k rfl<|g_t rfl (Ak h49c)<|Dn rfl rfl<|g_t rfl (Ai h48c)<|Bi rfl (Ak h49c) rfl<|Bh rfl (Ai h48c) rfl<|Aa<|fun a F=>?_
          exact ⟨(decide (0 < ((x.items.length:Nat):Int))),F.to ⟨rfl,rfl,trivial⟩,M,by clear F M;unfold Fg;first | (simp only [Bool.true_eq_false,true_iff,false_iff,Bool.false_eq_true,decide_eq_true_eq];grind) | grind⟩
         ·skip
          have h50:=dT (Ah h50b)
          have h50c:(decide (uIt x.kind))=true:=(Ah h50b)
          refine g_f rfl (Ai h50c)<|g_f rfl (Ai h50c)<|g_f rfl (Ai h50c)<|g_f rfl (Ai h50c)<|g_t rfl (Ai h48c)<|Bh rfl (Ai h50c) rfl<|Bh rfl (Ai h48c) rfl<|Aa<|fun a F=>?_
          exact ⟨false,F.to ⟨rfl,rfl,trivial⟩,M,by clear F M;unfold Fg;first | (simp only [Bool.true_eq_false,true_iff,false_iff,Bool.false_eq_true,decide_eq_true_eq];grind) | grind⟩
       ·skip
        have h51:=dT (Ah h51b)
        have h51c:(decide (uTo x.kind))=true:=(Ah h51b)
        refine g_f rfl (Ai h51c)<|g_f rfl (Ai h51c)<|g_f rfl (Ai h51c)<|g_t rfl rfl<|Bh rfl (Ai h51c) rfl<|Bh rfl rfl rfl<|Ae rfl<|g_t rfl rfl<|Bc Cc.k rfl rfl<|g_t rfl rfl<|Bl I6 M 0 rfl rfl rfl rfl<|g_t rfl rfl<|C9 rfl<|g_t rfl rfl<|Ae rfl<|?_
        rcases bE (!(decide (uIt x.kind))) with h52b | h53b
        ·skip
         have h52:=dF (Ag h52b)
         have h52c:(decide (uIt x.kind))=false:=(Ag h52b)
         refine g_t rfl (Ak h52c)<|Bc Bf.k rfl rfl<|g_t rfl (Ak h52c)<|Bl B5 M 1 rfl rfl rfl rfl<|g_t rfl (Ak h52c)<|Cg B5.k rfl<|g_t rfl (Ak h52c)<|Dn rfl rfl<|g_t rfl rfl<|Bi rfl (Ak h52c) rfl<|Bh rfl rfl rfl<|Aa<|fun a F=>?_
         exact ⟨(decide (0 < ((x.items.length:Nat):Int))),F.to ⟨rfl,rfl,trivial⟩,M,by clear F M;unfold Fg;first | (simp only [Bool.true_eq_false,true_iff,false_iff,Bool.false_eq_true,decide_eq_true_eq];grind) | grind⟩
        ·skip
         have h53:=dT (Ah h53b)
         have h53c:(decide (uIt x.kind))=true:=(Ah h53b)
         refine g_f rfl (Ai h53c)<|g_f rfl (Ai h53c)<|g_f rfl (Ai h53c)<|g_f rfl (Ai h53c)<|g_t rfl rfl<|Bh rfl (Ai h53c) rfl<|Bh rfl rfl rfl<|Aa<|fun a F=>?_
         exact ⟨false,F.to ⟨rfl,rfl,trivial⟩,M,by clear F M;unfold Fg;first | (simp only [Bool.true_eq_false,true_iff,false_iff,Bool.false_eq_true,decide_eq_true_eq];grind) | grind⟩
    ·clear F M
     rintro a w ⟨bb,F,M,hbb⟩
     revert a
     refine Ad<|Av rfl ?_ ?_
     ·intro h54b
      have h54:(bb)=true:=h54b
      refine Ab<|?_
      have hF:¬ Fg x:=hbb.1 (by assumption)
      refine Ac<|Af rfl<|Aa<|Ad<|Aj<|Aw<|Al rfl rfl<|?_
      exact ⟨M.weaken (.cons _ (.cons _ (sR _))),by rw [note_5 (by omega) hF]⟩
     ·intro h55b
      have h55:(bb)=false:=h55b
      refine Au<|Ad<|Ab<|?_
      have hF:Fg x:=Classical.byContradiction fun h_=>by have h9_:=hbb.2 h_;simp_all
      refine Ac<|Af rfl<|Aa<|Ad<|Aj<|Al rfl rfl<|?_
      exact ⟨M.weaken (.cons _ (.cons _ (sR _))),by rw [note_0 (by omega) hF]⟩
theorem Rw (M:Mem w0 G L w) {k:Nat}:Calls Tryz.prog 93 #[.int .u8 ((k:Nat):Int)] w (Cl w0 G L fun v=>v=.agg #[.int .i64 (uG k 0),.int .i64 (uG k 1),.int .i64 (uG k 2),.int .i64 (uG k 3)]):=by
 refine Az (vs:=[_]) Tryz.func93 rfl (n:=18) rfl rfl<|Ab<|Ac<|Cz M C6 rfl rfl<|?_;clear M;intro b1 w M
 refine Aa<|Ad<|Ab<|Ab<|Ac<|Ae rfl<|Aa<|Ad<|A3<|Ab<|Ab<|Ac<|Dc rfl rfl<|Af rfl<|Aa<|Ad<|Av rfl ?_ ?_
 ·intro h3b
  have h3:=dT h3b
  refine Au<|Ad<|Bk rfl h3b<|Ab<|Ac<|Ap (fun a F=>F7 F (ps:=[(0,.int .i64 1),(1,.int .i64 0),(2,.int .i64 0),(3,.int .i64 1)]) (cs:=[.int .i64 1,.int .i64 0,.int .i64 0,.int .i64 1]) C6.k C6 B7 rfl rfl) rfl<|fun a F=>?_
  refine Ar F M C6 (k:=0) rfl rfl rfl (us:=[.int .i64 1,.int .i64 0,.int .i64 0,.int .i64 1]) rfl rfl (by simp [Value.oneCell']) (by simp) ?_;clear F M a;intro w a M F
  change Mem w0 G (.blk b1 [.int .i64 1,.int .i64 0,.int .i64 0,.int .i64 1] 167::L) _ at M
  revert a
  refine Aa<|Ad<|Aj<|Bo<|Aw<|fun a F=>Md F M (k:=0) rfl rfl C6 rfl rfl rfl ?_
  exact ⟨M.weaken (.cons _ (sR _)),by rw [show uG k 0=1 from if_pos (by unfold uAt;omega),show uG k 1=0 from if_neg (by unfold uCo;omega),show uG k 2=0 from if_neg (by unfold uTo;omega),show uG k 3=1 from if_pos (by unfold uIt;omega)]⟩
 ·intro h4b
  have h4:=dF h4b
  refine Ac<|Dc rfl rfl<|Af rfl<|Aa<|Ad<|Av rfl ?_ ?_
  ·intro h5b
   have h5:=dT h5b
   refine Ab<|Ac<|Ap (fun a F=>F7 F (ps:=[(0,.int .i64 1),(1,.int .i64 0),(2,.int .i64 0),(3,.int .i64 1)]) (cs:=[.int .i64 1,.int .i64 0,.int .i64 0,.int .i64 1]) C6.k C6 B7 rfl rfl) rfl<|fun a F=>?_
   refine Ar F M C6 (k:=0) rfl rfl rfl (us:=[.int .i64 1,.int .i64 0,.int .i64 0,.int .i64 1]) rfl rfl (by simp [Value.oneCell']) (by simp) ?_;clear F M a;intro w a M F
   change Mem w0 G (.blk b1 [.int .i64 1,.int .i64 0,.int .i64 0,.int .i64 1] 167::L) _ at M
   revert a
   refine Aa<|Ad<|Aj<|Bo<|Aw<|fun a F=>Md F M (k:=0) rfl rfl C6 rfl rfl rfl ?_
   exact ⟨M.weaken (.cons _ (sR _)),by rw [show uG k 0=1 from if_pos (by unfold uAt;omega),show uG k 1=0 from if_neg (by unfold uCo;omega),show uG k 2=0 from if_neg (by unfold uTo;omega),show uG k 3=1 from if_pos (by unfold uIt;omega)]⟩
  ·intro h6b
   have h6:=dF h6b
   refine Ab<|Ac<|Dc rfl rfl<|Af rfl<|Aa<|Ad<|Av rfl ?_ ?_
   ·intro h7b
    have h7:=dT h7b
    refine Ab<|Ac<|Ap (fun a F=>F7 F (ps:=[(0,.int .i64 1),(1,.int .i64 1),(2,.int .i64 0),(3,.int .i64 0)]) (cs:=[.int .i64 1,.int .i64 1,.int .i64 0,.int .i64 0]) C6.k C6 B7 rfl rfl) rfl<|fun a F=>?_
    refine Ar F M C6 (k:=0) rfl rfl rfl (us:=[.int .i64 1,.int .i64 1,.int .i64 0,.int .i64 0]) rfl rfl (by simp [Value.oneCell']) (by simp) ?_;clear F M a;intro w a M F
    change Mem w0 G (.blk b1 [.int .i64 1,.int .i64 1,.int .i64 0,.int .i64 0] 167::L) _ at M
    revert a
    refine Aa<|Ad<|Aj<|Bo<|Aw<|fun a F=>Md F M (k:=0) rfl rfl C6 rfl rfl rfl ?_
    exact ⟨M.weaken (.cons _ (sR _)),by rw [show uG k 0=1 from if_pos (by unfold uAt;omega),show uG k 1=1 from if_pos (by unfold uCo;omega),show uG k 2=0 from if_neg (by unfold uTo;omega),show uG k 3=0 from if_neg (by unfold uIt;omega)]⟩
   ·intro h8b
    have h8:=dF h8b
    refine Ab<|Ac<|Dc rfl rfl<|Af rfl<|Aa<|Ad<|Av rfl ?_ ?_
    ·intro h9b
     have h9:=dT h9b
     refine Ab<|Ac<|Ap (fun a F=>F7 F (ps:=[(0,.int .i64 1),(1,.int .i64 1),(2,.int .i64 1),(3,.int .i64 0)]) (cs:=[.int .i64 1,.int .i64 1,.int .i64 1,.int .i64 0]) C6.k C6 B7 rfl rfl) rfl<|fun a F=>?_
     refine Ar F M C6 (k:=0) rfl rfl rfl (us:=[.int .i64 1,.int .i64 1,.int .i64 1,.int .i64 0]) rfl rfl (by simp [Value.oneCell']) (by simp) ?_;clear F M a;intro w a M F
     change Mem w0 G (.blk b1 [.int .i64 1,.int .i64 1,.int .i64 1,.int .i64 0] 167::L) _ at M
     revert a
     refine Aa<|Ad<|Aj<|Bo<|Aw<|fun a F=>Md F M (k:=0) rfl rfl C6 rfl rfl rfl ?_
     exact ⟨M.weaken (.cons _ (sR _)),by rw [show uG k 0=1 from if_pos (by unfold uAt;omega),show uG k 1=1 from if_pos (by unfold uCo;omega),show uG k 2=1 from if_pos (by unfold uTo;omega),show uG k 3=0 from if_neg (by unfold uIt;omega)]⟩
    ·intro h10b
     have h10:=dF h10b
     refine Ab<|Ac<|Dc rfl rfl<|Af rfl<|Aa<|Ad<|Av rfl ?_ ?_
     ·intro h11b
      have h11:=dT h11b
      refine Ab<|Ac<|Ap (fun a F=>F7 F (ps:=[(0,.int .i64 0),(1,.int .i64 0),(2,.int .i64 0),(3,.int .i64 1)]) (cs:=[.int .i64 0,.int .i64 0,.int .i64 0,.int .i64 1]) C6.k C6 B7 rfl rfl) rfl<|fun a F=>?_
      refine Ar F M C6 (k:=0) rfl rfl rfl (us:=[.int .i64 0,.int .i64 0,.int .i64 0,.int .i64 1]) rfl rfl (by simp [Value.oneCell']) (by simp) ?_;clear F M a;intro w a M F
      change Mem w0 G (.blk b1 [.int .i64 0,.int .i64 0,.int .i64 0,.int .i64 1] 167::L) _ at M
      revert a
      refine Aa<|Ad<|Aj<|Bo<|Aw<|fun a F=>Md F M (k:=0) rfl rfl C6 rfl rfl rfl ?_
      exact ⟨M.weaken (.cons _ (sR _)),by rw [show uG k 0=0 from if_neg (by unfold uAt;omega),show uG k 1=0 from if_neg (by unfold uCo;omega),show uG k 2=0 from if_neg (by unfold uTo;omega),show uG k 3=1 from if_pos (by unfold uIt;omega)]⟩
     ·intro h12b
      have h12:=dF h12b
      refine Au<|C0<|Ad<|Ab<|Ac<|Ap (fun a F=>F7 F (ps:=[]) (cs:=[.int .i64 0,.int .i64 0,.int .i64 0,.int .i64 0]) C6.k C6 B7 rfl rfl) rfl<|fun a F=>?_
      refine Ar F M C6 (k:=0) rfl rfl rfl (us:=[.int .i64 0,.int .i64 0,.int .i64 0,.int .i64 0]) rfl rfl (by simp [Value.oneCell']) (by simp) ?_;clear F M a;intro w a M F
      change Mem w0 G (.blk b1 [.int .i64 0,.int .i64 0,.int .i64 0,.int .i64 0] 167::L) _ at M
      revert a
      refine Aa<|Ad<|Aj<|fun a F=>Md F M (k:=0) rfl rfl C6 rfl rfl rfl ?_
      exact ⟨M.weaken (.cons _ (sR _)),by rw [show uG k 0=0 from if_neg (by unfold uAt;omega),show uG k 1=0 from if_neg (by unfold uCo;omega),show uG k 2=0 from if_neg (by unfold uTo;omega),show uG k 3=0 from if_neg (by unfold uIt;omega)]⟩
open Go Go.Y Go.Proofs
variable {w0 w:World} {G:A4} {L:List Res}
set_option linter.unusedSimpArgs false
set_option linter.unusedVariables false
theorem k1_spec (M:Mem w0 G L w) {c:RulesD} {kca:Option Addr} {kcc:Nat} (SC:Ay Du 9 G (.slice kca c.kinds.length kcc) c.kinds) {a1:Option Addr} {c1:Nat} {l:List EntD} (S:Ay C2 6 G (.slice a1 l.length c1) l) (hck:Bw c l=0) {x:NotD} {na:Option Addr} {nc:Nat} (hN:x.kind < 256∧A2 .i64 x.at_∧A2 .i64 x.count∧A2 .i64 x.to∧x.items.length≤9223372036854775807) (SI:Ay Cn 4 G (.slice na x.items.length nc) x.items) (hX:x.items.length≤900000) (h0:E2 x=0) (hk:x.kind=1):Calls Tryz.prog 122 #[.agg #[.slice kca c.kinds.length kcc,.int .i64 c.cap],.agg #[.slice a1 l.length c1],.agg #[.int .u8 ((x.kind:Nat):Int),.int .i64 x.at_,.int .i64 x.count,.int .i64 x.to,.slice na x.items.length nc]] w (Ij w0 G (Jp L (Ge c l x))):=by
 rw [Aoe h0 hk]
 have bS:=S.bound
 refine Az (vs:=[_,_,_]) Tryz.func122 rfl (n:=17) rfl rfl<|Ab<|Ac<|C4 M rfl rfl rfl<|?_;clear M;intro b1 w M
 refine C4 M rfl rfl rfl<|?_;clear M;intro b2 w M
 refine C4 M rfl rfl rfl<|?_;clear M;intro b3 w M
 refine Cz M Bb rfl rfl<|?_;clear M;intro b4 w M
 refine Af rfl<|Aa<|Ad<|Ab<|Ac<|Ap (fun a F=>Am Dv rfl (F.ev rfl) (cs:=[.slice kca c.kinds.length kcc,.int .i64 c.cap]) rfl (M.cellsL (k:=3) rfl rfl)) rfl<|Ap (fun a F=>Am Bb rfl (F.ev rfl) (cs:=[.slice a1 l.length c1]) rfl (M.cellsL (k:=2) rfl rfl)) rfl<|Bc Bf.k rfl rfl<|Bl B7 M 1 rfl rfl rfl rfl<|Bc Bf.k rfl rfl<|Bl B5 M 1 rfl rfl rfl rfl<|fun a F=>?_
 refine Dz F ent123 rfl rfl (Xc (c:=c) (l:=l) (xs:=x.items) (z:=x.at_) M SC S hck SI (by omega)) ?_;clear F M a;rintro _ Gq6 _ w a hGq6 M ⟨aoq6,csq6,Loq6,rfl,rfl,Eoq6⟩ F
 replace SC:=SC.mono Bg hGq6
 replace S:=S.mono Ax hGq6
 replace SI:=SI.mono A0 hGq6
 have M:=M.perm (Cm (Cw aoq6 (Eg c l x.at_ x.items).1.length csq6::Loq6) [.blk b4 [.slice none 0 0] 54,.blk b3 [.int .u8 ((x.kind:Nat):Int),.int .i64 x.at_,.int .i64 x.count,.int .i64 x.to,.slice na x.items.length nc] 65,.blk b2 [.slice a1 l.length c1] 54,.blk b1 [.slice kca c.kinds.length kcc,.int .i64 c.cap] 51] L)
 change Mem w0 Gq6 (.blk b4 [.slice none 0 0] 54::.blk b3 [.int .u8 ((x.kind:Nat):Int),.int .i64 x.at_,.int .i64 x.count,.int .i64 x.to,.slice na x.items.length nc] 65::.blk b2 [.slice a1 l.length c1] 54::.blk b1 [.slice kca c.kinds.length kcc,.int .i64 c.cap] 51::((Cw aoq6 (Eg c l x.at_ x.items).1.length csq6::Loq6)++L)) _ at M
 revert a
 refine Ch rfl rfl<|Ch rfl rfl<|fun a F=>?_
 refine Ar F M Bb (k:=0) rfl rfl rfl (us:=[.slice aoq6 ((Eg c l x.at_ x.items).1.length) ((Eg c l x.at_ x.items).1.length)]) rfl rfl (by simp [Value.oneCell']) (by simp) ?_;clear F M a;intro w a M F
 change Mem w0 Gq6 (.blk b4 [.slice aoq6 ((Eg c l x.at_ x.items).1.length) ((Eg c l x.at_ x.items).1.length)] 54::_::_::_::((Cw aoq6 (Eg c l x.at_ x.items).1.length csq6::Loq6)++L)) _ at M
 revert a
 refine Af rfl<|Aa<|Ad<|Aj<|fun a F=>Cb F M (k:=0) rfl rfl Bb rfl rfl rfl rfl ?_
 exact ⟨_,_,hGq6,M.weaken (.cons _ (.cons _ (.cons _ (.cons _ (sR _))))),aoq6,csq6,Loq6,rfl,rfl,Eoq6⟩
theorem k2_spec (M:Mem w0 G L w) {c:RulesD} {kca:Option Addr} {kcc:Nat} (SC:Ay Du 9 G (.slice kca c.kinds.length kcc) c.kinds) {a1:Option Addr} {c1:Nat} {l:List EntD} (S:Ay C2 6 G (.slice a1 l.length c1) l) (hck:Bw c l=0) {x:NotD} {na:Option Addr} {nc:Nat} (hN:x.kind < 256∧A2 .i64 x.at_∧A2 .i64 x.count∧A2 .i64 x.to∧x.items.length≤9223372036854775807) (SI:Ay Cn 4 G (.slice na x.items.length nc) x.items) (hX:x.items.length≤900000) (h0:E2 x=0) (hk:x.kind=2):Calls Tryz.prog 124 #[.agg #[.slice kca c.kinds.length kcc,.int .i64 c.cap],.agg #[.slice a1 l.length c1],.agg #[.int .u8 ((x.kind:Nat):Int),.int .i64 x.at_,.int .i64 x.count,.int .i64 x.to,.slice na x.items.length nc]] w (Ij w0 G (Jp L (Ge c l x))):=by
 rw [Afd h0 hk]
 have bS:=S.bound
 refine Az (vs:=[_,_,_]) Tryz.func124 rfl (n:=17) rfl rfl<|Ab<|Ac<|C4 M rfl rfl rfl<|?_;clear M;intro b1 w M
 refine C4 M rfl rfl rfl<|?_;clear M;intro b2 w M
 refine C4 M rfl rfl rfl<|?_;clear M;intro b3 w M
 refine Cz M Bb rfl rfl<|?_;clear M;intro b4 w M
 refine Af rfl<|Aa<|Ad<|Ab<|Ac<|Ap (fun a F=>Am Dv rfl (F.ev rfl) (cs:=[.slice kca c.kinds.length kcc,.int .i64 c.cap]) rfl (M.cellsL (k:=3) rfl rfl)) rfl<|Ap (fun a F=>Am Bb rfl (F.ev rfl) (cs:=[.slice a1 l.length c1]) rfl (M.cellsL (k:=2) rfl rfl)) rfl<|Bc Bf.k rfl rfl<|Bl B7 M 1 rfl rfl rfl rfl<|Bc Bf.k rfl rfl<|Bl B7 M 1 rfl rfl rfl rfl<|fun a F=>?_
 refine Dz F ent69 rfl rfl (Oz (c:=c) (l:=l) (z:=x.at_) (n:=x.count) M SC S hck ) ?_;clear F M a;rintro _ Gq6 _ w a hGq6 M ⟨aoq6,csq6,Loq6,rfl,rfl,Eoq6⟩ F
 replace SC:=SC.mono Bg hGq6
 replace S:=S.mono Ax hGq6
 replace SI:=SI.mono A0 hGq6
 have M:=M.perm (Cm (Cw aoq6 (Hu l x.at_ x.count).1.length csq6::Loq6) [.blk b4 [.slice none 0 0] 54,.blk b3 [.int .u8 ((x.kind:Nat):Int),.int .i64 x.at_,.int .i64 x.count,.int .i64 x.to,.slice na x.items.length nc] 65,.blk b2 [.slice a1 l.length c1] 54,.blk b1 [.slice kca c.kinds.length kcc,.int .i64 c.cap] 51] L)
 change Mem w0 Gq6 (.blk b4 [.slice none 0 0] 54::.blk b3 [.int .u8 ((x.kind:Nat):Int),.int .i64 x.at_,.int .i64 x.count,.int .i64 x.to,.slice na x.items.length nc] 65::.blk b2 [.slice a1 l.length c1] 54::.blk b1 [.slice kca c.kinds.length kcc,.int .i64 c.cap] 51::((Cw aoq6 (Hu l x.at_ x.count).1.length csq6::Loq6)++L)) _ at M
 revert a
 refine Ch rfl rfl<|Ch rfl rfl<|fun a F=>?_
 refine Ar F M Bb (k:=0) rfl rfl rfl (us:=[.slice aoq6 ((Hu l x.at_ x.count).1.length) ((Hu l x.at_ x.count).1.length)]) rfl rfl (by simp [Value.oneCell']) (by simp) ?_;clear F M a;intro w a M F
 change Mem w0 Gq6 (.blk b4 [.slice aoq6 ((Hu l x.at_ x.count).1.length) ((Hu l x.at_ x.count).1.length)] 54::_::_::_::((Cw aoq6 (Hu l x.at_ x.count).1.length csq6::Loq6)++L)) _ at M
 revert a
 refine Af rfl<|Aa<|Ad<|Aj<|fun a F=>Cb F M (k:=0) rfl rfl Bb rfl rfl rfl rfl ?_
 exact ⟨_,_,hGq6,M.weaken (.cons _ (.cons _ (.cons _ (.cons _ (sR _))))),aoq6,csq6,Loq6,rfl,rfl,Eoq6⟩
theorem k3_spec (M:Mem w0 G L w) {c:RulesD} {kca:Option Addr} {kcc:Nat} (SC:Ay Du 9 G (.slice kca c.kinds.length kcc) c.kinds) {a1:Option Addr} {c1:Nat} {l:List EntD} (S:Ay C2 6 G (.slice a1 l.length c1) l) (hck:Bw c l=0) {x:NotD} {na:Option Addr} {nc:Nat} (hN:x.kind < 256∧A2 .i64 x.at_∧A2 .i64 x.count∧A2 .i64 x.to∧x.items.length≤9223372036854775807) (SI:Ay Cn 4 G (.slice na x.items.length nc) x.items) (hX:x.items.length≤900000) (h0:E2 x=0) (hk:x.kind=3):Calls Tryz.prog 125 #[.agg #[.slice kca c.kinds.length kcc,.int .i64 c.cap],.agg #[.slice a1 l.length c1],.agg #[.int .u8 ((x.kind:Nat):Int),.int .i64 x.at_,.int .i64 x.count,.int .i64 x.to,.slice na x.items.length nc]] w (Ij w0 G (Jp L (Ge c l x))):=by
 rw [Aod h0 hk]
 have bS:=S.bound
 refine Az (vs:=[_,_,_]) Tryz.func125 rfl (n:=19) rfl rfl<|Ab<|Ac<|C4 M rfl rfl rfl<|?_;clear M;intro b1 w M
 refine C4 M rfl rfl rfl<|?_;clear M;intro b2 w M
 refine C4 M rfl rfl rfl<|?_;clear M;intro b3 w M
 refine Cz M Bb rfl rfl<|?_;clear M;intro b4 w M
 refine Af rfl<|Aa<|Ad<|Ab<|Ac<|Ap (fun a F=>Am Dv rfl (F.ev rfl) (cs:=[.slice kca c.kinds.length kcc,.int .i64 c.cap]) rfl (M.cellsL (k:=3) rfl rfl)) rfl<|Ap (fun a F=>Am Bb rfl (F.ev rfl) (cs:=[.slice a1 l.length c1]) rfl (M.cellsL (k:=2) rfl rfl)) rfl<|Bc Bf.k rfl rfl<|Bl B7 M 1 rfl rfl rfl rfl<|Bc Bf.k rfl rfl<|Bl B7 M 1 rfl rfl rfl rfl<|Bc Bf.k rfl rfl<|Bl B7 M 1 rfl rfl rfl rfl<|fun a F=>?_
 refine Dz F ent126 rfl rfl (Acf (c:=c) (l:=l) (z:=x.at_) (n:=x.count) (q:=x.to) M SC S hck ) ?_;clear F M a;rintro _ Gq6 _ w a hGq6 M ⟨aoq6,csq6,Loq6,rfl,rfl,Eoq6⟩ F
 replace SC:=SC.mono Bg hGq6
 replace S:=S.mono Ax hGq6
 replace SI:=SI.mono A0 hGq6
 have M:=M.perm (Cm (Cw aoq6 (Fy l x.at_ x.count x.to).1.length csq6::Loq6) [.blk b4 [.slice none 0 0] 54,.blk b3 [.int .u8 ((x.kind:Nat):Int),.int .i64 x.at_,.int .i64 x.count,.int .i64 x.to,.slice na x.items.length nc] 65,.blk b2 [.slice a1 l.length c1] 54,.blk b1 [.slice kca c.kinds.length kcc,.int .i64 c.cap] 51] L)
 change Mem w0 Gq6 (.blk b4 [.slice none 0 0] 54::.blk b3 [.int .u8 ((x.kind:Nat):Int),.int .i64 x.at_,.int .i64 x.count,.int .i64 x.to,.slice na x.items.length nc] 65::.blk b2 [.slice a1 l.length c1] 54::.blk b1 [.slice kca c.kinds.length kcc,.int .i64 c.cap] 51::((Cw aoq6 (Fy l x.at_ x.count x.to).1.length csq6::Loq6)++L)) _ at M
 revert a
 refine Ch rfl rfl<|Ch rfl rfl<|fun a F=>?_
 refine Ar F M Bb (k:=0) rfl rfl rfl (us:=[.slice aoq6 ((Fy l x.at_ x.count x.to).1.length) ((Fy l x.at_ x.count x.to).1.length)]) rfl rfl (by simp [Value.oneCell']) (by simp) ?_;clear F M a;intro w a M F
 change Mem w0 Gq6 (.blk b4 [.slice aoq6 ((Fy l x.at_ x.count x.to).1.length) ((Fy l x.at_ x.count x.to).1.length)] 54::_::_::_::((Cw aoq6 (Fy l x.at_ x.count x.to).1.length csq6::Loq6)++L)) _ at M
 revert a
 refine Af rfl<|Aa<|Ad<|Aj<|fun a F=>Cb F M (k:=0) rfl rfl Bb rfl rfl rfl rfl ?_
 exact ⟨_,_,hGq6,M.weaken (.cons _ (.cons _ (.cons _ (.cons _ (sR _))))),aoq6,csq6,Loq6,rfl,rfl,Eoq6⟩
theorem k4_spec (M:Mem w0 G L w) {c:RulesD} {kca:Option Addr} {kcc:Nat} (SC:Ay Du 9 G (.slice kca c.kinds.length kcc) c.kinds) {a1:Option Addr} {c1:Nat} {l:List EntD} (S:Ay C2 6 G (.slice a1 l.length c1) l) (hck:Bw c l=0) {x:NotD} {na:Option Addr} {nc:Nat} (hN:x.kind < 256∧A2 .i64 x.at_∧A2 .i64 x.count∧A2 .i64 x.to∧x.items.length≤9223372036854775807) (SI:Ay Cn 4 G (.slice na x.items.length nc) x.items) (hX:x.items.length≤900000) (h0:E2 x=0) (hk:x.kind=4):Calls Tryz.prog 127 #[.agg #[.slice kca c.kinds.length kcc,.int .i64 c.cap],.agg #[.slice a1 l.length c1],.agg #[.int .u8 ((x.kind:Nat):Int),.int .i64 x.at_,.int .i64 x.count,.int .i64 x.to,.slice na x.items.length nc]] w (Ij w0 G (Jp L (Ge c l x))):=by
 rw [app_4 h0 hk]
 have bS:=S.bound
 refine Az (vs:=[_,_,_]) Tryz.func127 rfl (n:=17) rfl rfl<|Ab<|Ac<|C4 M rfl rfl rfl<|?_;clear M;intro b1 w M
 refine C4 M rfl rfl rfl<|?_;clear M;intro b2 w M
 refine C4 M rfl rfl rfl<|?_;clear M;intro b3 w M
 refine Cz M Bb rfl rfl<|?_;clear M;intro b4 w M
 refine Af rfl<|Aa<|Ad<|Ab<|Ac<|Ap (fun a F=>Am Dv rfl (F.ev rfl) (cs:=[.slice kca c.kinds.length kcc,.int .i64 c.cap]) rfl (M.cellsL (k:=3) rfl rfl)) rfl<|Ap (fun a F=>Am Bb rfl (F.ev rfl) (cs:=[.slice a1 l.length c1]) rfl (M.cellsL (k:=2) rfl rfl)) rfl<|Bc Bf.k rfl rfl<|Bl B7 M 1 rfl rfl rfl rfl<|Bc Bf.k rfl rfl<|Bl B5 M 1 rfl rfl rfl rfl<|fun a F=>?_
 refine Dz F ent128 rfl rfl (Xd (c:=c) (l:=l) (xs:=x.items) (z:=x.at_) M SC S hck SI (by omega)) ?_;clear F M a;rintro _ Gq6 _ w a hGq6 M ⟨aoq6,csq6,Loq6,rfl,rfl,Eoq6⟩ F
 replace SC:=SC.mono Bg hGq6
 replace S:=S.mono Ax hGq6
 replace SI:=SI.mono A0 hGq6
 have M:=M.perm (Cm (Cw aoq6 (Ha c l x.at_ x.items).1.length csq6::Loq6) [.blk b4 [.slice none 0 0] 54,.blk b3 [.int .u8 ((x.kind:Nat):Int),.int .i64 x.at_,.int .i64 x.count,.int .i64 x.to,.slice na x.items.length nc] 65,.blk b2 [.slice a1 l.length c1] 54,.blk b1 [.slice kca c.kinds.length kcc,.int .i64 c.cap] 51] L)
 change Mem w0 Gq6 (.blk b4 [.slice none 0 0] 54::.blk b3 [.int .u8 ((x.kind:Nat):Int),.int .i64 x.at_,.int .i64 x.count,.int .i64 x.to,.slice na x.items.length nc] 65::.blk b2 [.slice a1 l.length c1] 54::.blk b1 [.slice kca c.kinds.length kcc,.int .i64 c.cap] 51::((Cw aoq6 (Ha c l x.at_ x.items).1.length csq6::Loq6)++L)) _ at M
 revert a
 refine Ch rfl rfl<|Ch rfl rfl<|fun a F=>?_
 refine Ar F M Bb (k:=0) rfl rfl rfl (us:=[.slice aoq6 ((Ha c l x.at_ x.items).1.length) ((Ha c l x.at_ x.items).1.length)]) rfl rfl (by simp [Value.oneCell']) (by simp) ?_;clear F M a;intro w a M F
 change Mem w0 Gq6 (.blk b4 [.slice aoq6 ((Ha c l x.at_ x.items).1.length) ((Ha c l x.at_ x.items).1.length)] 54::_::_::_::((Cw aoq6 (Ha c l x.at_ x.items).1.length csq6::Loq6)++L)) _ at M
 revert a
 refine Af rfl<|Aa<|Ad<|Aj<|fun a F=>Cb F M (k:=0) rfl rfl Bb rfl rfl rfl rfl ?_
 exact ⟨_,_,hGq6,M.weaken (.cons _ (.cons _ (.cons _ (.cons _ (sR _))))),aoq6,csq6,Loq6,rfl,rfl,Eoq6⟩
theorem k5_spec (M:Mem w0 G L w) {c:RulesD} {kca:Option Addr} {kcc:Nat} (SC:Ay Du 9 G (.slice kca c.kinds.length kcc) c.kinds) {a1:Option Addr} {c1:Nat} {l:List EntD} (S:Ay C2 6 G (.slice a1 l.length c1) l) (hck:Bw c l=0) {x:NotD} {na:Option Addr} {nc:Nat} (hN:x.kind < 256∧A2 .i64 x.at_∧A2 .i64 x.count∧A2 .i64 x.to∧x.items.length≤9223372036854775807) (SI:Ay Cn 4 G (.slice na x.items.length nc) x.items) (hX:x.items.length≤900000) (h0:E2 x=0) (hk:x.kind=5):Calls Tryz.prog 129 #[.agg #[.slice kca c.kinds.length kcc,.int .i64 c.cap],.agg #[.slice a1 l.length c1],.agg #[.int .u8 ((x.kind:Nat):Int),.int .i64 x.at_,.int .i64 x.count,.int .i64 x.to,.slice na x.items.length nc]] w (Ij w0 G (Jp L (Ge c l x))):=by
 rw [app_5 h0 hk]
 have bS:=S.bound
 refine Az (vs:=[_,_,_]) Tryz.func129 rfl (n:=15) rfl rfl<|Ab<|Ac<|C4 M rfl rfl rfl<|?_;clear M;intro b1 w M
 refine C4 M rfl rfl rfl<|?_;clear M;intro b2 w M
 refine C4 M rfl rfl rfl<|?_;clear M;intro b3 w M
 refine Cz M Bb rfl rfl<|?_;clear M;intro b4 w M
 refine Af rfl<|Aa<|Ad<|Ab<|Ac<|Ap (fun a F=>Am Dv rfl (F.ev rfl) (cs:=[.slice kca c.kinds.length kcc,.int .i64 c.cap]) rfl (M.cellsL (k:=3) rfl rfl)) rfl<|Ap (fun a F=>Am Bb rfl (F.ev rfl) (cs:=[.slice a1 l.length c1]) rfl (M.cellsL (k:=2) rfl rfl)) rfl<|Bc Bf.k rfl rfl<|Bl B5 M 1 rfl rfl rfl rfl<|fun a F=>?_
 refine Dz F ent92 rfl rfl (Qs (c:=c) (l:=l) (xs:=x.items) M SC S hck SI (by omega)) ?_;clear F M a;rintro _ Gq6 _ w a hGq6 M ⟨aoq6,csq6,Loq6,rfl,rfl,Eoq6⟩ F
 replace SC:=SC.mono Bg hGq6
 replace S:=S.mono Ax hGq6
 replace SI:=SI.mono A0 hGq6
 have M:=M.perm (Cm (Cw aoq6 (Eg c [] 0 x.items).1.length csq6::Loq6) [.blk b4 [.slice none 0 0] 54,.blk b3 [.int .u8 ((x.kind:Nat):Int),.int .i64 x.at_,.int .i64 x.count,.int .i64 x.to,.slice na x.items.length nc] 65,.blk b2 [.slice a1 l.length c1] 54,.blk b1 [.slice kca c.kinds.length kcc,.int .i64 c.cap] 51] L)
 change Mem w0 Gq6 (.blk b4 [.slice none 0 0] 54::.blk b3 [.int .u8 ((x.kind:Nat):Int),.int .i64 x.at_,.int .i64 x.count,.int .i64 x.to,.slice na x.items.length nc] 65::.blk b2 [.slice a1 l.length c1] 54::.blk b1 [.slice kca c.kinds.length kcc,.int .i64 c.cap] 51::((Cw aoq6 (Eg c [] 0 x.items).1.length csq6::Loq6)++L)) _ at M
 revert a
 refine Ch rfl rfl<|Ch rfl rfl<|fun a F=>?_
 refine Ar F M Bb (k:=0) rfl rfl rfl (us:=[.slice aoq6 ((Eg c [] 0 x.items).1.length) ((Eg c [] 0 x.items).1.length)]) rfl rfl (by simp [Value.oneCell']) (by simp) ?_;clear F M a;intro w a M F
 change Mem w0 Gq6 (.blk b4 [.slice aoq6 ((Eg c [] 0 x.items).1.length) ((Eg c [] 0 x.items).1.length)] 54::_::_::_::((Cw aoq6 (Eg c [] 0 x.items).1.length csq6::Loq6)++L)) _ at M
 revert a
 refine Af rfl<|Aa<|Ad<|Aj<|fun a F=>Cb F M (k:=0) rfl rfl Bb rfl rfl rfl rfl ?_
 exact ⟨_,_,hGq6,M.weaken (.cons _ (.cons _ (.cons _ (.cons _ (sR _))))),aoq6,csq6,Loq6,rfl,rfl,Eoq6⟩
theorem Ahj (M:Mem w0 G L w) {c:RulesD} {kca:Option Addr} {kcc:Nat} (SC:Ay Du 9 G (.slice kca c.kinds.length kcc) c.kinds) {a1:Option Addr} {c1:Nat} {l:List EntD} (S:Ay C2 6 G (.slice a1 l.length c1) l) (hck:Bw c l=0) {x:NotD} {na:Option Addr} {nc:Nat} (hN:x.kind < 256∧A2 .i64 x.at_∧A2 .i64 x.count∧A2 .i64 x.to∧x.items.length≤9223372036854775807) (SI:Ay Cn 4 G (.slice na x.items.length nc) x.items) (hX:x.items.length≤900000) (h0:E2 x=0):Calls Tryz.prog (Ds x.kind) #[.agg #[.slice kca c.kinds.length kcc,.int .i64 c.cap],.agg #[.slice a1 l.length c1],.agg #[.int .u8 ((x.kind:Nat):Int),.int .i64 x.at_,.int .i64 x.count,.int .i64 x.to,.slice na x.items.length nc]] w (Ij w0 G (Jp L (Ge c l x))):=by
 have hk:=(Je.1 h0).1
 rcases (show x.kind=1∨x.kind=2∨x.kind=3∨x.kind=4∨x.kind=5 by omega) with e | e | e | e | e
 ·have h:=k1_spec M SC S hck hN SI hX h0 e
  rw [show Ds x.kind=122 by rw [e];rfl];exact h
 ·have h:=k2_spec M SC S hck hN SI hX h0 e
  rw [show Ds x.kind=124 by rw [e];rfl];exact h
 ·have h:=k3_spec M SC S hck hN SI hX h0 e
  rw [show Ds x.kind=125 by rw [e];rfl];exact h
 ·have h:=k4_spec M SC S hck hN SI hX h0 e
  rw [show Ds x.kind=127 by rw [e];rfl];exact h
 ·have h:=k5_spec M SC S hck hN SI hX h0 e
  rw [show Ds x.kind=129 by rw [e];rfl];exact h
theorem Alk {k:Nat}:Ent Tryz.prog (Ds k):=by
 unfold Ds
 split
 ·exact ent122
 ·exact ent124
 ·exact ent125
 ·exact ent127
 ·exact ent129
theorem Za (M:Mem w0 G L w) {c:RulesD} {kca:Option Addr} {kcc:Nat} (SC:Ay Du 9 G (.slice kca c.kinds.length kcc) c.kinds) {a1:Option Addr} {c1:Nat} {l:List EntD} (S:Ay C2 6 G (.slice a1 l.length c1) l)  {x:NotD} {na:Option Addr} {nc:Nat} (hN:x.kind < 256∧A2 .i64 x.at_∧A2 .i64 x.count∧A2 .i64 x.to∧x.items.length≤9223372036854775807) (SI:Ay Cn 4 G (.slice na x.items.length nc) x.items) (hX:x.items.length≤900000):Calls Tryz.prog 28 #[.agg #[.slice kca c.kinds.length kcc,.int .i64 c.cap],.agg #[.slice a1 l.length c1],.agg #[.int .u8 ((x.kind:Nat):Int),.int .i64 x.at_,.int .i64 x.count,.int .i64 x.to,.slice na x.items.length nc]] w (Ij w0 G (Jp L (Aof c l x))):=by
 have bS:=S.bound
 refine Az (vs:=[_,_,_]) Tryz.func28 rfl (n:=34) rfl rfl<|Ab<|Ac<|C4 M rfl rfl rfl<|?_;clear M;intro b1 w M
 refine C4 M rfl rfl rfl<|?_;clear M;intro b2 w M
 refine C4 M rfl rfl rfl<|?_;clear M;intro b3 w M
 refine Cz M Bb rfl rfl<|?_;clear M;intro b4 w M
 refine Af rfl<|Aa<|Ad<|Ab<|Ab<|Ac<|Ap (fun a F=>Am Dv rfl (F.ev rfl) (cs:=[.slice kca c.kinds.length kcc,.int .i64 c.cap]) rfl (M.cellsL (k:=3) rfl rfl)) rfl<|Ap (fun a F=>Am Bb rfl (F.ev rfl) (cs:=[.slice a1 l.length c1]) rfl (M.cellsL (k:=2) rfl rfl)) rfl<|Br Alm rfl rfl (L8 (c:=c) (l:=l) M SC S)<|?_;clear M;rintro _ w M rfl
 refine Af rfl<|Aa<|Ad<|Ab<|Ac<|Ae rfl<|D9 rfl rfl<|Aa<|Ad<|Av rfl ?_ ?_
 ·intro h6b
  have h6:=dF (Ag h6b)
  refine Ab<|Ac<|Ap (fun a F=>Ba (cs:=[.slice none 0 0]) (ps:=[]) Bb.k rfl Bb (F.evp rfl) rfl) rfl<|Ae rfl<|fun a F=>?_
  refine Ar F M Bb (k:=0) rfl rfl rfl (us:=[.slice none 0 0]) rfl rfl (by simp [Value.oneCell']) (by simp) ?_;clear F M a;intro w a M F
  change Mem w0 G (.blk b4 [.slice none 0 0] 54::_::_::_::L) _ at M
  revert a
  refine Af rfl<|Aa<|Ad<|Aj<|Aw<|fun a F=>Cb F M (k:=0) rfl rfl Bb rfl rfl rfl rfl ?_
  exact F3 (appE_no (by omega)) (Gle.refl _) (M.weaken (.cons _ (.cons _ (.cons _ (.cons _ (sR _))))))
 ·intro h7b
  have h7:=dT (Ah h7b)
  refine Au<|Ad<|Ab<|Ab<|Ac<|Ap (fun a F=>Am Bf rfl (F.ev rfl) (cs:=[.int .u8 ((x.kind:Nat):Int),.int .i64 x.at_,.int .i64 x.count,.int .i64 x.to,.slice na x.items.length nc]) rfl (M.cellsL (k:=1) rfl rfl)) rfl<|Br Zy rfl rfl (Hj (x:=x) M hN SI)<|?_;clear M;rintro _ w M rfl
  refine Af rfl<|Aa<|Ad<|Ab<|Ac<|Ae rfl<|D9 rfl rfl<|Aa<|Ad<|Av rfl ?_ ?_
  ·intro h8b
   have h8:=dF (Ag h8b)
   refine Ab<|Ac<|Ap (fun a F=>Ba (cs:=[.slice none 0 0]) (ps:=[]) Bb.k rfl Bb (F.evp rfl) rfl) rfl<|Ae rfl<|fun a F=>?_
   refine Ar F M Bb (k:=0) rfl rfl rfl (us:=[.slice none 0 0]) rfl rfl (by simp [Value.oneCell']) (by simp) ?_;clear F M a;intro w a M F
   change Mem w0 G (.blk b4 [.slice none 0 0] 54::_::_::_::L) _ at M
   revert a
   refine Af rfl<|Aa<|Ad<|Aj<|Aw<|fun a F=>Cb F M (k:=0) rfl rfl Bb rfl rfl rfl rfl ?_
   exact F3 (((Xu (by omega)).trans (app_e (by omega)))) (Gle.refl _) (M.weaken (.cons _ (.cons _ (.cons _ (.cons _ (sR _))))))
  ·intro h9b
   have h9:=dT (Ah h9b)
   refine Au<|Ad<|Ab<|?_
   have hkk:=(Je.1 (show E2 x=0 by omega)).1
   intro a F
   refine Of [(.free,1),(.pure,2),(.pure,5),(.pure,6),(.pure,7),(.keep,0),(.free,3),(.free,4),(.keep,8),(.free,9),(.free,10),(.chg,11),(.free,12)] [11] (Keep G [.blk b3 [.int .u8 ((x.kind:Nat):Int),.int .i64 x.at_,.int .i64 x.count,.int .i64 x.to,.slice na x.items.length nc] 65,.blk b2 [.slice a1 l.length c1] 54,.blk b1 [.slice kca c.kinds.length kcc,.int .i64 c.cap] 51]) rfl (by kernel_rfl) (fun c a d v w h=>by cases d <;> exact h) ((M.drew _).keep (Gle.refl _) (by simp)) ?_
   replace M:=M.drew (w.drawn+1)
   revert a
   refine k_f (fun a F w _=>Co Bf.k rfl F rfl) rfl<|k_p (fun a F w M=>Aq (agf Ew rfl) (F.ev rfl) (M.cellL (k:=0) rfl rfl)) rfl<|k_p (fun a F w M=>Am Dv rfl (F.ev rfl) (cs:=[.slice kca c.kinds.length kcc,.int .i64 c.cap]) rfl (M.cellsL (k:=2) rfl rfl)) rfl<|k_p (fun a F w M=>Am Bb rfl (F.ev rfl) (cs:=[.slice a1 l.length c1]) rfl (M.cellsL (k:=1) rfl rfl)) rfl<|k_p (fun a F w M=>Am Bf rfl (F.ev rfl) (cs:=[.int .u8 ((x.kind:Nat):Int),.int .i64 x.at_,.int .i64 x.count,.int .i64 x.to,.slice na x.items.length nc]) rfl (M.cellsL (k:=0) rfl rfl)) rfl<|k_k rfl<|Br O6 rfl rfl (F8 M)<|?_;clear M;rintro _ w M rfl
   refine Aa<|eK (C':=Keep G [.blk b3 [.int .u8 ((x.kind:Nat):Int),.int .i64 x.at_,.int .i64 x.count,.int .i64 x.to,.slice na x.items.length nc] 65,.blk b2 [.slice a1 l.length c1] 54,.blk b1 [.slice kca c.kinds.length kcc,.int .i64 c.cap] 51]) (M.keep (Gle.refl _) (by simp)) (fun w h=>h.mono (Gle.refl _) (by simp))<|k_f (fun a F w _=>F6 (j:=x.kind) Gj.k Cc rfl (F.ev rfl) (F.ev rfl) rfl (by omega) (us:=[.string (str (Bz x.kind)),.bool (decide (uAt x.kind)),.bool (decide (uCo x.kind)),.bool (decide (uTo x.kind)),.bool (decide (uIt x.kind)),.func (.func (Ds x.kind)) #[] #[]]) (Iw (by omega))) rfl<|k_f (fun a F w _=>Abk Cc.k rfl tok67 rfl (F.ev rfl) rfl) rfl<|k_k rfl<|fun a F=>?_
   refine Afo F Alk rfl rfl rfl (Ahj M SC S (by omega) hN SI hX (by omega)) ?_;clear F M a;rintro _ Gq10 _ w a hGq10 M ⟨aoq10,csq10,Loq10,rfl,rfl,Eoq10⟩ F
   replace SC:=SC.mono Bg hGq10
   replace S:=S.mono Ax hGq10
   replace SI:=SI.mono A0 hGq10
   have M:=M.perm (Cm (Cw aoq10 (Ge c l x).1.length csq10::Loq10) [.blk b4 [.slice none 0 0] 54,.blk b3 [.int .u8 ((x.kind:Nat):Int),.int .i64 x.at_,.int .i64 x.count,.int .i64 x.to,.slice na x.items.length nc] 65,.blk b2 [.slice a1 l.length c1] 54,.blk b1 [.slice kca c.kinds.length kcc,.int .i64 c.cap] 51] L)
   change Mem w0 Gq10 (.blk b4 [.slice none 0 0] 54::.blk b3 [.int .u8 ((x.kind:Nat):Int),.int .i64 x.at_,.int .i64 x.count,.int .i64 x.to,.slice na x.items.length nc] 65::.blk b2 [.slice a1 l.length c1] 54::.blk b1 [.slice kca c.kinds.length kcc,.int .i64 c.cap] 51::((Cw aoq10 (Ge c l x).1.length csq10::Loq10)++L)) _ at M
   revert a
   refine Aa<|eK (C':=Keep Gq10 [.blk b3 [.int .u8 ((x.kind:Nat):Int),.int .i64 x.at_,.int .i64 x.count,.int .i64 x.to,.slice na x.items.length nc] 65,.blk b2 [.slice a1 l.length c1] 54,.blk b1 [.slice kca c.kinds.length kcc,.int .i64 c.cap] 51]) (M.keep (Gle.refl _) (by simp)) (fun w h=>h.mono hGq10 (by simp))<|k_f (fun a F w _=>Cs (v:=.agg #[.slice aoq10 ((Ge c l x).1.length) ((Ge c l x).1.length)]) (F.ev rfl) rfl) rfl<|k_f (fun a F w _=>Cs (v:=.int .i64 ((Ge c l x).2)) (F.ev rfl) rfl) rfl<|k_c rfl<|fun a F=>?_
   refine Ar F M Bb (k:=0) rfl rfl rfl (us:=[.slice aoq10 ((Ge c l x).1.length) ((Ge c l x).1.length)]) rfl rfl (by simp [Value.oneCell']) (by simp) ?_;clear F M a;intro w a M F
   change Mem w0 Gq10 (.blk b4 [.slice aoq10 ((Ge c l x).1.length) ((Ge c l x).1.length)] 54::_::_::_::((Cw aoq10 (Ge c l x).1.length csq10::Loq10)++L)) _ at M
   revert a
   refine Aa<|fun a F=>⟨Keep Gq10 [.blk b4 [.slice aoq10 ((Ge c l x).1.length) ((Ge c l x).1.length)] 54,.blk b3 [.int .u8 ((x.kind:Nat):Int),.int .i64 x.at_,.int .i64 x.count,.int .i64 x.to,.slice na x.items.length nc] 65,.blk b2 [.slice a1 l.length c1] 54,.blk b1 [.slice kca c.kinds.length kcc,.int .i64 c.cap] 51],M.keep (Gle.refl _) (by simp),?_⟩
   revert a
   refine k_f (fun a F w _=>Gm F rfl) rfl<|D1<|Ad<|Aj<|fun a F=>Cb F M (k:=0) rfl rfl Bb rfl rfl rfl rfl ?_
   rw [Xu (by omega)]
   exact ⟨_,_,hGq10,M.weaken (.cons _ (.cons _ (.cons _ (.cons _ (sR _))))),aoq10,csq10,Loq10,rfl,rfl,Eoq10⟩
open Go Go.Y Go.Proofs
set_option linter.unusedSimpArgs false
set_option linter.unusedVariables false
open Go Go.Y Go.Proofs
variable {w0 w:World} {G:A4} {L:List Res}
set_option linter.unusedSimpArgs false
set_option linter.unusedVariables false
theorem Acb (M:Mem w0 G L w) {c:RulesD} {kca:Option Addr} {kcc:Nat} (SC:Ay Du 9 G (.slice kca c.kinds.length kcc) c.kinds) {a1:Option Addr} {c1 i:Nat} {l:List EntD} {ns:List NotD} (S:Ay C2 6 G (.slice a1 (C7 c l ns i).1.length c1) (C7 c l ns i).1) (hck:Bw c l=0) (hR:(C7 c l ns i).2=0) {x:NotD} {na:Option Addr} {nc:Nat} (hN:x.kind < 256∧A2 .i64 x.at_∧A2 .i64 x.count∧A2 .i64 x.to∧x.items.length≤9223372036854775807) (SI:Ay Cn 4 G (.slice na x.items.length nc) x.items) (hx:ns[i]?=some x) (hNX:∀ x∈ns,x.items.length≤900000) :
  Calls Tryz.prog 28 #[.agg #[.slice kca c.kinds.length kcc,.int .i64 c.cap],.agg #[.slice a1 (C7 c l ns i).1.length c1],.agg #[.int .u8 ((x.kind:Nat):Int),.int .i64 x.at_,.int .i64 x.count,.int .i64 x.to,.slice na x.items.length nc]] w (Ij w0 G (Jp L (C7 c l ns (i+1)))):=by
 rw [Ir hR hx,← Xu (U2 hck hR)]
 exact Za M SC S hN SI (hNX _ (List.mem_of_getElem? hx))
theorem Zj (M:Mem w0 G L w) {c:RulesD} {kca:Option Addr} {kcc:Nat} (SC:Ay Du 9 G (.slice kca c.kinds.length kcc) c.kinds) {a1:Option Addr} {c1:Nat} {l:List EntD} (S:Ay C2 6 G (.slice a1 l.length c1) l) (hck:Bw c l=0) {ns:List NotD}:Calls Tryz.prog 69 #[.agg #[.slice kca c.kinds.length kcc,.int .i64 c.cap],.agg #[.slice a1 l.length c1],.int .i64 0,.int .i64 0] w (Ij w0 G (Jp L (C7 c l ns 0))):=by
 rw [Aiq,← rem_00]
 exact Oz M SC S hck
theorem Agk (M:Mem w0 G L w) {c:RulesD} {kca:Option Addr} {kcc:Nat} (SC:Ay Du 9 G (.slice kca c.kinds.length kcc) c.kinds) {a1:Option Addr} {c1:Nat} {l:List EntD} (S:Ay C2 6 G (.slice a1 l.length c1) l)  {an:Option Addr} {cn:Nat} {ns:List NotD} (SN:Ay Fb 5 G (.slice an ns.length cn) ns) (hNX:∀ x∈ns,x.items.length≤900000):Calls Tryz.prog 25 #[.agg #[.slice kca c.kinds.length kcc,.int .i64 c.cap],.agg #[.slice a1 l.length c1],.slice an ns.length cn] w (Ij w0 G (fun G' L' v=>∃ (a:Option Addr) (cs:List Value) (Ls:List Res),v=.tuple #[.agg #[.slice a (P9 c l ns).1.length (P9 c l ns).1.length],.int .i64 (((P9 c l ns).2.1:Nat):Int),.int .i64 (P9 c l ns).2.2]∧L' = (Cw a (P9 c l ns).1.length cs::(Ls++L))∧Els (Nx Ls) 6 G' cs (P9 c l ns).1)):=by
 have bS:=S.bound
 have bN:=SN.bound
 refine Az (vs:=[_,_,_]) Tryz.func25 rfl (n:=53) rfl rfl<|Ab<|Ac<|C4 M rfl rfl rfl<|?_;clear M;intro b1 w M
 refine C4 M rfl rfl rfl<|?_;clear M;intro b2 w M
 refine Cz M Bb rfl rfl<|?_;clear M;intro b3 w M
 refine Af rfl<|Af rfl<|Aa<|Ad<|Ab<|Ab<|Ac<|Ap (fun a F=>Am Dv rfl (F.ev rfl) (cs:=[.slice kca c.kinds.length kcc,.int .i64 c.cap]) rfl (M.cellsL (k:=2) rfl rfl)) rfl<|Ap (fun a F=>Am Bb rfl (F.ev rfl) (cs:=[.slice a1 l.length c1]) rfl (M.cellsL (k:=1) rfl rfl)) rfl<|Br Alm rfl rfl (L8 (c:=c) (l:=l) M SC S)<|?_;clear M;rintro _ w M rfl
 refine Af rfl<|Aa<|Ad<|Ab<|Ac<|Ae rfl<|D9 rfl rfl<|Aa<|Ad<|Av rfl ?_ ?_
 ·intro h5b
  have h5:=dF (Ag h5b)
  refine Ab<|Ac<|Ap (fun a F=>Ba (cs:=[.slice none 0 0]) (ps:=[]) Bb.k rfl Bb (F.evp rfl) rfl) rfl<|Ae rfl<|fun a F=>?_
  refine Ar F M Bb (k:=0) rfl rfl rfl (us:=[.slice none 0 0]) rfl rfl (by simp [Value.oneCell']) (by simp) ?_;clear F M a;intro w a M F
  change Mem w0 G (.blk b3 [.slice none 0 0] 54::_::_::L) _ at M
  revert a
  refine Af rfl<|Af rfl<|Aa<|Ad<|Aj<|Aw<|fun a F=>Il F M (k:=0) rfl rfl Bb rfl rfl rfl rfl rfl ?_
  rw [allE_no (by omega)]
  exact ⟨_,_,(Gle.refl _),(M.weaken (.cons _ (.cons _ (.cons _ (sR _))))).nilrow 69 6,none,[],[],rfl,rfl,Els.nil⟩
 ·intro h6b
  have h6:=dT (Ah h6b)
  refine Au<|Ad<|Ab<|Ab<|?_
  have hck:Bw c l=0:=by omega
  refine Ac<|Ae rfl<|Cg E5.k rfl<|Dn rfl rfl<|Aa<|Ad<|Av rfl ?_ ?_
  ·intro h7b
   have h7:=dT h7b
   refine Ab<|Ac<|Ap (fun a F=>Ba (cs:=[.slice none 0 0]) (ps:=[]) Bb.k rfl Bb (F.evp rfl) rfl) rfl<|fun a F=>?_
   refine Ar F M Bb (k:=0) rfl rfl rfl (us:=[.slice none 0 0]) rfl rfl (by simp [Value.oneCell']) (by simp) ?_;clear F M a;intro w a M F
   change Mem w0 G (.blk b3 [.slice none 0 0] 54::_::_::L) _ at M
   revert a
   refine Af rfl<|Af rfl<|Aa<|Ad<|Aj<|Aw<|fun a F=>Il F M (k:=0) rfl rfl Bb rfl rfl rfl rfl rfl ?_
   rw [(Pd (by omega)).trans (all_3 (by omega))]
   exact ⟨_,_,(Gle.refl _),(M.weaken (.cons _ (.cons _ (.cons _ (sR _))))).nilrow 69 6,none,[],[],rfl,rfl,Els.nil⟩
  ·intro h8b
   have h8:=dF h8b
   refine Au<|Ad<|Ab<|Ac<|Ap (fun a F=>Am Dv rfl (F.ev rfl) (cs:=[.slice kca c.kinds.length kcc,.int .i64 c.cap]) rfl (M.cellsL (k:=2) rfl rfl)) rfl<|Ap (fun a F=>Am Bb rfl (F.ev rfl) (cs:=[.slice a1 l.length c1]) rfl (M.cellsL (k:=1) rfl rfl)) rfl<|fun a F=>?_
   refine Dz F ent69 rfl rfl (Zj (ns:=ns) M SC S hck) ?_;clear F M a;rintro _ Gq9 _ w a hGq9 M ⟨aoq9,csq9,Loq9,rfl,rfl,Eoq9⟩ F
   replace SC:=SC.mono Bg hGq9
   replace S:=S.mono Ax hGq9
   replace SN:=SN.mono Bm hGq9
   have M:=M.perm (Cm (Cw aoq9 (C7 c l ns 0).1.length csq9::Loq9) [.blk b3 [.slice none 0 0] 54,.blk b2 [.slice a1 l.length c1] 54,.blk b1 [.slice kca c.kinds.length kcc,.int .i64 c.cap] 51] L)
   change Mem w0 Gq9 (.blk b3 [.slice none 0 0] 54::.blk b2 [.slice a1 l.length c1] 54::.blk b1 [.slice kca c.kinds.length kcc,.int .i64 c.cap] 51::((Cw aoq9 (C7 c l ns 0).1.length csq9::Loq9)++L)) _ at M
   revert a
   refine Ae rfl<|Ch rfl rfl<|Ch rfl rfl<|fun a F=>?_
   refine Ar F M Bb (k:=0) rfl rfl rfl (us:=[.slice aoq9 ((C7 c l ns 0).1.length) ((C7 c l ns 0).1.length)]) rfl rfl (by simp [Value.oneCell']) (by simp) ?_;clear F M a;intro w a M F
   change Mem w0 Gq9 (.blk b3 [.slice aoq9 ((C7 c l ns 0).1.length) ((C7 c l ns 0).1.length)] 54::_::_::((Cw aoq9 (C7 c l ns 0).1.length csq9::Loq9)++L)) _ at M
   revert a
   refine Af rfl<|Aa<|Ad<|Ab<|Ab<|Ac<|Ae rfl<|Cg E5.k rfl<|Ae rfl<|Aa<|Ad<|A3<|fun a F=>B8 (fun m a' w'=>∃ (i:Nat),∃ (ao:Option Addr),∃ (cso:List Value),∃ (Lo:List Res),∃ (z:Int),m=ns.length - i∧∃ G10,Gle Gq9 G10∧Fits 53 a' [(2,.slice an ns.length cn),(3,.pointer (some ⟨b1,0,none⟩)),(4,.pointer (some ⟨b2,0,none⟩)),(6,.pointer (some ⟨b3,0,none⟩)),(29,.slice an ns.length cn),(30,.int .i64 ((ns.length:Nat):Int)),(31,.int .i64 ((i:Nat):Int)),(8,.int .i64 z)]∧Mem w0 G10 (.blk b3 [.slice ao ((C7 c l ns i).1.length) ((C7 c l ns i).1.length)] 54::.blk b2 [.slice a1 l.length c1] 54::.blk b1 [.slice kca c.kinds.length kcc,.int .i64 c.cap] 51::((Cw ao (C7 c l ns i).1.length cso::Lo)++L)) w'∧(i≤ns.length)∧((C7 c l ns i).2=0)∧(Els (Nx Lo) 6 G10 cso (C7 c l ns i).1)∧(z=0)) _ ⟨0,aoq9,csq9,Loq9,_,rfl,Gq9,Gle.refl _,F.to ⟨rfl,rfl,rfl,rfl,rfl,rfl,rfl,rfl,trivial⟩,M,Nat.zero_le _,rfl,Eoq9,rfl⟩ ?_
   clear F M
   rintro m a w ⟨i,ao,cso,Lo,z,rfl,G10,hG10,F,M,hi,hR,Eo,hz⟩
   replace SC:=SC.mono Bg hG10
   replace S:=S.mono Ax hG10
   replace SN:=SN.mono Bm hG10
   revert a
   refine Ab<|Ac<|Df rfl rfl<|Aa<|Ad<|Ab<|Av rfl ?_ ?_
   ·intro h11b
    have h11:=dT h11b
    refine Au<|Ad<|Ab<|A3<|Ab<|Ac<|Ae rfl<|?_
    obtain ⟨Xe12,hXe12⟩:=Be (xs:=ns) (i:=i) (by omega)
    obtain ⟨be12,oe12,_,Ie12,_,Ae12,hTe12⟩:=SN.at hXe12
    obtain ⟨nae12,nce12,rfl,h1e12,h2e12,h3e12,h4e12,h5e12,SIe12⟩:=hTe12
    have hNe12:Xe12.kind < 256∧A2 .i64 Xe12.at_∧A2 .i64 Xe12.count∧A2 .i64 Xe12.to∧Xe12.items.length≤9223372036854775807:=⟨h1e12,h2e12,h3e12,h4e12,h5e12⟩
    refine Fp E5.k Bf Ie12 rfl rfl<|Ap (fun a F=>Am Bf rfl (F.ev rfl) (cs:=[.int .u8 ((Xe12.kind:Nat):Int),.int .i64 Xe12.at_,.int .i64 Xe12.count,.int .i64 Xe12.to,.slice nae12 Xe12.items.length nce12]) rfl (M.cellsA Ae12 0 (by omega) rfl)) rfl<|Cz M Bf rfl rfl<|?_;clear M;intro b13 w M
    refine Af rfl<|fun a F=>?_
    refine Ar F M Bf (k:=0) rfl rfl rfl (us:=[.int .u8 ((Xe12.kind:Nat):Int),.int .i64 Xe12.at_,.int .i64 Xe12.count,.int .i64 Xe12.to,.slice nae12 Xe12.items.length nce12]) rfl rfl (by simp [Value.oneCell']) (by simp) ?_;clear F M a;intro w a M F
    change Mem w0 G10 (.blk b13 [.int .u8 ((Xe12.kind:Nat):Int),.int .i64 Xe12.at_,.int .i64 Xe12.count,.int .i64 Xe12.to,.slice nae12 Xe12.items.length nce12] 65::_::_::_::((Cw ao (C7 c l ns i).1.length cso::Lo)++L)) _ at M
    revert a
    refine Aa<|Ad<|Ab<|?_
    obtain ⟨Gg,hGg,M,Sg⟩:=Ou (M.perm (Cm [.blk b13 [.int .u8 ((Xe12.kind:Nat):Int),.int .i64 Xe12.at_,.int .i64 Xe12.count,.int .i64 Xe12.to,.slice nae12 Xe12.items.length nce12] 65,.blk b3 [.slice ao ((C7 c l ns i).1.length) ((C7 c l ns i).1.length)] 54,.blk b2 [.slice a1 l.length c1] 54,.blk b1 [.slice kca c.kinds.length kcc,.int .i64 c.cap] 51] (Cw ao (C7 c l ns i).1.length cso::Lo) L)) Eo
    replace SC:=SC.mono Bg hGg
    replace S:=S.mono Ax hGg
    replace SN:=SN.mono Bm hGg
    replace Ae12:=Ae12.mono hGg
    replace SIe12:=SIe12.mono A0 hGg
    change Mem w0 Gg (.blk b13 [.int .u8 ((Xe12.kind:Nat):Int),.int .i64 Xe12.at_,.int .i64 Xe12.count,.int .i64 Xe12.to,.slice nae12 Xe12.items.length nce12] 65::.blk b3 [.slice ao ((C7 c l ns i).1.length) ((C7 c l ns i).1.length)] 54::.blk b2 [.slice a1 l.length c1] 54::.blk b1 [.slice kca c.kinds.length kcc,.int .i64 c.cap] 51::L) _ at M
    refine Ac<|Ap (fun a F=>Am Dv rfl (F.ev rfl) (cs:=[.slice kca c.kinds.length kcc,.int .i64 c.cap]) rfl (M.cellsL (k:=3) rfl rfl)) rfl<|Ap (fun a F=>Am Bb rfl (F.ev rfl) (cs:=[.slice ao ((C7 c l ns i).1.length) ((C7 c l ns i).1.length)]) rfl (M.cellsL (k:=1) rfl rfl)) rfl<|Ap (fun a F=>Am Bf rfl (F.ev rfl) (cs:=[.int .u8 ((Xe12.kind:Nat):Int),.int .i64 Xe12.at_,.int .i64 Xe12.count,.int .i64 Xe12.to,.slice nae12 Xe12.items.length nce12]) rfl (M.cellsL (k:=0) rfl rfl)) rfl<|fun a F=>?_
    refine Dz F ent28 rfl rfl (Acb (ns:=ns) M SC Sg hck hR hNe12 SIe12 hXe12 hNX) ?_;clear F M a;rintro _ Gq15 _ w a hGq15 M ⟨aoq15,csq15,Loq15,rfl,rfl,Eoq15⟩ F
    replace SC:=SC.mono Bg hGq15
    replace S:=S.mono Ax hGq15
    replace SN:=SN.mono Bm hGq15
    replace Ae12:=Ae12.mono hGq15
    replace SIe12:=SIe12.mono A0 hGq15
    replace Sg:=Sg.mono Ax hGq15
    have M:=M.perm (Cm (Cw aoq15 ((C7 c l ns (i+1))).1.length csq15::Loq15) [.blk b13 [.int .u8 ((Xe12.kind:Nat):Int),.int .i64 Xe12.at_,.int .i64 Xe12.count,.int .i64 Xe12.to,.slice nae12 Xe12.items.length nce12] 65,.blk b3 [.slice ao ((C7 c l ns i).1.length) ((C7 c l ns i).1.length)] 54,.blk b2 [.slice a1 l.length c1] 54,.blk b1 [.slice kca c.kinds.length kcc,.int .i64 c.cap] 51] L)
    change Mem w0 Gq15 (.blk b13 [.int .u8 ((Xe12.kind:Nat):Int),.int .i64 Xe12.at_,.int .i64 Xe12.count,.int .i64 Xe12.to,.slice nae12 Xe12.items.length nce12] 65::.blk b3 [.slice ao ((C7 c l ns i).1.length) ((C7 c l ns i).1.length)] 54::.blk b2 [.slice a1 l.length c1] 54::.blk b1 [.slice kca c.kinds.length kcc,.int .i64 c.cap] 51::((Cw aoq15 ((C7 c l ns (i+1))).1.length csq15::Loq15)++L)) _ at M
    revert a
    refine Ae rfl<|Ch rfl rfl<|Ch rfl rfl<|fun a F=>?_
    refine Ar F M Bb (k:=1) rfl rfl rfl (us:=[.slice aoq15 (((C7 c l ns (i+1))).1.length) (((C7 c l ns (i+1))).1.length)]) rfl rfl (by simp [Value.oneCell']) (by simp) ?_;clear F M a;intro w a M F
    change Mem w0 Gq15 (.blk b13 [.int .u8 ((Xe12.kind:Nat):Int),.int .i64 Xe12.at_,.int .i64 Xe12.count,.int .i64 Xe12.to,.slice nae12 Xe12.items.length nce12] 65::.blk b3 [.slice aoq15 (((C7 c l ns (i+1))).1.length) (((C7 c l ns (i+1))).1.length)] 54::_::_::((Cw aoq15 ((C7 c l ns (i+1))).1.length csq15::Loq15)++L)) _ at M
    revert a
    refine Af rfl<|Aa<|Ad<|Ab<|Ac<|Ae rfl<|D9 rfl rfl<|Aa<|Ad<|Av rfl ?_ ?_
    ·intro h16b
     have h16:=dF (Ag h16b)
     refine Ab<|Ac<|Ap (fun a F=>Ba (cs:=[.slice none 0 0]) (ps:=[]) Bb.k rfl Bb (F.evp rfl) rfl) rfl<|Ae rfl<|Ae rfl<|fun a F=>?_
     refine Ar F M Bb (k:=1) rfl rfl rfl (us:=[.slice none 0 0]) rfl rfl (by simp [Value.oneCell']) (by simp) ?_;clear F M a;intro w a M F
     change Mem w0 Gq15 (.blk b13 [.int .u8 ((Xe12.kind:Nat):Int),.int .i64 Xe12.at_,.int .i64 Xe12.count,.int .i64 Xe12.to,.slice nae12 Xe12.items.length nce12] 65::.blk b3 [.slice none 0 0] 54::_::_::((Cw aoq15 ((C7 c l ns (i+1))).1.length csq15::Loq15)++L)) _ at M
     revert a
     refine Af rfl<|Af rfl<|Aa<|Ad<|Aj<|Bo<|Aw<|Aw<|Bo<|Aw<|fun a F=>Il F M (k:=1) rfl rfl Bb rfl rfl rfl rfl rfl ?_
     rw [(Pd hck).trans (all_x (by omega) hR (by omega) (by omega))]
     exact ⟨_,_,(((hGq9.trans hG10).trans hGg).trans hGq15),(M.weaken (.cons _ (.cons _ (.cons _ (.cons _ (List.sublist_append_right _ _)))))).nilrow 69 6,none,[],[],rfl,rfl,Els.nil⟩
    ·intro h17b
     have h17:=dT (Ah h17b)
     refine Au<|C0<|Ad<|Ac<|B9 rfl rfl<|Ae rfl<|Aa<|Ad<|fun a F=>?_
     exact ⟨_,by omega,i+1,aoq15,csq15,Loq15,_,rfl,Gq15,((hG10.trans hGg).trans hGq15),F.to ⟨rfl,rfl,rfl,rfl,rfl,rfl,rfl,rfl,trivial⟩,(M.weaken (.cons _ (.cons_cons _ (.cons_cons _ (.cons_cons _ (sR _)))))),by omega,by omega,Eoq15,by omega⟩
   ·intro h18b
    have h18:=dF h18b
    refine B1<|Bx<|Bx<|Dj<|Ad<|Ab<|Ac<|Ap (fun a F=>Am Bb rfl (F.ev rfl) (cs:=[.slice ao ((C7 c l ns i).1.length) ((C7 c l ns i).1.length)]) rfl (M.cellsL (k:=0) rfl rfl)) rfl<|Ae rfl<|Cg E5.k rfl<|Ae rfl<|fun a F=>?_
    refine Ar F M Bb (k:=0) rfl rfl rfl (us:=[.slice ao ((C7 c l ns i).1.length) ((C7 c l ns i).1.length)]) rfl rfl (by simp [Value.oneCell']) (by simp) ?_;clear F M a;intro w a M F
    change Mem w0 G10 (.blk b3 [.slice ao ((C7 c l ns i).1.length) ((C7 c l ns i).1.length)] 54::_::_::((Cw ao (C7 c l ns i).1.length cso::Lo)++L)) _ at M
    revert a
    refine Af rfl<|Af rfl<|Aa<|Ad<|Aj<|fun a F=>Il F M (k:=0) rfl rfl Bb rfl rfl rfl rfl rfl ?_
    subst hz;rw [Pd hck,all_0 (by omega) hR (by omega)]
    exact ⟨_,_,(hGq9.trans hG10),M.weaken (.cons _ (.cons _ (.cons _ (sR _)))),ao,cso,Lo,rfl,rfl,Eo⟩
open Go Go.Y Go.Proofs
variable {w0 w:World} {G:A4} {L:List Res}
set_option linter.unusedSimpArgs false
set_option linter.unusedVariables false
deriving instance DecidableEq for EntD
deriving instance DecidableEq for NotD
theorem Ajv {x y:NotD} (h1:((x.kind:Nat):Int)=((y.kind:Nat):Int)) (h2:x.at_=y.at_) (h3:x.count=y.count) (h4:x.to=y.to) (h5:x.items=y.items):x=y:=by
 cases x;cases y;simp only [NotD.mk.injEq] at *;exact ⟨by omega,h2,h3,h4,h5⟩
theorem Yk (M:Mem w0 G L w) {x y:NotD} {na ma:Option Addr} {nc mc:Nat} (hN:x.kind < 256∧A2 .i64 x.at_∧A2 .i64 x.count∧A2 .i64 x.to∧x.items.length≤9223372036854775807) (SI:Ay Cn 4 G (.slice na x.items.length nc) x.items) (hM:y.kind < 256∧A2 .i64 y.at_∧A2 .i64 y.count∧A2 .i64 y.to∧y.items.length≤9223372036854775807) (SJ:Ay Cn 4 G (.slice ma y.items.length mc) y.items):Calls Tryz.prog 40 #[.agg #[.int .u8 ((x.kind:Nat):Int),.int .i64 x.at_,.int .i64 x.count,.int .i64 x.to,.slice na x.items.length nc],.agg #[.int .u8 ((y.kind:Nat):Int),.int .i64 y.at_,.int .i64 y.count,.int .i64 y.to,.slice ma y.items.length mc]] w (Cl w0 G L fun v=>v=.int .i64 (if x=y then (1:Int) else 0)):=by
 refine Az (vs:=[_,_]) Tryz.func40 rfl (n:=36) rfl rfl<|Ab<|Ac<|C4 M rfl rfl rfl<|?_;clear M;intro b1 w M
 refine C4 M rfl rfl rfl<|?_;clear M;intro b2 w M
 refine Af rfl<|Aa<|Ad<|Ab<|Ab<|Ac<|Bc Bf.k rfl rfl<|Bl Ew M 1 rfl rfl rfl rfl<|Bc Bf.k rfl rfl<|Bl Ew M 0 rfl rfl rfl rfl<|D9 rfl rfl<|Ae rfl<|?_
 rcases bE (!(decide (((x.kind:Nat):Int)=((y.kind:Nat):Int)))) with h3b | h4b
 ·skip
  have h3:=dF (Ag h3b)
  have h3c:(decide (((x.kind:Nat):Int)=((y.kind:Nat):Int)))=false:=(Ag h3b)
  refine g_f rfl (Ak h3c)<|g_f rfl (Ak h3c)<|g_f rfl (Ak h3c)<|g_f rfl (Ak h3c)<|g_f rfl (Ak h3c)<|Bi rfl (Ak h3c) rfl<|Ae rfl<|g_f rfl rfl<|g_f rfl rfl<|g_f rfl rfl<|g_f rfl rfl<|g_f rfl rfl<|Bi rfl rfl rfl<|Ae rfl<|g_f rfl rfl<|g_f rfl rfl<|g_f rfl rfl<|g_f rfl rfl<|g_f rfl rfl<|Bi rfl rfl rfl<|Aa<|Ad<|Bk rfl rfl<|Ab<|?_
  refine Ac<|Af rfl<|Aa<|Ad<|Aj<|Aw<|Al rfl rfl<|?_
  exact ⟨M.weaken (.cons _ (.cons _ (sR _))),by rw [if_neg (fun h_=>by subst h_;clear M;omega)]⟩
 ·skip
  have h4:=dT (Ah h4b)
  have h4c:(decide (((x.kind:Nat):Int)=((y.kind:Nat):Int)))=true:=(Ah h4b)
  refine g_t rfl (Ai h4c)<|Bc Bf.k rfl rfl<|g_t rfl (Ai h4c)<|Bl B7 M 1 rfl rfl rfl rfl<|g_t rfl (Ai h4c)<|Bc Bf.k rfl rfl<|g_t rfl (Ai h4c)<|Bl B7 M 0 rfl rfl rfl rfl<|g_t rfl (Ai h4c)<|D9 rfl rfl<|Bh rfl (Ai h4c) rfl<|Ae rfl<|?_
  rcases bE (!(decide (x.at_=y.at_))) with h5b | h6b
  ·skip
   have h5:=dF (Ag h5b)
   have h5c:(decide (x.at_=y.at_))=false:=(Ag h5b)
   refine g_f rfl (Ak h5c)<|g_f rfl (Ak h5c)<|g_f rfl (Ak h5c)<|g_f rfl (Ak h5c)<|g_f rfl (Ak h5c)<|Bi rfl (Ak h5c) rfl<|Ae rfl<|g_f rfl rfl<|g_f rfl rfl<|g_f rfl rfl<|g_f rfl rfl<|g_f rfl rfl<|Bi rfl rfl rfl<|Aa<|Ad<|Bk rfl rfl<|Ab<|Ac<|Af rfl<|Aa<|Ad<|Aj<|Aw<|Al rfl rfl<|?_
   exact ⟨M.weaken (.cons _ (.cons _ (sR _))),by rw [if_neg (fun h_=>by subst h_;clear M;omega)]⟩
  ·skip
   have h6:=dT (Ah h6b)
   have h6c:(decide (x.at_=y.at_))=true:=(Ah h6b)
   refine g_t rfl (Ai h6c)<|Bc Bf.k rfl rfl<|g_t rfl (Ai h6c)<|Bl B7 M 1 rfl rfl rfl rfl<|g_t rfl (Ai h6c)<|Bc Bf.k rfl rfl<|g_t rfl (Ai h6c)<|Bl B7 M 0 rfl rfl rfl rfl<|g_t rfl (Ai h6c)<|D9 rfl rfl<|Bh rfl (Ai h6c) rfl<|Ae rfl<|?_
   rcases bE (!(decide (x.count=y.count))) with h7b | h8b
   ·skip
    have h7:=dF (Ag h7b)
    have h7c:(decide (x.count=y.count))=false:=(Ag h7b)
    refine g_f rfl (Ak h7c)<|g_f rfl (Ak h7c)<|g_f rfl (Ak h7c)<|g_f rfl (Ak h7c)<|g_f rfl (Ak h7c)<|Bi rfl (Ak h7c) rfl<|Aa<|Ad<|Bk rfl rfl<|Ab<|Ac<|Af rfl<|Aa<|Ad<|Aj<|Aw<|Al rfl rfl<|?_
    exact ⟨M.weaken (.cons _ (.cons _ (sR _))),by rw [if_neg (fun h_=>by subst h_;clear M;omega)]⟩
   ·skip
    have h8:=dT (Ah h8b)
    have h8c:(decide (x.count=y.count))=true:=(Ah h8b)
    refine g_t rfl (Ai h8c)<|Bc Bf.k rfl rfl<|g_t rfl (Ai h8c)<|Bl B7 M 1 rfl rfl rfl rfl<|g_t rfl (Ai h8c)<|Bc Bf.k rfl rfl<|g_t rfl (Ai h8c)<|Bl B7 M 0 rfl rfl rfl rfl<|g_t rfl (Ai h8c)<|D9 rfl rfl<|Bh rfl (Ai h8c) rfl<|Aa<|Ad<|Av rfl ?_ ?_
    ·intro h9b
     have h9:=dF (Ag h9b)
     refine Ab<|Ac<|Af rfl<|Aa<|Ad<|Aj<|Aw<|Al rfl rfl<|?_
     exact ⟨M.weaken (.cons _ (.cons _ (sR _))),by rw [if_neg (fun h_=>by subst h_;clear M;omega)]⟩
    ·intro h10b
     have h10:=dT (Ah h10b)
     refine Au<|Ad<|Ab<|Ac<|Bc Bf.k rfl rfl<|Bl B5 M 1 rfl rfl rfl rfl<|Bc Bf.k rfl rfl<|Bl B5 M 0 rfl rfl rfl rfl<|Br ent13 rfl rfl (Uh (xs:=x.items) (ys:=y.items) M SI SJ)<|?_;clear M;rintro _ w M rfl
     refine Af rfl<|Aa<|Ad<|Aj<|Al rfl rfl<|?_
     exact ⟨M.weaken (.cons _ (.cons _ (sR _))),by by_cases h_:x.items=y.items;rw [if_pos h_,if_pos (Ajv (by omega) (by omega) (by omega) (by omega) h_)];rw [if_neg h_,if_neg (fun h9_=>h_ (congrArg NotD.items h9_))]⟩
theorem R8 (M:Mem w0 G L w) {a1:Option Addr} {c1:Nat} {xs:List NotD} (S:Ay Fb 5 G (.slice a1 xs.length c1) xs) {a2:Option Addr} {c2:Nat} {ys:List NotD} (T:Ay Fb 5 G (.slice a2 ys.length c2) ys):Calls Tryz.prog 34 #[.slice a1 xs.length c1,.slice a2 ys.length c2] w (Cl w0 G L fun v=>v=.int .i64 (if xs=ys then (1:Int) else 0)):=by
 have bS:=S.bound
 have bT:=T.bound
 refine Az (vs:=[_,_]) Tryz.func34 rfl (n:=27) rfl rfl<|Ab<|Ac<|Af rfl<|Aa<|Ad<|Ab<|Ab<|Ac<|Ae rfl<|Cg E5.k rfl<|Ae rfl<|Cg E5.k rfl<|D9 rfl rfl<|Aa<|Ad<|Av rfl ?_ ?_
 ·intro h1b
  have h1:=dF (Ag h1b)
  refine Ab<|Ac<|Af rfl<|Aa<|Ad<|Aj<|Aw<|Al rfl rfl<|?_
  exact ⟨M,by rw [if_neg (fun h_=>absurd (congrArg List.length h_) (by omega))]⟩
 ·intro h2b
  have h2:=dT (Ah h2b)
  refine Au<|Ad<|Ab<|Ab<|Ac<|Af rfl<|Aa<|Ad<|A3<|fun a F=>B8 (fun m a' w'=>∃ (i:Nat),m=xs.length - i∧Fits 27 a' [(0,.slice a1 xs.length c1),(1,.slice a2 ys.length c2),(5,.int .i64 ((i:Nat):Int))]∧Mem w0 G (L) w'∧(i≤xs.length)∧(∀ m,m < i→xs[m]?=ys[m]?)) _ ⟨0,rfl,F.to ⟨rfl,rfl,rfl,trivial⟩,M,Nat.zero_le _,fun m h=>by omega⟩ ?_
  clear F M
  rintro m a w ⟨i,rfl,F,M,hi,hA⟩
  revert a
  refine Ab<|Ab<|Ac<|Ae rfl<|Ae rfl<|Cg E5.k rfl<|Df rfl rfl<|Aa<|Ad<|Av rfl ?_ ?_
  ·intro h3b
   have h3:=dT h3b
   refine Au<|Ad<|Ab<|A3<|Ab<|fun a F=>Fw [(true,0),(true,1),(true,2),(true,3),(true,4),(true,5),(true,6),(true,7),(false,8),(true,9)] (Keep G []) rfl (by kernel_rfl) (fun c a d v w h=>by cases d <;> exact h) ((M.drew _).keep (Gle.refl _) (by simp)) ?_
   replace M:=M.drew (w.drawn+1)
   revert a
   refine l_r (fun a F w M=>Cj F rfl) rfl<|l_r (fun a F w M=>Cj F rfl) rfl<|?_
   obtain ⟨Xe4,hXe4⟩:=Be (xs:=xs) (i:=i) (by omega)
   obtain ⟨be4,oe4,_,Ie4,_,Ae4,hTe4⟩:=S.at hXe4
   obtain ⟨nae4,nce4,rfl,h1e4,h2e4,h3e4,h4e4,h5e4,SIe4⟩:=hTe4
   have hNe4:Xe4.kind < 256∧A2 .i64 Xe4.at_∧A2 .i64 Xe4.count∧A2 .i64 Xe4.to∧Xe4.items.length≤9223372036854775807:=⟨h1e4,h2e4,h3e4,h4e4,h5e4⟩
   refine l_r (fun a F w M=>Ca E5.k Bf (F.ev rfl) (F.ev rfl) (by omega) Ie4) rfl<|l_r (fun a F w M=>Am Bf rfl (F.ev rfl) (cs:=[.int .u8 ((Xe4.kind:Nat):Int),.int .i64 Xe4.at_,.int .i64 Xe4.count,.int .i64 Xe4.to,.slice nae4 Xe4.items.length nce4]) rfl (M.cellsA Ae4 0 (by omega) rfl)) rfl<|l_r (fun a F w M=>Cj F rfl) rfl<|l_r (fun a F w M=>Cj F rfl) rfl<|?_
   obtain ⟨Xe5,hXe5⟩:=Be (xs:=ys) (i:=i) (by omega)
   obtain ⟨be5,oe5,_,Ie5,_,Ae5,hTe5⟩:=T.at hXe5
   obtain ⟨nae5,nce5,rfl,h1e5,h2e5,h3e5,h4e5,h5e5,SIe5⟩:=hTe5
   have hNe5:Xe5.kind < 256∧A2 .i64 Xe5.at_∧A2 .i64 Xe5.count∧A2 .i64 Xe5.to∧Xe5.items.length≤9223372036854775807:=⟨h1e5,h2e5,h3e5,h4e5,h5e5⟩
   refine l_r (fun a F w M=>Ca E5.k Bf (F.ev rfl) (F.ev rfl) (by omega) Ie5) rfl<|l_r (fun a F w M=>Am Bf rfl (F.ev rfl) (cs:=[.int .u8 ((Xe5.kind:Nat):Int),.int .i64 Xe5.at_,.int .i64 Xe5.count,.int .i64 Xe5.to,.slice nae5 Xe5.items.length nce5]) rfl (M.cellsA Ae5 0 (by omega) rfl)) rfl<|l_a rfl<|Br ent40 rfl rfl (Yk (x:=Xe4) (y:=Xe5) M hNe4 SIe4 hNe5 SIe5)<|?_;clear M;rintro _ w M rfl
   refine Aa<|eK (C':=Keep G []) (M.keep (Gle.refl _) (by simp)) (fun w h=>h.mono (Gle.refl _) (by simp))<|l_r (fun a F w M=>Mo (F.ev rfl) (F.ev rfl)) rfl<|Gx<|Ad<|Av rfl ?_ ?_
   ·intro h6b
    have h6:=dT h6b
    refine Ab<|Ac<|Af rfl<|Aa<|Ad<|Aj<|Bo<|Aw<|Aw<|Bo<|Aw<|Al rfl rfl<|?_
    exact ⟨M,by rw [if_neg (Pr hXe4 hXe5 (fun h_=>by rw [if_pos h_] at *;omega))]⟩
   ·intro h7b
    have h7:=dF h7b
    refine Au<|C0<|Ad<|Ac<|Ae rfl<|B9 rfl rfl<|Af rfl<|Aa<|Ad<|fun a F=>?_
    exact ⟨_,by omega,i+1,rfl,F.to ⟨rfl,rfl,rfl,trivial⟩,M,by omega,Xo hA hXe4 hXe5 (Classical.byContradiction fun h_=>by rw [if_neg h_] at *;omega)⟩
  ·intro h8b
   have h8:=dF h8b
   refine B1<|Bx<|Bx<|Dj<|Ad<|Ab<|Ac<|Af rfl<|Aa<|Ad<|Aj<|Al rfl rfl<|?_
   exact ⟨M,by rw [if_pos (Aco hA (by omega) (by omega))]⟩
end Go.Proofs.YtmmhmcplegpenaaGreatDoor
