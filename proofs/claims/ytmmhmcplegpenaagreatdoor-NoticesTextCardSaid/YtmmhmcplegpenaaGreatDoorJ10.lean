/- The walks, part LK. · The walks, part LM. · The walks, part LN. · The walks, part LO. · The walks, part LP. -/
import Derived.Test.YtmmhmcplegpenaaGreatDoorJ9
namespace Go.Proofs.YtmmhmcplegpenaaGreatDoor
open Go Go.Y Go.Proofs
variable {w0 w:World} {G:A4} {L:List Res}
set_option linter.unusedSimpArgs false
set_option linter.unusedVariables false
theorem Fz (M:Mem w0 G L w):Calls Tryz.prog 75 #[] w (Ci w0 G L fun v=>v=.agg Hv.toArray):=by
 refine A0 (vs:=[]) Tryz.func75 rfl (n:=7) rfl rfl<|Ab<|Ac<|C6 M Gb rfl rfl<|?_;clear M;intro b1 w M
 refine Aa<|Ad<|Ab<|Ac<|Ar (fun a F=>Be (cs:=[.string (str ([105,110,115,101,114,116]:List UInt8)),.bool true,.bool false,.bool false,.bool true,.func (.func 122) #[] #[]]) (ps:=[(0,.string (str ([105,110,115,101,114,116]:List UInt8))),(1,.bool true),(2,.bool false),(3,.bool false),(4,.bool true),(5,.func (.func 122) #[] #[])]) Cb.k rfl Cb (F.evp rfl) rfl) rfl<|Ar (fun a F=>Be (cs:=[.string (str ([114,101,109,111,118,101]:List UInt8)),.bool true,.bool true,.bool false,.bool false,.func (.func 124) #[] #[]]) (ps:=[(0,.string (str ([114,101,109,111,118,101]:List UInt8))),(1,.bool true),(2,.bool true),(3,.bool false),(4,.bool false),(5,.func (.func 124) #[] #[])]) Cb.k rfl Cb (F.evp rfl) rfl) rfl<|Ar (fun a F=>Be (cs:=[.string (str ([109,111,118,101]:List UInt8)),.bool true,.bool true,.bool true,.bool false,.func (.func 125) #[] #[]]) (ps:=[(0,.string (str ([109,111,118,101]:List UInt8))),(1,.bool true),(2,.bool true),(3,.bool true),(4,.bool false),(5,.func (.func 125) #[] #[])]) Cb.k rfl Cb (F.evp rfl) rfl) rfl<|Ar (fun a F=>Be (cs:=[.string (str ([99,104,97,110,103,101]:List UInt8)),.bool true,.bool false,.bool false,.bool true,.func (.func 127) #[] #[]]) (ps:=[(0,.string (str ([99,104,97,110,103,101]:List UInt8))),(1,.bool true),(2,.bool false),(3,.bool false),(4,.bool true),(5,.func (.func 127) #[] #[])]) Cb.k rfl Cb (F.evp rfl) rfl) rfl<|Ar (fun a F=>Be (cs:=[.string (str ([114,101,115,101,116]:List UInt8)),.bool false,.bool false,.bool false,.bool true,.func (.func 129) #[] #[]]) (ps:=[(0,.string (str ([114,101,115,101,116]:List UInt8))),(1,.bool false),(2,.bool false),(3,.bool false),(4,.bool true),(5,.func (.func 129) #[] #[])]) Cb.k rfl Cb (F.evp rfl) rfl) rfl<|Ar (fun a F=>Fy F (ps:=[(1,.agg #[.string (str ([105,110,115,101,114,116]:List UInt8)),.bool true,.bool false,.bool false,.bool true,.func (.func 122) #[] #[]]),(2,.agg #[.string (str ([114,101,109,111,118,101]:List UInt8)),.bool true,.bool true,.bool false,.bool false,.func (.func 124) #[] #[]]),(3,.agg #[.string (str ([109,111,118,101]:List UInt8)),.bool true,.bool true,.bool true,.bool false,.func (.func 125) #[] #[]]),(4,.agg #[.string (str ([99,104,97,110,103,101]:List UInt8)),.bool true,.bool false,.bool false,.bool true,.func (.func 127) #[] #[]]),(5,.agg #[.string (str ([114,101,115,101,116]:List UInt8)),.bool false,.bool false,.bool false,.bool true,.func (.func 129) #[] #[]])]) (cs:=[.string (str ([]:List UInt8)),.bool false,.bool false,.bool false,.bool false,.nilFunc,.string (str ([105,110,115,101,114,116]:List UInt8)),.bool true,.bool false,.bool false,.bool true,.func (.func 122) #[] #[],.string (str ([114,101,109,111,118,101]:List UInt8)),.bool true,.bool true,.bool false,.bool false,.func (.func 124) #[] #[],.string (str ([109,111,118,101]:List UInt8)),.bool true,.bool true,.bool true,.bool false,.func (.func 125) #[] #[],.string (str ([99,104,97,110,103,101]:List UInt8)),.bool true,.bool false,.bool false,.bool true,.func (.func 127) #[] #[],.string (str ([114,101,115,101,116]:List UInt8)),.bool false,.bool false,.bool false,.bool true,.func (.func 129) #[] #[]]) Gb.k Gb Cb rfl rfl) rfl<|fun a F=>?_
 refine Av F M Gb (k:=0) rfl rfl rfl (us:=[.string (str ([]:List UInt8)),.bool false,.bool false,.bool false,.bool false,.nilFunc,.string (str ([105,110,115,101,114,116]:List UInt8)),.bool true,.bool false,.bool false,.bool true,.func (.func 122) #[] #[],.string (str ([114,101,109,111,118,101]:List UInt8)),.bool true,.bool true,.bool false,.bool false,.func (.func 124) #[] #[],.string (str ([109,111,118,101]:List UInt8)),.bool true,.bool true,.bool true,.bool false,.func (.func 125) #[] #[],.string (str ([99,104,97,110,103,101]:List UInt8)),.bool true,.bool false,.bool false,.bool true,.func (.func 127) #[] #[],.string (str ([114,101,115,101,116]:List UInt8)),.bool false,.bool false,.bool false,.bool true,.func (.func 129) #[] #[]]) rfl rfl (by simp [Value.oneCell']) (by simp) ?_;clear F M a;intro w a M F
 change Mem w0 G (.blk b1 [.string (str ([]:List UInt8)),.bool false,.bool false,.bool false,.bool false,.nilFunc,.string (str ([105,110,115,101,114,116]:List UInt8)),.bool true,.bool false,.bool false,.bool true,.func (.func 122) #[] #[],.string (str ([114,101,109,111,118,101]:List UInt8)),.bool true,.bool true,.bool false,.bool false,.func (.func 124) #[] #[],.string (str ([109,111,118,101]:List UInt8)),.bool true,.bool true,.bool true,.bool false,.func (.func 125) #[] #[],.string (str ([99,104,97,110,103,101]:List UInt8)),.bool true,.bool false,.bool false,.bool true,.func (.func 127) #[] #[],.string (str ([114,101,115,101,116]:List UInt8)),.bool false,.bool false,.bool false,.bool true,.func (.func 129) #[] #[]] 139::L) _ at M
 revert a
 refine Aa<|Ad<|Ak<|fun a F=>Lh F M (k:=0) rfl rfl Gb rfl rfl rfl ?_
 exact ⟨M.weaken (.cons _ (sR _)),rfl⟩
theorem Ha (M:Mem w0 G L w) {x:NotD} {na:Option Addr} {nc:Nat} (hN:x.kind < 256∧Aw .i64 x.at_∧Aw .i64 x.count∧Aw .i64 x.to∧x.items.length≤9223372036854775807) (SI:Az Co 4 G (.slice na x.items.length nc) x.items):Calls Tryz.prog 37 #[.agg #[.int .u8 ((x.kind:Nat):Int),.int .i64 x.at_,.int .i64 x.count,.int .i64 x.to,.slice na x.items.length nc]] w (Ci w0 G L fun v=>v=.int .i64 (D6 x)):=by
 refine A0 (vs:=[_]) Tryz.func37 rfl (n:=55) rfl rfl<|Ab<|Ac<|C1 M rfl rfl rfl<|?_;clear M;intro b1 w M
 refine Af rfl<|Aa<|Ad<|Ab<|Ab<|Ac<|A2 Bd.k rfl rfl<|Bi Ev M 0 rfl rfl rfl rfl<|C9 rfl rfl<|Ae rfl<|?_
 rcases bE (decide (((x.kind:Nat):Int) < 1)) with h2b | h3b
 ·skip
  have h2:=dT h2b
  refine g_f rfl h2b<|g_f rfl h2b<|g_f rfl h2b<|Bj rfl h2b rfl<|Aa<|Ad<|Bo rfl rfl<|Ab<|Ac<|Af rfl<|Aa<|Ad<|Ak<|Au<|Aj rfl rfl<|?_
  exact ⟨M.weaken (.cons _ (sR _)),by rw [V8 (by omega)]⟩
 ·skip
  have h3:=dF h3b
  refine g_t rfl h3b<|A2 Bd.k rfl rfl<|g_t rfl h3b<|Bi Ev M 0 rfl rfl rfl rfl<|g_t rfl h3b<|Df rfl rfl<|Bh rfl h3b rfl<|Aa<|Ad<|Ax rfl ?_ ?_
  ·intro h4b
   have h4:=dT h4b
   refine Ab<|Ac<|Af rfl<|Aa<|Ad<|Ak<|Au<|Aj rfl rfl<|?_
   exact ⟨M.weaken (.cons _ (sR _)),by rw [V8 (by omega)]⟩
  ·intro h5b
   have h5:=dF h5b
   refine Aq<|Ad<|Ab<|fun a F=>Pk (fun a' w'=>∃ (b3k:Nat),Fits 55 a' [(1,.pointer (some ⟨b1,0,none⟩)),(3,.pointer (some ⟨b3k,0,none⟩))]∧Mem w0 G (.blk b3k [.string (str (B1 x.kind)),.bool (decide (uAt x.kind)),.bool (decide (uCo x.kind)),.bool (decide (uTo x.kind)),.bool (decide (uIt x.kind)),.func (.func (Dt x.kind)) #[] #[]] 138::.blk b1 [.int .u8 ((x.kind:Nat):Int),.int .i64 x.at_,.int .i64 x.count,.int .i64 x.to,.slice na x.items.length nc] 65::L) w') ?_ ?_
   ·skip
    refine Zk (.run 1 (.run 2 (.act 0 (.run 3 (.act 4 (.act 5 .fin .no) .no)) (.act 4 (.act 0 (.run 3 (.act 5 .fin .no)) .no) .no)))) (Keep G [.blk b1 [.int .u8 ((x.kind:Nat):Int),.int .i64 x.at_,.int .i64 x.count,.int .i64 x.to,.slice na x.items.length nc] 65]) rfl (by kernel_rfl) (fun c a d v w h=>by cases d <;> exact h) ((M.drew _).keep (Gle.refl _) (by simp)) ?_
    replace M:=M.drew (w.drawn+1)
    revert a
    refine t_r (fun a F w M=>Cm Bd.k rfl F rfl) rfl<|t_r (fun a F w M=>Ap (agf Ev rfl) (F.ev rfl) (M.cellL (k:=0) rfl rfl)) rfl<|fun a F=>Cp ?_ rfl ?_
    ·skip
     revert a
     refine Bw N7 rfl rfl (Fz M)<|?_;clear M;rintro _ w M rfl
     refine Aa<|eK (C':=Keep G [.blk b1 [.int .u8 ((x.kind:Nat):Int),.int .i64 x.at_,.int .i64 x.count,.int .i64 x.to,.slice na x.items.length nc] 65]) (M.keep (Gle.refl _) (by simp)) (fun w h=>h.mono (Gle.refl _) (by simp))<|t_r (fun a F w M=>Fx (j:=x.kind) Gb.k Cb rfl (F.ev rfl) (F.ev rfl) rfl (by omega) (us:=[.string (str (B1 x.kind)),.bool (decide (uAt x.kind)),.bool (decide (uCo x.kind)),.bool (decide (uTo x.kind)),.bool (decide (uIt x.kind)),.func (.func (Dt x.kind)) #[] #[]]) (Ic (by omega))) rfl<|fun a F=>Cp ?_ rfl D5
     revert a
     refine C6 M Cb rfl rfl<|?_;clear M;intro b6 w M
     refine Aa<|eK (C':=Keep G [.blk b1 [.int .u8 ((x.kind:Nat):Int),.int .i64 x.at_,.int .i64 x.count,.int .i64 x.to,.slice na x.items.length nc] 65]) (M.keep (Gle.refl _) (by simp)) (fun w h=>h.mono (Gle.refl _) (by simp))<|fun a F=>Cp ?_ rfl D5
     refine Av F M Cb (k:=0) rfl rfl rfl (us:=[.string (str (B1 x.kind)),.bool (decide (uAt x.kind)),.bool (decide (uCo x.kind)),.bool (decide (uTo x.kind)),.bool (decide (uIt x.kind)),.func (.func (Dt x.kind)) #[] #[]]) rfl rfl (by simp [Value.oneCell']) (by simp) ?_;clear F M a;intro w a M F
     change Mem w0 G (.blk b6 [.string (str (B1 x.kind)),.bool (decide (uAt x.kind)),.bool (decide (uCo x.kind)),.bool (decide (uTo x.kind)),.bool (decide (uIt x.kind)),.func (.func (Dt x.kind)) #[] #[]] 138::_::L) _ at M
     revert a
     refine Aa<|eK (C':=Keep G [.blk b1 [.int .u8 ((x.kind:Nat):Int),.int .i64 x.at_,.int .i64 x.count,.int .i64 x.to,.slice na x.items.length nc] 65]) (M.keep (Gle.refl _) (by simp)) (fun w h=>h.mono (Gle.refl _) (by simp))<|Ku<|fun a F=>?_
     exact ⟨b6,F.to ⟨rfl,rfl,trivial⟩,M⟩
    refine Cp ?_ rfl ?_
    ·skip
     revert a
     refine C6 M Cb rfl rfl<|?_;clear M;intro b8 w M
     refine Aa<|eK (C':=Keep G [.blk b1 [.int .u8 ((x.kind:Nat):Int),.int .i64 x.at_,.int .i64 x.count,.int .i64 x.to,.slice na x.items.length nc] 65]) (M.keep (Gle.refl _) (by simp)) (fun w h=>h.mono (Gle.refl _) (by simp))<|fun a F=>Cp ?_ rfl D5
     revert a
     refine Bw N7 rfl rfl (Fz M)<|?_;clear M;rintro _ w M rfl
     refine Aa<|eK (C':=Keep G [.blk b1 [.int .u8 ((x.kind:Nat):Int),.int .i64 x.at_,.int .i64 x.count,.int .i64 x.to,.slice na x.items.length nc] 65]) (M.keep (Gle.refl _) (by simp)) (fun w h=>h.mono (Gle.refl _) (by simp))<|t_r (fun a F w M=>Fx (j:=x.kind) Gb.k Cb rfl (F.ev rfl) (F.ev rfl) rfl (by omega) (us:=[.string (str (B1 x.kind)),.bool (decide (uAt x.kind)),.bool (decide (uCo x.kind)),.bool (decide (uTo x.kind)),.bool (decide (uIt x.kind)),.func (.func (Dt x.kind)) #[] #[]]) (Ic (by omega))) rfl<|fun a F=>Cp ?_ rfl D5
     refine Av F M Cb (k:=0) rfl rfl rfl (us:=[.string (str (B1 x.kind)),.bool (decide (uAt x.kind)),.bool (decide (uCo x.kind)),.bool (decide (uTo x.kind)),.bool (decide (uIt x.kind)),.func (.func (Dt x.kind)) #[] #[]]) rfl rfl (by simp [Value.oneCell']) (by simp) ?_;clear F M a;intro w a M F
     change Mem w0 G (.blk b8 [.string (str (B1 x.kind)),.bool (decide (uAt x.kind)),.bool (decide (uCo x.kind)),.bool (decide (uTo x.kind)),.bool (decide (uIt x.kind)),.func (.func (Dt x.kind)) #[] #[]] 138::_::L) _ at M
     revert a
     refine Aa<|eK (C':=Keep G [.blk b1 [.int .u8 ((x.kind:Nat):Int),.int .i64 x.at_,.int .i64 x.count,.int .i64 x.to,.slice na x.items.length nc] 65]) (M.keep (Gle.refl _) (by simp)) (fun w h=>h.mono (Gle.refl _) (by simp))<|Ku<|fun a F=>?_
     exact ⟨b8,F.to ⟨rfl,rfl,trivial⟩,M⟩
    exact D5
   ·clear F M
    rintro a w ⟨b3k,F,M⟩
    revert a
    refine Ad<|Ab<|Ab<|fun a F=>Pk (fun a' w'=>∃ (bb:Bool),Fits 55 a' [(1,.pointer (some ⟨b1,0,none⟩)),(54,.bool bb)]∧Mem w0 G (.blk b3k [.string (str (B1 x.kind)),.bool (decide (uAt x.kind)),.bool (decide (uCo x.kind)),.bool (decide (uTo x.kind)),.bool (decide (uIt x.kind)),.func (.func (Dt x.kind)) #[] #[]] 138::.blk b1 [.int .u8 ((x.kind:Nat):Int),.int .i64 x.at_,.int .i64 x.count,.int .i64 x.to,.slice na x.items.length nc] 65::L) w'∧(bb=true↔¬ E5 x)) ?_ ?_
    ·skip
     revert a
     refine Ac<|A2 Cb.k rfl rfl<|Bi Ir M 0 rfl rfl rfl rfl<|C5 rfl<|Ae rfl<|?_
     rcases bE (!(decide (uAt x.kind))) with h10b | h33b
     ·skip
      have h10:=dF (Ah h10b)
      have h10c:(decide (uAt x.kind))=false:=(Ah h10b)
      refine g_t rfl (Al h10c)<|A2 Bd.k rfl rfl<|g_t rfl (Al h10c)<|Bi B7 M 1 rfl rfl rfl rfl<|g_t rfl (Al h10c)<|D9 rfl rfl<|Bj rfl (Al h10c) rfl<|Ae rfl<|?_
      rcases bE (!(decide (x.at_=0))) with h11b | h12b
      ·skip
       have h11:=dF (Ah h11b)
       have h11c:(decide (x.at_=0))=false:=(Ah h11b)
       refine g_f rfl (Al h11c)<|g_f rfl (Al h11c)<|g_f rfl (Al h11c)<|g_f rfl (Al h11c)<|g_u rfl<|g_u rfl<|g_u rfl<|g_f rfl (Al h11c)<|Bj rfl (Al h11c) rfl<|Ae rfl<|g_f rfl rfl<|g_f rfl rfl<|g_f rfl rfl<|g_f rfl rfl<|g_u rfl<|g_u rfl<|g_u rfl<|g_f rfl rfl<|Bj rfl rfl rfl<|Ae rfl<|g_f rfl rfl<|g_f rfl rfl<|g_f rfl rfl<|g_f rfl rfl<|?_
       refine g_u rfl<|g_u rfl<|g_u rfl<|g_u rfl<|g_f rfl rfl<|Bj rfl rfl rfl<|Aa<|fun a F=>?_
       exact ⟨true,F.to ⟨rfl,rfl,trivial⟩,M,by clear F M;unfold E5;first | (simp only [Bool.true_eq_false,true_iff,false_iff,Bool.false_eq_true,decide_eq_true_eq];grind) | grind⟩
      ·skip
       have h12:=dT (Ai h12b)
       have h12c:(decide (x.at_=0))=true:=(Ai h12b)
       refine g_t rfl (Ag h12c)<|A2 Cb.k rfl rfl<|g_t rfl (Ag h12c)<|Bi Ir M 0 rfl rfl rfl rfl<|g_t rfl (Ag h12c)<|C5 rfl<|g_t rfl (Ag h12c)<|Ae rfl<|?_
       rcases bE (!(decide (uCo x.kind))) with h13b | h24b
       ·skip
        have h13:=dF (Ah h13b)
        have h13c:(decide (uCo x.kind))=false:=(Ah h13b)
        refine g_t rfl (Al h13c)<|A2 Bd.k rfl rfl<|g_t rfl (Al h13c)<|Bi B7 M 1 rfl rfl rfl rfl<|g_t rfl (Al h13c)<|D9 rfl rfl<|g_t rfl (Ag h12c)<|Bj rfl (Al h13c) rfl<|Bh rfl (Ag h12c) rfl<|Ae rfl<|?_
        rcases bE (!(decide (x.count=0))) with h14b | h15b
        ·skip
         have h14:=dF (Ah h14b)
         have h14c:(decide (x.count=0))=false:=(Ah h14b)
         refine g_f rfl (Al h14c)<|g_f rfl (Al h14c)<|g_f rfl (Al h14c)<|g_f rfl (Al h14c)<|g_u rfl<|g_u rfl<|g_u rfl<|g_f rfl (Al h14c)<|Bj rfl (Al h14c) rfl<|Ae rfl<|g_f rfl rfl<|g_f rfl rfl<|g_f rfl rfl<|g_f rfl rfl<|g_u rfl<|g_u rfl<|g_u rfl<|g_u rfl<|g_f rfl rfl<|Bj rfl rfl rfl<|Aa<|fun a F=>?_
         exact ⟨true,F.to ⟨rfl,rfl,trivial⟩,M,by clear F M;unfold E5;first | (simp only [Bool.true_eq_false,true_iff,false_iff,Bool.false_eq_true,decide_eq_true_eq];grind) | grind⟩
        ·skip
         have h15:=dT (Ai h15b)
         have h15c:(decide (x.count=0))=true:=(Ai h15b)
         refine g_t rfl (Ag h15c)<|A2 Cb.k rfl rfl<|g_t rfl (Ag h15c)<|Bi Ir M 0 rfl rfl rfl rfl<|g_t rfl (Ag h15c)<|C5 rfl<|g_t rfl (Ag h15c)<|Ae rfl<|?_
         rcases bE (!(decide (uTo x.kind))) with h16b | h21b
         ·skip
          have h16:=dF (Ah h16b)
          have h16c:(decide (uTo x.kind))=false:=(Ah h16b)
          refine g_t rfl (Al h16c)<|A2 Bd.k rfl rfl<|g_t rfl (Al h16c)<|Bi B7 M 1 rfl rfl rfl rfl<|g_t rfl (Al h16c)<|D9 rfl rfl<|g_t rfl (Ag h15c)<|Bj rfl (Al h16c) rfl<|Bh rfl (Ag h15c) rfl<|Ae rfl<|?_
          rcases bE (!(decide (x.to=0))) with h17b | h18b
          ·skip
           have h17:=dF (Ah h17b)
           have h17c:(decide (x.to=0))=false:=(Ah h17b)
           refine g_f rfl (Al h17c)<|g_f rfl (Al h17c)<|g_f rfl (Al h17c)<|g_f rfl (Al h17c)<|g_u rfl<|g_u rfl<|g_u rfl<|g_u rfl<|g_f rfl (Al h17c)<|Bj rfl (Al h17c) rfl<|Aa<|fun a F=>?_
           exact ⟨true,F.to ⟨rfl,rfl,trivial⟩,M,by clear F M;unfold E5;first | (simp only [Bool.true_eq_false,true_iff,false_iff,Bool.false_eq_true,decide_eq_true_eq];grind) | grind⟩
          ·skip
           have h18:=dT (Ai h18b)
           have h18c:(decide (x.to=0))=true:=(Ai h18b)
           refine g_t rfl (Ag h18c)<|A2 Cb.k rfl rfl<|g_t rfl (Ag h18c)<|Bi Ir M 0 rfl rfl rfl rfl<|g_t rfl (Ag h18c)<|C5 rfl<|g_t rfl (Ag h18c)<|Ae rfl<|?_
           rcases bE (!(decide (uIt x.kind))) with h19b | h20b
           ·skip
            have h19:=dF (Ah h19b)
            have h19c:(decide (uIt x.kind))=false:=(Ah h19b)
            refine g_t rfl (Al h19c)<|A2 Bd.k rfl rfl<|g_t rfl (Al h19c)<|Bi Bp M 1 rfl rfl rfl rfl<|g_t rfl (Al h19c)<|B8 Bp.k rfl<|g_t rfl (Al h19c)<|Df rfl rfl<|g_t rfl (Ag h18c)<|Bj rfl (Al h19c) rfl<|Bh rfl (Ag h18c) rfl<|Aa<|fun a F=>?_
            exact ⟨(decide (0 < ((x.items.length:Nat):Int))),F.to ⟨rfl,rfl,trivial⟩,M,by clear F M;unfold E5;first | (simp only [Bool.true_eq_false,true_iff,false_iff,Bool.false_eq_true,decide_eq_true_eq];grind) | grind⟩
           ·skip
            have h20:=dT (Ai h20b)
            have h20c:(decide (uIt x.kind))=true:=(Ai h20b)
            refine g_f rfl (Ag h20c)<|g_f rfl (Ag h20c)<|g_f rfl (Ag h20c)<|g_f rfl (Ag h20c)<|g_t rfl (Ag h18c)<|Bh rfl (Ag h20c) rfl<|Bh rfl (Ag h18c) rfl<|Aa<|fun a F=>?_
            exact ⟨false,F.to ⟨rfl,rfl,trivial⟩,M,by clear F M;unfold E5;first | (simp only [Bool.true_eq_false,true_iff,false_iff,Bool.false_eq_true,decide_eq_true_eq];grind) | grind⟩
         ·skip
          have h21:=dT (Ai h21b)
          have h21c:(decide (uTo x.kind))=true:=(Ai h21b)
          refine g_f rfl (Ag h21c)<|g_f rfl (Ag h21c)<|g_f rfl (Ag h21c)<|g_t rfl (Ag h15c)<|Bh rfl (Ag h21c) rfl<|Bh rfl (Ag h15c) rfl<|Ae rfl<|g_t rfl rfl<|A2 Cb.k rfl rfl<|g_t rfl rfl<|Bi Ir M 0 rfl rfl rfl rfl<|g_t rfl rfl<|C5 rfl<|g_t rfl rfl<|Ae rfl<|?_
          rcases bE (!(decide (uIt x.kind))) with h22b | h23b
          ·skip
           have h22:=dF (Ah h22b)
           have h22c:(decide (uIt x.kind))=false:=(Ah h22b)
           refine g_t rfl (Al h22c)<|A2 Bd.k rfl rfl<|g_t rfl (Al h22c)<|Bi Bp M 1 rfl rfl rfl rfl<|g_t rfl (Al h22c)<|B8 Bp.k rfl<|g_t rfl (Al h22c)<|Df rfl rfl<|g_t rfl rfl<|Bj rfl (Al h22c) rfl<|Bh rfl rfl rfl<|Aa<|fun a F=>?_
           exact ⟨(decide (0 < ((x.items.length:Nat):Int))),F.to ⟨rfl,rfl,trivial⟩,M,by clear F M;unfold E5;first | (simp only [Bool.true_eq_false,true_iff,false_iff,Bool.false_eq_true,decide_eq_true_eq];grind) | grind⟩
          ·skip
           have h23:=dT (Ai h23b)
           have h23c:(decide (uIt x.kind))=true:=(Ai h23b)
           refine g_f rfl (Ag h23c)<|g_f rfl (Ag h23c)<|g_f rfl (Ag h23c)<|g_f rfl (Ag h23c)<|g_t rfl rfl<|Bh rfl (Ag h23c) rfl<|Bh rfl rfl rfl<|Aa<|fun a F=>?_
           exact ⟨false,F.to ⟨rfl,rfl,trivial⟩,M,by clear F M;unfold E5;first | (simp only [Bool.true_eq_false,true_iff,false_iff,Bool.false_eq_true,decide_eq_true_eq];grind) | grind⟩
       ·skip
        have h24:=dT (Ai h24b)
        have h24c:(decide (uCo x.kind))=true:=(Ai h24b)
        refine g_f rfl (Ag h24c)<|g_f rfl (Ag h24c)<|g_f rfl (Ag h24c)<|g_t rfl (Ag h12c)<|Bh rfl (Ag h24c) rfl<|Bh rfl (Ag h12c) rfl<|Ae rfl<|g_t rfl rfl<|A2 Cb.k rfl rfl<|g_t rfl rfl<|Bi Ir M 0 rfl rfl rfl rfl<|g_t rfl rfl<|C5 rfl<|g_t rfl rfl<|Ae rfl<|?_
        rcases bE (!(decide (uTo x.kind))) with h25b | h30b
        ·skip
         have h25:=dF (Ah h25b)
         have h25c:(decide (uTo x.kind))=false:=(Ah h25b)
         refine g_t rfl (Al h25c)<|A2 Bd.k rfl rfl<|g_t rfl (Al h25c)<|Bi B7 M 1 rfl rfl rfl rfl<|g_t rfl (Al h25c)<|D9 rfl rfl<|g_t rfl rfl<|Bj rfl (Al h25c) rfl<|Bh rfl rfl rfl<|Ae rfl<|?_
         rcases bE (!(decide (x.to=0))) with h26b | h27b
         ·skip
          have h26:=dF (Ah h26b)
          have h26c:(decide (x.to=0))=false:=(Ah h26b)
          refine g_f rfl (Al h26c)<|g_f rfl (Al h26c)<|g_f rfl (Al h26c)<|g_f rfl (Al h26c)<|g_u rfl<|g_u rfl<|g_u rfl<|g_u rfl<|g_f rfl (Al h26c)<|Bj rfl (Al h26c) rfl<|Aa<|fun a F=>?_
          exact ⟨true,F.to ⟨rfl,rfl,trivial⟩,M,by clear F M;unfold E5;first | (simp only [Bool.true_eq_false,true_iff,false_iff,Bool.false_eq_true,decide_eq_true_eq];grind) | grind⟩
         ·skip
          have h27:=dT (Ai h27b)
          have h27c:(decide (x.to=0))=true:=(Ai h27b)
          refine g_t rfl (Ag h27c)<|A2 Cb.k rfl rfl<|g_t rfl (Ag h27c)<|Bi Ir M 0 rfl rfl rfl rfl<|g_t rfl (Ag h27c)<|C5 rfl<|g_t rfl (Ag h27c)<|Ae rfl<|?_
          rcases bE (!(decide (uIt x.kind))) with h28b | h29b
          ·skip
           have h28:=dF (Ah h28b)
           have h28c:(decide (uIt x.kind))=false:=(Ah h28b)
           refine g_t rfl (Al h28c)<|A2 Bd.k rfl rfl<|g_t rfl (Al h28c)<|Bi Bp M 1 rfl rfl rfl rfl<|g_t rfl (Al h28c)<|B8 Bp.k rfl<|g_t rfl (Al h28c)<|Df rfl rfl<|g_t rfl (Ag h27c)<|Bj rfl (Al h28c) rfl<|Bh rfl (Ag h27c) rfl<|Aa<|fun a F=>?_
           exact ⟨(decide (0 < ((x.items.length:Nat):Int))),F.to ⟨rfl,rfl,trivial⟩,M,by clear F M;unfold E5;first | (simp only [Bool.true_eq_false,true_iff,false_iff,Bool.false_eq_true,decide_eq_true_eq];grind) | grind⟩
          ·skip
           have h29:=dT (Ai h29b)
           have h29c:(decide (uIt x.kind))=true:=(Ai h29b)
           refine g_f rfl (Ag h29c)<|g_f rfl (Ag h29c)<|g_f rfl (Ag h29c)<|g_f rfl (Ag h29c)<|g_t rfl (Ag h27c)<|Bh rfl (Ag h29c) rfl<|Bh rfl (Ag h27c) rfl<|Aa<|fun a F=>?_
           exact ⟨false,F.to ⟨rfl,rfl,trivial⟩,M,by clear F M;unfold E5;first | (simp only [Bool.true_eq_false,true_iff,false_iff,Bool.false_eq_true,decide_eq_true_eq];grind) | grind⟩
        ·skip
         have h30:=dT (Ai h30b)
         have h30c:(decide (uTo x.kind))=true:=(Ai h30b)
         refine g_f rfl (Ag h30c)<|g_f rfl (Ag h30c)<|g_f rfl (Ag h30c)<|g_t rfl rfl<|Bh rfl (Ag h30c) rfl<|Bh rfl rfl rfl<|Ae rfl<|g_t rfl rfl<|A2 Cb.k rfl rfl<|g_t rfl rfl<|Bi Ir M 0 rfl rfl rfl rfl<|g_t rfl rfl<|C5 rfl<|g_t rfl rfl<|Ae rfl<|?_
         rcases bE (!(decide (uIt x.kind))) with h31b | h32b
         ·skip
          have h31:=dF (Ah h31b)
          have h31c:(decide (uIt x.kind))=false:=(Ah h31b)
          refine g_t rfl (Al h31c)<|A2 Bd.k rfl rfl<|g_t rfl (Al h31c)<|Bi Bp M 1 rfl rfl rfl rfl<|g_t rfl (Al h31c)<|B8 Bp.k rfl<|g_t rfl (Al h31c)<|Df rfl rfl<|g_t rfl rfl<|Bj rfl (Al h31c) rfl<|Bh rfl rfl rfl<|Aa<|fun a F=>?_
          exact ⟨(decide (0 < ((x.items.length:Nat):Int))),F.to ⟨rfl,rfl,trivial⟩,M,by clear F M;unfold E5;first | (simp only [Bool.true_eq_false,true_iff,false_iff,Bool.false_eq_true,decide_eq_true_eq];grind) | grind⟩
         ·skip
          have h32:=dT (Ai h32b)
          have h32c:(decide (uIt x.kind))=true:=(Ai h32b)
          refine g_f rfl (Ag h32c)<|g_f rfl (Ag h32c)<|g_f rfl (Ag h32c)<|g_f rfl (Ag h32c)<|g_t rfl rfl<|Bh rfl (Ag h32c) rfl<|Bh rfl rfl rfl<|Aa<|fun a F=>?_
          exact ⟨false,F.to ⟨rfl,rfl,trivial⟩,M,by clear F M;unfold E5;first | (simp only [Bool.true_eq_false,true_iff,false_iff,Bool.false_eq_true,decide_eq_true_eq];grind) | grind⟩
     ·skip
      have h33:=dT (Ai h33b)
      have h33c:(decide (uAt x.kind))=true:=(Ai h33b)
      refine g_f rfl (Ag h33c)<|g_f rfl (Ag h33c)<|g_f rfl (Ag h33c)<|Bh rfl (Ag h33c) rfl<|Ae rfl<|g_t rfl rfl<|A2 Cb.k rfl rfl<|g_t rfl rfl<|Bi Ir M 0 rfl rfl rfl rfl<|g_t rfl rfl<|C5 rfl<|g_t rfl rfl<|Ae rfl<|?_
      rcases bE (!(decide (uCo x.kind))) with h34b | h45b
      ·skip
       have h34:=dF (Ah h34b)
       have h34c:(decide (uCo x.kind))=false:=(Ah h34b)
       refine g_t rfl (Al h34c)<|A2 Bd.k rfl rfl<|g_t rfl (Al h34c)<|Bi B7 M 1 rfl rfl rfl rfl<|g_t rfl (Al h34c)<|D9 rfl rfl<|g_t rfl rfl<|Bj rfl (Al h34c) rfl<|Bh rfl rfl rfl<|Ae rfl<|?_
       rcases bE (!(decide (x.count=0))) with h35b | h36b
       ·skip
        have h35:=dF (Ah h35b)
        have h35c:(decide (x.count=0))=false:=(Ah h35b)
        refine g_f rfl (Al h35c)<|g_f rfl (Al h35c)<|g_f rfl (Al h35c)<|g_f rfl (Al h35c)<|g_u rfl<|g_u rfl<|g_u rfl<|g_f rfl (Al h35c)<|Bj rfl (Al h35c) rfl<|Ae rfl<|g_f rfl rfl<|g_f rfl rfl<|g_f rfl rfl<|g_f rfl rfl<|g_u rfl<|g_u rfl<|g_u rfl<|g_u rfl<|g_f rfl rfl<|Bj rfl rfl rfl<|Aa<|fun a F=>?_
        exact ⟨true,F.to ⟨rfl,rfl,trivial⟩,M,by clear F M;unfold E5;first | (simp only [Bool.true_eq_false,true_iff,false_iff,Bool.false_eq_true,decide_eq_true_eq];grind) | grind⟩
       ·skip
        have h36:=dT (Ai h36b)
        have h36c:(decide (x.count=0))=true:=(Ai h36b)
        refine g_t rfl (Ag h36c)<|A2 Cb.k rfl rfl<|g_t rfl (Ag h36c)<|Bi Ir M 0 rfl rfl rfl rfl<|g_t rfl (Ag h36c)<|C5 rfl<|g_t rfl (Ag h36c)<|Ae rfl<|?_
        rcases bE (!(decide (uTo x.kind))) with h37b | h42b
        ·skip
         have h37:=dF (Ah h37b)
         have h37c:(decide (uTo x.kind))=false:=(Ah h37b)
         refine g_t rfl (Al h37c)<|A2 Bd.k rfl rfl<|g_t rfl (Al h37c)<|Bi B7 M 1 rfl rfl rfl rfl<|g_t rfl (Al h37c)<|D9 rfl rfl<|g_t rfl (Ag h36c)<|Bj rfl (Al h37c) rfl<|Bh rfl (Ag h36c) rfl<|Ae rfl<|?_
         rcases bE (!(decide (x.to=0))) with h38b | h39b
         ·skip
          have h38:=dF (Ah h38b)
          have h38c:(decide (x.to=0))=false:=(Ah h38b)
          refine g_f rfl (Al h38c)<|g_f rfl (Al h38c)<|g_f rfl (Al h38c)<|g_f rfl (Al h38c)<|g_u rfl<|g_u rfl<|g_u rfl<|g_u rfl<|g_f rfl (Al h38c)<|Bj rfl (Al h38c) rfl<|Aa<|fun a F=>?_
          exact ⟨true,F.to ⟨rfl,rfl,trivial⟩,M,by clear F M;unfold E5;first | (simp only [Bool.true_eq_false,true_iff,false_iff,Bool.false_eq_true,decide_eq_true_eq];grind) | grind⟩
         ·skip
          have h39:=dT (Ai h39b)
          have h39c:(decide (x.to=0))=true:=(Ai h39b)
          refine g_t rfl (Ag h39c)<|A2 Cb.k rfl rfl<|g_t rfl (Ag h39c)<|Bi Ir M 0 rfl rfl rfl rfl<|g_t rfl (Ag h39c)<|C5 rfl<|g_t rfl (Ag h39c)<|Ae rfl<|?_
          rcases bE (!(decide (uIt x.kind))) with h40b | h41b
          ·skip
           have h40:=dF (Ah h40b)
           have h40c:(decide (uIt x.kind))=false:=(Ah h40b)
           refine g_t rfl (Al h40c)<|A2 Bd.k rfl rfl<|g_t rfl (Al h40c)<|Bi Bp M 1 rfl rfl rfl rfl<|g_t rfl (Al h40c)<|B8 Bp.k rfl<|g_t rfl (Al h40c)<|Df rfl rfl<|g_t rfl (Ag h39c)<|Bj rfl (Al h40c) rfl<|Bh rfl (Ag h39c) rfl<|Aa<|fun a F=>?_
           exact ⟨(decide (0 < ((x.items.length:Nat):Int))),F.to ⟨rfl,rfl,trivial⟩,M,by clear F M;unfold E5;first | (simp only [Bool.true_eq_false,true_iff,false_iff,Bool.false_eq_true,decide_eq_true_eq];grind) | grind⟩
          ·skip
           have h41:=dT (Ai h41b)
           have h41c:(decide (uIt x.kind))=true:=(Ai h41b)
           refine g_f rfl (Ag h41c)<|g_f rfl (Ag h41c)<|g_f rfl (Ag h41c)<|g_f rfl (Ag h41c)<|g_t rfl (Ag h39c)<|Bh rfl (Ag h41c) rfl<|Bh rfl (Ag h39c) rfl<|Aa<|fun a F=>?_
           exact ⟨false,F.to ⟨rfl,rfl,trivial⟩,M,by clear F M;unfold E5;first | (simp only [Bool.true_eq_false,true_iff,false_iff,Bool.false_eq_true,decide_eq_true_eq];grind) | grind⟩
        ·skip
         have h42:=dT (Ai h42b)
         have h42c:(decide (uTo x.kind))=true:=(Ai h42b)
         refine g_f rfl (Ag h42c)<|g_f rfl (Ag h42c)<|g_f rfl (Ag h42c)<|g_t rfl (Ag h36c)<|Bh rfl (Ag h42c) rfl<|Bh rfl (Ag h36c) rfl<|Ae rfl<|g_t rfl rfl<|A2 Cb.k rfl rfl<|g_t rfl rfl<|Bi Ir M 0 rfl rfl rfl rfl<|g_t rfl rfl<|C5 rfl<|g_t rfl rfl<|Ae rfl<|?_
         rcases bE (!(decide (uIt x.kind))) with h43b | h44b
         ·skip
          have h43:=dF (Ah h43b)
          have h43c:(decide (uIt x.kind))=false:=(Ah h43b)
          refine g_t rfl (Al h43c)<|A2 Bd.k rfl rfl<|g_t rfl (Al h43c)<|Bi Bp M 1 rfl rfl rfl rfl<|g_t rfl (Al h43c)<|B8 Bp.k rfl<|g_t rfl (Al h43c)<|Df rfl rfl<|g_t rfl rfl<|Bj rfl (Al h43c) rfl<|Bh rfl rfl rfl<|Aa<|fun a F=>?_
          exact ⟨(decide (0 < ((x.items.length:Nat):Int))),F.to ⟨rfl,rfl,trivial⟩,M,by clear F M;unfold E5;first | (simp only [Bool.true_eq_false,true_iff,false_iff,Bool.false_eq_true,decide_eq_true_eq];grind) | grind⟩
         ·skip
          have h44:=dT (Ai h44b)
          have h44c:(decide (uIt x.kind))=true:=(Ai h44b)
          refine g_f rfl (Ag h44c)<|g_f rfl (Ag h44c)<|g_f rfl (Ag h44c)<|g_f rfl (Ag h44c)<|g_t rfl rfl<|Bh rfl (Ag h44c) rfl<|Bh rfl rfl rfl<|Aa<|fun a F=>?_
          exact ⟨false,F.to ⟨rfl,rfl,trivial⟩,M,by clear F M;unfold E5;first | (simp only [Bool.true_eq_false,true_iff,false_iff,Bool.false_eq_true,decide_eq_true_eq];grind) | grind⟩
      ·skip
       have h45:=dT (Ai h45b)
       have h45c:(decide (uCo x.kind))=true:=(Ai h45b)
       refine g_f rfl (Ag h45c)<|g_f rfl (Ag h45c)<|g_f rfl (Ag h45c)<|g_t rfl rfl<|Bh rfl (Ag h45c) rfl<|Bh rfl rfl rfl<|Ae rfl<|g_t rfl rfl<|A2 Cb.k rfl rfl<|g_t rfl rfl<|Bi Ir M 0 rfl rfl rfl rfl<|g_t rfl rfl<|C5 rfl<|g_t rfl rfl<|Ae rfl<|?_
       rcases bE (!(decide (uTo x.kind))) with h46b | h51b
       ·skip
        have h46:=dF (Ah h46b)
        have h46c:(decide (uTo x.kind))=false:=(Ah h46b)
        refine g_t rfl (Al h46c)<|A2 Bd.k rfl rfl<|g_t rfl (Al h46c)<|Bi B7 M 1 rfl rfl rfl rfl<|g_t rfl (Al h46c)<|D9 rfl rfl<|g_t rfl rfl<|Bj rfl (Al h46c) rfl<|Bh rfl rfl rfl<|Ae rfl<|?_
        rcases bE (!(decide (x.to=0))) with h47b | h48b
        ·skip
         have h47:=dF (Ah h47b)
         have h47c:(decide (x.to=0))=false:=(Ah h47b)
         refine g_f rfl (Al h47c)<|g_f rfl (Al h47c)<|g_f rfl (Al h47c)<|g_f rfl (Al h47c)<|g_u rfl<|g_u rfl<|g_u rfl<|g_u rfl<|g_f rfl (Al h47c)<|Bj rfl (Al h47c) rfl<|Aa<|fun a F=>?_
         exact ⟨true,F.to ⟨rfl,rfl,trivial⟩,M,by clear F M;unfold E5;first | (simp only [Bool.true_eq_false,true_iff,false_iff,Bool.false_eq_true,decide_eq_true_eq];grind) | grind⟩
        ·skip
         have h48:=dT (Ai h48b)
         have h48c:(decide (x.to=0))=true:=(Ai h48b)
         refine g_t rfl (Ag h48c)<|A2 Cb.k rfl rfl<|g_t rfl (Ag h48c)<|Bi Ir M 0 rfl rfl rfl rfl<|g_t rfl (Ag h48c)<|C5 rfl<|g_t rfl (Ag h48c)<|Ae rfl<|?_
         rcases bE (!(decide (uIt x.kind))) with h49b | h50b
         ·skip
          have h49:=dF (Ah h49b)
          have h49c:(decide (uIt x.kind))=false:=(Ah h49b)
          refine g_t rfl (Al h49c)<|A2 Bd.k rfl rfl<|g_t rfl (Al h49c)<|Bi Bp M 1 rfl rfl rfl rfl<|g_t rfl (Al h49c)<|B8 Bp.k rfl<|g_t rfl (Al h49c)<|Df rfl rfl<|g_t rfl (Ag h48c)<|Bj rfl (Al h49c) rfl<|Bh rfl (Ag h48c) rfl<|Aa<|fun a F=>?_
          exact ⟨(decide (0 < ((x.items.length:Nat):Int))),F.to ⟨rfl,rfl,trivial⟩,M,by clear F M;unfold E5;first | (simp only [Bool.true_eq_false,true_iff,false_iff,Bool.false_eq_true,decide_eq_true_eq];grind) | grind⟩
         ·skip
          have h50:=dT (Ai h50b)
          have h50c:(decide (uIt x.kind))=true:=(Ai h50b)
          refine g_f rfl (Ag h50c)<|g_f rfl (Ag h50c)<|g_f rfl (Ag h50c)<|g_f rfl (Ag h50c)<|g_t rfl (Ag h48c)<|Bh rfl (Ag h50c) rfl<|Bh rfl (Ag h48c) rfl<|Aa<|fun a F=>?_
          exact ⟨false,F.to ⟨rfl,rfl,trivial⟩,M,by clear F M;unfold E5;first | (simp only [Bool.true_eq_false,true_iff,false_iff,Bool.false_eq_true,decide_eq_true_eq];grind) | grind⟩
       ·skip
        have h51:=dT (Ai h51b)
        have h51c:(decide (uTo x.kind))=true:=(Ai h51b)
        refine g_f rfl (Ag h51c)<|g_f rfl (Ag h51c)<|g_f rfl (Ag h51c)<|g_t rfl rfl<|Bh rfl (Ag h51c) rfl<|Bh rfl rfl rfl<|Ae rfl<|g_t rfl rfl<|A2 Cb.k rfl rfl<|g_t rfl rfl<|Bi Ir M 0 rfl rfl rfl rfl<|g_t rfl rfl<|C5 rfl<|g_t rfl rfl<|Ae rfl<|?_
        rcases bE (!(decide (uIt x.kind))) with h52b | h53b
        ·skip
         have h52:=dF (Ah h52b)
         have h52c:(decide (uIt x.kind))=false:=(Ah h52b)
         refine g_t rfl (Al h52c)<|A2 Bd.k rfl rfl<|g_t rfl (Al h52c)<|Bi Bp M 1 rfl rfl rfl rfl<|g_t rfl (Al h52c)<|B8 Bp.k rfl<|g_t rfl (Al h52c)<|Df rfl rfl<|g_t rfl rfl<|Bj rfl (Al h52c) rfl<|Bh rfl rfl rfl<|Aa<|fun a F=>?_
         exact ⟨(decide (0 < ((x.items.length:Nat):Int))),F.to ⟨rfl,rfl,trivial⟩,M,by clear F M;unfold E5;first | (simp only [Bool.true_eq_false,true_iff,false_iff,Bool.false_eq_true,decide_eq_true_eq];grind) | grind⟩
        ·skip
         have h53:=dT (Ai h53b)
         have h53c:(decide (uIt x.kind))=true:=(Ai h53b)
         refine g_f rfl (Ag h53c)<|g_f rfl (Ag h53c)<|g_f rfl (Ag h53c)<|g_f rfl (Ag h53c)<|g_t rfl rfl<|Bh rfl (Ag h53c) rfl<|Bh rfl rfl rfl<|Aa<|fun a F=>?_
         exact ⟨false,F.to ⟨rfl,rfl,trivial⟩,M,by clear F M;unfold E5;first | (simp only [Bool.true_eq_false,true_iff,false_iff,Bool.false_eq_true,decide_eq_true_eq];grind) | grind⟩
    ·clear F M
     rintro a w ⟨bb,F,M,hbb⟩
     revert a
     refine Ad<|Ax rfl ?_ ?_
     ·intro h54b
      have h54:(bb)=true:=h54b
      refine Ab<|?_
      have hF:¬ E5 x:=hbb.1 (by assumption)
      refine Ac<|Af rfl<|Aa<|Ad<|Ak<|Au<|Aj rfl rfl<|?_
      exact ⟨M.weaken (.cons _ (.cons _ (sR _))),by rw [Ahw (by omega) hF]⟩
     ·intro h55b
      have h55:(bb)=false:=h55b
      refine Aq<|Ad<|Ab<|?_
      have hF:E5 x:=Classical.byContradiction fun h_=>by have h9_:=hbb.2 h_;simp_all
      refine Ac<|Af rfl<|Aa<|Ad<|Ak<|Aj rfl rfl<|?_
      exact ⟨M.weaken (.cons _ (.cons _ (sR _))),by rw [Ahx (by omega) hF]⟩
theorem Qz (M:Mem w0 G L w) {k:Nat}:Calls Tryz.prog 93 #[.int .u8 ((k:Nat):Int)] w (Ci w0 G L fun v=>v=.agg #[.int .i64 (uG k 0),.int .i64 (uG k 1),.int .i64 (uG k 2),.int .i64 (uG k 3)]):=by
 refine A0 (vs:=[_]) Tryz.func93 rfl (n:=18) rfl rfl<|Ab<|Ac<|C6 M D2 rfl rfl<|?_;clear M;intro b1 w M
 refine Aa<|Ad<|Ab<|Ab<|Ac<|Ae rfl<|Aa<|Ad<|A1<|Ab<|Ab<|Ac<|Dy rfl rfl<|Af rfl<|Aa<|Ad<|Ax rfl ?_ ?_
 ·intro h3b
  have h3:=dT h3b
  refine Aq<|Ad<|Bo rfl h3b<|Ab<|Ac<|Ar (fun a F=>Fy F (ps:=[(0,.int .i64 1),(1,.int .i64 0),(2,.int .i64 0),(3,.int .i64 1)]) (cs:=[.int .i64 1,.int .i64 0,.int .i64 0,.int .i64 1]) D2.k D2 B7 rfl rfl) rfl<|fun a F=>?_
  refine Av F M D2 (k:=0) rfl rfl rfl (us:=[.int .i64 1,.int .i64 0,.int .i64 0,.int .i64 1]) rfl rfl (by simp [Value.oneCell']) (by simp) ?_;clear F M a;intro w a M F
  change Mem w0 G (.blk b1 [.int .i64 1,.int .i64 0,.int .i64 0,.int .i64 1] 167::L) _ at M
  revert a
  refine Aa<|Ad<|Ak<|Bk<|Au<|fun a F=>Lh F M (k:=0) rfl rfl D2 rfl rfl rfl ?_
  exact ⟨M.weaken (.cons _ (sR _)),by rw [show uG k 0=1 from if_pos (by unfold uAt;omega),show uG k 1=0 from if_neg (by unfold uCo;omega),show uG k 2=0 from if_neg (by unfold uTo;omega),show uG k 3=1 from if_pos (by unfold uIt;omega)]⟩
 ·intro h4b
  have h4:=dF h4b
  refine Ac<|Dy rfl rfl<|Af rfl<|Aa<|Ad<|Ax rfl ?_ ?_
  ·intro h5b
   have h5:=dT h5b
   refine Ab<|Ac<|Ar (fun a F=>Fy F (ps:=[(0,.int .i64 1),(1,.int .i64 0),(2,.int .i64 0),(3,.int .i64 1)]) (cs:=[.int .i64 1,.int .i64 0,.int .i64 0,.int .i64 1]) D2.k D2 B7 rfl rfl) rfl<|fun a F=>?_
   refine Av F M D2 (k:=0) rfl rfl rfl (us:=[.int .i64 1,.int .i64 0,.int .i64 0,.int .i64 1]) rfl rfl (by simp [Value.oneCell']) (by simp) ?_;clear F M a;intro w a M F
   change Mem w0 G (.blk b1 [.int .i64 1,.int .i64 0,.int .i64 0,.int .i64 1] 167::L) _ at M
   revert a
   refine Aa<|Ad<|Ak<|Bk<|Au<|fun a F=>Lh F M (k:=0) rfl rfl D2 rfl rfl rfl ?_
   exact ⟨M.weaken (.cons _ (sR _)),by rw [show uG k 0=1 from if_pos (by unfold uAt;omega),show uG k 1=0 from if_neg (by unfold uCo;omega),show uG k 2=0 from if_neg (by unfold uTo;omega),show uG k 3=1 from if_pos (by unfold uIt;omega)]⟩
  ·intro h6b
   have h6:=dF h6b
   refine Ab<|Ac<|Dy rfl rfl<|Af rfl<|Aa<|Ad<|Ax rfl ?_ ?_
   ·intro h7b
    have h7:=dT h7b
    refine Ab<|Ac<|Ar (fun a F=>Fy F (ps:=[(0,.int .i64 1),(1,.int .i64 1),(2,.int .i64 0),(3,.int .i64 0)]) (cs:=[.int .i64 1,.int .i64 1,.int .i64 0,.int .i64 0]) D2.k D2 B7 rfl rfl) rfl<|fun a F=>?_
    refine Av F M D2 (k:=0) rfl rfl rfl (us:=[.int .i64 1,.int .i64 1,.int .i64 0,.int .i64 0]) rfl rfl (by simp [Value.oneCell']) (by simp) ?_;clear F M a;intro w a M F
    change Mem w0 G (.blk b1 [.int .i64 1,.int .i64 1,.int .i64 0,.int .i64 0] 167::L) _ at M
    revert a
    refine Aa<|Ad<|Ak<|Bk<|Au<|fun a F=>Lh F M (k:=0) rfl rfl D2 rfl rfl rfl ?_
    exact ⟨M.weaken (.cons _ (sR _)),by rw [show uG k 0=1 from if_pos (by unfold uAt;omega),show uG k 1=1 from if_pos (by unfold uCo;omega),show uG k 2=0 from if_neg (by unfold uTo;omega),show uG k 3=0 from if_neg (by unfold uIt;omega)]⟩
   ·intro h8b
    have h8:=dF h8b
    refine Ab<|Ac<|Dy rfl rfl<|Af rfl<|Aa<|Ad<|Ax rfl ?_ ?_
    ·intro h9b
     have h9:=dT h9b
     refine Ab<|Ac<|Ar (fun a F=>Fy F (ps:=[(0,.int .i64 1),(1,.int .i64 1),(2,.int .i64 1),(3,.int .i64 0)]) (cs:=[.int .i64 1,.int .i64 1,.int .i64 1,.int .i64 0]) D2.k D2 B7 rfl rfl) rfl<|fun a F=>?_
     refine Av F M D2 (k:=0) rfl rfl rfl (us:=[.int .i64 1,.int .i64 1,.int .i64 1,.int .i64 0]) rfl rfl (by simp [Value.oneCell']) (by simp) ?_;clear F M a;intro w a M F
     change Mem w0 G (.blk b1 [.int .i64 1,.int .i64 1,.int .i64 1,.int .i64 0] 167::L) _ at M
     revert a
     refine Aa<|Ad<|Ak<|Bk<|Au<|fun a F=>Lh F M (k:=0) rfl rfl D2 rfl rfl rfl ?_
     exact ⟨M.weaken (.cons _ (sR _)),by rw [show uG k 0=1 from if_pos (by unfold uAt;omega),show uG k 1=1 from if_pos (by unfold uCo;omega),show uG k 2=1 from if_pos (by unfold uTo;omega),show uG k 3=0 from if_neg (by unfold uIt;omega)]⟩
    ·intro h10b
     have h10:=dF h10b
     refine Ab<|Ac<|Dy rfl rfl<|Af rfl<|Aa<|Ad<|Ax rfl ?_ ?_
     ·intro h11b
      have h11:=dT h11b
      refine Ab<|Ac<|Ar (fun a F=>Fy F (ps:=[(0,.int .i64 0),(1,.int .i64 0),(2,.int .i64 0),(3,.int .i64 1)]) (cs:=[.int .i64 0,.int .i64 0,.int .i64 0,.int .i64 1]) D2.k D2 B7 rfl rfl) rfl<|fun a F=>?_
      refine Av F M D2 (k:=0) rfl rfl rfl (us:=[.int .i64 0,.int .i64 0,.int .i64 0,.int .i64 1]) rfl rfl (by simp [Value.oneCell']) (by simp) ?_;clear F M a;intro w a M F
      change Mem w0 G (.blk b1 [.int .i64 0,.int .i64 0,.int .i64 0,.int .i64 1] 167::L) _ at M
      revert a
      refine Aa<|Ad<|Ak<|Bk<|Au<|fun a F=>Lh F M (k:=0) rfl rfl D2 rfl rfl rfl ?_
      exact ⟨M.weaken (.cons _ (sR _)),by rw [show uG k 0=0 from if_neg (by unfold uAt;omega),show uG k 1=0 from if_neg (by unfold uCo;omega),show uG k 2=0 from if_neg (by unfold uTo;omega),show uG k 3=1 from if_pos (by unfold uIt;omega)]⟩
     ·intro h12b
      have h12:=dF h12b
      refine Aq<|C0<|Ad<|Ab<|Ac<|Ar (fun a F=>Fy F (ps:=[]) (cs:=[.int .i64 0,.int .i64 0,.int .i64 0,.int .i64 0]) D2.k D2 B7 rfl rfl) rfl<|fun a F=>?_
      refine Av F M D2 (k:=0) rfl rfl rfl (us:=[.int .i64 0,.int .i64 0,.int .i64 0,.int .i64 0]) rfl rfl (by simp [Value.oneCell']) (by simp) ?_;clear F M a;intro w a M F
      change Mem w0 G (.blk b1 [.int .i64 0,.int .i64 0,.int .i64 0,.int .i64 0] 167::L) _ at M
      revert a
      refine Aa<|Ad<|Ak<|fun a F=>Lh F M (k:=0) rfl rfl D2 rfl rfl rfl ?_
      exact ⟨M.weaken (.cons _ (sR _)),by rw [show uG k 0=0 from if_neg (by unfold uAt;omega),show uG k 1=0 from if_neg (by unfold uCo;omega),show uG k 2=0 from if_neg (by unfold uTo;omega),show uG k 3=0 from if_neg (by unfold uIt;omega)]⟩
theorem Nr (M:Mem w0 G L w) {x:NotD} {na:Option Addr} {nc:Nat} (hN:x.kind < 256∧Aw .i64 x.at_∧Aw .i64 x.count∧Aw .i64 x.to∧x.items.length≤9223372036854775807) (SI:Az Co 4 G (.slice na x.items.length nc) x.items):Calls Tryz.prog 38 #[.agg #[.int .u8 ((x.kind:Nat):Int),.int .i64 x.at_,.int .i64 x.count,.int .i64 x.to,.slice na x.items.length nc]] w (Ci w0 G L fun v=>v=.int .i64 (D6 x)):=by
 refine A0 (vs:=[_]) Tryz.func38 rfl (n:=40) rfl rfl<|Ab<|Ac<|C1 M rfl rfl rfl<|?_;clear M;intro b1 w M
 refine Af rfl<|Aa<|Ad<|Ab<|Ab<|Ac<|A2 Bd.k rfl rfl<|Bi Ev M 0 rfl rfl rfl rfl<|C9 rfl rfl<|Ae rfl<|?_
 rcases bE (decide (((x.kind:Nat):Int) < 1)) with h2b | h3b
 ·skip
  have h2:=dT h2b
  refine g_f rfl h2b<|g_f rfl h2b<|g_f rfl h2b<|Bj rfl h2b rfl<|Aa<|Ad<|Bo rfl rfl<|Ab<|Ac<|Af rfl<|Aa<|Ad<|Ak<|Au<|Aj rfl rfl<|?_
  exact ⟨M.weaken (.cons _ (sR _)),by rw [V8 (by omega)]⟩
 ·skip
  have h3:=dF h3b
  refine g_t rfl h3b<|A2 Bd.k rfl rfl<|g_t rfl h3b<|Bi Ev M 0 rfl rfl rfl rfl<|g_t rfl h3b<|Df rfl rfl<|Bh rfl h3b rfl<|Aa<|Ad<|Ax rfl ?_ ?_
  ·intro h4b
   have h4:=dT h4b
   refine Ab<|Ac<|Af rfl<|Aa<|Ad<|Ak<|Au<|Aj rfl rfl<|?_
   exact ⟨M.weaken (.cons _ (sR _)),by rw [V8 (by omega)]⟩
  ·intro h5b
   have h5:=dF h5b
   refine Aq<|Ad<|Ab<|Ac<|A2 Bd.k rfl rfl<|Bi Ev M 0 rfl rfl rfl rfl<|Bw ent93 rfl rfl (Qz (k:=x.kind) M)<|?_;clear M;rintro _ w M rfl
   refine C6 M D2 rfl rfl<|?_;clear M;intro b6 w M
   intro a F
   refine Av F M D2 (k:=0) rfl rfl rfl (us:=[.int .i64 (uG x.kind 0),.int .i64 (uG x.kind 1),.int .i64 (uG x.kind 2),.int .i64 (uG x.kind 3)]) rfl rfl (by simp [Value.oneCell']) (by simp) ?_;clear F M a;intro w a M F
   change Mem w0 G (.blk b6 [.int .i64 (uG x.kind 0),.int .i64 (uG x.kind 1),.int .i64 (uG x.kind 2),.int .i64 (uG x.kind 3)] 167::_::L) _ at M
   revert a
   refine Aa<|Ad<|Ab<|Ab<|Ac<|Af rfl<|Aa<|Ad<|A1<|fun a F=>B2 (fun m a' w'=>∃ (i:Nat),m=4 - i∧Fits 40 a' [(1,.pointer (some ⟨b1,0,none⟩)),(3,.pointer (some ⟨b6,0,none⟩)),(4,.int .i64 ((i:Nat):Int))]∧Mem w0 G (.blk b6 [.int .i64 (uG x.kind 0),.int .i64 (uG x.kind 1),.int .i64 (uG x.kind 2),.int .i64 (uG x.kind 3)] 167::.blk b1 [.int .u8 ((x.kind:Nat):Int),.int .i64 x.at_,.int .i64 x.count,.int .i64 x.to,.slice na x.items.length nc] 65::L) w'∧(i≤4)∧(∀ j,j < i→uG x.kind j=0→nG x j=0)) _ ⟨0,rfl,F.to ⟨rfl,rfl,rfl,trivial⟩,M,by omega,fun j h=>by omega⟩ ?_
   clear F M
   rintro m a w ⟨i,rfl,F,M,hi,hA⟩
   revert a
   refine Ab<|Ab<|Ac<|Ae rfl<|C9 rfl rfl<|Aa<|Ad<|Ax rfl ?_ ?_
   ·intro h8b
    have h8:=dT h8b
    refine Aq<|Ad<|Ab<|A1<|Ab<|fun a F=>Pk (fun a' w'=>∃ (bb:Bool),Fits 40 a' [(1,.pointer (some ⟨b1,0,none⟩)),(3,.pointer (some ⟨b6,0,none⟩)),(4,.int .i64 ((i:Nat):Int)),(39,.bool bb)]∧Mem w0 G (.blk b6 [.int .i64 (uG x.kind 0),.int .i64 (uG x.kind 1),.int .i64 (uG x.kind 2),.int .i64 (uG x.kind 3)] 167::.blk b1 [.int .u8 ((x.kind:Nat):Int),.int .i64 x.at_,.int .i64 x.count,.int .i64 x.to,.slice na x.items.length nc] 65::L) w'∧(bb=true↔uG x.kind i=0∧nG x i≠0)) ?_ ?_
    ·skip
     revert a
     refine Ac<|Ae rfl<|Ar (fun a F=>Ms (j:=i) D2.k B7 rfl (F.ev rfl) (F.ev rfl) (by omega) (by omega)) rfl<|Ar (fun a F=>Ap (agf B7 rfl) (F.ev rfl) (M.cellL (k:=0) rfl (Agq (i:=i) (by omega)))) rfl<|Dy rfl rfl<|Ae rfl<|?_
     rcases bE (decide (uG x.kind i=0)) with h9b | h13b
     ·skip
      have h9:=dT h9b
      refine g_t rfl h9b<|A2 Bd.k rfl rfl<|g_t rfl h9b<|Bi B7 M 1 rfl rfl rfl rfl<|g_t rfl h9b<|A2 Bd.k rfl rfl<|g_t rfl h9b<|Bi B7 M 1 rfl rfl rfl rfl<|g_t rfl h9b<|A2 Bd.k rfl rfl<|g_t rfl h9b<|Bi B7 M 1 rfl rfl rfl rfl<|g_t rfl h9b<|A2 Bd.k rfl rfl<|g_t rfl h9b<|Bi Bp M 1 rfl rfl rfl rfl<|g_t rfl h9b<|B8 Bp.k rfl<|g_t rfl h9b<|fun a F=>?_
      refine Ef F M Vm.k B7 (ps:=[(0,.int .i64 x.at_),(1,.int .i64 x.count),(2,.int .i64 x.to),(3,.int .i64 ((x.items.length:Nat):Int))]) (cs:=[[.int .i64 x.at_],[.int .i64 x.count],[.int .i64 x.to],[.int .i64 ((x.items.length:Nat):Int)]]) (fl:=[.int .i64 x.at_,.int .i64 x.count,.int .i64 x.to,.int .i64 ((x.items.length:Nat):Int)]) rfl rfl (by simp [Kw,Value.cells]) (by simp [ti3]) rfl (by simp [Value.oneCell']) (by decide) (by decide) rfl ?_;clear F M a;intro v10 w a M F
      obtain ⟨av10,cv10,rfl,hlev10,hcmv10,hlv10⟩:=M.row_shape (k:=0) rfl
      have Ez11:Els rdZ 1 G [.int .i64 x.at_,.int .i64 x.count,.int .i64 x.to,.int .i64 ((x.items.length:Nat):Int)] [nG x 0,nG x 1,nG x 2,nG x 3]:=Aki (zs:=[nG x 0,nG x 1,nG x 2,nG x 3])
      revert a
      refine g_t rfl h9b<|Ae rfl<|g_t rfl h9b<|?_
      obtain ⟨be12,_,Ie12,hme12,_,Ae12,rfl⟩:=M.atRow (k:=0) rfl (by decide) Ez11 (n_cell (x:=x) (i:=i) (by omega))
      refine Ds Vm.k B7 Ie12 rfl rfl<|g_t rfl h9b<|Agv B7 Ae12 0 rfl rfl (by omega) rfl<|g_t rfl h9b<|D9 rfl rfl<|Bj rfl h9b rfl<|Aa<|fun a F=>?_
      exact ⟨(!(decide ((nG x i)=0))),F.to ⟨rfl,rfl,rfl,rfl,trivial⟩,M.weaken (.cons _ (sR _)),by clear F M;first | (simp only [Bool.true_eq_false,true_iff,false_iff,Bool.false_eq_true,decide_eq_true_eq];omega) | grind⟩
     ·skip
      have h13:=dF h13b
      refine g_f rfl h13b<|g_f rfl h13b<|g_f rfl h13b<|g_f rfl h13b<|g_f rfl h13b<|g_f rfl h13b<|g_f rfl h13b<|g_f rfl h13b<|g_f rfl h13b<|g_f rfl h13b<|g_f rfl h13b<|g_f rfl h13b<|g_f rfl h13b<|g_f rfl h13b<|Bh rfl h13b rfl<|Aa<|fun a F=>?_
      exact ⟨false,F.to ⟨rfl,rfl,rfl,rfl,trivial⟩,M,by clear F M;first | (simp only [Bool.true_eq_false,true_iff,false_iff,Bool.false_eq_true,decide_eq_true_eq];omega) | grind⟩
    ·clear F M
     rintro a w ⟨bb,F,M,hbb⟩
     revert a
     refine Ad<|Ax rfl ?_ ?_
     ·intro h14b
      have h14:(bb)=true:=h14b
      refine Ab<|?_
      have h8_:=hbb
      refine Ac<|Af rfl<|Aa<|Ad<|Ak<|Bk<|Au<|Au<|Bk<|Au<|Aj rfl rfl<|?_
      exact ⟨M.weaken (.cons _ (.cons _ (sR _))),by rw [Ahw (by omega) (Ahy (j:=i) (by omega) (hbb.1 (by assumption)).1 (hbb.1 (by assumption)).2)]⟩
     ·intro h15b
      have h15:(bb)=false:=h15b
      refine Aq<|C0<|Ad<|Ac<|Ae rfl<|B9 rfl rfl<|Af rfl<|Aa<|Ad<|fun a F=>?_
      exact ⟨_,by omega,i+1,rfl,F.to ⟨rfl,rfl,rfl,trivial⟩,M,by omega,fun j hj hu=>by rcases Nat.lt_succ_iff_lt_or_eq.1 hj with h_ | h_;exact hA j h_ hu;subst h_;clear F M;first | omega | simp_all⟩
   ·intro h16b
    have h16:=dF h16b
    refine B5<|B0<|B0<|Dr<|Ad<|Ab<|Ac<|Af rfl<|Aa<|Ad<|Ak<|Aj rfl rfl<|?_
    exact ⟨M.weaken (.cons _ (.cons _ (sR _))),by rw [Ahx (by omega) (form_of fun j hj hu=>hA j (by omega) hu)]⟩
open Go Go.Y Go.Proofs
variable {w0 w:World} {G:A4} {L:List Res}
set_option linter.unusedSimpArgs false
set_option linter.unusedVariables false
theorem k1_spec (M:Mem w0 G L w) {c:RulesD} {kca:Option Addr} {kcc:Nat} (SC:Az Dv 9 G (.slice kca c.kinds.length kcc) c.kinds) {a1:Option Addr} {c1:Nat} {l:List EntD} (S:Az Cy 6 G (.slice a1 l.length c1) l) (hck:Bv c l=0) {x:NotD} {na:Option Addr} {nc:Nat} (hN:x.kind < 256∧Aw .i64 x.at_∧Aw .i64 x.count∧Aw .i64 x.to∧x.items.length≤9223372036854775807) (SI:Az Co 4 G (.slice na x.items.length nc) x.items) (hX:x.items.length≤900000) (h0:D6 x=0) (hk:x.kind=1):Calls Tryz.prog 122 #[.agg #[.slice kca c.kinds.length kcc,.int .i64 c.cap],.agg #[.slice a1 l.length c1],.agg #[.int .u8 ((x.kind:Nat):Int),.int .i64 x.at_,.int .i64 x.count,.int .i64 x.to,.slice na x.items.length nc]] w (H4 w0 G (Jc L (F7 c l x))):=by
 rw [Alb h0 hk]
 have bS:=S.bound
 refine A0 (vs:=[_,_,_]) Tryz.func122 rfl (n:=17) rfl rfl<|Ab<|Ac<|C1 M rfl rfl rfl<|?_;clear M;intro b1 w M
 refine C1 M rfl rfl rfl<|?_;clear M;intro b2 w M
 refine C1 M rfl rfl rfl<|?_;clear M;intro b3 w M
 refine C6 M Ba rfl rfl<|?_;clear M;intro b4 w M
 refine Af rfl<|Aa<|Ad<|Ab<|Ac<|Ar (fun a F=>Ao Dw rfl (F.ev rfl) (cs:=[.slice kca c.kinds.length kcc,.int .i64 c.cap]) rfl (M.cellsL (k:=3) rfl rfl)) rfl<|Ar (fun a F=>Ao Ba rfl (F.ev rfl) (cs:=[.slice a1 l.length c1]) rfl (M.cellsL (k:=2) rfl rfl)) rfl<|A2 Bd.k rfl rfl<|Bi B7 M 1 rfl rfl rfl rfl<|A2 Bd.k rfl rfl<|Bi Bp M 1 rfl rfl rfl rfl<|fun a F=>?_
 refine Dx F ent123 rfl rfl (Wa (c:=c) (l:=l) (xs:=x.items) (z:=x.at_) M SC S hck SI (by omega)) ?_;clear F M a;rintro _ Gq6 _ w a hGq6 M ⟨aoq6,csq6,Loq6,rfl,rfl,Eoq6⟩ F
 replace SC:=SC.mono Bg hGq6
 replace S:=S.mono Ay hGq6
 replace SI:=SI.mono A3 hGq6
 have M:=M.perm (Ch (Cs aoq6 (Eg c l x.at_ x.items).1.length csq6::Loq6) [.blk b4 [.slice none 0 0] 54,.blk b3 [.int .u8 ((x.kind:Nat):Int),.int .i64 x.at_,.int .i64 x.count,.int .i64 x.to,.slice na x.items.length nc] 65,.blk b2 [.slice a1 l.length c1] 54,.blk b1 [.slice kca c.kinds.length kcc,.int .i64 c.cap] 51] L)
 change Mem w0 Gq6 (.blk b4 [.slice none 0 0] 54::.blk b3 [.int .u8 ((x.kind:Nat):Int),.int .i64 x.at_,.int .i64 x.count,.int .i64 x.to,.slice na x.items.length nc] 65::.blk b2 [.slice a1 l.length c1] 54::.blk b1 [.slice kca c.kinds.length kcc,.int .i64 c.cap] 51::((Cs aoq6 (Eg c l x.at_ x.items).1.length csq6::Loq6)++L)) _ at M
 revert a
 refine Dg rfl rfl<|Dg rfl rfl<|fun a F=>?_
 refine Av F M Ba (k:=0) rfl rfl rfl (us:=[.slice aoq6 ((Eg c l x.at_ x.items).1.length) ((Eg c l x.at_ x.items).1.length)]) rfl rfl (by simp [Value.oneCell']) (by simp) ?_;clear F M a;intro w a M F
 change Mem w0 Gq6 (.blk b4 [.slice aoq6 ((Eg c l x.at_ x.items).1.length) ((Eg c l x.at_ x.items).1.length)] 54::_::_::_::((Cs aoq6 (Eg c l x.at_ x.items).1.length csq6::Loq6)++L)) _ at M
 revert a
 refine Af rfl<|Aa<|Ad<|Ak<|fun a F=>Cj F M (k:=0) rfl rfl Ba rfl rfl rfl rfl ?_
 exact ⟨_,_,hGq6,M.weaken (.cons _ (.cons _ (.cons _ (.cons _ (sR _))))),aoq6,csq6,Loq6,rfl,rfl,Eoq6⟩
theorem k2_spec (M:Mem w0 G L w) {c:RulesD} {kca:Option Addr} {kcc:Nat} (SC:Az Dv 9 G (.slice kca c.kinds.length kcc) c.kinds) {a1:Option Addr} {c1:Nat} {l:List EntD} (S:Az Cy 6 G (.slice a1 l.length c1) l) (hck:Bv c l=0) {x:NotD} {na:Option Addr} {nc:Nat} (hN:x.kind < 256∧Aw .i64 x.at_∧Aw .i64 x.count∧Aw .i64 x.to∧x.items.length≤9223372036854775807) (SI:Az Co 4 G (.slice na x.items.length nc) x.items) (hX:x.items.length≤900000) (h0:D6 x=0) (hk:x.kind=2):Calls Tryz.prog 124 #[.agg #[.slice kca c.kinds.length kcc,.int .i64 c.cap],.agg #[.slice a1 l.length c1],.agg #[.int .u8 ((x.kind:Nat):Int),.int .i64 x.at_,.int .i64 x.count,.int .i64 x.to,.slice na x.items.length nc]] w (H4 w0 G (Jc L (F7 c l x))):=by
 rw [Adj h0 hk]
 have bS:=S.bound
 refine A0 (vs:=[_,_,_]) Tryz.func124 rfl (n:=17) rfl rfl<|Ab<|Ac<|C1 M rfl rfl rfl<|?_;clear M;intro b1 w M
 refine C1 M rfl rfl rfl<|?_;clear M;intro b2 w M
 refine C1 M rfl rfl rfl<|?_;clear M;intro b3 w M
 refine C6 M Ba rfl rfl<|?_;clear M;intro b4 w M
 refine Af rfl<|Aa<|Ad<|Ab<|Ac<|Ar (fun a F=>Ao Dw rfl (F.ev rfl) (cs:=[.slice kca c.kinds.length kcc,.int .i64 c.cap]) rfl (M.cellsL (k:=3) rfl rfl)) rfl<|Ar (fun a F=>Ao Ba rfl (F.ev rfl) (cs:=[.slice a1 l.length c1]) rfl (M.cellsL (k:=2) rfl rfl)) rfl<|A2 Bd.k rfl rfl<|Bi B7 M 1 rfl rfl rfl rfl<|A2 Bd.k rfl rfl<|Bi B7 M 1 rfl rfl rfl rfl<|fun a F=>?_
 refine Dx F ent69 rfl rfl (N0 (c:=c) (l:=l) (z:=x.at_) (n:=x.count) M SC S hck ) ?_;clear F M a;rintro _ Gq6 _ w a hGq6 M ⟨aoq6,csq6,Loq6,rfl,rfl,Eoq6⟩ F
 replace SC:=SC.mono Bg hGq6
 replace S:=S.mono Ay hGq6
 replace SI:=SI.mono A3 hGq6
 have M:=M.perm (Ch (Cs aoq6 (Hk l x.at_ x.count).1.length csq6::Loq6) [.blk b4 [.slice none 0 0] 54,.blk b3 [.int .u8 ((x.kind:Nat):Int),.int .i64 x.at_,.int .i64 x.count,.int .i64 x.to,.slice na x.items.length nc] 65,.blk b2 [.slice a1 l.length c1] 54,.blk b1 [.slice kca c.kinds.length kcc,.int .i64 c.cap] 51] L)
 change Mem w0 Gq6 (.blk b4 [.slice none 0 0] 54::.blk b3 [.int .u8 ((x.kind:Nat):Int),.int .i64 x.at_,.int .i64 x.count,.int .i64 x.to,.slice na x.items.length nc] 65::.blk b2 [.slice a1 l.length c1] 54::.blk b1 [.slice kca c.kinds.length kcc,.int .i64 c.cap] 51::((Cs aoq6 (Hk l x.at_ x.count).1.length csq6::Loq6)++L)) _ at M
 revert a
 refine Dg rfl rfl<|Dg rfl rfl<|fun a F=>?_
 refine Av F M Ba (k:=0) rfl rfl rfl (us:=[.slice aoq6 ((Hk l x.at_ x.count).1.length) ((Hk l x.at_ x.count).1.length)]) rfl rfl (by simp [Value.oneCell']) (by simp) ?_;clear F M a;intro w a M F
 change Mem w0 Gq6 (.blk b4 [.slice aoq6 ((Hk l x.at_ x.count).1.length) ((Hk l x.at_ x.count).1.length)] 54::_::_::_::((Cs aoq6 (Hk l x.at_ x.count).1.length csq6::Loq6)++L)) _ at M
 revert a
 refine Af rfl<|Aa<|Ad<|Ak<|fun a F=>Cj F M (k:=0) rfl rfl Ba rfl rfl rfl rfl ?_
 exact ⟨_,_,hGq6,M.weaken (.cons _ (.cons _ (.cons _ (.cons _ (sR _))))),aoq6,csq6,Loq6,rfl,rfl,Eoq6⟩
theorem k3_spec (M:Mem w0 G L w) {c:RulesD} {kca:Option Addr} {kcc:Nat} (SC:Az Dv 9 G (.slice kca c.kinds.length kcc) c.kinds) {a1:Option Addr} {c1:Nat} {l:List EntD} (S:Az Cy 6 G (.slice a1 l.length c1) l) (hck:Bv c l=0) {x:NotD} {na:Option Addr} {nc:Nat} (hN:x.kind < 256∧Aw .i64 x.at_∧Aw .i64 x.count∧Aw .i64 x.to∧x.items.length≤9223372036854775807) (SI:Az Co 4 G (.slice na x.items.length nc) x.items) (hX:x.items.length≤900000) (h0:D6 x=0) (hk:x.kind=3):Calls Tryz.prog 125 #[.agg #[.slice kca c.kinds.length kcc,.int .i64 c.cap],.agg #[.slice a1 l.length c1],.agg #[.int .u8 ((x.kind:Nat):Int),.int .i64 x.at_,.int .i64 x.count,.int .i64 x.to,.slice na x.items.length nc]] w (H4 w0 G (Jc L (F7 c l x))):=by
 rw [Ala h0 hk]
 have bS:=S.bound
 refine A0 (vs:=[_,_,_]) Tryz.func125 rfl (n:=19) rfl rfl<|Ab<|Ac<|C1 M rfl rfl rfl<|?_;clear M;intro b1 w M
 refine C1 M rfl rfl rfl<|?_;clear M;intro b2 w M
 refine C1 M rfl rfl rfl<|?_;clear M;intro b3 w M
 refine C6 M Ba rfl rfl<|?_;clear M;intro b4 w M
 refine Af rfl<|Aa<|Ad<|Ab<|Ac<|Ar (fun a F=>Ao Dw rfl (F.ev rfl) (cs:=[.slice kca c.kinds.length kcc,.int .i64 c.cap]) rfl (M.cellsL (k:=3) rfl rfl)) rfl<|Ar (fun a F=>Ao Ba rfl (F.ev rfl) (cs:=[.slice a1 l.length c1]) rfl (M.cellsL (k:=2) rfl rfl)) rfl<|A2 Bd.k rfl rfl<|Bi B7 M 1 rfl rfl rfl rfl<|A2 Bd.k rfl rfl<|Bi B7 M 1 rfl rfl rfl rfl<|A2 Bd.k rfl rfl<|Bi B7 M 1 rfl rfl rfl rfl<|fun a F=>?_
 refine Dx F ent126 rfl rfl (Aas (c:=c) (l:=l) (z:=x.at_) (n:=x.count) (q:=x.to) M SC S hck ) ?_;clear F M a;rintro _ Gq6 _ w a hGq6 M ⟨aoq6,csq6,Loq6,rfl,rfl,Eoq6⟩ F
 replace SC:=SC.mono Bg hGq6
 replace S:=S.mono Ay hGq6
 replace SI:=SI.mono A3 hGq6
 have M:=M.perm (Ch (Cs aoq6 (Fq l x.at_ x.count x.to).1.length csq6::Loq6) [.blk b4 [.slice none 0 0] 54,.blk b3 [.int .u8 ((x.kind:Nat):Int),.int .i64 x.at_,.int .i64 x.count,.int .i64 x.to,.slice na x.items.length nc] 65,.blk b2 [.slice a1 l.length c1] 54,.blk b1 [.slice kca c.kinds.length kcc,.int .i64 c.cap] 51] L)
 change Mem w0 Gq6 (.blk b4 [.slice none 0 0] 54::.blk b3 [.int .u8 ((x.kind:Nat):Int),.int .i64 x.at_,.int .i64 x.count,.int .i64 x.to,.slice na x.items.length nc] 65::.blk b2 [.slice a1 l.length c1] 54::.blk b1 [.slice kca c.kinds.length kcc,.int .i64 c.cap] 51::((Cs aoq6 (Fq l x.at_ x.count x.to).1.length csq6::Loq6)++L)) _ at M
 revert a
 refine Dg rfl rfl<|Dg rfl rfl<|fun a F=>?_
 refine Av F M Ba (k:=0) rfl rfl rfl (us:=[.slice aoq6 ((Fq l x.at_ x.count x.to).1.length) ((Fq l x.at_ x.count x.to).1.length)]) rfl rfl (by simp [Value.oneCell']) (by simp) ?_;clear F M a;intro w a M F
 change Mem w0 Gq6 (.blk b4 [.slice aoq6 ((Fq l x.at_ x.count x.to).1.length) ((Fq l x.at_ x.count x.to).1.length)] 54::_::_::_::((Cs aoq6 (Fq l x.at_ x.count x.to).1.length csq6::Loq6)++L)) _ at M
 revert a
 refine Af rfl<|Aa<|Ad<|Ak<|fun a F=>Cj F M (k:=0) rfl rfl Ba rfl rfl rfl rfl ?_
 exact ⟨_,_,hGq6,M.weaken (.cons _ (.cons _ (.cons _ (.cons _ (sR _))))),aoq6,csq6,Loq6,rfl,rfl,Eoq6⟩
theorem k4_spec (M:Mem w0 G L w) {c:RulesD} {kca:Option Addr} {kcc:Nat} (SC:Az Dv 9 G (.slice kca c.kinds.length kcc) c.kinds) {a1:Option Addr} {c1:Nat} {l:List EntD} (S:Az Cy 6 G (.slice a1 l.length c1) l) (hck:Bv c l=0) {x:NotD} {na:Option Addr} {nc:Nat} (hN:x.kind < 256∧Aw .i64 x.at_∧Aw .i64 x.count∧Aw .i64 x.to∧x.items.length≤9223372036854775807) (SI:Az Co 4 G (.slice na x.items.length nc) x.items) (hX:x.items.length≤900000) (h0:D6 x=0) (hk:x.kind=4):Calls Tryz.prog 127 #[.agg #[.slice kca c.kinds.length kcc,.int .i64 c.cap],.agg #[.slice a1 l.length c1],.agg #[.int .u8 ((x.kind:Nat):Int),.int .i64 x.at_,.int .i64 x.count,.int .i64 x.to,.slice na x.items.length nc]] w (H4 w0 G (Jc L (F7 c l x))):=by
 rw [app_4 h0 hk]
 have bS:=S.bound
 refine A0 (vs:=[_,_,_]) Tryz.func127 rfl (n:=17) rfl rfl<|Ab<|Ac<|C1 M rfl rfl rfl<|?_;clear M;intro b1 w M
 refine C1 M rfl rfl rfl<|?_;clear M;intro b2 w M
 refine C1 M rfl rfl rfl<|?_;clear M;intro b3 w M
 refine C6 M Ba rfl rfl<|?_;clear M;intro b4 w M
 refine Af rfl<|Aa<|Ad<|Ab<|Ac<|Ar (fun a F=>Ao Dw rfl (F.ev rfl) (cs:=[.slice kca c.kinds.length kcc,.int .i64 c.cap]) rfl (M.cellsL (k:=3) rfl rfl)) rfl<|Ar (fun a F=>Ao Ba rfl (F.ev rfl) (cs:=[.slice a1 l.length c1]) rfl (M.cellsL (k:=2) rfl rfl)) rfl<|A2 Bd.k rfl rfl<|Bi B7 M 1 rfl rfl rfl rfl<|A2 Bd.k rfl rfl<|Bi Bp M 1 rfl rfl rfl rfl<|fun a F=>?_
 refine Dx F ent128 rfl rfl (Wb (c:=c) (l:=l) (xs:=x.items) (z:=x.at_) M SC S hck SI (by omega)) ?_;clear F M a;rintro _ Gq6 _ w a hGq6 M ⟨aoq6,csq6,Loq6,rfl,rfl,Eoq6⟩ F
 replace SC:=SC.mono Bg hGq6
 replace S:=S.mono Ay hGq6
 replace SI:=SI.mono A3 hGq6
 have M:=M.perm (Ch (Cs aoq6 (Gv c l x.at_ x.items).1.length csq6::Loq6) [.blk b4 [.slice none 0 0] 54,.blk b3 [.int .u8 ((x.kind:Nat):Int),.int .i64 x.at_,.int .i64 x.count,.int .i64 x.to,.slice na x.items.length nc] 65,.blk b2 [.slice a1 l.length c1] 54,.blk b1 [.slice kca c.kinds.length kcc,.int .i64 c.cap] 51] L)
 change Mem w0 Gq6 (.blk b4 [.slice none 0 0] 54::.blk b3 [.int .u8 ((x.kind:Nat):Int),.int .i64 x.at_,.int .i64 x.count,.int .i64 x.to,.slice na x.items.length nc] 65::.blk b2 [.slice a1 l.length c1] 54::.blk b1 [.slice kca c.kinds.length kcc,.int .i64 c.cap] 51::((Cs aoq6 (Gv c l x.at_ x.items).1.length csq6::Loq6)++L)) _ at M
 revert a
 refine Dg rfl rfl<|Dg rfl rfl<|fun a F=>?_
 refine Av F M Ba (k:=0) rfl rfl rfl (us:=[.slice aoq6 ((Gv c l x.at_ x.items).1.length) ((Gv c l x.at_ x.items).1.length)]) rfl rfl (by simp [Value.oneCell']) (by simp) ?_;clear F M a;intro w a M F
 change Mem w0 Gq6 (.blk b4 [.slice aoq6 ((Gv c l x.at_ x.items).1.length) ((Gv c l x.at_ x.items).1.length)] 54::_::_::_::((Cs aoq6 (Gv c l x.at_ x.items).1.length csq6::Loq6)++L)) _ at M
 revert a
 refine Af rfl<|Aa<|Ad<|Ak<|fun a F=>Cj F M (k:=0) rfl rfl Ba rfl rfl rfl rfl ?_
 exact ⟨_,_,hGq6,M.weaken (.cons _ (.cons _ (.cons _ (.cons _ (sR _))))),aoq6,csq6,Loq6,rfl,rfl,Eoq6⟩
theorem k5_spec (M:Mem w0 G L w) {c:RulesD} {kca:Option Addr} {kcc:Nat} (SC:Az Dv 9 G (.slice kca c.kinds.length kcc) c.kinds) {a1:Option Addr} {c1:Nat} {l:List EntD} (S:Az Cy 6 G (.slice a1 l.length c1) l) (hck:Bv c l=0) {x:NotD} {na:Option Addr} {nc:Nat} (hN:x.kind < 256∧Aw .i64 x.at_∧Aw .i64 x.count∧Aw .i64 x.to∧x.items.length≤9223372036854775807) (SI:Az Co 4 G (.slice na x.items.length nc) x.items) (hX:x.items.length≤900000) (h0:D6 x=0) (hk:x.kind=5):Calls Tryz.prog 129 #[.agg #[.slice kca c.kinds.length kcc,.int .i64 c.cap],.agg #[.slice a1 l.length c1],.agg #[.int .u8 ((x.kind:Nat):Int),.int .i64 x.at_,.int .i64 x.count,.int .i64 x.to,.slice na x.items.length nc]] w (H4 w0 G (Jc L (F7 c l x))):=by
 rw [app_5 h0 hk]
 have bS:=S.bound
 refine A0 (vs:=[_,_,_]) Tryz.func129 rfl (n:=15) rfl rfl<|Ab<|Ac<|C1 M rfl rfl rfl<|?_;clear M;intro b1 w M
 refine C1 M rfl rfl rfl<|?_;clear M;intro b2 w M
 refine C1 M rfl rfl rfl<|?_;clear M;intro b3 w M
 refine C6 M Ba rfl rfl<|?_;clear M;intro b4 w M
 refine Af rfl<|Aa<|Ad<|Ab<|Ac<|Ar (fun a F=>Ao Dw rfl (F.ev rfl) (cs:=[.slice kca c.kinds.length kcc,.int .i64 c.cap]) rfl (M.cellsL (k:=3) rfl rfl)) rfl<|Ar (fun a F=>Ao Ba rfl (F.ev rfl) (cs:=[.slice a1 l.length c1]) rfl (M.cellsL (k:=2) rfl rfl)) rfl<|A2 Bd.k rfl rfl<|Bi Bp M 1 rfl rfl rfl rfl<|fun a F=>?_
 refine Dx F ent92 rfl rfl (P3 (c:=c) (l:=l) (xs:=x.items) M SC S hck SI (by omega)) ?_;clear F M a;rintro _ Gq6 _ w a hGq6 M ⟨aoq6,csq6,Loq6,rfl,rfl,Eoq6⟩ F
 replace SC:=SC.mono Bg hGq6
 replace S:=S.mono Ay hGq6
 replace SI:=SI.mono A3 hGq6
 have M:=M.perm (Ch (Cs aoq6 (Eg c [] 0 x.items).1.length csq6::Loq6) [.blk b4 [.slice none 0 0] 54,.blk b3 [.int .u8 ((x.kind:Nat):Int),.int .i64 x.at_,.int .i64 x.count,.int .i64 x.to,.slice na x.items.length nc] 65,.blk b2 [.slice a1 l.length c1] 54,.blk b1 [.slice kca c.kinds.length kcc,.int .i64 c.cap] 51] L)
 change Mem w0 Gq6 (.blk b4 [.slice none 0 0] 54::.blk b3 [.int .u8 ((x.kind:Nat):Int),.int .i64 x.at_,.int .i64 x.count,.int .i64 x.to,.slice na x.items.length nc] 65::.blk b2 [.slice a1 l.length c1] 54::.blk b1 [.slice kca c.kinds.length kcc,.int .i64 c.cap] 51::((Cs aoq6 (Eg c [] 0 x.items).1.length csq6::Loq6)++L)) _ at M
 revert a
 refine Dg rfl rfl<|Dg rfl rfl<|fun a F=>?_
 refine Av F M Ba (k:=0) rfl rfl rfl (us:=[.slice aoq6 ((Eg c [] 0 x.items).1.length) ((Eg c [] 0 x.items).1.length)]) rfl rfl (by simp [Value.oneCell']) (by simp) ?_;clear F M a;intro w a M F
 change Mem w0 Gq6 (.blk b4 [.slice aoq6 ((Eg c [] 0 x.items).1.length) ((Eg c [] 0 x.items).1.length)] 54::_::_::_::((Cs aoq6 (Eg c [] 0 x.items).1.length csq6::Loq6)++L)) _ at M
 revert a
 refine Af rfl<|Aa<|Ad<|Ak<|fun a F=>Cj F M (k:=0) rfl rfl Ba rfl rfl rfl rfl ?_
 exact ⟨_,_,hGq6,M.weaken (.cons _ (.cons _ (.cons _ (.cons _ (sR _))))),aoq6,csq6,Loq6,rfl,rfl,Eoq6⟩
theorem Afs (M:Mem w0 G L w) {c:RulesD} {kca:Option Addr} {kcc:Nat} (SC:Az Dv 9 G (.slice kca c.kinds.length kcc) c.kinds) {a1:Option Addr} {c1:Nat} {l:List EntD} (S:Az Cy 6 G (.slice a1 l.length c1) l) (hck:Bv c l=0) {x:NotD} {na:Option Addr} {nc:Nat} (hN:x.kind < 256∧Aw .i64 x.at_∧Aw .i64 x.count∧Aw .i64 x.to∧x.items.length≤9223372036854775807) (SI:Az Co 4 G (.slice na x.items.length nc) x.items) (hX:x.items.length≤900000) (h0:D6 x=0):Calls Tryz.prog (Dt x.kind) #[.agg #[.slice kca c.kinds.length kcc,.int .i64 c.cap],.agg #[.slice a1 l.length c1],.agg #[.int .u8 ((x.kind:Nat):Int),.int .i64 x.at_,.int .i64 x.count,.int .i64 x.to,.slice na x.items.length nc]] w (H4 w0 G (Jc L (F7 c l x))):=by
 have hk:=(H0.1 h0).1
 rcases (show x.kind=1∨x.kind=2∨x.kind=3∨x.kind=4∨x.kind=5 by omega) with e | e | e | e | e
 ·have h:=k1_spec M SC S hck hN SI hX h0 e
  rw [show Dt x.kind=122 by rw [e];rfl];exact h
 ·have h:=k2_spec M SC S hck hN SI hX h0 e
  rw [show Dt x.kind=124 by rw [e];rfl];exact h
 ·have h:=k3_spec M SC S hck hN SI hX h0 e
  rw [show Dt x.kind=125 by rw [e];rfl];exact h
 ·have h:=k4_spec M SC S hck hN SI hX h0 e
  rw [show Dt x.kind=127 by rw [e];rfl];exact h
 ·have h:=k5_spec M SC S hck hN SI hX h0 e
  rw [show Dt x.kind=129 by rw [e];rfl];exact h
theorem Aji {k:Nat}:Ent Tryz.prog (Dt k):=by
 unfold Dt
 split
 ·exact ent122
 ·exact ent124
 ·exact ent125
 ·exact ent127
 ·exact ent129
theorem Yd (M:Mem w0 G L w) {c:RulesD} {kca:Option Addr} {kcc:Nat} (SC:Az Dv 9 G (.slice kca c.kinds.length kcc) c.kinds) {a1:Option Addr} {c1:Nat} {l:List EntD} (S:Az Cy 6 G (.slice a1 l.length c1) l)  {x:NotD} {na:Option Addr} {nc:Nat} (hN:x.kind < 256∧Aw .i64 x.at_∧Aw .i64 x.count∧Aw .i64 x.to∧x.items.length≤9223372036854775807) (SI:Az Co 4 G (.slice na x.items.length nc) x.items) (hX:x.items.length≤900000):Calls Tryz.prog 28 #[.agg #[.slice kca c.kinds.length kcc,.int .i64 c.cap],.agg #[.slice a1 l.length c1],.agg #[.int .u8 ((x.kind:Nat):Int),.int .i64 x.at_,.int .i64 x.count,.int .i64 x.to,.slice na x.items.length nc]] w (H4 w0 G (Jc L (Alc c l x))):=by
 have bS:=S.bound
 refine A0 (vs:=[_,_,_]) Tryz.func28 rfl (n:=34) rfl rfl<|Ab<|Ac<|C1 M rfl rfl rfl<|?_;clear M;intro b1 w M
 refine C1 M rfl rfl rfl<|?_;clear M;intro b2 w M
 refine C1 M rfl rfl rfl<|?_;clear M;intro b3 w M
 refine C6 M Ba rfl rfl<|?_;clear M;intro b4 w M
 refine Af rfl<|Aa<|Ad<|Ab<|Ab<|Ac<|Ar (fun a F=>Ao Dw rfl (F.ev rfl) (cs:=[.slice kca c.kinds.length kcc,.int .i64 c.cap]) rfl (M.cellsL (k:=3) rfl rfl)) rfl<|Ar (fun a F=>Ao Ba rfl (F.ev rfl) (cs:=[.slice a1 l.length c1]) rfl (M.cellsL (k:=2) rfl rfl)) rfl<|Bw Ajj rfl rfl (Lf (c:=c) (l:=l) M SC S)<|?_;clear M;rintro _ w M rfl
 refine Af rfl<|Aa<|Ad<|Ab<|Ac<|Ae rfl<|D9 rfl rfl<|Aa<|Ad<|Ax rfl ?_ ?_
 ·intro h6b
  have h6:=dF (Ah h6b)
  refine Ab<|Ac<|Ar (fun a F=>Be (cs:=[.slice none 0 0]) (ps:=[]) Ba.k rfl Ba (F.evp rfl) rfl) rfl<|Ae rfl<|fun a F=>?_
  refine Av F M Ba (k:=0) rfl rfl rfl (us:=[.slice none 0 0]) rfl rfl (by simp [Value.oneCell']) (by simp) ?_;clear F M a;intro w a M F
  change Mem w0 G (.blk b4 [.slice none 0 0] 54::_::_::_::L) _ at M
  revert a
  refine Af rfl<|Aa<|Ad<|Ak<|Au<|fun a F=>Cj F M (k:=0) rfl rfl Ba rfl rfl rfl rfl ?_
  exact Fu (appE_no (by omega)) (Gle.refl _) (M.weaken (.cons _ (.cons _ (.cons _ (.cons _ (sR _))))))
 ·intro h7b
  have h7:=dT (Ai h7b)
  refine Aq<|Ad<|Ab<|Ab<|Ac<|Ar (fun a F=>Ao Bd rfl (F.ev rfl) (cs:=[.int .u8 ((x.kind:Nat):Int),.int .i64 x.at_,.int .i64 x.count,.int .i64 x.to,.slice na x.items.length nc]) rfl (M.cellsL (k:=1) rfl rfl)) rfl<|Bw Y0 rfl rfl (Ha (x:=x) M hN SI)<|?_;clear M;rintro _ w M rfl
  refine Af rfl<|Aa<|Ad<|Ab<|Ac<|Ae rfl<|D9 rfl rfl<|Aa<|Ad<|Ax rfl ?_ ?_
  ·intro h8b
   have h8:=dF (Ah h8b)
   refine Ab<|Ac<|Ar (fun a F=>Be (cs:=[.slice none 0 0]) (ps:=[]) Ba.k rfl Ba (F.evp rfl) rfl) rfl<|Ae rfl<|fun a F=>?_
   refine Av F M Ba (k:=0) rfl rfl rfl (us:=[.slice none 0 0]) rfl rfl (by simp [Value.oneCell']) (by simp) ?_;clear F M a;intro w a M F
   change Mem w0 G (.blk b4 [.slice none 0 0] 54::_::_::_::L) _ at M
   revert a
   refine Af rfl<|Aa<|Ad<|Ak<|Au<|fun a F=>Cj F M (k:=0) rfl rfl Ba rfl rfl rfl rfl ?_
   exact Fu (((Wt (by omega)).trans (app_e (by omega)))) (Gle.refl _) (M.weaken (.cons _ (.cons _ (.cons _ (.cons _ (sR _))))))
  ·intro h9b
   have h9:=dT (Ai h9b)
   refine Aq<|Ad<|Ab<|?_
   have hkk:=(H0.1 (show D6 x=0 by omega)).1
   intro a F
   refine Vf [(.free,1),(.pure,2),(.pure,5),(.pure,6),(.pure,7),(.keep,0),(.free,3),(.free,4),(.keep,8),(.free,9),(.free,10),(.chg,11),(.free,12)] [11] (Keep G [.blk b3 [.int .u8 ((x.kind:Nat):Int),.int .i64 x.at_,.int .i64 x.count,.int .i64 x.to,.slice na x.items.length nc] 65,.blk b2 [.slice a1 l.length c1] 54,.blk b1 [.slice kca c.kinds.length kcc,.int .i64 c.cap] 51]) rfl (by kernel_rfl) (fun c a d v w h=>by cases d <;> exact h) ((M.drew _).keep (Gle.refl _) (by simp)) ?_
   replace M:=M.drew (w.drawn+1)
   revert a
   refine k_f (fun a F w _=>Cm Bd.k rfl F rfl) rfl<|k_p (fun a F w M=>Ap (agf Ev rfl) (F.ev rfl) (M.cellL (k:=0) rfl rfl)) rfl<|k_p (fun a F w M=>Ao Dw rfl (F.ev rfl) (cs:=[.slice kca c.kinds.length kcc,.int .i64 c.cap]) rfl (M.cellsL (k:=2) rfl rfl)) rfl<|k_p (fun a F w M=>Ao Ba rfl (F.ev rfl) (cs:=[.slice a1 l.length c1]) rfl (M.cellsL (k:=1) rfl rfl)) rfl<|k_p (fun a F w M=>Ao Bd rfl (F.ev rfl) (cs:=[.int .u8 ((x.kind:Nat):Int),.int .i64 x.at_,.int .i64 x.count,.int .i64 x.to,.slice na x.items.length nc]) rfl (M.cellsL (k:=0) rfl rfl)) rfl<|k_k rfl<|Bw N7 rfl rfl (Fz M)<|?_;clear M;rintro _ w M rfl
   refine Aa<|eK (C':=Keep G [.blk b3 [.int .u8 ((x.kind:Nat):Int),.int .i64 x.at_,.int .i64 x.count,.int .i64 x.to,.slice na x.items.length nc] 65,.blk b2 [.slice a1 l.length c1] 54,.blk b1 [.slice kca c.kinds.length kcc,.int .i64 c.cap] 51]) (M.keep (Gle.refl _) (by simp)) (fun w h=>h.mono (Gle.refl _) (by simp))<|k_f (fun a F w _=>Fx (j:=x.kind) Gb.k Cb rfl (F.ev rfl) (F.ev rfl) rfl (by omega) (us:=[.string (str (B1 x.kind)),.bool (decide (uAt x.kind)),.bool (decide (uCo x.kind)),.bool (decide (uTo x.kind)),.bool (decide (uIt x.kind)),.func (.func (Dt x.kind)) #[] #[]]) (Ic (by omega))) rfl<|k_f (fun a F w _=>Aaa Cb.k rfl tok67 rfl (F.ev rfl) rfl) rfl<|k_k rfl<|fun a F=>?_
   refine Adx F Aji rfl rfl rfl (Afs M SC S (by omega) hN SI hX (by omega)) ?_;clear F M a;rintro _ Gq10 _ w a hGq10 M ⟨aoq10,csq10,Loq10,rfl,rfl,Eoq10⟩ F
   replace SC:=SC.mono Bg hGq10
   replace S:=S.mono Ay hGq10
   replace SI:=SI.mono A3 hGq10
   have M:=M.perm (Ch (Cs aoq10 (F7 c l x).1.length csq10::Loq10) [.blk b4 [.slice none 0 0] 54,.blk b3 [.int .u8 ((x.kind:Nat):Int),.int .i64 x.at_,.int .i64 x.count,.int .i64 x.to,.slice na x.items.length nc] 65,.blk b2 [.slice a1 l.length c1] 54,.blk b1 [.slice kca c.kinds.length kcc,.int .i64 c.cap] 51] L)
   change Mem w0 Gq10 (.blk b4 [.slice none 0 0] 54::.blk b3 [.int .u8 ((x.kind:Nat):Int),.int .i64 x.at_,.int .i64 x.count,.int .i64 x.to,.slice na x.items.length nc] 65::.blk b2 [.slice a1 l.length c1] 54::.blk b1 [.slice kca c.kinds.length kcc,.int .i64 c.cap] 51::((Cs aoq10 (F7 c l x).1.length csq10::Loq10)++L)) _ at M
   revert a
   refine Aa<|eK (C':=Keep Gq10 [.blk b3 [.int .u8 ((x.kind:Nat):Int),.int .i64 x.at_,.int .i64 x.count,.int .i64 x.to,.slice na x.items.length nc] 65,.blk b2 [.slice a1 l.length c1] 54,.blk b1 [.slice kca c.kinds.length kcc,.int .i64 c.cap] 51]) (M.keep (Gle.refl _) (by simp)) (fun w h=>h.mono hGq10 (by simp))<|k_f (fun a F w _=>Cl (v:=.agg #[.slice aoq10 ((F7 c l x).1.length) ((F7 c l x).1.length)]) (F.ev rfl) rfl) rfl<|k_f (fun a F w _=>Cl (v:=.int .i64 ((F7 c l x).2)) (F.ev rfl) rfl) rfl<|k_c rfl<|fun a F=>?_
   refine Av F M Ba (k:=0) rfl rfl rfl (us:=[.slice aoq10 ((F7 c l x).1.length) ((F7 c l x).1.length)]) rfl rfl (by simp [Value.oneCell']) (by simp) ?_;clear F M a;intro w a M F
   change Mem w0 Gq10 (.blk b4 [.slice aoq10 ((F7 c l x).1.length) ((F7 c l x).1.length)] 54::_::_::_::((Cs aoq10 (F7 c l x).1.length csq10::Loq10)++L)) _ at M
   revert a
   refine Aa<|fun a F=>⟨Keep Gq10 [.blk b4 [.slice aoq10 ((F7 c l x).1.length) ((F7 c l x).1.length)] 54,.blk b3 [.int .u8 ((x.kind:Nat):Int),.int .i64 x.at_,.int .i64 x.count,.int .i64 x.to,.slice na x.items.length nc] 65,.blk b2 [.slice a1 l.length c1] 54,.blk b1 [.slice kca c.kinds.length kcc,.int .i64 c.cap] 51],M.keep (Gle.refl _) (by simp),?_⟩
   revert a
   refine k_f (fun a F w _=>Hg F rfl) rfl<|D1<|Ad<|Ak<|fun a F=>Cj F M (k:=0) rfl rfl Ba rfl rfl rfl rfl ?_
   rw [Wt (by omega)]
   exact ⟨_,_,hGq10,M.weaken (.cons _ (.cons _ (.cons _ (.cons _ (sR _))))),aoq10,csq10,Loq10,rfl,rfl,Eoq10⟩
open Go Go.Y Go.Proofs
set_option linter.unusedSimpArgs false
set_option linter.unusedVariables false
open Go Go.Y Go.Proofs
variable {w0 w:World} {G:A4} {L:List Res}
set_option linter.unusedSimpArgs false
set_option linter.unusedVariables false
theorem Aap (M:Mem w0 G L w) {c:RulesD} {kca:Option Addr} {kcc:Nat} (SC:Az Dv 9 G (.slice kca c.kinds.length kcc) c.kinds) {a1:Option Addr} {c1 i:Nat} {l:List EntD} {ns:List NotD} (S:Az Cy 6 G (.slice a1 (C3 c l ns i).1.length c1) (C3 c l ns i).1) (hck:Bv c l=0) (hR:(C3 c l ns i).2=0) {x:NotD} {na:Option Addr} {nc:Nat} (hN:x.kind < 256∧Aw .i64 x.at_∧Aw .i64 x.count∧Aw .i64 x.to∧x.items.length≤9223372036854775807) (SI:Az Co 4 G (.slice na x.items.length nc) x.items) (hx:ns[i]?=some x) (hNX:∀ x∈ns,x.items.length≤900000) :
  Calls Tryz.prog 28 #[.agg #[.slice kca c.kinds.length kcc,.int .i64 c.cap],.agg #[.slice a1 (C3 c l ns i).1.length c1],.agg #[.int .u8 ((x.kind:Nat):Int),.int .i64 x.at_,.int .i64 x.count,.int .i64 x.to,.slice na x.items.length nc]] w (H4 w0 G (Jc L (C3 c l ns (i+1)))):=by
 rw [H9 hR hx,← Wt (T2 hck hR)]
 exact Yd M SC S hN SI (hNX _ (List.mem_of_getElem? hx))
theorem Ym (M:Mem w0 G L w) {c:RulesD} {kca:Option Addr} {kcc:Nat} (SC:Az Dv 9 G (.slice kca c.kinds.length kcc) c.kinds) {a1:Option Addr} {c1:Nat} {l:List EntD} (S:Az Cy 6 G (.slice a1 l.length c1) l) (hck:Bv c l=0) {ns:List NotD}:Calls Tryz.prog 69 #[.agg #[.slice kca c.kinds.length kcc,.int .i64 c.cap],.agg #[.slice a1 l.length c1],.int .i64 0,.int .i64 0] w (H4 w0 G (Jc L (C3 c l ns 0))):=by
 rw [Agw,← rem_00]
 exact N0 M SC S hck
theorem Aeu (M:Mem w0 G L w) {c:RulesD} {kca:Option Addr} {kcc:Nat} (SC:Az Dv 9 G (.slice kca c.kinds.length kcc) c.kinds) {a1:Option Addr} {c1:Nat} {l:List EntD} (S:Az Cy 6 G (.slice a1 l.length c1) l)  {an:Option Addr} {cn:Nat} {ns:List NotD} (SN:Az Ff 5 G (.slice an ns.length cn) ns) (hNX:∀ x∈ns,x.items.length≤900000):Calls Tryz.prog 25 #[.agg #[.slice kca c.kinds.length kcc,.int .i64 c.cap],.agg #[.slice a1 l.length c1],.slice an ns.length cn] w (H4 w0 G (fun G' L' v=>∃ (a:Option Addr) (cs:List Value) (Ls:List Res),v=.tuple #[.agg #[.slice a (Ph c l ns).1.length (Ph c l ns).1.length],.int .i64 (((Ph c l ns).2.1:Nat):Int),.int .i64 (Ph c l ns).2.2]∧L' = (Cs a (Ph c l ns).1.length cs::(Ls++L))∧Els (Mv Ls) 6 G' cs (Ph c l ns).1)):=by
 have bS:=S.bound
 have bN:=SN.bound
 refine A0 (vs:=[_,_,_]) Tryz.func25 rfl (n:=53) rfl rfl<|Ab<|Ac<|C1 M rfl rfl rfl<|?_;clear M;intro b1 w M
 refine C1 M rfl rfl rfl<|?_;clear M;intro b2 w M
 refine C6 M Ba rfl rfl<|?_;clear M;intro b3 w M
 refine Af rfl<|Af rfl<|Aa<|Ad<|Ab<|Ab<|Ac<|Ar (fun a F=>Ao Dw rfl (F.ev rfl) (cs:=[.slice kca c.kinds.length kcc,.int .i64 c.cap]) rfl (M.cellsL (k:=2) rfl rfl)) rfl<|Ar (fun a F=>Ao Ba rfl (F.ev rfl) (cs:=[.slice a1 l.length c1]) rfl (M.cellsL (k:=1) rfl rfl)) rfl<|Bw Ajj rfl rfl (Lf (c:=c) (l:=l) M SC S)<|?_;clear M;rintro _ w M rfl
 refine Af rfl<|Aa<|Ad<|Ab<|Ac<|Ae rfl<|D9 rfl rfl<|Aa<|Ad<|Ax rfl ?_ ?_
 ·intro h5b
  have h5:=dF (Ah h5b)
  refine Ab<|Ac<|Ar (fun a F=>Be (cs:=[.slice none 0 0]) (ps:=[]) Ba.k rfl Ba (F.evp rfl) rfl) rfl<|Ae rfl<|fun a F=>?_
  refine Av F M Ba (k:=0) rfl rfl rfl (us:=[.slice none 0 0]) rfl rfl (by simp [Value.oneCell']) (by simp) ?_;clear F M a;intro w a M F
  change Mem w0 G (.blk b3 [.slice none 0 0] 54::_::_::L) _ at M
  revert a
  refine Af rfl<|Af rfl<|Aa<|Ad<|Ak<|Au<|fun a F=>Qo F M (k:=0) rfl rfl Ba rfl rfl rfl rfl rfl ?_
  rw [allE_no (by omega)]
  exact ⟨_,_,(Gle.refl _),(M.weaken (.cons _ (.cons _ (.cons _ (sR _))))).nilrow 69 6,none,[],[],rfl,rfl,Els.nil⟩
 ·intro h6b
  have h6:=dT (Ai h6b)
  refine Aq<|Ad<|Ab<|Ab<|?_
  have hck:Bv c l=0:=by omega
  refine Ac<|Ae rfl<|B8 Dd.k rfl<|Df rfl rfl<|Aa<|Ad<|Ax rfl ?_ ?_
  ·intro h7b
   have h7:=dT h7b
   refine Ab<|Ac<|Ar (fun a F=>Be (cs:=[.slice none 0 0]) (ps:=[]) Ba.k rfl Ba (F.evp rfl) rfl) rfl<|fun a F=>?_
   refine Av F M Ba (k:=0) rfl rfl rfl (us:=[.slice none 0 0]) rfl rfl (by simp [Value.oneCell']) (by simp) ?_;clear F M a;intro w a M F
   change Mem w0 G (.blk b3 [.slice none 0 0] 54::_::_::L) _ at M
   revert a
   refine Af rfl<|Af rfl<|Aa<|Ad<|Ak<|Au<|fun a F=>Qo F M (k:=0) rfl rfl Ba rfl rfl rfl rfl rfl ?_
   rw [(Oe (by omega)).trans (all_3 (by omega))]
   exact ⟨_,_,(Gle.refl _),(M.weaken (.cons _ (.cons _ (.cons _ (sR _))))).nilrow 69 6,none,[],[],rfl,rfl,Els.nil⟩
  ·intro h8b
   have h8:=dF h8b
   refine Aq<|Ad<|Ab<|Ac<|Ar (fun a F=>Ao Dw rfl (F.ev rfl) (cs:=[.slice kca c.kinds.length kcc,.int .i64 c.cap]) rfl (M.cellsL (k:=2) rfl rfl)) rfl<|Ar (fun a F=>Ao Ba rfl (F.ev rfl) (cs:=[.slice a1 l.length c1]) rfl (M.cellsL (k:=1) rfl rfl)) rfl<|fun a F=>?_
   refine Dx F ent69 rfl rfl (Ym (ns:=ns) M SC S hck) ?_;clear F M a;rintro _ Gq9 _ w a hGq9 M ⟨aoq9,csq9,Loq9,rfl,rfl,Eoq9⟩ F
   replace SC:=SC.mono Bg hGq9
   replace S:=S.mono Ay hGq9
   replace SN:=SN.mono Bn hGq9
   have M:=M.perm (Ch (Cs aoq9 (C3 c l ns 0).1.length csq9::Loq9) [.blk b3 [.slice none 0 0] 54,.blk b2 [.slice a1 l.length c1] 54,.blk b1 [.slice kca c.kinds.length kcc,.int .i64 c.cap] 51] L)
   change Mem w0 Gq9 (.blk b3 [.slice none 0 0] 54::.blk b2 [.slice a1 l.length c1] 54::.blk b1 [.slice kca c.kinds.length kcc,.int .i64 c.cap] 51::((Cs aoq9 (C3 c l ns 0).1.length csq9::Loq9)++L)) _ at M
   revert a
   refine Ae rfl<|Dg rfl rfl<|Dg rfl rfl<|fun a F=>?_
   refine Av F M Ba (k:=0) rfl rfl rfl (us:=[.slice aoq9 ((C3 c l ns 0).1.length) ((C3 c l ns 0).1.length)]) rfl rfl (by simp [Value.oneCell']) (by simp) ?_;clear F M a;intro w a M F
   change Mem w0 Gq9 (.blk b3 [.slice aoq9 ((C3 c l ns 0).1.length) ((C3 c l ns 0).1.length)] 54::_::_::((Cs aoq9 (C3 c l ns 0).1.length csq9::Loq9)++L)) _ at M
   revert a
   refine Af rfl<|Aa<|Ad<|Ab<|Ab<|Ac<|Ae rfl<|B8 Dd.k rfl<|Ae rfl<|Aa<|Ad<|A1<|fun a F=>B2 (fun m a' w'=>∃ (i:Nat),∃ (ao:Option Addr),∃ (cso:List Value),∃ (Lo:List Res),∃ (z:Int),m=ns.length - i∧∃ G10,Gle Gq9 G10∧Fits 53 a' [(2,.slice an ns.length cn),(3,.pointer (some ⟨b1,0,none⟩)),(4,.pointer (some ⟨b2,0,none⟩)),(6,.pointer (some ⟨b3,0,none⟩)),(29,.slice an ns.length cn),(30,.int .i64 ((ns.length:Nat):Int)),(31,.int .i64 ((i:Nat):Int)),(8,.int .i64 z)]∧Mem w0 G10 (.blk b3 [.slice ao ((C3 c l ns i).1.length) ((C3 c l ns i).1.length)] 54::.blk b2 [.slice a1 l.length c1] 54::.blk b1 [.slice kca c.kinds.length kcc,.int .i64 c.cap] 51::((Cs ao (C3 c l ns i).1.length cso::Lo)++L)) w'∧(i≤ns.length)∧((C3 c l ns i).2=0)∧(Els (Mv Lo) 6 G10 cso (C3 c l ns i).1)∧(z=0)) _ ⟨0,aoq9,csq9,Loq9,_,rfl,Gq9,Gle.refl _,F.to ⟨rfl,rfl,rfl,rfl,rfl,rfl,rfl,rfl,trivial⟩,M,Nat.zero_le _,rfl,Eoq9,rfl⟩ ?_
   clear F M
   rintro m a w ⟨i,ao,cso,Lo,z,rfl,G10,hG10,F,M,hi,hR,Eo,hz⟩
   replace SC:=SC.mono Bg hG10
   replace S:=S.mono Ay hG10
   replace SN:=SN.mono Bn hG10
   revert a
   refine Ab<|Ac<|C9 rfl rfl<|Aa<|Ad<|Ab<|Ax rfl ?_ ?_
   ·intro h11b
    have h11:=dT h11b
    refine Aq<|Ad<|Ab<|A1<|Ab<|Ac<|Ae rfl<|?_
    obtain ⟨Xe12,hXe12⟩:=Bc (xs:=ns) (i:=i) (by omega)
    obtain ⟨be12,oe12,_,Ie12,_,Ae12,hTe12⟩:=SN.at hXe12
    obtain ⟨nae12,nce12,rfl,h1e12,h2e12,h3e12,h4e12,h5e12,SIe12⟩:=hTe12
    have hNe12:Xe12.kind < 256∧Aw .i64 Xe12.at_∧Aw .i64 Xe12.count∧Aw .i64 Xe12.to∧Xe12.items.length≤9223372036854775807:=⟨h1e12,h2e12,h3e12,h4e12,h5e12⟩
    refine Ds Dd.k Bd Ie12 rfl rfl<|Ar (fun a F=>Ao Bd rfl (F.ev rfl) (cs:=[.int .u8 ((Xe12.kind:Nat):Int),.int .i64 Xe12.at_,.int .i64 Xe12.count,.int .i64 Xe12.to,.slice nae12 Xe12.items.length nce12]) rfl (M.cellsA Ae12 0 (by omega) rfl)) rfl<|C6 M Bd rfl rfl<|?_;clear M;intro b13 w M
    refine Af rfl<|fun a F=>?_
    refine Av F M Bd (k:=0) rfl rfl rfl (us:=[.int .u8 ((Xe12.kind:Nat):Int),.int .i64 Xe12.at_,.int .i64 Xe12.count,.int .i64 Xe12.to,.slice nae12 Xe12.items.length nce12]) rfl rfl (by simp [Value.oneCell']) (by simp) ?_;clear F M a;intro w a M F
    change Mem w0 G10 (.blk b13 [.int .u8 ((Xe12.kind:Nat):Int),.int .i64 Xe12.at_,.int .i64 Xe12.count,.int .i64 Xe12.to,.slice nae12 Xe12.items.length nce12] 65::_::_::_::((Cs ao (C3 c l ns i).1.length cso::Lo)++L)) _ at M
    revert a
    refine Aa<|Ad<|Ab<|?_
    obtain ⟨Gg,hGg,M,Sg⟩:=Nw (M.perm (Ch [.blk b13 [.int .u8 ((Xe12.kind:Nat):Int),.int .i64 Xe12.at_,.int .i64 Xe12.count,.int .i64 Xe12.to,.slice nae12 Xe12.items.length nce12] 65,.blk b3 [.slice ao ((C3 c l ns i).1.length) ((C3 c l ns i).1.length)] 54,.blk b2 [.slice a1 l.length c1] 54,.blk b1 [.slice kca c.kinds.length kcc,.int .i64 c.cap] 51] (Cs ao (C3 c l ns i).1.length cso::Lo) L)) Eo
    replace SC:=SC.mono Bg hGg
    replace S:=S.mono Ay hGg
    replace SN:=SN.mono Bn hGg
    replace Ae12:=Ae12.mono hGg
    replace SIe12:=SIe12.mono A3 hGg
    change Mem w0 Gg (.blk b13 [.int .u8 ((Xe12.kind:Nat):Int),.int .i64 Xe12.at_,.int .i64 Xe12.count,.int .i64 Xe12.to,.slice nae12 Xe12.items.length nce12] 65::.blk b3 [.slice ao ((C3 c l ns i).1.length) ((C3 c l ns i).1.length)] 54::.blk b2 [.slice a1 l.length c1] 54::.blk b1 [.slice kca c.kinds.length kcc,.int .i64 c.cap] 51::L) _ at M
    refine Ac<|Ar (fun a F=>Ao Dw rfl (F.ev rfl) (cs:=[.slice kca c.kinds.length kcc,.int .i64 c.cap]) rfl (M.cellsL (k:=3) rfl rfl)) rfl<|Ar (fun a F=>Ao Ba rfl (F.ev rfl) (cs:=[.slice ao ((C3 c l ns i).1.length) ((C3 c l ns i).1.length)]) rfl (M.cellsL (k:=1) rfl rfl)) rfl<|Ar (fun a F=>Ao Bd rfl (F.ev rfl) (cs:=[.int .u8 ((Xe12.kind:Nat):Int),.int .i64 Xe12.at_,.int .i64 Xe12.count,.int .i64 Xe12.to,.slice nae12 Xe12.items.length nce12]) rfl (M.cellsL (k:=0) rfl rfl)) rfl<|fun a F=>?_
    refine Dx F ent28 rfl rfl (Aap (ns:=ns) M SC Sg hck hR hNe12 SIe12 hXe12 hNX) ?_;clear F M a;rintro _ Gq15 _ w a hGq15 M ⟨aoq15,csq15,Loq15,rfl,rfl,Eoq15⟩ F
    replace SC:=SC.mono Bg hGq15
    replace S:=S.mono Ay hGq15
    replace SN:=SN.mono Bn hGq15
    replace Ae12:=Ae12.mono hGq15
    replace SIe12:=SIe12.mono A3 hGq15
    replace Sg:=Sg.mono Ay hGq15
    have M:=M.perm (Ch (Cs aoq15 ((C3 c l ns (i+1))).1.length csq15::Loq15) [.blk b13 [.int .u8 ((Xe12.kind:Nat):Int),.int .i64 Xe12.at_,.int .i64 Xe12.count,.int .i64 Xe12.to,.slice nae12 Xe12.items.length nce12] 65,.blk b3 [.slice ao ((C3 c l ns i).1.length) ((C3 c l ns i).1.length)] 54,.blk b2 [.slice a1 l.length c1] 54,.blk b1 [.slice kca c.kinds.length kcc,.int .i64 c.cap] 51] L)
    change Mem w0 Gq15 (.blk b13 [.int .u8 ((Xe12.kind:Nat):Int),.int .i64 Xe12.at_,.int .i64 Xe12.count,.int .i64 Xe12.to,.slice nae12 Xe12.items.length nce12] 65::.blk b3 [.slice ao ((C3 c l ns i).1.length) ((C3 c l ns i).1.length)] 54::.blk b2 [.slice a1 l.length c1] 54::.blk b1 [.slice kca c.kinds.length kcc,.int .i64 c.cap] 51::((Cs aoq15 ((C3 c l ns (i+1))).1.length csq15::Loq15)++L)) _ at M
    revert a
    refine Ae rfl<|Dg rfl rfl<|Dg rfl rfl<|fun a F=>?_
    refine Av F M Ba (k:=1) rfl rfl rfl (us:=[.slice aoq15 (((C3 c l ns (i+1))).1.length) (((C3 c l ns (i+1))).1.length)]) rfl rfl (by simp [Value.oneCell']) (by simp) ?_;clear F M a;intro w a M F
    change Mem w0 Gq15 (.blk b13 [.int .u8 ((Xe12.kind:Nat):Int),.int .i64 Xe12.at_,.int .i64 Xe12.count,.int .i64 Xe12.to,.slice nae12 Xe12.items.length nce12] 65::.blk b3 [.slice aoq15 (((C3 c l ns (i+1))).1.length) (((C3 c l ns (i+1))).1.length)] 54::_::_::((Cs aoq15 ((C3 c l ns (i+1))).1.length csq15::Loq15)++L)) _ at M
    revert a
    refine Af rfl<|Aa<|Ad<|Ab<|Ac<|Ae rfl<|D9 rfl rfl<|Aa<|Ad<|Ax rfl ?_ ?_
    ·intro h16b
     have h16:=dF (Ah h16b)
     refine Ab<|Ac<|Ar (fun a F=>Be (cs:=[.slice none 0 0]) (ps:=[]) Ba.k rfl Ba (F.evp rfl) rfl) rfl<|Ae rfl<|Ae rfl<|fun a F=>?_
     refine Av F M Ba (k:=1) rfl rfl rfl (us:=[.slice none 0 0]) rfl rfl (by simp [Value.oneCell']) (by simp) ?_;clear F M a;intro w a M F
     change Mem w0 Gq15 (.blk b13 [.int .u8 ((Xe12.kind:Nat):Int),.int .i64 Xe12.at_,.int .i64 Xe12.count,.int .i64 Xe12.to,.slice nae12 Xe12.items.length nce12] 65::.blk b3 [.slice none 0 0] 54::_::_::((Cs aoq15 ((C3 c l ns (i+1))).1.length csq15::Loq15)++L)) _ at M
     revert a
     refine Af rfl<|Af rfl<|Aa<|Ad<|Ak<|Bk<|Au<|Au<|Bk<|Au<|fun a F=>Qo F M (k:=1) rfl rfl Ba rfl rfl rfl rfl rfl ?_
     rw [(Oe hck).trans (all_x (by omega) hR (by omega) (by omega))]
     exact ⟨_,_,(((hGq9.trans hG10).trans hGg).trans hGq15),(M.weaken (.cons _ (.cons _ (.cons _ (.cons _ (List.sublist_append_right _ _)))))).nilrow 69 6,none,[],[],rfl,rfl,Els.nil⟩
    ·intro h17b
     have h17:=dT (Ai h17b)
     refine Aq<|C0<|Ad<|Ac<|B9 rfl rfl<|Ae rfl<|Aa<|Ad<|fun a F=>?_
     exact ⟨_,by omega,i+1,aoq15,csq15,Loq15,_,rfl,Gq15,((hG10.trans hGg).trans hGq15),F.to ⟨rfl,rfl,rfl,rfl,rfl,rfl,rfl,rfl,trivial⟩,(M.weaken (.cons _ (.cons_cons _ (.cons_cons _ (.cons_cons _ (sR _)))))),by omega,by omega,Eoq15,by omega⟩
   ·intro h18b
    have h18:=dF h18b
    refine B5<|B0<|B0<|Dr<|Ad<|Ab<|Ac<|Ar (fun a F=>Ao Ba rfl (F.ev rfl) (cs:=[.slice ao ((C3 c l ns i).1.length) ((C3 c l ns i).1.length)]) rfl (M.cellsL (k:=0) rfl rfl)) rfl<|Ae rfl<|B8 Dd.k rfl<|Ae rfl<|fun a F=>?_
    refine Av F M Ba (k:=0) rfl rfl rfl (us:=[.slice ao ((C3 c l ns i).1.length) ((C3 c l ns i).1.length)]) rfl rfl (by simp [Value.oneCell']) (by simp) ?_;clear F M a;intro w a M F
    change Mem w0 G10 (.blk b3 [.slice ao ((C3 c l ns i).1.length) ((C3 c l ns i).1.length)] 54::_::_::((Cs ao (C3 c l ns i).1.length cso::Lo)++L)) _ at M
    revert a
    refine Af rfl<|Af rfl<|Aa<|Ad<|Ak<|fun a F=>Qo F M (k:=0) rfl rfl Ba rfl rfl rfl rfl rfl ?_
    subst hz;rw [Oe hck,all_0 (by omega) hR (by omega)]
    exact ⟨_,_,(hGq9.trans hG10),M.weaken (.cons _ (.cons _ (.cons _ (sR _)))),ao,cso,Lo,rfl,rfl,Eo⟩
open Go Go.Y Go.Proofs
variable {w0 w:World} {G:A4} {L:List Res}
set_option linter.unusedSimpArgs false
set_option linter.unusedVariables false
deriving instance DecidableEq for EntD
deriving instance DecidableEq for NotD
theorem Ahv {x y:NotD} (h1:((x.kind:Nat):Int)=((y.kind:Nat):Int)) (h2:x.at_=y.at_) (h3:x.count=y.count) (h4:x.to=y.to) (h5:x.items=y.items):x=y:=by
 cases x;cases y;simp only [NotD.mk.injEq] at *;exact ⟨by omega,h2,h3,h4,h5⟩
theorem Xr (M:Mem w0 G L w) {x y:NotD} {na ma:Option Addr} {nc mc:Nat} (hN:x.kind < 256∧Aw .i64 x.at_∧Aw .i64 x.count∧Aw .i64 x.to∧x.items.length≤9223372036854775807) (SI:Az Co 4 G (.slice na x.items.length nc) x.items) (hM:y.kind < 256∧Aw .i64 y.at_∧Aw .i64 y.count∧Aw .i64 y.to∧y.items.length≤9223372036854775807) (SJ:Az Co 4 G (.slice ma y.items.length mc) y.items):Calls Tryz.prog 40 #[.agg #[.int .u8 ((x.kind:Nat):Int),.int .i64 x.at_,.int .i64 x.count,.int .i64 x.to,.slice na x.items.length nc],.agg #[.int .u8 ((y.kind:Nat):Int),.int .i64 y.at_,.int .i64 y.count,.int .i64 y.to,.slice ma y.items.length mc]] w (Ci w0 G L fun v=>v=.int .i64 (if x=y then (1:Int) else 0)):=by
 refine A0 (vs:=[_,_]) Tryz.func40 rfl (n:=36) rfl rfl<|Ab<|Ac<|C1 M rfl rfl rfl<|?_;clear M;intro b1 w M
 refine C1 M rfl rfl rfl<|?_;clear M;intro b2 w M
 refine Af rfl<|Aa<|Ad<|Ab<|Ab<|Ac<|A2 Bd.k rfl rfl<|Bi Ev M 1 rfl rfl rfl rfl<|A2 Bd.k rfl rfl<|Bi Ev M 0 rfl rfl rfl rfl<|D9 rfl rfl<|Ae rfl<|?_
 rcases bE (!(decide (((x.kind:Nat):Int)=((y.kind:Nat):Int)))) with h3b | h4b
 ·skip
  have h3:=dF (Ah h3b)
  have h3c:(decide (((x.kind:Nat):Int)=((y.kind:Nat):Int)))=false:=(Ah h3b)
  refine g_f rfl (Al h3c)<|g_f rfl (Al h3c)<|g_f rfl (Al h3c)<|g_f rfl (Al h3c)<|g_f rfl (Al h3c)<|Bj rfl (Al h3c) rfl<|Ae rfl<|g_f rfl rfl<|g_f rfl rfl<|g_f rfl rfl<|g_f rfl rfl<|g_f rfl rfl<|Bj rfl rfl rfl<|Ae rfl<|g_f rfl rfl<|g_f rfl rfl<|g_f rfl rfl<|g_f rfl rfl<|g_f rfl rfl<|Bj rfl rfl rfl<|Aa<|Ad<|Bo rfl rfl<|Ab<|?_
  refine Ac<|Af rfl<|Aa<|Ad<|Ak<|Au<|Aj rfl rfl<|?_
  exact ⟨M.weaken (.cons _ (.cons _ (sR _))),by rw [if_neg (fun h_=>by subst h_;clear M;omega)]⟩
 ·skip
  have h4:=dT (Ai h4b)
  have h4c:(decide (((x.kind:Nat):Int)=((y.kind:Nat):Int)))=true:=(Ai h4b)
  refine g_t rfl (Ag h4c)<|A2 Bd.k rfl rfl<|g_t rfl (Ag h4c)<|Bi B7 M 1 rfl rfl rfl rfl<|g_t rfl (Ag h4c)<|A2 Bd.k rfl rfl<|g_t rfl (Ag h4c)<|Bi B7 M 0 rfl rfl rfl rfl<|g_t rfl (Ag h4c)<|D9 rfl rfl<|Bh rfl (Ag h4c) rfl<|Ae rfl<|?_
  rcases bE (!(decide (x.at_=y.at_))) with h5b | h6b
  ·skip
   have h5:=dF (Ah h5b)
   have h5c:(decide (x.at_=y.at_))=false:=(Ah h5b)
   refine g_f rfl (Al h5c)<|g_f rfl (Al h5c)<|g_f rfl (Al h5c)<|g_f rfl (Al h5c)<|g_f rfl (Al h5c)<|Bj rfl (Al h5c) rfl<|Ae rfl<|g_f rfl rfl<|g_f rfl rfl<|g_f rfl rfl<|g_f rfl rfl<|g_f rfl rfl<|Bj rfl rfl rfl<|Aa<|Ad<|Bo rfl rfl<|Ab<|Ac<|Af rfl<|Aa<|Ad<|Ak<|Au<|Aj rfl rfl<|?_
   exact ⟨M.weaken (.cons _ (.cons _ (sR _))),by rw [if_neg (fun h_=>by subst h_;clear M;omega)]⟩
  ·skip
   have h6:=dT (Ai h6b)
   have h6c:(decide (x.at_=y.at_))=true:=(Ai h6b)
   refine g_t rfl (Ag h6c)<|A2 Bd.k rfl rfl<|g_t rfl (Ag h6c)<|Bi B7 M 1 rfl rfl rfl rfl<|g_t rfl (Ag h6c)<|A2 Bd.k rfl rfl<|g_t rfl (Ag h6c)<|Bi B7 M 0 rfl rfl rfl rfl<|g_t rfl (Ag h6c)<|D9 rfl rfl<|Bh rfl (Ag h6c) rfl<|Ae rfl<|?_
   rcases bE (!(decide (x.count=y.count))) with h7b | h8b
   ·skip
    have h7:=dF (Ah h7b)
    have h7c:(decide (x.count=y.count))=false:=(Ah h7b)
    refine g_f rfl (Al h7c)<|g_f rfl (Al h7c)<|g_f rfl (Al h7c)<|g_f rfl (Al h7c)<|g_f rfl (Al h7c)<|Bj rfl (Al h7c) rfl<|Aa<|Ad<|Bo rfl rfl<|Ab<|Ac<|Af rfl<|Aa<|Ad<|Ak<|Au<|Aj rfl rfl<|?_
    exact ⟨M.weaken (.cons _ (.cons _ (sR _))),by rw [if_neg (fun h_=>by subst h_;clear M;omega)]⟩
   ·skip
    have h8:=dT (Ai h8b)
    have h8c:(decide (x.count=y.count))=true:=(Ai h8b)
    refine g_t rfl (Ag h8c)<|A2 Bd.k rfl rfl<|g_t rfl (Ag h8c)<|Bi B7 M 1 rfl rfl rfl rfl<|g_t rfl (Ag h8c)<|A2 Bd.k rfl rfl<|g_t rfl (Ag h8c)<|Bi B7 M 0 rfl rfl rfl rfl<|g_t rfl (Ag h8c)<|D9 rfl rfl<|Bh rfl (Ag h8c) rfl<|Aa<|Ad<|Ax rfl ?_ ?_
    ·intro h9b
     have h9:=dF (Ah h9b)
     refine Ab<|Ac<|Af rfl<|Aa<|Ad<|Ak<|Au<|Aj rfl rfl<|?_
     exact ⟨M.weaken (.cons _ (.cons _ (sR _))),by rw [if_neg (fun h_=>by subst h_;clear M;omega)]⟩
    ·intro h10b
     have h10:=dT (Ai h10b)
     refine Aq<|Ad<|Ab<|Ac<|A2 Bd.k rfl rfl<|Bi Bp M 1 rfl rfl rfl rfl<|A2 Bd.k rfl rfl<|Bi Bp M 0 rfl rfl rfl rfl<|Bw ent13 rfl rfl (Ti (xs:=x.items) (ys:=y.items) M SI SJ)<|?_;clear M;rintro _ w M rfl
     refine Af rfl<|Aa<|Ad<|Ak<|Aj rfl rfl<|?_
     exact ⟨M.weaken (.cons _ (.cons _ (sR _))),by by_cases h_:x.items=y.items;rw [if_pos h_,if_pos (Ahv (by omega) (by omega) (by omega) (by omega) h_)];rw [if_neg h_,if_neg (fun h9_=>h_ (congrArg NotD.items h9_))]⟩
theorem Ra (M:Mem w0 G L w) {a1:Option Addr} {c1:Nat} {xs:List NotD} (S:Az Ff 5 G (.slice a1 xs.length c1) xs) {a2:Option Addr} {c2:Nat} {ys:List NotD} (T:Az Ff 5 G (.slice a2 ys.length c2) ys):Calls Tryz.prog 34 #[.slice a1 xs.length c1,.slice a2 ys.length c2] w (Ci w0 G L fun v=>v=.int .i64 (if xs=ys then (1:Int) else 0)):=by
 have bS:=S.bound
 have bT:=T.bound
 refine A0 (vs:=[_,_]) Tryz.func34 rfl (n:=27) rfl rfl<|Ab<|Ac<|Af rfl<|Aa<|Ad<|Ab<|Ab<|Ac<|Ae rfl<|B8 Dd.k rfl<|Ae rfl<|B8 Dd.k rfl<|D9 rfl rfl<|Aa<|Ad<|Ax rfl ?_ ?_
 ·intro h1b
  have h1:=dF (Ah h1b)
  refine Ab<|Ac<|Af rfl<|Aa<|Ad<|Ak<|Au<|Aj rfl rfl<|?_
  exact ⟨M,by rw [if_neg (fun h_=>absurd (congrArg List.length h_) (by omega))]⟩
 ·intro h2b
  have h2:=dT (Ai h2b)
  refine Aq<|Ad<|Ab<|Ab<|Ac<|Af rfl<|Aa<|Ad<|A1<|fun a F=>B2 (fun m a' w'=>∃ (i:Nat),m=xs.length - i∧Fits 27 a' [(0,.slice a1 xs.length c1),(1,.slice a2 ys.length c2),(5,.int .i64 ((i:Nat):Int))]∧Mem w0 G (L) w'∧(i≤xs.length)∧(∀ m,m < i→xs[m]?=ys[m]?)) _ ⟨0,rfl,F.to ⟨rfl,rfl,rfl,trivial⟩,M,Nat.zero_le _,fun m h=>by omega⟩ ?_
  clear F M
  rintro m a w ⟨i,rfl,F,M,hi,hA⟩
  revert a
  refine Ab<|Ab<|Ac<|Ae rfl<|Ae rfl<|B8 Dd.k rfl<|C9 rfl rfl<|Aa<|Ad<|Ax rfl ?_ ?_
  ·intro h3b
   have h3:=dT h3b
   refine Aq<|Ad<|Ab<|A1<|Ab<|fun a F=>F4 [(true,0),(true,1),(true,2),(true,3),(true,4),(true,5),(true,6),(true,7),(false,8),(true,9)] (Keep G []) rfl (by kernel_rfl) (fun c a d v w h=>by cases d <;> exact h) ((M.drew _).keep (Gle.refl _) (by simp)) ?_
   replace M:=M.drew (w.drawn+1)
   revert a
   refine l_r (fun a F w M=>Cg F rfl) rfl<|l_r (fun a F w M=>Cg F rfl) rfl<|?_
   obtain ⟨Xe4,hXe4⟩:=Bc (xs:=xs) (i:=i) (by omega)
   obtain ⟨be4,oe4,_,Ie4,_,Ae4,hTe4⟩:=S.at hXe4
   obtain ⟨nae4,nce4,rfl,h1e4,h2e4,h3e4,h4e4,h5e4,SIe4⟩:=hTe4
   have hNe4:Xe4.kind < 256∧Aw .i64 Xe4.at_∧Aw .i64 Xe4.count∧Aw .i64 Xe4.to∧Xe4.items.length≤9223372036854775807:=⟨h1e4,h2e4,h3e4,h4e4,h5e4⟩
   refine l_r (fun a F w M=>Ce Dd.k Bd (F.ev rfl) (F.ev rfl) (by omega) Ie4) rfl<|l_r (fun a F w M=>Ao Bd rfl (F.ev rfl) (cs:=[.int .u8 ((Xe4.kind:Nat):Int),.int .i64 Xe4.at_,.int .i64 Xe4.count,.int .i64 Xe4.to,.slice nae4 Xe4.items.length nce4]) rfl (M.cellsA Ae4 0 (by omega) rfl)) rfl<|l_r (fun a F w M=>Cg F rfl) rfl<|l_r (fun a F w M=>Cg F rfl) rfl<|?_
   obtain ⟨Xe5,hXe5⟩:=Bc (xs:=ys) (i:=i) (by omega)
   obtain ⟨be5,oe5,_,Ie5,_,Ae5,hTe5⟩:=T.at hXe5
   obtain ⟨nae5,nce5,rfl,h1e5,h2e5,h3e5,h4e5,h5e5,SIe5⟩:=hTe5
   have hNe5:Xe5.kind < 256∧Aw .i64 Xe5.at_∧Aw .i64 Xe5.count∧Aw .i64 Xe5.to∧Xe5.items.length≤9223372036854775807:=⟨h1e5,h2e5,h3e5,h4e5,h5e5⟩
   refine l_r (fun a F w M=>Ce Dd.k Bd (F.ev rfl) (F.ev rfl) (by omega) Ie5) rfl<|l_r (fun a F w M=>Ao Bd rfl (F.ev rfl) (cs:=[.int .u8 ((Xe5.kind:Nat):Int),.int .i64 Xe5.at_,.int .i64 Xe5.count,.int .i64 Xe5.to,.slice nae5 Xe5.items.length nce5]) rfl (M.cellsA Ae5 0 (by omega) rfl)) rfl<|l_a rfl<|Bw ent40 rfl rfl (Xr (x:=Xe4) (y:=Xe5) M hNe4 SIe4 hNe5 SIe5)<|?_;clear M;rintro _ w M rfl
   refine Aa<|eK (C':=Keep G []) (M.keep (Gle.refl _) (by simp)) (fun w h=>h.mono (Gle.refl _) (by simp))<|l_r (fun a F w M=>Lu (F.ev rfl) (F.ev rfl)) rfl<|Hl<|Ad<|Ax rfl ?_ ?_
   ·intro h6b
    have h6:=dT h6b
    refine Ab<|Ac<|Af rfl<|Aa<|Ad<|Ak<|Bk<|Au<|Au<|Bk<|Au<|Aj rfl rfl<|?_
    exact ⟨M,by rw [if_neg (Ow hXe4 hXe5 (fun h_=>by rw [if_pos h_] at *;omega))]⟩
   ·intro h7b
    have h7:=dF h7b
    refine Aq<|C0<|Ad<|Ac<|Ae rfl<|B9 rfl rfl<|Af rfl<|Aa<|Ad<|fun a F=>?_
    exact ⟨_,by omega,i+1,rfl,F.to ⟨rfl,rfl,rfl,trivial⟩,M,by omega,Wn hA hXe4 hXe5 (Classical.byContradiction fun h_=>by rw [if_neg h_] at *;omega)⟩
  ·intro h8b
   have h8:=dF h8b
   refine B5<|B0<|B0<|Dr<|Ad<|Ab<|Ac<|Af rfl<|Aa<|Ad<|Ak<|Aj rfl rfl<|?_
   exact ⟨M,by rw [if_pos (Abc hA (by omega) (by omega))]⟩
end Go.Proofs.YtmmhmcplegpenaaGreatDoor
