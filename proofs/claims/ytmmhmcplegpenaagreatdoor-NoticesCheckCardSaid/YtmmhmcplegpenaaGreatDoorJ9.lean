/- The walks, part LK. · The walks, part LM. · The walks, part LN. · The walks, part LO. -/
import Derived.Test.YtmmhmcplegpenaaGreatDoorJ8
namespace Go.Proofs.YtmmhmcplegpenaaGreatDoor
open Go Go.Y Go.Proofs
set_option linter.unusedSimpArgs false
set_option linter.unusedVariables false
theorem kinds_spec {w0 w:World} {G:Ghost} {L:List Res} (M:Mem w0 G L w):Calls Tryz.prog 75 #[] w (RetS w0 G L fun v=>v=.agg KINDS.toArray):=by
 refine e_start (vs:=[]) Tryz.func75 rfl (n:=7) rfl rfl<|e_seq<|e_reg<|s_al M tok139 rfl rfl<|?_;clear M;intro b1 w M
 refine e_nil<|e_tn<|e_seq<|e_reg<|e_run (fun a F=>run_buildS (cs:=[.string (str ([105,110,115,101,114,116]:List UInt8)),.bool true,.bool false,.bool false,.bool true,.func (.func 122) #[] #[]]) (ps:=[(0,.string (str ([105,110,115,101,114,116]:List UInt8))),(1,.bool true),(2,.bool false),(3,.bool false),(4,.bool true),(5,.func (.func 122) #[] #[])]) tok138.k rfl tok138 (F.evp rfl) rfl) rfl<|e_run (fun a F=>run_buildS (cs:=[.string (str ([114,101,109,111,118,101]:List UInt8)),.bool true,.bool true,.bool false,.bool false,.func (.func 124) #[] #[]]) (ps:=[(0,.string (str ([114,101,109,111,118,101]:List UInt8))),(1,.bool true),(2,.bool true),(3,.bool false),(4,.bool false),(5,.func (.func 124) #[] #[])]) tok138.k rfl tok138 (F.evp rfl) rfl) rfl<|e_run (fun a F=>run_buildS (cs:=[.string (str ([109,111,118,101]:List UInt8)),.bool true,.bool true,.bool true,.bool false,.func (.func 125) #[] #[]]) (ps:=[(0,.string (str ([109,111,118,101]:List UInt8))),(1,.bool true),(2,.bool true),(3,.bool true),(4,.bool false),(5,.func (.func 125) #[] #[])]) tok138.k rfl tok138 (F.evp rfl) rfl) rfl<|e_run (fun a F=>run_buildS (cs:=[.string (str ([99,104,97,110,103,101]:List UInt8)),.bool true,.bool false,.bool false,.bool true,.func (.func 127) #[] #[]]) (ps:=[(0,.string (str ([99,104,97,110,103,101]:List UInt8))),(1,.bool true),(2,.bool false),(3,.bool false),(4,.bool true),(5,.func (.func 127) #[] #[])]) tok138.k rfl tok138 (F.evp rfl) rfl) rfl<|e_run (fun a F=>run_buildS (cs:=[.string (str ([114,101,115,101,116]:List UInt8)),.bool false,.bool false,.bool false,.bool true,.func (.func 129) #[] #[]]) (ps:=[(0,.string (str ([114,101,115,101,116]:List UInt8))),(1,.bool false),(2,.bool false),(3,.bool false),(4,.bool true),(5,.func (.func 129) #[] #[])]) tok138.k rfl tok138 (F.evp rfl) rfl) rfl<|e_run (fun a F=>run_buildA F (ps:=[(1,.agg #[.string (str ([105,110,115,101,114,116]:List UInt8)),.bool true,.bool false,.bool false,.bool true,.func (.func 122) #[] #[]]),(2,.agg #[.string (str ([114,101,109,111,118,101]:List UInt8)),.bool true,.bool true,.bool false,.bool false,.func (.func 124) #[] #[]]),(3,.agg #[.string (str ([109,111,118,101]:List UInt8)),.bool true,.bool true,.bool true,.bool false,.func (.func 125) #[] #[]]),(4,.agg #[.string (str ([99,104,97,110,103,101]:List UInt8)),.bool true,.bool false,.bool false,.bool true,.func (.func 127) #[] #[]]),(5,.agg #[.string (str ([114,101,115,101,116]:List UInt8)),.bool false,.bool false,.bool false,.bool true,.func (.func 129) #[] #[]])]) (cs:=[.string (str ([]:List UInt8)),.bool false,.bool false,.bool false,.bool false,.nilFunc,.string (str ([105,110,115,101,114,116]:List UInt8)),.bool true,.bool false,.bool false,.bool true,.func (.func 122) #[] #[],.string (str ([114,101,109,111,118,101]:List UInt8)),.bool true,.bool true,.bool false,.bool false,.func (.func 124) #[] #[],.string (str ([109,111,118,101]:List UInt8)),.bool true,.bool true,.bool true,.bool false,.func (.func 125) #[] #[],.string (str ([99,104,97,110,103,101]:List UInt8)),.bool true,.bool false,.bool false,.bool true,.func (.func 127) #[] #[],.string (str ([114,101,115,101,116]:List UInt8)),.bool false,.bool false,.bool false,.bool true,.func (.func 129) #[] #[]]) tok139.k tok139 tok138 rfl rfl) rfl<|fun a F=>?_
 refine rl_storeA F M tok139 (k:=0) rfl rfl rfl (us:=[.string (str ([]:List UInt8)),.bool false,.bool false,.bool false,.bool false,.nilFunc,.string (str ([105,110,115,101,114,116]:List UInt8)),.bool true,.bool false,.bool false,.bool true,.func (.func 122) #[] #[],.string (str ([114,101,109,111,118,101]:List UInt8)),.bool true,.bool true,.bool false,.bool false,.func (.func 124) #[] #[],.string (str ([109,111,118,101]:List UInt8)),.bool true,.bool true,.bool true,.bool false,.func (.func 125) #[] #[],.string (str ([99,104,97,110,103,101]:List UInt8)),.bool true,.bool false,.bool false,.bool true,.func (.func 127) #[] #[],.string (str ([114,101,115,101,116]:List UInt8)),.bool false,.bool false,.bool false,.bool true,.func (.func 129) #[] #[]]) rfl rfl (by simp [Value.oneCell']) (by simp) ?_;clear F M a;intro w a M F
 change Mem w0 G (.blk b1 [.string (str ([]:List UInt8)),.bool false,.bool false,.bool false,.bool false,.nilFunc,.string (str ([105,110,115,101,114,116]:List UInt8)),.bool true,.bool false,.bool false,.bool true,.func (.func 122) #[] #[],.string (str ([114,101,109,111,118,101]:List UInt8)),.bool true,.bool true,.bool false,.bool false,.func (.func 124) #[] #[],.string (str ([109,111,118,101]:List UInt8)),.bool true,.bool true,.bool true,.bool false,.func (.func 125) #[] #[],.string (str ([99,104,97,110,103,101]:List UInt8)),.bool true,.bool false,.bool false,.bool true,.func (.func 127) #[] #[],.string (str ([114,101,115,101,116]:List UInt8)),.bool false,.bool false,.bool false,.bool true,.func (.func 129) #[] #[]] 139::L) _ at M
 revert a
 refine e_nil<|e_tn<|e_ret<|fun a F=>fin_c F M (k:=0) rfl rfl tok139 rfl rfl rfl ?_
 exact ⟨M.weaken (.cons _ (List.Sublist.refl _)),rfl⟩
theorem ncheck_spec {w0 w:World} {G:Ghost} {L:List Res} (M:Mem w0 G L w) {x:NotD} {na:Option Addr} {nc:Nat} (hN:x.kind < 256∧inKind .i64 x.at_∧inKind .i64 x.count∧inKind .i64 x.to∧x.items.length≤9223372036854775807) (SI:RdSl rdItem 4 G (.slice na x.items.length nc) x.items):Calls Tryz.prog 37 #[.agg #[.int .u8 (((x.kind:Nat):Int)),.int .i64 (x.at_),.int .i64 (x.count),.int .i64 (x.to),.slice (na) (x.items.length) (nc)]] w (RetS w0 G L fun v=>v=.int .i64 (noteE x)):=by
 refine e_start (vs:=[_]) Tryz.func37 rfl (n:=55) rfl rfl<|e_seq<|e_reg<|s_bx M rfl rfl rfl<|?_;clear M;intro b1 w M
 refine s_as rfl<|e_nil<|e_tn<|e_seq<|e_seq<|e_reg<|s_fa tok65.k rfl rfl<|s_ld tok5 M 0 rfl rfl rfl rfl<|s_lt rfl rfl<|s_mv rfl<|?_
 rcases Bool.eq_false_or_eq_true (decide (((x.kind:Nat):Int) < 1)) with hc | hc
 ·skip
  have h2b:=hc;clear hc
  have h2:((x.kind:Nat):Int) < 1:=of_decide_eq_true h2b
  refine g_f rfl h2b<|g_f rfl h2b<|g_f rfl h2b<|s_pt rfl h2b rfl<|e_nil<|e_tn<|e_cond_t rfl rfl<|e_seq<|e_reg<|s_as rfl<|e_nil<|e_tn<|e_ret<|e_tr<|e_fin1 rfl rfl<|?_
  exact ⟨M.weaken (.cons _ (List.Sublist.refl _)),by rw [note_1 (by omega)]⟩
 ·skip
  have h3b:=hc;clear hc
  have h3:¬ (((x.kind:Nat):Int) < 1):=of_decide_eq_false h3b
  refine g_t rfl h3b<|s_fa tok65.k rfl rfl<|g_t rfl h3b<|s_ld tok5 M 0 rfl rfl rfl rfl<|g_t rfl h3b<|s_gt rfl rfl<|s_pf rfl h3b rfl<|e_nil<|e_tn<|e_cond rfl ?_ ?_
  ·intro hc
   have h4b:=hc;clear hc
   have h4:5 < ((x.kind:Nat):Int):=of_decide_eq_true h4b
   refine e_seq<|e_reg<|s_as rfl<|e_nil<|e_tn<|e_ret<|e_tr<|e_fin1 rfl rfl<|?_
   exact ⟨M.weaken (.cons _ (List.Sublist.refl _)),by rw [note_1 (by omega)]⟩
  ·intro hc
   have h5b:=hc;clear hc
   have h5:¬ (5 < ((x.kind:Nat):Int)):=of_decide_eq_false h5b
   refine e_skip<|e_tn<|e_seq<|fun a F=>w_cut (fun a' w'=>∃ (b3k:Nat),Fits 55 a' [(1,.pointer (some ⟨b1,0,none⟩)),(3,.pointer (some ⟨b3k,0,none⟩))]∧Mem w0 G (.blk b3k [.string (str (nameK x.kind)),.bool (decide (uAt x.kind)),.bool (decide (uCo x.kind)),.bool (decide (uTo x.kind)),.bool (decide (uIt x.kind)),.func (.func (doesF x.kind)) #[] #[]] 138::.blk b1 [.int .u8 (((x.kind:Nat):Int)),.int .i64 (x.at_),.int .i64 (x.count),.int .i64 (x.to),.slice (na) (x.items.length) (nc)] 65::L) w') ?_ ?_
   ·skip
    refine w_tree (.run 1 (.run 2 (.act 0 (.run 3 (.act 4 (.act 5 .fin .no) .no)) (.act 4 (.act 0 (.run 3 (.act 5 .fin .no)) .no) .no)))) (Keep G [.blk b1 [.int .u8 (((x.kind:Nat):Int)),.int .i64 (x.at_),.int .i64 (x.count),.int .i64 (x.to),.slice (na) (x.items.length) (nc)] 65]) rfl (by kernel_rfl) (fun c a d v w h=>by cases d <;> exact h) ((M.drew _).keep (Gle.refl _) (by simp)) ?_
    replace M:=M.drew (w.drawn+1)
    revert a
    refine t_r (fun a F w M=>x_fa tok65.k rfl F rfl) rfl<|t_r (fun a F w M=>run_load1 (agf tok5 rfl) (F.ev rfl) (M.cellL (k:=0) rfl rfl)) rfl<|fun a F=>pt_act ?_ rfl ?_
    ·skip
     revert a
     refine s_cS ent75 rfl rfl (kinds_spec M)<|?_;clear M;rintro _ w M rfl
     refine e_nil<|eK (C':=Keep G [.blk b1 [.int .u8 (((x.kind:Nat):Int)),.int .i64 (x.at_),.int .i64 (x.count),.int .i64 (x.to),.slice (na) (x.items.length) (nc)] 65]) (M.keep (Gle.refl _) (by simp)) (fun w h=>h.mono (Gle.refl _) (by simp))<|t_r (fun a F w M=>run_idxArrA (j:=x.kind) tok139.k tok138 rfl (F.ev rfl) (F.ev rfl) rfl (by omega) (us:=[.string (str (nameK x.kind)),.bool (decide (uAt x.kind)),.bool (decide (uCo x.kind)),.bool (decide (uTo x.kind)),.bool (decide (uIt x.kind)),.func (.func (doesF x.kind)) #[] #[]]) (kinds_at (by omega))) rfl<|fun a F=>pt_act ?_ rfl pt_no
     revert a
     refine s_al M tok138 rfl rfl<|?_;clear M;intro b6 w M
     refine e_nil<|eK (C':=Keep G [.blk b1 [.int .u8 (((x.kind:Nat):Int)),.int .i64 (x.at_),.int .i64 (x.count),.int .i64 (x.to),.slice (na) (x.items.length) (nc)] 65]) (M.keep (Gle.refl _) (by simp)) (fun w h=>h.mono (Gle.refl _) (by simp))<|fun a F=>pt_act ?_ rfl pt_no
     refine rl_storeA F M tok138 (k:=0) rfl rfl rfl (us:=[.string (str (nameK x.kind)),.bool (decide (uAt x.kind)),.bool (decide (uCo x.kind)),.bool (decide (uTo x.kind)),.bool (decide (uIt x.kind)),.func (.func (doesF x.kind)) #[] #[]]) rfl rfl (by simp [Value.oneCell']) (by simp) ?_;clear F M a;intro w a M F
     change Mem w0 G (.blk b6 [.string (str (nameK x.kind)),.bool (decide (uAt x.kind)),.bool (decide (uCo x.kind)),.bool (decide (uTo x.kind)),.bool (decide (uIt x.kind)),.func (.func (doesF x.kind)) #[] #[]] 138::_::L) _ at M
     revert a
     refine e_nil<|eK (C':=Keep G [.blk b1 [.int .u8 (((x.kind:Nat):Int)),.int .i64 (x.at_),.int .i64 (x.count),.int .i64 (x.to),.slice (na) (x.items.length) (nc)] 65]) (M.keep (Gle.refl _) (by simp)) (fun w h=>h.mono (Gle.refl _) (by simp))<|t_fin<|fun a F=>?_
     exact ⟨b6,F.to ⟨rfl,rfl,trivial⟩,M⟩
    refine pt_act ?_ rfl ?_
    ·skip
     revert a
     refine s_al M tok138 rfl rfl<|?_;clear M;intro b8 w M
     refine e_nil<|eK (C':=Keep G [.blk b1 [.int .u8 (((x.kind:Nat):Int)),.int .i64 (x.at_),.int .i64 (x.count),.int .i64 (x.to),.slice (na) (x.items.length) (nc)] 65]) (M.keep (Gle.refl _) (by simp)) (fun w h=>h.mono (Gle.refl _) (by simp))<|fun a F=>pt_act ?_ rfl pt_no
     revert a
     refine s_cS ent75 rfl rfl (kinds_spec M)<|?_;clear M;rintro _ w M rfl
     refine e_nil<|eK (C':=Keep G [.blk b1 [.int .u8 (((x.kind:Nat):Int)),.int .i64 (x.at_),.int .i64 (x.count),.int .i64 (x.to),.slice (na) (x.items.length) (nc)] 65]) (M.keep (Gle.refl _) (by simp)) (fun w h=>h.mono (Gle.refl _) (by simp))<|t_r (fun a F w M=>run_idxArrA (j:=x.kind) tok139.k tok138 rfl (F.ev rfl) (F.ev rfl) rfl (by omega) (us:=[.string (str (nameK x.kind)),.bool (decide (uAt x.kind)),.bool (decide (uCo x.kind)),.bool (decide (uTo x.kind)),.bool (decide (uIt x.kind)),.func (.func (doesF x.kind)) #[] #[]]) (kinds_at (by omega))) rfl<|fun a F=>pt_act ?_ rfl pt_no
     refine rl_storeA F M tok138 (k:=0) rfl rfl rfl (us:=[.string (str (nameK x.kind)),.bool (decide (uAt x.kind)),.bool (decide (uCo x.kind)),.bool (decide (uTo x.kind)),.bool (decide (uIt x.kind)),.func (.func (doesF x.kind)) #[] #[]]) rfl rfl (by simp [Value.oneCell']) (by simp) ?_;clear F M a;intro w a M F
     change Mem w0 G (.blk b8 [.string (str (nameK x.kind)),.bool (decide (uAt x.kind)),.bool (decide (uCo x.kind)),.bool (decide (uTo x.kind)),.bool (decide (uIt x.kind)),.func (.func (doesF x.kind)) #[] #[]] 138::_::L) _ at M
     revert a
     refine e_nil<|eK (C':=Keep G [.blk b1 [.int .u8 (((x.kind:Nat):Int)),.int .i64 (x.at_),.int .i64 (x.count),.int .i64 (x.to),.slice (na) (x.items.length) (nc)] 65]) (M.keep (Gle.refl _) (by simp)) (fun w h=>h.mono (Gle.refl _) (by simp))<|t_fin<|fun a F=>?_
     exact ⟨b8,F.to ⟨rfl,rfl,trivial⟩,M⟩
    exact pt_no
   ·clear F M
    rintro a w ⟨b3k,F,M⟩
    revert a
    refine e_tn<|e_seq<|e_seq<|fun a F=>w_cut (fun a' w'=>∃ (bb:Bool),Fits 55 a' [(1,.pointer (some ⟨b1,0,none⟩)),(54,.bool (bb))]∧Mem w0 G (.blk b3k [.string (str (nameK x.kind)),.bool (decide (uAt x.kind)),.bool (decide (uCo x.kind)),.bool (decide (uTo x.kind)),.bool (decide (uIt x.kind)),.func (.func (doesF x.kind)) #[] #[]] 138::.blk b1 [.int .u8 (((x.kind:Nat):Int)),.int .i64 (x.at_),.int .i64 (x.count),.int .i64 (x.to),.slice (na) (x.items.length) (nc)] 65::L) w'∧(bb=true↔¬ NForm x)) ?_ ?_
    ·skip
     revert a
     refine e_reg<|s_fa tok138.k rfl rfl<|s_ld tok4 M 0 rfl rfl rfl rfl<|s_not rfl<|s_mv rfl<|?_
     rcases Bool.eq_false_or_eq_true (!(decide (uAt x.kind))) with hc | hc
     ·skip
      have h10b:=hc;clear hc
      have h10:¬ (uAt x.kind):=of_decide_eq_false (of_not_t h10b)
      have h10c:(decide (uAt x.kind))=false:=(of_not_t h10b)
      refine g_t rfl (not_t h10c)<|s_fa tok65.k rfl rfl<|g_t rfl (not_t h10c)<|s_ld tok3 M 1 rfl rfl rfl rfl<|g_t rfl (not_t h10c)<|s_ne rfl rfl<|s_pt rfl (not_t h10c) rfl<|s_mv rfl<|?_
      rcases Bool.eq_false_or_eq_true (!(decide (x.at_=0))) with hc | hc
      ·skip
       have h11b:=hc;clear hc
       have h11:¬ (x.at_=0):=of_decide_eq_false (of_not_t h11b)
       have h11c:(decide (x.at_=0))=false:=(of_not_t h11b)
       refine g_f rfl (not_t h11c)<|g_f rfl (not_t h11c)<|g_f rfl (not_t h11c)<|g_f rfl (not_t h11c)<|g_u rfl<|g_u rfl<|g_u rfl<|g_f rfl (not_t h11c)<|s_pt rfl (not_t h11c) rfl<|s_mv rfl<|g_f rfl rfl<|g_f rfl rfl<|g_f rfl rfl<|g_f rfl rfl<|g_u rfl<|g_u rfl<|g_u rfl<|g_f rfl rfl<|s_pt rfl rfl rfl<|s_mv rfl<|g_f rfl rfl<|g_f rfl rfl<|g_f rfl rfl<|g_f rfl rfl<|?_
       refine g_u rfl<|g_u rfl<|g_u rfl<|g_u rfl<|g_f rfl rfl<|s_pt rfl rfl rfl<|e_nil<|fun a F=>?_
       exact ⟨true,F.to ⟨rfl,rfl,trivial⟩,M,by clear F M;unfold NForm;first | (simp only [Bool.true_eq_false,true_iff,false_iff,Bool.false_eq_true,decide_eq_true_eq];grind) | grind⟩
      ·skip
       have h12b:=hc;clear hc
       have h12:x.at_=0:=of_decide_eq_true (of_not_f h12b)
       have h12c:(decide (x.at_=0))=true:=(of_not_f h12b)
       refine g_t rfl (not_f h12c)<|s_fa tok138.k rfl rfl<|g_t rfl (not_f h12c)<|s_ld tok4 M 0 rfl rfl rfl rfl<|g_t rfl (not_f h12c)<|s_not rfl<|g_t rfl (not_f h12c)<|s_mv rfl<|?_
       rcases Bool.eq_false_or_eq_true (!(decide (uCo x.kind))) with hc | hc
       ·skip
        have h13b:=hc;clear hc
        have h13:¬ (uCo x.kind):=of_decide_eq_false (of_not_t h13b)
        have h13c:(decide (uCo x.kind))=false:=(of_not_t h13b)
        refine g_t rfl (not_t h13c)<|s_fa tok65.k rfl rfl<|g_t rfl (not_t h13c)<|s_ld tok3 M 1 rfl rfl rfl rfl<|g_t rfl (not_t h13c)<|s_ne rfl rfl<|g_t rfl (not_f h12c)<|s_pt rfl (not_t h13c) rfl<|s_pf rfl (not_f h12c) rfl<|s_mv rfl<|?_
        rcases Bool.eq_false_or_eq_true (!(decide (x.count=0))) with hc | hc
        ·skip
         have h14b:=hc;clear hc
         have h14:¬ (x.count=0):=of_decide_eq_false (of_not_t h14b)
         have h14c:(decide (x.count=0))=false:=(of_not_t h14b)
         refine g_f rfl (not_t h14c)<|g_f rfl (not_t h14c)<|g_f rfl (not_t h14c)<|g_f rfl (not_t h14c)<|g_u rfl<|g_u rfl<|g_u rfl<|g_f rfl (not_t h14c)<|s_pt rfl (not_t h14c) rfl<|s_mv rfl<|g_f rfl rfl<|g_f rfl rfl<|g_f rfl rfl<|g_f rfl rfl<|g_u rfl<|g_u rfl<|g_u rfl<|g_u rfl<|g_f rfl rfl<|s_pt rfl rfl rfl<|e_nil<|fun a F=>?_
         exact ⟨true,F.to ⟨rfl,rfl,trivial⟩,M,by clear F M;unfold NForm;first | (simp only [Bool.true_eq_false,true_iff,false_iff,Bool.false_eq_true,decide_eq_true_eq];grind) | grind⟩
        ·skip
         have h15b:=hc;clear hc
         have h15:x.count=0:=of_decide_eq_true (of_not_f h15b)
         have h15c:(decide (x.count=0))=true:=(of_not_f h15b)
         refine g_t rfl (not_f h15c)<|s_fa tok138.k rfl rfl<|g_t rfl (not_f h15c)<|s_ld tok4 M 0 rfl rfl rfl rfl<|g_t rfl (not_f h15c)<|s_not rfl<|g_t rfl (not_f h15c)<|s_mv rfl<|?_
         rcases Bool.eq_false_or_eq_true (!(decide (uTo x.kind))) with hc | hc
         ·skip
          have h16b:=hc;clear hc
          have h16:¬ (uTo x.kind):=of_decide_eq_false (of_not_t h16b)
          have h16c:(decide (uTo x.kind))=false:=(of_not_t h16b)
          refine g_t rfl (not_t h16c)<|s_fa tok65.k rfl rfl<|g_t rfl (not_t h16c)<|s_ld tok3 M 1 rfl rfl rfl rfl<|g_t rfl (not_t h16c)<|s_ne rfl rfl<|g_t rfl (not_f h15c)<|s_pt rfl (not_t h16c) rfl<|s_pf rfl (not_f h15c) rfl<|s_mv rfl<|?_
          rcases Bool.eq_false_or_eq_true (!(decide (x.to=0))) with hc | hc
          ·skip
           have h17b:=hc;clear hc
           have h17:¬ (x.to=0):=of_decide_eq_false (of_not_t h17b)
           have h17c:(decide (x.to=0))=false:=(of_not_t h17b)
           refine g_f rfl (not_t h17c)<|g_f rfl (not_t h17c)<|g_f rfl (not_t h17c)<|g_f rfl (not_t h17c)<|g_u rfl<|g_u rfl<|g_u rfl<|g_u rfl<|g_f rfl (not_t h17c)<|s_pt rfl (not_t h17c) rfl<|e_nil<|fun a F=>?_
           exact ⟨true,F.to ⟨rfl,rfl,trivial⟩,M,by clear F M;unfold NForm;first | (simp only [Bool.true_eq_false,true_iff,false_iff,Bool.false_eq_true,decide_eq_true_eq];grind) | grind⟩
          ·skip
           have h18b:=hc;clear hc
           have h18:x.to=0:=of_decide_eq_true (of_not_f h18b)
           have h18c:(decide (x.to=0))=true:=(of_not_f h18b)
           refine g_t rfl (not_f h18c)<|s_fa tok138.k rfl rfl<|g_t rfl (not_f h18c)<|s_ld tok4 M 0 rfl rfl rfl rfl<|g_t rfl (not_f h18c)<|s_not rfl<|g_t rfl (not_f h18c)<|s_mv rfl<|?_
           rcases Bool.eq_false_or_eq_true (!(decide (uIt x.kind))) with hc | hc
           ·skip
            have h19b:=hc;clear hc
            have h19:¬ (uIt x.kind):=of_decide_eq_false (of_not_t h19b)
            have h19c:(decide (uIt x.kind))=false:=(of_not_t h19b)
            refine g_t rfl (not_t h19c)<|s_fa tok65.k rfl rfl<|g_t rfl (not_t h19c)<|s_ld tok22 M 1 rfl rfl rfl rfl<|g_t rfl (not_t h19c)<|s_ls tok22.k rfl<|g_t rfl (not_t h19c)<|s_gt rfl rfl<|g_t rfl (not_f h18c)<|s_pt rfl (not_t h19c) rfl<|s_pf rfl (not_f h18c) rfl<|e_nil<|fun a F=>?_
            exact ⟨(decide (0 < ((x.items.length:Nat):Int))),F.to ⟨rfl,rfl,trivial⟩,M,by clear F M;unfold NForm;first | (simp only [Bool.true_eq_false,true_iff,false_iff,Bool.false_eq_true,decide_eq_true_eq];grind) | grind⟩
           ·skip
            have h20b:=hc;clear hc
            have h20:uIt x.kind:=of_decide_eq_true (of_not_f h20b)
            have h20c:(decide (uIt x.kind))=true:=(of_not_f h20b)
            refine g_f rfl (not_f h20c)<|g_f rfl (not_f h20c)<|g_f rfl (not_f h20c)<|g_f rfl (not_f h20c)<|g_t rfl (not_f h18c)<|s_pf rfl (not_f h20c) rfl<|s_pf rfl (not_f h18c) rfl<|e_nil<|fun a F=>?_
            exact ⟨false,F.to ⟨rfl,rfl,trivial⟩,M,by clear F M;unfold NForm;first | (simp only [Bool.true_eq_false,true_iff,false_iff,Bool.false_eq_true,decide_eq_true_eq];grind) | grind⟩
         ·skip
          have h21b:=hc;clear hc
          have h21:uTo x.kind:=of_decide_eq_true (of_not_f h21b)
          have h21c:(decide (uTo x.kind))=true:=(of_not_f h21b)
          refine g_f rfl (not_f h21c)<|g_f rfl (not_f h21c)<|g_f rfl (not_f h21c)<|g_t rfl (not_f h15c)<|s_pf rfl (not_f h21c) rfl<|s_pf rfl (not_f h15c) rfl<|s_mv rfl<|g_t rfl rfl<|s_fa tok138.k rfl rfl<|g_t rfl rfl<|s_ld tok4 M 0 rfl rfl rfl rfl<|g_t rfl rfl<|s_not rfl<|g_t rfl rfl<|s_mv rfl<|?_
          rcases Bool.eq_false_or_eq_true (!(decide (uIt x.kind))) with hc | hc
          ·skip
           have h22b:=hc;clear hc
           have h22:¬ (uIt x.kind):=of_decide_eq_false (of_not_t h22b)
           have h22c:(decide (uIt x.kind))=false:=(of_not_t h22b)
           refine g_t rfl (not_t h22c)<|s_fa tok65.k rfl rfl<|g_t rfl (not_t h22c)<|s_ld tok22 M 1 rfl rfl rfl rfl<|g_t rfl (not_t h22c)<|s_ls tok22.k rfl<|g_t rfl (not_t h22c)<|s_gt rfl rfl<|g_t rfl rfl<|s_pt rfl (not_t h22c) rfl<|s_pf rfl rfl rfl<|e_nil<|fun a F=>?_
           exact ⟨(decide (0 < ((x.items.length:Nat):Int))),F.to ⟨rfl,rfl,trivial⟩,M,by clear F M;unfold NForm;first | (simp only [Bool.true_eq_false,true_iff,false_iff,Bool.false_eq_true,decide_eq_true_eq];grind) | grind⟩
          ·skip
           have h23b:=hc;clear hc
           have h23:uIt x.kind:=of_decide_eq_true (of_not_f h23b)
           have h23c:(decide (uIt x.kind))=true:=(of_not_f h23b)
           refine g_f rfl (not_f h23c)<|g_f rfl (not_f h23c)<|g_f rfl (not_f h23c)<|g_f rfl (not_f h23c)<|g_t rfl rfl<|s_pf rfl (not_f h23c) rfl<|s_pf rfl rfl rfl<|e_nil<|fun a F=>?_
           exact ⟨false,F.to ⟨rfl,rfl,trivial⟩,M,by clear F M;unfold NForm;first | (simp only [Bool.true_eq_false,true_iff,false_iff,Bool.false_eq_true,decide_eq_true_eq];grind) | grind⟩
       ·skip
        have h24b:=hc;clear hc
        have h24:uCo x.kind:=of_decide_eq_true (of_not_f h24b)
        have h24c:(decide (uCo x.kind))=true:=(of_not_f h24b)
        refine g_f rfl (not_f h24c)<|g_f rfl (not_f h24c)<|g_f rfl (not_f h24c)<|g_t rfl (not_f h12c)<|s_pf rfl (not_f h24c) rfl<|s_pf rfl (not_f h12c) rfl<|s_mv rfl<|g_t rfl rfl<|s_fa tok138.k rfl rfl<|g_t rfl rfl<|s_ld tok4 M 0 rfl rfl rfl rfl<|g_t rfl rfl<|s_not rfl<|g_t rfl rfl<|s_mv rfl<|?_
        rcases Bool.eq_false_or_eq_true (!(decide (uTo x.kind))) with hc | hc
        ·skip
         have h25b:=hc;clear hc
         have h25:¬ (uTo x.kind):=of_decide_eq_false (of_not_t h25b)
         have h25c:(decide (uTo x.kind))=false:=(of_not_t h25b)
         refine g_t rfl (not_t h25c)<|s_fa tok65.k rfl rfl<|g_t rfl (not_t h25c)<|s_ld tok3 M 1 rfl rfl rfl rfl<|g_t rfl (not_t h25c)<|s_ne rfl rfl<|g_t rfl rfl<|s_pt rfl (not_t h25c) rfl<|s_pf rfl rfl rfl<|s_mv rfl<|?_
         rcases Bool.eq_false_or_eq_true (!(decide (x.to=0))) with hc | hc
         ·skip
          have h26b:=hc;clear hc
          have h26:¬ (x.to=0):=of_decide_eq_false (of_not_t h26b)
          have h26c:(decide (x.to=0))=false:=(of_not_t h26b)
          refine g_f rfl (not_t h26c)<|g_f rfl (not_t h26c)<|g_f rfl (not_t h26c)<|g_f rfl (not_t h26c)<|g_u rfl<|g_u rfl<|g_u rfl<|g_u rfl<|g_f rfl (not_t h26c)<|s_pt rfl (not_t h26c) rfl<|e_nil<|fun a F=>?_
          exact ⟨true,F.to ⟨rfl,rfl,trivial⟩,M,by clear F M;unfold NForm;first | (simp only [Bool.true_eq_false,true_iff,false_iff,Bool.false_eq_true,decide_eq_true_eq];grind) | grind⟩
         ·skip
          have h27b:=hc;clear hc
          have h27:x.to=0:=of_decide_eq_true (of_not_f h27b)
          have h27c:(decide (x.to=0))=true:=(of_not_f h27b)
          refine g_t rfl (not_f h27c)<|s_fa tok138.k rfl rfl<|g_t rfl (not_f h27c)<|s_ld tok4 M 0 rfl rfl rfl rfl<|g_t rfl (not_f h27c)<|s_not rfl<|g_t rfl (not_f h27c)<|s_mv rfl<|?_
          rcases Bool.eq_false_or_eq_true (!(decide (uIt x.kind))) with hc | hc
          ·skip
           have h28b:=hc;clear hc
           have h28:¬ (uIt x.kind):=of_decide_eq_false (of_not_t h28b)
           have h28c:(decide (uIt x.kind))=false:=(of_not_t h28b)
           refine g_t rfl (not_t h28c)<|s_fa tok65.k rfl rfl<|g_t rfl (not_t h28c)<|s_ld tok22 M 1 rfl rfl rfl rfl<|g_t rfl (not_t h28c)<|s_ls tok22.k rfl<|g_t rfl (not_t h28c)<|s_gt rfl rfl<|g_t rfl (not_f h27c)<|s_pt rfl (not_t h28c) rfl<|s_pf rfl (not_f h27c) rfl<|e_nil<|fun a F=>?_
           exact ⟨(decide (0 < ((x.items.length:Nat):Int))),F.to ⟨rfl,rfl,trivial⟩,M,by clear F M;unfold NForm;first | (simp only [Bool.true_eq_false,true_iff,false_iff,Bool.false_eq_true,decide_eq_true_eq];grind) | grind⟩
          ·skip
           have h29b:=hc;clear hc
           have h29:uIt x.kind:=of_decide_eq_true (of_not_f h29b)
           have h29c:(decide (uIt x.kind))=true:=(of_not_f h29b)
           refine g_f rfl (not_f h29c)<|g_f rfl (not_f h29c)<|g_f rfl (not_f h29c)<|g_f rfl (not_f h29c)<|g_t rfl (not_f h27c)<|s_pf rfl (not_f h29c) rfl<|s_pf rfl (not_f h27c) rfl<|e_nil<|fun a F=>?_
           exact ⟨false,F.to ⟨rfl,rfl,trivial⟩,M,by clear F M;unfold NForm;first | (simp only [Bool.true_eq_false,true_iff,false_iff,Bool.false_eq_true,decide_eq_true_eq];grind) | grind⟩
        ·skip
         have h30b:=hc;clear hc
         have h30:uTo x.kind:=of_decide_eq_true (of_not_f h30b)
         have h30c:(decide (uTo x.kind))=true:=(of_not_f h30b)
         refine g_f rfl (not_f h30c)<|g_f rfl (not_f h30c)<|g_f rfl (not_f h30c)<|g_t rfl rfl<|s_pf rfl (not_f h30c) rfl<|s_pf rfl rfl rfl<|s_mv rfl<|g_t rfl rfl<|s_fa tok138.k rfl rfl<|g_t rfl rfl<|s_ld tok4 M 0 rfl rfl rfl rfl<|g_t rfl rfl<|s_not rfl<|g_t rfl rfl<|s_mv rfl<|?_
         rcases Bool.eq_false_or_eq_true (!(decide (uIt x.kind))) with hc | hc
         ·skip
          have h31b:=hc;clear hc
          have h31:¬ (uIt x.kind):=of_decide_eq_false (of_not_t h31b)
          have h31c:(decide (uIt x.kind))=false:=(of_not_t h31b)
          refine g_t rfl (not_t h31c)<|s_fa tok65.k rfl rfl<|g_t rfl (not_t h31c)<|s_ld tok22 M 1 rfl rfl rfl rfl<|g_t rfl (not_t h31c)<|s_ls tok22.k rfl<|g_t rfl (not_t h31c)<|s_gt rfl rfl<|g_t rfl rfl<|s_pt rfl (not_t h31c) rfl<|s_pf rfl rfl rfl<|e_nil<|fun a F=>?_
          exact ⟨(decide (0 < ((x.items.length:Nat):Int))),F.to ⟨rfl,rfl,trivial⟩,M,by clear F M;unfold NForm;first | (simp only [Bool.true_eq_false,true_iff,false_iff,Bool.false_eq_true,decide_eq_true_eq];grind) | grind⟩
         ·skip
          have h32b:=hc;clear hc
          have h32:uIt x.kind:=of_decide_eq_true (of_not_f h32b)
          have h32c:(decide (uIt x.kind))=true:=(of_not_f h32b)
          refine g_f rfl (not_f h32c)<|g_f rfl (not_f h32c)<|g_f rfl (not_f h32c)<|g_f rfl (not_f h32c)<|g_t rfl rfl<|s_pf rfl (not_f h32c) rfl<|s_pf rfl rfl rfl<|e_nil<|fun a F=>?_
          exact ⟨false,F.to ⟨rfl,rfl,trivial⟩,M,by clear F M;unfold NForm;first | (simp only [Bool.true_eq_false,true_iff,false_iff,Bool.false_eq_true,decide_eq_true_eq];grind) | grind⟩
     ·skip
      have h33b:=hc;clear hc
      have h33:uAt x.kind:=of_decide_eq_true (of_not_f h33b)
      have h33c:(decide (uAt x.kind))=true:=(of_not_f h33b)
      refine g_f rfl (not_f h33c)<|g_f rfl (not_f h33c)<|g_f rfl (not_f h33c)<|s_pf rfl (not_f h33c) rfl<|s_mv rfl<|g_t rfl rfl<|s_fa tok138.k rfl rfl<|g_t rfl rfl<|s_ld tok4 M 0 rfl rfl rfl rfl<|g_t rfl rfl<|s_not rfl<|g_t rfl rfl<|s_mv rfl<|?_
      rcases Bool.eq_false_or_eq_true (!(decide (uCo x.kind))) with hc | hc
      ·skip
       have h34b:=hc;clear hc
       have h34:¬ (uCo x.kind):=of_decide_eq_false (of_not_t h34b)
       have h34c:(decide (uCo x.kind))=false:=(of_not_t h34b)
       refine g_t rfl (not_t h34c)<|s_fa tok65.k rfl rfl<|g_t rfl (not_t h34c)<|s_ld tok3 M 1 rfl rfl rfl rfl<|g_t rfl (not_t h34c)<|s_ne rfl rfl<|g_t rfl rfl<|s_pt rfl (not_t h34c) rfl<|s_pf rfl rfl rfl<|s_mv rfl<|?_
       rcases Bool.eq_false_or_eq_true (!(decide (x.count=0))) with hc | hc
       ·skip
        have h35b:=hc;clear hc
        have h35:¬ (x.count=0):=of_decide_eq_false (of_not_t h35b)
        have h35c:(decide (x.count=0))=false:=(of_not_t h35b)
        refine g_f rfl (not_t h35c)<|g_f rfl (not_t h35c)<|g_f rfl (not_t h35c)<|g_f rfl (not_t h35c)<|g_u rfl<|g_u rfl<|g_u rfl<|g_f rfl (not_t h35c)<|s_pt rfl (not_t h35c) rfl<|s_mv rfl<|g_f rfl rfl<|g_f rfl rfl<|g_f rfl rfl<|g_f rfl rfl<|g_u rfl<|g_u rfl<|g_u rfl<|g_u rfl<|g_f rfl rfl<|s_pt rfl rfl rfl<|e_nil<|fun a F=>?_
        exact ⟨true,F.to ⟨rfl,rfl,trivial⟩,M,by clear F M;unfold NForm;first | (simp only [Bool.true_eq_false,true_iff,false_iff,Bool.false_eq_true,decide_eq_true_eq];grind) | grind⟩
       ·skip
        have h36b:=hc;clear hc
        have h36:x.count=0:=of_decide_eq_true (of_not_f h36b)
        have h36c:(decide (x.count=0))=true:=(of_not_f h36b)
        refine g_t rfl (not_f h36c)<|s_fa tok138.k rfl rfl<|g_t rfl (not_f h36c)<|s_ld tok4 M 0 rfl rfl rfl rfl<|g_t rfl (not_f h36c)<|s_not rfl<|g_t rfl (not_f h36c)<|s_mv rfl<|?_
        rcases Bool.eq_false_or_eq_true (!(decide (uTo x.kind))) with hc | hc
        ·skip
         have h37b:=hc;clear hc
         have h37:¬ (uTo x.kind):=of_decide_eq_false (of_not_t h37b)
         have h37c:(decide (uTo x.kind))=false:=(of_not_t h37b)
         refine g_t rfl (not_t h37c)<|s_fa tok65.k rfl rfl<|g_t rfl (not_t h37c)<|s_ld tok3 M 1 rfl rfl rfl rfl<|g_t rfl (not_t h37c)<|s_ne rfl rfl<|g_t rfl (not_f h36c)<|s_pt rfl (not_t h37c) rfl<|s_pf rfl (not_f h36c) rfl<|s_mv rfl<|?_
         rcases Bool.eq_false_or_eq_true (!(decide (x.to=0))) with hc | hc
         ·skip
          have h38b:=hc;clear hc
          have h38:¬ (x.to=0):=of_decide_eq_false (of_not_t h38b)
          have h38c:(decide (x.to=0))=false:=(of_not_t h38b)
          refine g_f rfl (not_t h38c)<|g_f rfl (not_t h38c)<|g_f rfl (not_t h38c)<|g_f rfl (not_t h38c)<|g_u rfl<|g_u rfl<|g_u rfl<|g_u rfl<|g_f rfl (not_t h38c)<|s_pt rfl (not_t h38c) rfl<|e_nil<|fun a F=>?_
          exact ⟨true,F.to ⟨rfl,rfl,trivial⟩,M,by clear F M;unfold NForm;first | (simp only [Bool.true_eq_false,true_iff,false_iff,Bool.false_eq_true,decide_eq_true_eq];grind) | grind⟩
         ·skip
          have h39b:=hc;clear hc
          have h39:x.to=0:=of_decide_eq_true (of_not_f h39b)
          have h39c:(decide (x.to=0))=true:=(of_not_f h39b)
          refine g_t rfl (not_f h39c)<|s_fa tok138.k rfl rfl<|g_t rfl (not_f h39c)<|s_ld tok4 M 0 rfl rfl rfl rfl<|g_t rfl (not_f h39c)<|s_not rfl<|g_t rfl (not_f h39c)<|s_mv rfl<|?_
          rcases Bool.eq_false_or_eq_true (!(decide (uIt x.kind))) with hc | hc
          ·skip
           have h40b:=hc;clear hc
           have h40:¬ (uIt x.kind):=of_decide_eq_false (of_not_t h40b)
           have h40c:(decide (uIt x.kind))=false:=(of_not_t h40b)
           refine g_t rfl (not_t h40c)<|s_fa tok65.k rfl rfl<|g_t rfl (not_t h40c)<|s_ld tok22 M 1 rfl rfl rfl rfl<|g_t rfl (not_t h40c)<|s_ls tok22.k rfl<|g_t rfl (not_t h40c)<|s_gt rfl rfl<|g_t rfl (not_f h39c)<|s_pt rfl (not_t h40c) rfl<|s_pf rfl (not_f h39c) rfl<|e_nil<|fun a F=>?_
           exact ⟨(decide (0 < ((x.items.length:Nat):Int))),F.to ⟨rfl,rfl,trivial⟩,M,by clear F M;unfold NForm;first | (simp only [Bool.true_eq_false,true_iff,false_iff,Bool.false_eq_true,decide_eq_true_eq];grind) | grind⟩
          ·skip
           have h41b:=hc;clear hc
           have h41:uIt x.kind:=of_decide_eq_true (of_not_f h41b)
           have h41c:(decide (uIt x.kind))=true:=(of_not_f h41b)
           refine g_f rfl (not_f h41c)<|g_f rfl (not_f h41c)<|g_f rfl (not_f h41c)<|g_f rfl (not_f h41c)<|g_t rfl (not_f h39c)<|s_pf rfl (not_f h41c) rfl<|s_pf rfl (not_f h39c) rfl<|e_nil<|fun a F=>?_
           exact ⟨false,F.to ⟨rfl,rfl,trivial⟩,M,by clear F M;unfold NForm;first | (simp only [Bool.true_eq_false,true_iff,false_iff,Bool.false_eq_true,decide_eq_true_eq];grind) | grind⟩
        ·skip
         have h42b:=hc;clear hc
         have h42:uTo x.kind:=of_decide_eq_true (of_not_f h42b)
         have h42c:(decide (uTo x.kind))=true:=(of_not_f h42b)
         refine g_f rfl (not_f h42c)<|g_f rfl (not_f h42c)<|g_f rfl (not_f h42c)<|g_t rfl (not_f h36c)<|s_pf rfl (not_f h42c) rfl<|s_pf rfl (not_f h36c) rfl<|s_mv rfl<|g_t rfl rfl<|s_fa tok138.k rfl rfl<|g_t rfl rfl<|s_ld tok4 M 0 rfl rfl rfl rfl<|g_t rfl rfl<|s_not rfl<|g_t rfl rfl<|s_mv rfl<|?_
         rcases Bool.eq_false_or_eq_true (!(decide (uIt x.kind))) with hc | hc
         ·skip
          have h43b:=hc;clear hc
          have h43:¬ (uIt x.kind):=of_decide_eq_false (of_not_t h43b)
          have h43c:(decide (uIt x.kind))=false:=(of_not_t h43b)
          refine g_t rfl (not_t h43c)<|s_fa tok65.k rfl rfl<|g_t rfl (not_t h43c)<|s_ld tok22 M 1 rfl rfl rfl rfl<|g_t rfl (not_t h43c)<|s_ls tok22.k rfl<|g_t rfl (not_t h43c)<|s_gt rfl rfl<|g_t rfl rfl<|s_pt rfl (not_t h43c) rfl<|s_pf rfl rfl rfl<|e_nil<|fun a F=>?_
          exact ⟨(decide (0 < ((x.items.length:Nat):Int))),F.to ⟨rfl,rfl,trivial⟩,M,by clear F M;unfold NForm;first | (simp only [Bool.true_eq_false,true_iff,false_iff,Bool.false_eq_true,decide_eq_true_eq];grind) | grind⟩
         ·skip
          have h44b:=hc;clear hc
          have h44:uIt x.kind:=of_decide_eq_true (of_not_f h44b)
          have h44c:(decide (uIt x.kind))=true:=(of_not_f h44b)
          refine g_f rfl (not_f h44c)<|g_f rfl (not_f h44c)<|g_f rfl (not_f h44c)<|g_f rfl (not_f h44c)<|g_t rfl rfl<|s_pf rfl (not_f h44c) rfl<|s_pf rfl rfl rfl<|e_nil<|fun a F=>?_
          exact ⟨false,F.to ⟨rfl,rfl,trivial⟩,M,by clear F M;unfold NForm;first | (simp only [Bool.true_eq_false,true_iff,false_iff,Bool.false_eq_true,decide_eq_true_eq];grind) | grind⟩
      ·skip
       have h45b:=hc;clear hc
       have h45:uCo x.kind:=of_decide_eq_true (of_not_f h45b)
       have h45c:(decide (uCo x.kind))=true:=(of_not_f h45b)
       refine g_f rfl (not_f h45c)<|g_f rfl (not_f h45c)<|g_f rfl (not_f h45c)<|g_t rfl rfl<|s_pf rfl (not_f h45c) rfl<|s_pf rfl rfl rfl<|s_mv rfl<|g_t rfl rfl<|s_fa tok138.k rfl rfl<|g_t rfl rfl<|s_ld tok4 M 0 rfl rfl rfl rfl<|g_t rfl rfl<|s_not rfl<|g_t rfl rfl<|s_mv rfl<|?_
       rcases Bool.eq_false_or_eq_true (!(decide (uTo x.kind))) with hc | hc
       ·skip
        have h46b:=hc;clear hc
        have h46:¬ (uTo x.kind):=of_decide_eq_false (of_not_t h46b)
        have h46c:(decide (uTo x.kind))=false:=(of_not_t h46b)
        refine g_t rfl (not_t h46c)<|s_fa tok65.k rfl rfl<|g_t rfl (not_t h46c)<|s_ld tok3 M 1 rfl rfl rfl rfl<|g_t rfl (not_t h46c)<|s_ne rfl rfl<|g_t rfl rfl<|s_pt rfl (not_t h46c) rfl<|s_pf rfl rfl rfl<|s_mv rfl<|?_
        rcases Bool.eq_false_or_eq_true (!(decide (x.to=0))) with hc | hc
        ·skip
         have h47b:=hc;clear hc
         have h47:¬ (x.to=0):=of_decide_eq_false (of_not_t h47b)
         have h47c:(decide (x.to=0))=false:=(of_not_t h47b)
         refine g_f rfl (not_t h47c)<|g_f rfl (not_t h47c)<|g_f rfl (not_t h47c)<|g_f rfl (not_t h47c)<|g_u rfl<|g_u rfl<|g_u rfl<|g_u rfl<|g_f rfl (not_t h47c)<|s_pt rfl (not_t h47c) rfl<|e_nil<|fun a F=>?_
         exact ⟨true,F.to ⟨rfl,rfl,trivial⟩,M,by clear F M;unfold NForm;first | (simp only [Bool.true_eq_false,true_iff,false_iff,Bool.false_eq_true,decide_eq_true_eq];grind) | grind⟩
        ·skip
         have h48b:=hc;clear hc
         have h48:x.to=0:=of_decide_eq_true (of_not_f h48b)
         have h48c:(decide (x.to=0))=true:=(of_not_f h48b)
         refine g_t rfl (not_f h48c)<|s_fa tok138.k rfl rfl<|g_t rfl (not_f h48c)<|s_ld tok4 M 0 rfl rfl rfl rfl<|g_t rfl (not_f h48c)<|s_not rfl<|g_t rfl (not_f h48c)<|s_mv rfl<|?_
         rcases Bool.eq_false_or_eq_true (!(decide (uIt x.kind))) with hc | hc
         ·skip
          have h49b:=hc;clear hc
          have h49:¬ (uIt x.kind):=of_decide_eq_false (of_not_t h49b)
          have h49c:(decide (uIt x.kind))=false:=(of_not_t h49b)
          refine g_t rfl (not_t h49c)<|s_fa tok65.k rfl rfl<|g_t rfl (not_t h49c)<|s_ld tok22 M 1 rfl rfl rfl rfl<|g_t rfl (not_t h49c)<|s_ls tok22.k rfl<|g_t rfl (not_t h49c)<|s_gt rfl rfl<|g_t rfl (not_f h48c)<|s_pt rfl (not_t h49c) rfl<|s_pf rfl (not_f h48c) rfl<|e_nil<|fun a F=>?_
          exact ⟨(decide (0 < ((x.items.length:Nat):Int))),F.to ⟨rfl,rfl,trivial⟩,M,by clear F M;unfold NForm;first | (simp only [Bool.true_eq_false,true_iff,false_iff,Bool.false_eq_true,decide_eq_true_eq];grind) | grind⟩
         ·skip
          have h50b:=hc;clear hc
          have h50:uIt x.kind:=of_decide_eq_true (of_not_f h50b)
          have h50c:(decide (uIt x.kind))=true:=(of_not_f h50b)
          refine g_f rfl (not_f h50c)<|g_f rfl (not_f h50c)<|g_f rfl (not_f h50c)<|g_f rfl (not_f h50c)<|g_t rfl (not_f h48c)<|s_pf rfl (not_f h50c) rfl<|s_pf rfl (not_f h48c) rfl<|e_nil<|fun a F=>?_
          exact ⟨false,F.to ⟨rfl,rfl,trivial⟩,M,by clear F M;unfold NForm;first | (simp only [Bool.true_eq_false,true_iff,false_iff,Bool.false_eq_true,decide_eq_true_eq];grind) | grind⟩
       ·skip
        have h51b:=hc;clear hc
        have h51:uTo x.kind:=of_decide_eq_true (of_not_f h51b)
        have h51c:(decide (uTo x.kind))=true:=(of_not_f h51b)
        refine g_f rfl (not_f h51c)<|g_f rfl (not_f h51c)<|g_f rfl (not_f h51c)<|g_t rfl rfl<|s_pf rfl (not_f h51c) rfl<|s_pf rfl rfl rfl<|s_mv rfl<|g_t rfl rfl<|s_fa tok138.k rfl rfl<|g_t rfl rfl<|s_ld tok4 M 0 rfl rfl rfl rfl<|g_t rfl rfl<|s_not rfl<|g_t rfl rfl<|s_mv rfl<|?_
        rcases Bool.eq_false_or_eq_true (!(decide (uIt x.kind))) with hc | hc
        ·skip
         have h52b:=hc;clear hc
         have h52:¬ (uIt x.kind):=of_decide_eq_false (of_not_t h52b)
         have h52c:(decide (uIt x.kind))=false:=(of_not_t h52b)
         refine g_t rfl (not_t h52c)<|s_fa tok65.k rfl rfl<|g_t rfl (not_t h52c)<|s_ld tok22 M 1 rfl rfl rfl rfl<|g_t rfl (not_t h52c)<|s_ls tok22.k rfl<|g_t rfl (not_t h52c)<|s_gt rfl rfl<|g_t rfl rfl<|s_pt rfl (not_t h52c) rfl<|s_pf rfl rfl rfl<|e_nil<|fun a F=>?_
         exact ⟨(decide (0 < ((x.items.length:Nat):Int))),F.to ⟨rfl,rfl,trivial⟩,M,by clear F M;unfold NForm;first | (simp only [Bool.true_eq_false,true_iff,false_iff,Bool.false_eq_true,decide_eq_true_eq];grind) | grind⟩
        ·skip
         have h53b:=hc;clear hc
         have h53:uIt x.kind:=of_decide_eq_true (of_not_f h53b)
         have h53c:(decide (uIt x.kind))=true:=(of_not_f h53b)
         refine g_f rfl (not_f h53c)<|g_f rfl (not_f h53c)<|g_f rfl (not_f h53c)<|g_f rfl (not_f h53c)<|g_t rfl rfl<|s_pf rfl (not_f h53c) rfl<|s_pf rfl rfl rfl<|e_nil<|fun a F=>?_
         exact ⟨false,F.to ⟨rfl,rfl,trivial⟩,M,by clear F M;unfold NForm;first | (simp only [Bool.true_eq_false,true_iff,false_iff,Bool.false_eq_true,decide_eq_true_eq];grind) | grind⟩
    ·clear F M
     rintro a w ⟨bb,F,M,hbb⟩
     revert a
     refine e_tn<|e_cond rfl ?_ ?_
     ·intro hc
      have h54b:=hc;clear hc
      have h54:(bb)=true:=h54b
      refine e_seq<|?_
      have hF:¬ NForm x:=hbb.1 (by assumption)
      refine e_reg<|s_as rfl<|e_nil<|e_tn<|e_ret<|e_tr<|e_fin1 rfl rfl<|?_
      exact ⟨M.weaken (.cons _ (.cons _ (List.Sublist.refl _))),by rw [note_5 (by omega) hF]⟩
     ·intro hc
      have h55b:=hc;clear hc
      have h55:(bb)=false:=h55b
      refine e_skip<|e_tn<|e_seq<|?_
      have hF:NForm x:=Classical.byContradiction fun h_=>by have h9_:=hbb.2 h_;simp_all
      refine e_reg<|s_as rfl<|e_nil<|e_tn<|e_ret<|e_fin1 rfl rfl<|?_
      exact ⟨M.weaken (.cons _ (.cons _ (List.Sublist.refl _))),by rw [note_0 (by omega) hF]⟩
theorem ruses_spec {w0 w:World} {G:Ghost} {L:List Res} (M:Mem w0 G L w) {k:Nat}:Calls Tryz.prog 93 #[.int .u8 ((k:Nat):Int)] w (RetS w0 G L fun v=>v=.agg #[.int .i64 (uG k 0),.int .i64 (uG k 1),.int .i64 (uG k 2),.int .i64 (uG k 3)]):=by
 refine e_start (vs:=[_]) Tryz.func93 rfl (n:=18) rfl rfl<|e_seq<|e_reg<|s_al M tok167 rfl rfl<|?_;clear M;intro b1 w M
 refine e_nil<|e_tn<|e_seq<|e_seq<|e_reg<|s_mv rfl<|e_nil<|e_tn<|e_block<|e_seq<|e_seq<|e_reg<|s_eq rfl rfl<|s_as rfl<|e_nil<|e_tn<|e_cond rfl ?_ ?_
 ·intro hc
  have h3b:=hc;clear hc
  have h3:((k:Nat):Int)=1:=of_decide_eq_true h3b
  refine e_skip<|e_tn<|e_cond_t rfl h3b<|e_seq<|e_reg<|e_run (fun a F=>run_buildA F (ps:=[(0,.int .i64 1),(1,.int .i64 0),(2,.int .i64 0),(3,.int .i64 1)]) (cs:=[.int .i64 1,.int .i64 0,.int .i64 0,.int .i64 1]) tok167.k tok167 tok3 rfl rfl) rfl<|fun a F=>?_
  refine rl_storeA F M tok167 (k:=0) rfl rfl rfl (us:=[.int .i64 1,.int .i64 0,.int .i64 0,.int .i64 1]) rfl rfl (by simp [Value.oneCell']) (by simp) ?_;clear F M a;intro w a M F
  change Mem w0 G (.blk b1 [.int .i64 1,.int .i64 0,.int .i64 0,.int .i64 1] 167::L) _ at M
  revert a
  refine e_nil<|e_tn<|e_ret<|e_br<|e_tr<|fun a F=>fin_c F M (k:=0) rfl rfl tok167 rfl rfl rfl ?_
  exact ⟨M.weaken (.cons _ (List.Sublist.refl _)),by rw [show uG k 0=1 from if_pos (by unfold uAt;omega),show uG k 1=0 from if_neg (by unfold uCo;omega),show uG k 2=0 from if_neg (by unfold uTo;omega),show uG k 3=1 from if_pos (by unfold uIt;omega)]⟩
 ·intro hc
  have h4b:=hc;clear hc
  have h4:¬ (((k:Nat):Int)=1):=of_decide_eq_false h4b
  refine e_reg<|s_eq rfl rfl<|s_as rfl<|e_nil<|e_tn<|e_cond rfl ?_ ?_
  ·intro hc
   have h5b:=hc;clear hc
   have h5:((k:Nat):Int)=4:=of_decide_eq_true h5b
   refine e_seq<|e_reg<|e_run (fun a F=>run_buildA F (ps:=[(0,.int .i64 1),(1,.int .i64 0),(2,.int .i64 0),(3,.int .i64 1)]) (cs:=[.int .i64 1,.int .i64 0,.int .i64 0,.int .i64 1]) tok167.k tok167 tok3 rfl rfl) rfl<|fun a F=>?_
   refine rl_storeA F M tok167 (k:=0) rfl rfl rfl (us:=[.int .i64 1,.int .i64 0,.int .i64 0,.int .i64 1]) rfl rfl (by simp [Value.oneCell']) (by simp) ?_;clear F M a;intro w a M F
   change Mem w0 G (.blk b1 [.int .i64 1,.int .i64 0,.int .i64 0,.int .i64 1] 167::L) _ at M
   revert a
   refine e_nil<|e_tn<|e_ret<|e_br<|e_tr<|fun a F=>fin_c F M (k:=0) rfl rfl tok167 rfl rfl rfl ?_
   exact ⟨M.weaken (.cons _ (List.Sublist.refl _)),by rw [show uG k 0=1 from if_pos (by unfold uAt;omega),show uG k 1=0 from if_neg (by unfold uCo;omega),show uG k 2=0 from if_neg (by unfold uTo;omega),show uG k 3=1 from if_pos (by unfold uIt;omega)]⟩
  ·intro hc
   have h6b:=hc;clear hc
   have h6:¬ (((k:Nat):Int)=4):=of_decide_eq_false h6b
   refine e_seq<|e_reg<|s_eq rfl rfl<|s_as rfl<|e_nil<|e_tn<|e_cond rfl ?_ ?_
   ·intro hc
    have h7b:=hc;clear hc
    have h7:((k:Nat):Int)=2:=of_decide_eq_true h7b
    refine e_seq<|e_reg<|e_run (fun a F=>run_buildA F (ps:=[(0,.int .i64 1),(1,.int .i64 1),(2,.int .i64 0),(3,.int .i64 0)]) (cs:=[.int .i64 1,.int .i64 1,.int .i64 0,.int .i64 0]) tok167.k tok167 tok3 rfl rfl) rfl<|fun a F=>?_
    refine rl_storeA F M tok167 (k:=0) rfl rfl rfl (us:=[.int .i64 1,.int .i64 1,.int .i64 0,.int .i64 0]) rfl rfl (by simp [Value.oneCell']) (by simp) ?_;clear F M a;intro w a M F
    change Mem w0 G (.blk b1 [.int .i64 1,.int .i64 1,.int .i64 0,.int .i64 0] 167::L) _ at M
    revert a
    refine e_nil<|e_tn<|e_ret<|e_br<|e_tr<|fun a F=>fin_c F M (k:=0) rfl rfl tok167 rfl rfl rfl ?_
    exact ⟨M.weaken (.cons _ (List.Sublist.refl _)),by rw [show uG k 0=1 from if_pos (by unfold uAt;omega),show uG k 1=1 from if_pos (by unfold uCo;omega),show uG k 2=0 from if_neg (by unfold uTo;omega),show uG k 3=0 from if_neg (by unfold uIt;omega)]⟩
   ·intro hc
    have h8b:=hc;clear hc
    have h8:¬ (((k:Nat):Int)=2):=of_decide_eq_false h8b
    refine e_seq<|e_reg<|s_eq rfl rfl<|s_as rfl<|e_nil<|e_tn<|e_cond rfl ?_ ?_
    ·intro hc
     have h9b:=hc;clear hc
     have h9:((k:Nat):Int)=3:=of_decide_eq_true h9b
     refine e_seq<|e_reg<|e_run (fun a F=>run_buildA F (ps:=[(0,.int .i64 1),(1,.int .i64 1),(2,.int .i64 1),(3,.int .i64 0)]) (cs:=[.int .i64 1,.int .i64 1,.int .i64 1,.int .i64 0]) tok167.k tok167 tok3 rfl rfl) rfl<|fun a F=>?_
     refine rl_storeA F M tok167 (k:=0) rfl rfl rfl (us:=[.int .i64 1,.int .i64 1,.int .i64 1,.int .i64 0]) rfl rfl (by simp [Value.oneCell']) (by simp) ?_;clear F M a;intro w a M F
     change Mem w0 G (.blk b1 [.int .i64 1,.int .i64 1,.int .i64 1,.int .i64 0] 167::L) _ at M
     revert a
     refine e_nil<|e_tn<|e_ret<|e_br<|e_tr<|fun a F=>fin_c F M (k:=0) rfl rfl tok167 rfl rfl rfl ?_
     exact ⟨M.weaken (.cons _ (List.Sublist.refl _)),by rw [show uG k 0=1 from if_pos (by unfold uAt;omega),show uG k 1=1 from if_pos (by unfold uCo;omega),show uG k 2=1 from if_pos (by unfold uTo;omega),show uG k 3=0 from if_neg (by unfold uIt;omega)]⟩
    ·intro hc
     have h10b:=hc;clear hc
     have h10:¬ (((k:Nat):Int)=3):=of_decide_eq_false h10b
     refine e_seq<|e_reg<|s_eq rfl rfl<|s_as rfl<|e_nil<|e_tn<|e_cond rfl ?_ ?_
     ·intro hc
      have h11b:=hc;clear hc
      have h11:((k:Nat):Int)=5:=of_decide_eq_true h11b
      refine e_seq<|e_reg<|e_run (fun a F=>run_buildA F (ps:=[(0,.int .i64 0),(1,.int .i64 0),(2,.int .i64 0),(3,.int .i64 1)]) (cs:=[.int .i64 0,.int .i64 0,.int .i64 0,.int .i64 1]) tok167.k tok167 tok3 rfl rfl) rfl<|fun a F=>?_
      refine rl_storeA F M tok167 (k:=0) rfl rfl rfl (us:=[.int .i64 0,.int .i64 0,.int .i64 0,.int .i64 1]) rfl rfl (by simp [Value.oneCell']) (by simp) ?_;clear F M a;intro w a M F
      change Mem w0 G (.blk b1 [.int .i64 0,.int .i64 0,.int .i64 0,.int .i64 1] 167::L) _ at M
      revert a
      refine e_nil<|e_tn<|e_ret<|e_br<|e_tr<|fun a F=>fin_c F M (k:=0) rfl rfl tok167 rfl rfl rfl ?_
      exact ⟨M.weaken (.cons _ (List.Sublist.refl _)),by rw [show uG k 0=0 from if_neg (by unfold uAt;omega),show uG k 1=0 from if_neg (by unfold uCo;omega),show uG k 2=0 from if_neg (by unfold uTo;omega),show uG k 3=1 from if_pos (by unfold uIt;omega)]⟩
     ·intro hc
      have h12b:=hc;clear hc
      have h12:¬ (((k:Nat):Int)=5):=of_decide_eq_false h12b
      refine e_skip<|e_bn<|e_tn<|e_seq<|e_reg<|e_run (fun a F=>run_buildA F (ps:=[]) (cs:=[.int .i64 0,.int .i64 0,.int .i64 0,.int .i64 0]) tok167.k tok167 tok3 rfl rfl) rfl<|fun a F=>?_
      refine rl_storeA F M tok167 (k:=0) rfl rfl rfl (us:=[.int .i64 0,.int .i64 0,.int .i64 0,.int .i64 0]) rfl rfl (by simp [Value.oneCell']) (by simp) ?_;clear F M a;intro w a M F
      change Mem w0 G (.blk b1 [.int .i64 0,.int .i64 0,.int .i64 0,.int .i64 0] 167::L) _ at M
      revert a
      refine e_nil<|e_tn<|e_ret<|fun a F=>fin_c F M (k:=0) rfl rfl tok167 rfl rfl rfl ?_
      exact ⟨M.weaken (.cons _ (List.Sublist.refl _)),by rw [show uG k 0=0 from if_neg (by unfold uAt;omega),show uG k 1=0 from if_neg (by unfold uCo;omega),show uG k 2=0 from if_neg (by unfold uTo;omega),show uG k 3=0 from if_neg (by unfold uIt;omega)]⟩
theorem rncheck_spec {w0 w:World} {G:Ghost} {L:List Res} (M:Mem w0 G L w) {x:NotD} {na:Option Addr} {nc:Nat} (hN:x.kind < 256∧inKind .i64 x.at_∧inKind .i64 x.count∧inKind .i64 x.to∧x.items.length≤9223372036854775807) (SI:RdSl rdItem 4 G (.slice na x.items.length nc) x.items):Calls Tryz.prog 38 #[.agg #[.int .u8 (((x.kind:Nat):Int)),.int .i64 (x.at_),.int .i64 (x.count),.int .i64 (x.to),.slice (na) (x.items.length) (nc)]] w (RetS w0 G L fun v=>v=.int .i64 (noteE x)):=by
 refine e_start (vs:=[_]) Tryz.func38 rfl (n:=40) rfl rfl<|e_seq<|e_reg<|s_bx M rfl rfl rfl<|?_;clear M;intro b1 w M
 refine s_as rfl<|e_nil<|e_tn<|e_seq<|e_seq<|e_reg<|s_fa tok65.k rfl rfl<|s_ld tok5 M 0 rfl rfl rfl rfl<|s_lt rfl rfl<|s_mv rfl<|?_
 rcases Bool.eq_false_or_eq_true (decide (((x.kind:Nat):Int) < 1)) with hc | hc
 ·skip
  have h2b:=hc;clear hc
  have h2:((x.kind:Nat):Int) < 1:=of_decide_eq_true h2b
  refine g_f rfl h2b<|g_f rfl h2b<|g_f rfl h2b<|s_pt rfl h2b rfl<|e_nil<|e_tn<|e_cond_t rfl rfl<|e_seq<|e_reg<|s_as rfl<|e_nil<|e_tn<|e_ret<|e_tr<|e_fin1 rfl rfl<|?_
  exact ⟨M.weaken (.cons _ (List.Sublist.refl _)),by rw [note_1 (by omega)]⟩
 ·skip
  have h3b:=hc;clear hc
  have h3:¬ (((x.kind:Nat):Int) < 1):=of_decide_eq_false h3b
  refine g_t rfl h3b<|s_fa tok65.k rfl rfl<|g_t rfl h3b<|s_ld tok5 M 0 rfl rfl rfl rfl<|g_t rfl h3b<|s_gt rfl rfl<|s_pf rfl h3b rfl<|e_nil<|e_tn<|e_cond rfl ?_ ?_
  ·intro hc
   have h4b:=hc;clear hc
   have h4:5 < ((x.kind:Nat):Int):=of_decide_eq_true h4b
   refine e_seq<|e_reg<|s_as rfl<|e_nil<|e_tn<|e_ret<|e_tr<|e_fin1 rfl rfl<|?_
   exact ⟨M.weaken (.cons _ (List.Sublist.refl _)),by rw [note_1 (by omega)]⟩
  ·intro hc
   have h5b:=hc;clear hc
   have h5:¬ (5 < ((x.kind:Nat):Int)):=of_decide_eq_false h5b
   refine e_skip<|e_tn<|e_seq<|e_reg<|s_fa tok65.k rfl rfl<|s_ld tok5 M 0 rfl rfl rfl rfl<|s_cS ent93 rfl rfl (ruses_spec (k:=x.kind) M)<|?_;clear M;rintro _ w M rfl
   refine s_al M tok167 rfl rfl<|?_;clear M;intro b6 w M
   intro a F
   refine rl_storeA F M tok167 (k:=0) rfl rfl rfl (us:=[.int .i64 (uG x.kind 0),.int .i64 (uG x.kind 1),.int .i64 (uG x.kind 2),.int .i64 (uG x.kind 3)]) rfl rfl (by simp [Value.oneCell']) (by simp) ?_;clear F M a;intro w a M F
   change Mem w0 G (.blk b6 [.int .i64 (uG x.kind 0),.int .i64 (uG x.kind 1),.int .i64 (uG x.kind 2),.int .i64 (uG x.kind 3)] 167::_::L) _ at M
   revert a
   refine e_nil<|e_tn<|e_seq<|e_seq<|e_reg<|s_as rfl<|e_nil<|e_tn<|e_block<|fun a F=>w_loopN (fun m a' w'=>∃ (i:Nat),m=4 - i∧Fits 40 a' [(1,.pointer (some ⟨b1,0,none⟩)),(3,.pointer (some ⟨b6,0,none⟩)),(4,.int .i64 (((i:Nat):Int)))]∧Mem w0 G (.blk b6 [.int .i64 (uG x.kind 0),.int .i64 (uG x.kind 1),.int .i64 (uG x.kind 2),.int .i64 (uG x.kind 3)] 167::.blk b1 [.int .u8 (((x.kind:Nat):Int)),.int .i64 (x.at_),.int .i64 (x.count),.int .i64 (x.to),.slice (na) (x.items.length) (nc)] 65::L) w'∧(i≤4)∧(∀ j,j < i→uG x.kind j=0→nG x j=0)) _ ⟨0,rfl,F.to ⟨rfl,rfl,rfl,trivial⟩,M,by omega,fun j h=>by omega⟩ ?_
   clear F M
   rintro m a w ⟨i,rfl,F,M,hi,hA⟩
   revert a
   refine e_seq<|e_seq<|e_reg<|s_mv rfl<|s_lt rfl rfl<|e_nil<|e_tn<|e_cond rfl ?_ ?_
   ·intro hc
    have h8b:=hc;clear hc
    have h8:((i:Nat):Int) < 4:=of_decide_eq_true h8b
    refine e_skip<|e_tn<|e_seq<|e_block<|e_seq<|fun a F=>w_cut (fun a' w'=>∃ (bb:Bool),Fits 40 a' [(1,.pointer (some ⟨b1,0,none⟩)),(3,.pointer (some ⟨b6,0,none⟩)),(4,.int .i64 (((i:Nat):Int))),(39,.bool (bb))]∧Mem w0 G (.blk b6 [.int .i64 (uG x.kind 0),.int .i64 (uG x.kind 1),.int .i64 (uG x.kind 2),.int .i64 (uG x.kind 3)] 167::.blk b1 [.int .u8 (((x.kind:Nat):Int)),.int .i64 (x.at_),.int .i64 (x.count),.int .i64 (x.to),.slice (na) (x.items.length) (nc)] 65::L) w'∧(bb=true↔uG x.kind i=0∧nG x i≠0)) ?_ ?_
    ·skip
     revert a
     refine e_reg<|s_mv rfl<|e_run (fun a F=>run_idxPtr (j:=i) tok167.k tok3 rfl (F.ev rfl) (F.ev rfl) (by omega) (by omega)) rfl<|e_run (fun a F=>run_load1 (agf tok3 rfl) (F.ev rfl) (M.cellL (k:=0) rfl (u_cell (i:=i) (by omega)))) rfl<|s_eq rfl rfl<|s_mv rfl<|?_
     rcases Bool.eq_false_or_eq_true (decide (uG x.kind i=0)) with hc | hc
     ·skip
      have h9b:=hc;clear hc
      have h9:uG x.kind i=0:=of_decide_eq_true h9b
      refine g_t rfl h9b<|s_fa tok65.k rfl rfl<|g_t rfl h9b<|s_ld tok3 M 1 rfl rfl rfl rfl<|g_t rfl h9b<|s_fa tok65.k rfl rfl<|g_t rfl h9b<|s_ld tok3 M 1 rfl rfl rfl rfl<|g_t rfl h9b<|s_fa tok65.k rfl rfl<|g_t rfl h9b<|s_ld tok3 M 1 rfl rfl rfl rfl<|g_t rfl h9b<|s_fa tok65.k rfl rfl<|g_t rfl h9b<|s_ld tok22 M 1 rfl rfl rfl rfl<|g_t rfl h9b<|s_ls tok22.k rfl<|g_t rfl h9b<|fun a F=>?_
      refine rl_buildSliceN F M tok169.k tok3 (ps:=[(0,.int .i64 (x.at_)),(1,.int .i64 (x.count)),(2,.int .i64 (x.to)),(3,.int .i64 (((x.items.length:Nat):Int)))]) (cs:=[[.int .i64 (x.at_)],[.int .i64 (x.count)],[.int .i64 (x.to)],[.int .i64 (((x.items.length:Nat):Int))]]) (fl:=[.int .i64 (x.at_),.int .i64 (x.count),.int .i64 (x.to),.int .i64 (((x.items.length:Nat):Int))]) rfl rfl (by simp [Parts,Value.cells]) (by simp [ti3]) rfl (by simp [Value.oneCell']) (by decide) (by decide) rfl ?_;clear F M a;intro v10 w a M F
      obtain ⟨av10,cv10,rfl,hlev10,hcmv10,hlv10⟩:=M.row_shape (k:=0) rfl
      have Ez11:Els rdZ 1 G [.int .i64 (x.at_),.int .i64 (x.count),.int .i64 (x.to),.int .i64 (((x.items.length:Nat):Int))] [nG x 0,nG x 1,nG x 2,nG x 3]:=els_z (zs:=[nG x 0,nG x 1,nG x 2,nG x 3])
      revert a
      refine g_t rfl h9b<|s_mv rfl<|g_t rfl h9b<|?_
      obtain ⟨be12,_,Ie12,hme12,_,Ae12,rfl⟩:=M.atRow (k:=0) rfl (by decide) Ez11 (n_cell (x:=x) (i:=i) (by omega))
      refine s_ix tok169.k tok3 Ie12 rfl rfl<|g_t rfl h9b<|s_le tok3 Ae12 0 rfl rfl (by omega) rfl<|g_t rfl h9b<|s_ne rfl rfl<|s_pt rfl h9b rfl<|e_nil<|fun a F=>?_
      exact ⟨(!(decide ((nG x i)=0))),F.to ⟨rfl,rfl,rfl,rfl,trivial⟩,M.weaken (.cons _ (List.Sublist.refl _)),by clear F M;first | (simp only [Bool.true_eq_false,true_iff,false_iff,Bool.false_eq_true,decide_eq_true_eq];omega) | grind⟩
     ·skip
      have h13b:=hc;clear hc
      have h13:¬ (uG x.kind i=0):=of_decide_eq_false h13b
      refine g_f rfl h13b<|g_f rfl h13b<|g_f rfl h13b<|g_f rfl h13b<|g_f rfl h13b<|g_f rfl h13b<|g_f rfl h13b<|g_f rfl h13b<|g_f rfl h13b<|g_f rfl h13b<|g_f rfl h13b<|g_f rfl h13b<|g_f rfl h13b<|g_f rfl h13b<|s_pf rfl h13b rfl<|e_nil<|fun a F=>?_
      exact ⟨false,F.to ⟨rfl,rfl,rfl,rfl,trivial⟩,M,by clear F M;first | (simp only [Bool.true_eq_false,true_iff,false_iff,Bool.false_eq_true,decide_eq_true_eq];omega) | grind⟩
    ·clear F M
     rintro a w ⟨bb,F,M,hbb⟩
     revert a
     refine e_tn<|e_cond rfl ?_ ?_
     ·intro hc
      have h14b:=hc;clear hc
      have h14:(bb)=true:=h14b
      refine e_seq<|?_
      have h8_:=hbb
      refine e_reg<|s_as rfl<|e_nil<|e_tn<|e_ret<|e_br<|e_tr<|e_tr<|e_br<|e_tr<|e_fin1 rfl rfl<|?_
      exact ⟨M.weaken (.cons _ (.cons _ (List.Sublist.refl _))),by rw [note_5 (by omega) (not_form (j:=i) (by omega) (hbb.1 (by assumption)).1 (hbb.1 (by assumption)).2)]⟩
     ·intro hc
      have h15b:=hc;clear hc
      have h15:(bb)=false:=h15b
      refine e_skip<|e_bn<|e_tn<|e_reg<|s_mv rfl<|s_add rfl rfl<|s_as rfl<|e_nil<|e_tn<|fun a F=>?_
      exact ⟨_,by omega,i+1,rfl,F.to ⟨rfl,rfl,rfl,trivial⟩,M,by omega,fun j hj hu=>by rcases Nat.lt_succ_iff_lt_or_eq.1 hj with h_ | h_;exact hA j h_ hu;subst h_;clear F M;first | omega | simp_all⟩
   ·intro hc
    have h16b:=hc;clear hc
    have h16:¬ (((i:Nat):Int) < 4):=of_decide_eq_false h16b
    refine e_exit<|e_te<|e_te<|e_bh<|e_tn<|e_seq<|e_reg<|s_as rfl<|e_nil<|e_tn<|e_ret<|e_fin1 rfl rfl<|?_
    exact ⟨M.weaken (.cons _ (.cons _ (List.Sublist.refl _))),by rw [note_0 (by omega) (form_of fun j hj hu=>hA j (by omega) hu)]⟩
open Go Go.Y Go.Proofs
set_option linter.unusedSimpArgs false
set_option linter.unusedVariables false
theorem k1_spec {w0 w:World} {G:Ghost} {L:List Res} (M:Mem w0 G L w) {c:RulesD} {kca:Option Addr} {kcc:Nat} (SC:RdSl rdKind 9 G (.slice kca c.kinds.length kcc) c.kinds) {a1:Option Addr} {c1:Nat} {l:List EntD} (S:RdSl rdEnt 6 G (.slice a1 l.length c1) l) (hck:checkE c l=0) {x:NotD} {na:Option Addr} {nc:Nat} (hN:x.kind < 256∧inKind .i64 x.at_∧inKind .i64 x.count∧inKind .i64 x.to∧x.items.length≤9223372036854775807) (SI:RdSl rdItem 4 G (.slice na x.items.length nc) x.items) (hX:x.items.length≤900000) (h0:noteE x=0) (hk:x.kind=1):Calls Tryz.prog 122 #[.agg #[.slice (kca) (c.kinds.length) (kcc),.int .i64 (c.cap)],.agg #[.slice a1 l.length c1],.agg #[.int .u8 (((x.kind:Nat):Int)),.int .i64 (x.at_),.int .i64 (x.count),.int .i64 (x.to),.slice (na) (x.items.length) (nc)]] w (RetM w0 G (OwnR L (appR c l x))):=by
 rw [app_1 h0 hk]
 have bS:=S.bound
 refine e_start (vs:=[_,_,_]) Tryz.func122 rfl (n:=17) rfl rfl<|e_seq<|e_reg<|s_bx M rfl rfl rfl<|?_;clear M;intro b1 w M
 refine s_bx M rfl rfl rfl<|?_;clear M;intro b2 w M
 refine s_bx M rfl rfl rfl<|?_;clear M;intro b3 w M
 refine s_al M tok54 rfl rfl<|?_;clear M;intro b4 w M
 refine s_as rfl<|e_nil<|e_tn<|e_seq<|e_reg<|e_run (fun a F=>run_loadA tok51 rfl (F.ev rfl) (cs:=[.slice (kca) (c.kinds.length) (kcc),.int .i64 (c.cap)]) rfl (M.cellsL (k:=3) rfl rfl)) rfl<|e_run (fun a F=>run_loadA tok54 rfl (F.ev rfl) (cs:=[.slice (a1) (l.length) (c1)]) rfl (M.cellsL (k:=2) rfl rfl)) rfl<|s_fa tok65.k rfl rfl<|s_ld tok3 M 1 rfl rfl rfl rfl<|s_fa tok65.k rfl rfl<|s_ld tok22 M 1 rfl rfl rfl rfl<|fun a F=>?_
 refine rl_callM F ent123 rfl rfl (linsert_spec (c:=c) (l:=l) (xs:=x.items) (z:=x.at_) M SC S hck SI (by omega)) ?_;clear F M a;rintro _ Gq6 _ w a hGq6 M ⟨aoq6,csq6,Loq6,rfl,rfl,Eoq6⟩ F
 replace SC:=SC.mono mono_rdKind hGq6
 replace S:=S.mono mono_rdEnt hGq6
 replace SI:=SI.mono mono_rdItem hGq6
 have M:=M.perm (perm_mid (OWNR aoq6 (insR c l x.at_ x.items).1.length csq6::Loq6) [.blk b4 [.slice none 0 0] 54,.blk b3 [.int .u8 (((x.kind:Nat):Int)),.int .i64 (x.at_),.int .i64 (x.count),.int .i64 (x.to),.slice (na) (x.items.length) (nc)] 65,.blk b2 [.slice (a1) (l.length) (c1)] 54,.blk b1 [.slice (kca) (c.kinds.length) (kcc),.int .i64 (c.cap)] 51] L)
 change Mem w0 Gq6 (.blk b4 [.slice none 0 0] 54::.blk b3 [.int .u8 (((x.kind:Nat):Int)),.int .i64 (x.at_),.int .i64 (x.count),.int .i64 (x.to),.slice (na) (x.items.length) (nc)] 65::.blk b2 [.slice (a1) (l.length) (c1)] 54::.blk b1 [.slice (kca) (c.kinds.length) (kcc),.int .i64 (c.cap)] 51::((OWNR aoq6 (insR c l x.at_ x.items).1.length csq6::Loq6)++L)) _ at M
 revert a
 refine s_ex rfl rfl<|s_ex rfl rfl<|fun a F=>?_
 refine rl_storeA F M tok54 (k:=0) rfl rfl rfl (us:=[.slice (aoq6) ((insR c l x.at_ x.items).1.length) ((insR c l x.at_ x.items).1.length)]) rfl rfl (by simp [Value.oneCell']) (by simp) ?_;clear F M a;intro w a M F
 change Mem w0 Gq6 (.blk b4 [.slice (aoq6) ((insR c l x.at_ x.items).1.length) ((insR c l x.at_ x.items).1.length)] 54::_::_::_::((OWNR aoq6 (insR c l x.at_ x.items).1.length csq6::Loq6)++L)) _ at M
 revert a
 refine s_as rfl<|e_nil<|e_tn<|e_ret<|fun a F=>fin_ct F M (k:=0) rfl rfl tok54 rfl rfl rfl rfl ?_
 exact ⟨_,_,hGq6,M.weaken (.cons _ (.cons _ (.cons _ (.cons _ (List.Sublist.refl _))))),aoq6,csq6,Loq6,rfl,rfl,Eoq6⟩
theorem k2_spec {w0 w:World} {G:Ghost} {L:List Res} (M:Mem w0 G L w) {c:RulesD} {kca:Option Addr} {kcc:Nat} (SC:RdSl rdKind 9 G (.slice kca c.kinds.length kcc) c.kinds) {a1:Option Addr} {c1:Nat} {l:List EntD} (S:RdSl rdEnt 6 G (.slice a1 l.length c1) l) (hck:checkE c l=0) {x:NotD} {na:Option Addr} {nc:Nat} (hN:x.kind < 256∧inKind .i64 x.at_∧inKind .i64 x.count∧inKind .i64 x.to∧x.items.length≤9223372036854775807) (SI:RdSl rdItem 4 G (.slice na x.items.length nc) x.items) (hX:x.items.length≤900000) (h0:noteE x=0) (hk:x.kind=2):Calls Tryz.prog 124 #[.agg #[.slice (kca) (c.kinds.length) (kcc),.int .i64 (c.cap)],.agg #[.slice a1 l.length c1],.agg #[.int .u8 (((x.kind:Nat):Int)),.int .i64 (x.at_),.int .i64 (x.count),.int .i64 (x.to),.slice (na) (x.items.length) (nc)]] w (RetM w0 G (OwnR L (appR c l x))):=by
 rw [app_2 h0 hk]
 have bS:=S.bound
 refine e_start (vs:=[_,_,_]) Tryz.func124 rfl (n:=17) rfl rfl<|e_seq<|e_reg<|s_bx M rfl rfl rfl<|?_;clear M;intro b1 w M
 refine s_bx M rfl rfl rfl<|?_;clear M;intro b2 w M
 refine s_bx M rfl rfl rfl<|?_;clear M;intro b3 w M
 refine s_al M tok54 rfl rfl<|?_;clear M;intro b4 w M
 refine s_as rfl<|e_nil<|e_tn<|e_seq<|e_reg<|e_run (fun a F=>run_loadA tok51 rfl (F.ev rfl) (cs:=[.slice (kca) (c.kinds.length) (kcc),.int .i64 (c.cap)]) rfl (M.cellsL (k:=3) rfl rfl)) rfl<|e_run (fun a F=>run_loadA tok54 rfl (F.ev rfl) (cs:=[.slice (a1) (l.length) (c1)]) rfl (M.cellsL (k:=2) rfl rfl)) rfl<|s_fa tok65.k rfl rfl<|s_ld tok3 M 1 rfl rfl rfl rfl<|s_fa tok65.k rfl rfl<|s_ld tok3 M 1 rfl rfl rfl rfl<|fun a F=>?_
 refine rl_callM F ent69 rfl rfl (lremove_spec (c:=c) (l:=l) (z:=x.at_) (n:=x.count) M SC S hck ) ?_;clear F M a;rintro _ Gq6 _ w a hGq6 M ⟨aoq6,csq6,Loq6,rfl,rfl,Eoq6⟩ F
 replace SC:=SC.mono mono_rdKind hGq6
 replace S:=S.mono mono_rdEnt hGq6
 replace SI:=SI.mono mono_rdItem hGq6
 have M:=M.perm (perm_mid (OWNR aoq6 (remR l x.at_ x.count).1.length csq6::Loq6) [.blk b4 [.slice none 0 0] 54,.blk b3 [.int .u8 (((x.kind:Nat):Int)),.int .i64 (x.at_),.int .i64 (x.count),.int .i64 (x.to),.slice (na) (x.items.length) (nc)] 65,.blk b2 [.slice (a1) (l.length) (c1)] 54,.blk b1 [.slice (kca) (c.kinds.length) (kcc),.int .i64 (c.cap)] 51] L)
 change Mem w0 Gq6 (.blk b4 [.slice none 0 0] 54::.blk b3 [.int .u8 (((x.kind:Nat):Int)),.int .i64 (x.at_),.int .i64 (x.count),.int .i64 (x.to),.slice (na) (x.items.length) (nc)] 65::.blk b2 [.slice (a1) (l.length) (c1)] 54::.blk b1 [.slice (kca) (c.kinds.length) (kcc),.int .i64 (c.cap)] 51::((OWNR aoq6 (remR l x.at_ x.count).1.length csq6::Loq6)++L)) _ at M
 revert a
 refine s_ex rfl rfl<|s_ex rfl rfl<|fun a F=>?_
 refine rl_storeA F M tok54 (k:=0) rfl rfl rfl (us:=[.slice (aoq6) ((remR l x.at_ x.count).1.length) ((remR l x.at_ x.count).1.length)]) rfl rfl (by simp [Value.oneCell']) (by simp) ?_;clear F M a;intro w a M F
 change Mem w0 Gq6 (.blk b4 [.slice (aoq6) ((remR l x.at_ x.count).1.length) ((remR l x.at_ x.count).1.length)] 54::_::_::_::((OWNR aoq6 (remR l x.at_ x.count).1.length csq6::Loq6)++L)) _ at M
 revert a
 refine s_as rfl<|e_nil<|e_tn<|e_ret<|fun a F=>fin_ct F M (k:=0) rfl rfl tok54 rfl rfl rfl rfl ?_
 exact ⟨_,_,hGq6,M.weaken (.cons _ (.cons _ (.cons _ (.cons _ (List.Sublist.refl _))))),aoq6,csq6,Loq6,rfl,rfl,Eoq6⟩
theorem k3_spec {w0 w:World} {G:Ghost} {L:List Res} (M:Mem w0 G L w) {c:RulesD} {kca:Option Addr} {kcc:Nat} (SC:RdSl rdKind 9 G (.slice kca c.kinds.length kcc) c.kinds) {a1:Option Addr} {c1:Nat} {l:List EntD} (S:RdSl rdEnt 6 G (.slice a1 l.length c1) l) (hck:checkE c l=0) {x:NotD} {na:Option Addr} {nc:Nat} (hN:x.kind < 256∧inKind .i64 x.at_∧inKind .i64 x.count∧inKind .i64 x.to∧x.items.length≤9223372036854775807) (SI:RdSl rdItem 4 G (.slice na x.items.length nc) x.items) (hX:x.items.length≤900000) (h0:noteE x=0) (hk:x.kind=3):Calls Tryz.prog 125 #[.agg #[.slice (kca) (c.kinds.length) (kcc),.int .i64 (c.cap)],.agg #[.slice a1 l.length c1],.agg #[.int .u8 (((x.kind:Nat):Int)),.int .i64 (x.at_),.int .i64 (x.count),.int .i64 (x.to),.slice (na) (x.items.length) (nc)]] w (RetM w0 G (OwnR L (appR c l x))):=by
 rw [app_3 h0 hk]
 have bS:=S.bound
 refine e_start (vs:=[_,_,_]) Tryz.func125 rfl (n:=19) rfl rfl<|e_seq<|e_reg<|s_bx M rfl rfl rfl<|?_;clear M;intro b1 w M
 refine s_bx M rfl rfl rfl<|?_;clear M;intro b2 w M
 refine s_bx M rfl rfl rfl<|?_;clear M;intro b3 w M
 refine s_al M tok54 rfl rfl<|?_;clear M;intro b4 w M
 refine s_as rfl<|e_nil<|e_tn<|e_seq<|e_reg<|e_run (fun a F=>run_loadA tok51 rfl (F.ev rfl) (cs:=[.slice (kca) (c.kinds.length) (kcc),.int .i64 (c.cap)]) rfl (M.cellsL (k:=3) rfl rfl)) rfl<|e_run (fun a F=>run_loadA tok54 rfl (F.ev rfl) (cs:=[.slice (a1) (l.length) (c1)]) rfl (M.cellsL (k:=2) rfl rfl)) rfl<|s_fa tok65.k rfl rfl<|s_ld tok3 M 1 rfl rfl rfl rfl<|s_fa tok65.k rfl rfl<|s_ld tok3 M 1 rfl rfl rfl rfl<|s_fa tok65.k rfl rfl<|s_ld tok3 M 1 rfl rfl rfl rfl<|fun a F=>?_
 refine rl_callM F ent126 rfl rfl (lmove_spec (c:=c) (l:=l) (z:=x.at_) (n:=x.count) (q:=x.to) M SC S hck ) ?_;clear F M a;rintro _ Gq6 _ w a hGq6 M ⟨aoq6,csq6,Loq6,rfl,rfl,Eoq6⟩ F
 replace SC:=SC.mono mono_rdKind hGq6
 replace S:=S.mono mono_rdEnt hGq6
 replace SI:=SI.mono mono_rdItem hGq6
 have M:=M.perm (perm_mid (OWNR aoq6 (movR l x.at_ x.count x.to).1.length csq6::Loq6) [.blk b4 [.slice none 0 0] 54,.blk b3 [.int .u8 (((x.kind:Nat):Int)),.int .i64 (x.at_),.int .i64 (x.count),.int .i64 (x.to),.slice (na) (x.items.length) (nc)] 65,.blk b2 [.slice (a1) (l.length) (c1)] 54,.blk b1 [.slice (kca) (c.kinds.length) (kcc),.int .i64 (c.cap)] 51] L)
 change Mem w0 Gq6 (.blk b4 [.slice none 0 0] 54::.blk b3 [.int .u8 (((x.kind:Nat):Int)),.int .i64 (x.at_),.int .i64 (x.count),.int .i64 (x.to),.slice (na) (x.items.length) (nc)] 65::.blk b2 [.slice (a1) (l.length) (c1)] 54::.blk b1 [.slice (kca) (c.kinds.length) (kcc),.int .i64 (c.cap)] 51::((OWNR aoq6 (movR l x.at_ x.count x.to).1.length csq6::Loq6)++L)) _ at M
 revert a
 refine s_ex rfl rfl<|s_ex rfl rfl<|fun a F=>?_
 refine rl_storeA F M tok54 (k:=0) rfl rfl rfl (us:=[.slice (aoq6) ((movR l x.at_ x.count x.to).1.length) ((movR l x.at_ x.count x.to).1.length)]) rfl rfl (by simp [Value.oneCell']) (by simp) ?_;clear F M a;intro w a M F
 change Mem w0 Gq6 (.blk b4 [.slice (aoq6) ((movR l x.at_ x.count x.to).1.length) ((movR l x.at_ x.count x.to).1.length)] 54::_::_::_::((OWNR aoq6 (movR l x.at_ x.count x.to).1.length csq6::Loq6)++L)) _ at M
 revert a
 refine s_as rfl<|e_nil<|e_tn<|e_ret<|fun a F=>fin_ct F M (k:=0) rfl rfl tok54 rfl rfl rfl rfl ?_
 exact ⟨_,_,hGq6,M.weaken (.cons _ (.cons _ (.cons _ (.cons _ (List.Sublist.refl _))))),aoq6,csq6,Loq6,rfl,rfl,Eoq6⟩
theorem k4_spec {w0 w:World} {G:Ghost} {L:List Res} (M:Mem w0 G L w) {c:RulesD} {kca:Option Addr} {kcc:Nat} (SC:RdSl rdKind 9 G (.slice kca c.kinds.length kcc) c.kinds) {a1:Option Addr} {c1:Nat} {l:List EntD} (S:RdSl rdEnt 6 G (.slice a1 l.length c1) l) (hck:checkE c l=0) {x:NotD} {na:Option Addr} {nc:Nat} (hN:x.kind < 256∧inKind .i64 x.at_∧inKind .i64 x.count∧inKind .i64 x.to∧x.items.length≤9223372036854775807) (SI:RdSl rdItem 4 G (.slice na x.items.length nc) x.items) (hX:x.items.length≤900000) (h0:noteE x=0) (hk:x.kind=4):Calls Tryz.prog 127 #[.agg #[.slice (kca) (c.kinds.length) (kcc),.int .i64 (c.cap)],.agg #[.slice a1 l.length c1],.agg #[.int .u8 (((x.kind:Nat):Int)),.int .i64 (x.at_),.int .i64 (x.count),.int .i64 (x.to),.slice (na) (x.items.length) (nc)]] w (RetM w0 G (OwnR L (appR c l x))):=by
 rw [app_4 h0 hk]
 have bS:=S.bound
 refine e_start (vs:=[_,_,_]) Tryz.func127 rfl (n:=17) rfl rfl<|e_seq<|e_reg<|s_bx M rfl rfl rfl<|?_;clear M;intro b1 w M
 refine s_bx M rfl rfl rfl<|?_;clear M;intro b2 w M
 refine s_bx M rfl rfl rfl<|?_;clear M;intro b3 w M
 refine s_al M tok54 rfl rfl<|?_;clear M;intro b4 w M
 refine s_as rfl<|e_nil<|e_tn<|e_seq<|e_reg<|e_run (fun a F=>run_loadA tok51 rfl (F.ev rfl) (cs:=[.slice (kca) (c.kinds.length) (kcc),.int .i64 (c.cap)]) rfl (M.cellsL (k:=3) rfl rfl)) rfl<|e_run (fun a F=>run_loadA tok54 rfl (F.ev rfl) (cs:=[.slice (a1) (l.length) (c1)]) rfl (M.cellsL (k:=2) rfl rfl)) rfl<|s_fa tok65.k rfl rfl<|s_ld tok3 M 1 rfl rfl rfl rfl<|s_fa tok65.k rfl rfl<|s_ld tok22 M 1 rfl rfl rfl rfl<|fun a F=>?_
 refine rl_callM F ent128 rfl rfl (lchange_spec (c:=c) (l:=l) (xs:=x.items) (z:=x.at_) M SC S hck SI (by omega)) ?_;clear F M a;rintro _ Gq6 _ w a hGq6 M ⟨aoq6,csq6,Loq6,rfl,rfl,Eoq6⟩ F
 replace SC:=SC.mono mono_rdKind hGq6
 replace S:=S.mono mono_rdEnt hGq6
 replace SI:=SI.mono mono_rdItem hGq6
 have M:=M.perm (perm_mid (OWNR aoq6 (chgR c l x.at_ x.items).1.length csq6::Loq6) [.blk b4 [.slice none 0 0] 54,.blk b3 [.int .u8 (((x.kind:Nat):Int)),.int .i64 (x.at_),.int .i64 (x.count),.int .i64 (x.to),.slice (na) (x.items.length) (nc)] 65,.blk b2 [.slice (a1) (l.length) (c1)] 54,.blk b1 [.slice (kca) (c.kinds.length) (kcc),.int .i64 (c.cap)] 51] L)
 change Mem w0 Gq6 (.blk b4 [.slice none 0 0] 54::.blk b3 [.int .u8 (((x.kind:Nat):Int)),.int .i64 (x.at_),.int .i64 (x.count),.int .i64 (x.to),.slice (na) (x.items.length) (nc)] 65::.blk b2 [.slice (a1) (l.length) (c1)] 54::.blk b1 [.slice (kca) (c.kinds.length) (kcc),.int .i64 (c.cap)] 51::((OWNR aoq6 (chgR c l x.at_ x.items).1.length csq6::Loq6)++L)) _ at M
 revert a
 refine s_ex rfl rfl<|s_ex rfl rfl<|fun a F=>?_
 refine rl_storeA F M tok54 (k:=0) rfl rfl rfl (us:=[.slice (aoq6) ((chgR c l x.at_ x.items).1.length) ((chgR c l x.at_ x.items).1.length)]) rfl rfl (by simp [Value.oneCell']) (by simp) ?_;clear F M a;intro w a M F
 change Mem w0 Gq6 (.blk b4 [.slice (aoq6) ((chgR c l x.at_ x.items).1.length) ((chgR c l x.at_ x.items).1.length)] 54::_::_::_::((OWNR aoq6 (chgR c l x.at_ x.items).1.length csq6::Loq6)++L)) _ at M
 revert a
 refine s_as rfl<|e_nil<|e_tn<|e_ret<|fun a F=>fin_ct F M (k:=0) rfl rfl tok54 rfl rfl rfl rfl ?_
 exact ⟨_,_,hGq6,M.weaken (.cons _ (.cons _ (.cons _ (.cons _ (List.Sublist.refl _))))),aoq6,csq6,Loq6,rfl,rfl,Eoq6⟩
theorem k5_spec {w0 w:World} {G:Ghost} {L:List Res} (M:Mem w0 G L w) {c:RulesD} {kca:Option Addr} {kcc:Nat} (SC:RdSl rdKind 9 G (.slice kca c.kinds.length kcc) c.kinds) {a1:Option Addr} {c1:Nat} {l:List EntD} (S:RdSl rdEnt 6 G (.slice a1 l.length c1) l) (hck:checkE c l=0) {x:NotD} {na:Option Addr} {nc:Nat} (hN:x.kind < 256∧inKind .i64 x.at_∧inKind .i64 x.count∧inKind .i64 x.to∧x.items.length≤9223372036854775807) (SI:RdSl rdItem 4 G (.slice na x.items.length nc) x.items) (hX:x.items.length≤900000) (h0:noteE x=0) (hk:x.kind=5):Calls Tryz.prog 129 #[.agg #[.slice (kca) (c.kinds.length) (kcc),.int .i64 (c.cap)],.agg #[.slice a1 l.length c1],.agg #[.int .u8 (((x.kind:Nat):Int)),.int .i64 (x.at_),.int .i64 (x.count),.int .i64 (x.to),.slice (na) (x.items.length) (nc)]] w (RetM w0 G (OwnR L (appR c l x))):=by
 rw [app_5 h0 hk]
 have bS:=S.bound
 refine e_start (vs:=[_,_,_]) Tryz.func129 rfl (n:=15) rfl rfl<|e_seq<|e_reg<|s_bx M rfl rfl rfl<|?_;clear M;intro b1 w M
 refine s_bx M rfl rfl rfl<|?_;clear M;intro b2 w M
 refine s_bx M rfl rfl rfl<|?_;clear M;intro b3 w M
 refine s_al M tok54 rfl rfl<|?_;clear M;intro b4 w M
 refine s_as rfl<|e_nil<|e_tn<|e_seq<|e_reg<|e_run (fun a F=>run_loadA tok51 rfl (F.ev rfl) (cs:=[.slice (kca) (c.kinds.length) (kcc),.int .i64 (c.cap)]) rfl (M.cellsL (k:=3) rfl rfl)) rfl<|e_run (fun a F=>run_loadA tok54 rfl (F.ev rfl) (cs:=[.slice (a1) (l.length) (c1)]) rfl (M.cellsL (k:=2) rfl rfl)) rfl<|s_fa tok65.k rfl rfl<|s_ld tok22 M 1 rfl rfl rfl rfl<|fun a F=>?_
 refine rl_callM F ent92 rfl rfl (lreset_spec (c:=c) (l:=l) (xs:=x.items) M SC S hck SI (by omega)) ?_;clear F M a;rintro _ Gq6 _ w a hGq6 M ⟨aoq6,csq6,Loq6,rfl,rfl,Eoq6⟩ F
 replace SC:=SC.mono mono_rdKind hGq6
 replace S:=S.mono mono_rdEnt hGq6
 replace SI:=SI.mono mono_rdItem hGq6
 have M:=M.perm (perm_mid (OWNR aoq6 (insR c [] 0 x.items).1.length csq6::Loq6) [.blk b4 [.slice none 0 0] 54,.blk b3 [.int .u8 (((x.kind:Nat):Int)),.int .i64 (x.at_),.int .i64 (x.count),.int .i64 (x.to),.slice (na) (x.items.length) (nc)] 65,.blk b2 [.slice (a1) (l.length) (c1)] 54,.blk b1 [.slice (kca) (c.kinds.length) (kcc),.int .i64 (c.cap)] 51] L)
 change Mem w0 Gq6 (.blk b4 [.slice none 0 0] 54::.blk b3 [.int .u8 (((x.kind:Nat):Int)),.int .i64 (x.at_),.int .i64 (x.count),.int .i64 (x.to),.slice (na) (x.items.length) (nc)] 65::.blk b2 [.slice (a1) (l.length) (c1)] 54::.blk b1 [.slice (kca) (c.kinds.length) (kcc),.int .i64 (c.cap)] 51::((OWNR aoq6 (insR c [] 0 x.items).1.length csq6::Loq6)++L)) _ at M
 revert a
 refine s_ex rfl rfl<|s_ex rfl rfl<|fun a F=>?_
 refine rl_storeA F M tok54 (k:=0) rfl rfl rfl (us:=[.slice (aoq6) ((insR c [] 0 x.items).1.length) ((insR c [] 0 x.items).1.length)]) rfl rfl (by simp [Value.oneCell']) (by simp) ?_;clear F M a;intro w a M F
 change Mem w0 Gq6 (.blk b4 [.slice (aoq6) ((insR c [] 0 x.items).1.length) ((insR c [] 0 x.items).1.length)] 54::_::_::_::((OWNR aoq6 (insR c [] 0 x.items).1.length csq6::Loq6)++L)) _ at M
 revert a
 refine s_as rfl<|e_nil<|e_tn<|e_ret<|fun a F=>fin_ct F M (k:=0) rfl rfl tok54 rfl rfl rfl rfl ?_
 exact ⟨_,_,hGq6,M.weaken (.cons _ (.cons _ (.cons _ (.cons _ (List.Sublist.refl _))))),aoq6,csq6,Loq6,rfl,rfl,Eoq6⟩
theorem does_spec {w0 w:World} {G:Ghost} {L:List Res} (M:Mem w0 G L w) {c:RulesD} {kca:Option Addr} {kcc:Nat} (SC:RdSl rdKind 9 G (.slice kca c.kinds.length kcc) c.kinds) {a1:Option Addr} {c1:Nat} {l:List EntD} (S:RdSl rdEnt 6 G (.slice a1 l.length c1) l) (hck:checkE c l=0) {x:NotD} {na:Option Addr} {nc:Nat} (hN:x.kind < 256∧inKind .i64 x.at_∧inKind .i64 x.count∧inKind .i64 x.to∧x.items.length≤9223372036854775807) (SI:RdSl rdItem 4 G (.slice na x.items.length nc) x.items) (hX:x.items.length≤900000) (h0:noteE x=0):Calls Tryz.prog (doesF x.kind) #[.agg #[.slice (kca) (c.kinds.length) (kcc),.int .i64 (c.cap)],.agg #[.slice a1 l.length c1],.agg #[.int .u8 (((x.kind:Nat):Int)),.int .i64 (x.at_),.int .i64 (x.count),.int .i64 (x.to),.slice (na) (x.items.length) (nc)]] w (RetM w0 G (OwnR L (appR c l x))):=by
 have hk:=(note_zero.1 h0).1
 rcases (show x.kind=1∨x.kind=2∨x.kind=3∨x.kind=4∨x.kind=5 by omega) with e | e | e | e | e
 ·have h:=k1_spec M SC S hck hN SI hX h0 e
  rw [show doesF x.kind=122 by rw [e];rfl];exact h
 ·have h:=k2_spec M SC S hck hN SI hX h0 e
  rw [show doesF x.kind=124 by rw [e];rfl];exact h
 ·have h:=k3_spec M SC S hck hN SI hX h0 e
  rw [show doesF x.kind=125 by rw [e];rfl];exact h
 ·have h:=k4_spec M SC S hck hN SI hX h0 e
  rw [show doesF x.kind=127 by rw [e];rfl];exact h
 ·have h:=k5_spec M SC S hck hN SI hX h0 e
  rw [show doesF x.kind=129 by rw [e];rfl];exact h
theorem ent_does {k:Nat}:Ent Tryz.prog (doesF k):=by
 unfold doesF
 split
 ·exact ent122
 ·exact ent124
 ·exact ent125
 ·exact ent127
 ·exact ent129
theorem napply_spec {w0 w:World} {G:Ghost} {L:List Res} (M:Mem w0 G L w) {c:RulesD} {kca:Option Addr} {kcc:Nat} (SC:RdSl rdKind 9 G (.slice kca c.kinds.length kcc) c.kinds) {a1:Option Addr} {c1:Nat} {l:List EntD} (S:RdSl rdEnt 6 G (.slice a1 l.length c1) l)  {x:NotD} {na:Option Addr} {nc:Nat} (hN:x.kind < 256∧inKind .i64 x.at_∧inKind .i64 x.count∧inKind .i64 x.to∧x.items.length≤9223372036854775807) (SI:RdSl rdItem 4 G (.slice na x.items.length nc) x.items) (hX:x.items.length≤900000):Calls Tryz.prog 28 #[.agg #[.slice (kca) (c.kinds.length) (kcc),.int .i64 (c.cap)],.agg #[.slice a1 l.length c1],.agg #[.int .u8 (((x.kind:Nat):Int)),.int .i64 (x.at_),.int .i64 (x.count),.int .i64 (x.to),.slice (na) (x.items.length) (nc)]] w (RetM w0 G (OwnR L (appE c l x))):=by
 have bS:=S.bound
 refine e_start (vs:=[_,_,_]) Tryz.func28 rfl (n:=34) rfl rfl<|e_seq<|e_reg<|s_bx M rfl rfl rfl<|?_;clear M;intro b1 w M
 refine s_bx M rfl rfl rfl<|?_;clear M;intro b2 w M
 refine s_bx M rfl rfl rfl<|?_;clear M;intro b3 w M
 refine s_al M tok54 rfl rfl<|?_;clear M;intro b4 w M
 refine s_as rfl<|e_nil<|e_tn<|e_seq<|e_seq<|e_reg<|e_run (fun a F=>run_loadA tok51 rfl (F.ev rfl) (cs:=[.slice (kca) (c.kinds.length) (kcc),.int .i64 (c.cap)]) rfl (M.cellsL (k:=3) rfl rfl)) rfl<|e_run (fun a F=>run_loadA tok54 rfl (F.ev rfl) (cs:=[.slice (a1) (l.length) (c1)]) rfl (M.cellsL (k:=2) rfl rfl)) rfl<|s_cS ent68 rfl rfl (lcheck_spec (c:=c) (l:=l) M SC S)<|?_;clear M;rintro _ w M rfl
 refine s_as rfl<|e_nil<|e_tn<|e_seq<|e_reg<|s_mv rfl<|s_ne rfl rfl<|e_nil<|e_tn<|e_cond rfl ?_ ?_
 ·intro hc
  have h6b:=hc;clear hc
  have h6:¬ (checkE c l=0):=of_decide_eq_false (of_not_t h6b)
  have h6c:(decide (checkE c l=0))=false:=(of_not_t h6b)
  refine e_seq<|e_reg<|e_run (fun a F=>run_buildS (cs:=[.slice none 0 0]) (ps:=[]) tok54.k rfl tok54 (F.evp rfl) rfl) rfl<|s_mv rfl<|fun a F=>?_
  refine rl_storeA F M tok54 (k:=0) rfl rfl rfl (us:=[.slice none 0 0]) rfl rfl (by simp [Value.oneCell']) (by simp) ?_;clear F M a;intro w a M F
  change Mem w0 G (.blk b4 [.slice none 0 0] 54::_::_::_::L) _ at M
  revert a
  refine s_as rfl<|e_nil<|e_tn<|e_ret<|e_tr<|fun a F=>fin_ct F M (k:=0) rfl rfl tok54 rfl rfl rfl rfl ?_
  exact ownR_none (appE_no (by omega)) (Gle.refl _) (M.weaken (.cons _ (.cons _ (.cons _ (.cons _ (List.Sublist.refl _))))))
 ·intro hc
  have h7b:=hc;clear hc
  have h7:checkE c l=0:=of_decide_eq_true (of_not_f h7b)
  have h7c:(decide (checkE c l=0))=true:=(of_not_f h7b)
  refine e_skip<|e_tn<|e_seq<|e_seq<|e_reg<|e_run (fun a F=>run_loadA tok65 rfl (F.ev rfl) (cs:=[.int .u8 (((x.kind:Nat):Int)),.int .i64 (x.at_),.int .i64 (x.count),.int .i64 (x.to),.slice (na) (x.items.length) (nc)]) rfl (M.cellsL (k:=1) rfl rfl)) rfl<|s_cS ent37 rfl rfl (ncheck_spec (x:=x) M hN SI)<|?_;clear M;rintro _ w M rfl
  refine s_as rfl<|e_nil<|e_tn<|e_seq<|e_reg<|s_mv rfl<|s_ne rfl rfl<|e_nil<|e_tn<|e_cond rfl ?_ ?_
  ·intro hc
   have h8b:=hc;clear hc
   have h8:¬ (noteE x=0):=of_decide_eq_false (of_not_t h8b)
   have h8c:(decide (noteE x=0))=false:=(of_not_t h8b)
   refine e_seq<|e_reg<|e_run (fun a F=>run_buildS (cs:=[.slice none 0 0]) (ps:=[]) tok54.k rfl tok54 (F.evp rfl) rfl) rfl<|s_mv rfl<|fun a F=>?_
   refine rl_storeA F M tok54 (k:=0) rfl rfl rfl (us:=[.slice none 0 0]) rfl rfl (by simp [Value.oneCell']) (by simp) ?_;clear F M a;intro w a M F
   change Mem w0 G (.blk b4 [.slice none 0 0] 54::_::_::_::L) _ at M
   revert a
   refine s_as rfl<|e_nil<|e_tn<|e_ret<|e_tr<|fun a F=>fin_ct F M (k:=0) rfl rfl tok54 rfl rfl rfl rfl ?_
   exact ownR_none (((appE_ok (by omega)).trans (app_e (by omega)))) (Gle.refl _) (M.weaken (.cons _ (.cons _ (.cons _ (.cons _ (List.Sublist.refl _))))))
  ·intro hc
   have h9b:=hc;clear hc
   have h9:noteE x=0:=of_decide_eq_true (of_not_f h9b)
   have h9c:(decide (noteE x=0))=true:=(of_not_f h9b)
   refine e_skip<|e_tn<|e_seq<|?_
   have hkk:=(note_zero.1 (show noteE x=0 by omega)).1
   intro a F
   refine w_plan3 [(.free,1),(.pure,2),(.pure,5),(.pure,6),(.pure,7),(.keep,0),(.free,3),(.free,4),(.keep,8),(.free,9),(.free,10),(.chg,11),(.free,12)] [11] (Keep G [.blk b3 [.int .u8 (((x.kind:Nat):Int)),.int .i64 (x.at_),.int .i64 (x.count),.int .i64 (x.to),.slice (na) (x.items.length) (nc)] 65,.blk b2 [.slice (a1) (l.length) (c1)] 54,.blk b1 [.slice (kca) (c.kinds.length) (kcc),.int .i64 (c.cap)] 51]) rfl (by kernel_rfl) (fun c a d v w h=>by cases d <;> exact h) ((M.drew _).keep (Gle.refl _) (by simp)) ?_
   replace M:=M.drew (w.drawn+1)
   revert a
   refine k_f (fun a F w _=>x_fa tok65.k rfl F rfl) rfl<|k_p (fun a F w M=>run_load1 (agf tok5 rfl) (F.ev rfl) (M.cellL (k:=0) rfl rfl)) rfl<|k_p (fun a F w M=>run_loadA tok51 rfl (F.ev rfl) (cs:=[.slice (kca) (c.kinds.length) (kcc),.int .i64 (c.cap)]) rfl (M.cellsL (k:=2) rfl rfl)) rfl<|k_p (fun a F w M=>run_loadA tok54 rfl (F.ev rfl) (cs:=[.slice (a1) (l.length) (c1)]) rfl (M.cellsL (k:=1) rfl rfl)) rfl<|k_p (fun a F w M=>run_loadA tok65 rfl (F.ev rfl) (cs:=[.int .u8 (((x.kind:Nat):Int)),.int .i64 (x.at_),.int .i64 (x.count),.int .i64 (x.to),.slice (na) (x.items.length) (nc)]) rfl (M.cellsL (k:=0) rfl rfl)) rfl<|k_k rfl<|s_cS ent75 rfl rfl (kinds_spec M)<|?_;clear M;rintro _ w M rfl
   refine e_nil<|eK (C':=Keep G [.blk b3 [.int .u8 (((x.kind:Nat):Int)),.int .i64 (x.at_),.int .i64 (x.count),.int .i64 (x.to),.slice (na) (x.items.length) (nc)] 65,.blk b2 [.slice (a1) (l.length) (c1)] 54,.blk b1 [.slice (kca) (c.kinds.length) (kcc),.int .i64 (c.cap)] 51]) (M.keep (Gle.refl _) (by simp)) (fun w h=>h.mono (Gle.refl _) (by simp))<|k_f (fun a F w _=>run_idxArrA (j:=x.kind) tok139.k tok138 rfl (F.ev rfl) (F.ev rfl) rfl (by omega) (us:=[.string (str (nameK x.kind)),.bool (decide (uAt x.kind)),.bool (decide (uCo x.kind)),.bool (decide (uTo x.kind)),.bool (decide (uIt x.kind)),.func (.func (doesF x.kind)) #[] #[]]) (kinds_at (by omega))) rfl<|k_f (fun a F w _=>run_field1 tok138.k rfl tok67 rfl (F.ev rfl) rfl) rfl<|k_k rfl<|fun a F=>?_
   refine rl_callvM F ent_does rfl rfl rfl (does_spec M SC S (by omega) hN SI hX (by omega)) ?_;clear F M a;rintro _ Gq10 _ w a hGq10 M ⟨aoq10,csq10,Loq10,rfl,rfl,Eoq10⟩ F
   replace SC:=SC.mono mono_rdKind hGq10
   replace S:=S.mono mono_rdEnt hGq10
   replace SI:=SI.mono mono_rdItem hGq10
   have M:=M.perm (perm_mid (OWNR aoq10 (appR c l x).1.length csq10::Loq10) [.blk b4 [.slice none 0 0] 54,.blk b3 [.int .u8 (((x.kind:Nat):Int)),.int .i64 (x.at_),.int .i64 (x.count),.int .i64 (x.to),.slice (na) (x.items.length) (nc)] 65,.blk b2 [.slice (a1) (l.length) (c1)] 54,.blk b1 [.slice (kca) (c.kinds.length) (kcc),.int .i64 (c.cap)] 51] L)
   change Mem w0 Gq10 (.blk b4 [.slice none 0 0] 54::.blk b3 [.int .u8 (((x.kind:Nat):Int)),.int .i64 (x.at_),.int .i64 (x.count),.int .i64 (x.to),.slice (na) (x.items.length) (nc)] 65::.blk b2 [.slice (a1) (l.length) (c1)] 54::.blk b1 [.slice (kca) (c.kinds.length) (kcc),.int .i64 (c.cap)] 51::((OWNR aoq10 (appR c l x).1.length csq10::Loq10)++L)) _ at M
   revert a
   refine e_nil<|eK (C':=Keep Gq10 [.blk b3 [.int .u8 (((x.kind:Nat):Int)),.int .i64 (x.at_),.int .i64 (x.count),.int .i64 (x.to),.slice (na) (x.items.length) (nc)] 65,.blk b2 [.slice (a1) (l.length) (c1)] 54,.blk b1 [.slice (kca) (c.kinds.length) (kcc),.int .i64 (c.cap)] 51]) (M.keep (Gle.refl _) (by simp)) (fun w h=>h.mono hGq10 (by simp))<|k_f (fun a F w _=>run_extract (v:=.agg #[.slice (aoq10) ((appR c l x).1.length) ((appR c l x).1.length)]) (F.ev rfl) rfl) rfl<|k_f (fun a F w _=>run_extract (v:=.int .i64 ((appR c l x).2)) (F.ev rfl) rfl) rfl<|k_c rfl<|fun a F=>?_
   refine rl_storeA F M tok54 (k:=0) rfl rfl rfl (us:=[.slice (aoq10) ((appR c l x).1.length) ((appR c l x).1.length)]) rfl rfl (by simp [Value.oneCell']) (by simp) ?_;clear F M a;intro w a M F
   change Mem w0 Gq10 (.blk b4 [.slice (aoq10) ((appR c l x).1.length) ((appR c l x).1.length)] 54::_::_::_::((OWNR aoq10 (appR c l x).1.length csq10::Loq10)++L)) _ at M
   revert a
   refine e_nil<|fun a F=>⟨Keep Gq10 [.blk b4 [.slice (aoq10) ((appR c l x).1.length) ((appR c l x).1.length)] 54,.blk b3 [.int .u8 (((x.kind:Nat):Int)),.int .i64 (x.at_),.int .i64 (x.count),.int .i64 (x.to),.slice (na) (x.items.length) (nc)] 65,.blk b2 [.slice (a1) (l.length) (c1)] 54,.blk b1 [.slice (kca) (c.kinds.length) (kcc),.int .i64 (c.cap)] 51],M.keep (Gle.refl _) (by simp),?_⟩
   revert a
   refine k_f (fun a F w _=>x_as F rfl) rfl<|k_nil<|e_tn<|e_ret<|fun a F=>fin_ct F M (k:=0) rfl rfl tok54 rfl rfl rfl rfl ?_
   rw [appE_ok (by omega)]
   exact ⟨_,_,hGq10,M.weaken (.cons _ (.cons _ (.cons _ (.cons _ (List.Sublist.refl _))))),aoq10,csq10,Loq10,rfl,rfl,Eoq10⟩
open Go Go.Y Go.Proofs
set_option linter.unusedSimpArgs false
set_option linter.unusedVariables false
open Go Go.Y Go.Proofs
set_option linter.unusedSimpArgs false
set_option linter.unusedVariables false
theorem napply_run {w0 w:World} {G:Ghost} {L:List Res} (M:Mem w0 G L w) {c:RulesD} {kca:Option Addr} {kcc:Nat} (SC:RdSl rdKind 9 G (.slice kca c.kinds.length kcc) c.kinds) {a1:Option Addr} {c1 i:Nat} {l:List EntD} {ns:List NotD} (S:RdSl rdEnt 6 G (.slice a1 (runR c l ns i).1.length c1) (runR c l ns i).1) (hck:checkE c l=0) (hR:(runR c l ns i).2=0) {x:NotD} {na:Option Addr} {nc:Nat} (hN:x.kind < 256∧inKind .i64 x.at_∧inKind .i64 x.count∧inKind .i64 x.to∧x.items.length≤9223372036854775807) (SI:RdSl rdItem 4 G (.slice na x.items.length nc) x.items) (hx:ns[i]?=some x) (hNX:∀ x∈ns,x.items.length≤900000) :
  Calls Tryz.prog 28 #[.agg #[.slice (kca) (c.kinds.length) (kcc),.int .i64 (c.cap)],.agg #[.slice a1 (runR c l ns i).1.length c1],.agg #[.int .u8 (((x.kind:Nat):Int)),.int .i64 (x.at_),.int .i64 (x.count),.int .i64 (x.to),.slice (na) (x.items.length) (nc)]] w (RetM w0 G (OwnR L (runR c l ns (i+1)))):=by
 rw [run_step hR hx,← appE_ok (run_valid hck hR)]
 exact napply_spec M SC S hN SI (hNX _ (List.mem_of_getElem? hx))
theorem lremove_run {w0 w:World} {G:Ghost} {L:List Res} (M:Mem w0 G L w) {c:RulesD} {kca:Option Addr} {kcc:Nat} (SC:RdSl rdKind 9 G (.slice kca c.kinds.length kcc) c.kinds) {a1:Option Addr} {c1:Nat} {l:List EntD} (S:RdSl rdEnt 6 G (.slice a1 l.length c1) l) (hck:checkE c l=0) {ns:List NotD}:Calls Tryz.prog 69 #[.agg #[.slice (kca) (c.kinds.length) (kcc),.int .i64 (c.cap)],.agg #[.slice a1 l.length c1],.int .i64 0,.int .i64 0] w (RetM w0 G (OwnR L (runR c l ns 0))):=by
 rw [run_zero,← rem_00]
 exact lremove_spec M SC S hck
theorem nall_spec {w0 w:World} {G:Ghost} {L:List Res} (M:Mem w0 G L w) {c:RulesD} {kca:Option Addr} {kcc:Nat} (SC:RdSl rdKind 9 G (.slice kca c.kinds.length kcc) c.kinds) {a1:Option Addr} {c1:Nat} {l:List EntD} (S:RdSl rdEnt 6 G (.slice a1 l.length c1) l)  {an:Option Addr} {cn:Nat} {ns:List NotD} (SN:RdSl rdNote 5 G (.slice an ns.length cn) ns) (hNX:∀ x∈ns,x.items.length≤900000):Calls Tryz.prog 25 #[.agg #[.slice (kca) (c.kinds.length) (kcc),.int .i64 (c.cap)],.agg #[.slice a1 l.length c1],.slice an ns.length cn] w (RetM w0 G (fun G' L' v=>∃ (a:Option Addr) (cs:List Value) (Ls:List Res),v=.tuple #[.agg #[.slice a (allE c l ns).1.length (allE c l ns).1.length],.int .i64 (((allE c l ns).2.1:Nat):Int),.int .i64 (allE c l ns).2.2]∧L' = (OWNR a (allE c l ns).1.length cs::(Ls++L))∧Els (rdEC Ls) 6 G' cs (allE c l ns).1)):=by
 have bS:=S.bound
 have bN:=SN.bound
 refine e_start (vs:=[_,_,_]) Tryz.func25 rfl (n:=53) rfl rfl<|e_seq<|e_reg<|s_bx M rfl rfl rfl<|?_;clear M;intro b1 w M
 refine s_bx M rfl rfl rfl<|?_;clear M;intro b2 w M
 refine s_al M tok54 rfl rfl<|?_;clear M;intro b3 w M
 refine s_as rfl<|s_as rfl<|e_nil<|e_tn<|e_seq<|e_seq<|e_reg<|e_run (fun a F=>run_loadA tok51 rfl (F.ev rfl) (cs:=[.slice (kca) (c.kinds.length) (kcc),.int .i64 (c.cap)]) rfl (M.cellsL (k:=2) rfl rfl)) rfl<|e_run (fun a F=>run_loadA tok54 rfl (F.ev rfl) (cs:=[.slice (a1) (l.length) (c1)]) rfl (M.cellsL (k:=1) rfl rfl)) rfl<|s_cS ent68 rfl rfl (lcheck_spec (c:=c) (l:=l) M SC S)<|?_;clear M;rintro _ w M rfl
 refine s_as rfl<|e_nil<|e_tn<|e_seq<|e_reg<|s_mv rfl<|s_ne rfl rfl<|e_nil<|e_tn<|e_cond rfl ?_ ?_
 ·intro hc
  have h5b:=hc;clear hc
  have h5:¬ (checkE c l=0):=of_decide_eq_false (of_not_t h5b)
  have h5c:(decide (checkE c l=0))=false:=(of_not_t h5b)
  refine e_seq<|e_reg<|e_run (fun a F=>run_buildS (cs:=[.slice none 0 0]) (ps:=[]) tok54.k rfl tok54 (F.evp rfl) rfl) rfl<|s_mv rfl<|fun a F=>?_
  refine rl_storeA F M tok54 (k:=0) rfl rfl rfl (us:=[.slice none 0 0]) rfl rfl (by simp [Value.oneCell']) (by simp) ?_;clear F M a;intro w a M F
  change Mem w0 G (.blk b3 [.slice none 0 0] 54::_::_::L) _ at M
  revert a
  refine s_as rfl<|s_as rfl<|e_nil<|e_tn<|e_ret<|e_tr<|fun a F=>fin_ctt F M (k:=0) rfl rfl tok54 rfl rfl rfl rfl rfl ?_
  rw [allE_no (by omega)]
  exact ⟨_,_,(Gle.refl _),(M.weaken (.cons _ (.cons _ (.cons _ (List.Sublist.refl _))))).nilrow 69 6,none,[],[],rfl,rfl,Els.nil⟩
 ·intro hc
  have h6b:=hc;clear hc
  have h6:checkE c l=0:=of_decide_eq_true (of_not_f h6b)
  have h6c:(decide (checkE c l=0))=true:=(of_not_f h6b)
  refine e_skip<|e_tn<|e_seq<|e_seq<|?_
  have hck:checkE c l=0:=by omega
  refine e_reg<|s_mv rfl<|s_ls tok47.k rfl<|s_gt rfl rfl<|e_nil<|e_tn<|e_cond rfl ?_ ?_
  ·intro hc
   have h7b:=hc;clear hc
   have h7:32 < ((ns.length:Nat):Int):=of_decide_eq_true h7b
   refine e_seq<|e_reg<|e_run (fun a F=>run_buildS (cs:=[.slice none 0 0]) (ps:=[]) tok54.k rfl tok54 (F.evp rfl) rfl) rfl<|fun a F=>?_
   refine rl_storeA F M tok54 (k:=0) rfl rfl rfl (us:=[.slice none 0 0]) rfl rfl (by simp [Value.oneCell']) (by simp) ?_;clear F M a;intro w a M F
   change Mem w0 G (.blk b3 [.slice none 0 0] 54::_::_::L) _ at M
   revert a
   refine s_as rfl<|s_as rfl<|e_nil<|e_tn<|e_ret<|e_tr<|fun a F=>fin_ctt F M (k:=0) rfl rfl tok54 rfl rfl rfl rfl rfl ?_
   rw [(allE_ok (by omega)).trans (all_3 (by omega))]
   exact ⟨_,_,(Gle.refl _),(M.weaken (.cons _ (.cons _ (.cons _ (List.Sublist.refl _))))).nilrow 69 6,none,[],[],rfl,rfl,Els.nil⟩
  ·intro hc
   have h8b:=hc;clear hc
   have h8:¬ (32 < ((ns.length:Nat):Int)):=of_decide_eq_false h8b
   refine e_skip<|e_tn<|e_seq<|e_reg<|e_run (fun a F=>run_loadA tok51 rfl (F.ev rfl) (cs:=[.slice (kca) (c.kinds.length) (kcc),.int .i64 (c.cap)]) rfl (M.cellsL (k:=2) rfl rfl)) rfl<|e_run (fun a F=>run_loadA tok54 rfl (F.ev rfl) (cs:=[.slice (a1) (l.length) (c1)]) rfl (M.cellsL (k:=1) rfl rfl)) rfl<|fun a F=>?_
   refine rl_callM F ent69 rfl rfl (lremove_run (ns:=ns) M SC S hck) ?_;clear F M a;rintro _ Gq9 _ w a hGq9 M ⟨aoq9,csq9,Loq9,rfl,rfl,Eoq9⟩ F
   replace SC:=SC.mono mono_rdKind hGq9
   replace S:=S.mono mono_rdEnt hGq9
   replace SN:=SN.mono mono_rdNote hGq9
   have M:=M.perm (perm_mid (OWNR aoq9 (runR c l ns 0).1.length csq9::Loq9) [.blk b3 [.slice none 0 0] 54,.blk b2 [.slice (a1) (l.length) (c1)] 54,.blk b1 [.slice (kca) (c.kinds.length) (kcc),.int .i64 (c.cap)] 51] L)
   change Mem w0 Gq9 (.blk b3 [.slice none 0 0] 54::.blk b2 [.slice (a1) (l.length) (c1)] 54::.blk b1 [.slice (kca) (c.kinds.length) (kcc),.int .i64 (c.cap)] 51::((OWNR aoq9 (runR c l ns 0).1.length csq9::Loq9)++L)) _ at M
   revert a
   refine s_mv rfl<|s_ex rfl rfl<|s_ex rfl rfl<|fun a F=>?_
   refine rl_storeA F M tok54 (k:=0) rfl rfl rfl (us:=[.slice (aoq9) ((runR c l ns 0).1.length) ((runR c l ns 0).1.length)]) rfl rfl (by simp [Value.oneCell']) (by simp) ?_;clear F M a;intro w a M F
   change Mem w0 Gq9 (.blk b3 [.slice (aoq9) ((runR c l ns 0).1.length) ((runR c l ns 0).1.length)] 54::_::_::((OWNR aoq9 (runR c l ns 0).1.length csq9::Loq9)++L)) _ at M
   revert a
   refine s_as rfl<|e_nil<|e_tn<|e_seq<|e_seq<|e_reg<|s_mv rfl<|s_ls tok47.k rfl<|s_mv rfl<|e_nil<|e_tn<|e_block<|fun a F=>w_loopN (fun m a' w'=>∃ (i:Nat),∃ (ao:Option Addr),∃ (cso:List Value),∃ (Lo:List Res),∃ (z:Int),m=ns.length - i∧∃ G10,Gle Gq9 G10∧Fits 53 a' [(2,.slice (an) (ns.length) (cn)),(3,.pointer (some ⟨b1,0,none⟩)),(4,.pointer (some ⟨b2,0,none⟩)),(6,.pointer (some ⟨b3,0,none⟩)),(29,.slice (an) (ns.length) (cn)),(30,.int .i64 (((ns.length:Nat):Int))),(31,.int .i64 (((i:Nat):Int))),(8,.int .i64 (z))]∧Mem w0 G10 (.blk b3 [.slice (ao) ((runR c l ns i).1.length) ((runR c l ns i).1.length)] 54::.blk b2 [.slice (a1) (l.length) (c1)] 54::.blk b1 [.slice (kca) (c.kinds.length) (kcc),.int .i64 (c.cap)] 51::((OWNR ao (runR c l ns i).1.length cso::Lo)++L)) w'∧(i≤ns.length)∧((runR c l ns i).2=0)∧(Els (rdEC Lo) 6 G10 cso (runR c l ns i).1)∧(z=0)) _ ⟨0,aoq9,csq9,Loq9,_,rfl,Gq9,Gle.refl _,F.to ⟨rfl,rfl,rfl,rfl,rfl,rfl,rfl,rfl,trivial⟩,M,Nat.zero_le _,rfl,Eoq9,rfl⟩ ?_
   clear F M
   rintro m a w ⟨i,ao,cso,Lo,z,rfl,G10,hG10,F,M,hi,hR,Eo,hz⟩
   replace SC:=SC.mono mono_rdKind hG10
   replace S:=S.mono mono_rdEnt hG10
   replace SN:=SN.mono mono_rdNote hG10
   revert a
   refine e_seq<|e_reg<|s_lt rfl rfl<|e_nil<|e_tn<|e_seq<|e_cond rfl ?_ ?_
   ·intro hc
    have h11b:=hc;clear hc
    have h11:((i:Nat):Int) < ((ns.length:Nat):Int):=of_decide_eq_true h11b
    refine e_skip<|e_tn<|e_seq<|e_block<|e_seq<|e_reg<|s_mv rfl<|?_
    obtain ⟨Xe12,hXe12⟩:=get_of_lt (xs:=ns) (i:=i) (by omega)
    obtain ⟨be12,oe12,_,Ie12,_,Ae12,hTe12⟩:=SN.at hXe12
    obtain ⟨nae12,nce12,rfl,h1e12,h2e12,h3e12,h4e12,h5e12,SIe12⟩:=hTe12
    have hNe12:Xe12.kind < 256∧inKind .i64 Xe12.at_∧inKind .i64 Xe12.count∧inKind .i64 Xe12.to∧Xe12.items.length≤9223372036854775807:=⟨h1e12,h2e12,h3e12,h4e12,h5e12⟩
    refine s_ix tok47.k tok65 Ie12 rfl rfl<|e_run (fun a F=>run_loadA tok65 rfl (F.ev rfl) (cs:=[.int .u8 (((Xe12.kind:Nat):Int)),.int .i64 (Xe12.at_),.int .i64 (Xe12.count),.int .i64 (Xe12.to),.slice (nae12) (Xe12.items.length) (nce12)]) rfl (M.cellsA Ae12 0 (by omega) rfl)) rfl<|s_al M tok65 rfl rfl<|?_;clear M;intro b13 w M
    refine s_as rfl<|fun a F=>?_
    refine rl_storeA F M tok65 (k:=0) rfl rfl rfl (us:=[.int .u8 (((Xe12.kind:Nat):Int)),.int .i64 (Xe12.at_),.int .i64 (Xe12.count),.int .i64 (Xe12.to),.slice (nae12) (Xe12.items.length) (nce12)]) rfl rfl (by simp [Value.oneCell']) (by simp) ?_;clear F M a;intro w a M F
    change Mem w0 G10 (.blk b13 [.int .u8 (((Xe12.kind:Nat):Int)),.int .i64 (Xe12.at_),.int .i64 (Xe12.count),.int .i64 (Xe12.to),.slice (nae12) (Xe12.items.length) (nce12)] 65::_::_::_::((OWNR ao (runR c l ns i).1.length cso::Lo)++L)) _ at M
    revert a
    refine e_nil<|e_tn<|e_seq<|?_
    obtain ⟨Gg,hGg,M,Sg⟩:=own_give (M.perm (perm_mid [.blk b13 [.int .u8 (((Xe12.kind:Nat):Int)),.int .i64 (Xe12.at_),.int .i64 (Xe12.count),.int .i64 (Xe12.to),.slice (nae12) (Xe12.items.length) (nce12)] 65,.blk b3 [.slice (ao) ((runR c l ns i).1.length) ((runR c l ns i).1.length)] 54,.blk b2 [.slice (a1) (l.length) (c1)] 54,.blk b1 [.slice (kca) (c.kinds.length) (kcc),.int .i64 (c.cap)] 51] (OWNR ao (runR c l ns i).1.length cso::Lo) L)) Eo
    replace SC:=SC.mono mono_rdKind hGg
    replace S:=S.mono mono_rdEnt hGg
    replace SN:=SN.mono mono_rdNote hGg
    replace Ae12:=Ae12.mono hGg
    replace SIe12:=SIe12.mono mono_rdItem hGg
    change Mem w0 Gg (.blk b13 [.int .u8 (((Xe12.kind:Nat):Int)),.int .i64 (Xe12.at_),.int .i64 (Xe12.count),.int .i64 (Xe12.to),.slice (nae12) (Xe12.items.length) (nce12)] 65::.blk b3 [.slice (ao) ((runR c l ns i).1.length) ((runR c l ns i).1.length)] 54::.blk b2 [.slice (a1) (l.length) (c1)] 54::.blk b1 [.slice (kca) (c.kinds.length) (kcc),.int .i64 (c.cap)] 51::L) _ at M
    refine e_reg<|e_run (fun a F=>run_loadA tok51 rfl (F.ev rfl) (cs:=[.slice (kca) (c.kinds.length) (kcc),.int .i64 (c.cap)]) rfl (M.cellsL (k:=3) rfl rfl)) rfl<|e_run (fun a F=>run_loadA tok54 rfl (F.ev rfl) (cs:=[.slice (ao) ((runR c l ns i).1.length) ((runR c l ns i).1.length)]) rfl (M.cellsL (k:=1) rfl rfl)) rfl<|e_run (fun a F=>run_loadA tok65 rfl (F.ev rfl) (cs:=[.int .u8 (((Xe12.kind:Nat):Int)),.int .i64 (Xe12.at_),.int .i64 (Xe12.count),.int .i64 (Xe12.to),.slice (nae12) (Xe12.items.length) (nce12)]) rfl (M.cellsL (k:=0) rfl rfl)) rfl<|fun a F=>?_
    refine rl_callM F ent28 rfl rfl (napply_run (ns:=ns) M SC Sg hck hR hNe12 SIe12 hXe12 hNX) ?_;clear F M a;rintro _ Gq15 _ w a hGq15 M ⟨aoq15,csq15,Loq15,rfl,rfl,Eoq15⟩ F
    replace SC:=SC.mono mono_rdKind hGq15
    replace S:=S.mono mono_rdEnt hGq15
    replace SN:=SN.mono mono_rdNote hGq15
    replace Ae12:=Ae12.mono hGq15
    replace SIe12:=SIe12.mono mono_rdItem hGq15
    replace Sg:=Sg.mono mono_rdEnt hGq15
    have M:=M.perm (perm_mid (OWNR aoq15 ((runR c l ns (i+1))).1.length csq15::Loq15) [.blk b13 [.int .u8 (((Xe12.kind:Nat):Int)),.int .i64 (Xe12.at_),.int .i64 (Xe12.count),.int .i64 (Xe12.to),.slice (nae12) (Xe12.items.length) (nce12)] 65,.blk b3 [.slice (ao) ((runR c l ns i).1.length) ((runR c l ns i).1.length)] 54,.blk b2 [.slice (a1) (l.length) (c1)] 54,.blk b1 [.slice (kca) (c.kinds.length) (kcc),.int .i64 (c.cap)] 51] L)
    change Mem w0 Gq15 (.blk b13 [.int .u8 (((Xe12.kind:Nat):Int)),.int .i64 (Xe12.at_),.int .i64 (Xe12.count),.int .i64 (Xe12.to),.slice (nae12) (Xe12.items.length) (nce12)] 65::.blk b3 [.slice (ao) ((runR c l ns i).1.length) ((runR c l ns i).1.length)] 54::.blk b2 [.slice (a1) (l.length) (c1)] 54::.blk b1 [.slice (kca) (c.kinds.length) (kcc),.int .i64 (c.cap)] 51::((OWNR aoq15 ((runR c l ns (i+1))).1.length csq15::Loq15)++L)) _ at M
    revert a
    refine s_mv rfl<|s_ex rfl rfl<|s_ex rfl rfl<|fun a F=>?_
    refine rl_storeA F M tok54 (k:=1) rfl rfl rfl (us:=[.slice (aoq15) (((runR c l ns (i+1))).1.length) (((runR c l ns (i+1))).1.length)]) rfl rfl (by simp [Value.oneCell']) (by simp) ?_;clear F M a;intro w a M F
    change Mem w0 Gq15 (.blk b13 [.int .u8 (((Xe12.kind:Nat):Int)),.int .i64 (Xe12.at_),.int .i64 (Xe12.count),.int .i64 (Xe12.to),.slice (nae12) (Xe12.items.length) (nce12)] 65::.blk b3 [.slice (aoq15) (((runR c l ns (i+1))).1.length) (((runR c l ns (i+1))).1.length)] 54::_::_::((OWNR aoq15 ((runR c l ns (i+1))).1.length csq15::Loq15)++L)) _ at M
    revert a
    refine s_as rfl<|e_nil<|e_tn<|e_seq<|e_reg<|s_mv rfl<|s_ne rfl rfl<|e_nil<|e_tn<|e_cond rfl ?_ ?_
    ·intro hc
     have h16b:=hc;clear hc
     have h16:¬ (((runR c l ns (i+1))).2=0):=of_decide_eq_false (of_not_t h16b)
     have h16c:(decide (((runR c l ns (i+1))).2=0))=false:=(of_not_t h16b)
     refine e_seq<|e_reg<|e_run (fun a F=>run_buildS (cs:=[.slice none 0 0]) (ps:=[]) tok54.k rfl tok54 (F.evp rfl) rfl) rfl<|s_mv rfl<|s_mv rfl<|fun a F=>?_
     refine rl_storeA F M tok54 (k:=1) rfl rfl rfl (us:=[.slice none 0 0]) rfl rfl (by simp [Value.oneCell']) (by simp) ?_;clear F M a;intro w a M F
     change Mem w0 Gq15 (.blk b13 [.int .u8 (((Xe12.kind:Nat):Int)),.int .i64 (Xe12.at_),.int .i64 (Xe12.count),.int .i64 (Xe12.to),.slice (nae12) (Xe12.items.length) (nce12)] 65::.blk b3 [.slice none 0 0] 54::_::_::((OWNR aoq15 ((runR c l ns (i+1))).1.length csq15::Loq15)++L)) _ at M
     revert a
     refine s_as rfl<|s_as rfl<|e_nil<|e_tn<|e_ret<|e_br<|e_tr<|e_tr<|e_br<|e_tr<|fun a F=>fin_ctt F M (k:=1) rfl rfl tok54 rfl rfl rfl rfl rfl ?_
     rw [(allE_ok hck).trans (all_x (by omega) hR (by omega) (by omega))]
     exact ⟨_,_,(((hGq9.trans hG10).trans hGg).trans hGq15),(M.weaken (.cons _ (.cons _ (.cons _ (.cons _ (List.sublist_append_right _ _)))))).nilrow 69 6,none,[],[],rfl,rfl,Els.nil⟩
    ·intro hc
     have h17b:=hc;clear hc
     have h17:((runR c l ns (i+1))).2=0:=of_decide_eq_true (of_not_f h17b)
     have h17c:(decide (((runR c l ns (i+1))).2=0))=true:=(of_not_f h17b)
     refine e_skip<|e_bn<|e_tn<|e_reg<|s_add rfl rfl<|s_mv rfl<|e_nil<|e_tn<|fun a F=>?_
     exact ⟨_,by omega,i+1,aoq15,csq15,Loq15,_,rfl,Gq15,((hG10.trans hGg).trans hGq15),F.to ⟨rfl,rfl,rfl,rfl,rfl,rfl,rfl,rfl,trivial⟩,(M.weaken (.cons _ (.cons_cons _ (.cons_cons _ (.cons_cons _ (List.Sublist.refl _)))))),by omega,by omega,Eoq15,by omega⟩
   ·intro hc
    have h18b:=hc;clear hc
    have h18:¬ (((i:Nat):Int) < ((ns.length:Nat):Int)):=of_decide_eq_false h18b
    refine e_exit<|e_te<|e_te<|e_bh<|e_tn<|e_seq<|e_reg<|e_run (fun a F=>run_loadA tok54 rfl (F.ev rfl) (cs:=[.slice (ao) ((runR c l ns i).1.length) ((runR c l ns i).1.length)]) rfl (M.cellsL (k:=0) rfl rfl)) rfl<|s_mv rfl<|s_ls tok47.k rfl<|s_mv rfl<|fun a F=>?_
    refine rl_storeA F M tok54 (k:=0) rfl rfl rfl (us:=[.slice (ao) ((runR c l ns i).1.length) ((runR c l ns i).1.length)]) rfl rfl (by simp [Value.oneCell']) (by simp) ?_;clear F M a;intro w a M F
    change Mem w0 G10 (.blk b3 [.slice (ao) ((runR c l ns i).1.length) ((runR c l ns i).1.length)] 54::_::_::((OWNR ao (runR c l ns i).1.length cso::Lo)++L)) _ at M
    revert a
    refine s_as rfl<|s_as rfl<|e_nil<|e_tn<|e_ret<|fun a F=>fin_ctt F M (k:=0) rfl rfl tok54 rfl rfl rfl rfl rfl ?_
    subst hz;rw [allE_ok hck,all_0 (by omega) hR (by omega)]
    exact ⟨_,_,(hGq9.trans hG10),M.weaken (.cons _ (.cons _ (.cons _ (List.Sublist.refl _)))),ao,cso,Lo,rfl,rfl,Eo⟩
end Go.Proofs.YtmmhmcplegpenaaGreatDoor
