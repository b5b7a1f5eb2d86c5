/- The walks, part TM. · Items: names, texts, the item as it is read; which items are valid. · Lists: rules, entries, what is valid, totals, the errors. -/
import Derived.Test.YtmmhmcplegpenaaGreatDoorJ4
import Derived.Test.YtmmhmcplegpenaaGreatDoorYC
import Derived.Laws.RangeAny
import Derived.Laws.RangeString
import Derived.Shelf.GgClosure.StringsIndexFunc
import Derived.Test.YtmmhmcplegpenaaGreatDoorJ2
set_option linter.unusedSimpArgs false
set_option linter.unusedVariables false
set_option maxRecDepth 10000
namespace Go.Proofs.YtmmhmcplegpenaaGreatDoor.T
open Go Go.Y Go.Proofs
variable {w0 w:World} {G:Aq} {L:List Res}
set_option maxHeartbeats 1600000
theorem Jw (M:Mem w0 G L w) {x:ItemD} {ma:Option Addr} {mc:Nat} (ht:x.text.length≤9223372036854775807) (SM:Ag Cf 1 G (.slice ma x.marks.length mc) x.marks) (hik:Au .u64 x.key) {ad:Option Addr} {cd:Nat} {xs:List SlotD} (S:Ag rdSlot 3 G (.slice ad xs.length cd) xs) (hxs:xs.length≤8):Calls Tryz.prog 187 #[.slice ad xs.length cd,.agg #[.int .u64 x.key,.int .u8 x.typ,.string (str x.text),.slice ma x.marks.length mc]] w (Ret w0 G L fun G' v=>∃ a' c',v=.slice a' ((xs).map (Bq x)).length c'∧Ag Dy 2 G' (.slice a' ((xs).map (Bq x)).length c') ((xs).map (Bq x))):=by
 refine Al (vs:=[_,_]) Tryz.func187 rfl (n:=51) rfl rfl<|?_
 refine Bt<|?_
 refine B2 M rfl rfl rfl<|?_;clear M;intro b1 w M
 refine wk ?_;have bM:=SM.bound;have hik':0≤x.key∧x.key≤18446744073709551615:=hik;refine wk ?_;have M:=M.nilrow 282 2;intro a F;refine Ba (fun m a' w'=>∃ (i:Nat),∃ (ay:Option Addr),∃ (ny:Nat),∃ (cy:Nat),∃ (csy:List Value),m=xs.length - i∧Fits 51 a' [(0,.slice ad xs.length cd),(3,.pointer (some ⟨b1,0,none⟩)),(5,.slice ay ny cy),(6,.int .i64 ((i:Nat):Int))]∧Mem w0 G (.row (.slice ay ny cy) (ny) (csy) 282 2::.blk b1 [.int .u64 x.key,.int .u8 x.typ,.string (str x.text),.slice ma x.marks.length mc] 26::L) w'∧(i≤xs.length)∧(ny=((xs.take i).map (Bq x)).length)∧(Els Dy 2 G csy ((xs.take i).map (Bq x)))) _ ⟨0,(none),(0),(0),([]),rfl,F.to ⟨rfl,rfl,rfl,rfl,trivial⟩,M,Nat.zero_le _,rfl,Els.nil⟩ ?_;clear F M;rintro m a w ⟨i,ay,ny,cy,csy,rfl,F,M,hi,hny,Ey⟩;revert a;refine wk ?_;refine qD rfl ?_ ?_
 ·intro h2;refine wk ?_;obtain ⟨Xe3,hXe3⟩:=Ap (xs:=xs) (i:=i) (by omega);obtain ⟨be3,oe3,_,Ie3,_,Ae3,⟨rfl,hn1e3,hk1e3,hv1e3⟩⟩:=S.at hXe3;refine Ajk Oj.k Fa Ie3 rfl rfl<|M7 Fa.k rfl rfl<|s_la Ej M Ae3 2 rfl rfl rfl rfl<|Ew rfl<|Cj<|Bt<|C0 rfl<|C0 rfl<|?_
  obtain ⟨be4,oe4,_,Ie4,_,Ae4,⟨rfl,hn1e4,hk1e4,hv1e4⟩⟩:=S.at hXe3;refine Ajk Oj.k Fa Ie4 rfl rfl<|M7 Fa.k rfl rfl<|s_la Cl M Ae4 1 rfl rfl rfl rfl<|J4<|Bt<|s_eq rfl rfl<|Ew rfl<|Ao<|F1<|?_
  refine fun a F=>Jo (fun a' w'=>∃ (vv:List UInt8),Fits 51 a' [(0,.slice ad xs.length cd),(3,.pointer (some ⟨b1,0,none⟩)),(5,.slice ay ny cy),(6,.int .i64 ((i:Nat):Int)),(7,.string (str vv))]∧Mem w0 G (.row (.slice ay ny cy) (ny) (csy) 282 2::.blk b1 [.int .u64 x.key,.int .u8 x.typ,.string (str x.text),.slice ma x.marks.length mc] 26::L) w'∧(vv=Hl x Xe3)) ?_ ?_
  ·skip
   revert a;refine qD rfl ?_ ?_
   ·intro h5;refine wk ?_;intro a F
    exact ⟨(x.text),F.to ⟨rfl,rfl,rfl,rfl,rfl,trivial⟩,M,by unfold Hl;(try rw [if_pos (by assumption)]);(try rw [if_neg (by assumption)]);(try rw [if_pos (by assumption)]);(try rw [if_neg (by assumption)]);(try rw [if_pos (by assumption)]);(try rw [if_neg (by assumption)])⟩
   intro h6;refine wk ?_;refine qD rfl ?_ ?_
   ·intro h7;refine wk ?_;have hu8:(x.key:Int)=(((x.key).toNat:Nat):Int):=by omega
    intro a F;rw [hu8] at F;revert a;refine A4 Uk rfl rfl (Nx (u:=(x.key).toNat) M (by omega))<|?_;clear M;rintro _ w M rfl
    refine Ew rfl<|Ao<|?_
    intro a F
    exact ⟨(Lib.decDigits ((x.key).toNat)),F.to ⟨rfl,rfl,rfl,rfl,rfl,trivial⟩,M,by unfold Hl;(try rw [if_pos (by assumption)]);(try rw [if_neg (by assumption)]);(try rw [if_pos (by assumption)]);(try rw [if_neg (by assumption)]);(try rw [if_pos (by assumption)]);(try rw [if_neg (by assumption)])⟩
   intro h9;refine wk ?_;refine qD rfl ?_ ?_
   ·intro h10;refine wk ?_;refine Am (fun a F=>Bh H4.k ⟨_,by rw [Bo Cq.k]⟩ (F.ev rfl) (Jc (by omega) (by omega))) rfl<|A4 Uk rfl rfl (Nx (u:=x.marks.length) M (by omega))<|?_;clear M;rintro _ w M rfl
    refine Ew rfl<|Ao<|?_
    intro a F
    exact ⟨(Lib.decDigits x.marks.length),F.to ⟨rfl,rfl,rfl,rfl,rfl,trivial⟩,M,by unfold Hl;(try rw [if_pos (by assumption)]);(try rw [if_neg (by assumption)]);(try rw [if_pos (by assumption)]);(try rw [if_neg (by assumption)]);(try rw [if_pos (by assumption)]);(try rw [if_neg (by assumption)])⟩
   intro h11;refine F3<|?_
   intro a F
   exact ⟨(Xe3.v),F.to ⟨rfl,rfl,rfl,rfl,rfl,trivial⟩,M,by unfold Hl;(try rw [if_pos (by assumption)]);(try rw [if_neg (by assumption)]);(try rw [if_pos (by assumption)]);(try rw [if_neg (by assumption)]);(try rw [if_pos (by assumption)]);(try rw [if_neg (by assumption)])⟩
  clear F M;rintro a w ⟨vv,F,M,hvv⟩;revert a;refine e_bn<|F1<|?_
  intro a F;rw [hvv] at F;have hny2:ny≤8:=by rw [hny,List.length_map,List.length_take];omega
  revert a;refine wk ?_;obtain ⟨be12,oe12,_,Ie12,_,Ae12,⟨rfl,hn1e12,hk1e12,hv1e12⟩⟩:=S.at hXe3;refine wk ?_;refine Am (fun a F=>Ah (cs:=[.string (str Xe3.n),.string (str (Hl x Xe3))]) (ps:=[(0,.string (str Xe3.n)),(1,.string (str (Hl x Xe3)))]) I6.k rfl I6 (F.evp rfl) rfl) rfl<|fun a F=>?_
  refine Ar F M X0.k I6 rfl rfl (cs:=[.string (str Xe3.n),.string (str (Hl x Xe3))]) rfl rfl (by simp [Value.oneCell']) (by decide) rfl ?_;clear F M a;intro v13 w a M F;obtain ⟨av13,cv13,rfl,hlev13,hcmv13,hlv13⟩:=M.row_shape (k:=0) rfl;have E14:Els Dy 2 G [.string (str Xe3.n),.string (str (Hl x Xe3))] [Bq x Xe3]:=Els.one ⟨rfl,hn1e3,Xl ht hik (by omega) Xe3 hv1e3⟩ rfl;refine A3 F M (k:=1) (k2:=0) rfl rfl X0.k I6 rfl rfl (by decide) rfl rfl (by show _ * 32≤_;(try simp only [List.length_drop,List.length_take,List.length_append,List.length_cons,List.length_nil]);omega) (by (try simp only [List.length_drop,List.length_take,List.length_append,List.length_cons,List.length_nil]);omega) rfl ?_;clear F M a;intro v15 w a M F;have Ev15:=Els.append Ey E14;obtain ⟨av15,cv15,rfl,hlev15,hcmv15,hlv15⟩:=M.row_shape (k:=1) rfl;revert a;refine wk ?_;intro a F
  exact ⟨_,by omega,i+1,(av15),(ny+1),(cv15),(csy++([.string (str Xe3.n),.string (str (Hl x Xe3))])),rfl,F.to ⟨rfl,rfl,rfl,rfl,trivial⟩,(M.weaken (cN (cC (.cons_cons _ (sR _))))),by omega,by rw [Tr.take_snoc' hXe3,List.map_append,List.length_append,← hny];rfl,by rw [Tr.take_snoc' hXe3,List.map_append];exact Ev15⟩
 intro h16;refine wk ?_;refine Ad rfl rfl<|?_
 rw [List.take_of_length_le (by omega)] at hny Ey;obtain ⟨hnz17,Gz17,az17,cz17,hGz17,hez17,Sz17,M⟩:=M.freeze_row Df (k:=0) rfl Ey (by decide);clear hez17 az17 cz17
 exact ⟨Gz17,hGz17,M.weaken dS1,_,_,by rw [hny],by have h_:=Sz17;rw [hny] at h_;exact h_⟩
def Avc (x:ItemD) (p:PT):Prop:=∀ (w0 w:World) (G:Aq) (L:List Res) (ma tap kap:Option Addr) (mc tcp kcp:Nat),Mem w0 G L w→Au .u8 p.kind→(p.tag.length≤9223372036854775807∧p.key.length≤9223372036854775807∧p.text.length≤9223372036854775807)→Ag rdSlot 3 G (.slice tap p.as.length tcp) p.as→Ag rdP 6 G (.slice kap p.kids.length kcp) p.kids→Ag Cf 1 G (.slice ma x.marks.length mc) x.marks→(∃ n,Tr.Ok Bc n p) →
  Calls Tryz.prog 151 #[.agg #[.int .u8 p.kind,.string (str p.tag),.string (str p.key),.slice tap p.as.length tcp,.string (str p.text),.slice kap p.kids.length kcp],.agg #[.int .u64 x.key,.int .u8 x.typ,.string (str x.text),.slice ma x.marks.length mc]] w (Ret w0 G L fun G' v=>∃ a' c',v=.slice a' (E7 x p).length c'∧Ag rdN 6 G' (.slice a' (E7 x p).length c') (E7 x p))
theorem Aep {x:ItemD} (hik:Au .u64 x.key) (hio:ItemOk x) (ht:x.text.length≤9223372036854775807) {p:PT} (ih:∀ c∈p.kids,Avc x c) {w0 w:World} {G:Aq} {L:List Res} (M:Mem w0 G L w) {tap:Option Addr} {tcp:Nat} {kap:Option Addr} {kcp:Nat} (hkp:Au .u8 p.kind) (hlp:(p.tag.length≤9223372036854775807∧p.key.length≤9223372036854775807∧p.text.length≤9223372036854775807)) (SAp:Ag rdSlot 3 G (.slice tap p.as.length tcp) p.as) (SKp:Ag rdP 6 G (.slice kap p.kids.length kcp) p.kids) {ma:Option Addr} {mc:Nat} (SM:Ag Cf 1 G (.slice ma x.marks.length mc) x.marks) (hok:∃ n,Tr.Ok Bc n p) :
  Calls Tryz.prog 151 #[.agg #[.int .u8 p.kind,.string (str p.tag),.string (str p.key),.slice tap p.as.length tcp,.string (str p.text),.slice kap p.kids.length kcp],.agg #[.int .u64 x.key,.int .u8 x.typ,.string (str x.text),.slice ma x.marks.length mc]] w (Ret w0 G L fun G' v=>∃ a' c',v=.slice a' (E7 x p).length c'∧Ag rdN 6 G' (.slice a' (E7 x p).length c') (E7 x p)):=by
 refine Al (vs:=[_,_]) Tryz.func151 rfl (n:=91) rfl rfl<|?_
 refine Bt<|?_
 refine B2 M rfl rfl rfl<|?_;clear M;intro b1 w M
 refine B2 M rfl rfl rfl<|?_;clear M;intro b2 w M
 refine wk ?_;have bM:=SM.bound;have hio3:=hio.2.2.1;have hik':0≤x.key∧x.key≤18446744073709551615:=hik;obtain ⟨nk,hOk⟩:=hok;have hkl:=Ahf hOk;refine wk ?_;refine qD rfl ?_ ?_
 ·intro h3;refine wk ?_;refine Am (fun a F=>Ah (cs:=[.int .u8 2,.string (str []),.string (str []),.slice none 0 0,.string (str p.text),.slice none 0 0]) (ps:=[(0,.int .u8 2),(4,.string (str p.text))]) Aw.k rfl Aw (F.evp rfl) rfl) rfl<|fun a F=>?_
  refine Ar F M Dl.k Aw rfl rfl (cs:=[.int .u8 2,.string (str []),.string (str []),.slice none 0 0,.string (str p.text),.slice none 0 0]) rfl rfl (by simp [Value.oneCell']) (by decide) rfl ?_;clear F M a;intro v4 w a M F;obtain ⟨av4,cv4,rfl,hlev4,hcmv4,hlv4⟩:=M.row_shape (k:=0) rfl;revert a;refine wk ?_;refine Ad rfl rfl<|?_
  have E5:Els rdN 6 G [.int .u8 2,.string (str []),.string (str []),.slice none 0 0,.string (str p.text),.slice none 0 0] [(.mk 2 ([]:List UInt8) ([]:List UInt8) ([]) p.text ([]):NT)]:=Els.one (Ff (x:=(.mk 2 ([]:List UInt8) ([]:List UInt8) ([]) p.text ([]):NT)) Xu (by refine ⟨?_,?_,?_⟩ <;> first | exact Nat.zero_le _ | assumption | exact hlp.1 | exact hlp.2.1 | exact hlp.2.2 | (have h_:=Dd x.key.toNat (by omega);show (Lib.decDigits x.key.toNat).length≤_;omega)) Ag.nil Ag.nil) rfl;obtain ⟨hnz6,Gz6,az6,cz6,hGz6,hez6,Sz6,M⟩:=M.freeze_row D2 (k:=0) rfl E5 (by decide);clear hez6 az6 cz6
  exact ⟨Gz6,((Gle.refl _).trans hGz6),M.weaken dS2,_,_,by rw [Ahs (by assumption)];rfl,by rw [Ahs (by assumption)];exact Sz6⟩
 intro h7;refine wk ?_;refine qD rfl ?_ ?_
 ·intro h8;refine wk ?_;refine Am (fun a F=>Ah (cs:=[.int .u8 2,.string (str []),.string (str []),.slice none 0 0,.string (str x.text),.slice none 0 0]) (ps:=[(0,.int .u8 2),(4,.string (str x.text))]) Aw.k rfl Aw (F.evp rfl) rfl) rfl<|fun a F=>?_
  refine Ar F M Dl.k Aw rfl rfl (cs:=[.int .u8 2,.string (str []),.string (str []),.slice none 0 0,.string (str x.text),.slice none 0 0]) rfl rfl (by simp [Value.oneCell']) (by decide) rfl ?_;clear F M a;intro v9 w a M F;obtain ⟨av9,cv9,rfl,hlev9,hcmv9,hlv9⟩:=M.row_shape (k:=0) rfl;revert a;refine wk ?_;refine Ad rfl rfl<|?_
  have E10:Els rdN 6 G [.int .u8 2,.string (str []),.string (str []),.slice none 0 0,.string (str x.text),.slice none 0 0] [(.mk 2 ([]:List UInt8) ([]:List UInt8) ([]) x.text ([]):NT)]:=Els.one (Ff (x:=(.mk 2 ([]:List UInt8) ([]:List UInt8) ([]) x.text ([]):NT)) Xu (by refine ⟨?_,?_,?_⟩ <;> first | exact Nat.zero_le _ | assumption | exact hlp.1 | exact hlp.2.1 | exact hlp.2.2 | (have h_:=Dd x.key.toNat (by omega);show (Lib.decDigits x.key.toNat).length≤_;omega)) Ag.nil Ag.nil) rfl;obtain ⟨hnz11,Gz11,az11,cz11,hGz11,hez11,Sz11,M⟩:=M.freeze_row D2 (k:=0) rfl E10 (by decide);clear hez11 az11 cz11
  exact ⟨Gz11,((Gle.refl _).trans hGz11),M.weaken dS2,_,_,by rw [Ahr (by assumption)];rfl,by rw [Ahr (by assumption)];exact Sz11⟩
 intro h12;refine wk ?_;refine qD rfl ?_ ?_
 ·intro h13;refine wk ?_;have hu14:(x.key:Int)=(((x.key).toNat:Nat):Int):=by omega
  intro a F;rw [hu14] at F;revert a;refine A4 Uk rfl rfl (Nx (u:=(x.key).toNat) M (by omega))<|?_;clear M;rintro _ w M rfl
  refine Am (fun a F=>Ah (cs:=[.int .u8 2,.string (str []),.string (str []),.slice none 0 0,.string (str (Lib.decDigits ((x.key).toNat))),.slice none 0 0]) (ps:=[(0,.int .u8 2),(4,.string (str (Lib.decDigits ((x.key).toNat))))]) Aw.k rfl Aw (F.evp rfl) rfl) rfl<|fun a F=>?_
  refine Ar F M Dl.k Aw rfl rfl (cs:=[.int .u8 2,.string (str []),.string (str []),.slice none 0 0,.string (str (Lib.decDigits ((x.key).toNat))),.slice none 0 0]) rfl rfl (by simp [Value.oneCell']) (by decide) rfl ?_;clear F M a;intro v15 w a M F;obtain ⟨av15,cv15,rfl,hlev15,hcmv15,hlv15⟩:=M.row_shape (k:=0) rfl;revert a;refine wk ?_;refine Ad rfl rfl<|?_
  have E16:Els rdN 6 G [.int .u8 2,.string (str []),.string (str []),.slice none 0 0,.string (str (Lib.decDigits ((x.key).toNat))),.slice none 0 0] [(.mk 2 ([]:List UInt8) ([]:List UInt8) ([]) (Lib.decDigits ((x.key).toNat)) ([]):NT)]:=Els.one (Ff (x:=(.mk 2 ([]:List UInt8) ([]:List UInt8) ([]) (Lib.decDigits ((x.key).toNat)) ([]):NT)) Xu (by refine ⟨?_,?_,?_⟩ <;> first | exact Nat.zero_le _ | assumption | exact hlp.1 | exact hlp.2.1 | exact hlp.2.2 | (have h_:=Dd x.key.toNat (by omega);show (Lib.decDigits x.key.toNat).length≤_;omega)) Ag.nil Ag.nil) rfl;obtain ⟨hnz17,Gz17,az17,cz17,hGz17,hez17,Sz17,M⟩:=M.freeze_row D2 (k:=0) rfl E16 (by decide);clear hez17 az17 cz17
  exact ⟨Gz17,((Gle.refl _).trans hGz17),M.weaken dS2,_,_,by rw [Ahq (by assumption)];rfl,by rw [Ahq (by assumption)];exact Sz17⟩
 intro h18;refine wk ?_;refine qD rfl ?_ ?_
 ·intro h19;refine wk ?_;have M:=M.nilrow 193 6;intro a F;refine Ba (fun m a' w'=>∃ (j:Nat),∃ (az:Option Addr),∃ (nz:Nat),∃ (cz:Nat),∃ (csz:List Value),m=x.marks.length - j∧∃ G20,Gle G G20∧Fits 91 a' [(2,.pointer (some ⟨b1,0,none⟩)),(3,.pointer (some ⟨b2,0,none⟩)),(5,.slice az nz cz),(6,.int .i64 ((j:Nat):Int))]∧Mem w0 G20 (.row (.slice az nz cz) (nz) (csz) 193 6::.blk b2 [.int .u64 x.key,.int .u8 x.typ,.string (str x.text),.slice ma x.marks.length mc] 26::.blk b1 [.int .u8 p.kind,.string (str p.tag),.string (str p.key),.slice tap p.as.length tcp,.string (str p.text),.slice kap p.kids.length kcp] 79::L) w'∧(j≤x.marks.length)∧(nz=((x.marks.take j).map (Xa x p.tag p.as)).length)∧(Els rdN 6 G20 csz ((x.marks.take j).map (Xa x p.tag p.as)))) _ ⟨0,(none),(0),(0),([]),rfl,G,Gle.refl _,F.to ⟨rfl,rfl,rfl,rfl,trivial⟩,M,Nat.zero_le _,rfl,Els.nil⟩ ?_;clear F M;rintro m a w ⟨j,az,nz,cz,csz,rfl,G20,hG20,F,M,hj,hnz,Ez⟩;replace SAp:=SAp.mono mono_rdSlot hG20;replace SKp:=SKp.mono mono_rdP hG20;replace SM:=SM.mono Ay hG20;revert a;refine wk ?_;refine qD rfl ?_ ?_
  ·intro h21;refine wk ?_;have hnz2:nz≤8:=by rw [hnz,List.length_map,List.length_take];omega
   intro a F;refine Ic (.run 0 (.run 1 (.run 2 (.run 3 (.run 4 (.run 5 (.run 6 (.run 7 (.run 8 (.run 9 (.run 10 (.run 12 (.run 13 (.run 14 (.run 15 (.run 16 (.run 17 (.act 11 (.act 18 (.run 19 (.act 20 (.act 21 (.run 22 .fin) .no) .no)) .no) (.act 18 (.act 11 (.run 19 (.act 20 (.act 21 (.run 22 .fin) .no) .no)) .no) .no))))))))))))))))))) (Keep G20 [.blk b2 [.int .u64 x.key,.int .u8 x.typ,.string (str x.text),.slice ma x.marks.length mc] 26,.blk b1 [.int .u8 p.kind,.string (str p.tag),.string (str p.key),.slice tap p.as.length tcp,.string (str p.text),.slice kap p.kids.length kcp] 79]) rfl (by kernel_rfl) (fun c a d v w h=>by cases d <;> exact h) (Ax (M.drew _)) ?_;replace M:=M.drew (w.drawn+1);revert a;refine wk ?_;obtain ⟨Xe22,hXe22⟩:=Ap (xs:=x.marks) (i:=j) (by omega);obtain ⟨be22,oe22,_,Ie22,_,Ae22,⟨rfl,hsle22⟩⟩:=SM.at hXe22;refine wk ?_;obtain ⟨be23,oe23,_,Ie23,_,Ae23,⟨rfl,hsle23⟩⟩:=SM.at hXe22;refine wk ?_;refine t_r (fun a F w M=>Ah (cs:=[.int .u8 2,.string (str []),.string (str []),.slice none 0 0,.string (str Xe22),.slice none 0 0]) (ps:=[(0,.int .u8 2),(4,.string (str Xe22))]) Aw.k rfl Aw (F.evp rfl) rfl) rfl<|fun a F=>A2 ?_ rfl ?_
   ·skip
    revert a;refine D4 Zj rfl rfl (Jw (x:=x) (xs:=p.as) M ht SM hik SAp (Iz hOk (by omega)).1)<|?_;clear M;rintro _ Gt24 w hGt24 M ⟨at24,ct24,rfl,St24⟩
    replace SAp:=SAp.mono mono_rdSlot hGt24;replace SKp:=SKp.mono mono_rdP hGt24;replace SM:=SM.mono Ay hGt24;replace Ez:=Ez.mono D2 hGt24;replace Ae22:=Ae22.mono hGt24;replace Ae23:=Ae23.mono hGt24;refine Ao<|?_
    refine eK (C':=Keep Gt24 [.blk b2 [.int .u64 x.key,.int .u8 x.typ,.string (str x.text),.slice ma x.marks.length mc] 26,.blk b1 [.int .u8 p.kind,.string (str p.tag),.string (str p.key),.slice tap p.as.length tcp,.string (str p.text),.slice kap p.kids.length kcp] 79]) (Ax M) (fun w h=>h.mono hGt24 (by simp))<|fun a F=>A2 ?_ rfl Bl
    refine Ar F M Dl.k Aw rfl rfl (cs:=[.int .u8 2,.string (str []),.string (str []),.slice none 0 0,.string (str Xe22),.slice none 0 0]) rfl rfl (by simp [Value.oneCell']) (by decide) rfl ?_;clear F M a;intro v25 w a M F;obtain ⟨av25,cv25,rfl,hlev25,hcmv25,hlv25⟩:=M.row_shape (k:=0) rfl;revert a;refine Ao<|?_
    refine eK (C':=Keep Gt24 [.blk b2 [.int .u64 x.key,.int .u8 x.typ,.string (str x.text),.slice ma x.marks.length mc] 26,.blk b1 [.int .u8 p.kind,.string (str p.tag),.string (str p.key),.slice tap p.as.length tcp,.string (str p.text),.slice kap p.kids.length kcp] 79]) (Ax M) (fun w h=>h.mono (Gle.refl _) (by simp))<|?_
    have E26:Els rdN 6 Gt24 [.int .u8 2,.string (str []),.string (str []),.slice none 0 0,.string (str Xe22),.slice none 0 0] [(.mk 2 ([]:List UInt8) ([]:List UInt8) ([]) Xe22 ([]):NT)]:=Els.one (Ff (x:=(.mk 2 ([]:List UInt8) ([]:List UInt8) ([]) Xe22 ([]):NT)) Xu (by refine ⟨?_,?_,?_⟩ <;> first | exact Nat.zero_le _ | assumption | exact hlp.1 | exact hlp.2.1 | exact hlp.2.2 | (have h_:=Dd x.key.toNat (by omega);show (Lib.decDigits x.key.toNat).length≤_;omega)) Ag.nil Ag.nil) rfl;obtain ⟨hnz27,Gz27,az27,cz27,hGz27,hez27,Sz27,M⟩:=M.freeze_row D2 (k:=0) rfl E26 (by decide);clear hez27 az27 cz27;replace SAp:=SAp.mono mono_rdSlot hGz27;replace SKp:=SKp.mono mono_rdP hGz27;replace SM:=SM.mono Ay hGz27;replace Ez:=Ez.mono D2 hGz27;replace Ae22:=Ae22.mono hGz27;replace Ae23:=Ae23.mono hGz27;replace St24:=St24.mono Df hGz27;clear hnz27;replace Sz27:Ag rdN 6 Gz27 (.slice av25 ([(.mk 2 ([]:List UInt8) ([]:List UInt8) ([]) Xe22 ([]):NT)]).length (cv25)) ([(.mk 2 ([]:List UInt8) ([]:List UInt8) ([]) Xe22 ([]):NT)]):=Sz27;refine t_r (fun a F w M=>Ah (cs:=[.int .u8 1,.string (str p.tag),.string (str Xe22),.slice at24 ((p.as.map (Bq x)).length) (ct24),.string (str []),.slice av25 (([(.mk 2 ([]:List UInt8) ([]:List UInt8) ([]) Xe22 ([]):NT)]).length) (cv25)]) (ps:=[(0,.int .u8 1),(1,.string (str p.tag)),(2,.string (str Xe22)),(3,.slice at24 ((p.as.map (Bq x)).length) (ct24)),(5,.slice av25 (([(.mk 2 ([]:List UInt8) ([]:List UInt8) ([]) Xe22 ([]):NT)]).length) (cv25))]) Aw.k rfl Aw (F.evp rfl) rfl) rfl<|fun a F=>A2 ?_ rfl Bl
    refine Ar F M Dl.k Aw rfl rfl (cs:=[.int .u8 1,.string (str p.tag),.string (str Xe22),.slice at24 ((p.as.map (Bq x)).length) (ct24),.string (str []),.slice av25 (([(.mk 2 ([]:List UInt8) ([]:List UInt8) ([]) Xe22 ([]):NT)]).length) (cv25)]) rfl rfl (by simp [Value.oneCell']) (by decide) rfl ?_;clear F M a;intro v28 w a M F;obtain ⟨av28,cv28,rfl,hlev28,hcmv28,hlv28⟩:=M.row_shape (k:=0) rfl;revert a;refine Ao<|?_
    refine eK (C':=Keep Gz27 [.blk b2 [.int .u64 x.key,.int .u8 x.typ,.string (str x.text),.slice ma x.marks.length mc] 26,.blk b1 [.int .u8 p.kind,.string (str p.tag),.string (str p.key),.slice tap p.as.length tcp,.string (str p.text),.slice kap p.kids.length kcp] 79]) (Ax M) (fun w h=>h.mono hGz27 (by simp))<|?_
    have E29:Els rdN 6 Gz27 [.int .u8 1,.string (str p.tag),.string (str Xe22),.slice at24 ((p.as.map (Bq x)).length) (ct24),.string (str []),.slice av25 (([(.mk 2 ([]:List UInt8) ([]:List UInt8) ([]) Xe22 ([]):NT)]).length) (cv25)] [(.mk 1 p.tag Xe22 (p.as.map (Bq x)) ([]:List UInt8) ([(.mk 2 ([]:List UInt8) ([]:List UInt8) ([]) Xe22 ([]):NT)]):NT)]:=Els.one (Ff (x:=(.mk 1 p.tag Xe22 (p.as.map (Bq x)) ([]:List UInt8) ([(.mk 2 ([]:List UInt8) ([]:List UInt8) ([]) Xe22 ([]):NT)]):NT)) Aje (by refine ⟨?_,?_,?_⟩ <;> first | exact Nat.zero_le _ | assumption | exact hlp.1 | exact hlp.2.1 | exact hlp.2.2 | (have h_:=Dd x.key.toNat (by omega);show (Lib.decDigits x.key.toNat).length≤_;omega)) St24 Sz27) rfl;intro a F;refine A2 ?_ rfl Bl;refine A3 F M (k:=1) (k2:=0) rfl rfl Dl.k Aw rfl rfl (by decide) rfl rfl (by show _ * 104≤_;(try simp only [List.length_drop,List.length_take,List.length_append,List.length_cons,List.length_nil]);omega) (by (try simp only [List.length_drop,List.length_take,List.length_append,List.length_cons,List.length_nil]);omega) rfl ?_;clear F M a;intro v30 w a M F;have Ev30:=Els.append Ez E29;obtain ⟨av30,cv30,rfl,hlev30,hcmv30,hlv30⟩:=M.row_shape (k:=1) rfl;revert a;refine Ao<|?_
    refine eK (C':=Keep Gz27 [.blk b2 [.int .u64 x.key,.int .u8 x.typ,.string (str x.text),.slice ma x.marks.length mc] 26,.blk b1 [.int .u8 p.kind,.string (str p.tag),.string (str p.key),.slice tap p.as.length tcp,.string (str p.text),.slice kap p.kids.length kcp] 79]) (Ax M) (fun w h=>h.mono (Gle.refl _) (by simp))<|?_
    refine wk ?_;intro a F
    exact ⟨_,by omega,j+1,(av30),(nz+1),(cv30),(csz++([.int .u8 1,.string (str p.tag),.string (str Xe22),.slice at24 ((p.as.map (Bq x)).length) (ct24),.string (str []),.slice av25 (([(.mk 2 ([]:List UInt8) ([]:List UInt8) ([]) Xe22 ([]):NT)]).length) (cv25)])),rfl,Gz27,((hG20.trans hGt24).trans hGz27),F.to ⟨rfl,rfl,rfl,rfl,trivial⟩,(M.weaken (cN (cC (.cons_cons _ (cC (sR _)))))),by omega,by rw [I2 hXe22,List.length_append,← hnz];rfl,by rw [I2 hXe22];exact Ev30⟩
   refine A2 ?_ rfl ?_
   ·skip
    refine Ar F M Dl.k Aw rfl rfl (cs:=[.int .u8 2,.string (str []),.string (str []),.slice none 0 0,.string (str Xe22),.slice none 0 0]) rfl rfl (by simp [Value.oneCell']) (by decide) rfl ?_;clear F M a;intro v31 w a M F;obtain ⟨av31,cv31,rfl,hlev31,hcmv31,hlv31⟩:=M.row_shape (k:=0) rfl;revert a;refine Ao<|?_
    refine eK (C':=Keep G20 [.blk b2 [.int .u64 x.key,.int .u8 x.typ,.string (str x.text),.slice ma x.marks.length mc] 26,.blk b1 [.int .u8 p.kind,.string (str p.tag),.string (str p.key),.slice tap p.as.length tcp,.string (str p.text),.slice kap p.kids.length kcp] 79]) (Ax M) (fun w h=>h.mono (Gle.refl _) (by simp))<|fun a F=>A2 ?_ rfl Bl
    revert a;refine D4 Zj rfl rfl (Jw (x:=x) (xs:=p.as) M ht SM hik SAp (Iz hOk (by omega)).1)<|?_;clear M;rintro _ Gt32 w hGt32 M ⟨at32,ct32,rfl,St32⟩
    replace SAp:=SAp.mono mono_rdSlot hGt32;replace SKp:=SKp.mono mono_rdP hGt32;replace SM:=SM.mono Ay hGt32;replace Ez:=Ez.mono D2 hGt32;replace Ae22:=Ae22.mono hGt32;replace Ae23:=Ae23.mono hGt32;refine Ao<|?_
    refine eK (C':=Keep Gt32 [.blk b2 [.int .u64 x.key,.int .u8 x.typ,.string (str x.text),.slice ma x.marks.length mc] 26,.blk b1 [.int .u8 p.kind,.string (str p.tag),.string (str p.key),.slice tap p.as.length tcp,.string (str p.text),.slice kap p.kids.length kcp] 79]) (Ax M) (fun w h=>h.mono hGt32 (by simp))<|?_
    have E33:Els rdN 6 Gt32 [.int .u8 2,.string (str []),.string (str []),.slice none 0 0,.string (str Xe22),.slice none 0 0] [(.mk 2 ([]:List UInt8) ([]:List UInt8) ([]) Xe22 ([]):NT)]:=Els.one (Ff (x:=(.mk 2 ([]:List UInt8) ([]:List UInt8) ([]) Xe22 ([]):NT)) Xu (by refine ⟨?_,?_,?_⟩ <;> first | exact Nat.zero_le _ | assumption | exact hlp.1 | exact hlp.2.1 | exact hlp.2.2 | (have h_:=Dd x.key.toNat (by omega);show (Lib.decDigits x.key.toNat).length≤_;omega)) Ag.nil Ag.nil) rfl;obtain ⟨hnz34,Gz34,az34,cz34,hGz34,hez34,Sz34,M⟩:=M.freeze_row D2 (k:=0) rfl E33 (by decide);clear hez34 az34 cz34;replace SAp:=SAp.mono mono_rdSlot hGz34;replace SKp:=SKp.mono mono_rdP hGz34;replace SM:=SM.mono Ay hGz34;replace Ez:=Ez.mono D2 hGz34;replace Ae22:=Ae22.mono hGz34;replace Ae23:=Ae23.mono hGz34;replace St32:=St32.mono Df hGz34;clear hnz34;replace Sz34:Ag rdN 6 Gz34 (.slice av31 ([(.mk 2 ([]:List UInt8) ([]:List UInt8) ([]) Xe22 ([]):NT)]).length (cv31)) ([(.mk 2 ([]:List UInt8) ([]:List UInt8) ([]) Xe22 ([]):NT)]):=Sz34;refine t_r (fun a F w M=>Ah (cs:=[.int .u8 1,.string (str p.tag),.string (str Xe22),.slice at32 ((p.as.map (Bq x)).length) (ct32),.string (str []),.slice av31 (([(.mk 2 ([]:List UInt8) ([]:List UInt8) ([]) Xe22 ([]):NT)]).length) (cv31)]) (ps:=[(0,.int .u8 1),(1,.string (str p.tag)),(2,.string (str Xe22)),(3,.slice at32 ((p.as.map (Bq x)).length) (ct32)),(5,.slice av31 (([(.mk 2 ([]:List UInt8) ([]:List UInt8) ([]) Xe22 ([]):NT)]).length) (cv31))]) Aw.k rfl Aw (F.evp rfl) rfl) rfl<|fun a F=>A2 ?_ rfl Bl
    refine Ar F M Dl.k Aw rfl rfl (cs:=[.int .u8 1,.string (str p.tag),.string (str Xe22),.slice at32 ((p.as.map (Bq x)).length) (ct32),.string (str []),.slice av31 (([(.mk 2 ([]:List UInt8) ([]:List UInt8) ([]) Xe22 ([]):NT)]).length) (cv31)]) rfl rfl (by simp [Value.oneCell']) (by decide) rfl ?_;clear F M a;intro v35 w a M F;obtain ⟨av35,cv35,rfl,hlev35,hcmv35,hlv35⟩:=M.row_shape (k:=0) rfl;revert a;refine Ao<|?_
    refine eK (C':=Keep Gz34 [.blk b2 [.int .u64 x.key,.int .u8 x.typ,.string (str x.text),.slice ma x.marks.length mc] 26,.blk b1 [.int .u8 p.kind,.string (str p.tag),.string (str p.key),.slice tap p.as.length tcp,.string (str p.text),.slice kap p.kids.length kcp] 79]) (Ax M) (fun w h=>h.mono hGz34 (by simp))<|?_
    have E36:Els rdN 6 Gz34 [.int .u8 1,.string (str p.tag),.string (str Xe22),.slice at32 ((p.as.map (Bq x)).length) (ct32),.string (str []),.slice av31 (([(.mk 2 ([]:List UInt8) ([]:List UInt8) ([]) Xe22 ([]):NT)]).length) (cv31)] [(.mk 1 p.tag Xe22 (p.as.map (Bq x)) ([]:List UInt8) ([(.mk 2 ([]:List UInt8) ([]:List UInt8) ([]) Xe22 ([]):NT)]):NT)]:=Els.one (Ff (x:=(.mk 1 p.tag Xe22 (p.as.map (Bq x)) ([]:List UInt8) ([(.mk 2 ([]:List UInt8) ([]:List UInt8) ([]) Xe22 ([]):NT)]):NT)) Aje (by refine ⟨?_,?_,?_⟩ <;> first | exact Nat.zero_le _ | assumption | exact hlp.1 | exact hlp.2.1 | exact hlp.2.2 | (have h_:=Dd x.key.toNat (by omega);show (Lib.decDigits x.key.toNat).length≤_;omega)) St32 Sz34) rfl;intro a F;refine A2 ?_ rfl Bl;refine A3 F M (k:=1) (k2:=0) rfl rfl Dl.k Aw rfl rfl (by decide) rfl rfl (by show _ * 104≤_;(try simp only [List.length_drop,List.length_take,List.length_append,List.length_cons,List.length_nil]);omega) (by (try simp only [List.length_drop,List.length_take,List.length_append,List.length_cons,List.length_nil]);omega) rfl ?_;clear F M a;intro v37 w a M F;have Ev37:=Els.append Ez E36;obtain ⟨av37,cv37,rfl,hlev37,hcmv37,hlv37⟩:=M.row_shape (k:=1) rfl;revert a;refine Ao<|?_
    refine eK (C':=Keep Gz34 [.blk b2 [.int .u64 x.key,.int .u8 x.typ,.string (str x.text),.slice ma x.marks.length mc] 26,.blk b1 [.int .u8 p.kind,.string (str p.tag),.string (str p.key),.slice tap p.as.length tcp,.string (str p.text),.slice kap p.kids.length kcp] 79]) (Ax M) (fun w h=>h.mono (Gle.refl _) (by simp))<|?_
    refine wk ?_;intro a F
    exact ⟨_,by omega,j+1,(av37),(nz+1),(cv37),(csz++([.int .u8 1,.string (str p.tag),.string (str Xe22),.slice at32 ((p.as.map (Bq x)).length) (ct32),.string (str []),.slice av31 (([(.mk 2 ([]:List UInt8) ([]:List UInt8) ([]) Xe22 ([]):NT)]).length) (cv31)])),rfl,Gz34,((hG20.trans hGt32).trans hGz34),F.to ⟨rfl,rfl,rfl,rfl,trivial⟩,(M.weaken (cN (cC (.cons_cons _ (cC (sR _)))))),by omega,by rw [I2 hXe22,List.length_append,← hnz];rfl,by rw [I2 hXe22];exact Ev37⟩
   exact Bl
  intro h38;refine wk ?_;refine Ad rfl rfl<|?_
  rw [List.take_of_length_le (by omega)] at hnz Ez;obtain ⟨hnz39,Gz39,az39,cz39,hGz39,hez39,Sz39,M⟩:=M.freeze_row D2 (k:=0) rfl Ez (by decide);clear hez39 az39 cz39
  exact ⟨Gz39,(hG20.trans hGz39),M.weaken dS2,_,_,by rw [Ahp (by assumption),hnz],by rw [Ahp (by assumption)];have h_:=Sz39;rw [hnz] at h_;exact h_⟩
 intro h40;refine wk ?_;have hk1p:=Apb hOk (by assumption) (by assumption) (by assumption) (by assumption);intro a F;refine Ic (.run 0 (.run 1 (.run 2 (.run 3 (.run 4 (.run 5 (.run 6 (.act 7 (.run 8 (.act 9 (.act 10 .fin .no) .no)) (.act 9 (.act 7 (.run 8 (.act 10 .fin .no)) .no) .no))))))))) (Keep G [.blk b2 [.int .u64 x.key,.int .u8 x.typ,.string (str x.text),.slice ma x.marks.length mc] 26,.blk b1 [.int .u8 p.kind,.string (str p.tag),.string (str p.key),.slice tap p.as.length tcp,.string (str p.text),.slice kap p.kids.length kcp] 79]) rfl (by kernel_rfl) (fun c a d v w h=>by cases d <;> exact h) (Ax (M.drew _)) ?_;replace M:=M.drew (w.drawn+1);revert a;refine wk ?_;refine fun a F=>A2 ?_ rfl ?_
 ·skip
  revert a;refine D4 Zj rfl rfl (Jw (x:=x) (xs:=p.as) M ht SM hik SAp (Iz hOk (by omega)).1)<|?_;clear M;rintro _ Gt41 w hGt41 M ⟨at41,ct41,rfl,St41⟩
  replace SAp:=SAp.mono mono_rdSlot hGt41;replace SKp:=SKp.mono mono_rdP hGt41;replace SM:=SM.mono Ay hGt41;refine Ao<|?_
  refine eK (C':=Keep Gt41 [.blk b2 [.int .u64 x.key,.int .u8 x.typ,.string (str x.text),.slice ma x.marks.length mc] 26,.blk b1 [.int .u8 p.kind,.string (str p.tag),.string (str p.key),.slice tap p.as.length tcp,.string (str p.text),.slice kap p.kids.length kcp] 79]) (Ax M) (fun w h=>h.mono hGt41 (by simp))<|t_r (fun a F w M=>Ah (cs:=[.int .u8 1,.string (str p.tag),.string (str p.key),.slice at41 ((p.as.map (Bq x)).length) (ct41),.string (str []),.slice none 0 0]) (ps:=[(0,.int .u8 1),(1,.string (str p.tag)),(2,.string (str p.key)),(3,.slice at41 ((p.as.map (Bq x)).length) (ct41))]) Aw.k rfl Aw (F.evp rfl) rfl) rfl<|fun a F=>A2 ?_ rfl Bl
  revert a;refine B1 M Aw rfl rfl<|?_;clear M;intro b42 w M
  refine Ao<|?_
  refine eK (C':=Keep Gt41 [.blk b2 [.int .u64 x.key,.int .u8 x.typ,.string (str x.text),.slice ma x.marks.length mc] 26,.blk b1 [.int .u8 p.kind,.string (str p.tag),.string (str p.key),.slice tap p.as.length tcp,.string (str p.text),.slice kap p.kids.length kcp] 79]) (Ax M) (fun w h=>h.mono (Gle.refl _) (by simp))<|fun a F=>A2 ?_ rfl Bl
  refine Be F M Aw 0 ?_;clear F M a;intro w a M F;replace M:=z_M M;revert a;refine Ao<|?_
  refine eQ (Ax M)<|?_
  refine wk ?_;have M:=M.nilrow 193 6;intro a F;refine Ba (fun m a' w'=>∃ (i:Nat),∃ (ay:Option Addr),∃ (ny:Nat),∃ (cy:Nat),∃ (csy:List Value),m=p.kids.length - i∧∃ G44,Gle Gt41 G44∧Fits 91 a' [(2,.pointer (some ⟨b1,0,none⟩)),(3,.pointer (some ⟨b2,0,none⟩)),(7,.pointer (some ⟨b42,0,none⟩)),(8,.int .i64 ((i:Nat):Int))]∧Mem w0 G44 (.row (.slice ay ny cy) (ny) (csy) 193 6::.blk b42 [.int .u8 1,.string (str p.tag),.string (str p.key),.slice at41 ((p.as.map (Bq x)).length) (ct41),.string (str []),.slice ay ny cy] 193::.blk b2 [.int .u64 x.key,.int .u8 x.typ,.string (str x.text),.slice ma x.marks.length mc] 26::.blk b1 [.int .u8 p.kind,.string (str p.tag),.string (str p.key),.slice tap p.as.length tcp,.string (str p.text),.slice kap p.kids.length kcp] 79::L) w'∧(i≤p.kids.length)∧(ny=(madesF x (p.kids.take i)).length)∧(Els rdN 6 G44 csy (madesF x (p.kids.take i)))) _ ⟨0,(none),(0),(0),([]),rfl,Gt41,Gle.refl _,F.to ⟨rfl,rfl,rfl,rfl,trivial⟩,M,Nat.zero_le _,rfl,Els.nil⟩ ?_;clear F M;rintro m a w ⟨i,ay,ny,cy,csy,rfl,G44,hG44,F,M,hi,hny,Ey⟩;replace SAp:=SAp.mono mono_rdSlot hG44;replace SKp:=SKp.mono mono_rdP hG44;replace SM:=SM.mono Ay hG44;replace St41:=St41.mono Df hG44;revert a;refine wk ?_;refine qD rfl ?_ ?_
  ·intro h45;refine wk ?_;have hml:=Mr hio3 (p.kids.take i);intro a F;rw [List.length_take] at hml;refine Og [(.free,0),(.pure,1),(.free,2),(.pure,3),(.free,4),(.free,5),(.pure,6),(.pure,7),(.keep,8),(.keep,9),(.free,10),(.chg,11)] [11] (Keep G44 [.blk b42 [.int .u8 1,.string (str p.tag),.string (str p.key),.slice at41 ((p.as.map (Bq x)).length) (ct41),.string (str []),.slice ay ny cy] 193,.blk b2 [.int .u64 x.key,.int .u8 x.typ,.string (str x.text),.slice ma x.marks.length mc] 26,.blk b1 [.int .u8 p.kind,.string (str p.tag),.string (str p.key),.slice tap p.as.length tcp,.string (str p.text),.slice kap p.kids.length kcp] 79]) rfl (by kernel_rfl) (fun c a d v w h=>by cases d <;> exact h) (Ax (M.drew _)) ?_;replace M:=M.drew (w.drawn+1);revert a;refine wk ?_;obtain ⟨Xe46,hXe46⟩:=Ap (xs:=p.kids) (i:=i) (by omega);obtain ⟨be46,oe46,_,Ie46,_,Ae46,hTe46⟩:=SKp.at hXe46;obtain ⟨tae46,tce46,kae46,kce46,rfl,hke46,hle46,SAe46,SKe46⟩:=Dn hTe46;refine wk ?_;have hm8:=T2 hio3 Xe46;refine k_k rfl<|D4 Afx rfl rfl (ih Xe46 (List.mem_of_getElem? hXe46) _ _ _ _ _ _ _ _ _ _ M hke46 hle46 SAe46 SKe46 SM (Tu hOk _ (List.mem_of_getElem? hXe46)))<|?_;clear M;rintro _ Gk47 w hGk47 M ⟨ak47,ck47,rfl,Sk47⟩
   replace SAp:=SAp.mono mono_rdSlot hGk47;replace SKp:=SKp.mono mono_rdP hGk47;replace SM:=SM.mono Ay hGk47;replace St41:=St41.mono Df hGk47;replace Ey:=Ey.mono D2 hGk47;replace Ae46:=Ae46.mono hGk47;replace SAe46:=SAe46.mono mono_rdSlot hGk47;replace SKe46:=SKe46.mono mono_rdP hGk47;refine Ao<|?_
   refine eK (C':=Keep Gk47 [.blk b42 [.int .u8 1,.string (str p.tag),.string (str p.key),.slice at41 ((p.as.map (Bq x)).length) (ct41),.string (str []),.slice ay ny cy] 193,.blk b2 [.int .u64 x.key,.int .u8 x.typ,.string (str x.text),.slice ma x.marks.length mc] 26,.blk b1 [.int .u8 p.kind,.string (str p.tag),.string (str p.key),.slice tap p.as.length tcp,.string (str p.text),.slice kap p.kids.length kcp] 79]) (Ax M) (fun w h=>h.mono hGk47 (by simp))<|k_k rfl<|fun a F=>?_
   refine Iy F M (k:=0) rfl Dl.k Aw rfl rfl (by decide) rfl Sk47 rfl (by show _ * 104≤_;(try simp only [List.length_drop,List.length_take,List.length_append,List.length_cons,List.length_nil]);omega) (by (try simp only [List.length_drop,List.length_take,List.length_append,List.length_cons,List.length_nil]);omega) rfl ?_;clear F M a;intro v48 csv48 w a M Ev48 F;have Ev48:=Els.append Ey Ev48;obtain ⟨av48,cv48,rfl,hlev48,hcmv48,hlv48⟩:=M.row_shape (k:=0) rfl;revert a;refine Ao<|?_
   refine eK (C':=Keep Gk47 [.blk b42 [.int .u8 1,.string (str p.tag),.string (str p.key),.slice at41 ((p.as.map (Bq x)).length) (ct41),.string (str []),.slice ay ny cy] 193,.blk b2 [.int .u64 x.key,.int .u8 x.typ,.string (str x.text),.slice ma x.marks.length mc] 26,.blk b1 [.int .u8 p.kind,.string (str p.tag),.string (str p.key),.slice tap p.as.length tcp,.string (str p.text),.slice kap p.kids.length kcp] 79]) (Ax M) (fun w h=>h.mono (Gle.refl _) (by simp))<|?_
   refine wk ?_;refine k_c rfl<|Dv Dl M 1 rfl rfl rfl rfl rfl rfl<|?_;clear M;intro w M
   refine Ao<|?_
   refine fun a F=>⟨Keep Gk47 [.row (.slice av48 (ny+(E7 x Xe46).length) (cv48)) (ny+(E7 x Xe46).length) (csy++csv48) 193 6,.blk b42 [.int .u8 1,.string (str p.tag),.string (str p.key),.slice at41 ((p.as.map (Bq x)).length) (ct41),.string (str []),.slice av48 (ny+(E7 x Xe46).length) (cv48)] 193,.blk b2 [.int .u64 x.key,.int .u8 x.typ,.string (str x.text),.slice ma x.marks.length mc] 26,.blk b1 [.int .u8 p.kind,.string (str p.tag),.string (str p.key),.slice tap p.as.length tcp,.string (str p.text),.slice kap p.kids.length kcp] 79],M.keep (Gle.refl _) (by simp),?_⟩;revert a;refine wk ?_;intro a F
   exact ⟨_,by omega,i+1,(av48),(ny+(E7 x Xe46).length),(cv48),(csy++csv48),rfl,Gk47,(hG44.trans hGk47),F.to ⟨rfl,rfl,rfl,rfl,trivial⟩,M,by omega,by rw [C7 hXe46,List.length_append,← hny],by rw [C7 hXe46];exact Ev48⟩
  intro h49;refine wk ?_;intro a F;rw [List.take_of_length_le (by omega)] at hny Ey;subst hny;obtain ⟨hnz50,Gz50,az50,cz50,hGz50,hez50,Sz50,M⟩:=M.freeze_row D2 (k:=0) rfl Ey (by decide);clear hez50 az50 cz50;replace SAp:=SAp.mono mono_rdSlot hGz50;replace SKp:=SKp.mono mono_rdP hGz50;replace SM:=SM.mono Ay hGz50;replace St41:=St41.mono Df hGz50;clear hnz50;revert a;refine wk ?_;intro a F;refine Ar F M Dl.k Aw rfl rfl (cs:=[.int .u8 1,.string (str p.tag),.string (str p.key),.slice at41 ((p.as.map (Bq x)).length) (ct41),.string (str []),.slice ay ((madesF x p.kids).length) (cy)]) rfl rfl (by simp [Value.oneCell']) (by decide) rfl ?_;clear F M a;intro v51 w a M F;obtain ⟨av51,cv51,rfl,hlev51,hcmv51,hlv51⟩:=M.row_shape (k:=0) rfl;revert a;refine wk ?_;refine Ad rfl rfl<|?_
  have E52:Els rdN 6 Gz50 [.int .u8 1,.string (str p.tag),.string (str p.key),.slice at41 ((p.as.map (Bq x)).length) (ct41),.string (str []),.slice ay ((madesF x p.kids).length) (cy)] [(.mk 1 p.tag p.key (p.as.map (Bq x)) ([]:List UInt8) (madesF x p.kids):NT)]:=Els.one (Ff (x:=(.mk 1 p.tag p.key (p.as.map (Bq x)) ([]:List UInt8) (madesF x p.kids):NT)) Aje (by refine ⟨?_,?_,?_⟩ <;> first | exact Nat.zero_le _ | assumption | exact hlp.1 | exact hlp.2.1 | exact hlp.2.2 | (have h_:=Dd x.key.toNat (by omega);show (Lib.decDigits x.key.toNat).length≤_;omega)) St41 Sz50) rfl;obtain ⟨hnz53,Gz53,az53,cz53,hGz53,hez53,Sz53,M⟩:=M.freeze_row D2 (k:=0) rfl E52 (by decide);clear hez53 az53 cz53
  exact ⟨Gz53,(((hGt41.trans hG44).trans hGz50).trans hGz53),M.weaken dS3,_,_,by rw [Rg hk1p];rfl,by rw [Rg hk1p];exact Sz53⟩
 refine A2 ?_ rfl ?_
 ·skip
  revert a;refine B1 M Aw rfl rfl<|?_;clear M;intro b54 w M
  refine Ao<|?_
  refine eK (C':=Keep G [.blk b2 [.int .u64 x.key,.int .u8 x.typ,.string (str x.text),.slice ma x.marks.length mc] 26,.blk b1 [.int .u8 p.kind,.string (str p.tag),.string (str p.key),.slice tap p.as.length tcp,.string (str p.text),.slice kap p.kids.length kcp] 79]) (Ax M) (fun w h=>h.mono (Gle.refl _) (by simp))<|fun a F=>A2 ?_ rfl Bl
  revert a;refine D4 Zj rfl rfl (Jw (x:=x) (xs:=p.as) M ht SM hik SAp (Iz hOk (by omega)).1)<|?_;clear M;rintro _ Gt56 w hGt56 M ⟨at56,ct56,rfl,St56⟩
  replace SAp:=SAp.mono mono_rdSlot hGt56;replace SKp:=SKp.mono mono_rdP hGt56;replace SM:=SM.mono Ay hGt56;refine Ao<|?_
  refine eK (C':=Keep Gt56 [.blk b2 [.int .u64 x.key,.int .u8 x.typ,.string (str x.text),.slice ma x.marks.length mc] 26,.blk b1 [.int .u8 p.kind,.string (str p.tag),.string (str p.key),.slice tap p.as.length tcp,.string (str p.text),.slice kap p.kids.length kcp] 79]) (Ax M) (fun w h=>h.mono hGt56 (by simp))<|t_r (fun a F w M=>Ah (cs:=[.int .u8 1,.string (str p.tag),.string (str p.key),.slice at56 ((p.as.map (Bq x)).length) (ct56),.string (str []),.slice none 0 0]) (ps:=[(0,.int .u8 1),(1,.string (str p.tag)),(2,.string (str p.key)),(3,.slice at56 ((p.as.map (Bq x)).length) (ct56))]) Aw.k rfl Aw (F.evp rfl) rfl) rfl<|fun a F=>A2 ?_ rfl Bl
  refine Be F M Aw 0 ?_;clear F M a;intro w a M F;replace M:=z_M M;revert a;refine Ao<|?_
  refine eK (C':=Keep Gt56 [.blk b2 [.int .u64 x.key,.int .u8 x.typ,.string (str x.text),.slice ma x.marks.length mc] 26,.blk b1 [.int .u8 p.kind,.string (str p.tag),.string (str p.key),.slice tap p.as.length tcp,.string (str p.text),.slice kap p.kids.length kcp] 79]) (Ax M) (fun w h=>h.mono (Gle.refl _) (by simp))<|?_
  refine wk ?_;have M:=M.nilrow 193 6;intro a F;refine Ba (fun m a' w'=>∃ (i:Nat),∃ (ay:Option Addr),∃ (ny:Nat),∃ (cy:Nat),∃ (csy:List Value),m=p.kids.length - i∧∃ G57,Gle Gt56 G57∧Fits 91 a' [(2,.pointer (some ⟨b1,0,none⟩)),(3,.pointer (some ⟨b2,0,none⟩)),(7,.pointer (some ⟨b54,0,none⟩)),(8,.int .i64 ((i:Nat):Int))]∧Mem w0 G57 (.row (.slice ay ny cy) (ny) (csy) 193 6::.blk b54 [.int .u8 1,.string (str p.tag),.string (str p.key),.slice at56 ((p.as.map (Bq x)).length) (ct56),.string (str []),.slice ay ny cy] 193::.blk b2 [.int .u64 x.key,.int .u8 x.typ,.string (str x.text),.slice ma x.marks.length mc] 26::.blk b1 [.int .u8 p.kind,.string (str p.tag),.string (str p.key),.slice tap p.as.length tcp,.string (str p.text),.slice kap p.kids.length kcp] 79::L) w'∧(i≤p.kids.length)∧(ny=(madesF x (p.kids.take i)).length)∧(Els rdN 6 G57 csy (madesF x (p.kids.take i)))) _ ⟨0,(none),(0),(0),([]),rfl,Gt56,Gle.refl _,F.to ⟨rfl,rfl,rfl,rfl,trivial⟩,M,Nat.zero_le _,rfl,Els.nil⟩ ?_;clear F M;rintro m a w ⟨i,ay,ny,cy,csy,rfl,G57,hG57,F,M,hi,hny,Ey⟩;replace SAp:=SAp.mono mono_rdSlot hG57;replace SKp:=SKp.mono mono_rdP hG57;replace SM:=SM.mono Ay hG57;replace St56:=St56.mono Df hG57;revert a;refine wk ?_;refine qD rfl ?_ ?_
  ·intro h58;refine wk ?_;have hml:=Mr hio3 (p.kids.take i);intro a F;rw [List.length_take] at hml;refine Og [(.free,0),(.pure,1),(.free,2),(.pure,3),(.free,4),(.free,5),(.pure,6),(.pure,7),(.keep,8),(.keep,9),(.free,10),(.chg,11)] [11] (Keep G57 [.blk b54 [.int .u8 1,.string (str p.tag),.string (str p.key),.slice at56 ((p.as.map (Bq x)).length) (ct56),.string (str []),.slice ay ny cy] 193,.blk b2 [.int .u64 x.key,.int .u8 x.typ,.string (str x.text),.slice ma x.marks.length mc] 26,.blk b1 [.int .u8 p.kind,.string (str p.tag),.string (str p.key),.slice tap p.as.length tcp,.string (str p.text),.slice kap p.kids.length kcp] 79]) rfl (by kernel_rfl) (fun c a d v w h=>by cases d <;> exact h) (Ax (M.drew _)) ?_;replace M:=M.drew (w.drawn+1);revert a;refine wk ?_;obtain ⟨Xe59,hXe59⟩:=Ap (xs:=p.kids) (i:=i) (by omega);obtain ⟨be59,oe59,_,Ie59,_,Ae59,hTe59⟩:=SKp.at hXe59;obtain ⟨tae59,tce59,kae59,kce59,rfl,hke59,hle59,SAe59,SKe59⟩:=Dn hTe59;refine wk ?_;have hm8:=T2 hio3 Xe59;refine k_k rfl<|D4 Afx rfl rfl (ih Xe59 (List.mem_of_getElem? hXe59) _ _ _ _ _ _ _ _ _ _ M hke59 hle59 SAe59 SKe59 SM (Tu hOk _ (List.mem_of_getElem? hXe59)))<|?_;clear M;rintro _ Gk60 w hGk60 M ⟨ak60,ck60,rfl,Sk60⟩
   replace SAp:=SAp.mono mono_rdSlot hGk60;replace SKp:=SKp.mono mono_rdP hGk60;replace SM:=SM.mono Ay hGk60;replace St56:=St56.mono Df hGk60;replace Ey:=Ey.mono D2 hGk60;replace Ae59:=Ae59.mono hGk60;replace SAe59:=SAe59.mono mono_rdSlot hGk60;replace SKe59:=SKe59.mono mono_rdP hGk60;refine Ao<|?_
   refine eK (C':=Keep Gk60 [.blk b54 [.int .u8 1,.string (str p.tag),.string (str p.key),.slice at56 ((p.as.map (Bq x)).length) (ct56),.string (str []),.slice ay ny cy] 193,.blk b2 [.int .u64 x.key,.int .u8 x.typ,.string (str x.text),.slice ma x.marks.length mc] 26,.blk b1 [.int .u8 p.kind,.string (str p.tag),.string (str p.key),.slice tap p.as.length tcp,.string (str p.text),.slice kap p.kids.length kcp] 79]) (Ax M) (fun w h=>h.mono hGk60 (by simp))<|k_k rfl<|fun a F=>?_
   refine Iy F M (k:=0) rfl Dl.k Aw rfl rfl (by decide) rfl Sk60 rfl (by show _ * 104≤_;(try simp only [List.length_drop,List.length_take,List.length_append,List.length_cons,List.length_nil]);omega) (by (try simp only [List.length_drop,List.length_take,List.length_append,List.length_cons,List.length_nil]);omega) rfl ?_;clear F M a;intro v61 csv61 w a M Ev61 F;have Ev61:=Els.append Ey Ev61;obtain ⟨av61,cv61,rfl,hlev61,hcmv61,hlv61⟩:=M.row_shape (k:=0) rfl;revert a;refine Ao<|?_
   refine eK (C':=Keep Gk60 [.blk b54 [.int .u8 1,.string (str p.tag),.string (str p.key),.slice at56 ((p.as.map (Bq x)).length) (ct56),.string (str []),.slice ay ny cy] 193,.blk b2 [.int .u64 x.key,.int .u8 x.typ,.string (str x.text),.slice ma x.marks.length mc] 26,.blk b1 [.int .u8 p.kind,.string (str p.tag),.string (str p.key),.slice tap p.as.length tcp,.string (str p.text),.slice kap p.kids.length kcp] 79]) (Ax M) (fun w h=>h.mono (Gle.refl _) (by simp))<|?_
   refine wk ?_;refine k_c rfl<|Dv Dl M 1 rfl rfl rfl rfl rfl rfl<|?_;clear M;intro w M
   refine Ao<|?_
   refine fun a F=>⟨Keep Gk60 [.row (.slice av61 (ny+(E7 x Xe59).length) (cv61)) (ny+(E7 x Xe59).length) (csy++csv61) 193 6,.blk b54 [.int .u8 1,.string (str p.tag),.string (str p.key),.slice at56 ((p.as.map (Bq x)).length) (ct56),.string (str []),.slice av61 (ny+(E7 x Xe59).length) (cv61)] 193,.blk b2 [.int .u64 x.key,.int .u8 x.typ,.string (str x.text),.slice ma x.marks.length mc] 26,.blk b1 [.int .u8 p.kind,.string (str p.tag),.string (str p.key),.slice tap p.as.length tcp,.string (str p.text),.slice kap p.kids.length kcp] 79],M.keep (Gle.refl _) (by simp),?_⟩;revert a;refine wk ?_;intro a F
   exact ⟨_,by omega,i+1,(av61),(ny+(E7 x Xe59).length),(cv61),(csy++csv61),rfl,Gk60,(hG57.trans hGk60),F.to ⟨rfl,rfl,rfl,rfl,trivial⟩,M,by omega,by rw [C7 hXe59,List.length_append,← hny],by rw [C7 hXe59];exact Ev61⟩
  intro h62;refine wk ?_;intro a F;rw [List.take_of_length_le (by omega)] at hny Ey;subst hny;obtain ⟨hnz63,Gz63,az63,cz63,hGz63,hez63,Sz63,M⟩:=M.freeze_row D2 (k:=0) rfl Ey (by decide);clear hez63 az63 cz63;replace SAp:=SAp.mono mono_rdSlot hGz63;replace SKp:=SKp.mono mono_rdP hGz63;replace SM:=SM.mono Ay hGz63;replace St56:=St56.mono Df hGz63;clear hnz63;revert a;refine wk ?_;intro a F;refine Ar F M Dl.k Aw rfl rfl (cs:=[.int .u8 1,.string (str p.tag),.string (str p.key),.slice at56 ((p.as.map (Bq x)).length) (ct56),.string (str []),.slice ay ((madesF x p.kids).length) (cy)]) rfl rfl (by simp [Value.oneCell']) (by decide) rfl ?_;clear F M a;intro v64 w a M F;obtain ⟨av64,cv64,rfl,hlev64,hcmv64,hlv64⟩:=M.row_shape (k:=0) rfl;revert a;refine wk ?_;refine Ad rfl rfl<|?_
  have E65:Els rdN 6 Gz63 [.int .u8 1,.string (str p.tag),.string (str p.key),.slice at56 ((p.as.map (Bq x)).length) (ct56),.string (str []),.slice ay ((madesF x p.kids).length) (cy)] [(.mk 1 p.tag p.key (p.as.map (Bq x)) ([]:List UInt8) (madesF x p.kids):NT)]:=Els.one (Ff (x:=(.mk 1 p.tag p.key (p.as.map (Bq x)) ([]:List UInt8) (madesF x p.kids):NT)) Aje (by refine ⟨?_,?_,?_⟩ <;> first | exact Nat.zero_le _ | assumption | exact hlp.1 | exact hlp.2.1 | exact hlp.2.2 | (have h_:=Dd x.key.toNat (by omega);show (Lib.decDigits x.key.toNat).length≤_;omega)) St56 Sz63) rfl;obtain ⟨hnz66,Gz66,az66,cz66,hGz66,hez66,Sz66,M⟩:=M.freeze_row D2 (k:=0) rfl E65 (by decide);clear hez66 az66 cz66
  exact ⟨Gz66,(((hGt56.trans hG57).trans hGz63).trans hGz66),M.weaken dS3,_,_,by rw [Rg hk1p];rfl,by rw [Rg hk1p];exact Sz66⟩
 exact Bl
theorem Ajs {x:ItemD} (hik:Au .u64 x.key) (hio:ItemOk x) (ht:x.text.length≤9223372036854775807) (p:PT):Avc x p:=by
 induction p using Tr.ind with
 | _ p ih=>intro w0 w G L ma tap kap mc tcp kcp M hk hl SA SK SM hok;exact Aep hik hio ht ih M hk hl SA SK SM hok
theorem rrender_spec (M:Mem w0 G L w) {p:PT} {tap:Option Addr} {tcp:Nat} {kap:Option Addr} {kcp:Nat} (hkp:Au .u8 p.kind) (hlp:(p.tag.length≤9223372036854775807∧p.key.length≤9223372036854775807∧p.text.length≤9223372036854775807)) (SAp:Ag rdSlot 3 G (.slice tap p.as.length tcp) p.as) (SKp:Ag rdP 6 G (.slice kap p.kids.length kcp) p.kids) {x:ItemD} {ma:Option Addr} {mc:Nat} (ht:x.text.length≤9223372036854775807) (SM:Ag Cf 1 G (.slice ma x.marks.length mc) x.marks) (hik:Au .u64 x.key) {most:Int}:Calls Tryz.prog 111 #[.agg #[.int .u8 p.kind,.string (str p.tag),.string (str p.key),.slice tap p.as.length tcp,.string (str p.text),.slice kap p.kids.length kcp],.agg #[.int .u64 x.key,.int .u8 x.typ,.string (str x.text),.slice ma x.marks.length mc],.int .i64 most] w (Ret w0 G L fun G' v=>∃ a1 c1 a2 c2,v=.tuple #[.agg #[.int .u8 (Dj p x most).kind,.string (str (Dj p x most).tag),.string (str (Dj p x most).key),.slice a1 (Dj p x most).as.length c1,.string (str (Dj p x most).text),.slice a2 (Dj p x most).kids.length c2],.int .i64 (rendE p x most)]∧Ag Dy 2 G' (.slice a1 (Dj p x most).as.length c1) (Dj p x most).as∧Ag rdN 6 G' (.slice a2 (Dj p x most).kids.length c2) (Dj p x most).kids):=by
 refine Al (vs:=[_,_,_]) Tryz.func111 rfl (n:=44) rfl rfl<|?_
 refine Bt<|?_
 refine B2 M rfl rfl rfl<|?_;clear M;intro b1 w M
 refine B2 M rfl rfl rfl<|?_;clear M;intro b2 w M
 refine B1 M Aw rfl rfl<|?_;clear M;intro b3 w M
 refine wk ?_
 rcases bE (decide (most < 1)) with h5b | h6b
 ·skip
  have h5:=dT h5b;refine wk ?_;refine Am (fun a F=>Ah (cs:=[.int .u8 0,.string (str []),.string (str []),.slice none 0 0,.string (str []),.slice none 0 0]) (ps:=[]) Aw.k rfl Aw (F.evp rfl) rfl) rfl<|fun a F=>?_
  refine Be F M Aw 0 ?_;clear F M a;intro w a M F;replace M:=z_M M;revert a;refine wk ?_;refine fun a F=>Bs F M (k:=0) rfl rfl Aw rfl rfl rfl rfl ?_;have hE:rendE p x most=1:=Oy (by omega);have hN:Dj p x most=Jm:=Fw (by rw [hE];(first | decide | omega))
  exact ⟨_,(Gle.refl _),(M.weaken (cN (.cons _ (cN (sR _))))),none,0,none,0,by rw [hE,hN];rfl,by rw [hN];exact Ag.nil,by rw [hN];exact Ag.nil⟩
 have h6:=dF h6b;refine wk ?_;refine qD rfl ?_ ?_
 ·intro h7;refine Bt<|?_
  refine Am (fun a F=>Ah (cs:=[.int .u8 0,.string (str []),.string (str []),.slice none 0 0,.string (str []),.slice none 0 0]) (ps:=[]) Aw.k rfl Aw (F.evp rfl) rfl) rfl<|fun a F=>?_
  refine Be F M Aw 0 ?_;clear F M a;intro w a M F;replace M:=z_M M;revert a;refine wk ?_;refine fun a F=>Bs F M (k:=0) rfl rfl Aw rfl rfl rfl rfl ?_;have hE:rendE p x most=1:=Oy (by omega);have hN:Dj p x most=Jm:=Fw (by rw [hE];(first | decide | omega))
  exact ⟨_,(Gle.refl _),(M.weaken (cN (.cons _ (cN (sR _))))),none,0,none,0,by rw [hE,hN];rfl,by rw [hN];exact Ag.nil,by rw [hN];exact Ag.nil⟩
 intro h8;refine wk ?_;refine A4 Arv rfl rfl (Ou (x:=p) M hkp hlp SAp SKp)<|?_;clear M;rintro _ w M rfl
 refine wk ?_;refine Ae rfl ?_ ?_
 ·intro h9b;have h9:=dF (Ab h9b);have hV:¬ ValidP p:=fun h_=>by have:=chkP_zero.2 h_;omega
  refine Bt<|?_
  refine Am (fun a F=>Ah (cs:=[.int .u8 0,.string (str []),.string (str []),.slice none 0 0,.string (str []),.slice none 0 0]) (ps:=[]) Aw.k rfl Aw (F.evp rfl) rfl) rfl<|?_
  refine wk ?_;refine A4 Arv rfl rfl (Ou (x:=p) M hkp hlp SAp SKp)<|?_;clear M;rintro _ w M rfl
  intro a F;refine Be F M Aw 0 ?_;clear F M a;intro w a M F;replace M:=z_M M;revert a;refine wk ?_;refine fun a F=>Bs F M (k:=0) rfl rfl Aw rfl rfl rfl rfl ?_;have hE:rendE p x most=Vl p:=by rw [Se hV];exact V4 (by omega) hV
  have hN:Dj p x most=Jm:=Fw (by rw [hE];(first | decide | omega))
  exact ⟨_,(Gle.refl _),(M.weaken (cN (.cons _ (cN (sR _))))),none,0,none,0,by rw [hE,hN];rfl,by rw [hN];exact Ag.nil,by rw [hN];exact Ag.nil⟩
 intro h10b;have h10:=dT (Ac h10b);have hV:ValidP p:=chkP_zero.1 (by omega);refine wk ?_;refine A4 Arr rfl rfl (Ld (x:=x) M ht SM)<|?_;clear M;rintro _ w M rfl
 refine wk ?_;refine Ae rfl ?_ ?_
 ·intro h11b;have h11:=dF (Ab h11b);have hio:¬ ItemOk x:=fun h_=>by have:=Cz.2 h_;omega
  refine Bt<|?_
  refine Am (fun a F=>Ah (cs:=[.int .u8 0,.string (str []),.string (str []),.slice none 0 0,.string (str []),.slice none 0 0]) (ps:=[]) Aw.k rfl Aw (F.evp rfl) rfl) rfl<|?_
  refine wk ?_;refine A4 Arr rfl rfl (Ld (x:=x) M ht SM)<|?_;clear M;rintro _ w M rfl
  intro a F;refine Be F M Aw 0 ?_;clear F M a;intro w a M F;replace M:=z_M M;revert a;refine wk ?_;refine fun a F=>Bs F M (k:=0) rfl rfl Aw rfl rfl rfl rfl ?_;have hE:rendE p x most=Gq x:=by rw [Dt hio];exact V5 (by omega) hV hio
  have hN:Dj p x most=Jm:=Fw (by rw [hE];(first | decide | omega))
  exact ⟨_,(Gle.refl _),(M.weaken (cN (.cons _ (cN (sR _))))),none,0,none,0,by rw [hE,hN];rfl,by rw [hN];exact Ag.nil,by rw [hN];exact Ag.nil⟩
 intro h12b;have h12:=dT (Ac h12b);have hio:ItemOk x:=Cz.1 (by omega);refine wk ?_;refine D4 Afx rfl rfl (Ajs hik hio ht p _ _ _ _ _ _ _ _ _ _ M hkp hlp SAp SKp SM (Qw hV))<|?_;clear M;rintro _ Gk13 w hGk13 M ⟨ak13,ck13,rfl,Sk13⟩
 replace SAp:=SAp.mono mono_rdSlot hGk13;replace SKp:=SKp.mono mono_rdP hGk13;replace SM:=SM.mono Ay hGk13;have hN1:(E7 x p)[0]?=some (node1 x p):=by rw [Rg hV.1];rfl
 obtain ⟨be14,oe14,_,Ie14,_,Ae14,hTe14⟩:=Sk13.at hN1;obtain ⟨tae14,tce14,kae14,kce14,rfl,hke14,hle14,SAe14,SKe14⟩:=Dn hTe14;refine wk ?_;refine B1 M Aw rfl rfl<|?_;clear M;intro b15 w M
 intro a F;refine Be F M Aw 0 ?_;clear F M a;intro w a M F;replace M:=z_M M;revert a;refine wk ?_;refine A4 ent152 rfl rfl (L3 (x:=(node1 x p)) M hke14 hle14 SAe14 SKe14)<|?_;clear M;rintro _ w M rfl
 refine wk ?_
 rcases bE (!(decide (Uu (node1 x p)=0))) with h17b | h18b
 ·skip
  have h17:=dF (Ab h17b);refine wk ?_;refine Am (fun a F=>Ah (cs:=[.int .u8 0,.string (str []),.string (str []),.slice none 0 0,.string (str []),.slice none 0 0]) (ps:=[]) Aw.k rfl Aw (F.evp rfl) rfl) rfl<|fun a F=>?_
  refine Be F M Aw 1 ?_;clear F M a;intro w a M F;replace M:=z_M M;revert a;refine wk ?_;refine fun a F=>Bs F M (k:=1) rfl rfl Aw rfl rfl rfl rfl ?_;have hE:rendE p x most=14:=rend_many (by omega) hV hio (by first | omega | (left;rw [Sd fun h_=>by have:=Pj h_;omega]));have hN:Dj p x most=Jm:=Fw (by rw [hE];(first | decide | omega))
  exact ⟨_,hGk13,(M.weaken (cN (.cons _ (cN (.cons _ (sR _)))))),none,0,none,0,by rw [hE,hN];rfl,by rw [hN];exact Ag.nil,by rw [hN];exact Ag.nil⟩
 have h18:=dT (Ac h18b);refine wk ?_;refine A4 Arq rfl rfl (Rb (x:=(node1 x p)) M hke14 hle14 SAe14 SKe14)<|?_;clear M;rintro _ w M rfl
 refine wk ?_;refine qD rfl ?_ ?_
 ·intro h19;refine Bt<|?_
  refine Am (fun a F=>Ah (cs:=[.int .u8 0,.string (str []),.string (str []),.slice none 0 0,.string (str []),.slice none 0 0]) (ps:=[]) Aw.k rfl Aw (F.evp rfl) rfl) rfl<|fun a F=>?_
  refine Be F M Aw 1 ?_;clear F M a;intro w a M F;replace M:=z_M M;revert a;refine wk ?_;refine fun a F=>Bs F M (k:=1) rfl rfl Aw rfl rfl rfl rfl ?_;have hE:rendE p x most=14:=rend_many (by omega) hV hio (by first | omega | (left;rw [Sd fun h_=>by have:=Pj h_;omega]));have hN:Dj p x most=Jm:=Fw (by rw [hE];(first | decide | omega))
  exact ⟨_,hGk13,(M.weaken (cN (.cons _ (cN (.cons _ (sR _)))))),none,0,none,0,by rw [hE,hN];rfl,by rw [hN];exact Ag.nil,by rw [hN];exact Ag.nil⟩
 intro h20;refine wk ?_;intro a F;refine Be F M Aw 1 ?_;clear F M a;intro w a M F;revert a;refine Ew rfl<|E9<|?_
 refine fun a F=>Bs F M (k:=1) rfl rfl Aw rfl rfl rfl rfl ?_;have hE:rendE p x most=0:=rend_ok (by omega) hV hio (by have h_:=Me.2 (Qr.1 (by omega));omega);have hN:=Aao hE
 exact ⟨_,hGk13,(M.weaken (cN (.cons _ (cN (.cons _ (sR _)))))),_,_,_,_,by rw [hE,hN],by rw [hN];exact SAe14,by rw [hN];exact SKe14⟩
end Go.Proofs.YtmmhmcplegpenaaGreatDoor.T
namespace Go.Proofs.YtmmhmcplegpenaaGreatDoor
open Go Go.Y
structure ItemD where
 key:Nat
 typ:Nat
 text:List UInt8
 marks:List (List UInt8)
deriving DecidableEq
def Bn:Rd ItemD:=fun G cs x=>∃ (a:Option Addr) (c:Nat),cs=[.int .u64 ((x.key:Nat):Int),.int .u8 ((x.typ:Nat):Int),.string (str x.text),.slice a x.marks.length c] ∧
 x.key < 18446744073709551616∧x.typ < 256∧x.text.length≤9223372036854775807∧x.marks.length≤9223372036854775807∧Ag Cf 1 G (.slice a x.marks.length c) x.marks
theorem Ai:Ho Bn:=by
 rintro G G' cs x h ⟨a,c,h1,h2,h3,h4,h5,h6⟩
 exact ⟨a,c,h1,h2,h3,h4,h5,h6.mono Ay h⟩
def C3 (c:UInt8):Prop:=(97≤nb c∧nb c≤122)∨(48≤nb c∧nb c≤57)
def Ck (s:List UInt8):Prop:=(1≤s.length∧s.length≤16)∧∀ c∈s,C3 c
def Ir (c:UInt8):Prop:=32≤nb c∧nb c≤126
def Str (s:List UInt8):Prop:=s.length≤64∧∀ c∈s,Ir c
instance (c:UInt8):Decidable (C3 c):=by unfold C3;infer_instance
instance (c:UInt8):Decidable (Ir c):=by unfold Ir;infer_instance
instance (s:List UInt8):Decidable (Ck s):=by unfold Ck;infer_instance
instance (s:List UInt8):Decidable (Str s):=by unfold Str;infer_instance
theorem Str.nil:Str []:=⟨by simp,by simp⟩
theorem E1 {α:Type} {p:α→Prop} {s:List α} {i:Nat} {c:α} (h:∀ (m:Nat) (b:α),m < i→s[m]?=some b→p b) (hc:s[i]?=some c) (hp:p c):∀ (m:Nat) (b:α),m < i+1→s[m]?=some b→p b:=by
 intro m b hm hb
 rcases Nat.lt_or_ge m i with h1 | h1
 ·exact h m b h1 hb
 have:m=i:=by omega
 subst this;rw [hc] at hb;simp only [Option.some.injEq] at hb;subst hb;exact hp
theorem D8 {α:Type} {p:α→Prop} {s:List α} {i:Nat} (h:∀ (m:Nat) (b:α),m < i→s[m]?=some b→p b) (hi:s.length≤i):∀ c∈s,p c:=by
 intro c hc;obtain ⟨m,hm⟩:=List.mem_iff_getElem?.1 hc
 exact h m c (by have:=A0 hm;omega) hm
theorem F5 {α:Type} {p:α→Prop} {s:List α} {i:Nat} {c:α} (hc:s[i]?=some c) (hp:¬ p c):¬ ∀ c∈s,p c:=fun h=>hp (h c (List.mem_of_getElem? hc))
def Hz (r:Nat):Bool:=decide ((r:Int) < 32) || decide (126 < (r:Int))
def Nc (r:Nat):Bool:=(decide ((r:Int) < 97) || decide (122 < (r:Int))) && (decide ((r:Int) < 48) || decide (57 < (r:Int)))
theorem Ach {bad:Nat→Bool} {P:UInt8→Prop} (h1:∀ b:UInt8,bad b.toNat=false↔P b) (h2:∀ r,128≤r→bad r=true) (l:List UInt8):∀ (f pos:Nat),l.length≤pos+f→(Lib.idxFuncFrom bad true (str l) f pos < 0↔∀ (m:Nat) (b:UInt8),pos≤m→l[m]?=some b→P b)
 | 0,pos,h=>by
  have:Lib.idxFuncFrom bad true (str l) 0 pos = -1:=rfl;rw [this];refine ⟨fun _ m b hm hb=>?_,fun _=>by decide⟩;have:=A0 hb;omega
 | f+1,pos,h=>by
  unfold Lib.idxFuncFrom
  by_cases hp:pos < (str l).size
  ·rw [if_pos hp];have hl:pos < l.length:=by rw [B5] at hp;exact hp
   have hb:l[pos]?=some ((str l)[pos]'hp):=by rw [← X3,getElem?_pos (str l) pos hp]
   generalize hB:(str l)[pos]'hp=B at hb
   by_cases ha:B.toNat < 128
   ·have hd:=decode_ascii (str l) pos hp (by rw [hB];exact ha);rw [hB] at hd;rw [hd]
    by_cases hg:P B
    ·have hbad:bad B.toNat=false:=(h1 B).2 hg;simp only [hbad,Bool.false_eq_true,if_false];rw [Ach h1 h2 l f (pos+1) (by omega)]
     constructor
     ·intro h1 m b hm hb'
      rcases Nat.eq_or_lt_of_le hm with e | e
      ·subst e;rw [hb] at hb';simp only [Option.some.injEq] at hb';subst hb';exact hg
      ·exact h1 m b (by omega) hb'
     ·exact fun h1 m b hm hb'=>h1 m b (by omega) hb'
    ·have hbad:bad B.toNat=true:=by
      cases hx:bad B.toNat with
      | true=>rfl
      | false=>exact absurd ((h1 B).1 hx) hg
     simp only [hbad,if_true];refine ⟨fun h1=>by omega,fun h1=>absurd (h1 pos B (Nat.le_refl _) hb) hg⟩
   ·have hd:=(decode_high (str l) pos hp (by rw [hB];omega)).1;have hbad:bad (Utf8.decode (str l) pos).1=true:=h2 _ (by omega);simp only [hbad,if_true];refine ⟨fun h1=>by omega,fun h3=>?_⟩;have h4:=(h1 B).2 (h3 pos B (Nat.le_refl _) hb);rw [h2 _ (by omega)] at h4;cases h4
  ·rw [if_neg hp];refine ⟨fun _ m b hm hb=>?_,fun _=>by decide⟩;have:=A0 hb;rw [B5] at hp;omega
theorem idx_P {bad:Nat→Bool} {P:UInt8→Prop} (h1:∀ b:UInt8,bad b.toNat=false↔P b) (h2:∀ r,128≤r→bad r=true) (l:List UInt8):Lib.idxFunc bad true (str l) < 0↔∀ c∈l,P c:=by
 unfold Lib.idxFunc;rw [Ach h1 h2 l _ 0 (by rw [B5];omega)]
 constructor
 ·intro h c hc;obtain ⟨m,hm⟩:=List.mem_iff_getElem?.1 hc
  exact h m c (Nat.zero_le _) hm
 exact fun h m b _ hb=>h b (List.mem_of_getElem? hb)
theorem Zf (l:List UInt8):Lib.idxFunc Hz true (str l) < 0↔∀ c∈l,Ir c :=
 idx_P (fun b=>by simp only [Hz,Ir,nb,Bool.or_eq_false_iff,decide_eq_false_iff_not];omega) (fun r h=>by simp only [Hz,Bool.or_eq_true,decide_eq_true_eq];omega) l
theorem Aqn (l:List UInt8):Lib.idxFunc Nc true (str l) < 0↔∀ c∈l,C3 c :=
 idx_P (fun b=>by simp only [Nc,C3,nb,Bool.and_eq_false_iff,Bool.or_eq_false_iff,decide_eq_false_iff_not];omega) (fun r h=>by simp only [Nc,Bool.and_eq_true,Bool.or_eq_true,decide_eq_true_eq];omega) l
def ItemOk (t:Int) (x:ItemD):Prop:=x.key≠0∧(x.typ:Int) < t∧Str x.text∧x.marks.length≤8∧∀ s∈x.marks,Ck s
instance (t:Int) (x:ItemD):Decidable (ItemOk t x):=by unfold ItemOk;infer_instance
def Gq (t:Int) (x:ItemD):Int:=if ItemOk t x then 0 else 6
theorem Cv {t:Int} {x:ItemD} (h:ItemOk t x):Gq t x=0:=by unfold Gq;rw [if_pos h]
theorem Dt {t:Int} {x:ItemD} (h:¬ ItemOk t x):Gq t x=6:=by unfold Gq;rw [if_neg h]
theorem Cz {t:Int} {x:ItemD}:Gq t x=0↔ItemOk t x:=by
 unfold Gq
 split
 ·rename_i h;exact ⟨fun _=>h,fun _=>rfl⟩
 rename_i h;exact ⟨fun h2=>(by cases h2),fun h2=>absurd h2 h⟩
theorem Fx {l:List (List UInt8)} {i:Nat} (h:∀ (m:Nat) (s:List UInt8),m < i→l[m]?=some s→Ck s) (hi:l.length≤i):∀ s∈l,Ck s:=D8 h hi
theorem Abt {t:Int} {x:ItemD} {i:Nat} {s:List UInt8} (h:x.marks[i]?=some s) (hn:¬ Ck s):¬ ItemOk t x:=fun h2=>hn (h2.2.2.2.2 s (List.mem_of_getElem? h))
theorem Mq {α:Type} {p:α→Prop} {l:List α} {i:Nat} {x:α} (h:∀ (m:Nat) (s:α),m < i→l[m]?=some s→p s) (hx:l[i]?=some x) (hp:p x):∀ (m:Nat) (s:α),m < i+1→l[m]?=some s→p s:=E1 h hx hp
def Ajc (x:ItemD):Prop:=x.text.length≤70∧x.marks.length≤12∧∀ s∈x.marks,s.length≤20
def Few (l:List ItemD):Prop:=l.length≤30∧∀ x∈l,Ajc x
instance (x:ItemD):Decidable (Ajc x):=by unfold Ajc;infer_instance
instance (l:List ItemD):Decidable (Few l):=by unfold Few;infer_instance
theorem Few.no {l:List ItemD} {i:Nat} {x:ItemD} (h:l[i]?=some x) (hn:¬ Ajc x):¬ Few l:=fun h2=>hn (h2.2 x (List.mem_of_getElem? h))
theorem Abz {x y:ItemD} (h1:x.key=y.key) (h2:x.typ=y.typ) (h3:x.text=y.text) (h4:x.marks=y.marks):x=y:=by
 cases x;cases y;simp_all
theorem Wh {α:Type} {xs ys:List α} {i:Nat} {x y:α} (h1:xs[i]?=some x) (h2:ys[i]?=some y) (h:x≠y):xs≠ys:=by
 rintro rfl;rw [h1] at h2;simp only [Option.some.injEq] at h2;exact h h2
theorem Aik {α:Type} {xs ys:List α} {i:Nat} {x y:α} (h:∀ m,m < i→xs[m]?=ys[m]?) (h1:xs[i]?=some x) (h2:ys[i]?=some y) (he:x=y):∀ m,m < i+1→xs[m]?=ys[m]?:=by
 intro m hm
 rcases Nat.lt_or_ge m i with h3 | h3
 ·exact h m h3
 have:m=i:=by omega
 subst this;rw [h1,h2,he]
theorem Aqw {α:Type} {xs ys:List α} {i:Nat} (h:∀ m,m < i→xs[m]?=ys[m]?) (hl:xs.length=ys.length) (hi:xs.length≤i):xs=ys:=by
 apply List.ext_getElem?
 intro m
 rcases Nat.lt_or_ge m i with h3 | h3
 ·exact h m h3
 rw [List.getElem?_eq_none (by omega),List.getElem?_eq_none (by omega)]
def Kq (xs:List ItemD) (k:Nat) (z:Int):Prop:=(z = -1∧∀ x∈xs,x.key≠k)∨∃ (i:Nat) (x:ItemD),z=(i:Int)∧xs[i]?=some x∧x.key=k∧∀ (m:Nat) (y:ItemD),m < i→xs[m]?=some y→y.key≠k
theorem Kq.uniq {xs:List ItemD} {k:Nat} {z z':Int} (h:Kq xs k z) (h':Kq xs k z'):z=z':=by
 rcases h with ⟨rfl,h⟩ | ⟨i,x,rfl,h1,h2,h3⟩ <;> rcases h' with ⟨rfl,h'⟩ | ⟨j,y,rfl,h1',h2',h3'⟩
 ·rfl
 ·exact absurd h2' (h y (List.mem_of_getElem? h1'))
 ·exact absurd h2 (h' x (List.mem_of_getElem? h1))
 rcases Nat.lt_trichotomy i j with h4 | h4 | h4
 ·exact absurd h2 (h3' i x h4 h1)
 ·rw [h4]
 exact absurd h2' (h3 j y h4 h1')
theorem Kq.none {xs:List ItemD} {k i:Nat} (h:∀ (m:Nat) (y:ItemD),m < i→xs[m]?=some y→y.key≠k) (hi:xs.length≤i):Kq xs k (-1):=Or.inl ⟨rfl,D8 (p:=fun y:ItemD=>y.key≠k) h hi⟩
theorem Kq.some {xs:List ItemD} {k i:Nat} {x:ItemD} (h:∀ (m:Nat) (y:ItemD),m < i→xs[m]?=some y→y.key≠k) (hx:xs[i]?=some x) (hk:x.key=k):Kq xs k (i:Int):=Or.inr ⟨i,x,rfl,hx,hk,h⟩
structure KindD where
 part:T.PT
 base:Int
 sticky:Bool
 pool:Int
structure RulesD where
 kinds:List KindD
 cap:Int
structure EntD where
 item:ItemD
 size:Int
 known:Bool
def Cb:Rd KindD:=fun G cs k=>∃ c1,cs=c1++[.int .i64 k.base,.bool k.sticky,.int .i64 k.pool]∧T.rdP G c1 k.part∧Au .i64 k.base
theorem Ak:Ho Cb:=by
 rintro G G' cs x h ⟨c1,h1,h2,h3⟩
 exact ⟨c1,h1,T.mono_rdP _ _ _ _ h h2,h3⟩
def Bg:Rd EntD:=fun G cs x=>∃ c1,cs=c1++[.int .i64 x.size,.bool x.known]∧Bn G c1 x.item∧Au .i64 x.size
theorem Aa:Ho Bg:=by
 rintro G G' cs x h ⟨c1,h1,h2,h3⟩
 exact ⟨c1,h1,Ai _ _ _ _ h h2,h3⟩
def tI (x:ItemD):T.ItemD:=⟨(x.key:Int),(x.typ:Int),x.text,x.marks⟩
theorem tI_ok {t:Int} {x:ItemD} (h:ItemOk t x):T.ItemOk (tI x):=by
 obtain ⟨h1,_,h2,h3,h4⟩:=h
 exact ⟨fun e=>h1 (by simpa [tI] using e),h2,h3,h4⟩
def Bm (f:Nat→Int):Nat→Int
 | 0=>0
 | n+1=>if Bm f n=0 then f n else Bm f n
theorem Fq {f:Nat→Int} {n:Nat} (h:Bm f n=0):Bm f (n+1)=f n:=by simp [Bm,h]
theorem Rq {f:Nat→Int} {n:Nat} (h:Bm f n≠0):∀ m,n≤m→Bm f m=Bm f n:=by
  intro m hm
  induction m with
  | zero => have : n = 0 := by omega
            subst this;rfl
  | succ m ih =>
    rcases Nat.eq_or_lt_of_le hm with e | e
    · rw [e]
    · have:=ih (by omega)
      simp only [Bm,this,h,if_false]
theorem Jg {f:Nat→Int} {i n:Nat} (h:Bm f i=0) (hi:i < n) (he:f i≠0):Bm f n=f i:=by
 have h1:=Fq h;rw [Rq (n:=i+1) (by rw [h1];exact he) n (by omega),h1]
theorem Dh {f:Nat→Int}:∀ {n:Nat},Bm f n=0↔∀ i,i < n→f i=0
 | 0=>⟨fun _ i h=>by omega,fun _=>rfl⟩
 | n+1=>by
  constructor
  ·intro h
   by_cases h0:Bm f n=0
   ·have h1:=Dh.1 h0;rw [Fq h0] at h;intro i hi
    rcases Nat.eq_or_lt_of_le (show i≤n by omega) with e | e
    ·rw [e];exact h
    ·exact h1 i e
   ·rw [Rq h0 _ (Nat.le_succ n)] at h;exact absurd h h0
  ·intro h;rw [Fq (Dh.2 fun i hi=>h i (by omega))]
   exact h n (by omega)
theorem K5 {f g:Nat→Int}:∀ {n:Nat},(∀ i,i < n→f i=g i)→Bm f n=Bm g n
 | 0,_=>rfl
 | n+1,h=>by simp only [Bm,K5 (n:=n) fun i hi=>h i (by omega),h n (by omega)]
def K9 (k:KindD):Prop:=(1≤k.base∧k.base≤2305843009213693952)∧T.ValidP k.part
def Cy (c:RulesD):Prop:=((1≤c.kinds.length∧c.kinds.length≤8)∧(1≤c.cap∧c.cap≤64))∧∀ k∈c.kinds,K9 k
open Classical in
noncomputable def Kr (c:RulesD):Int:=if Cy c then 0 else 7
theorem Np {c:RulesD} (h:Cy c):Kr c=0:=by unfold Kr;rw [if_pos h]
theorem Iu {c:RulesD} (h:¬ Cy c):Kr c=7:=by unfold Kr;rw [if_neg h]
theorem Qx {c:RulesD}:Kr c=0↔Cy c:=by
 unfold Kr
 split
 ·rename_i h;exact ⟨fun _=>h,fun _=>rfl⟩
 rename_i h;exact ⟨fun h2=>(by cases h2),fun h2=>absurd h2 h⟩
def Dc (c:RulesD) (x:ItemD):Int:=match c.kinds[x.typ]? with
 | some k=>k.base
 | none=>0
theorem H2 {c:RulesD} {x:ItemD} {k:KindD} (h:c.kinds[x.typ]?=some k):Dc c x=k.base:=by unfold Dc;rw [h]
noncomputable def Gu (c:RulesD) (x:ItemD):Int:=match c.kinds[x.typ]? with
 | some k=>T.rendE k.part (tI x) c.cap
 | none=>0
theorem Nw {c:RulesD} {x:ItemD} {k:KindD} (h:c.kinds[x.typ]?=some k):Gu c x=T.rendE k.part (tI x) c.cap:=by unfold Gu;rw [h]
theorem Iq {c:RulesD} {x:ItemD} (h:ItemOk (c.kinds.length:Int) x):∃ k,c.kinds[x.typ]?=some k:=Ap (by have:=h.2.1;omega)
theorem Aer {c:RulesD} {x:ItemD} (hc:Cy c) (hx:ItemOk (c.kinds.length:Int) x):Gu c x=0∨Gu c x=14:=by
 obtain ⟨k,hk⟩:=Iq hx;rw [Nw hk];have h1:¬ (c.cap < 1∨64 < c.cap):=by have:=hc.1.2;omega
 have h2:=(hc.2 k (List.mem_of_getElem? hk)).2;have h3:=tI_ok hx
 by_cases h4:T.cntF (T.node1 (tI x) k.part)=0∨c.cap < (T.cntF (T.node1 (tI x) k.part):Int)
 ·exact Or.inr (T.rend_many h1 h2 h3 h4)
 exact Or.inl (T.rend_ok h1 h2 h3 h4)
open Classical in
noncomputable def Dw (c:RulesD) (x:ItemD) (seen:Prop):Int:=if ¬ ItemOk (c.kinds.length:Int) x then 6 else if seen then 8 else if Gu c x=0 then 0 else 14
section
variable {c:RulesD} {x:ItemD} {seen:Prop}
theorem Pa (h:¬ ItemOk (c.kinds.length:Int) x):Dw c x seen=6:=by unfold Dw;rw [if_pos h]
theorem R7 (h:ItemOk (c.kinds.length:Int) x) (h2:seen):Dw c x seen=8:=by unfold Dw;rw [if_neg (not_not_intro h),if_pos h2]
theorem Jb (h:ItemOk (c.kinds.length:Int) x) (h2:¬ seen) (h3:¬ Gu c x=0):Dw c x seen=14:=by unfold Dw;rw [if_neg (not_not_intro h),if_neg h2,if_neg h3]
theorem J0 (h:ItemOk (c.kinds.length:Int) x) (h2:¬ seen) (h3:Gu c x=0):Dw c x seen=0:=by unfold Dw;rw [if_neg (not_not_intro h),if_neg h2,if_pos h3]
theorem Ep:Dw c x seen=0↔ItemOk (c.kinds.length:Int) x∧¬ seen∧Gu c x=0:=by
 unfold Dw
 split
 ·rename_i h;exact ⟨fun h2=>(by cases h2),fun h2=>absurd h2.1 h⟩
 rename_i h
 split
 ·rename_i h1;exact ⟨fun h2=>(by cases h2),fun h2=>absurd h1 h2.2.1⟩
 rename_i h1
 split
 ·rename_i h2;exact ⟨fun _=>⟨Classical.byContradiction h,h1,h2⟩,fun _=>rfl⟩
 rename_i h2;exact ⟨fun h3=>(by cases h3),fun h3=>absurd h3.2.2 h2⟩
theorem Ud:0≤Dw c x seen:=by
 unfold Dw;split
 ·decide
 split
 ·decide
 split <;> decide
theorem Ri {seen':Prop} (h:seen↔seen'):Dw c x seen=Dw c x seen':=by rw [propext h]
end
def Cx (l:List EntD) (k:Nat):Prop:=∃ y∈l,y.item.key=k
def H0 (c:RulesD) (x:EntD):Prop:=(1≤x.size∧x.size≤2305843009213693952)∧(x.known=true∨x.size=Dc c x.item)
open Classical in
noncomputable def Qm (c:RulesD) (pre:List EntD) (x:EntD):Int :=
 if Dw c x.item (Cx pre x.item.key)=0 then (if H0 c x then 0 else 12) else Dw c x.item (Cx pre x.item.key)
noncomputable def Hi (c:RulesD) (l:List EntD) (i:Nat):Int:=match l[i]? with
 | some x=>Qm c (l.take i) x
 | none=>0
theorem Oo {c:RulesD} {l:List EntD} {i:Nat} {x:EntD} (h:l[i]?=some x):Hi c l i=Qm c (l.take i) x:=by unfold Hi;rw [h]
section
variable {c:RulesD} {pre:List EntD} {x:EntD}
theorem Ql (h:Dw c x.item (Cx pre x.item.key)≠0):Qm c pre x=Dw c x.item (Cx pre x.item.key):=by unfold Qm;rw [if_neg h]
theorem entE_12 (h:Dw c x.item (Cx pre x.item.key)=0) (h2:¬ H0 c x):Qm c pre x=12:=by unfold Qm;rw [if_pos h,if_neg h2]
theorem entE_0 (h:Dw c x.item (Cx pre x.item.key)=0) (h2:H0 c x):Qm c pre x=0:=by unfold Qm;rw [if_pos h,if_pos h2]
theorem Mx:Qm c pre x=0↔Dw c x.item (Cx pre x.item.key)=0∧H0 c x:=by
 unfold Qm
 split
 ·rename_i h
  split
  ·rename_i h2;exact ⟨fun _=>⟨h,h2⟩,fun _=>rfl⟩
  rename_i h2;exact ⟨fun h3=>(by cases h3),fun h3=>absurd h3.2 h2⟩
 rename_i h;exact ⟨fun h2=>absurd h2 h,fun h2=>absurd h2.1 h⟩
end
def Gd:List EntD→Int
 | []=>0
 | x::l=>max x.size 0+Gd l
theorem Mk:∀ l:List EntD,0≤Gd l
 | []=>Int.le_refl _
 | x::l=>by have:=Mk l;simp only [Gd];omega
theorem Hh:∀ a b:List EntD,Gd (a++b)=Gd a+Gd b
 | [],b=>by simp [Gd]
 | x::a,b=>by simp only [List.cons_append,Gd,Hh a b];omega
theorem Iv {l:List EntD} {i:Nat} {x:EntD} (h:l[i]?=some x):Gd (l.take (i+1))=Gd (l.take i)+max x.size 0:=by
 rw [List.take_add_one,h,Hh];simp [Gd]
theorem sumF_le {l:List EntD} (i:Nat):Gd (l.take i)≤Gd l:=by
 have h:=Hh (l.take i) (l.drop i);rw [List.take_append_drop] at h;have:=Mk (l.drop i);omega
def U3 (l:List EntD):Int:=if Gd l≤4611686018427387904 then Gd l else 4611686018427387905
def Db (l:List EntD):Int:=if Gd l≤4611686018427387904 then 0 else 13
theorem Xw {l:List EntD} {i:Nat} (h:4611686018427387904 < Gd (l.take i)):U3 l=4611686018427387905:=by
 have:=sumF_le (l:=l) i;unfold U3;rw [if_neg (by omega)]
theorem Agm {l:List EntD} {i:Nat} {z:Int} (hz:z=Gd (l.take i)) (h:z≤4611686018427387904) (hi:l.length≤i):U3 l=z:=by
 rw [List.take_of_length_le hi] at hz;unfold U3;rw [if_pos (by omega),hz]
theorem Aaw {l:List EntD}:4611686018427387904 < U3 l↔¬ Gd l≤4611686018427387904:=by
 unfold U3;split
 ·rename_i h;omega
 rename_i h;exact ⟨fun _=>h,fun _=>by decide⟩
theorem Aav {l:List EntD} (h:¬ 4611686018427387904 < U3 l):Db l=0:=by unfold Db;rw [if_pos (Classical.byContradiction fun h2=>h (Aaw.2 h2))]
theorem Ahe {l:List EntD} (h:4611686018427387904 < U3 l):Db l=13:=by unfold Db;rw [if_neg (Aaw.1 h)]
theorem P9 {l:List EntD}:Db l=0↔Gd l≤4611686018427387904:=by
 unfold Db;split
 ·rename_i h;exact ⟨fun _=>h,fun _=>rfl⟩
 rename_i h;exact ⟨fun h2=>(by cases h2),fun h2=>absurd h2 h⟩
open Classical in
noncomputable def Bb (c:RulesD) (l:List EntD):Int :=
 if ¬ Cy c then 7 else if 1024 < l.length then 3 else if Bm (Hi c l) l.length=0 then Db l else Bm (Hi c l) l.length
section
variable {c:RulesD} {l:List EntD}
theorem Aiv (h:¬ Cy c):Bb c l=7:=by unfold Bb;rw [if_pos h]
theorem Aiw (h:Cy c) (h2:1024 < l.length):Bb c l=3:=by unfold Bb;rw [if_neg (not_not_intro h),if_pos h2]
theorem K7 {i:Nat} {x:EntD} {z:Int} (h:Cy c) (h2:¬ 1024 < l.length) (h3:Bm (Hi c l) i=0) (hx:l[i]?=some x) (hz:Qm c (l.take i) x=z) (h0:z≠0):Bb c l=z:=by
 have h4:Hi c l i≠0:=by rw [Oo hx,hz];exact h0
 have h5:=Jg h3 (A0 hx) h4;unfold Bb;rw [if_neg (not_not_intro h),if_neg h2,if_neg (by rw [h5];exact h4),h5,Oo hx,hz]
theorem I3 {i:Nat} (h:Cy c) (h2:¬ 1024 < l.length) (h3:Bm (Hi c l) i=0) (hi:l.length≤i):Bb c l=Db l:=by
 have h4:Bm (Hi c l) l.length=0:=Dh.2 fun j hj=>Dh.1 h3 j (by omega);unfold Bb;rw [if_neg (not_not_intro h),if_neg h2,if_pos h4]
theorem scan_ok {i:Nat} {x:EntD} (h3:Bm (Hi c l) i=0) (hx:l[i]?=some x) (hz:Qm c (l.take i) x=0):Bm (Hi c l) (i+1)=0:=by rw [Fq h3,Oo hx,hz]
end
def Po (l:List EntD) (k:Nat) (z:Int):Prop:=(z = -1∧∀ x∈l,x.item.key≠k)∨∃ (i:Nat) (x:EntD),z=(i:Int)∧l[i]?=some x∧x.item.key=k∧∀ (m:Nat) (y:EntD),m < i→l[m]?=some y→y.item.key≠k
theorem Po.none {l:List EntD} {k i:Nat} (h:∀ (m:Nat) (y:EntD),m < i→l[m]?=some y→y.item.key≠k) (hi:l.length≤i):Po l k (-1):=Or.inl ⟨rfl,D8 (p:=fun y:EntD=>y.item.key≠k) h hi⟩
theorem Po.some {l:List EntD} {k i:Nat} {x:EntD} (h:∀ (m:Nat) (y:EntD),m < i→l[m]?=some y→y.item.key≠k) (hx:l[i]?=some x) (hk:x.item.key=k):Po l k (i:Int):=Or.inr ⟨i,x,rfl,hx,hk,h⟩
theorem Po.has {l:List EntD} {k:Nat} {z:Int} (h:Po l k z):0≤z↔Cx l k:=by
 rcases h with ⟨rfl,h⟩ | ⟨i,x,rfl,h1,h2,h3⟩
 ·exact ⟨fun h2=>by omega,fun ⟨y,hy,hk⟩=>absurd hk (h y hy)⟩
 exact ⟨fun _=>⟨x,List.mem_of_getElem? h1,h2⟩,fun _=>by omega⟩
section
variable {c:RulesD} {l:List EntD} {i:Nat} {x:EntD}
theorem ck6 (hv:Cy c) (h2:¬ 1024 < l.length) (h3:Bm (Hi c l) i=0) (hx:l[i]?=some x) (h:¬ ItemOk (c.kinds.length:Int) x.item):Bb c l=6 :=
 K7 hv h2 h3 hx (by rw [Ql (by rw [Pa h];decide),Pa h]) (by decide)
theorem ck8 (hv:Cy c) (h2:¬ 1024 < l.length) (h3:Bm (Hi c l) i=0) (hx:l[i]?=some x) (h:ItemOk (c.kinds.length:Int) x.item) (hk:Cx (l.take i) x.item.key):Bb c l=8 :=
 K7 hv h2 h3 hx (by rw [Ql (by rw [R7 h hk];decide),R7 h hk]) (by decide)
theorem ck14 (hv:Cy c) (h2:¬ 1024 < l.length) (h3:Bm (Hi c l) i=0) (hx:l[i]?=some x) (h:ItemOk (c.kinds.length:Int) x.item) (hk:¬ Cx (l.take i) x.item.key) (hr:¬ Gu c x.item=0):Bb c l=14 :=
 K7 hv h2 h3 hx (by rw [Ql (by rw [Jb h hk hr];decide),Jb h hk hr]) (by decide)
theorem ck12 (hv:Cy c) (h2:¬ 1024 < l.length) (h3:Bm (Hi c l) i=0) (hx:l[i]?=some x) (h:ItemOk (c.kinds.length:Int) x.item) (hk:¬ Cx (l.take i) x.item.key) (hr:Gu c x.item=0) (hs:¬ H0 c x):Bb c l=12 :=
 K7 hv h2 h3 hx (entE_12 (J0 h hk hr) hs) (by decide)
theorem ck0 (h3:Bm (Hi c l) i=0) (hx:l[i]?=some x) (h:ItemOk (c.kinds.length:Int) x.item) (hk:¬ Cx (l.take i) x.item.key) (hr:Gu c x.item=0) (hs:H0 c x):Bm (Hi c l) (i+1)=0 :=
 scan_ok h3 hx (entE_0 (J0 h hk hr) hs)
end
def Fb (l:List EntD) (i:Nat) (ks:List Nat):Prop:=∀ q,q∈ks↔Cx (l.take i) q
theorem Fb.zero (l:List EntD):Fb l 0 []:=fun q=>⟨fun h=>by simp at h,fun ⟨y,hy,_⟩=>by simp at hy⟩
theorem Fb.step {l:List EntD} {i:Nat} {ks:List Nat} {x:EntD} (h:Fb l i ks) (hx:l[i]?=some x):Fb l (i+1) (x.item.key::ks):=by
 intro q;rw [List.mem_cons,h q,List.take_add_one,hx]
 constructor
 ·rintro (rfl | ⟨y,hy,hk⟩)
  ·exact ⟨x,by simp,rfl⟩
  exact ⟨y,by simp [hy],hk⟩
 rintro ⟨y,hy,hk⟩;simp only [Option.toList_some,List.mem_append,List.mem_singleton] at hy
 rcases hy with hy | rfl
 ·exact Or.inr ⟨y,hy,hk⟩
 exact Or.inl hk.symm
theorem Amz {x:ItemD} (h:x.key < 18446744073709551616):Au .u64 (tI x).key:=⟨by show (0:Int)≤((x.key:Nat):Int);omega,by show ((x.key:Nat):Int)≤18446744073709551615;omega⟩
end Go.Proofs.YtmmhmcplegpenaaGreatDoor
