/- The walks, part LI. · The walks, part LJ. · Notices: what they are, what they do; lists stay valid. · The kinds of notices; a call of a function that a value holds. · The types and functions of the notices that the walks name. -/
import Derived.Test.YtmmhmcplegpenaaGreatDoorJ9
import Derived.Test.YtmmhmcplegpenaaGreatDoorJ8
namespace Go.Proofs.YtmmhmcplegpenaaGreatDoor
open Go Go.Y Go.Proofs
set_option linter.unusedSimpArgs false
set_option linter.unusedVariables false
open Classical in
noncomputable def Rv (l:List EntD) (xs:List ItemD) (i:Nat):Int:=match xs[i]? with
 | some x=>if Dr l x.key∨Mc (xs.take i) x.key then 8 else 0
 | none=>0
theorem Wp {l:List EntD} {xs:List ItemD} {i:Nat} {x:ItemD} (h:xs[i]?=some x) [Decidable (Dr l x.key∨Mc (xs.take i) x.key)]:Rv l xs i=if Dr l x.key∨Mc (xs.take i) x.key then 8 else 0:=by
 unfold Rv;rw [h]
 by_cases hp:Dr l x.key∨Mc (xs.take i) x.key
 ·simp only [hp,if_true]
 ·simp only [hp,if_false]
theorem in_inc {c:RulesD} {l:List EntD} {xs:List ItemD} (hc:E4 c) (i:Nat):J6 c xs (Rv l xs) i=Zp c l xs i:=by
 classical
 cases hx:xs[i]? with
 | none=>unfold J6 Zp;rw [hx]
 | some x =>
  rw [Tg hx,Ach hx,Wp hx]
  by_cases h1:ItemOk (c.kinds.length:Int) x
  ·by_cases h2:Dr l x.key∨Mc (xs.take i) x.key
   ·rw [if_pos h2,Xh h1 h2,Aky h1 (by decide)]
   ·rw [if_neg h2,Aeg h1 rfl]
    rcases Aja hc h1 with h3 | h3
    ·rw [Rg h1 h2 h3,h3]
    ·rw [Te h1 h2 (by omega),h3]
  ·rw [Aeh h1,Xk h1]
theorem Q7 (l:List EntD):Ej l=0∨Ej l=13:=by unfold Ej;split <;> simp
theorem Aku {c:RulesD} {l:List EntD} {z:Int} {xs:List ItemD} (h:Bw c l=0) :
  doR (Bw c l) (decide (Bp z 0 l.length)) (((l.length+xs.length:Nat)):Int) (J6 c xs (Rv l xs)) xs.length (Ea l z.toNat 0 (xs.map (C8 c)))=Eg c l z xs:=by
 have hf:Ce (J6 c xs (Rv l xs)) xs.length=Tf c l xs:=K7 fun i _=>in_inc (E9 h).1 i
 by_cases h1:Bp z 0 l.length
 ·have d1:decide (Bp z 0 l.length)=true:=decide_eq_true h1
  by_cases h2:1024 < l.length+xs.length
  ·rw [ins_3 h1 h2,do_3 h d1 (by omega)]
  ·by_cases h3:Tf c l xs=0
   ·rcases Q7 (Ea l z.toNat 0 (xs.map (C8 c))) with h4 | h4
    ·rw [Aee h1 h2 h3 h4,Nc h d1 (by omega) (by rw [hf,h3]) h4]
    ·rw [Akw h1 h2 h3 (by omega),Ahk h d1 (by omega) (by rw [hf,h3]) (by omega),h4]
   ·rw [ins_e h1 h2 h3]
    unfold doR
    rw [if_neg (not_not_intro h),if_neg (by rw [d1];decide),if_neg (by omega),if_pos (by rw [hf];exact h3),hf]
 ·rw [ins_4 h1,Amm h (decide_eq_false h1)]
theorem Rq (l:List EntD) (p n:Nat) (fr:List EntD):Hd (Ea l p n fr)=Hd (l.take p)+Hd fr+Hd (l.drop (p+n)):=by unfold Ea;rw [Ip,Ip]
theorem X8 (l:List EntD) (p n:Nat):Hd l=Hd (l.take p)+Hd ((l.drop p).take n)+Hd (l.drop (p+n)):=by
 have h1:=Ip (l.take p) (l.drop p)
 have h2:=Ip ((l.drop p).take n) ((l.drop p).drop n)
 rw [List.take_append_drop] at h1 h2
 rw [List.drop_drop] at h2
 omega
theorem Yz {l:List EntD} {p n:Nat} (h:Ej l=0):Ej (Ea l p n [])=0:=by
 rw [Ve] at h ⊢
 have h1:=Rq l p n []
 have h2:=X8 l p n
 have h3:=Q5 ((l.drop p).take n)
 have h4:Hd []=0:=rfl
 omega
theorem Y0 {l:List EntD} {p n q:Nat} (h:Ej l=0):Ej (Pv l p n q)=0:=by
 rw [Ve] at h ⊢
 unfold Pv
 have h1:=Rq l p n []
 have h2:=X8 l p n
 have h3:=Rq (Ea l p n []) q 0 ((l.drop p).take n)
 have h4:=Ip ((Ea l p n []).take q) ((Ea l p n []).drop q)
 rw [List.take_append_drop] at h4
 have h5:Hd []=0:=rfl
 rw [Nat.add_zero] at h3
 omega
theorem rem_do {c:RulesD} {l:List EntD} {z n:Int} {fK:Nat→Int} (h:Bw c l=0):doR (Bw c l) (decide (Bp z n l.length)) 0 (J6 c [] fK) 0 (Ea l z.toNat n.toNat [])=Hu l z n:=by
 by_cases h1:Bp z n l.length
 ·rw [Ajc h1,Nc h (decide_eq_true h1) (by decide) rfl (Yz (E9 h).2.2.2)]
 ·rw [rem_4 h1,Amm h (decide_eq_false h1)]
theorem mov_do {c:RulesD} {l:List EntD} {z n b:Int} {fK:Nat→Int} {ins:Bool} (h:Bw c l=0) (hi:ins=true↔Bp z n l.length∧Bp b 0 (l.length - n)):doR (Bw c l) ins 0 (J6 c [] fK) 0 (Pv l z.toNat n.toNat b.toNat)=Fy l z n b:=by
 by_cases h1:Bp z n l.length∧Bp b 0 (l.length - n)
 ·rw [mov_0 h1,Nc h (hi.2 h1) (by decide) rfl (Y0 (E9 h).2.2.2)]
 ·rw [mov_4 h1,Amm h (by cases ins with | true=>exact absurd (hi.1 rfl) h1 | false=>rfl)]
def So (l:List EntD) (p:Nat) (xs:List ItemD) (i:Nat):Int:=match xs[i]?,l[p+i]? with
 | some x,some y=>if y.item.key=x.key then 0 else 9
 | _,_=>0
theorem Vg {l:List EntD} {p:Nat} {xs:List ItemD} {i:Nat} {x:ItemD} {y:EntD} (hx:xs[i]?=some x) (hy:l[p+i]?=some y):So l p xs i=if y.item.key=x.key then 0 else 9:=by unfold So;rw [hx,hy]
theorem in_chg {c:RulesD} {l:List EntD} {p:Nat} {xs:List ItemD} (hc:E4 c) (hp:p+xs.length≤l.length) (i:Nat):J6 c xs (So l p xs) i=Mh c l p xs i:=by
 cases hx:xs[i]? with
 | none=>unfold J6 Mh;rw [hx]
 | some x =>
  have hi:=Bj hx
  obtain ⟨y,hy⟩:=Be (xs:=l) (i:=p+i) (by omega)
  rw [Tg hx,Amv hx,Vg hx hy]
  by_cases h1:ItemOk (c.kinds.length:Int) x
  ·by_cases h2:y.item.key=x.key
   ·rw [if_pos h2,Aeg h1 rfl]
    have h5:¬ Sp l (p+i) x.key:=fun h=>(Sn hy).1 h h2
    rcases Aja hc h1 with h3 | h3
    ·rw [chgE_0 h1 h5 h3,h3]
    ·rw [chgE_14 h1 h5 (by omega),h3]
   ·rw [if_neg h2,Aky h1 (by decide),chgE_9 h1 ((Sn hy).2 h2)]
  ·rw [Aeh h1,chgE_6 h1]
theorem chg_do {c:RulesD} {l:List EntD} {z:Int} {xs:List ItemD} (h:Bw c l=0) :
  doR (Bw c l) (decide (Bp z xs.length l.length)) 0 (J6 c xs (So l z.toNat xs)) xs.length (Ea l z.toNat xs.length (xs.map (C8 c)))=Ha c l z xs:=by
 by_cases h1:Bp z xs.length l.length
 ·have d1:decide (Bp z xs.length l.length)=true:=decide_eq_true h1
  have h1':=h1
  unfold Bp at h1'
  have hf:Ce (J6 c xs (So l z.toNat xs)) xs.length=Ce (Mh c l z.toNat xs) xs.length:=K7 fun i _=>in_chg (E9 h).1 (by omega) i
  by_cases h3:Ce (Mh c l z.toNat xs) xs.length=0
  ·rcases Q7 (Ea l z.toNat xs.length (xs.map (C8 c))) with h4 | h4
   ·rw [chg_0 h1 h3 h4,Nc h d1 (by decide) (by rw [hf,h3]) h4]
   ·rw [Amw h1 h3 (by omega),Ahk h d1 (by decide) (by rw [hf,h3]) (by omega),h4]
  ·unfold doR Ha
   rw [if_neg (not_not_intro h),if_neg (by rw [d1];decide),if_neg (by decide),if_pos (by rw [hf];exact h3),hf,if_neg (not_not_intro h1),if_pos h3]
 ·rw [chg_4 h1,Amm h (decide_eq_false h1)]
/-! What an entry of a list that was made is, so that it can be copied -/
theorem Ze {c:RulesD} {x:ItemD} (h:ItemOk (c.kinds.length:Int) x):x.marks.length≤1000000:=by have:=h.2.2.2.1;omega
theorem Ra {l:List EntD} {p n:Nat} {fr:List EntD} {x:EntD} (h:x∈Ea l p n fr):x∈l∨x∈fr:=by
 unfold Ea at h
 rcases List.mem_append.1 h with h | h
 ·rcases List.mem_append.1 h with h | h
  ·exact Or.inl (List.mem_of_mem_take h)
  ·exact Or.inr h
 ·exact Or.inl (List.mem_of_mem_drop h)
theorem Akb {c:RulesD} {l:List EntD} {p n:Nat} {xs:List ItemD} (h:Bw c l=0) (hx:∀ x∈xs,ItemOk (c.kinds.length:Int) x):∀ x∈Ea l p n (xs.map (C8 c)),x.item.marks.length≤1000000:=by
 intro x hm
 rcases Ra hm with hm | hm
 ·exact Ze (N8 h x hm)
 ·obtain ⟨y,hy,rfl⟩:=List.mem_map.1 hm
  exact Ze (hx y hy)
theorem Aka {c:RulesD} {l:List EntD} {p n:Nat} (h:Bw c l=0):∀ x∈Ea l p n [],x.item.marks.length≤1000000:=by
 intro x hm
 rcases Ra hm with hm | hm
 ·exact Ze (N8 h x hm)
 ·simp at hm
theorem mk_mov {c:RulesD} {l:List EntD} {p n q:Nat} (h:Bw c l=0):∀ x∈Pv l p n q,x.item.marks.length≤1000000:=by
 intro x hm
 unfold Pv at hm
 rcases Ra hm with hm | hm
 ·exact Aka h x hm
 ·exact Ze (N8 h x (List.mem_of_mem_drop (List.mem_of_mem_take hm)))
/-! The calls of 'do' -/
def Adg (l:List EntD) (xs:List ItemD) (b mb:Nat) (i:Nat) (R:List Res):Prop:=∃ (es:Array MapEntry) (cl:Nat) (ks:List Nat),R=[.blk b [.map (some mb)] 185,.obj mb (.map es cl)]∧I3 es ks∧∀ q,q∈ks↔Dr l q∨Mc (xs.take i) q
theorem Ye {w0:World} {G0:A4} {l:List EntD} {xs:List ItemD} {b mb:Nat}:KeyC w0 G0 168 [.pointer (some ⟨b,0,none⟩)] xs (Rv l xs) (Adg l xs b mb):=by
 classical
 intro G L R w i x ma mc hG hx hR M hI SM
 obtain ⟨es,cl,ks,rfl,Es,hks⟩:=hR
 refine (Wj M Es hI SM (i:=(i:Int))).mono ?_
 rintro e w' h
 cases e with
 | returned v =>
  obtain ⟨L',M',es',cl',rfl,rfl,h3⟩:=h
  refine ⟨_,M',[.blk b [.map (some mb)] 185,.obj mb (.map es' cl')],by rw [Wp hx];by_cases h4:x.key∈ks;(rw [if_pos h4,if_pos ((hks _).1 h4)]);(rw [if_neg h4,if_neg (fun h5=>h4 ((hks _).2 h5))]),rfl,fun h4=>?_⟩
  have h5:¬ x.key∈ks:=fun h6=>by rw [Wp hx,if_pos ((hks _).1 h6)] at h4;cases h4
  refine ⟨es',cl',x.key::ks,rfl,h3 h5,fun q=>?_⟩
  rw [List.mem_cons,hks q,List.take_add_one,hx]
  constructor
  ·rintro (rfl | h6 | ⟨y,h6,h7⟩)
   ·exact Or.inr ⟨x,by simp,rfl⟩
   ·exact Or.inl h6
   ·exact Or.inr ⟨y,by simp [h6],h7⟩
  ·rintro (h6 | ⟨y,h6,h7⟩)
   ·exact Or.inr (Or.inl h6)
   ·simp only [Option.toList_some,List.mem_append,List.mem_singleton] at h6
    rcases h6 with h6 | rfl
    ·exact Or.inr (Or.inr ⟨y,h6,h7⟩)
    ·exact Or.inl h7.symm
 | panicked c=>exact h.elim
 | outgrown=>exact h.elim
theorem Ru {l:List EntD} {xs:List ItemD} {b mb:Nat} {es:Array MapEntry} {cl:Nat} {ks:List Nat} (Es:I3 es ks) (hks:∀ q,q∈ks↔Dr l q):Adg l xs b mb 0 [.blk b [.map (some mb)] 185,.obj mb (.map es cl)] :=
 ⟨es,cl,ks,rfl,Es,fun q=>by rw [hks q];exact ⟨Or.inl,fun h=>by rcases h with h | ⟨y,hy,_⟩;exact h;simp at hy⟩⟩
theorem Akv {w0 w:World} {G:A4} {L:List Res} {c:RulesD} {kca:Option Addr} {kcc:Nat} (SC:Ay Du 9 G (.slice kca c.kinds.length kcc) c.kinds) {a1:Option Addr} {c1:Nat} {l:List EntD} (S:Ay C2 6 G (.slice a1 l.length c1) l) (hck:Bw c l=0) {ta:Option Addr} {tc:Nat} {xs:List ItemD} (T:Ay Cn 4 G (.slice ta xs.length tc) xs) {z:Int} {b mb b5 b6:Nat} {es:Array MapEntry} {cl:Nat} {ks:List Nat} (M:Mem w0 G (.blk b [.map (some mb)] 185::.obj mb (.map es cl)::L) w) (Es:I3 es ks) (hks:∀ q,q∈ks↔Dr l q)
  (A5:At G b5 0 [.slice a1 l.length c1]) (A6:At G b6 0 [.int .i64 z]) (hN:xs.length≤900000) :
  Calls Tryz.prog 116 #[.agg #[.slice kca c.kinds.length kcc,.int .i64 c.cap],.agg #[.slice a1 l.length c1],.agg #[.bool (decide (Bp z 0 l.length)),.int .i64 ((l.length+xs.length:Nat):Int),.slice ta xs.length tc,.func (.func 168) #[] #[.pointer (some ⟨b,0,none⟩)],.func (.func 161) #[] #[.pointer (some ⟨b5,0,none⟩),.pointer (some ⟨b6,0,none⟩)]]] w (Ij w0 G (Jp L (Eg c l z xs))):=by
 have hl2:=(E9 hck).2.1
 rw [← Aku hck]
 refine O7 (R:=[.blk b [.map (some mb)] 185,.obj mb (.map es cl)]) (Rk:=Adg l xs b mb) M SC S T hck (Ru Es hks) (by omega) (fun _=>Or.inr ⟨168,[.pointer (some ⟨b,0,none⟩)],rfl,Aly,Ye⟩) (fun hi _=>⟨161,[.pointer (some ⟨b5,0,none⟩),.pointer (some ⟨b6,0,none⟩)],rfl,ent161,?_⟩) (fun hi=>?_) (fun hi hx=>Akb hck (Aef hx (Nat.le_refl _)))
 ·have hin:=dT hi
  unfold Bp at hin
  obtain ⟨p,rfl⟩:=Int.eq_ofNat_of_zero_le hin.1.1
  intro G2 L2 w2 a2 c2 hG M2 R2
  exact Ahb M2 (S.mono Ax hG) (A5.mono hG) (A6.mono hG) R2 (by omega) (by omega) (by rw [List.length_map];omega)
 ·have hin:=dT hi
  unfold Bp at hin
  rw [Kh (by omega),List.length_map];omega
theorem Ajb {w0 w:World} {G:A4} {L:List Res} {c:RulesD} {kca:Option Addr} {kcc:Nat} (SC:Ay Du 9 G (.slice kca c.kinds.length kcc) c.kinds) {a1:Option Addr} {c1:Nat} {l:List EntD} (S:Ay C2 6 G (.slice a1 l.length c1) l) (hck:Bw c l=0) {z n:Int} {b5 b6 b7:Nat} (M:Mem w0 G L w) (A5:At G b5 0 [.slice a1 l.length c1]) (A6:At G b6 0 [.int .i64 z]) (A7:At G b7 0 [.int .i64 n]) :
  Calls Tryz.prog 116 #[.agg #[.slice kca c.kinds.length kcc,.int .i64 c.cap],.agg #[.slice a1 l.length c1],.agg #[.bool (decide (Bp z n l.length)),.int .i64 0,.slice none 0 0,.nilFunc,.func (.func 118) #[] #[.pointer (some ⟨b5,0,none⟩),.pointer (some ⟨b6,0,none⟩),.pointer (some ⟨b7,0,none⟩)]]] w (Ij w0 G (Jp L (Hu l z n))):=by
 have hl2:=(E9 hck).2.1
 rw [← rem_do (fK:=fun _=>0) hck]
 refine O7 (xs:=[]) (R:=[]) (Rk:=fun _ _=>True) M SC S Ay.nil hck trivial (by decide) (fun _=>Or.inl rfl) (fun hi _=>⟨118,[.pointer (some ⟨b5,0,none⟩),.pointer (some ⟨b6,0,none⟩),.pointer (some ⟨b7,0,none⟩)],rfl,ent118,?_⟩) (fun hi=>?_) (fun hi hx=>Aka hck)
 ·have hin:=dT hi
  unfold Bp at hin
  obtain ⟨p,rfl⟩:=Int.eq_ofNat_of_zero_le hin.1.1
  obtain ⟨m,rfl⟩:=Int.eq_ofNat_of_zero_le hin.2.1
  intro G2 L2 w2 a2 c2 hG M2 R2
  exact Afu M2 (S.mono Ax hG) (A5.mono hG) (A6.mono hG) (A7.mono hG) R2 (by omega) (by omega)
 ·have hin:=dT hi
  unfold Bp at hin
  rw [Mu (by omega)];omega
theorem Zc {w0 w:World} {G:A4} {L:List Res} {c:RulesD} {kca:Option Addr} {kcc:Nat} (SC:Ay Du 9 G (.slice kca c.kinds.length kcc) c.kinds) {a1:Option Addr} {c1:Nat} {l:List EntD} (S:Ay C2 6 G (.slice a1 l.length c1) l) (hck:Bw c l=0) {z n q:Int} {b5 b6 b7 b8:Nat} {ins:Bool} (hi:ins=true↔Bp z n l.length∧Bp q 0 (l.length - n)) (M:Mem w0 G L w) (A5:At G b5 0 [.slice a1 l.length c1]) (A6:At G b6 0 [.int .i64 z]) (A7:At G b7 0 [.int .i64 n]) (A8:At G b8 0 [.int .i64 q]) :
  Calls Tryz.prog 116 #[.agg #[.slice kca c.kinds.length kcc,.int .i64 c.cap],.agg #[.slice a1 l.length c1],.agg #[.bool ins,.int .i64 0,.slice none 0 0,.nilFunc,.func (.func 162) #[] #[.pointer (some ⟨b5,0,none⟩),.pointer (some ⟨b6,0,none⟩),.pointer (some ⟨b7,0,none⟩),.pointer (some ⟨b8,0,none⟩)]]] w (Ij w0 G (Jp L (Fy l z n q))):=by
 have hl2:=(E9 hck).2.1
 rw [← mov_do (fK:=fun _=>0) hck hi]
 refine O7 (xs:=[]) (R:=[]) (Rk:=fun _ _=>True) M SC S Ay.nil hck trivial (by decide) (fun _=>Or.inl rfl) (fun h _=>⟨162,[.pointer (some ⟨b5,0,none⟩),.pointer (some ⟨b6,0,none⟩),.pointer (some ⟨b7,0,none⟩),.pointer (some ⟨b8,0,none⟩)],rfl,ent162,?_⟩) (fun h=>?_) (fun _ hx=>mk_mov hck)
 ·have hin:=hi.1 h
  unfold Bp at hin
  obtain ⟨p,rfl⟩:=Int.eq_ofNat_of_zero_le hin.1.1.1
  obtain ⟨m,rfl⟩:=Int.eq_ofNat_of_zero_le hin.1.2.1
  obtain ⟨k,rfl⟩:=Int.eq_ofNat_of_zero_le hin.2.1.1
  intro G2 L2 w2 a2 c2 hG M2 R2
  exact Agm M2 (S.mono Ax hG) (A5.mono hG) (A6.mono hG) (A7.mono hG) (A8.mono hG) R2 (by omega) (by omega) (by omega)
 ·have hin:=hi.1 h
  unfold Bp at hin
  unfold Pv
  have h5:=Mu (l:=l) (p:=z.toNat) (n:=n.toNat) (by omega)
  rw [Kh (by omega),h5,List.length_take,List.length_drop];omega
theorem Amu {w0 w:World} {G:A4} {L:List Res} {c:RulesD} {kca:Option Addr} {kcc:Nat} (SC:Ay Du 9 G (.slice kca c.kinds.length kcc) c.kinds) {a1:Option Addr} {c1:Nat} {l:List EntD} (S:Ay C2 6 G (.slice a1 l.length c1) l) (hck:Bw c l=0) {ta:Option Addr} {tc:Nat} {xs:List ItemD} (T:Ay Cn 4 G (.slice ta xs.length tc) xs) {z:Int} {b5 b6 b9:Nat} (M:Mem w0 G L w) (A5:At G b5 0 [.slice a1 l.length c1]) (A6:At G b6 0 [.int .i64 z]) (A9:At G b9 0 [.slice ta xs.length tc]) (hN:xs.length≤900000) :
  Calls Tryz.prog 116 #[.agg #[.slice kca c.kinds.length kcc,.int .i64 c.cap],.agg #[.slice a1 l.length c1],.agg #[.bool (decide (Bp z xs.length l.length)),.int .i64 0,.slice ta xs.length tc,.func (.func 163) #[] #[.pointer (some ⟨b5,0,none⟩),.pointer (some ⟨b6,0,none⟩)],.func (.func 164) #[] #[.pointer (some ⟨b5,0,none⟩),.pointer (some ⟨b6,0,none⟩),.pointer (some ⟨b9,0,none⟩)]]] w (Ij w0 G (Jp L (Ha c l z xs))):=by
 have hl2:=(E9 hck).2.1
 rw [← chg_do hck]
 refine O7 (R:=[]) (Rk:=fun _ R=>R=[]) M SC S T hck rfl (by omega) (fun hi=>Or.inr ⟨163,[.pointer (some ⟨b5,0,none⟩),.pointer (some ⟨b6,0,none⟩)],rfl,ent163,?_⟩) (fun hi _=>⟨164,[.pointer (some ⟨b5,0,none⟩),.pointer (some ⟨b6,0,none⟩),.pointer (some ⟨b9,0,none⟩)],rfl,ent164,?_⟩) (fun hi=>?_) (fun hi hx=>Akb hck (Aef hx (Nat.le_refl _)))
 ·have hin:=dT hi
  unfold Bp at hin
  obtain ⟨p,rfl⟩:=Int.eq_ofNat_of_zero_le hin.1.1
  intro G2 L2 R2 w2 i x ma mc hG hx hR M2 hI SM
  subst hR
  obtain ⟨y,hy⟩:=Be (xs:=l) (i:=p+i) (by have:=Bj hx;omega)
  refine (Ahr M2 (S.mono Ax hG) (A5.mono hG) (A6.mono hG) hI SM hy (by omega)).mono ?_
  rintro e w' h
  cases e with
  | returned v=>exact ⟨_,h.1,[],by rw [h.2,Int.toNat_natCast,Vg hx hy],rfl,fun _=>rfl⟩
  | panicked c=>exact h.elim
  | outgrown=>exact h.elim
 ·have hin:=dT hi
  unfold Bp at hin
  obtain ⟨p,rfl⟩:=Int.eq_ofNat_of_zero_le hin.1.1
  intro G2 L2 w2 a2 c2 hG M2 R2
  exact Ahq M2 (S.mono Ax hG) (A5.mono hG) (A6.mono hG) (T.mono A0 hG) (A9.mono hG) R2 (by omega) (by omega) (by rw [List.length_map];omega)
 ·have hin:=dT hi
  unfold Bp at hin
  rw [Kh (by omega),List.length_map];omega
theorem res_eq {c:RulesD} {xs:List ItemD} (l:List EntD) (h:Bw c l=0):doR (Bw c l) true ((xs.length:Nat):Int) (J6 c xs (Rv [] xs)) xs.length (xs.map (C8 c))=Eg c [] 0 xs:=by
 have hc:=(E9 h).1
 have h9:Bw c []=0:=by rw [Jh hc (by decide) (i:=0) rfl (Nat.le_refl _)];rfl
 rw [← Aku h9,h,h9,decide_eq_true (show Bp 0 0 ([]:List EntD).length by decide)]
 have h1:Ea [] (0:Int).toNat 0 (xs.map (C8 c))=xs.map (C8 c):=by simp [Ea]
 rw [h1,show ([]:List EntD).length+xs.length=xs.length from Nat.zero_add _]
theorem Aix {w0 w:World} {G:A4} {L:List Res} {c:RulesD} {kca:Option Addr} {kcc:Nat} (SC:Ay Du 9 G (.slice kca c.kinds.length kcc) c.kinds) {a1:Option Addr} {c1:Nat} {l:List EntD} (S:Ay C2 6 G (.slice a1 l.length c1) l) (hck:Bw c l=0) {ta:Option Addr} {tc:Nat} {xs:List ItemD} (T:Ay Cn 4 G (.slice ta xs.length tc) xs) {b mb:Nat} {es:Array MapEntry} {cl:Nat} {ks:List Nat} (M:Mem w0 G (.blk b [.map (some mb)] 185::.obj mb (.map es cl)::L) w) (Es:I3 es ks) (hks:∀ q,q∈ks↔Dr [] q) (hN:xs.length≤900000) :
  Calls Tryz.prog 116 #[.agg #[.slice kca c.kinds.length kcc,.int .i64 c.cap],.agg #[.slice a1 l.length c1],.agg #[.bool true,.int .i64 ((xs.length:Nat):Int),.slice ta xs.length tc,.func (.func 168) #[] #[.pointer (some ⟨b,0,none⟩)],.func (.func 140) #[] #[]]] w (Ij w0 G (Jp L (Eg c [] 0 xs))):=by
 rw [← res_eq l hck]
 refine O7 (R:=[.blk b [.map (some mb)] 185,.obj mb (.map es cl)]) (Rk:=Adg [] xs b mb) M SC S T hck (Ru Es hks) (by omega) (fun _=>Or.inr ⟨168,[.pointer (some ⟨b,0,none⟩)],rfl,Aly,Ye⟩) (fun hi _=>⟨140,[],rfl,ent140,?_⟩) (fun hi=>?_) (fun hi hx=>?_)
 ·intro G2 L2 w2 a2 c2 hG M2 R2
  exact Afq M2 R2
 ·rw [List.length_map];omega
 ·intro x hm
  obtain ⟨y,hy,rfl⟩:=List.mem_map.1 hm
  exact Ze (Aef hx (Nat.le_refl _) y hy)
open Go Go.Y Go.Proofs
variable {w0 w:World} {G:A4} {L:List Res}
set_option linter.unusedSimpArgs false
set_option linter.unusedVariables false
theorem V9 {c:RulesD} (h:E4 c):Bw c []=0:=by
 rw [Jh h (by decide) (i:=0) rfl (Nat.le_refl _)];rfl
theorem Xc (M:Mem w0 G L w) {c:RulesD} {kca:Option Addr} {kcc:Nat} (SC:Ay Du 9 G (.slice kca c.kinds.length kcc) c.kinds) {a1:Option Addr} {c1:Nat} {l:List EntD} (S:Ay C2 6 G (.slice a1 l.length c1) l) (hck:Bw c l=0) {z:Int} {ta:Option Addr} {tc:Nat} {xs:List ItemD} (T:Ay Cn 4 G (.slice ta xs.length tc) xs) (hN:xs.length≤900000):Calls Tryz.prog 123 #[.agg #[.slice kca c.kinds.length kcc,.int .i64 c.cap],.agg #[.slice a1 l.length c1],.int .i64 z,.slice ta xs.length tc] w (Ij w0 G (Jp L (Eg c l z xs))):=by
 have bS:=S.bound
 have bT:=T.bound
 refine Az (vs:=[_,_,_,_]) Tryz.func123 rfl (n:=32) rfl rfl<|Ab<|Ac<|C4 M rfl rfl rfl<|?_;clear M;intro b1 w M
 refine C4 M rfl rfl rfl<|?_;clear M;intro b2 w M
 refine C4 M rfl rfl rfl<|?_;clear M;intro b3 w M
 refine Cz M Bb rfl rfl<|?_;clear M;intro b4 w M
 refine Af rfl<|Aa<|Ad<|Ab<|?_
 obtain ⟨Gq6,hGq6,hbq6,M⟩:=M.freeze (k:=2) rfl
 have Aq6:At Gq6 b2 0 [.slice a1 l.length c1]:=At.of_cells hbq6
 clear hbq6
 replace SC:=SC.mono Bg hGq6
 replace S:=S.mono Ax hGq6
 replace T:=T.mono A0 hGq6
 change Mem w0 Gq6 (.blk b4 [.slice none 0 0] 54::.blk b3 [.int .i64 z] 3::.blk b1 [.slice kca c.kinds.length kcc,.int .i64 c.cap] 51::L) _ at M
 obtain ⟨Gq7,hGq7,hbq7,M⟩:=M.freeze (k:=1) rfl
 have Aq7:At Gq7 b3 0 [.int .i64 z]:=At.of_cells hbq7
 clear hbq7
 replace SC:=SC.mono Bg hGq7
 replace S:=S.mono Ax hGq7
 replace T:=T.mono A0 hGq7
 replace Aq6:=Aq6.mono hGq7
 change Mem w0 Gq7 (.blk b4 [.slice none 0 0] 54::.blk b1 [.slice kca c.kinds.length kcc,.int .i64 c.cap] 51::L) _ at M
 intro a F
 refine Fw [(true,0),(true,1),(true,2),(true,3),(true,4),(true,5),(true,7),(true,8),(true,9),(true,10),(true,11),(true,12),(true,13),(true,14),(true,15),(true,17),(false,6),(false,16),(true,18),(false,19),(true,20),(true,21),(false,22),(true,23)] (Keep Gq7 [.blk b1 [.slice kca c.kinds.length kcc,.int .i64 c.cap] 51]) rfl (by kernel_rfl) (fun c a d v w h=>by cases d <;> exact h) ((M.drew _).keep (Gle.refl _) (by simp)) ?_
 replace M:=M.drew (w.drawn+1)
 revert a
 refine l_r (fun a F w M=>Am Dv rfl (F.ev rfl) (cs:=[.slice kca c.kinds.length kcc,.int .i64 c.cap]) rfl (M.cellsL (k:=0) rfl rfl)) rfl<|l_r (fun a F w M=>Am Bb rfl (F.ev rfl) (cs:=[.slice a1 l.length c1]) rfl (M.cellsA Aq6 0 (by omega) rfl)) rfl<|l_r (fun a F w M=>Aq (agf B7 rfl) (F.ev rfl) (M.cellA Aq7 0 (by omega) rfl)) rfl<|l_r (fun a F w M=>Co Bb.k rfl F rfl) rfl<|l_r (fun a F w M=>Aq (agf C3 rfl) (F.ev rfl) (M.cellA Aq6 0 rfl rfl)) rfl<|l_r (fun a F w M=>Dx C3.k (F.ev rfl)) rfl<|l_r (fun a F w M=>Co Bb.k rfl F rfl) rfl<|l_r (fun a F w M=>Aq (agf C3 rfl) (F.ev rfl) (M.cellA Aq6 0 rfl rfl)) rfl<|l_r (fun a F w M=>Dx C3.k (F.ev rfl)) rfl<|l_r (fun a F w M=>Cj F rfl) rfl<|l_r (fun a F w M=>Dx B5.k (F.ev rfl)) rfl<|l_r (fun a F w M=>Fj (F.ev rfl) (F.ev rfl) (Cr (by (have h9_:=(E9 hck).2.1;omega)) (by (have h9_:=(E9 hck).2.1;omega)))) rfl<|l_r (fun a F w M=>Cj F rfl) rfl<|l_r (fun a F w M=>Co Bb.k rfl F rfl) rfl<|l_r (fun a F w M=>Aq (agf C3 rfl) (F.ev rfl) (M.cellA Aq6 0 rfl rfl)) rfl<|l_r (fun a F w M=>Dk (vs:=#[.pointer (some ⟨b2,0,none⟩),.pointer (some ⟨b3,0,none⟩)]) (by simp only [List.map_toArray,List.map_cons,List.map_nil,F.ev (x:=.tmp 5) rfl,F.ev (x:=.tmp 6) rfl])) rfl<|l_a rfl<|Br Tp rfl rfl (Io (z:=z) (n:=0) (m:=((l.length:Nat):Int)) M (by omega))<|?_;clear M;rintro _ w M rfl
 refine Aa<|eK (C':=Keep Gq7 [.blk b1 [.slice kca c.kinds.length kcc,.int .i64 c.cap] 51]) (M.keep (Gle.refl _) (by simp)) (fun w h=>h.mono (Gle.refl _) (by simp))<|l_a rfl<|Pi Amd rfl rfl (Qf (c:=c) (l:=l) M S hck)<|?_;clear M;rintro _ _ w M ⟨buu8,mbu8,esu8,clu8,ksu8,rfl,rfl,Esu8,hksu8⟩
 refine Aa<|eK (C':=Keep Gq7 [.blk b1 [.slice kca c.kinds.length kcc,.int .i64 c.cap] 51]) (M.keep (Gle.refl _) (by simp)) (fun w h=>h.mono (Gle.refl _) (by simp))<|l_r (fun a F w M=>Ba (cs:=[.bool (decide (Bp z 0 ((l.length:Nat):Int))),.int .i64 (((l.length:Nat):Int)+((xs.length:Nat):Int)),.slice ta xs.length tc,.func (.func 168) #[] #[.pointer (some ⟨buu8,0,none⟩)],.func (.func 161) #[] #[.pointer (some ⟨b2,0,none⟩),.pointer (some ⟨b3,0,none⟩)]]) (ps:=[(0,.bool (decide (Bp z 0 ((l.length:Nat):Int)))),(1,.int .i64 (((l.length:Nat):Int)+((xs.length:Nat):Int))),(2,.slice ta xs.length tc),(3,.func (.func 168) #[] #[.pointer (some ⟨buu8,0,none⟩)]),(4,.func (.func 161) #[] #[.pointer (some ⟨b2,0,none⟩),.pointer (some ⟨b3,0,none⟩)])]) Gb.k rfl Gb (F.evp rfl) rfl) rfl<|l_a rfl<|?_
 replace M:=M.perm (Ao _ 1 _ rfl)
 replace M:=M.perm (Ao _ 1 _ rfl)
 change Mem w0 Gq7 (_::_::_::_::L) _ at M
 intro a F
 refine Dz F P6 rfl rfl (Akv SC S hck T M Esu8 hksu8 Aq6 Aq7 hN) ?_;clear F M a;rintro _ Gq9 _ w a hGq9 M ⟨aoq9,csq9,Loq9,rfl,rfl,Eoq9⟩ F
 replace SC:=SC.mono Bg hGq9
 replace S:=S.mono Ax hGq9
 replace T:=T.mono A0 hGq9
 replace Aq6:=Aq6.mono hGq9
 replace Aq7:=Aq7.mono hGq9
 have M:=M.perm (Cm (Cw aoq9 (Eg c l z xs).1.length csq9::Loq9) [.blk b4 [.slice none 0 0] 54,.blk b1 [.slice kca c.kinds.length kcc,.int .i64 c.cap] 51] L)
 change Mem w0 Gq9 (.blk b4 [.slice none 0 0] 54::.blk b1 [.slice kca c.kinds.length kcc,.int .i64 c.cap] 51::((Cw aoq9 (Eg c l z xs).1.length csq9::Loq9)++L)) _ at M
 revert a
 refine Aa<|eK (C':=Keep Gq9 [.blk b1 [.slice kca c.kinds.length kcc,.int .i64 c.cap] 51]) (M.keep (Gle.refl _) (by simp)) (fun w h=>h.mono hGq9 (by simp))<|l_r (fun a F w M=>Cs (v:=.agg #[.slice aoq9 ((Eg c l z xs).1.length) ((Eg c l z xs).1.length)]) (F.ev rfl) rfl) rfl<|l_r (fun a F w M=>Cs (v:=.int .i64 ((Eg c l z xs).2)) (F.ev rfl) rfl) rfl<|l_a rfl<|fun a F=>?_
 refine Ar F M Bb (k:=0) rfl rfl rfl (us:=[.slice aoq9 ((Eg c l z xs).1.length) ((Eg c l z xs).1.length)]) rfl rfl (by simp [Value.oneCell']) (by simp) ?_;clear F M a;intro w a M F
 change Mem w0 Gq9 (.blk b4 [.slice aoq9 ((Eg c l z xs).1.length) ((Eg c l z xs).1.length)] 54::_::((Cw aoq9 (Eg c l z xs).1.length csq9::Loq9)++L)) _ at M
 revert a
 refine Aa<|eK (C':=Keep Gq9 [.blk b1 [.slice kca c.kinds.length kcc,.int .i64 c.cap] 51]) (M.keep (Gle.refl _) (by simp)) (fun w h=>h.mono (Gle.refl _) (by simp))<|l_r (fun a F w M=>Gm F rfl) rfl<|Gx<|Ad<|Aj<|fun a F=>Cb F M (k:=0) rfl rfl Bb rfl rfl rfl rfl ?_
 exact ⟨_,_,((hGq6.trans hGq7).trans hGq9),M.weaken (.cons _ (.cons _ (sR _))),aoq9,csq9,Loq9,rfl,rfl,Eoq9⟩
theorem Oz (M:Mem w0 G L w) {c:RulesD} {kca:Option Addr} {kcc:Nat} (SC:Ay Du 9 G (.slice kca c.kinds.length kcc) c.kinds) {a1:Option Addr} {c1:Nat} {l:List EntD} (S:Ay C2 6 G (.slice a1 l.length c1) l) (hck:Bw c l=0) {z n:Int}:Calls Tryz.prog 69 #[.agg #[.slice kca c.kinds.length kcc,.int .i64 c.cap],.agg #[.slice a1 l.length c1],.int .i64 z,.int .i64 n] w (Ij w0 G (Jp L (Hu l z n))):=by
 have bS:=S.bound
 refine Az (vs:=[_,_,_,_]) Tryz.func69 rfl (n:=23) rfl rfl<|Ab<|Ac<|C4 M rfl rfl rfl<|?_;clear M;intro b1 w M
 refine C4 M rfl rfl rfl<|?_;clear M;intro b2 w M
 refine C4 M rfl rfl rfl<|?_;clear M;intro b3 w M
 refine C4 M rfl rfl rfl<|?_;clear M;intro b4 w M
 refine Cz M Bb rfl rfl<|?_;clear M;intro b5 w M
 refine Af rfl<|Aa<|Ad<|Ab<|?_
 obtain ⟨Gq7,hGq7,hbq7,M⟩:=M.freeze (k:=3) rfl
 have Aq7:At Gq7 b2 0 [.slice a1 l.length c1]:=At.of_cells hbq7
 clear hbq7
 replace SC:=SC.mono Bg hGq7
 replace S:=S.mono Ax hGq7
 change Mem w0 Gq7 (.blk b5 [.slice none 0 0] 54::.blk b4 [.int .i64 n] 3::.blk b3 [.int .i64 z] 3::.blk b1 [.slice kca c.kinds.length kcc,.int .i64 c.cap] 51::L) _ at M
 obtain ⟨Gq8,hGq8,hbq8,M⟩:=M.freeze (k:=2) rfl
 have Aq8:At Gq8 b3 0 [.int .i64 z]:=At.of_cells hbq8
 clear hbq8
 replace SC:=SC.mono Bg hGq8
 replace S:=S.mono Ax hGq8
 replace Aq7:=Aq7.mono hGq8
 change Mem w0 Gq8 (.blk b5 [.slice none 0 0] 54::.blk b4 [.int .i64 n] 3::.blk b1 [.slice kca c.kinds.length kcc,.int .i64 c.cap] 51::L) _ at M
 obtain ⟨Gq9,hGq9,hbq9,M⟩:=M.freeze (k:=1) rfl
 have Aq9:At Gq9 b4 0 [.int .i64 n]:=At.of_cells hbq9
 clear hbq9
 replace SC:=SC.mono Bg hGq9
 replace S:=S.mono Ax hGq9
 replace Aq7:=Aq7.mono hGq9
 replace Aq8:=Aq8.mono hGq9
 change Mem w0 Gq9 (.blk b5 [.slice none 0 0] 54::.blk b1 [.slice kca c.kinds.length kcc,.int .i64 c.cap] 51::L) _ at M
 intro a F
 refine Fw [(true,0),(true,1),(true,2),(true,3),(true,4),(true,5),(true,6),(true,8),(false,7),(true,9),(false,10),(true,11),(true,12),(false,13),(true,14)] (Keep Gq9 [.blk b1 [.slice kca c.kinds.length kcc,.int .i64 c.cap] 51]) rfl (by kernel_rfl) (fun c a d v w h=>by cases d <;> exact h) ((M.drew _).keep (Gle.refl _) (by simp)) ?_
 replace M:=M.drew (w.drawn+1)
 revert a
 refine l_r (fun a F w M=>Am Dv rfl (F.ev rfl) (cs:=[.slice kca c.kinds.length kcc,.int .i64 c.cap]) rfl (M.cellsL (k:=0) rfl rfl)) rfl<|l_r (fun a F w M=>Am Bb rfl (F.ev rfl) (cs:=[.slice a1 l.length c1]) rfl (M.cellsA Aq7 0 (by omega) rfl)) rfl<|l_r (fun a F w M=>Aq (agf B7 rfl) (F.ev rfl) (M.cellA Aq8 0 (by omega) rfl)) rfl<|l_r (fun a F w M=>Aq (agf B7 rfl) (F.ev rfl) (M.cellA Aq9 0 (by omega) rfl)) rfl<|l_r (fun a F w M=>Co Bb.k rfl F rfl) rfl<|l_r (fun a F w M=>Aq (agf C3 rfl) (F.ev rfl) (M.cellA Aq7 0 rfl rfl)) rfl<|l_r (fun a F w M=>Dx C3.k (F.ev rfl)) rfl<|l_r (fun a F w M=>Dk (vs:=#[.pointer (some ⟨b2,0,none⟩),.pointer (some ⟨b3,0,none⟩),.pointer (some ⟨b4,0,none⟩)]) (by simp only [List.map_toArray,List.map_cons,List.map_nil,F.ev (x:=.tmp 5) rfl,F.ev (x:=.tmp 6) rfl,F.ev (x:=.tmp 7) rfl])) rfl<|l_a rfl<|Br Tp rfl rfl (Io (z:=z) (n:=n) (m:=((l.length:Nat):Int)) M (by omega))<|?_;clear M;rintro _ w M rfl
 refine Aa<|eK (C':=Keep Gq9 [.blk b1 [.slice kca c.kinds.length kcc,.int .i64 c.cap] 51]) (M.keep (Gle.refl _) (by simp)) (fun w h=>h.mono (Gle.refl _) (by simp))<|l_r (fun a F w M=>Ba (cs:=[.bool (decide (Bp z n ((l.length:Nat):Int))),.int .i64 0,.slice none 0 0,.nilFunc,.func (.func 118) #[] #[.pointer (some ⟨b2,0,none⟩),.pointer (some ⟨b3,0,none⟩),.pointer (some ⟨b4,0,none⟩)]]) (ps:=[(0,.bool (decide (Bp z n ((l.length:Nat):Int)))),(4,.func (.func 118) #[] #[.pointer (some ⟨b2,0,none⟩),.pointer (some ⟨b3,0,none⟩),.pointer (some ⟨b4,0,none⟩)])]) Gb.k rfl Gb (F.evp rfl) rfl) rfl<|l_a rfl<|fun a F=>?_
 refine Dz F P6 rfl rfl (Ajb SC S hck M Aq7 Aq8 Aq9) ?_;clear F M a;rintro _ Gq10 _ w a hGq10 M ⟨aoq10,csq10,Loq10,rfl,rfl,Eoq10⟩ F
 replace SC:=SC.mono Bg hGq10
 replace S:=S.mono Ax hGq10
 replace Aq7:=Aq7.mono hGq10
 replace Aq8:=Aq8.mono hGq10
 replace Aq9:=Aq9.mono hGq10
 have M:=M.perm (Cm (Cw aoq10 (Hu l z n).1.length csq10::Loq10) [.blk b5 [.slice none 0 0] 54,.blk b1 [.slice kca c.kinds.length kcc,.int .i64 c.cap] 51] L)
 change Mem w0 Gq10 (.blk b5 [.slice none 0 0] 54::.blk b1 [.slice kca c.kinds.length kcc,.int .i64 c.cap] 51::((Cw aoq10 (Hu l z n).1.length csq10::Loq10)++L)) _ at M
 revert a
 refine Aa<|eK (C':=Keep Gq10 [.blk b1 [.slice kca c.kinds.length kcc,.int .i64 c.cap] 51]) (M.keep (Gle.refl _) (by simp)) (fun w h=>h.mono hGq10 (by simp))<|l_r (fun a F w M=>Cs (v:=.agg #[.slice aoq10 ((Hu l z n).1.length) ((Hu l z n).1.length)]) (F.ev rfl) rfl) rfl<|l_r (fun a F w M=>Cs (v:=.int .i64 ((Hu l z n).2)) (F.ev rfl) rfl) rfl<|l_a rfl<|fun a F=>?_
 refine Ar F M Bb (k:=0) rfl rfl rfl (us:=[.slice aoq10 ((Hu l z n).1.length) ((Hu l z n).1.length)]) rfl rfl (by simp [Value.oneCell']) (by simp) ?_;clear F M a;intro w a M F
 change Mem w0 Gq10 (.blk b5 [.slice aoq10 ((Hu l z n).1.length) ((Hu l z n).1.length)] 54::_::((Cw aoq10 (Hu l z n).1.length csq10::Loq10)++L)) _ at M
 revert a
 refine Aa<|eK (C':=Keep Gq10 [.blk b1 [.slice kca c.kinds.length kcc,.int .i64 c.cap] 51]) (M.keep (Gle.refl _) (by simp)) (fun w h=>h.mono (Gle.refl _) (by simp))<|l_r (fun a F w M=>Gm F rfl) rfl<|Gx<|Ad<|Aj<|fun a F=>Cb F M (k:=0) rfl rfl Bb rfl rfl rfl rfl ?_
 exact ⟨_,_,(((hGq7.trans hGq8).trans hGq9).trans hGq10),M.weaken (.cons _ (.cons _ (sR _))),aoq10,csq10,Loq10,rfl,rfl,Eoq10⟩
theorem Acf (M:Mem w0 G L w) {c:RulesD} {kca:Option Addr} {kcc:Nat} (SC:Ay Du 9 G (.slice kca c.kinds.length kcc) c.kinds) {a1:Option Addr} {c1:Nat} {l:List EntD} (S:Ay C2 6 G (.slice a1 l.length c1) l) (hck:Bw c l=0) {z n q:Int}:Calls Tryz.prog 126 #[.agg #[.slice kca c.kinds.length kcc,.int .i64 c.cap],.agg #[.slice a1 l.length c1],.int .i64 z,.int .i64 n,.int .i64 q] w (Ij w0 G (Jp L (Fy l z n q))):=by
 have bS:=S.bound
 refine Az (vs:=[_,_,_,_,_]) Tryz.func126 rfl (n:=36) rfl rfl<|Ab<|Ac<|C4 M rfl rfl rfl<|?_;clear M;intro b1 w M
 refine C4 M rfl rfl rfl<|?_;clear M;intro b2 w M
 refine C4 M rfl rfl rfl<|?_;clear M;intro b3 w M
 refine C4 M rfl rfl rfl<|?_;clear M;intro b4 w M
 refine C4 M rfl rfl rfl<|?_;clear M;intro b5 w M
 refine Cz M Bb rfl rfl<|?_;clear M;intro b6 w M
 refine Af rfl<|Aa<|Ad<|Ab<|?_
 obtain ⟨Gq8,hGq8,hbq8,M⟩:=M.freeze (k:=4) rfl
 have Aq8:At Gq8 b2 0 [.slice a1 l.length c1]:=At.of_cells hbq8
 clear hbq8
 replace SC:=SC.mono Bg hGq8
 replace S:=S.mono Ax hGq8
 change Mem w0 Gq8 (.blk b6 [.slice none 0 0] 54::.blk b5 [.int .i64 q] 3::.blk b4 [.int .i64 n] 3::.blk b3 [.int .i64 z] 3::.blk b1 [.slice kca c.kinds.length kcc,.int .i64 c.cap] 51::L) _ at M
 obtain ⟨Gq9,hGq9,hbq9,M⟩:=M.freeze (k:=3) rfl
 have Aq9:At Gq9 b3 0 [.int .i64 z]:=At.of_cells hbq9
 clear hbq9
 replace SC:=SC.mono Bg hGq9
 replace S:=S.mono Ax hGq9
 replace Aq8:=Aq8.mono hGq9
 change Mem w0 Gq9 (.blk b6 [.slice none 0 0] 54::.blk b5 [.int .i64 q] 3::.blk b4 [.int .i64 n] 3::.blk b1 [.slice kca c.kinds.length kcc,.int .i64 c.cap] 51::L) _ at M
 obtain ⟨Gq10,hGq10,hbq10,M⟩:=M.freeze (k:=2) rfl
 have Aq10:At Gq10 b4 0 [.int .i64 n]:=At.of_cells hbq10
 clear hbq10
 replace SC:=SC.mono Bg hGq10
 replace S:=S.mono Ax hGq10
 replace Aq8:=Aq8.mono hGq10
 replace Aq9:=Aq9.mono hGq10
 change Mem w0 Gq10 (.blk b6 [.slice none 0 0] 54::.blk b5 [.int .i64 q] 3::.blk b1 [.slice kca c.kinds.length kcc,.int .i64 c.cap] 51::L) _ at M
 obtain ⟨Gq11,hGq11,hbq11,M⟩:=M.freeze (k:=1) rfl
 have Aq11:At Gq11 b5 0 [.int .i64 q]:=At.of_cells hbq11
 clear hbq11
 replace SC:=SC.mono Bg hGq11
 replace S:=S.mono Ax hGq11
 replace Aq8:=Aq8.mono hGq11
 replace Aq9:=Aq9.mono hGq11
 replace Aq10:=Aq10.mono hGq11
 change Mem w0 Gq11 (.blk b6 [.slice none 0 0] 54::.blk b1 [.slice kca c.kinds.length kcc,.int .i64 c.cap] 51::L) _ at M
 refine Ac<|D4 B7 M Aq9 0 rfl rfl (by omega) rfl<|D4 B7 M Aq10 0 rfl rfl (by omega) rfl<|Bc Bb.k rfl rfl<|D4 C3 M Aq8 0 rfl rfl rfl rfl<|Cg C3.k rfl<|Br Tp rfl rfl (Io (z:=z) (n:=n) (m:=((l.length:Nat):Int)) M (by omega))<|?_;clear M;rintro _ w M rfl
 refine Af rfl<|Aa<|Ad<|Ab<|fun a F=>Fm [(.pure,0),(.pure,1),(.free,2),(.free,3),(.pure,4),(.free,5),(.pure,6),(.pure,7),(.pure,8),(.free,9),(.free,12),(.keep,10),(.free,11),(.free,13),(.keep,14),(.free,15),(.free,16),(.chg,17),(.free,18)] [17] (Keep Gq11 [.blk b1 [.slice kca c.kinds.length kcc,.int .i64 c.cap] 51]) rfl (by kernel_rfl) (fun c a d v w h=>by cases d <;> exact h) ((M.drew _).keep (Gle.refl _) (by simp)) ?_
 replace M:=M.drew (w.drawn+1)
 revert a
 refine k_p (fun a F w M=>Am Dv rfl (F.ev rfl) (cs:=[.slice kca c.kinds.length kcc,.int .i64 c.cap]) rfl (M.cellsL (k:=0) rfl rfl)) rfl<|k_p (fun a F w M=>Am Bb rfl (F.ev rfl) (cs:=[.slice a1 l.length c1]) rfl (M.cellsA Aq8 0 (by omega) rfl)) rfl<|k_f (fun a F w _=>Cj F rfl) rfl<|k_f (fun a F w _=>Cj F rfl) rfl<|?_
 rcases bE (decide (Bp z n ((l.length:Nat):Int))) with h12b | h14b
 ·skip
  have h12:=dT h12b
  have hin1:=h12
  unfold Bp at hin1
  refine Ig rfl h12b (fun a F w M=>Aq (agf B7 rfl) (F.ev rfl) (M.cellA Aq11 0 (by omega) rfl))<|Db rfl h12b (fun a F w _=>Co Bb.k rfl F rfl)<|Ig rfl h12b (fun a F w M=>Aq (agf C3 rfl) (F.ev rfl) (M.cellA Aq8 0 rfl rfl))<|Ig rfl h12b (fun a F w M=>Dx C3.k (F.ev rfl))<|Ig rfl h12b (fun a F w M=>Aq (agf B7 rfl) (F.ev rfl) (M.cellA Aq10 0 (by omega) rfl))<|Db rfl h12b (fun a F w _=>Lw (F.ev rfl) (F.ev rfl) (Cr (by omega) (by omega)))<|k_f (fun a F w _=>Dk (vs:=#[.pointer (some ⟨b2,0,none⟩),.pointer (some ⟨b3,0,none⟩),.pointer (some ⟨b4,0,none⟩),.pointer (some ⟨b5,0,none⟩)]) (by simp only [List.map_toArray,List.map_cons,List.map_nil,F.ev (x:=.tmp 6) rfl,F.ev (x:=.tmp 7) rfl,F.ev (x:=.tmp 8) rfl,F.ev (x:=.tmp 9) rfl])) rfl<|fun a F=>Hi F rfl rfl h12b ?_
  revert a
  refine g_t rfl h12b<|Br Tp rfl rfl (Io (z:=q) (n:=0) (m:=((l.length:Nat):Int) - n) M (by omega))<|?_;clear M;rintro _ w M rfl
  refine Aa<|eK (C':=Keep Gq11 [.blk b1 [.slice kca c.kinds.length kcc,.int .i64 c.cap] 51]) (M.keep (Gle.refl _) (by simp)) (fun w h=>h.mono (Gle.refl _) (by simp))<|k_f (fun a F w _=>H4 F rfl h12b rfl) rfl<|k_f (fun a F w _=>Ba (cs:=[.bool (decide (Bp q 0 (((l.length:Nat):Int) - n))),.int .i64 0,.slice none 0 0,.nilFunc,.func (.func 162) #[] #[.pointer (some ⟨b2,0,none⟩),.pointer (some ⟨b3,0,none⟩),.pointer (some ⟨b4,0,none⟩),.pointer (some ⟨b5,0,none⟩)]]) (ps:=[(0,.bool (decide (Bp q 0 (((l.length:Nat):Int) - n)))),(4,.func (.func 162) #[] #[.pointer (some ⟨b2,0,none⟩),.pointer (some ⟨b3,0,none⟩),.pointer (some ⟨b4,0,none⟩),.pointer (some ⟨b5,0,none⟩)])]) Gb.k rfl Gb (F.evp rfl) rfl) rfl<|k_k rfl<|fun a F=>?_
  refine Dz F P6 rfl rfl (Zc SC S hck ⟨fun h_=>⟨h12,dT h_⟩,fun h_=>decide_eq_true h_.2⟩ M Aq8 Aq9 Aq10 Aq11) ?_;clear F M a;rintro _ Gq13 _ w a hGq13 M ⟨aoq13,csq13,Loq13,rfl,rfl,Eoq13⟩ F
  replace SC:=SC.mono Bg hGq13
  replace S:=S.mono Ax hGq13
  replace Aq8:=Aq8.mono hGq13
  replace Aq9:=Aq9.mono hGq13
  replace Aq10:=Aq10.mono hGq13
  replace Aq11:=Aq11.mono hGq13
  have M:=M.perm (Cm (Cw aoq13 (Fy l z n q).1.length csq13::Loq13) [.blk b6 [.slice none 0 0] 54,.blk b1 [.slice kca c.kinds.length kcc,.int .i64 c.cap] 51] L)
  change Mem w0 Gq13 (.blk b6 [.slice none 0 0] 54::.blk b1 [.slice kca c.kinds.length kcc,.int .i64 c.cap] 51::((Cw aoq13 (Fy l z n q).1.length csq13::Loq13)++L)) _ at M
  revert a
  refine Aa<|eK (C':=Keep Gq13 [.blk b1 [.slice kca c.kinds.length kcc,.int .i64 c.cap] 51]) (M.keep (Gle.refl _) (by simp)) (fun w h=>h.mono hGq13 (by simp))<|k_f (fun a F w _=>Cs (v:=.agg #[.slice aoq13 ((Fy l z n q).1.length) ((Fy l z n q).1.length)]) (F.ev rfl) rfl) rfl<|k_f (fun a F w _=>Cs (v:=.int .i64 ((Fy l z n q).2)) (F.ev rfl) rfl) rfl<|k_c rfl<|fun a F=>?_
  refine Ar F M Bb (k:=0) rfl rfl rfl (us:=[.slice aoq13 ((Fy l z n q).1.length) ((Fy l z n q).1.length)]) rfl rfl (by simp [Value.oneCell']) (by simp) ?_;clear F M a;intro w a M F
  change Mem w0 Gq13 (.blk b6 [.slice aoq13 ((Fy l z n q).1.length) ((Fy l z n q).1.length)] 54::_::((Cw aoq13 (Fy l z n q).1.length csq13::Loq13)++L)) _ at M
  revert a
  refine Aa<|fun a F=>⟨Keep Gq13 [.blk b6 [.slice aoq13 ((Fy l z n q).1.length) ((Fy l z n q).1.length)] 54,.blk b1 [.slice kca c.kinds.length kcc,.int .i64 c.cap] 51],M.keep (Gle.refl _) (by simp),?_⟩
  revert a
  refine k_f (fun a F w _=>Gm F rfl) rfl<|D1<|Ad<|Aj<|fun a F=>Cb F M (k:=0) rfl rfl Bb rfl rfl rfl rfl ?_
  exact ⟨_,_,((((hGq8.trans hGq9).trans hGq10).trans hGq11).trans hGq13),M.weaken (.cons _ (.cons _ (sR _))),aoq13,csq13,Loq13,rfl,rfl,Eoq13⟩
 ·skip
  have h14:=dF h14b
  refine k_s rfl h14b<|k_s rfl h14b<|k_s rfl h14b<|k_s rfl h14b<|k_s rfl h14b<|k_s rfl h14b<|k_f (fun a F w _=>Dk (vs:=#[.pointer (some ⟨b2,0,none⟩),.pointer (some ⟨b3,0,none⟩),.pointer (some ⟨b4,0,none⟩),.pointer (some ⟨b5,0,none⟩)]) (by simp only [List.map_toArray,List.map_cons,List.map_nil,F.ev (x:=.tmp 6) rfl,F.ev (x:=.tmp 7) rfl,F.ev (x:=.tmp 8) rfl,F.ev (x:=.tmp 9) rfl])) rfl<|k_s rfl h14b<|k_f (fun a F w _=>Gy F rfl h14b rfl) rfl<|k_f (fun a F w _=>Ba (cs:=[.bool false,.int .i64 0,.slice none 0 0,.nilFunc,.func (.func 162) #[] #[.pointer (some ⟨b2,0,none⟩),.pointer (some ⟨b3,0,none⟩),.pointer (some ⟨b4,0,none⟩),.pointer (some ⟨b5,0,none⟩)]]) (ps:=[(0,.bool false),(4,.func (.func 162) #[] #[.pointer (some ⟨b2,0,none⟩),.pointer (some ⟨b3,0,none⟩),.pointer (some ⟨b4,0,none⟩),.pointer (some ⟨b5,0,none⟩)])]) Gb.k rfl Gb (F.evp rfl) rfl) rfl<|k_k rfl<|fun a F=>?_
  refine Dz F P6 rfl rfl (Zc SC S hck ⟨fun h_=>(by cases h_),fun h_=>absurd h_.1 h14⟩ M Aq8 Aq9 Aq10 Aq11) ?_;clear F M a;rintro _ Gq15 _ w a hGq15 M ⟨aoq15,csq15,Loq15,rfl,rfl,Eoq15⟩ F
  replace SC:=SC.mono Bg hGq15
  replace S:=S.mono Ax hGq15
  replace Aq8:=Aq8.mono hGq15
  replace Aq9:=Aq9.mono hGq15
  replace Aq10:=Aq10.mono hGq15
  replace Aq11:=Aq11.mono hGq15
  have M:=M.perm (Cm (Cw aoq15 (Fy l z n q).1.length csq15::Loq15) [.blk b6 [.slice none 0 0] 54,.blk b1 [.slice kca c.kinds.length kcc,.int .i64 c.cap] 51] L)
  change Mem w0 Gq15 (.blk b6 [.slice none 0 0] 54::.blk b1 [.slice kca c.kinds.length kcc,.int .i64 c.cap] 51::((Cw aoq15 (Fy l z n q).1.length csq15::Loq15)++L)) _ at M
  revert a
  refine Aa<|eK (C':=Keep Gq15 [.blk b1 [.slice kca c.kinds.length kcc,.int .i64 c.cap] 51]) (M.keep (Gle.refl _) (by simp)) (fun w h=>h.mono hGq15 (by simp))<|k_f (fun a F w _=>Cs (v:=.agg #[.slice aoq15 ((Fy l z n q).1.length) ((Fy l z n q).1.length)]) (F.ev rfl) rfl) rfl<|k_f (fun a F w _=>Cs (v:=.int .i64 ((Fy l z n q).2)) (F.ev rfl) rfl) rfl<|k_c rfl<|fun a F=>?_
  refine Ar F M Bb (k:=0) rfl rfl rfl (us:=[.slice aoq15 ((Fy l z n q).1.length) ((Fy l z n q).1.length)]) rfl rfl (by simp [Value.oneCell']) (by simp) ?_;clear F M a;intro w a M F
  change Mem w0 Gq15 (.blk b6 [.slice aoq15 ((Fy l z n q).1.length) ((Fy l z n q).1.length)] 54::_::((Cw aoq15 (Fy l z n q).1.length csq15::Loq15)++L)) _ at M
  revert a
  refine Aa<|fun a F=>⟨Keep Gq15 [.blk b6 [.slice aoq15 ((Fy l z n q).1.length) ((Fy l z n q).1.length)] 54,.blk b1 [.slice kca c.kinds.length kcc,.int .i64 c.cap] 51],M.keep (Gle.refl _) (by simp),?_⟩
  revert a
  refine k_f (fun a F w _=>Gm F rfl) rfl<|D1<|Ad<|Aj<|fun a F=>Cb F M (k:=0) rfl rfl Bb rfl rfl rfl rfl ?_
  exact ⟨_,_,((((hGq8.trans hGq9).trans hGq10).trans hGq11).trans hGq15),M.weaken (.cons _ (.cons _ (sR _))),aoq15,csq15,Loq15,rfl,rfl,Eoq15⟩
theorem Xd (M:Mem w0 G L w) {c:RulesD} {kca:Option Addr} {kcc:Nat} (SC:Ay Du 9 G (.slice kca c.kinds.length kcc) c.kinds) {a1:Option Addr} {c1:Nat} {l:List EntD} (S:Ay C2 6 G (.slice a1 l.length c1) l) (hck:Bw c l=0) {z:Int} {ta:Option Addr} {tc:Nat} {xs:List ItemD} (T:Ay Cn 4 G (.slice ta xs.length tc) xs) (hN:xs.length≤900000):Calls Tryz.prog 128 #[.agg #[.slice kca c.kinds.length kcc,.int .i64 c.cap],.agg #[.slice a1 l.length c1],.int .i64 z,.slice ta xs.length tc] w (Ij w0 G (Jp L (Ha c l z xs))):=by
 have bS:=S.bound
 have bT:=T.bound
 refine Az (vs:=[_,_,_,_]) Tryz.func128 rfl (n:=28) rfl rfl<|Ab<|Ac<|C4 M rfl rfl rfl<|?_;clear M;intro b1 w M
 refine C4 M rfl rfl rfl<|?_;clear M;intro b2 w M
 refine C4 M rfl rfl rfl<|?_;clear M;intro b3 w M
 refine C4 M rfl rfl rfl<|?_;clear M;intro b4 w M
 refine Cz M Bb rfl rfl<|?_;clear M;intro b5 w M
 refine Af rfl<|Aa<|Ad<|Ab<|?_
 obtain ⟨Gq7,hGq7,hbq7,M⟩:=M.freeze (k:=3) rfl
 have Aq7:At Gq7 b2 0 [.slice a1 l.length c1]:=At.of_cells hbq7
 clear hbq7
 replace SC:=SC.mono Bg hGq7
 replace S:=S.mono Ax hGq7
 replace T:=T.mono A0 hGq7
 change Mem w0 Gq7 (.blk b5 [.slice none 0 0] 54::.blk b4 [.slice ta xs.length tc] 22::.blk b3 [.int .i64 z] 3::.blk b1 [.slice kca c.kinds.length kcc,.int .i64 c.cap] 51::L) _ at M
 obtain ⟨Gq8,hGq8,hbq8,M⟩:=M.freeze (k:=2) rfl
 have Aq8:At Gq8 b3 0 [.int .i64 z]:=At.of_cells hbq8
 clear hbq8
 replace SC:=SC.mono Bg hGq8
 replace S:=S.mono Ax hGq8
 replace T:=T.mono A0 hGq8
 replace Aq7:=Aq7.mono hGq8
 change Mem w0 Gq8 (.blk b5 [.slice none 0 0] 54::.blk b4 [.slice ta xs.length tc] 22::.blk b1 [.slice kca c.kinds.length kcc,.int .i64 c.cap] 51::L) _ at M
 obtain ⟨Gq9,hGq9,hbq9,M⟩:=M.freeze (k:=1) rfl
 have Aq9:At Gq9 b4 0 [.slice ta xs.length tc]:=At.of_cells hbq9
 clear hbq9
 replace SC:=SC.mono Bg hGq9
 replace S:=S.mono Ax hGq9
 replace T:=T.mono A0 hGq9
 replace Aq7:=Aq7.mono hGq9
 replace Aq8:=Aq8.mono hGq9
 change Mem w0 Gq9 (.blk b5 [.slice none 0 0] 54::.blk b1 [.slice kca c.kinds.length kcc,.int .i64 c.cap] 51::L) _ at M
 refine Ac<|Ap (fun a F=>Dk (vs:=#[.pointer (some ⟨b2,0,none⟩),.pointer (some ⟨b3,0,none⟩)]) (by simp only [List.map_toArray,List.map_cons,List.map_nil,F.ev (x:=.tmp 5) rfl,F.ev (x:=.tmp 6) rfl])) rfl<|Af rfl<|Aa<|Ad<|Ab<|fun a F=>Fw [(true,0),(true,1),(true,2),(true,3),(true,4),(true,5),(true,6),(true,7),(true,9),(true,10),(true,11),(false,8),(true,12),(false,13),(true,14),(true,15),(false,16),(true,17)] (Keep Gq9 [.blk b1 [.slice kca c.kinds.length kcc,.int .i64 c.cap] 51]) rfl (by kernel_rfl) (fun c a d v w h=>by cases d <;> exact h) ((M.drew _).keep (Gle.refl _) (by simp)) ?_
 replace M:=M.drew (w.drawn+1)
 revert a
 refine l_r (fun a F w M=>Am Dv rfl (F.ev rfl) (cs:=[.slice kca c.kinds.length kcc,.int .i64 c.cap]) rfl (M.cellsL (k:=0) rfl rfl)) rfl<|l_r (fun a F w M=>Am Bb rfl (F.ev rfl) (cs:=[.slice a1 l.length c1]) rfl (M.cellsA Aq7 0 (by omega) rfl)) rfl<|l_r (fun a F w M=>Aq (agf B7 rfl) (F.ev rfl) (M.cellA Aq8 0 (by omega) rfl)) rfl<|l_r (fun a F w M=>Aq (agf B5 rfl) (F.ev rfl) (M.cellA Aq9 0 (by omega) rfl)) rfl<|l_r (fun a F w M=>Dx B5.k (F.ev rfl)) rfl<|l_r (fun a F w M=>Co Bb.k rfl F rfl) rfl<|l_r (fun a F w M=>Aq (agf C3 rfl) (F.ev rfl) (M.cellA Aq7 0 rfl rfl)) rfl<|l_r (fun a F w M=>Dx C3.k (F.ev rfl)) rfl<|l_r (fun a F w M=>Aq (agf B5 rfl) (F.ev rfl) (M.cellA Aq9 0 (by omega) rfl)) rfl<|l_r (fun a F w M=>Cj F rfl) rfl<|l_r (fun a F w M=>Dk (vs:=#[.pointer (some ⟨b2,0,none⟩),.pointer (some ⟨b3,0,none⟩),.pointer (some ⟨b4,0,none⟩)]) (by simp only [List.map_toArray,List.map_cons,List.map_nil,F.ev (x:=.tmp 5) rfl,F.ev (x:=.tmp 6) rfl,F.ev (x:=.tmp 7) rfl])) rfl<|l_a rfl<|Br Tp rfl rfl (Io (z:=z) (n:=((xs.length:Nat):Int)) (m:=((l.length:Nat):Int)) M (by omega))<|?_;clear M;rintro _ w M rfl
 refine Aa<|eK (C':=Keep Gq9 [.blk b1 [.slice kca c.kinds.length kcc,.int .i64 c.cap] 51]) (M.keep (Gle.refl _) (by simp)) (fun w h=>h.mono (Gle.refl _) (by simp))<|l_r (fun a F w M=>Ba (cs:=[.bool (decide (Bp z ((xs.length:Nat):Int) ((l.length:Nat):Int))),.int .i64 0,.slice ta xs.length tc,.func (.func 163) #[] #[.pointer (some ⟨b2,0,none⟩),.pointer (some ⟨b3,0,none⟩)],.func (.func 164) #[] #[.pointer (some ⟨b2,0,none⟩),.pointer (some ⟨b3,0,none⟩),.pointer (some ⟨b4,0,none⟩)]]) (ps:=[(0,.bool (decide (Bp z ((xs.length:Nat):Int) ((l.length:Nat):Int)))),(1,.int .i64 0),(2,.slice ta xs.length tc),(3,.func (.func 163) #[] #[.pointer (some ⟨b2,0,none⟩),.pointer (some ⟨b3,0,none⟩)]),(4,.func (.func 164) #[] #[.pointer (some ⟨b2,0,none⟩),.pointer (some ⟨b3,0,none⟩),.pointer (some ⟨b4,0,none⟩)])]) Gb.k rfl Gb (F.evp rfl) rfl) rfl<|l_a rfl<|fun a F=>?_
 refine Dz F P6 rfl rfl (Amu SC S hck T M Aq7 Aq8 Aq9 hN) ?_;clear F M a;rintro _ Gq10 _ w a hGq10 M ⟨aoq10,csq10,Loq10,rfl,rfl,Eoq10⟩ F
 replace SC:=SC.mono Bg hGq10
 replace S:=S.mono Ax hGq10
 replace T:=T.mono A0 hGq10
 replace Aq7:=Aq7.mono hGq10
 replace Aq8:=Aq8.mono hGq10
 replace Aq9:=Aq9.mono hGq10
 have M:=M.perm (Cm (Cw aoq10 (Ha c l z xs).1.length csq10::Loq10) [.blk b5 [.slice none 0 0] 54,.blk b1 [.slice kca c.kinds.length kcc,.int .i64 c.cap] 51] L)
 change Mem w0 Gq10 (.blk b5 [.slice none 0 0] 54::.blk b1 [.slice kca c.kinds.length kcc,.int .i64 c.cap] 51::((Cw aoq10 (Ha c l z xs).1.length csq10::Loq10)++L)) _ at M
 revert a
 refine Aa<|eK (C':=Keep Gq10 [.blk b1 [.slice kca c.kinds.length kcc,.int .i64 c.cap] 51]) (M.keep (Gle.refl _) (by simp)) (fun w h=>h.mono hGq10 (by simp))<|l_r (fun a F w M=>Cs (v:=.agg #[.slice aoq10 ((Ha c l z xs).1.length) ((Ha c l z xs).1.length)]) (F.ev rfl) rfl) rfl<|l_r (fun a F w M=>Cs (v:=.int .i64 ((Ha c l z xs).2)) (F.ev rfl) rfl) rfl<|l_a rfl<|fun a F=>?_
 refine Ar F M Bb (k:=0) rfl rfl rfl (us:=[.slice aoq10 ((Ha c l z xs).1.length) ((Ha c l z xs).1.length)]) rfl rfl (by simp [Value.oneCell']) (by simp) ?_;clear F M a;intro w a M F
 change Mem w0 Gq10 (.blk b5 [.slice aoq10 ((Ha c l z xs).1.length) ((Ha c l z xs).1.length)] 54::_::((Cw aoq10 (Ha c l z xs).1.length csq10::Loq10)++L)) _ at M
 revert a
 refine Aa<|eK (C':=Keep Gq10 [.blk b1 [.slice kca c.kinds.length kcc,.int .i64 c.cap] 51]) (M.keep (Gle.refl _) (by simp)) (fun w h=>h.mono (Gle.refl _) (by simp))<|l_r (fun a F w M=>Gm F rfl) rfl<|Gx<|Ad<|Aj<|fun a F=>Cb F M (k:=0) rfl rfl Bb rfl rfl rfl rfl ?_
 exact ⟨_,_,(((hGq7.trans hGq8).trans hGq9).trans hGq10),M.weaken (.cons _ (.cons _ (sR _))),aoq10,csq10,Loq10,rfl,rfl,Eoq10⟩
theorem Qs (M:Mem w0 G L w) {c:RulesD} {kca:Option Addr} {kcc:Nat} (SC:Ay Du 9 G (.slice kca c.kinds.length kcc) c.kinds) {a1:Option Addr} {c1:Nat} {l:List EntD} (S:Ay C2 6 G (.slice a1 l.length c1) l) (hck:Bw c l=0) {ta:Option Addr} {tc:Nat} {xs:List ItemD} (T:Ay Cn 4 G (.slice ta xs.length tc) xs) (hN:xs.length≤900000):Calls Tryz.prog 92 #[.agg #[.slice kca c.kinds.length kcc,.int .i64 c.cap],.agg #[.slice a1 l.length c1],.slice ta xs.length tc] w (Ij w0 G (Jp L (Eg c [] 0 xs))):=by
 have bS:=S.bound
 have bT:=T.bound
 refine Az (vs:=[_,_,_]) Tryz.func92 rfl (n:=18) rfl rfl<|Ab<|Ac<|C4 M rfl rfl rfl<|?_;clear M;intro b1 w M
 refine C4 M rfl rfl rfl<|?_;clear M;intro b2 w M
 refine Cz M Bb rfl rfl<|?_;clear M;intro b3 w M
 refine Af rfl<|Aa<|Ad<|Ab<|fun a F=>Fw [(true,0),(true,1),(true,2),(true,3),(true,4),(false,5),(true,6),(false,7),(true,8),(true,9),(false,10),(true,11)] (Keep G [.blk b2 [.slice a1 l.length c1] 54,.blk b1 [.slice kca c.kinds.length kcc,.int .i64 c.cap] 51]) rfl (by kernel_rfl) (fun c a d v w h=>by cases d <;> exact h) ((M.drew _).keep (Gle.refl _) (by simp)) ?_
 replace M:=M.drew (w.drawn+1)
 revert a
 refine l_r (fun a F w M=>Am Dv rfl (F.ev rfl) (cs:=[.slice kca c.kinds.length kcc,.int .i64 c.cap]) rfl (M.cellsL (k:=1) rfl rfl)) rfl<|l_r (fun a F w M=>Am Bb rfl (F.ev rfl) (cs:=[.slice a1 l.length c1]) rfl (M.cellsL (k:=0) rfl rfl)) rfl<|l_r (fun a F w M=>Cj F rfl) rfl<|l_r (fun a F w M=>Dx B5.k (F.ev rfl)) rfl<|l_r (fun a F w M=>Cj F rfl) rfl<|l_a rfl<|Pi Amd rfl rfl (Qf (c:=c) (l:=([]:List EntD)) M Ay.nil (V9 (E9 hck).1))<|?_;clear M;rintro _ _ w M ⟨buu5,mbu5,esu5,clu5,ksu5,rfl,rfl,Esu5,hksu5⟩
 refine Aa<|eK (C':=Keep G [.blk b2 [.slice a1 l.length c1] 54,.blk b1 [.slice kca c.kinds.length kcc,.int .i64 c.cap] 51]) (M.keep (Gle.refl _) (by simp)) (fun w h=>h.mono (Gle.refl _) (by simp))<|l_r (fun a F w M=>Ba (cs:=[.bool true,.int .i64 ((xs.length:Nat):Int),.slice ta xs.length tc,.func (.func 168) #[] #[.pointer (some ⟨buu5,0,none⟩)],.func (.func 140) #[] #[]]) (ps:=[(0,.bool true),(1,.int .i64 ((xs.length:Nat):Int)),(2,.slice ta xs.length tc),(3,.func (.func 168) #[] #[.pointer (some ⟨buu5,0,none⟩)]),(4,.func (.func 140) #[] #[])]) Gb.k rfl Gb (F.evp rfl) rfl) rfl<|l_a rfl<|?_
 replace M:=M.perm (Ao _ 1 _ rfl)
 replace M:=M.perm (Ao _ 1 _ rfl)
 change Mem w0 G (_::_::_::_::_::L) _ at M
 intro a F
 refine Dz F P6 rfl rfl (Aix SC S hck T M Esu5 hksu5 hN) ?_;clear F M a;rintro _ Gq6 _ w a hGq6 M ⟨aoq6,csq6,Loq6,rfl,rfl,Eoq6⟩ F
 replace SC:=SC.mono Bg hGq6
 replace S:=S.mono Ax hGq6
 replace T:=T.mono A0 hGq6
 have M:=M.perm (Cm (Cw aoq6 (Eg c [] 0 xs).1.length csq6::Loq6) [.blk b3 [.slice none 0 0] 54,.blk b2 [.slice a1 l.length c1] 54,.blk b1 [.slice kca c.kinds.length kcc,.int .i64 c.cap] 51] L)
 change Mem w0 Gq6 (.blk b3 [.slice none 0 0] 54::.blk b2 [.slice a1 l.length c1] 54::.blk b1 [.slice kca c.kinds.length kcc,.int .i64 c.cap] 51::((Cw aoq6 (Eg c [] 0 xs).1.length csq6::Loq6)++L)) _ at M
 revert a
 refine Aa<|eK (C':=Keep Gq6 [.blk b2 [.slice a1 l.length c1] 54,.blk b1 [.slice kca c.kinds.length kcc,.int .i64 c.cap] 51]) (M.keep (Gle.refl _) (by simp)) (fun w h=>h.mono hGq6 (by simp))<|l_r (fun a F w M=>Cs (v:=.agg #[.slice aoq6 ((Eg c [] 0 xs).1.length) ((Eg c [] 0 xs).1.length)]) (F.ev rfl) rfl) rfl<|l_r (fun a F w M=>Cs (v:=.int .i64 ((Eg c [] 0 xs).2)) (F.ev rfl) rfl) rfl<|l_a rfl<|fun a F=>?_
 refine Ar F M Bb (k:=0) rfl rfl rfl (us:=[.slice aoq6 ((Eg c [] 0 xs).1.length) ((Eg c [] 0 xs).1.length)]) rfl rfl (by simp [Value.oneCell']) (by simp) ?_;clear F M a;intro w a M F
 change Mem w0 Gq6 (.blk b3 [.slice aoq6 ((Eg c [] 0 xs).1.length) ((Eg c [] 0 xs).1.length)] 54::_::_::((Cw aoq6 (Eg c [] 0 xs).1.length csq6::Loq6)++L)) _ at M
 revert a
 refine Aa<|eK (C':=Keep Gq6 [.blk b2 [.slice a1 l.length c1] 54,.blk b1 [.slice kca c.kinds.length kcc,.int .i64 c.cap] 51]) (M.keep (Gle.refl _) (by simp)) (fun w h=>h.mono (Gle.refl _) (by simp))<|l_r (fun a F w M=>Gm F rfl) rfl<|Gx<|Ad<|Aj<|fun a F=>Cb F M (k:=0) rfl rfl Bb rfl rfl rfl rfl ?_
 exact ⟨_,_,hGq6,M.weaken (.cons _ (.cons _ (.cons _ (sR _)))),aoq6,csq6,Loq6,rfl,rfl,Eoq6⟩
open Go Go.Y
set_option linter.unusedSimpArgs false
set_option linter.unusedVariables false
/-! ### Valid lists -/
def T5 (c:RulesD) (x:EntD):Prop:=(ItemOk (c.kinds.length:Int) x.item∧Iu c x.item=0)∧I1 c x
def Dg (l:List EntD):List Nat:=l.map fun x=>x.item.key
theorem Sy {l:List Nat}:l.Nodup↔∀ i x,l[i]?=some x→¬ x∈l.take i:=by
 constructor
 ·intro h i x hx hm
  obtain ⟨j,hj⟩:=List.mem_iff_getElem?.1 hm
  rw [List.getElem?_take] at hj
  split at hj
  ·rename_i hji
   have h1:=List.pairwise_iff_getElem.1 h j i (Bj hj) (Bj hx) hji
   rw [List.getElem?_eq_getElem (Bj hj)] at hj
   rw [List.getElem?_eq_getElem (Bj hx)] at hx
   simp only [Option.some.injEq] at hj hx
   exact h1 (hj.trans hx.symm)
  ·cases hj
 ·intro h
  refine List.pairwise_iff_getElem.2 fun i j hi hj hij he=>?_
  refine h j l[j] (List.getElem?_eq_getElem hj) (List.mem_iff_getElem?.2 ⟨i,?_⟩)
  rw [List.getElem?_take,if_pos hij,List.getElem?_eq_getElem hi,he]
theorem Th {l:List EntD} {k:Nat}:Dr l k↔k∈Dg l:=by
 unfold Dr Dg
 rw [List.mem_map]
theorem Vv (l:List EntD) (i:Nat):Dg (l.take i)=(Dg l).take i:=by unfold Dg;rw [List.map_take]
theorem Gv {c:RulesD} {l:List EntD}:Bw c l=0↔E4 c∧l.length≤1024∧(∀ x∈l,T5 c x)∧(Dg l).Nodup∧Ej l=0:=by
 constructor
 ·intro h
  obtain ⟨h1,h2,h3,h4⟩:=E9 h
  refine ⟨h1,h2,fun x hx=>?_,Sy.2 fun i k hk=>?_,h4⟩
  ·obtain ⟨i,hi⟩:=List.mem_iff_getElem?.1 hx
   have:=M8.1 (h3 i x hi)
   have h5:=He.1 this.1
   exact ⟨⟨h5.1,h5.2.2⟩,this.2⟩
  ·unfold Dg at hk
   rw [List.getElem?_map] at hk
   cases hx:l[i]? with
   | none=>rw [hx] at hk;cases hk
   | some x =>
    rw [hx] at hk
    simp only [Option.map_some,Option.some.injEq] at hk
    have:=Wa h hx
    rw [Th,Vv,hk] at this
    exact this
 ·rintro ⟨h1,h2,h3,h4,h5⟩
  have h6:Ce (Hs c l) l.length=0:=E3.2 fun i hi=>by
   obtain ⟨x,hx⟩:=Be hi
   obtain ⟨⟨a,b⟩,d⟩:=h3 x (List.mem_of_getElem? hx)
   rw [Ol hx,M8,He]
   refine ⟨⟨a,?_,b⟩,d⟩
   rw [Th,Vv]
   exact Sy.1 h4 i _ (by unfold Dg;rw [List.getElem?_map,hx];rfl)
  rw [Jh h1 (by omega) h6 (Nat.le_refl _),h5]
theorem Zu {c:RulesD} {x:ItemD} (hc:E4 c) (h:ItemOk (c.kinds.length:Int) x) (hr:Iu c x=0):T5 c (C8 c x):=by
 obtain ⟨k,hk⟩:=O2 h
 have h1:=(hc.2 k (List.mem_of_getElem? hk)).1
 have h2:(C8 c x).size=k.base:=J1 hk
 exact ⟨⟨h,hr⟩,by rw [h2];exact h1,Or.inr rfl⟩
theorem S5 (l:List EntD) (p n:Nat) (fr:List EntD):Dg (Ea l p n fr)=(Dg l).take p++Dg fr++(Dg l).drop (p+n):=by
 unfold Ea Dg;simp [List.map_take,List.map_drop]
theorem Sw {a b:List Nat} (h:a.Perm b) (hb:b.Nodup):a.Nodup:=h.symm.nodup hb
theorem Ace {c:RulesD} {l fr:List EntD} {p n:Nat} (h:∀ x∈l,T5 c x) (hf:∀ x∈fr,T5 c x):∀ x∈Ea l p n fr,T5 c x:=fun x hx=>by
 rcases Ra hx with hx | hx
 ·exact h x hx
 ·exact hf x hx
theorem S7 (c:RulesD) (xs:List ItemD):Dg (xs.map (C8 c))=xs.map ItemD.key:=by unfold Dg;rw [List.map_map];rfl
theorem Ahf {xs:List ItemD} {k:Nat}:Mc xs k↔k∈xs.map ItemD.key:=by unfold Mc;rw [List.mem_map]
theorem Akx {c:RulesD} {l:List EntD} {xs:List ItemD} (hc:E4 c) (h:Tf c l xs=0):(∀ x∈xs.map (C8 c),T5 c x)∧(xs.map ItemD.key).Nodup∧∀ k∈xs.map ItemD.key,¬ k∈Dg l:=by
 have h1:∀ i x,xs[i]?=some x→Hl c x (Dr l x.key∨Mc (xs.take i) x.key)=0:=fun i x hx=>by
  have:=E3.1 h i (Bj hx)
  rwa [Ach hx] at this
 refine ⟨fun y hy=>?_,Sy.2 fun i k hk=>?_,fun k hk=>?_⟩
 ·obtain ⟨x,hx,rfl⟩:=List.mem_map.1 hy
  obtain ⟨i,hi⟩:=List.mem_iff_getElem?.1 hx
  have:=He.1 (h1 i x hi)
  exact Zu hc this.1 this.2.2
 ·rw [List.getElem?_map] at hk
  cases hx:xs[i]? with
  | none=>rw [hx] at hk;cases hk
  | some x =>
   rw [hx] at hk
   simp only [Option.map_some,Option.some.injEq] at hk
   subst hk
   intro hm
   rw [← List.map_take,← Ahf] at hm
   exact (He.1 (h1 i x hx)).2.1 (Or.inr hm)
 ·obtain ⟨x,hx,rfl⟩:=List.mem_map.1 hk
  obtain ⟨i,hi⟩:=List.mem_iff_getElem?.1 hx
  intro hm
  exact (He.1 (h1 i x hi)).2.1 (Or.inl (Th.2 hm))
theorem Vy {c:RulesD} {l:List EntD} {a:Int} {xs:List ItemD} (h:Bw c l=0) (hr:(Eg c l a xs).2=0):Bw c (Eg c l a xs).1=0:=by
 obtain ⟨h1,h2,h3,h4,h5⟩:=Gv.1 h
 by_cases b1:Bp a 0 l.length
 ·by_cases b2:1024 < l.length+xs.length
  ·rw [ins_3 b1 b2] at hr;cases hr
  ·by_cases b3:Tf c l xs=0
   ·rcases Q7 (Ea l a.toNat 0 (xs.map (C8 c))) with b4 | b4
    ·rw [Aee b1 b2 b3 b4]
     obtain ⟨g1,g2,g3⟩:=Akx h1 b3
     unfold Bp at b1
     refine Gv.2 ⟨h1,by rw [Kh (by omega),List.length_map];omega,Ace h3 g1,?_,b4⟩
     rw [S5,S7,Nat.add_zero]
     refine Sw (b:=xs.map ItemD.key++Dg l) ?_ (List.nodup_append.2 ⟨g2,h4,fun x hx y hy e=>g3 x hx (e ▸ hy)⟩)
     have e:=List.take_append_drop a.toNat (Dg l)
     calc (Dg l).take a.toNat++xs.map ItemD.key++(Dg l).drop a.toNat
      _=(Dg l).take a.toNat++(xs.map ItemD.key++(Dg l).drop a.toNat):=List.append_assoc _ _ _
      _ |>.Perm ((xs.map ItemD.key++(Dg l).drop a.toNat)++(Dg l).take a.toNat):=List.perm_append_comm
      _ |>.Perm (xs.map ItemD.key++((Dg l).drop a.toNat++(Dg l).take a.toNat)):=by rw [List.append_assoc]
      _ |>.Perm (xs.map ItemD.key++((Dg l).take a.toNat++(Dg l).drop a.toNat)):=List.Perm.append_left _ List.perm_append_comm
      _ |>.Perm (xs.map ItemD.key++Dg l):=by rw [e]
    ·rw [Akw b1 b2 b3 (by omega)] at hr;cases hr
   ·rw [ins_e b1 b2 b3] at hr;exact absurd hr b3
 ·rw [ins_4 b1] at hr;cases hr
theorem Aft {c:RulesD} {l:List EntD} {a n:Int} (h:Bw c l=0) (hr:(Hu l a n).2=0):Bw c (Hu l a n).1=0:=by
 obtain ⟨h1,h2,h3,h4,h5⟩:=Gv.1 h
 by_cases b1:Bp a n l.length
 ·rw [Ajc b1]
  unfold Bp at b1
  refine Gv.2 ⟨h1,by rw [Mu (by omega)];omega,Ace h3 (by simp),?_,Yz h5⟩
  rw [S5]
  refine List.Nodup.sublist ?_ h4
  have e:=List.take_append_drop a.toNat (Dg l)
  rw [show Dg []=[] from rfl,List.append_nil]
  conv=>rhs;rw [← e]
  refine (sR _).append ?_
  rw [← List.drop_drop]
  exact List.drop_sublist _ _
 ·rw [rem_4 b1] at hr;cases hr
theorem Akc (l:List EntD) (p n q:Nat):(Pv l p n q).Perm l:=by
 unfold Pv
 generalize hX:Ea l p n []=X
 have h1:(Ea X q 0 ((l.drop p).take n)).Perm ((l.drop p).take n++X):=by
  unfold Ea
  rw [Nat.add_zero,List.append_assoc]
  refine List.perm_append_comm.trans ?_
  rw [List.append_assoc]
  refine List.Perm.append_left _ (List.perm_append_comm.trans ?_)
  rw [List.take_append_drop]
 refine h1.trans ?_
 subst hX
 unfold Ea
 rw [List.append_nil]
 refine List.perm_append_comm.trans ?_
 rw [List.append_assoc]
 conv=>rhs;rw [← List.take_append_drop p l]
 refine List.Perm.append_left _ (List.perm_append_comm.trans ?_)
 rw [← List.drop_drop,List.take_append_drop]
theorem Agl {c:RulesD} {l:List EntD} {a n b:Int} (h:Bw c l=0) (hr:(Fy l a n b).2=0):Bw c (Fy l a n b).1=0:=by
 obtain ⟨h1,h2,h3,h4,h5⟩:=Gv.1 h
 by_cases b1:Bp a n l.length∧Bp b 0 (l.length - n)
 ·rw [mov_0 b1]
  have hp:=Akc l a.toNat n.toNat b.toNat
  exact Gv.2 ⟨h1,by rw [hp.length_eq];exact h2,fun x hx=>h3 x (hp.subset hx),Sw (hp.map _) h4,Y0 h5⟩
 ·rw [mov_4 b1] at hr;cases hr
theorem Agw {c:RulesD} {l:List EntD} {p:Nat} {xs:List ItemD} (hp:p+xs.length≤l.length) (h:∀ i x,xs[i]?=some x→∃ y,l[p+i]?=some y∧y.item.key=x.key):Dg (Ea l p xs.length (xs.map (C8 c)))=Dg l:=by
 rw [S5,S7]
 apply List.ext_getElem?
 intro i
 have e0:(Dg l).length=l.length:=by unfold Dg;simp
 have e1:((Dg l).take p).length=p:=by unfold Dg;simp;omega
 rcases Nat.lt_or_ge i p with h1 | h1
 ·rw [List.append_assoc,List.getElem?_append_left (by omega),List.getElem?_take,if_pos h1]
 ·rcases Nat.lt_or_ge i (p+xs.length) with h2 | h2
  ·rw [List.getElem?_append_left (by simp;omega),List.getElem?_append_right (by omega),e1]
   obtain ⟨x,hx⟩:=Be (xs:=xs) (i:=i - p) (by omega)
   obtain ⟨y,hy,he⟩:=h (i - p) x hx
   rw [show p+(i - p)=i by omega] at hy
   unfold Dg
   rw [List.getElem?_map,List.getElem?_map,hx,hy]
   simp [he]
  ·rw [List.getElem?_append_right (by simp;omega),List.getElem?_drop]
   congr 1
   simp;omega
theorem Aho {c:RulesD} {l:List EntD} {a:Int} {xs:List ItemD} (h:Bw c l=0) (hr:(Ha c l a xs).2=0):Bw c (Ha c l a xs).1=0:=by
 obtain ⟨h1,h2,h3,h4,h5⟩:=Gv.1 h
 by_cases b1:Bp a xs.length l.length
 ·by_cases b2:Ce (Mh c l a.toNat xs) xs.length=0
  ·rcases Q7 (Ea l a.toNat xs.length (xs.map (C8 c))) with b4 | b4
   ·rw [chg_0 b1 b2 b4]
    unfold Bp at b1
    have hz:∀ i x,xs[i]?=some x→ItemOk (c.kinds.length:Int) x∧¬ Sp l (a.toNat+i) x.key∧Iu c x=0:=fun i x hx=>by
     have:=E3.1 b2 i (Bj hx)
     rw [Amv hx] at this
     exact Ahp.1 this
    refine Gv.2 ⟨h1,by rw [Kh (by omega),List.length_map];omega,Ace h3 (fun y hy=>?_),?_,b4⟩
    ·obtain ⟨x,hx,rfl⟩:=List.mem_map.1 hy
     obtain ⟨i,hi⟩:=List.mem_iff_getElem?.1 hx
     exact Zu h1 (hz i x hi).1 (hz i x hi).2.2
    ·rw [Agw (by omega) (fun i x hx=>?_)]
     ·exact h4
     ·obtain ⟨y,hy⟩:=Be (xs:=l) (i:=a.toNat+i) (by have:=Bj hx;omega)
      exact ⟨y,hy,Classical.byContradiction fun hn=>(hz i x hx).2.1 ((Sn hy).2 hn)⟩
   ·rw [Amw b1 b2 (by omega)] at hr;cases hr
  ·unfold Ha at hr;rw [if_neg (not_not_intro b1),if_pos b2] at hr;exact absurd hr b2
 ·rw [chg_4 b1] at hr;cases hr
/-! ### Notices -/
structure NotD where
 kind:Nat
 at_:Int
 count:Int
 to:Int
 items:List ItemD
def Fb:Rd NotD:=fun G cs x=>∃ (a:Option Addr) (c:Nat),cs=[.int .u8 ((x.kind:Nat):Int),.int .i64 x.at_,.int .i64 x.count,.int .i64 x.to,.slice a x.items.length c] ∧
 x.kind < 256∧A2 .i64 x.at_∧A2 .i64 x.count∧A2 .i64 x.to∧x.items.length≤9223372036854775807∧Ay Cn 4 G (.slice a x.items.length c) x.items
theorem Bm:I9 Fb:=by
 rintro G G' cs x h ⟨a,c,h1,h2,h3,h4,h5,h6,h7⟩
 exact ⟨a,c,h1,h2,h3,h4,h5,h6,h7.mono A0 h⟩
/-- Which fields a kind uses. -/
def uAt (k:Nat):Prop:=k=1∨k=2∨k=3∨k=4
def uCo (k:Nat):Prop:=k=2∨k=3
def uTo (k:Nat):Prop:=k=3
def uIt (k:Nat):Prop:=k=1∨k=4∨k=5
instance (k:Nat):Decidable (uAt k):=by unfold uAt;infer_instance
instance (k:Nat):Decidable (uCo k):=by unfold uCo;infer_instance
instance (k:Nat):Decidable (uTo k):=by unfold uTo;infer_instance
instance (k:Nat):Decidable (uIt k):=by unfold uIt;infer_instance
def Fg (n:NotD):Prop:=(uAt n.kind∨n.at_=0)∧(uCo n.kind∨n.count=0)∧(uTo n.kind∨n.to=0)∧(uIt n.kind∨n.items.length=0)
instance (n:NotD):Decidable (Fg n):=by unfold Fg;infer_instance
def E2 (n:NotD):Int:=if n.kind < 1∨5 < n.kind then 1 else if Fg n then 0 else 5
theorem Ajw {n:NotD} (h:n.kind < 1∨5 < n.kind):E2 n=1:=by unfold E2;rw [if_pos h]
theorem note_5 {n:NotD} (h:¬ (n.kind < 1∨5 < n.kind)) (h2:¬ Fg n):E2 n=5:=by unfold E2;rw [if_neg h,if_neg h2]
theorem note_0 {n:NotD} (h:¬ (n.kind < 1∨5 < n.kind)) (h2:Fg n):E2 n=0:=by unfold E2;rw [if_neg h,if_pos h2]
theorem Je {n:NotD}:E2 n=0↔(1≤n.kind∧n.kind≤5)∧Fg n:=by
 unfold E2
 split
 ·rename_i h;exact ⟨fun h2=>(by cases h2),fun h2=>by omega⟩
 ·rename_i h
  split
  ·rename_i h2;exact ⟨fun _=>⟨by omega,h2⟩,fun _=>rfl⟩
  ·rename_i h2;exact ⟨fun h3=>(by cases h3),fun h3=>absurd h3.2 h2⟩
noncomputable def Ge (c:RulesD) (l:List EntD) (n:NotD):List EntD × Int :=
 if E2 n≠0 then ([],E2 n) else if n.kind=1 then Eg c l n.at_ n.items else if n.kind=2 then Hu l n.at_ n.count else if n.kind=3 then Fy l n.at_ n.count n.to
 else if n.kind=4 then Ha c l n.at_ n.items else Eg c [] 0 n.items
section
variable {c:RulesD} {l:List EntD} {n:NotD}
theorem app_e (h:E2 n≠0):Ge c l n=([],E2 n):=by unfold Ge;rw [if_pos h]
theorem Aoe (h:E2 n=0) (hk:n.kind=1):Ge c l n=Eg c l n.at_ n.items:=by unfold Ge;rw [if_neg (not_not_intro h),if_pos hk]
theorem Afd (h:E2 n=0) (hk:n.kind=2):Ge c l n=Hu l n.at_ n.count:=by unfold Ge;rw [if_neg (not_not_intro h),if_neg (by omega),if_pos hk]
theorem Aod (h:E2 n=0) (hk:n.kind=3):Ge c l n=Fy l n.at_ n.count n.to:=by unfold Ge;rw [if_neg (not_not_intro h),if_neg (by omega),if_neg (by omega),if_pos hk]
theorem app_4 (h:E2 n=0) (hk:n.kind=4):Ge c l n=Ha c l n.at_ n.items:=by unfold Ge;rw [if_neg (not_not_intro h),if_neg (by omega),if_neg (by omega),if_neg (by omega),if_pos hk]
theorem app_5 (h:E2 n=0) (hk:n.kind=5):Ge c l n=Eg c [] 0 n.items:=by unfold Ge;rw [if_neg (not_not_intro h),if_neg (by omega),if_neg (by omega),if_neg (by omega),if_neg (by omega)]
theorem Ahz (h:Bw c l=0) (hr:(Ge c l n).2=0):Bw c (Ge c l n).1=0:=by
 by_cases h0:E2 n=0
 ·have hk:=(Je.1 h0).1
  rcases (show n.kind=1∨n.kind=2∨n.kind=3∨n.kind=4∨n.kind=5 by omega) with e | e | e | e | e
  ·rw [Aoe h0 e] at hr ⊢;exact Vy h hr
  ·rw [Afd h0 e] at hr ⊢;exact Aft h hr
  ·rw [Aod h0 e] at hr ⊢;exact Agl h hr
  ·rw [app_4 h0 e] at hr ⊢;exact Aho h hr
  ·have hc:=(E9 h).1
   rw [app_5 h0 e] at hr ⊢
   exact Vy (by rw [Jh hc (by decide) (i:=0) rfl (Nat.le_refl _)];rfl) hr
 ·rw [app_e h0] at hr;exact absurd hr h0
end
/-- The list after the first i notices, as far as they go, and the first error. -/
noncomputable def C7 (c:RulesD) (l:List EntD) (ns:List NotD):Nat→List EntD × Int
 | 0=>(l,0)
 | i+1=>if (C7 c l ns i).2=0 then (match ns[i]? with
  | some n=>Ge c (C7 c l ns i).1 n
  | none=>C7 c l ns i) else C7 c l ns i
theorem Ir {c:RulesD} {l:List EntD} {ns:List NotD} {i:Nat} {n:NotD} (h:(C7 c l ns i).2=0) (hn:ns[i]?=some n):C7 c l ns (i+1)=Ge c (C7 c l ns i).1 n:=by
 simp only [C7,h,if_true,hn]
theorem Rz {c:RulesD} {l:List EntD} {ns:List NotD} {i:Nat} (h:(C7 c l ns i).2≠0):∀ j,i≤j→C7 c l ns j=C7 c l ns i:=by
  intro j hj
  induction j with
  | zero => have : i = 0 := by omega
            subst this;rfl
  | succ j ih =>
    rcases Nat.eq_or_lt_of_le hj with e | e
    · rw [e]
    · have:=ih (by omega)
      simp only [C7,this,h,if_false]
theorem U2 {c:RulesD} {l:List EntD} {ns:List NotD} (h:Bw c l=0):∀ {i:Nat},(C7 c l ns i).2=0→Bw c (C7 c l ns i).1=0
 | 0,_=>h
 | i+1,hr=>by
  by_cases h0:(C7 c l ns i).2=0
  ·have ih:=U2 h h0
   cases hn:ns[i]? with
   | none=>simp only [C7,h0,if_true,hn];exact ih
   | some n=>rw [Ir h0 hn] at hr ⊢;exact Ahz ih hr
  ·rw [Rz h0 _ (Nat.le_succ i)] at hr;exact absurd hr h0
/-- How many notices are applied without an error. -/
noncomputable def Abm (c:RulesD) (l:List EntD) (ns:List NotD):Nat→Nat
 | 0=>0
 | i+1=>if (C7 c l ns (i+1)).2=0 then i+1 else Abm c l ns i
theorem runN_ok {c:RulesD} {l:List EntD} {ns:List NotD}:∀ {i:Nat},(C7 c l ns i).2=0→Abm c l ns i=i
 | 0,_=>rfl
 | i+1,h=>by simp only [Abm,h,if_true]
theorem Ait {c:RulesD} {l:List EntD} {ns:List NotD} {i:Nat} (h0:(C7 c l ns i).2=0) (h:(C7 c l ns (i+1)).2≠0):∀ j,i < j→Abm c l ns j=i:=by
 intro j hj
 induction j with
 | zero=>omega
 | succ j ih =>
  have hs:=Rz h (j+1) (by omega)
  rcases Nat.eq_or_lt_of_le (show i≤j by omega) with e | e
  ·subst e;simp only [Abm,h,if_false];exact runN_ok h0
  ·simp only [Abm,hs,h,if_false];exact ih e
noncomputable def Xv (c:RulesD) (l:List EntD) (ns:List NotD):List EntD × Nat × Int :=
 if 32 < ns.length then ([],0,3) else if (C7 c l ns ns.length).2=0 then ((C7 c l ns ns.length).1,ns.length,0) else ([],Abm c l ns ns.length,(C7 c l ns ns.length).2)
section
variable {c:RulesD} {l:List EntD} {ns:List NotD}
theorem all_3 (h:32 < ns.length):Xv c l ns=([],0,3):=by unfold Xv;rw [if_pos h]
theorem all_0 {i:Nat} (h:¬ 32 < ns.length) (h2:(C7 c l ns i).2=0) (hi:i=ns.length):Xv c l ns=((C7 c l ns i).1,ns.length,0):=by subst hi;unfold Xv;rw [if_neg h,if_pos h2]
theorem all_e {i:Nat} {n:NotD} {e:Int} (h:¬ 32 < ns.length) (h2:(C7 c l ns i).2=0) (hn:ns[i]?=some n) (he:(Ge c (C7 c l ns i).1 n).2=e) (h0:e≠0):Xv c l ns=([],i,e):=by
 have h3:=Ir h2 hn
 have h4:(C7 c l ns (i+1)).2≠0:=by rw [h3,he];exact h0
 have h5:=Rz h4 ns.length (by have:=Bj hn;omega)
 unfold Xv
 rw [if_neg h,if_neg (by rw [h5];exact h4),h5,h3,he,Ait h2 h4 ns.length (Bj hn)]
end
open Go Go.Y Go.RowKit
set_option linter.unusedSimpArgs false
set_option linter.unusedVariables false
section
variable {P:Program} {ops:Array Oper} {Q:Exit→Act→World→Prop} {n:Nat} {a:Act} {e:Env} {w0 w:World} {G:A4} {L:List Res} {r:List Oper} {d:Nat} {t:TypeId} {p:String} {af:Array Edge}
variable {ρ:Operand→Value} {dd:Option Tmp} {g:Option (Nat × Bool)}
theorem F6 {ta et:TypeId} {i:TI} {x y:Operand} {m:Nat} {cs:Array Value} {us:List Value} {k:IntKind} {z:Int} {j:Nat} (ha:tk P ta=.array m et) (ht:TOK P et i) (hag:i.k.agg=some true)
  (hx:ρ x=.agg cs) (hy:ρ y=.int k z) (hz:z=(j:Int)) (hj:j < m) (hv:cs.extract (j * i.size) (j * i.size+i.size)=us.toArray) :
  (execOp ρ ⟨dd,.index ta x y,t,p,af,g⟩).run P w=.ok (.value (.agg us.toArray)) w:=by
 subst hz
 have c1:(0:Int)≤(j:Int):=by omega
 have c2:(j:Int) < (m:Int):=by omega
 have h1:(isAgg et).run P w=.ok true w:=Qk (by rw [ht.k];exact hag)
 simp [execOp,Instr.index,hx,hy,asIntOf,Ck (Fu ha),hj,ht.sizeOf,part,h1,hv]
theorem Abk {s ft:TypeId} {x:Operand} {f off sz:Nat} {fs:List (Nat × Nat × Nat)} {i:TI} {cs:Array Value} {v:Value} (hs:tk P s=.struct fs) (hf:fs[f]?=some (off,sz,ft)) (ht:TOK P ft i) (hag:i.k.agg=some false)
  (hx:ρ x=.agg cs) (hv:cs[off]?=some v):(execOp ρ ⟨dd,.field s x f,t,p,af,g⟩).run P w=.ok (.value v) w:=by
 obtain ⟨ff,hu,hff⟩:=Kt hs
 subst hff
 simp only [List.getElem?_map,Option.map_eq_some_iff] at hf
 obtain ⟨fd,hfd,he⟩:=hf
 simp only [Prod.mk.injEq] at he
 obtain ⟨rfl,h1,rfl⟩:=he
 have hfd':ff[f]?=some fd:=by simpa using hfd
 simp [execOp,Instr.field,hx,Ck hu,hfd',asAgg,U3 (w:=w) (by rw [ht.k];exact hag) hv]
theorem Afo {f:FuncId} {cal:Operand} {args:List Operand} {ats:Array TypeId} {vs:List Value} {Φ:A4→List Res→Value→Prop}
  (F:Fits n a e) (hE:Ent P f) (hc:ev e cal=some (.func (.func f) #[] #[])) (hv:evs e args=some vs) (hd:Nat.ble (d+1) n=true)
  (hs:Calls P f vs.toArray w (Ij w0 G Φ))
  (k:∀ v G' L' w' a',Gle G G'→Mem w0 G' L' w'→Φ G' L' v→Fits n a' ((d,v)::e)→rl P ops Q r a' w') :
  rl P ops Q (⟨some d,.call ⟨.value cal,args.toArray,ats⟩,t,p,af,none⟩::r) a w:=by
 refine It (caps:=[]) F hE hc hv hd (by rw [List.append_nil];exact hs) fun x w' hx=>?_
 cases x with
 | returned v=>obtain ⟨G',L',h1,h2,h3⟩:=hx;exact ⟨v,rfl,fun a' F'=>k v G' L' w' a' h1 h2 h3 F'⟩
 | panicked c=>exact hx.elim
 | outgrown=>exact hx.elim
end
/-- The names of the kinds. -/
def Bz:Nat→List UInt8
 | 1=>[105,110,115,101,114,116]
 | 2=>[114,101,109,111,118,101]
 | 3=>[109,111,118,101]
 | 4=>[99,104,97,110,103,101]
 | 5=>[114,101,115,101,116]
 | _=>[]
def Ds:Nat→Nat
 | 1=>122
 | 2=>124
 | 3=>125
 | 4=>127
 | _=>129
def H6:List Value:=[
 .string (str []),.bool false,.bool false,.bool false,.bool false,.nilFunc,
 .string (str [105,110,115,101,114,116]),.bool true,.bool false,.bool false,.bool true,.func (.func 122) #[] #[],
 .string (str [114,101,109,111,118,101]),.bool true,.bool true,.bool false,.bool false,.func (.func 124) #[] #[],
 .string (str [109,111,118,101]),.bool true,.bool true,.bool true,.bool false,.func (.func 125) #[] #[],
 .string (str [99,104,97,110,103,101]),.bool true,.bool false,.bool false,.bool true,.func (.func 127) #[] #[],
 .string (str [114,101,115,101,116]),.bool false,.bool false,.bool false,.bool true,.func (.func 129) #[] #[]]
theorem Iw {k:Nat} (h:1≤k∧k≤5):H6.toArray.extract (k * 6) (k * 6+6) =
  [.string (str (Bz k)),.bool (decide (uAt k)),.bool (decide (uCo k)),.bool (decide (uTo k)),.bool (decide (uIt k)),.func (.func (Ds k)) #[] #[]].toArray:=by
 rcases (show k=1∨k=2∨k=3∨k=4∨k=5 by omega) with rfl | rfl | rfl | rfl | rfl <;> rfl
/-- Which fields are used, as numbers; and the fields. -/
def uG (k i:Nat):Int:=match i with
 | 0=>if uAt k then 1 else 0
 | 1=>if uCo k then 1 else 0
 | 2=>if uTo k then 1 else 0
 | _=>if uIt k then 1 else 0
theorem Aij {k i:Nat} (h:i < 4):([.int .i64 (uG k 0),.int .i64 (uG k 1),.int .i64 (uG k 2),.int .i64 (uG k 3)]:List Value)[0+i]?=some (.int .i64 (uG k i)):=by
 rcases (show i=0∨i=1∨i=2∨i=3 by omega) with rfl | rfl | rfl | rfl <;> rfl
def rdZ:Rd Int:=fun _ cs x=>cs=[.int .i64 x]
theorem els_z {G:A4}:∀ {zs:List Int},Els rdZ 1 G (zs.map fun z=>.int .i64 z) zs
 | []=>rfl
 | z::zs=>⟨[.int .i64 z],zs.map fun z=>.int .i64 z,rfl,rfl,rfl,els_z⟩
theorem ite_z {p:Prop} [Decidable p]:(if p then (1:Int) else 0)=0↔¬ p:=by split <;> simp_all
/-- The list after a notice, rules and list being checked first. -/
noncomputable def Aof (c:RulesD) (l:List EntD) (n:NotD):List EntD × Int:=if Bw c l≠0 then ([],Bw c l) else Ge c l n
theorem appE_no {c:RulesD} {l:List EntD} {n:NotD} (h:Bw c l≠0):Aof c l n=([],Bw c l):=by unfold Aof;rw [if_pos h]
theorem Xu {c:RulesD} {l:List EntD} {n:NotD} (h:Bw c l=0):Aof c l n=Ge c l n:=by unfold Aof;rw [if_neg (not_not_intro h)]
theorem Aiq {c:RulesD} {l:List EntD} {ns:List NotD}:C7 c l ns 0=(l,0):=rfl
theorem rem_00 {l:List EntD}:Hu l 0 0=(l,0):=by
 rw [Ajc (by unfold Bp;omega)]
 unfold Ea
 simp
theorem all_x {c:RulesD} {l:List EntD} {ns:List NotD} {i:Nat} (h:¬ 32 < ns.length) (h2:(C7 c l ns i).2=0) (hn:i < ns.length) (he:(C7 c l ns (i+1)).2≠0):Xv c l ns=([],i,(C7 c l ns (i+1)).2):=by
 obtain ⟨x,hx⟩:=Be hn
 rw [Ir h2 hx] at he ⊢
 exact all_e h h2 hx rfl he
noncomputable def P9 (c:RulesD) (l:List EntD) (ns:List NotD):List EntD × Nat × Int:=if Bw c l≠0 then ([],0,Bw c l) else Xv c l ns
theorem allE_no {c:RulesD} {l:List EntD} {ns:List NotD} (h:Bw c l≠0):P9 c l ns=([],0,Bw c l):=by unfold P9;rw [if_pos h]
theorem Pd {c:RulesD} {l:List EntD} {ns:List NotD} (h:Bw c l=0):P9 c l ns=Xv c l ns:=by unfold P9;rw [if_neg (not_not_intro h)]
/-- The results: a cell that is a struct, and two slots. -/
theorem Il {P:Program} {fn:Func} {n:Nat} {a:Act} {e:Env} {w0 w:World} {G:A4} {L:List Res} (F:Fits n a e) {t u u2 ty k b:Nat} {i:TI} {cs:List Value} {x y:Value} {R:Ending→World→Prop} (M:Mem w0 G L w) (hk:L[k]?=some (.blk b cs ty)) (hf:fn.results = #[.cell t ty,.tmp u,.tmp u2])
  (hty:TOK P ty i) (hag:i.k.agg=some true) (hl:cs.length=i.size) (hv:Y.look e t=some (.pointer (some ⟨b,0,none⟩))) (hx:Y.look e u=some x) (hy:Y.look e u2=some y) (h:R (.returned (.tuple #[.agg cs.toArray,x,y])) w):bodyPost P fn R .ret a w:=by
 refine K8 F (v:=.tuple #[.agg cs.toArray,x,y]) ?_ h
 have h1:(loadVar ty ⟨b,0,none⟩).run P w=.ok (.agg cs.toArray) w:=Gp hty hag hl (M.cellsL hk (by rw [List.drop_zero,← hl,List.take_length]))
 simp [results,hf,F.slot _ _ hv,F.slot _ _ hx,F.slot _ _ hy,asAddr,h1]
open Go Go.Y Go.Proofs
set_option linter.unusedVariables false
def ti47:TI:=⟨.slice 65,1,24,.slice none 0 0⟩
theorem E5:TOK Tryz.prog 47 ti47:=⟨by kernel_rfl,by kernel_rfl,by kernel_rfl⟩
def ti65:TI:=⟨.struct [(0,1,5),(1,1,3),(2,1,3),(3,1,3),(4,1,22)],5,56,.agg #[.int .u8 0,.int .i64 0,.int .i64 0,.int .i64 0,.slice none 0 0]⟩
theorem Bf:TOK Tryz.prog 65 ti65:=⟨by kernel_rfl,by kernel_rfl,by kernel_rfl⟩
def ti67:TI:=⟨.func,1,8,.nilFunc⟩
theorem tok67:TOK Tryz.prog 67 ti67:=⟨by kernel_rfl,by kernel_rfl,by kernel_rfl⟩
def ti127:TI:=⟨.array 3 3,3,24,.agg #[.int .i64 0,.int .i64 0,.int .i64 0]⟩
theorem Aau:TOK Tryz.prog 127 ti127:=⟨by kernel_rfl,by kernel_rfl,by kernel_rfl⟩
def ti138:TI:=⟨.struct [(0,1,9),(1,1,4),(2,1,4),(3,1,4),(4,1,4),(5,1,67)],6,32,.agg #[.string ⟨#[]⟩,.bool false,.bool false,.bool false,.bool false,.nilFunc]⟩
theorem Cc:TOK Tryz.prog 138 ti138:=⟨by kernel_rfl,by kernel_rfl,by kernel_rfl⟩
def ti139:TI:=⟨.array 6 138,36,192,.agg #[.string ⟨#[]⟩,.bool false,.bool false,.bool false,.bool false,.nilFunc,.string ⟨#[]⟩,.bool false,.bool false,.bool false,.bool false,.nilFunc,.string ⟨#[]⟩,.bool false,.bool false,.bool false,.bool false,.nilFunc,.string ⟨#[]⟩,.bool false,.bool false,.bool false,.bool false,.nilFunc,.string ⟨#[]⟩,.bool false,.bool false,.bool false,.bool false,.nilFunc,.string ⟨#[]⟩,.bool false,.bool false,.bool false,.bool false,.nilFunc]⟩
theorem Gj:TOK Tryz.prog 139 ti139:=⟨by kernel_rfl,by kernel_rfl,by kernel_rfl⟩
def ti147:TI:=⟨.slice 150,1,24,.slice none 0 0⟩
theorem Nr:TOK Tryz.prog 147 ti147:=⟨by kernel_rfl,by kernel_rfl,by kernel_rfl⟩
def ti150:TI:=⟨.ptr 3,1,8,.pointer none⟩
theorem Nq:TOK Tryz.prog 150 ti150:=⟨by kernel_rfl,by kernel_rfl,by kernel_rfl⟩
def ti155:TI:=⟨.struct [(0,1,9),(1,1,3)],2,24,.agg #[.string ⟨#[]⟩,.int .i64 0]⟩
theorem J4:TOK Tryz.prog 155 ti155:=⟨by kernel_rfl,by kernel_rfl,by kernel_rfl⟩
def ti167:TI:=⟨.array 4 3,4,32,.agg #[.int .i64 0,.int .i64 0,.int .i64 0,.int .i64 0]⟩
theorem C6:TOK Tryz.prog 167 ti167:=⟨by kernel_rfl,by kernel_rfl,by kernel_rfl⟩
def ti169:TI:=⟨.slice 3,1,24,.slice none 0 0⟩
theorem Ail:TOK Tryz.prog 169 ti169:=⟨by kernel_rfl,by kernel_rfl,by kernel_rfl⟩
def ti215:TI:=⟨.struct [(0,1,4),(1,1,150)],2,16,.agg #[.bool false,.pointer none]⟩
theorem Hc:TOK Tryz.prog 215 ti215:=⟨by kernel_rfl,by kernel_rfl,by kernel_rfl⟩
def ti216:TI:=⟨.slice 215,1,24,.slice none 0 0⟩
theorem Aat:TOK Tryz.prog 216 ti216:=⟨by kernel_rfl,by kernel_rfl,by kernel_rfl⟩
def ti219:TI:=⟨.slice 138,1,24,.slice none 0 0⟩
theorem Aik:TOK Tryz.prog 219 ti219:=⟨by kernel_rfl,by kernel_rfl,by kernel_rfl⟩
theorem Als:Ent Tryz.prog 22:=.mk' Tryz.func22 (by kernel_rfl) (by kernel_rfl)
theorem ent25:Ent Tryz.prog 25:=.mk' Tryz.func25 (by kernel_rfl) (by kernel_rfl)
theorem ent28:Ent Tryz.prog 28:=.mk' Tryz.func28 (by kernel_rfl) (by kernel_rfl)
theorem ent32:Ent Tryz.prog 32:=.mk' Tryz.func32 (by kernel_rfl) (by kernel_rfl)
theorem ent33:Ent Tryz.prog 33:=.mk' Tryz.func33 (by kernel_rfl) (by kernel_rfl)
theorem ent36:Ent Tryz.prog 36:=.mk' Tryz.func36 (by kernel_rfl) (by kernel_rfl)
theorem Zy:Ent Tryz.prog 37:=.mk' Tryz.func37 (by kernel_rfl) (by kernel_rfl)
theorem ent40:Ent Tryz.prog 40:=.mk' Tryz.func40 (by kernel_rfl) (by kernel_rfl)
theorem ent69:Ent Tryz.prog 69:=.mk' Tryz.func69 (by kernel_rfl) (by kernel_rfl)
theorem O6:Ent Tryz.prog 75:=.mk' Tryz.func75 (by kernel_rfl) (by kernel_rfl)
theorem ent81:Ent Tryz.prog 81:=.mk' Tryz.func81 (by kernel_rfl) (by kernel_rfl)
theorem ent82:Ent Tryz.prog 82:=.mk' Tryz.func82 (by kernel_rfl) (by kernel_rfl)
theorem ent84:Ent Tryz.prog 84:=.mk' Tryz.func84 (by kernel_rfl) (by kernel_rfl)
theorem ent85:Ent Tryz.prog 85:=.mk' Tryz.func85 (by kernel_rfl) (by kernel_rfl)
theorem ent86:Ent Tryz.prog 86:=.mk' Tryz.func86 (by kernel_rfl) (by kernel_rfl)
theorem ent87:Ent Tryz.prog 87:=.mk' Tryz.func87 (by kernel_rfl) (by kernel_rfl)
theorem ent88:Ent Tryz.prog 88:=.mk' Tryz.func88 (by kernel_rfl) (by kernel_rfl)
theorem ent92:Ent Tryz.prog 92:=.mk' Tryz.func92 (by kernel_rfl) (by kernel_rfl)
theorem ent93:Ent Tryz.prog 93:=.mk' Tryz.func93 (by kernel_rfl) (by kernel_rfl)
theorem ent122:Ent Tryz.prog 122:=.mk' Tryz.func122 (by kernel_rfl) (by kernel_rfl)
theorem ent123:Ent Tryz.prog 123:=.mk' Tryz.func123 (by kernel_rfl) (by kernel_rfl)
theorem ent124:Ent Tryz.prog 124:=.mk' Tryz.func124 (by kernel_rfl) (by kernel_rfl)
theorem ent125:Ent Tryz.prog 125:=.mk' Tryz.func125 (by kernel_rfl) (by kernel_rfl)
theorem ent126:Ent Tryz.prog 126:=.mk' Tryz.func126 (by kernel_rfl) (by kernel_rfl)
theorem ent127:Ent Tryz.prog 127:=.mk' Tryz.func127 (by kernel_rfl) (by kernel_rfl)
theorem ent128:Ent Tryz.prog 128:=.mk' Tryz.func128 (by kernel_rfl) (by kernel_rfl)
theorem ent129:Ent Tryz.prog 129:=.mk' Tryz.func129 (by kernel_rfl) (by kernel_rfl)
theorem Acv:Ent Tryz.prog 132:=.mk' Tryz.func132 (by kernel_rfl) (by kernel_rfl)
theorem ent134:Ent Tryz.prog 134:=.mk' Tryz.func134 (by kernel_rfl) (by kernel_rfl)
theorem ent135:Ent Tryz.prog 135:=.mk' Tryz.func135 (by kernel_rfl) (by kernel_rfl)
theorem ent136:Ent Tryz.prog 136:=.mk' Tryz.func136 (by kernel_rfl) (by kernel_rfl)
end Go.Proofs.YtmmhmcplegpenaaGreatDoor
