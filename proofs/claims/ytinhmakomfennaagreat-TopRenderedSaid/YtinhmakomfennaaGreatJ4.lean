/- Own lemmas. -/
import Derived.Test.YtinhmakomfennaaGreatJ3
import Derived.Test.YtinhmakomfennaaGreatYC
import Derived.Laws.RangeAny
import Derived.Laws.RangeString
import Derived.Shelf.GgClosure.StringsIndexFunc
set_option linter.unusedSimpArgs false
set_option linter.unusedVariables false
set_option linter.unusedSectionVars false
namespace Go.Proofs.YtinhmakomfennaaGreat
open Go Go.Y Go.Proofs
def ti3:TI:=⟨.int .i64,1,8,.int .i64 0⟩
theorem tok3:TOK Tryz.prog 3 ti3:=⟨kR,kR,kR⟩
def ti5:TI:=⟨.int .u8,1,1,.int .u8 0⟩
theorem M8:TOK Tryz.prog 5 ti5:=⟨kR,kR,kR⟩
def ti9:TI:=⟨.str,1,16,.string ⟨#[]⟩⟩
theorem Cs:TOK Tryz.prog 9 ti9:=⟨kR,kR,kR⟩
def ti22:TI:=⟨.slice 5,1,24,.slice none 0 0⟩
theorem Cj:TOK Tryz.prog 22 ti22:=⟨kR,kR,kR⟩
def ti24:TI:=⟨.struct [(0,1,5),(1,1,5),(2,1,22)],3,32,.agg #[.int .u8 0,.int .u8 0,.slice none 0 0]⟩
theorem tok24:TOK Tryz.prog 24 ti24:=⟨kR,kR,kR⟩
def ti25:TI:=⟨.int .u16,1,2,.int .u16 0⟩
theorem tok25:TOK Tryz.prog 25 ti25:=⟨kR,kR,kR⟩
def ti27:TI:=⟨.struct [(0,1,25),(1,1,5),(2,1,22)],3,32,.agg #[.int .u16 0,.int .u8 0,.slice none 0 0]⟩
theorem Ara:TOK Tryz.prog 27 ti27:=⟨kR,kR,kR⟩
def ti34:TI:=⟨.slice 36,1,24,.slice none 0 0⟩
theorem tok34:TOK Tryz.prog 34 ti34:=⟨kR,kR,kR⟩
def ti36:TI:=⟨.struct [(0,1,5),(1,1,9),(2,1,9),(3,1,33),(4,1,9),(5,1,34)],6,104,.agg #[.int .u8 0,.string ⟨#[]⟩,.string ⟨#[]⟩,.slice none 0 0,.string ⟨#[]⟩,.slice none 0 0]⟩
theorem Zh:TOK Tryz.prog 36 ti36:=⟨kR,kR,kR⟩
def ti77:TI:=⟨.slice 3,1,24,.slice none 0 0⟩
theorem Afg:TOK Tryz.prog 77 ti77:=⟨kR,kR,kR⟩
def ti167:TI:=⟨.ptr 169,1,8,.pointer none⟩
theorem Ij:TOK Tryz.prog 167 ti167:=⟨kR,kR,kR⟩
def ti169:TI:=⟨.struct [(0,1,167),(1,1,22)],2,32,.agg #[.pointer none,.slice none 0 0]⟩
theorem Fh:TOK Tryz.prog 169 ti169:=⟨kR,kR,kR⟩
def ti227:TI:=⟨.ptr 5,1,8,.pointer none⟩
theorem tok227:TOK Tryz.prog 227 ti227:=⟨kR,kR,kR⟩
def ti274:TI:=⟨.map 279 3,1,8,.map none⟩
theorem Aca:TOK Tryz.prog 274 ti274:=⟨kR,kR,kR⟩
def ti279:TI:=⟨.struct [(0,1,5),(1,1,9),(2,1,9),(3,1,3)],4,48,.agg #[.int .u8 0,.string ⟨#[]⟩,.string ⟨#[]⟩,.int .i64 0]⟩
theorem Dx:TOK Tryz.prog 279 ti279:=⟨kR,kR,kR⟩
theorem ent185:Ent Tryz.prog 185:=.mk' Tryz.func185 kR kR
theorem ent206:Ent Tryz.prog 206:=.mk' Tryz.func206 kR kR
open Go Go.Y
def Abp (c:UInt8):Prop:=32≤nb c∧nb c≤126
def Str (s:List UInt8):Prop:=s.length≤64∧∀ c∈s,Abp c
def K5 (r:Nat):Bool:=decide ((r:Int) < 32) || decide (126 < (r:Int))
theorem Ahj (l:List UInt8):∀ (f pos:Nat),l.length≤pos+f→(Lib.idxFuncFrom K5 true (str l) f pos < 0↔∀ (m:Nat) (b:UInt8),pos≤m→l[m]?=some b→Abp b)
 | 0,pos,h=>by
  have:Lib.idxFuncFrom K5 true (str l) 0 pos = -1:=rfl;rw [this];refine ⟨fun _ m b hm hb=>?_,fun _=>by decide⟩;have:=lt_of_get hb;omega
 | f+1,pos,h=>by
  unfold Lib.idxFuncFrom
  by_cases hp:pos < (str l).size
  ·rw [if_pos hp];have hl:pos < l.length:=by rw [str_size] at hp;exact hp
   have hb:l[pos]?=some ((str l)[pos]'hp):=by rw [← Afj,getElem?_pos (str l) pos hp]
   generalize hB:(str l)[pos]'hp=B at hb
   by_cases ha:B.toNat < 128
   ·have hd:=decode_ascii (str l) pos hp (by rw [hB];exact ha);rw [hB] at hd;rw [hd]
    by_cases hg:Abp B
    ·have hbad:K5 B.toNat=false:=by
      obtain ⟨h1,h2⟩:=hg;simp only [nb] at h1 h2;simp only [K5,Bool.or_eq_false_iff,decide_eq_false_iff_not];omega
     simp only [hbad,Bool.false_eq_true,if_false];rw [Ahj l f (pos+1) tM];constructor
     ·intro h1 m b hm hb';rcases Nat.eq_or_lt_of_le hm with e | e
      ·subst e;rw [hb] at hb';simp only [Option.some.injEq] at hb';subst hb';exact hg
      ·exact h1 m b tM hb'
     ·exact fun h1 m b hm hb'=>h1 m b tM hb'
    ·have hbad:K5 B.toNat=true:=by
      simp only [Abp,nb] at hg;simp only [K5,Bool.or_eq_true,decide_eq_true_eq];omega
     simp only [hbad,if_true];refine ⟨fun h1=>by omega,fun h1=>absurd (h1 pos B (Nat.le_refl _) hb) hg⟩
   ·have hd:=(decode_high (str l) pos hp (by rw [hB];omega)).1;have hbad:K5 (Utf8.decode (str l) pos).1=true:=by
     simp only [K5,Bool.or_eq_true,decide_eq_true_eq];omega
    simp only [hbad,if_true];refine ⟨fun h1=>by omega,fun h1=>?_⟩;have:=(h1 pos B (Nat.le_refl _) hb).2;simp only [nb] at this;omega
  ·rw [if_neg hp];refine ⟨fun _ m b hm hb=>?_,fun _=>by decide⟩;have:=lt_of_get hb;rw [str_size] at hp;omega
theorem idx_str (l:List UInt8):Lib.idxFunc K5 true (str l) < 0↔∀ c∈l,Abp c:=by
 unfold Lib.idxFunc;rw [Ahj l _ 0 (by rw [str_size];omega)];constructor
 ·intro h c D;obtain ⟨m,E⟩:=List.mem_iff_getElem?.1 D;exact h m c (Nat.zero_le _) E
 ·exact fun h m b _ z=>h b (List.mem_of_getElem? z)
end Go.Proofs.YtinhmakomfennaaGreat
