/- LU1: what is wrong with a tone, in plain Lean: the program and the reference say the same. No program in sight. -/
import Derived.Test.YtlkpfhdlfapfhaaGreatDoorLT
import Derived.Test.YtlkpfhdlfapfhaaGreatDoorLS1
namespace Go.G
open Go Go.J
set_option linter.unusedSimpArgs false
def inW (n:Int):Prop:=-9223372036854775808≤n∧n≤9223372036854775807
theorem lowLoop (n:Nat):∀ (a b:Int),b.natAbs=n→inW a→inW b→∃ g,loopM m_piece_isLowest_l1 (a,b)=some (.brk (g,0))∧loopM m_gleeref2_divisor_l1 (a,b)=some (.brk (g,0))∧inW g:=by
 induction n using Nat.strongRecOn with
 | _ n ih =>
  intro a b hb ha hr
  by_cases h0:b=0
  ·subst h0
   exact ⟨a,by rw [loopM_step (g:=.brk (a,0)) rfl]; rfl,by rw [loopM_step (g:=.brk (a,0)) rfl]; rfl,ha⟩
  ·have h1:(b != 0)=true:=by simpa using h0
   have hlt:(a.tmod b).natAbs<b.natAbs:=by rw [Int.natAbs_tmod]; exact Nat.mod_lt _ (by omega)
   have hrr:inW (a.tmod b):=by unfold inW at *; omega
   obtain ⟨g,h2,h3,h4⟩:=ih _ (hb ▸ hlt) b (a.tmod b) rfl hr hrr
   have e1:m_piece_isLowest_l1 (a,b)=some (.nxt (b,a.tmod b)):=by
    unfold m_piece_isLowest_l1
    simp only [h1,ifB_true,remM_of h0,Option.bind_some]
   have e2:m_gleeref2_divisor_l1 (a,b)=some (.nxt (b,a.tmod b)):=by
    unfold m_gleeref2_divisor_l1
    simp only [h1,ifB_true,remM_of h0,Option.bind_some]
   exact ⟨g,by rw [loopM_step e1]; exact h2,by rw [loopM_step e2]; exact h3,h4⟩
theorem isLowest_spec (f:TFraction) (hn:inW f.Num) (hd:inW f.Den):∃ (b:Bool) (d:Int),m_piece_isLowest f=some b∧m_gleeref2_divisor f.Num f.Den=some d∧b = !(decide (f.Den<1)||d != 1):=by
 obtain ⟨g,h1,h2,h3⟩:=lowLoop _ f.Num f.Den rfl hn hd
 refine ⟨ifB (decide (f.Den>0)) (g==1||g == -1) false,max g (w64 (0 - g)),?_,by unfold m_gleeref2_divisor; rw [h2]; rfl,?_⟩
 ·unfold m_piece_isLowest
  rw [h1,Option.bind_some,fin_brk]
  cases decide (f.Den>0) <;> cases hg:(g==1) <;> simp [hg]
 unfold inW at h3
 have e:(max g (w64 (0 - g)) != 1) = !(g==1||g == -1):=by
  by_cases hm:g = -9223372036854775808
  ·subst hm; decide
  ·rw [w64_id (by omega)]
   by_cases p:g=1
   ·subst p; rfl
   ·by_cases q:g = -1
    ·subst q; rfl
    ·have h4:(max g (0 - g) != 1)=true:=by rw [bne_iff_ne]; omega
     have h5:(g==1)=false:=by simpa using p
     have h6:(g == -1)=false:=by simpa using q
     rw [h4,h5,h6]; rfl
 rw [e]
 by_cases hd0:f.Den>0
 ·have:¬ f.Den<1:=by omega
  simp only [hd0,this,decide_true,decide_false,ifB_true,Bool.false_or,Bool.not_not]
 ·have:f.Den<1:=by omega
  simp [hd0,this]
theorem text_spec (s:ByteArray) (hs:s.size≤1000000):∃ b,m_piece_isText s=some b∧m_gleeref2_textFault s=some (!b)∧(b=true→s.size≤20∧∀ (j:Nat) c,j<s.size→strI s (j:Int)=some c→33≤c):=by
 have hv:m_utf8_ValidString s=some (Lib.validD s.data.toList):=by
  unfold m_utf8_ValidString
  rw [if_pos (by omega)]
 unfold m_piece_isText m_gleeref2_textFault
 rw [hv]
 simp only [Option.bind_some]
 generalize Lib.validD s.data.toList=v
 by_cases h20:(s.size:Int)>20
 ·refine ⟨false,?_,?_,fun h=>by cases h⟩
  ·simp only [h20,decide_true,ifB_true,Option.bind_some,fin_inl]
  ·cases v <;> simp only [h20,decide_true,ifB_true,ifB_false,Option.bind_some,fin_inl,Bool.not_true,Bool.not_false]
 ·simp only [h20,decide_false,ifB_false,Option.bind_some,fin_inl]
  cases v with
  | false=>exact ⟨false,by simp only [Bool.not_false,ifB_true,Option.bind_some,fin_inl],by simp only [Bool.not_false,ifB_true,Option.bind_some,fin_inl],fun h=>by cases h⟩
  | true =>
   simp only [Bool.not_true,ifB_false,Option.bind_some,fin_inl]
   rw [rangeI_of (by omega),Option.bind_some,Option.bind_some]
   have key:∀ (t:List Nat) (i:Nat),i+t.length≤s.size→(rangeM (m_piece_isText_l1 s) i t ()=some (.brk ())∧rangeM (m_gleeref2_textFault_l1 s) i t ()=some (.brk ())∧∀ (j:Nat) c,i≤j→j<i+t.length→strI s (j:Int)=some c→33≤c)∨(rangeM (m_piece_isText_l1 s) i t ()=some (.ret false)∧rangeM (m_gleeref2_textFault_l1 s) i t ()=some (.ret true)):=by
    intro t
    induction t with
    | nil=>intro i _; exact .inl ⟨rfl,rfl,fun j c h1 h2=>by simp at h2; omega⟩
    | cons x t ih =>
     intro i hi
     simp only [List.length_cons] at hi
     have hc:∃ c,strI s (i:Int)=some c:=by
      unfold strI
      rw [if_pos (by omega)]
      have:i<s.size:=by omega
      exact ⟨_,by rw [Int.toNat_natCast,getElem?_pos s i this]; rfl⟩
     obtain ⟨c,hc⟩:=hc
     have e:∃ b:Bool,m_piece_isText_l1 s i x ()=some (bif b then .ret false else .nxt ())∧m_gleeref2_textFault_l1 s i x ()=some (bif b then .ret true else .nxt ())∧(b=false→33≤c):=by
      unfold m_piece_isText_l1 m_gleeref2_textFault_l1
      simp only [hc,Option.bind_some]
      by_cases h1:c<33
      ·exact ⟨true,by simp [h1],by simp [h1],fun h=>by cases h⟩
      ·cases h2:(c==127)
       ·cases h3:(c==124)
        ·exact ⟨false,by simp [h1],by simp [h1],fun _=>by omega⟩
        ·exact ⟨true,by simp [h1],by simp [h1],fun h=>by cases h⟩
       ·exact ⟨true,by simp [h1],by simp [h1],fun h=>by cases h⟩
     obtain ⟨b,e1,e2,e3⟩:=e
     rw [rangeM_cons,rangeM_cons,e1,e2]
     cases b
     ·rcases ih (i+1) (by omega) with ⟨q1,q2,q3⟩ | q
      ·refine .inl ⟨q1,q2,fun j c' h1 h2 hc'=>?_⟩
       simp only [List.length_cons] at h2
       by_cases hj:j=i
       ·subst hj
        rw [hc] at hc'; cases hc'
        exact e3 rfl
       ·exact q3 j c' (by omega) (by omega) hc'
      ·exact .inr q
     ·exact .inr ⟨rfl,rfl⟩
   rcases key (List.range (s.size:Int).toNat) 0 (by simp) with ⟨h1,h2,h3⟩ | ⟨h1,h2⟩
   ·exact ⟨true,by rw [h1]; rfl,by rw [h2]; rfl,fun _=>⟨by omega,fun j c hj hc=>h3 j c (Nat.zero_le _) (by simpa using hj) hc⟩⟩
   ·exact ⟨false,by rw [h1]; rfl,by rw [h2]; rfl,fun h=>by cases h⟩
structure TOk (x:TTone):Prop where
 num:inW x.Long.Num
 den:inW x.Long.Den
 text:x.Text.size≤1000000
structure TGood (x:TTone):Prop where
 note:x.Note = -1∨(0≤x.Note∧x.Note≤127)
 num:1≤x.Long.Num
 den:1≤x.Long.Den
 div:(192:Int).tmod x.Long.Den=0
 most:x.Long.Num≤16*x.Long.Den
 text:x.Text.size≤20
 byte:∀ (j:Nat) c,j<x.Text.size→strI x.Text (j:Int)=some c→33≤c
theorem toneFault_spec (x:TTone) (h:TOk x):∃ k,m_piece_toneFault x=some k∧m_gleeref2_toneFault x=some k∧(k=0→TGood x):=by
 obtain ⟨b,d,h1,h2,rfl⟩:=isLowest_spec x.Long h.num h.den
 obtain ⟨t,h3,h4,h5⟩:=text_spec x.Text h.text
 unfold m_piece_toneFault m_gleeref2_toneFault
 simp only [OutB_spec,inB_spec,h1,h2,h3,h4,Option.bind_some,Bool.not_not]
 have c1:∀ {τ : Type} (k:Bool→Option τ),(ifB (x.Note != (-1)) (some (Sum.inl (outB x.Note 0 127))) (some (Sum.inl false)):Option (Bool ⊕ τ)).bind (fun z=>Sum.fin z k)=k ((x.Note != (-1))&&outB x.Note 0 127):=by
  intro τ k
  cases (x.Note != (-1)) <;> rfl
 rw [c1,c1]
 cases hb1:((x.Note != (-1))&&outB x.Note 0 127) with
 | true=>exact ⟨1,rfl,rfl,fun h=>by cases h⟩
 | false =>
  have hnote:x.Note = -1∨(0≤x.Note∧x.Note≤127):=by
   unfold outB at hb1
   simp only [Bool.and_eq_false_iff,bne_eq_false_iff_eq,Bool.or_eq_false_iff,decide_eq_false_iff_not] at hb1
   omega
  simp only [ifB_false]
  cases hn:decide (x.Long.Num<1) with
  | true=>exact ⟨3,rfl,rfl,fun h=>by cases h⟩
  | false =>
   simp only [ifB_false]
   cases hd:decide (x.Long.Den<1) with
   | true=>exact ⟨3,rfl,rfl,fun h=>by cases h⟩
   | false =>
    simp only [ifB_false,Bool.false_or]
    cases hdd:(d != 1) with
    | true=>exact ⟨3,rfl,rfl,fun h=>by cases h⟩
    | false =>
     simp only [Option.bind_some,fin_inl,Bool.not_false,Bool.not_true,ifB_false]
     have hnum:1≤x.Long.Num:=by have:=of_decide_eq_false hn; omega
     have hden:1≤x.Long.Den:=by have:=of_decide_eq_false hd; omega
     rw [remM_of (by omega)]
     simp only [Option.bind_some]
     cases hz:((192:Int).tmod x.Long.Den != 0) with
     | true=>exact ⟨1,rfl,rfl,fun h=>by cases h⟩
     | false =>
      have hz0:(192:Int).tmod x.Long.Den=0:=by simpa using hz
      have hle:x.Long.Den≤192:=by
       have h5:(192:Int)=x.Long.Den*(192:Int).tdiv x.Long.Den:=by have:=Int.mul_tdiv_add_tmod 192 x.Long.Den; omega
       have h6:0≤(192:Int).tdiv x.Long.Den:=Int.tdiv_nonneg (by omega) (by omega)
       have h7:(192:Int).tdiv x.Long.Den≠0:=fun h=>by rw [h] at h5; omega
       have h8:x.Long.Den*1≤x.Long.Den*(192:Int).tdiv x.Long.Den:=Int.mul_le_mul_of_nonneg_left (by omega) (by omega)
       omega
      simp only [ifB_false,Option.bind_some,fin_inl]
      rw [w64_id (by omega)]
      cases hm:decide (x.Long.Num>16*x.Long.Den) with
      | true=>exact ⟨1,rfl,rfl,fun h=>by cases h⟩
      | false =>
       simp only [ifB_false]
       have good:t=true→TGood x:=fun ht=>⟨hnote,hnum,hden,hz0,by have:=of_decide_eq_false hm; omega,(h5 ht).1,(h5 ht).2⟩
       cases t with
       | false=>exact ⟨3,rfl,rfl,fun h=>by cases h⟩
       | true =>
        simp only [Bool.not_true,ifB_false]
        have c2:∀ (b1 b2 b3:Bool),∃ k:Int,(ifB b1 (ifB b2 (some (Sum.inl true)) (some (Sum.inl b3))) (some (Sum.inl false)):Option (Bool ⊕ Int)).bind (fun k17=>Sum.fin k17 fun u15=>ifB u15 (some (16:Int)) (some 0))=some k:=by
         intro b1 b2 b3
         cases b1 <;> cases b2 <;> cases b3 <;> exact ⟨_,rfl⟩
        obtain ⟨k,hk⟩:=c2 (x.Note == -1) x.Tied (!x.Text.toList==ByteArray.empty.toList)
        exact ⟨k,hk,hk,fun _=>good rfl⟩
end Go.G
