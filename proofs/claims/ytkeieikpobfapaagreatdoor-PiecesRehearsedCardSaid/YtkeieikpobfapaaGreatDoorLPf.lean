/- LPf: what is wrong with wishes, singers, who came, slots: both sides say the same. In plain Lean, no program in sight. -/
import Derived.Test.YtkeieikpobfapaaGreatDoorLPe
import Derived.Test.YtkeieikpobfapaaGreatDoorLCp
import Derived.Test.YtkeieikpobfapaaGreatDoorLRs
import Derived.Test.YtkeieikpobfapaaGreatDoorLRd
namespace Go.G
open Go Go.J
set_option linter.unusedSimpArgs false
set_option linter.unusedVariables false
def firstF {α : Type} (f:Nat → α → Int):Nat→List α → Int
 | _,[]=>0
 | i,x::t=>bif f i x != 0 then f i x else firstF f (i+1) t
theorem drop_cons {α : Type} {w t:List α} {x : α} {i:Nat} (hd:w.drop i=x::t):w[i]? = some x∧w.drop (i+1)=t:=by
 constructor
 ·have:=congrArg (fun l=>l[0]?) hd
  simpa using this
 ·have:=congrArg List.tail hd
  simpa [List.tail_drop] using this
theorem first_zero {α : Type} (f:Nat → α → Int) (w:List α):∀ (t:List α) (i:Nat),w.drop i=t→firstF f i t=0→∀ (j:Nat) x,i≤j→w[j]? = some x→f j x=0:=by
 intro t
 induction t with
 | nil =>
  intro i hd _ j x hj hx
  have:=(List.getElem?_eq_some_iff.1 hx).1
  have:=List.drop_eq_nil_iff.1 hd
  omega
 | cons x t ih =>
  intro i hd h0 j y hj hy
  obtain ⟨hx,ht⟩:=drop_cons hd
  unfold firstF at h0
  cases hf:(f i x != 0) with
  | true=>rw [hf] at h0; exact absurd h0 (bne_iff_ne.1 hf)
  | false =>
   rw [hf] at h0
   by_cases hji:j=i
   ·subst hji
    rw [hx] at hy; cases hy
    simpa using hf
   ·exact ih (i+1) ht h0 j y (by omega) hy
theorem loop_first {α : Type} (step:Nat → α → Unit→Option (Flow Unit Int)) (f:Nat → α → Int) (w:List α) (h:∀ (i:Nat) x,w[i]? = some x→step i x ()=some (out1S (f i x))) :
  ∀ (t:List α) (i:Nat),w.drop i=t→((rangeM step i t ()).bind fun f7=>Flow.fin f7 fun _=>some 0)=some (firstF f i t):=by
 intro t
 induction t with
 | nil=>intro i _; rfl
 | cons x t ih =>
  intro i hd
  obtain ⟨hx,ht⟩:=drop_cons hd
  rw [rangeM_cons,h i x hx]
  unfold out1S
  rw [firstF]
  cases hf:(f i x != 0) with
  | true=>rfl
  | false=>rw [cond_false,cond_false,Option.bind_some,run_nxt]; exact ih (i+1) ht
theorem wi_ref2 (w:List TWish) (hl:w.length≤1000000):∀ (t:List TWish) (i:Nat) (last:ByteArray),w.drop i=t→(last=match i with | 0=>ByteArray.empty | k+1=>((w[k]?).map (·.Piece)).getD ByteArray.empty) →
  ((rangeM m_gleeref2_WishesFault_l1 i t last).bind fun f7=>Flow.fin f7 fun _=>some 0)=some (firstF (wiF w) i t):=by
 intro t
 induction t with
 | nil=>intro i last hd _; rfl
 | cons x t ih =>
  intro i last hd hlast
  obtain ⟨hx,ht⟩:=drop_cons hd
  have hi:=(List.getElem?_eq_some_iff.1 hx).1
  have hst:m_gleeref2_WishesFault_l1 i x last=some (bif wiF w i x != 0 then .ret (wiF w i x) else .nxt x.Piece):=by
   unfold m_gleeref2_WishesFault_l1 wiF
   rw [isKey_ref,in_spec]
   cases hk:isKey x.Piece
   ·rfl
   cases decide (1≤x.Need∧x.Need≤86400000)
   ·rfl
   simp only [Option.bind_some,Bool.not_true,ifB_false,cond_false]
   rw [bl_or]
   cases i with
   | zero =>
    subst hlast
    rw [if_pos rfl,decide_eq_true (key_ne hk)]; rfl
   | succ k =>
    have hg:w[k]? = some (w[k]'(by omega)):=List.getElem?_eq_getElem (by omega)
    simp only [hg,Option.map_some,Option.getD_some] at hlast
    subst hlast
    rw [if_neg (by omega),Nat.add_sub_cancel,hg]
    simp only
    cases decide (bytesOf (w[k]'(by omega)).Piece<bytesOf x.Piece) <;> rfl
  rw [rangeM_cons,hst,firstF]
  cases hf:(wiF w i x != 0) with
  | true=>rfl
  | false =>
   rw [cond_false,cond_false,Option.bind_some,run_nxt]
   exact ih (i+1) x.Piece ht (by simp [hx])
theorem wishes_spec (w:List TWish):∃ e,m_rehearse_CheckWishes w=some e∧m_gleeref2_WishesFault w=some e∧(e=0→WiOK w):=by
 unfold m_rehearse_CheckWishes m_gleeref2_WishesFault
 by_cases h:(w.length:Int)>200
 ·rw [decide_eq_true h,ifB_true,ifB_true]; exact ⟨2,rfl,rfl,fun g=>by cases g⟩
 ·rw [decide_eq_false h,ifB_false,ifB_false]
  exact ⟨_,loop_first _ (wiF w) w (wi_prog w (by omega)) w 0 rfl,wi_ref2 w (by omega) w 0 ByteArray.empty rfl rfl,fun g=>⟨by omega,fun i x hx=>first_zero (wiF w) w w 0 rfl g i x (Nat.zero_le _) hx⟩⟩
noncomputable def cmpSg (p x:TSings):Int:=bif Lib.compareBytes (bytesOf p.Singer) (bytesOf x.Singer) != 0 then Lib.compareBytes (bytesOf p.Singer) (bytesOf x.Singer) else Lib.compareBytes (bytesOf p.Piece) (bytesOf x.Piece)
noncomputable def siF (g:List TSings) (i:Nat) (x:TSings):Int :=
 bif !(isKey x.Singer&&isKey x.Piece&&isKey x.Part) then 5 else if i=0 then 0 else match g[i - 1]? with | some p=>(bif cmpSg p x==0 then 6 else bif decide (cmpSg p x>0) then 7 else 0) | none=>0
theorem sg_out (v:Int):(ifB (v==0) (some (.ret 6)) (ifB (decide (v>0)) (some (.ret 7)) (some (.nxt ()))):Option (Flow Unit Int))=some (bif (bif v==0 then (6:Int) else bif decide (v>0) then 7 else 0) != 0 then .ret (bif v==0 then (6:Int) else bif decide (v>0) then 7 else 0) else .nxt ()):=by
 cases v==0
 ·cases decide (v>0) <;> rfl
 ·rfl
theorem si_prog (g:List TSings) (hl:g.length≤1000000) (i:Nat) (x:TSings) (hx:g[i]? = some x):m_rehearse_CheckSings_l1 g i x ()=some (out1S (siF g i x)):=by
 have hi:=(List.getElem?_eq_some_iff.1 hx).1
 unfold m_rehearse_CheckSings_l1 siF out1S
 rw [isKey_prog,isKey_prog,isKey_prog]
 cases isKey x.Singer
 ·rfl
 cases isKey x.Piece
 ·rfl
 cases isKey x.Part
 ·rfl
 simp only [Option.bind_some,Bool.not_true,ifB_false,cond_false,Bool.and_self,fin_inl]
 by_cases h0:i=0
 ·subst h0; rfl
 ·have hg:g[i - 1]? = some (g[i - 1]'(by omega)):=List.getElem?_eq_getElem (by omega)
  rw [if_neg h0,show (((i:Nat):Int)==0)=false by simpa using h0,ifB_false,w64_id (by omega),getI_of (n:=i - 1) (by omega) hg,hg,Option.bind_some]
  simp only [Option.bind_some]
  rw [show m_strings_Compare (g[i - 1]'(by omega)).Singer x.Singer=some (Lib.compareBytes (bytesOf (g[i - 1]'(by omega)).Singer) (bytesOf x.Singer)) from rfl,Option.bind_some,show m_strings_Compare (g[i - 1]'(by omega)).Piece x.Piece=some (Lib.compareBytes (bytesOf (g[i - 1]'(by omega)).Piece) (bytesOf x.Piece)) from rfl,Option.bind_some,Or_two,Option.bind_some]
  exact sg_out (cmpSg (g[i - 1]'(by omega)) x)
theorem Compare2 (a b c d:ByteArray):m_slices_Compare_string_string [a,b] [c,d]=some (bif Lib.compareBytes (bytesOf a) (bytesOf c) != 0 then Lib.compareBytes (bytesOf a) (bytesOf c) else Lib.compareBytes (bytesOf b) (bytesOf d)):=by
 unfold m_slices_Compare_string_string
 have h1:m_slices_Compare_string_string_l1 [c,d] 0 a ()=some (out1S (Lib.compareBytes (bytesOf a) (bytesOf c))):=by
  unfold m_slices_Compare_string_string_l1 out1S
  rw [show decide (((0:Nat):Int)≥(([c,d]:List ByteArray).length:Int))=false from rfl,ifB_false,getI_of (n:=0) (by simp) (show ([c,d]:List ByteArray)[0]? = some c from rfl),Option.bind_some,cmpStr,Option.bind_some]
  cases (Lib.compareBytes (bytesOf a) (bytesOf c) != 0) <;> rfl
 have h2:m_slices_Compare_string_string_l1 [c,d] 1 b ()=some (out1S (Lib.compareBytes (bytesOf b) (bytesOf d))):=by
  unfold m_slices_Compare_string_string_l1 out1S
  rw [show decide (((1:Nat):Int)≥(([c,d]:List ByteArray).length:Int))=false from rfl,ifB_false,getI_of (n:=1) (by simp) (show ([c,d]:List ByteArray)[1]? = some d from rfl),Option.bind_some,cmpStr,Option.bind_some]
  cases (Lib.compareBytes (bytesOf b) (bytesOf d) != 0) <;> rfl
 rw [rangeM_cons,h1]
 unfold out1S
 cases hf:(Lib.compareBytes (bytesOf a) (bytesOf c) != 0) with
 | true=>rfl
 | false =>
  rw [cond_false,cond_false,Option.bind_some,run_nxt,rangeM_cons,h2]
  unfold out1S
  cases hf2:(Lib.compareBytes (bytesOf b) (bytesOf d) != 0) with
  | true=>rfl
  | false =>
   have:Lib.compareBytes (bytesOf b) (bytesOf d)=0:=by simpa using hf2
   rw [this]; rfl
theorem si_ref (g:List TSings) (hl:g.length≤1000000) (i:Nat) (x:TSings) (hx:g[i]? = some x):m_gleeref2_SingsFault_l1 g i x ()=some (out1S (siF g i x)):=by
 have hi:=(List.getElem?_eq_some_iff.1 hx).1
 unfold m_gleeref2_SingsFault_l1 siF out1S
 rw [isKey_ref,isKey_ref,isKey_ref]
 cases isKey x.Singer
 ·rfl
 cases isKey x.Piece
 ·rfl
 cases isKey x.Part
 ·rfl
 simp only [Option.bind_some,Bool.not_true,ifB_false,cond_false,Bool.and_self,fin_inl]
 by_cases h0:i=0
 ·subst h0; rfl
 ·have hg:g[i - 1]? = some (g[i - 1]'(by omega)):=List.getElem?_eq_getElem (by omega)
  rw [if_neg h0,show (((i:Nat):Int)==0)=false by simpa using h0,ifB_false,w64_id (by omega),getI_of (n:=i - 1) (by omega) hg,hg,Option.bind_some]
  simp only [Option.bind_some]
  rw [Compare2]
  simp only [Option.bind_some,fin_inl]
  exact sg_out (cmpSg (g[i - 1]'(by omega)) x)
def SiOK (g:List TSings):Prop:=∀ (i:Nat) x,g[i]? = some x→siF g i x=0
theorem sings_spec (g:List TSings):∃ e,m_rehearse_CheckSings g=some e∧m_gleeref2_SingsFault g=some e∧(e=0→SiOK g):=by
 unfold m_rehearse_CheckSings m_gleeref2_SingsFault
 by_cases h:(g.length:Int)>5000
 ·rw [decide_eq_true h,ifB_true,ifB_true]; exact ⟨2,rfl,rfl,fun g=>by cases g⟩
 ·rw [decide_eq_false h,ifB_false,ifB_false]
  exact ⟨_,loop_first _ (siF g) g (si_prog g (by omega)) g 0 rfl,loop_first _ (siF g) g (si_ref g (by omega)) g 0 rfl,fun h0 i x hx=>first_zero (siF g) g g 0 rfl h0 i x (Nat.zero_le _) hx⟩
theorem si_lt {g:List TSings} (h:SiOK g) {i:Nat} (h1:i+1<g.length):ltS (g[i]'(by omega)) g[i+1]:=by
 have:=h (i+1) g[i+1] (List.getElem?_eq_getElem h1)
 unfold siF at this
 rw [if_neg (by omega),Nat.add_sub_cancel,List.getElem?_eq_getElem (by omega)] at this
 simp only at this
 obtain ⟨-,this⟩:=cF' this (by decide)
 obtain ⟨k0,this⟩:=cF' this (by decide)
 obtain ⟨k1,-⟩:=cF' this (by decide)
 have k0:cmpSg (g[i]'(by omega)) g[i+1]≠0:=by simpa using k0
 have k1:¬ cmpSg (g[i]'(by omega)) g[i+1]>0:=by simpa using k1
 unfold cmpSg at k0 k1
 rcases cb_spec (bytesOf (g[i]'(by omega)).Singer) (bytesOf g[i+1].Singer) with ⟨e,hh⟩ | ⟨e,hh⟩ | ⟨e,hh⟩
 ·exact Or.inl hh
 ·right
  rw [e] at k0 k1
  have k0:Lib.compareBytes (bytesOf (g[i]'(by omega)).Piece) (bytesOf g[i+1].Piece)≠0:=k0
  have k1:¬ Lib.compareBytes (bytesOf (g[i]'(by omega)).Piece) (bytesOf g[i+1].Piece)>0:=k1
  refine ⟨show ofBytes (bytesOf _)=ofBytes (bytesOf _) by rw [hh],?_⟩
  rcases cb_spec (bytesOf (g[i]'(by omega)).Piece) (bytesOf g[i+1].Piece) with ⟨e,hh⟩ | ⟨e,hh⟩ | ⟨e,hh⟩
  ·exact hh
  ·exact absurd e k0
  ·rw [e] at k1; exact absurd (by decide) k1
 ·rw [e] at k1; exact absurd (show (1:Int)>0 by decide) k1
theorem ltS_trans {a b c:TSings} (h1:ltS a b) (h2:ltS b c):ltS a c:=by
 rcases h1 with h1 | ⟨e1,h1⟩ <;> rcases h2 with h2 | ⟨e2,h2⟩
 ·exact Or.inl (List.lt_trans h1 h2)
 ·exact Or.inl (e2 ▸ h1)
 ·exact Or.inl (e1 ▸ h2)
 ·exact Or.inr ⟨e1.trans e2,List.lt_trans h1 h2⟩
theorem si_pw {g:List TSings} (h:SiOK g):g.Pairwise ltS:=by
 have key:∀ (n i:Nat) (hi:i+n+1<g.length),ltS (g[i]'(by omega)) g[i+n+1]:=by
  intro n
  induction n with
  | zero=>intro i hi; exact si_lt h hi
  | succ n ih=>intro i hi; exact ltS_trans (ih i (by omega)) (si_lt h (i:=i+n+1) (by omega))
 rw [List.pairwise_iff_getElem]
 intro i j hi hj hij
 have:=key (j - i - 1) i (by omega)
 have e:i+(j - i - 1)+1=j:=by omega
 simp only [e] at this
 exact this
theorem ltS_ne {a b:TSings} (h:ltS a b) (h1:a.Singer=b.Singer) (h2:a.Piece=b.Piece):False:=by
 rcases h with h | ⟨-,h⟩
 ·rw [h1] at h; exact bs_irr _ h
 ·rw [h2] at h; exact bs_irr _ h
theorem si_uniq {g:List TSings} (h:SiOK g) {a b:TSings} (ha:a∈g) (hb:b∈g) (h1:a.Singer=b.Singer) (h2:a.Piece=b.Piece):a=b:=by
 obtain ⟨i,hi,rfl⟩:=List.getElem_of_mem ha
 obtain ⟨j,hj,rfl⟩:=List.getElem_of_mem hb
 have hp:=List.pairwise_iff_getElem.1 (si_pw h)
 rcases Nat.lt_trichotomy i j with h3 | h3 | h3
 ·exact (ltS_ne (hp i j hi hj h3) h1 h2).elim
 ·subst h3; rfl
 ·exact (ltS_ne (hp j i hj hi h3) h1.symm h2.symm).elim
theorem came_spec (c:List TCame) (hl:c.length≤1000) (hd:∀ x∈c,DrC x):∃ e,m_rehearse_CheckCame c=some e∧m_gleeref2_CameFault c=some e∧(e=0→CmOK c):=by
 unfold m_rehearse_CheckCame m_gleeref2_CameFault
 rw [decide_eq_false (by omega),ifB_false,ifB_false]
 exact ⟨_,loop_first _ (cmF c) c (cm_prog c (by omega)) c 0 rfl,loop_first _ (cmF c) c (cm_ref c (by omega) hd) c 0 rfl,fun h0=>⟨by omega,fun i x hx=>first_zero (cmF c) c c 0 rfl h0 i x (Nat.zero_le _) hx⟩⟩
theorem slots_sF {l:List TSlot} (h:m_rehearse_CheckSlots l=some 0):SlR l:=by
 unfold m_rehearse_CheckSlots at h
 by_cases hl:(l.length:Int)>300
 ·rw [decide_eq_true hl,ifB_true] at h; cases h
 rw [decide_eq_false hl,ifB_false] at h
 refine sl_rise (by omega) fun i x hx=>?_
 have h1:=loop_first _ (sF l) l (prog1 l (by omega)) l 0 rfl
 by_cases h0:firstF (sF l) 0 l=0
 ·exact first_zero (sF l) l l 0 rfl h0 i x (Nat.zero_le _) hx
 ·exfalso
  cases hr:rangeM (m_rehearse_CheckSlots_l1 l) 0 l () with
  | none=>rw [hr] at h; cases h
  | some f =>
   rw [hr] at h h1
   cases f with
   | nxt u=>cases h1
   | brk u=>exact absurd (Option.some.inj h1).symm h0
   | ret e =>
    have e1:e=firstF (sF l) 0 l:=Option.some.inj h1
    have e2:e=0:=Option.some.inj h
    exact h0 (e1.symm.trans e2)
end Go.G
