/- LSl: slots: what is wrong with them, by both ways. In plain Lean, no program in sight. -/
import Derived.Test.YtkeieikpobfapaaGreatDoorLKr
import Derived.Test.YtkeieikpobfapaaGreatDoorLS1
import Derived.Test.YtkeieikpobfapaaGreatDoorLG1
import Derived.Sort.Walk0
namespace Go.G
open Go Go.J
set_option linter.unusedSimpArgs false
set_option linter.unusedVariables false
theorem rangeM_cg {α σ ρ : Type} {f g:Nat → α → σ → Option (Flow σ ρ)} {xs:List α} (h:∀ (i:Nat) x s,xs[i]? = some x→f i x s=g i x s) (s : σ):rangeM f 0 xs s=rangeM g 0 xs s:=by
 have key:∀ (t:List α) (i:Nat) (s : σ),xs.drop i=t→rangeM f i t s=rangeM g i t s:=by
  intro t
  induction t with
  | nil=>intro i s _; rfl
  | cons x t ih =>
   intro i s hd
   have hx:xs[i]? = some x:=by
    have:=congrArg (fun l=>l[0]?) hd
    simpa using this
   have ht:xs.drop (i+1)=t:=by
    have:=congrArg List.tail hd
    simpa [List.tail_drop] using this
   rw [rangeM_cons,rangeM_cons,h i x s hx]
   congr 1
   funext fl
   cases fl with
   | nxt s'=>exact ih (i+1) s' ht
   | brk s'=>rfl
   | ret v=>rfl
 exact key xs 0 s rfl
theorem rangeM_index {α : Type} (step:Nat → α → Unit→Option (Flow Unit Int)) (p : α → Bool) (h:∀ (i:Nat) x,step i x ()=some (if p x=true then .ret (i:Int) else .nxt ())):∀ (xs:List α) (i:Nat),∃ f,rangeM step i xs ()=some f∧(xs.any p=true→∃ j:Int,f = .ret j∧0≤j)∧(xs.any p=false→f = .brk ()):=by
 intro xs
 induction xs with
 | nil=>intro i; exact ⟨.brk (),rfl,fun h=>by simp at h,fun _=>rfl⟩
 | cons x t ih =>
  intro i
  rw [rangeM_cons,h]
  by_cases hp:p x=true
  ·rw [if_pos hp]
   exact ⟨.ret (i:Int),rfl,fun _=>⟨i,rfl,by omega⟩,fun g=>by simp [hp] at g⟩
  ·rw [if_neg hp]
   obtain ⟨f,h1,h2,h3⟩:=ih (i+1)
   have e:(x::t).any p=t.any p:=by simp [hp]
   rw [e]
   exact ⟨f,h1,h2,h3⟩
theorem index_dec {α : Type} (step:Nat → α → Unit→Option (Flow Unit Int)) (p : α → Bool) (h:∀ (i:Nat) x,step i x ()=some (if p x=true then .ret (i:Int) else .nxt ())) (xs:List α):∃ j:Int,((rangeM step 0 xs ()).bind fun f7=>Flow.fin f7 fun u4=>some (-1))=some j∧decide (j≥0)=xs.any p:=by
 obtain ⟨f,h1,h2,h3⟩:=rangeM_index step p h xs 0
 rw [h1,Option.bind_some]
 cases hb:xs.any p with
 | true =>
  obtain ⟨j,rfl,hj⟩:=h2 hb
  exact ⟨j,rfl,decide_eq_true hj⟩
 | false =>
  rw [h3 hb]
  exact ⟨-1,rfl,rfl⟩
def sameB (a b:ByteArray):Bool:=a.toList==b.toList
theorem sameB_iff {a b:ByteArray}:sameB a b=true↔a=b:=by unfold sameB; rw [beq_iff_eq]; exact ba_toList_inj
theorem keyAt_prog (q:List TSlot) (x:TSlot):m_slices_ContainsFunc_api_Slot_api_Slot__rehearse_slotFault_1 q x.Key x.Room x.Piece x.Parts x.Time.From x.Time.To=some (q.any fun o=>sameB o.Key x.Key):=by
 unfold m_slices_ContainsFunc_api_Slot_api_Slot__rehearse_slotFault_1 m_slices_IndexFunc_api_Slot_api_Slot__rehearse_slotFault_1
 obtain ⟨j,h1,h2⟩:=index_dec (m_slices_IndexFunc_api_Slot_api_Slot__rehearse_slotFault_1_l1 x.Key x.Room x.Piece x.Parts x.Time.From x.Time.To) (fun o=>sameB o.Key x.Key) (fun i o=>by
  unfold m_slices_IndexFunc_api_Slot_api_Slot__rehearse_slotFault_1_l1 m_rehearse_slotFault_1
  rw [Option.bind_some]
  show ifB (sameB o.Key x.Key) _ _=_
  cases sameB o.Key x.Key <;> rfl) q
 rw [h1,Option.bind_some,h2]
theorem keyAt_ref (q:List TSlot) (x:TSlot):∃ j,m_gleeref2_SlotAt q x.Key=some j∧decide (j≥0)=q.any fun o=>sameB o.Key x.Key:=by
 unfold m_gleeref2_SlotAt m_slices_IndexFunc_api_Slot_api_Slot__gleeref2_SlotAt_1
 obtain ⟨j,h1,h2⟩:=index_dec (m_slices_IndexFunc_api_Slot_api_Slot__gleeref2_SlotAt_1_l1 x.Key) (fun o=>sameB o.Key x.Key) (fun i o=>by
  unfold m_slices_IndexFunc_api_Slot_api_Slot__gleeref2_SlotAt_1_l1 m_gleeref2_SlotAt_1
  rw [Option.bind_some]
  show ifB (sameB o.Key x.Key) _ _=_
  cases sameB o.Key x.Key <;> rfl) q
 exact ⟨j,by rw [h1,Option.bind_some],h2⟩
theorem names_eq (l:List ByteArray):m_rehearse_namesFault l=m_gleeref2_Rising l:=by
 unfold m_rehearse_namesFault m_gleeref2_Rising
 have:m_rehearse_namesFault_l1 l=m_gleeref2_Rising_l1 l:=by
  funext i x u
  unfold m_rehearse_namesFault_l1 m_gleeref2_Rising_l1
  rw [IsKey_eq]
 rw [this]
theorem Rising_ok (l:List ByteArray) (hl:l.length≤1000000):∃ e,m_gleeref2_Rising l=some e∧(e=0→∀ z∈l,isKey z=true):=by
 unfold m_gleeref2_Rising
 obtain ⟨f,h,hq⟩:=rangeM_stop (m_gleeref2_Rising_l1 l) l (fun n _=>∀ (i:Nat) z,i<n→l[i]? = some z→isKey z=true) (fun f=>match f with | .nxt _=>False | .brk _=>∀ z∈l,isKey z=true | .ret e=>e≠0) (by
  intro i x s hx hI
  have hi:=(List.getElem?_eq_some_iff.1 hx).1
  unfold m_gleeref2_Rising_l1
  rw [isKey_ref,Option.bind_some]
  cases hk:isKey x with
  | false=>exact ⟨.ret 5,rfl,by simp,by simp,by simp⟩
  | true =>
   have hb:∃ b,((ifB (decide ((i:Int)>0)) ((getI l (w64 ((i:Int) - 1))).bind fun e12=>some (.inl (Op.bytesLess x.toList e12.toList||x.toList==e12.toList))) (some (.inl false)):Option (Bool ⊕ (Flow Unit Int))))=some (.inl b):=by
    by_cases h0:i=0
    ·exact ⟨false,by rw [decide_eq_false (by omega)]; rfl⟩
    ·rw [decide_eq_true (by omega),ifB_true,w64_id (by omega),getI_of (n:=i - 1) (by omega) (List.getElem?_eq_getElem (by omega)),Option.bind_some]
     exact ⟨_,rfl⟩
   obtain ⟨b,hb⟩:=hb
   rw [Bool.not_true,ifB_false,hb]
   cases b with
   | true=>exact ⟨.ret 7,rfl,by simp,by simp,by simp⟩
   | false =>
    refine ⟨.nxt (),rfl,fun s' _ j z hj hz=>?_,by simp,by simp⟩
    by_cases hji:j<i
    ·exact hI j z hji hz
    ·have:j=i:=by omega
     subst this
     rw [hx] at hz; cases hz
     exact hk) (fun s hI z hz=>by
   obtain ⟨i,hi,he⟩:=List.getElem_of_mem hz
   exact hI i z hi (by rw [List.getElem?_eq_getElem hi,he])) () (fun i z hi=>by omega)
 rw [h,Option.bind_some]
 cases f with
 | nxt s=>exact hq.elim
 | brk s=>exact ⟨0,rfl,fun _=>hq⟩
 | ret e=>exact ⟨e,rfl,fun h=>absurd h hq⟩
noncomputable def risF (l:List ByteArray):Int:=(m_gleeref2_Rising l).getD 0
theorem Rising_F (l:List ByteArray) (hl:l.length≤1000000):m_gleeref2_Rising l=some (risF l):=by
 obtain ⟨e,h,-⟩:=Rising_ok l hl
 unfold risF
 rw [h]; rfl
theorem risF_zero {l:List ByteArray} (hl:l.length≤1000000) (h:risF l=0):∀ z∈l,isKey z=true:=by
 obtain ⟨e,h1,h2⟩:=Rising_ok l hl
 unfold risF at h
 rw [h1] at h
 exact h2 h
def isT (w:TWindow):Bool:=decide (0≤w.From∧w.From<w.To∧w.To≤345686400000)
theorem IsTime_T (w:TWindow):m_kit_IsTime w=some (isT w):=by
 unfold m_kit_IsTime isT
 by_cases h1:w.From≥0
 ·by_cases h2:w.From<w.To
  ·rw [decide_eq_true h1,decide_eq_true h2,ifB_true,ifB_true]
   by_cases h3:w.To≤345686400000
   ·rw [decide_eq_true h3,decide_eq_true ⟨h1,h2,h3⟩]
   ·rw [decide_eq_false h3,decide_eq_false (fun g=>h3 g.2.2)]
  ·rw [decide_eq_true h1,decide_eq_false h2,ifB_true,ifB_false,decide_eq_false (fun g=>h2 g.2.1)]
 ·rw [decide_eq_false h1,ifB_false,decide_eq_false (fun g=>h1 g.1)]
theorem timeFault_T (w:TWindow):m_gleeref2_timeFault w=some (bif isT w then 0 else 1):=by
 unfold m_gleeref2_timeFault isT
 by_cases h1:w.From<0
 ·rw [decide_eq_true h1,ifB_true,decide_eq_false (by omega)]; rfl
 ·by_cases h2:w.From≥w.To
  ·rw [decide_eq_false h1,decide_eq_true h2,ifB_false,ifB_true,decide_eq_false (by omega)]; rfl
  ·by_cases h3:w.To>345686400000
   ·rw [decide_eq_false h1,decide_eq_false h2,decide_eq_true h3,ifB_false,ifB_false,decide_eq_false (by omega)]; rfl
   ·rw [decide_eq_false h1,decide_eq_false h2,decide_eq_false h3,ifB_false,ifB_false,decide_eq_true (by omega)]; rfl
def ordS (p x:TSlot):Bool:=decide (x.Time.From<p.Time.From)||(decide (x.Time.From=p.Time.From) && !decide (bytesOf p.Key<bytesOf x.Key))
noncomputable def sF (s:List TSlot) (i:Nat) (x:TSlot):Int :=
 bif !(isKey x.Key&&isKey x.Room&&isKey x.Piece) then 5 else bif (s.take i).any (fun o=>sameB o.Key x.Key) then 6 else
 bif decide (x.Parts.length>12) then 2 else bif risF x.Parts != 0 then risF x.Parts else bif !isT x.Time then 1 else
 bif (if i=0 then false else match s[i - 1]? with | some p=>ordS p x | none=>false) then 7 else 0
theorem take_slice (s:List TSlot) (i:Nat) (hi:i≤s.length):sliceI s 0 (i:Int)=some (s.take i):=by
 rw [sliceI_of (lo:=0) (a:=0) (b:=i) rfl rfl (Nat.zero_le _) hi]; simp
theorem Or_two (a b:Int):m_cmp_Or_int [a,b]=some (bif a != 0 then a else b):=by
 unfold m_cmp_Or_int
 rw [rangeM_cons]
 unfold m_cmp_Or_int_l1
 cases h1:(a != 0)
 ·rw [ifB_false,Option.bind_some,run_nxt,rangeM_cons]
  cases h2:(b != 0)
  ·have:b=0:=by simpa using h2
   simp [this]
  ·simp
 ·simp
theorem cI_s (a b:Int):m_cmp_Compare_int a b=some (bif decide (a<b) then -1 else bif decide (a>b) then 1 else 0):=by
 unfold m_cmp_Compare_int m_cmp_isNaN_int
 simp only [Option.bind_some,bne_self_eq_false]
 by_cases h1:a<b
 ·simp [h1]
 ·by_cases h2:b<a
  ·simp [h1,h2]
  ·simp [h1,h2]
theorem ord_prog (p x:TSlot):((m_cmp_Compare_int p.Time.From x.Time.From).bind fun y17=>(m_strings_Compare p.Key x.Key).bind fun y19=>(m_cmp_Or_int [y17,y19]).bind fun y21=>(some (decide (y21≥0)):Option Bool))=some (ordS p x):=by
 rw [cI_s,Option.bind_some,show m_strings_Compare p.Key x.Key=some (Lib.compareBytes (bytesOf p.Key) (bytesOf x.Key)) from rfl,Option.bind_some,Or_two,Option.bind_some]
 congr 1
 unfold ordS
 by_cases h1:p.Time.From<x.Time.From
 ·rw [decide_eq_true h1,decide_eq_false (show ¬ x.Time.From<p.Time.From by omega),decide_eq_false (show ¬ x.Time.From=p.Time.From by omega)]; rfl
 ·by_cases h2:p.Time.From>x.Time.From
  ·rw [decide_eq_false h1,decide_eq_true h2]; rfl
  ·rw [decide_eq_false h1,decide_eq_false h2,decide_eq_true (show x.Time.From=p.Time.From by omega)]
   simp only [cond_false,bne_self_eq_false,Bool.false_or,Bool.true_and]
   rcases cb_spec (bytesOf p.Key) (bytesOf x.Key) with ⟨g1,g2⟩ | ⟨g1,g2⟩ | ⟨g1,g2⟩
   ·rw [g1,decide_eq_true g2]; rfl
   ·rw [g1,decide_eq_false (show ¬ bytesOf p.Key<bytesOf x.Key from fun g=>by rw [g2] at g; exact bs_irr _ g)]; rfl
   ·rw [g1,decide_eq_false (show ¬ bytesOf p.Key<bytesOf x.Key from fun g=>bs_asym g g2)]; rfl
theorem slotFault_F (s:List TSlot) (i:Nat) (x:TSlot) (hx:s[i]? = some x) (hs:s.length≤1000000):m_rehearse_slotFault s (i:Int)=some (sF s i x):=by
 have hi:=(List.getElem?_eq_some_iff.1 hx).1
 unfold m_rehearse_slotFault sF
 rw [getI_of rfl hx,Option.bind_some,isKey_prog,isKey_prog,isKey_prog,take_slice s i (by omega),IsTime_T,names_eq]
 cases h1:isKey x.Key
 ·rfl
 cases h2:isKey x.Room
 ·rfl
 cases h3:isKey x.Piece
 ·rfl
 simp only [Option.bind_some,Bool.not_true,ifB_false,fin_inl,Bool.and_self,cond_false]
 rw [keyAt_prog,Option.bind_some]
 cases (s.take i).any fun o=>sameB o.Key x.Key
 case true=>rfl
 rw [ifB_false,cond_false]
 by_cases h4:x.Parts.length>12
 ·rw [decide_eq_true h4,decide_eq_true (by omega)]; rfl
 rw [decide_eq_false h4,decide_eq_false (by omega),ifB_false,cond_false,Rising_F _ (by omega),Option.bind_some]
 cases (risF x.Parts != 0)
 case true=>rfl
 rw [ifB_false,cond_false]
 cases isT x.Time
 ·rfl
 simp only [Bool.not_true,ifB_false,cond_false]
 by_cases h0:i=0
 ·rw [if_pos h0,decide_eq_false (by omega)]; rfl
 ·have hg:s[i - 1]? = some (s[i - 1]'(by omega)):=List.getElem?_eq_getElem (by omega)
  rw [if_neg h0,decide_eq_true (by omega),ifB_true,w64_id (by omega),getI_of (n:=i - 1) (by omega) hg,hg]
  simp only [Option.bind_some]
  have ho:=ord_prog (s[i - 1]'(by omega)) x
  rw [cI_s,Option.bind_some,show m_strings_Compare (s[i - 1]'(by omega)).Key x.Key=some (Lib.compareBytes (bytesOf (s[i - 1]'(by omega)).Key) (bytesOf x.Key)) from rfl,Option.bind_some,Or_two,Option.bind_some] at ho
  rw [cI_s,Option.bind_some,show m_strings_Compare (s[i - 1]'(by omega)).Key x.Key=some (Lib.compareBytes (bytesOf (s[i - 1]'(by omega)).Key) (bytesOf x.Key)) from rfl,Option.bind_some,Or_two,Option.bind_some,Option.bind_some,fin_inl,Option.some.inj ho]
  cases ordS (s[i - 1]'(by omega)) x <;> rfl
def out1S (e:Int):Flow Unit Int:=bif e != 0 then .ret e else .nxt ()
theorem prog1 (s:List TSlot) (hs:s.length≤1000000) (i:Nat) (x:TSlot) (hx:s[i]? = some x):m_rehearse_CheckSlots_l1 s i x ()=some (out1S (sF s i x)):=by
 unfold m_rehearse_CheckSlots_l1 out1S
 rw [slotFault_F s i x hx hs,Option.bind_some]
 cases (sF s i x != 0) <;> rfl
theorem bl_or (x p:ByteArray):(Op.bytesLess x.toList p.toList||x.toList==p.toList) = !decide (bytesOf p<bytesOf x):=by
 rw [Go.Proofs.bytesLess_eq]
 have ex:x.toList=bytesOf x:=ByteArray.toList_eq x
 have ep:p.toList=bytesOf p:=ByteArray.toList_eq p
 rw [ex,ep]
 rcases bs_tri (bytesOf x) (bytesOf p) with h | h | h
 ·rw [decide_eq_true h,decide_eq_false (bs_asym h)]; rfl
 ·rw [h,decide_eq_false (bs_irr _)]; simp
 ·rw [decide_eq_false (bs_asym h),decide_eq_true h,show (bytesOf x==bytesOf p)=false by
   rw [beq_eq_false_iff_ne]
   intro e
   rw [e] at h
   exact bs_irr _ h]; rfl
theorem ref1 (s:List TSlot) (hs:s.length≤1000000) (i:Nat) (x:TSlot) (hx:s[i]? = some x):m_gleeref2_SlotsFault_l1 s i x ()=some (out1S (sF s i x)):=by
 have hi:=(List.getElem?_eq_some_iff.1 hx).1
 unfold m_gleeref2_SlotsFault_l1 sF out1S
 rw [isKey_ref,isKey_ref,isKey_ref,take_slice s i (by omega),timeFault_T]
 cases h1:isKey x.Key
 ·rfl
 cases h2:isKey x.Room
 ·rfl
 cases h3:isKey x.Piece
 ·rfl
 simp only [Option.bind_some,Bool.not_true,ifB_false,fin_inl,Bool.and_self,cond_false]
 obtain ⟨j,g1,g2⟩:=keyAt_ref (s.take i) x
 rw [g1,Option.bind_some,g2]
 cases (s.take i).any fun o=>sameB o.Key x.Key
 case true=>rfl
 rw [ifB_false,cond_false]
 by_cases h4:x.Parts.length>12
 ·rw [decide_eq_true h4,decide_eq_true (by omega)]; rfl
 rw [decide_eq_false h4,decide_eq_false (by omega),ifB_false,cond_false,Rising_F _ (by omega),Option.bind_some]
 cases hr:(risF x.Parts != 0)
 case true=>rw [ifB_true,cond_true,hr]; rfl
 rw [ifB_false,cond_false]
 cases isT x.Time
 ·rfl
 simp only [Bool.not_true,ifB_false,cond_false,cond_true,bne_self_eq_false]
 by_cases h0:i=0
 ·rw [if_pos h0,decide_eq_false (by omega)]; rfl
 ·have hg:s[i - 1]? = some (s[i - 1]'(by omega)):=List.getElem?_eq_getElem (by omega)
  rw [if_neg h0,decide_eq_true (by omega),ifB_true,w64_id (by omega),getI_of (n:=i - 1) (by omega) hg,hg]
  simp only [Option.bind_some]
  rw [bl_or]
  unfold ordS
  generalize (s[i - 1]'(by omega))=p
  by_cases k1:x.Time.From<p.Time.From
  ·rw [decide_eq_true k1]; rfl
  ·rw [decide_eq_false k1,ifB_false]
   by_cases k2:x.Time.From=p.Time.From
   ·rw [decide_eq_true k2,show (x.Time.From==p.Time.From)=true by simpa using k2,ifB_true]
    cases decide (bytesOf p.Key<bytesOf x.Key) <;> rfl
   ·rw [decide_eq_false k2,show (x.Time.From==p.Time.From)=false by simpa using k2,ifB_false]; rfl
def meetB (a b:TWindow):Bool:=decide (a.From<b.To)&&decide (b.From<a.To)
def conf (s:List TSlot) (i:Nat) (x:TSlot):Bool:=(s.take i).any fun o=>sameB o.Room x.Room&&meetB o.Time x.Time
theorem sameB_symm (a b:ByteArray):sameB a b=sameB b a:=by
 rw [Bool.eq_iff_iff,sameB_iff,sameB_iff]; exact eq_comm
theorem prog2 (s:List TSlot) (i:Nat) (x:TSlot) (hx:s[i]? = some x):m_rehearse_CheckSlots_l2 s i x ()=some (bif conf s i x then .ret 13 else .nxt ()):=by
 have hi:=(List.getElem?_eq_some_iff.1 hx).1
 unfold m_rehearse_CheckSlots_l2 conf
 rw [take_slice s i (by omega),Option.bind_some]
 have key:∀ (q:List TSlot) (k:Nat),rangeM (m_rehearse_CheckSlots_l3 x) k q ()=some (bif q.any (fun o=>sameB o.Room x.Room&&meetB o.Time x.Time) then .ret (.ret 13) else .brk ()):=by
  intro q
  induction q with
  | nil=>intro k; rfl
  | cons o q ih =>
   intro k
   have hst:m_rehearse_CheckSlots_l3 x k o ()=some (bif sameB o.Room x.Room&&meetB o.Time x.Time then .ret (.ret 13) else .nxt ()):=by
    unfold m_rehearse_CheckSlots_l3 m_rehearse_meet
    rw [show (x.Room.toList==o.Room.toList)=sameB o.Room x.Room from sameB_symm _ _]
    unfold meetB
    cases sameB o.Room x.Room
    ·rfl
    ·cases decide (o.Time.From<x.Time.To) <;> cases decide (x.Time.From<o.Time.To) <;> rfl
   rw [rangeM_cons,hst,List.any_cons]
   cases sameB o.Room x.Room&&meetB o.Time x.Time
   ·exact ih (k+1)
   ·rfl
 rw [key]
 cases (s.take i).any fun o=>sameB o.Room x.Room&&meetB o.Time x.Time <;> rfl
theorem ref2 (s:List TSlot) (hT:∀ o∈s,isT o.Time=true) (i:Nat) (x:TSlot) (hx:s[i]? = some x):m_gleeref2_SlotsFault_l2 s i x ()=some (bif conf s i x then .ret 13 else .nxt ()):=by
 have hi:=(List.getElem?_eq_some_iff.1 hx).1
 have hxT:=of_decide_eq_true (hT x (List.mem_of_getElem? hx))
 unfold m_gleeref2_SlotsFault_l2 conf
 rw [take_slice s i (by omega),Option.bind_some]
 unfold m_slices_ContainsFunc_api_Slot_api_Slot__gleeref2_SlotsFault_1 m_slices_IndexFunc_api_Slot_api_Slot__gleeref2_SlotsFault_1
 have key:∀ (q:List TSlot) (k:Nat),(∀ o∈q,isT o.Time=true)→∃ f,rangeM (m_slices_IndexFunc_api_Slot_api_Slot__gleeref2_SlotsFault_1_l1 x.Key x.Room x.Piece x.Parts x.Time.From x.Time.To) k q ()=some f∧((q.any (fun o=>sameB o.Room x.Room&&meetB o.Time x.Time))=true→∃ j:Int,f = .ret j∧0≤j)∧((q.any (fun o=>sameB o.Room x.Room&&meetB o.Time x.Time))=false→f = .brk ()):=by
  intro q
  induction q with
  | nil=>intro k _; exact ⟨.brk (),rfl,fun h=>by simp at h,fun _=>rfl⟩
  | cons o q ih =>
   intro k hq
   have hoT:=of_decide_eq_true (hq o (List.mem_cons_self ..))
   have hst:m_slices_IndexFunc_api_Slot_api_Slot__gleeref2_SlotsFault_1_l1 x.Key x.Room x.Piece x.Parts x.Time.From x.Time.To k o ()=some (bif sameB o.Room x.Room&&meetB o.Time x.Time then .ret (k:Int) else .nxt ()):=by
    unfold m_slices_IndexFunc_api_Slot_api_Slot__gleeref2_SlotsFault_1_l1 m_gleeref2_SlotsFault_1 m_gleeref2_meet
    rw [show (o.Room.toList==x.Room.toList)=sameB o.Room x.Room from rfl]
    cases sameB o.Room x.Room
    ·rfl
    ·have e:decide (max 0 (w64 ((min o.Time.To x.Time.To) - (max o.Time.From x.Time.From)))>0)=meetB o.Time x.Time:=by
      unfold meetB
      rw [w64_id (by omega),Bool.eq_iff_iff,Bool.and_eq_true,decide_eq_true_eq,decide_eq_true_eq,decide_eq_true_eq]
      omega
     rw [ifB_true,Option.bind_some,Option.bind_some,e,Bool.true_and]
     cases meetB o.Time x.Time <;> rfl
   obtain ⟨f,h1,h2,h3⟩:=ih (k+1) fun o ho=>hq o (List.mem_cons_of_mem _ ho)
   rw [rangeM_cons,hst,List.any_cons]
   cases sameB o.Room x.Room&&meetB o.Time x.Time
   ·exact ⟨f,h1,h2,h3⟩
   ·exact ⟨.ret (k:Int),rfl,fun _=>⟨k,rfl,by omega⟩,fun h=>by simp at h⟩
 obtain ⟨f,h1,h2,h3⟩:=key (s.take i) 0 fun o ho=>hT o (List.take_subset _ _ ho)
 rw [h1,Option.bind_some]
 cases hb:(s.take i).any fun o=>sameB o.Room x.Room&&meetB o.Time x.Time with
 | true =>
  obtain ⟨j,rfl,hj⟩:=h2 hb
  simp only [Flow.fin,Option.bind_some]
  rw [decide_eq_true hj]; rfl
 | false =>
  rw [h3 hb]; rfl
structure SlotOK (x:TSlot):Prop where
 key:isKey x.Key=true
 room:isKey x.Room=true
 piece:isKey x.Piece=true
 len:x.Parts.length≤12
 parts:∀ z∈x.Parts,isKey z=true
 time:isT x.Time=true
theorem cF' {b:Bool} {a c:Int} (h:(bif b then a else c)=0) (ha:a≠0):b=false∧c=0:=by cases b <;> simp_all
theorem sF_zero {s:List TSlot} {i:Nat} {x:TSlot} (h:sF s i x=0):SlotOK x:=by
 unfold sF at h
 obtain ⟨h1,h⟩:=cF' h (by decide)
 obtain ⟨-,h⟩:=cF' h (by decide)
 obtain ⟨h2,h⟩:=cF' h (by decide)
 have h2':x.Parts.length≤12:=by have:=of_decide_eq_false h2; omega
 by_cases hr:risF x.Parts=0
 ·rw [hr,show ((0:Int) != 0)=false from rfl,cond_false] at h
  obtain ⟨h3,-⟩:=cF' h (by decide)
  simp only [Bool.not_eq_false',Bool.and_eq_true] at h1 h3
  exact ⟨h1.1.1,h1.1.2,h1.2,h2',risF_zero (by omega) hr,h3⟩
 ·rw [show (risF x.Parts != 0)=true from bne_iff_ne.2 hr,cond_true] at h
  exact (hr h).elim
noncomputable def slotsF (s:List TSlot):Int:=(m_rehearse_CheckSlots s).getD 0
theorem slots_spec (s:List TSlot):m_rehearse_CheckSlots s=some (slotsF s)∧m_gleeref2_SlotsFault s=some (slotsF s)∧(slotsF s=0→s.length≤300∧∀ x∈s,SlotOK x):=by
 have main:∃ e,m_rehearse_CheckSlots s=some e∧m_gleeref2_SlotsFault s=some e∧(e=0→s.length≤300∧∀ x∈s,SlotOK x):=by
  unfold m_rehearse_CheckSlots m_gleeref2_SlotsFault
  by_cases hl:s.length>300
  ·rw [decide_eq_true (by omega)]
   exact ⟨2,rfl,rfl,fun h=>by cases h⟩
  rw [decide_eq_false (by omega),ifB_false,ifB_false]
  have hs:s.length≤1000000:=by omega
  rw [rangeM_cg (f:=m_rehearse_CheckSlots_l1 s) (g:=fun i x _=>some (out1S (sF s i x))) (fun i x _ hx=>prog1 s hs i x hx) (),rangeM_cg (f:=m_gleeref2_SlotsFault_l1 s) (g:=fun i x _=>some (out1S (sF s i x))) (fun i x _ hx=>ref1 s hs i x hx) ()]
  obtain ⟨f,h1,hq⟩:=rangeM_stop (fun i x (_:Unit)=>some (out1S (sF s i x))) s (fun n _=>∀ (i:Nat) z,i<n→s[i]? = some z→SlotOK z) (fun f=>match f with | .nxt _=>False | .brk _=>∀ z∈s,SlotOK z | .ret e=>e≠0) (by
   intro i x u hx hI
   refine ⟨_,rfl,?_,?_,?_⟩
   ·intro u' hu j z hj hz
    by_cases hji:j<i
    ·exact hI j z hji hz
    ·have:j=i:=by omega
     subst this
     rw [hx] at hz; cases hz
     by_cases h0:sF s j x=0
     ·exact sF_zero h0
     ·unfold out1S at hu
      rw [show (sF s j x != 0)=true from bne_iff_ne.2 h0] at hu
      cases hu
   ·intro u' hu
    unfold out1S at hu
    cases hb:(sF s i x != 0) <;> rw [hb] at hu <;> cases hu
   ·intro v hu
    unfold out1S at hu
    cases hb:(sF s i x != 0) with
    | false=>rw [hb] at hu; cases hu
    | true =>
     rw [hb] at hu
     cases hu
     exact bne_iff_ne.1 hb) (fun u hI z hz=>by
    obtain ⟨i,hi,he⟩:=List.getElem_of_mem hz
    exact hI i z hi (by rw [List.getElem?_eq_getElem hi,he])) () (fun i z hi=>by omega)
  rw [h1,Option.bind_some,Option.bind_some]
  cases f with
  | nxt u=>exact hq.elim
  | ret e=>exact ⟨e,rfl,rfl,fun h=>absurd h hq⟩
  | brk u =>
   have hT:∀ o∈s,isT o.Time=true:=fun o ho=>(hq o ho).time
   simp only [fin_brk]
   rw [rangeM_cg (f:=m_rehearse_CheckSlots_l2 s) (g:=fun i x _=>some (bif conf s i x then .ret 13 else .nxt ())) (fun i x _ hx=>prog2 s i x hx) (),rangeM_cg (f:=m_gleeref2_SlotsFault_l2 s) (g:=fun i x _=>some (bif conf s i x then .ret 13 else .nxt ())) (fun i x _ hx=>ref2 s hT i x hx) ()]
   obtain ⟨f,h2,hq2⟩:=rangeM_stop (fun i x (_:Unit)=>(some (bif conf s i x then .ret 13 else .nxt ()):Option (Flow Unit Int))) s (fun _ _=>True) (fun f=>match f with | .nxt _=>False | .brk _=>True | .ret e=>e=13) (by
    intro i x u hx _
    refine ⟨_,rfl,fun _ _=>trivial,fun _ _=>trivial,fun v hv=>?_⟩
    cases hb:conf s i x <;> rw [hb] at hv <;> cases hv
    rfl) (fun _ _=>trivial) () trivial
   rw [h2,Option.bind_some]
   cases f with
   | nxt u=>exact hq2.elim
   | brk u=>exact ⟨0,rfl,rfl,fun _=>⟨by omega,hq⟩⟩
   | ret e =>
    refine ⟨e,rfl,rfl,fun h=>?_⟩
    rw [hq2] at h; cases h
 obtain ⟨e,h1,h2,h3⟩:=main
 have:slotsF s=e:=by unfold slotsF; rw [h1]; rfl
 rw [this]
 exact ⟨h1,h2,h3⟩
end Go.G
