/- LEa: edits by themselves, and lists of them: what the program and the reference find wrong. In plain Lean, no program in sight. -/
import Derived.Test.YtlkpfhdlfapfhaaGreatDoorLU5
import Derived.Test.YtlkpfhdlfapfhaaGreatDoorLKr
import Derived.Test.YtlkpfhdlfapfhaaGreatDoorLM
namespace Go.G
open Go Go.J
set_option linter.unusedSimpArgs false
set_option linter.unusedVariables false
theorem ba_tlE (a b:ByteArray):(a.toList==b.toList)=decide (a=b):=by
 rw [Bool.eq_iff_iff]
 simp [ba_toList_inj]
def memS (s:ByteArray) (a:List ByteArray):Bool:=a.any fun x=>decide (s=x)
theorem memS_iff {s:ByteArray} {a:List ByteArray}:memS s a=true↔s∈a:=by
 unfold memS
 simp only [List.any_eq_true,decide_eq_true_eq]
 exact ⟨fun ⟨x,h,e⟩=>e ▸ h,fun h=>⟨s,h,rfl⟩⟩
theorem ContainsE (a:List ByteArray) (s:ByteArray):m_slices_Contains_string_string a s=some (memS s a) :=
 ixAny (fun x:ByteArray=>some (s.toList==x.toList)) (fun x=>decide (s=x)) a (fun x _=>by rw [ba_tlE])
theorem both_loop {α : Type} {ρ π : Type} (f:Nat → α → Unit→Option (Flow Unit ρ)) (g:Nat → α → Unit→Option (Flow Unit π)) (F:Int → ρ) (G:Int → π) (xs:List α) (I:Nat→Prop) (h0:I 0)
  (h:∀ i x,xs[i]? = some x→I i→(f i x ()=some (.nxt ())∧g i x ()=some (.nxt ())∧I (i+1))∨∃ v,v≠0∧f i x ()=some (.ret (F v))∧g i x ()=some (.ret (G v))) :
  (rangeM f 0 xs ()=some (.brk ())∧rangeM g 0 xs ()=some (.brk ())∧I xs.length)∨∃ v,v≠0∧rangeM f 0 xs ()=some (.ret (F v))∧rangeM g 0 xs ()=some (.ret (G v)):=by
 have key:∀ (t:List α) (i:Nat),xs.drop i=t→I i→(rangeM f i t ()=some (.brk ())∧rangeM g i t ()=some (.brk ())∧I (i+t.length))∨∃ v,v≠0∧rangeM f i t ()=some (.ret (F v))∧rangeM g i t ()=some (.ret (G v)):=by
  intro t
  induction t with
  | nil=>intro i _ hs; exact .inl ⟨rfl,rfl,by simpa using hs⟩
  | cons x t ih =>
   intro i hd hs
   obtain ⟨hx,hd'⟩:=drop_cons hd
   rcases h i x hx hs with ⟨h1,h2,h3⟩ | ⟨v,hv,h1,h2⟩
   ·rcases ih (i+1) hd' h3 with ⟨k1,k2,k3⟩ | ⟨v,hv,k1,k2⟩
    ·exact .inl ⟨by rw [rangeM_cons,h1]; simpa using k1,by rw [rangeM_cons,h2]; simpa using k2,by simpa [Nat.add_assoc,Nat.add_comm 1] using k3⟩
    ·exact .inr ⟨v,hv,by rw [rangeM_cons,h1]; simpa using k1,by rw [rangeM_cons,h2]; simpa using k2⟩
   ·exact .inr ⟨v,hv,by rw [rangeM_cons,h1]; rfl,by rw [rangeM_cons,h2]; rfl⟩
 have:=key xs 0 rfl h0
 simpa using this
def kE (e:TEdit):Tpiece_own:=Tpiece_own.mk e.By e.No
theorem kE_iff {a b:TEdit}:kE a=kE b↔a.By=b.By∧a.No=b.No:=by
 unfold kE
 rw [Tpiece_own.mk.injEq]
theorem sameNo_spec (a b:TEdit):m_gleeref2_sameNo a b=some (decide (kE a=kE b)):=by
 unfold m_gleeref2_sameNo
 rw [ba_tlE]
 by_cases h:a.By=b.By
 ·rw [decide_eq_true h,ifB_true]
  congr 1
  rw [Bool.eq_iff_iff]
  simp [kE_iff,h]
 ·rw [decide_eq_false h,ifB_false]
  congr 1
  symm
  rw [decide_eq_false_iff_not,kE_iff]
  exact fun e=>h e.1
def mo (n:Int):Bool:=decide (0≤n∧n≤345686399999)
theorem IsMoment_E (n:Int):m_kit_IsMoment n=some (mo n):=by
 unfold m_kit_IsMoment mo
 rw [Outside_spec,Option.bind_some,Bool.not_not]
theorem Moment_E (n:Int):m_gleeref2_Moment n=some (mo n):=by
 unfold m_gleeref2_Moment mo
 rw [in_spec,Option.bind_some]
def cIE (a b:Int):Int:=if a<b then -1 else if a>b then 1 else 0
theorem cIE_zero {a b:Int}:cIE a b=0↔a=b:=by
 unfold cIE
 split
 ·omega
 ·split <;> omega
theorem cmpI_E (a b:Int):m_cmp_Compare_int a b=some (cIE a b):=by
 unfold m_cmp_Compare_int m_cmp_isNaN_int cIE
 simp only [Option.bind_some,bne_self_eq_false,ifB_false]
 rw [ifB_ite,ifB_ite]
 split
 ·rfl
 ·split <;> rfl
theorem Or_E (x y z:Int):m_cmp_Or_int [x,y,z]=some (if x≠0 then x else if y≠0 then y else z):=by
 unfold m_cmp_Or_int
 have hs:∀ i v t,rangeM m_cmp_Or_int_l1 i (v::t) ()=if v≠0 then some (.ret v) else rangeM m_cmp_Or_int_l1 (i+1) t ():=fun i v t=>by
  rw [rangeM_cons]
  unfold m_cmp_Or_int_l1
  by_cases h:v=0
  ·rw [if_neg (by simpa using h),show (v != 0)=false by simpa using h]; rfl
  ·rw [if_pos h,show (v != 0)=true by simpa using h]; rfl
 rw [hs,hs,hs]
 by_cases h1:x=0
 ·by_cases h2:y=0
  ·by_cases h3:z=0
   ·simp only [h1,h2,h3,ne_eq,not_true_eq_false,if_false]; rfl
   ·simp only [h1,h2,h3,ne_eq,not_true_eq_false,not_false_eq_true,if_false,if_true]; rfl
  ·simp only [h1,h2,ne_eq,not_true_eq_false,not_false_eq_true,if_false,if_true]; rfl
 ·simp only [h1,ne_eq,not_true_eq_false,not_false_eq_true,if_false,if_true]; rfl
def cB3 (a b:TEdit):Int:=Lib.compareBytes a.By.data.toList b.By.data.toList
def cmpE (a b:TEdit):Int:=if cIE a.At b.At≠0 then cIE a.At b.At else if cB3 a b≠0 then cB3 a b else cIE a.No b.No
theorem cB3_zero {a b:TEdit}:cB3 a b=0↔a.By=b.By:=by
 unfold cB3
 have hd:a.By.data.toList=b.By.data.toList↔a.By=b.By:=⟨fun h=>by
  have:a.By.data=b.By.data:=Array.toList_inj.1 h
  cases hx:a.By; cases hy:b.By; rw [hx,hy] at this; simpa using this,fun h=>by rw [h]⟩
 rcases cb_spec a.By.data.toList b.By.data.toList with ⟨h,h2⟩ | ⟨h,h2⟩ | ⟨h,h2⟩
 ·rw [h]
  refine ⟨fun e=>by omega,fun e=>?_⟩
  have:=hd.2 e
  rw [this] at h
  have h3:Lib.compareBytes b.By.data.toList b.By.data.toList=0:=by
   rcases cb_spec b.By.data.toList b.By.data.toList with ⟨h4,h5⟩ | ⟨h4,-⟩ | ⟨h4,h5⟩
   ·exact absurd h5 (List.lt_irrefl _)
   ·exact h4
   ·exact absurd h5 (List.lt_irrefl _)
  omega
 ·exact ⟨fun _=>hd.1 h2,fun _=>h⟩
 ·rw [h]
  refine ⟨fun e=>by omega,fun e=>?_⟩
  have:=hd.2 e
  rw [this] at h2
  exact absurd h2 (List.lt_irrefl _)
theorem compare_E (a b:TEdit):m_piece_compare a b=some (cmpE a b):=by
 unfold m_piece_compare
 rw [cmpI_E,Option.bind_some,show m_strings_Compare a.By b.By=some (cB3 a b) from rfl,Option.bind_some,cmpI_E,Option.bind_some,Or_E,Option.bind_some]
 rfl
theorem sign_E {x a b:Int} (h:x=a - b):m_gleeref2_sign x=some (cIE a b):=by
 unfold m_gleeref2_sign cIE
 subst h
 rw [ifB_ite,ifB_ite]
 by_cases h1:a<b
 ·rw [if_pos (by omega),if_pos h1]
 ·rw [if_neg (by omega),if_neg h1]
  by_cases h2:a>b
  ·rw [if_pos (by omega),if_pos h2]
  ·rw [if_neg (by omega),if_neg h2]
structure NOk (e:TEdit):Prop where
 no:1≤e.No∧e.No≤1000000
 at_:0≤e.At∧e.At≤345686399999
theorem EditOrder_E {a b:TEdit} (ha:NOk a) (hb:NOk b):m_gleeref2_EditOrder a b=some (cmpE a b):=by
 have h1:=ha.no; have h2:=ha.at_; have h3:=hb.no; have h4:=hb.at_
 unfold m_gleeref2_EditOrder cmpE
 rw [sign_E (w64_id (n:=a.At - b.At) (by omega)),sign_E (w64_id (n:=a.No - b.No) (by omega)),show m_strings_Compare a.By b.By=some (cB3 a b) from rfl]
 simp only [Option.bind_some]
 rw [ba_tlE]
 by_cases g1:a.At=b.At
 ·rw [show (a.At != b.At)=false by simpa using g1,ifB_false,if_neg (by simpa using cIE_zero.2 g1)]
  by_cases g2:a.By=b.By
  ·rw [decide_eq_true g2,Bool.not_true,ifB_false,if_neg (by simpa using cB3_zero.2 g2)]
  ·rw [decide_eq_false g2,Bool.not_false,ifB_true,if_pos (fun e=>g2 (cB3_zero.1 e))]
 ·rw [show (a.At != b.At)=true by simpa using g1,ifB_true,if_pos (fun e=>g1 (cIE_zero.1 e))]
structure EOk (e:TEdit):Prop where
 ok:∀ t∈e.Tones,TOk t
 len:e.Tones.length≤100000
 short:e.Tones.length≤140
def bareB (x:TBar):TBar:=TBar.mk x.Beats x.Unit 0 0 false
theorem bare_good {x:TBar} (h:bad x=false):bad (bareB x)=false:=by
 unfold bareB
 obtain ⟨h1,h2,h3,-⟩:=notbad x h
 rw [bad_mk]
 have e1:outB x.Beats 1 16=false:=by unfold outB; rw [decide_eq_false (by omega),decide_eq_false (by omega)]; rfl
 have e2:decide (x.Unit∈[(1:Int),2,4,8,16])=true:=by rw [decide_eq_true_eq]; simpa using h3
 rw [e1,e2]; rfl
theorem fill_bare (x:TBar) (t:List TTone) (l:Bool):m_gleeref2_fillFault [x] t l=m_gleeref2_fillFault [bareB x] t l:=by
 unfold m_gleeref2_fillFault
 have h:m_gleeref2_fillFault_l1 [x]=m_gleeref2_fillFault_l1 [bareB x]:=by
  funext i y u
  unfold m_gleeref2_fillFault_l1
  have e:((getI [x] (w64 (u.1+1))).bind fun e13=>m_gleeref2_barUnits e13)=((getI [bareB x] (w64 (u.1+1))).bind fun e13=>m_gleeref2_barUnits e13):=by
   unfold getI
   by_cases h0:0≤w64 (u.1+1)
   ·rw [if_pos h0,if_pos h0]
    cases (w64 (u.1+1)).toNat with
    | zero=>rfl
    | succ n=>rfl
   ·rw [if_neg h0,if_neg h0]
  have e2:∀ {β : Type} (K:Int→Option β),((getI [x] (w64 (u.1+1))).bind fun e13=>(m_gleeref2_barUnits e13).bind K)=((getI [bareB x] (w64 (u.1+1))).bind fun e13=>(m_gleeref2_barUnits e13).bind K):=fun K=>by
   have:=congrArg (fun o=>o.bind K) e
   simpa only [Option.bind_assoc] using this
  rw [e2]
  rfl
 rw [h]
 rfl
structure ER (b:List TBar) (parts:List ByteArray) (e:TEdit):Prop where
 key:isKey e.By=true
 n:NOk e
 part:e.Part∈parts
 bar:∃ n:Nat,e.Bar=n∧∃ x,b[n]? = some x∧Fills [bareB x] e.Tones true∧m_piece_checkTones [bareB x] e.Tones true=some 0
noncomputable def refE (b:List TBar) (parts:List ByteArray) (x3:TEdit) (K:Option (Flow Unit Int)):Option (Flow Unit Int) :=
 (m_gleeref2_Key x3.By).bind fun y10=>ifB (!y10) (some (.ret 5)) (((m_gleeref2_in x3.No 1 1000000).bind fun y14=>ifB (!y14) (some (.inl true)) ((m_gleeref2_Moment x3.At).bind fun y15=>some (.inl (!y15))):Option (Bool ⊕ (Flow Unit Int))).bind fun k13=>Sum.fin k13 fun u11=>ifB u11 (some (.ret 1)) ((m_slices_Contains_string_string parts x3.Part).bind fun y16=>ifB (!y16) (some (.ret 8)) ((m_gleeref2_in x3.Bar 0 (w64 ((b.length:Int) - 1))).bind fun y17=>ifB (!y17) (some (.ret 1)) ((sliceI b x3.Bar (w64 (x3.Bar+1))).bind fun q18=>(m_gleeref2_fillFault q18 x3.Tones true).bind fun y19=>ifB (y19 != 0) (some (.ret y19)) K))))
theorem editFault_E {b:List TBar} (hbl:b.length≤600) (hb:∀ x∈b,bad x=false) (parts:List ByteArray) (e:TEdit) (he:EOk e) :
  ∃ k,m_piece_editFault b parts e=some k∧(k=0→ER b parts e)∧∀ K,refE b parts e K=if k=0 then K else some (.ret k):=by
 unfold m_piece_editFault refE
 rw [IsKey_eq,isKey_ref,Option.bind_some]
 cases h1:isKey e.By with
 | false=>exact ⟨5,rfl,fun h=>absurd h (by omega),fun K=>by rw [if_neg (by omega)]; rfl⟩
 | true =>
  rw [Bool.not_true,ifB_false,Outside_spec,Option.bind_some]
  simp only [Option.bind_some,ifB_false,in_spec,Moment_E,IsMoment_E]
  by_cases h2:1≤e.No∧e.No≤1000000
  ·rw [decide_eq_true h2,Bool.not_true,ifB_false,Option.bind_some,fin_inl]
   simp only [ifB_false,Option.bind_some,fin_inl]
   cases h3:mo e.At with
   | false=>exact ⟨1,rfl,fun h=>absurd h (by omega),fun K=>by rw [if_neg (by omega)]; rfl⟩
   | true =>
    have h3':=of_decide_eq_true h3
    rw [Bool.not_true,ifB_false,ContainsE,Option.bind_some]
    simp only [ifB_false,Option.bind_some]
    cases h4:memS e.Part parts with
    | true =>
     rw [Bool.not_true,ifB_false,Outside_spec,Option.bind_some,w64_id (n:=(b.length:Int) - 1) (by omega)]
     simp only [ifB_false]
     by_cases h5:0≤e.Bar∧e.Bar≤(b.length:Int) - 1
     ·rw [decide_eq_true h5,Bool.not_true,ifB_false]
      simp only [ifB_false]
      have hn:e.Bar=(e.Bar.toNat:Int):=by omega
      have hlt:e.Bar.toNat<b.length:=by omega
      have hx:b[e.Bar.toNat]? = some b[e.Bar.toNat]:=List.getElem?_eq_getElem hlt
      have hg:=hb _ (List.mem_of_getElem? hx)
      obtain ⟨k,k1,k2,k3⟩:=fill_spec [bareB b[e.Bar.toNat]] (fun y hy=>by rw [List.mem_singleton.1 hy]; exact bare_good hg) (by simp) e.Tones true he.ok (by have:=he.len; omega)
      have k1':m_piece_checkTones [TBar.mk b[e.Bar.toNat].Beats b[e.Bar.toNat].Unit 0 0 false] e.Tones true=some k:=k1
      rw [getI_of hn hx,Option.bind_some]
      unfold m_piece_bare
      rw [Option.bind_some,k1',Option.bind_some]
      refine ⟨k,rfl,fun h=>⟨h1,⟨h2,h3'⟩,memS_iff.1 h4,_,hn,_,hx,k3 h,h ▸ k1⟩,fun K=>?_⟩
      have hsl:sliceI b e.Bar (w64 (e.Bar+1))=some [b[e.Bar.toNat]]:=by
       rw [w64_id (by omega),sliceI_of (a:=e.Bar.toNat) (b:=e.Bar.toNat+1) hn (by omega) (by omega) (by omega),show e.Bar.toNat+1 - e.Bar.toNat=1 by omega,List.take_one,List.head?_drop,hx]
       rfl
      rw [hsl,Option.bind_some,fill_bare,k2,Option.bind_some]
      by_cases hk:k=0
      ·rw [if_pos hk,show (k != 0)=false by simpa using hk,ifB_false]
      ·rw [if_neg hk,show (k != 0)=true by simpa using hk,ifB_true]
     ·rw [decide_eq_false h5]
      exact ⟨1,rfl,fun h=>absurd h (by omega),fun K=>by rw [if_neg (by omega)]; rfl⟩
    | false=>exact ⟨8,rfl,fun h=>absurd h (by omega),fun K=>by rw [if_neg (by omega)]; rfl⟩
  ·rw [decide_eq_false h2]
   exact ⟨1,rfl,fun h=>absurd h (by omega),fun K=>by rw [if_neg (by omega)]; rfl⟩
def RowE (b:List TBar) (parts:List ByteArray) (l:List TEdit) (i:Nat):Prop:=∀ j x,j<i→l[j]? = some x→ER b parts x∧m_piece_editFault b parts x=some 0∧∀ p,0<j→l[j - 1]? = some p→cmpE p x<0
theorem rows_E {b:List TBar} (hbl:b.length≤600) (hb:∀ x∈b,bad x=false) (parts:List ByteArray) (l:List TEdit) (hl:∀ e∈l,EOk e) (hlen:l.length≤100000) :
  (rangeM (m_piece_checkEdits_l1 b parts l) 0 l ()=some (.brk ())∧rangeM (m_gleeref2_EditsFault_l1 b parts l) 0 l ()=some (.brk ())∧RowE b parts l l.length) ∨
  ∃ v,v≠0∧rangeM (m_piece_checkEdits_l1 b parts l) 0 l ()=some (.ret v)∧rangeM (m_gleeref2_EditsFault_l1 b parts l) 0 l ()=some (.ret v):=by
 refine both_loop (m_piece_checkEdits_l1 b parts l) (m_gleeref2_EditsFault_l1 b parts l) (fun v=>v) (fun v=>v) l (RowE b parts l) (fun j x hj=>absurd hj (by omega)) ?_
 intro i x hx hI
 have hi:=(List.getElem?_eq_some_iff.1 hx).1
 obtain ⟨k,k1,k2,k3⟩:=editFault_E hbl hb parts x (hl x (List.mem_of_getElem? hx))
 have hp:m_piece_checkEdits_l1 b parts l i x ()=(m_piece_editFault b parts x).bind fun y9=>ifB (y9 != 0) (some (.ret y9)) (ifB (decide ((i:Int)>0)) ((getI l (w64 ((i:Int) - 1))).bind fun e10=>(m_piece_compare e10 x).bind fun y11=>ifB (decide (y11≥0)) (some (.ret 7)) (some (.nxt ()))) (some (.nxt ()))):=rfl
 have hr:m_gleeref2_EditsFault_l1 b parts l i x ()=refE b parts x (ifB (decide ((i:Int)>0)) ((getI l (w64 ((i:Int) - 1))).bind fun e20=>(m_gleeref2_EditOrder e20 x).bind fun y21=>ifB (decide (y21≥0)) (some (.ret 7)) (some (.nxt ()))) (some (.nxt ()))):=rfl
 rw [hp,hr,k1,Option.bind_some,k3]
 by_cases h0:k=0
 ·have hER:=k2 h0
  rw [if_pos h0,show (k != 0)=false by simpa using h0,ifB_false]
  cases i with
  | zero =>
   rw [decide_eq_false (by omega),ifB_false,ifB_false]
   refine .inl ⟨rfl,rfl,fun j y hj hy=>?_⟩
   have:j=0:=by omega
   subst this
   rw [hx] at hy; cases hy
   exact ⟨hER,h0 ▸ k1,fun p h=>absurd h (by omega)⟩
  | succ i =>
   have hpx:l[i]? = some (l[i]'(by omega)):=List.getElem?_eq_getElem _
   obtain ⟨hpE,-⟩:=hI i _ (by omega) hpx
   rw [decide_eq_true (by omega),ifB_true,ifB_true,w64_id (by omega),getI_of (n:=i) (by omega) hpx,Option.bind_some,Option.bind_some,compare_E,EditOrder_E hpE.n hER.n,Option.bind_some]
   by_cases hc:cmpE (l[i]'(by omega)) x≥0
   ·rw [decide_eq_true hc]
    exact .inr ⟨7,by omega,rfl,rfl⟩
   ·rw [decide_eq_false hc]
    refine .inl ⟨rfl,rfl,fun j y hj hy=>?_⟩
    by_cases hj':j<i+1
    ·exact hI j y hj' hy
    ·have:j=i+1:=by omega
     subst this
     rw [hx] at hy; cases hy
     refine ⟨hER,h0 ▸ k1,fun p _ hp=>?_⟩
     rw [Nat.add_sub_cancel,hpx] at hp; cases hp
     omega
 ·rw [if_neg h0,show (k != 0)=true by simpa using h0,ifB_true]
  exact .inr ⟨k,h0,rfl,rfl⟩
def dupB:List Tpiece_own→List Tpiece_own→Bool
 | _,[]=>false
 | pre,k::t=>decide (k∈pre)||dupB (pre++[k]) t
theorem dupB_nodup:∀ (t pre:List Tpiece_own),pre.Nodup→dupB pre t=false→(pre++t).Nodup
 | [],pre,h,_=>by rwa [List.append_nil]
 | k::t,pre,h,hd=>by
  unfold dupB at hd
  rw [Bool.or_eq_false_iff,decide_eq_false_iff_not] at hd
  have:=dupB_nodup t (pre++[k]) (by
   rw [List.nodup_append]
   refine ⟨h,by simp,fun a ha c hc e=>?_⟩
   rw [List.mem_singleton.1 hc] at e
   exact hd.1 (e ▸ ha)) hd.2
  rwa [List.append_assoc] at this
theorem twice_prog:∀ (t:List TEdit) (i:Nat) (pre:List Tpiece_own) (u:List (Tpiece_own × Bool)),(∀ k,(lkM u k).getD false=decide (k∈pre)) →
  ∃ u',rangeM m_piece_checkEdits_l2 i t u=some (if dupB pre (t.map kE)=true then .ret 6 else .brk u')
 | [],i,pre,u,_=>⟨u,rfl⟩
 | x::t,i,pre,u,hu=>by
  rw [rangeM_cons]
  have hs:m_piece_checkEdits_l2 i x u=ifB ((lkM u (kE x)).getD false) (some (.ret 6)) (some (.nxt (putM u (kE x) true))):=rfl
  rw [hs,hu,List.map_cons]
  unfold dupB
  by_cases h:kE x∈pre
  ·rw [decide_eq_true h]
   exact ⟨[],by simp [ifB_true]⟩
  ·rw [decide_eq_false h,ifB_false,Option.bind_some,run_nxt,Bool.false_or]
   refine twice_prog t (i+1) (pre++[kE x]) _ fun k=>?_
   rw [lkM_put]
   by_cases hk:k=kE x
   ·rw [if_pos hk,hk]; simp
   ·rw [if_neg hk,hu]
    rw [Bool.eq_iff_iff]
    simp [hk]
theorem twice_ref (l:List TEdit) (hlen:l.length≤100000):∀ (t pre:List TEdit),l=pre++t→rangeM (m_gleeref2_EditsFault_l2 l) pre.length t ()=some (if dupB (pre.map kE) (t.map kE)=true then .ret 6 else .brk ())
 | [],pre,_=>rfl
 | x::t,pre,hd=>by
  rw [rangeM_cons]
  have hsl:sliceI l 0 (pre.length:Int)=some pre:=by
   rw [sliceI_of (xs:=l) (lo:=0) (hi:=(pre.length:Int)) (a:=0) (b:=pre.length) rfl rfl (by omega) (by rw [hd]; simp),hd]
   simp
  have hc:m_slices_ContainsFunc_api_Edit_api_Edit__gleeref2_EditsFault_1 pre x.By x.No x.At x.Part x.Bar x.Tones=some (pre.any fun y=>decide (kE y=kE x)) :=
   ixAny (fun y=>m_gleeref2_EditsFault_1 y x.By x.No x.At x.Part x.Bar x.Tones) (fun y=>decide (kE y=kE x)) pre (fun y _=>by
    unfold m_gleeref2_EditsFault_1
    rw [sameNo_spec]; rfl)
  have hs:m_gleeref2_EditsFault_l2 l pre.length x ()=ifB (pre.any fun y=>decide (kE y=kE x)) (some (.ret 6)) (some (.nxt ())):=by
   unfold m_gleeref2_EditsFault_l2
   rw [hsl,Option.bind_some,hc,Option.bind_some]
  have he:(pre.any fun y=>decide (kE y=kE x))=decide (kE x∈pre.map kE):=by
   rw [Bool.eq_iff_iff]
   simp
  rw [hs,he,List.map_cons]
  unfold dupB
  by_cases h:kE x∈pre.map kE
  ·rw [decide_eq_true h]; simp [ifB_true]
  ·rw [decide_eq_false h,ifB_false,Option.bind_some,run_nxt,Bool.false_or]
   have:=twice_ref l hlen t (pre++[x]) (by rw [hd]; simp)
   rw [List.length_append,List.length_singleton,List.map_append] at this
   exact this
structure RE (b:List TBar) (parts:List ByteArray) (l:List TEdit):Prop where
 len:l.length≤1000
 row:RowE b parts l l.length
 nd:(l.map kE).Nodup
theorem RE.er {b:List TBar} {parts:List ByteArray} {l:List TEdit} (h:RE b parts l):∀ e∈l,ER b parts e:=fun e he=>by
 obtain ⟨i,hi,rfl⟩:=List.mem_iff_getElem.1 he
 exact (h.row i _ hi (List.getElem?_eq_getElem hi)).1
noncomputable def refRest (b:List TBar) (parts:List ByteArray) (l:List TEdit):Option Int:=ifB (decide ((l.length:Int)>1000)) (some 2) ((rangeM (m_gleeref2_EditsFault_l1 b parts l) 0 l ()).bind fun f8=>Flow.fin f8 fun u5=>(rangeM (m_gleeref2_EditsFault_l2 l) 0 l ()).bind fun f28=>Flow.fin f28 fun u25=>some 0)
theorem checkEdits_E {b:List TBar} (hbl:b.length≤600) (hb:∀ x∈b,bad x=false) (parts:List ByteArray) (l:List TEdit) (hl:∀ e∈l,EOk e) (hlen:l.length≤100000) :
  ∃ k,m_piece_checkEdits b parts l=some k∧refRest b parts l=some k∧(k=0→RE b parts l):=by
 unfold m_piece_checkEdits refRest
 by_cases h1:(l.length:Int)>1000
 ·rw [decide_eq_true h1]
  exact ⟨2,rfl,rfl,fun h=>absurd h (by omega)⟩
 ·rw [decide_eq_false h1,ifB_false,ifB_false]
  rcases rows_E hbl hb parts l hl hlen with ⟨h2,h3,h4⟩ | ⟨v,hv,h2,h3⟩
  ·obtain ⟨u',h5⟩:=twice_prog l 0 [] [] (fun k=>by simp [lkM])
   have h6:=twice_ref l hlen l [] rfl
   rw [List.length_nil,List.map_nil] at h6
   rw [h2,h3,Option.bind_some,Option.bind_some,fin_brk,fin_brk,h5,h6,Option.bind_some,Option.bind_some]
   by_cases hd:dupB [] (l.map kE)=true
   ·rw [if_pos hd,if_pos hd]
    exact ⟨6,rfl,rfl,fun h=>absurd h (by omega)⟩
   ·rw [if_neg hd,if_neg hd]
    refine ⟨0,rfl,rfl,fun _=>⟨by omega,h4,?_⟩⟩
    have:=dupB_nodup (l.map kE) [] (by simp) (by simpa using hd)
    simpa using this
  ·rw [h2,h3]
   exact ⟨v,rfl,rfl,fun h=>absurd h hv⟩
theorem rising_E (parts:List ByteArray) (hlen:parts.length≤100000):∃ v,(rangeM (m_piece_partsFault_l1 parts) 0 parts ()).bind (fun f7=>Flow.fin f7 fun u4=>some 0)=some v∧m_gleeref2_Rising parts=some v:=by
 have hpr:m_piece_partsFault_l1 parts=m_gleeref2_Rising_l1 parts:=by
  funext i x u
  unfold m_piece_partsFault_l1 m_gleeref2_Rising_l1
  rw [IsKey_eq]
 unfold m_gleeref2_Rising
 rw [hpr]
 rcases both_loop (m_gleeref2_Rising_l1 parts) (m_gleeref2_Rising_l1 parts) (fun v=>v) (fun v=>v) parts (fun _=>True) trivial (by
  intro i x hx _
  have hi:=(List.getElem?_eq_some_iff.1 hx).1
  unfold m_gleeref2_Rising_l1
  rw [isKey_ref,Option.bind_some]
  cases isKey x with
  | false=>exact .inr ⟨5,by omega,rfl,rfl⟩
  | true =>
   rw [Bool.not_true,ifB_false]
   cases i with
   | zero=>exact .inl ⟨rfl,rfl,trivial⟩
   | succ i =>
    have hpx:parts[i]? = some (parts[i]'(by omega)):=List.getElem?_eq_getElem _
    rw [decide_eq_true (by omega),ifB_true,w64_id (by omega),getI_of (n:=i) (by omega) hpx,Option.bind_some,Option.bind_some,fin_inl]
    cases (Op.bytesLess x.toList (parts[i]'(by omega)).toList||x.toList==(parts[i]'(by omega)).toList) with
    | false=>exact .inl ⟨rfl,rfl,trivial⟩
    | true=>exact .inr ⟨7,by omega,rfl,rfl⟩) with ⟨h1,-,-⟩ | ⟨v,-,h1,-⟩
 ·rw [h1]; exact ⟨0,rfl,rfl⟩
 ·rw [h1]; exact ⟨v,rfl,rfl⟩
theorem good_of {b:List TBar} (h:cB b=0):∀ x∈b,bad x=false:=by
 obtain ⟨-,r,h1,-⟩:=cB_zero h
 exact goB_all b _ r h1
theorem PartsFault_E (b:List TBar) (hbl:b.length≤600) (parts:List ByteArray) (hlen:parts.length≤100000):∃ pf,m_gleeref2_PartsFault b parts=some pf∧(pf=0→cB b=0) ∧
  ∀ l,m_piece_CheckEdits b parts l=if pf=0 then m_piece_checkEdits b parts l else some pf:=by
 unfold m_gleeref2_PartsFault m_piece_CheckEdits
 simp only [CheckBars_spec b hbl,BarsFault_spec b hbl,Option.bind_some]
 by_cases h0:cB b=0
 ·rw [show (cB b != 0)=false by simpa using h0,ifB_false]
  unfold m_piece_partsFault
  by_cases h12:(parts.length:Int)>12
  ·rw [decide_eq_true h12]
   exact ⟨2,rfl,fun h=>absurd h (by omega),fun l=>by rw [if_neg (by omega)]; rfl⟩
  ·obtain ⟨v,h1,h2⟩:=rising_E parts hlen
   rw [decide_eq_false h12,ifB_false,ifB_false,h1,h2,Option.bind_some]
   refine ⟨v,rfl,fun _=>h0,fun l=>?_⟩
   rw [ifB_false,Option.bind_some]
   by_cases hv:v=0
   ·rw [if_pos hv,show (v != 0)=false by simpa using hv,ifB_false]
    cases m_piece_checkEdits b parts l <;> rfl
   ·rw [if_neg hv,show (v != 0)=true by simpa using hv,ifB_true]
 ·rw [show (cB b != 0)=true by simpa using h0,ifB_true]
  exact ⟨cB b,rfl,fun h=>absurd h h0,fun l=>by rw [if_neg h0]; rfl⟩
theorem CheckEdits_E (b:List TBar) (hbl:b.length≤600) (parts:List ByteArray) (hlen:parts.length≤100000) (l:List TEdit) (hl:∀ e∈l,EOk e) (hll:l.length≤100000) :
  ∃ k,m_piece_CheckEdits b parts l=some k∧m_gleeref2_EditsFault b parts l=some k∧(k=0→cB b=0∧m_gleeref2_PartsFault b parts=some 0∧RE b parts l):=by
 obtain ⟨pf,h1,h2,h3⟩:=PartsFault_E b hbl parts hlen
 unfold m_gleeref2_EditsFault
 rw [h3,h1,Option.bind_some]
 by_cases h0:pf=0
 ·rw [if_pos h0,show (pf != 0)=false by simpa using h0,ifB_false]
  obtain ⟨k,k1,k2,k3⟩:=checkEdits_E hbl (good_of (h2 h0)) parts l hl hll
  exact ⟨k,k1,k2,fun h=>⟨h2 h0,h0 ▸ rfl,k3 h⟩⟩
 ·rw [if_neg h0,show (pf != 0)=true by simpa using h0,ifB_true]
  exact ⟨pf,rfl,rfl,fun h=>absurd h h0⟩
end Go.G
