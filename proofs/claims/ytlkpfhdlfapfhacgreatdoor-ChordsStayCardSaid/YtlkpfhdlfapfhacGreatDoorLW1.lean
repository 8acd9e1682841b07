/- LW1: what may follow what: by itself. In plain Lean, no program in sight. -/
import Derived.Test.YtlkpfhdlfapfhacGreatDoorL0
import Derived.Test.YtlkpfhdlfapfhacGreatDoorLQ0
import Derived.Test.YtlkpfhdlfapfhacGreatDoorLS1
namespace Go.G
open Go Go.J
set_option linter.unusedSimpArgs false
def upW (a b:TChord):TFollow:=TFollow.mk a.Kind b.Kind ((w64 ((w64 (b.Root - a.Root))+12)).tmod 12)
def mayB (f:List TFollow) (a b:TChord):Bool:=f.any fun x=>decide (upW a b=x)
theorem IndexF_spec (f:List TFollow) (x:TFollow):∀ (l:List TFollow) (i:Nat),rangeM (m_slices_Index_api_Follow_api_Follow_l1 x) i l ()=some (.brk ())∧(l.any fun y=>decide (x=y))=false∨∃ j:Nat,rangeM (m_slices_Index_api_Follow_api_Follow_l1 x) i l ()=some (.ret (j:Int))∧(l.any fun y=>decide (x=y))=true
 | [],i=>.inl ⟨rfl,rfl⟩
 | y::l,i=>by
  rw [rangeM_cons,List.any_cons]
  unfold m_slices_Index_api_Follow_api_Follow_l1
  rw [ifB_ite]
  by_cases h:x=y
  ·rw [if_pos h]; exact .inr ⟨i,rfl,by simp [h]⟩
  ·rw [if_neg h,Option.bind_some,run_nxt]
   simp only [h,decide_false,Bool.false_or]
   exact IndexF_spec f x l (i+1)
theorem ContainsF_spec (f:List TFollow) (x:TFollow):m_slices_Contains_api_Follow_api_Follow f x=some (f.any fun y=>decide (x=y)):=by
 unfold m_slices_Contains_api_Follow_api_Follow m_slices_Index_api_Follow_api_Follow
 rcases IndexF_spec f x f 0 with ⟨h1,h2⟩ | ⟨j,h1,h2⟩
 ·rw [h1,h2]; rfl
 ·rw [h1,h2,Option.bind_some,fin_ret,Option.bind_some]; simp
theorem may_spec (f:List TFollow) (a b:TChord):m_chord_may f a b=some (mayB f a b):=by
 unfold m_chord_may
 rw [show (TFollow.mk a.Kind b.Kind ((w64 ((w64 (b.Root - a.Root))+12)).tmod 12))=upW a b from rfl,ContainsF_spec]
 rfl
def okF (x:TFollow):Prop:=(1≤x.From∧x.From≤7)∧(1≤x.To∧x.To≤7)∧0≤x.Up∧x.Up≤11
instance (x:TFollow):Decidable (okF x):=by unfold okF; infer_instance
def cmpF (a x:TFollow):Int:=if a.From≠x.From then a.From - x.From else if a.To≠x.To then a.To - x.To else a.Up - x.Up
theorem compareFollows_spec {a x:TFollow} (ha:okF a) (hx:okF x):m_chord_compareFollows a x=some (cmpF a x):=by
 obtain ⟨h1,h2,h3⟩:=ha
 obtain ⟨h4,h5,h6⟩:=hx
 unfold m_chord_compareFollows cmpF
 rw [w64_id (n:=a.From - x.From) (by omega),w64_id (n:=a.To - x.To) (by omega),w64_id (n:=a.Up - x.Up) (by omega)]
 have hs:∀ (z i) (l:List Int),rangeM m_chord_compareFollows_l1 i (z::l) ()=if z=0 then rangeM m_chord_compareFollows_l1 (i+1) l () else some (.ret z):=fun z i l=>by
  rw [rangeM_cons]
  unfold m_chord_compareFollows_l1
  by_cases h:z=0
  ·rw [if_pos h]; subst h; rfl
  ·rw [if_neg h,show (z != 0)=true by simpa using h]; rfl
 rw [hs,hs,hs]
 by_cases e1:a.From=x.From
 ·rw [if_pos (show a.From - x.From=0 by omega),if_neg (show ¬ (a.From≠x.From) from fun h=>h e1)]
  by_cases e2:a.To=x.To
  ·rw [if_pos (show a.To - x.To=0 by omega),if_neg (show ¬ (a.To≠x.To) from fun h=>h e2)]
   by_cases e3:a.Up=x.Up
   ·rw [if_pos (show a.Up - x.Up=0 by omega)]; simp [rangeM,e3]
   ·rw [if_neg (show ¬ (a.Up - x.Up=0) by omega)]; rfl
  ·rw [if_neg (show ¬ (a.To - x.To=0) by omega),if_pos (show a.To≠x.To from e2)]; rfl
 ·rw [if_neg (show ¬ (a.From - x.From=0) by omega),if_pos (show a.From≠x.From from e1)]; rfl
theorem cmpI (a b:Int):m_cmp_Compare_int a b=some (if a<b then -1 else if a>b then 1 else 0):=by
 unfold m_cmp_Compare_int m_cmp_isNaN_int
 have e:∀ x:Int,(x != x)=false:=fun x=>by simp
 simp only [e,Option.bind_some,ifB_false,ifB_ite]
 split
 ·rfl
 ·split <;> rfl
theorem Compare3 (a x:TFollow):∃ z,m_slices_Compare_int_int [a.From,a.To,a.Up] [x.From,x.To,x.Up]=some z∧(z≥0↔cmpF a x≥0):=by
 unfold m_slices_Compare_int_int cmpF
 have hs:∀ (z y) (i:Nat) (l m:List Int),m[i]? = some y→rangeM (m_slices_Compare_int_int_l1 m) i (z::l) ()=if z=y then rangeM (m_slices_Compare_int_int_l1 m) (i+1) l () else some (.ret (if z<y then -1 else 1)):=fun z y i l m hm=>by
  have hi:=(List.getElem?_eq_some_iff.1 hm).1
  rw [rangeM_cons]
  unfold m_slices_Compare_int_int_l1
  rw [ifB_ite,if_neg (by omega),getI_of rfl hm,Option.bind_some,cmpI,Option.bind_some]
  by_cases h:z=y
  ·rw [if_pos h,if_neg (by omega),if_neg (by omega)]; rfl
  ·rw [if_neg h]
   by_cases h':z<y
   ·rw [if_pos h',if_pos h']; rfl
   ·rw [if_neg h',if_neg h',if_pos (by omega)]; rfl
 rw [hs a.From x.From 0 _ _ rfl,hs a.To x.To 1 _ _ rfl,hs a.Up x.Up 2 _ _ rfl]
 by_cases e1:a.From=x.From
 ·rw [if_pos e1,if_neg (show ¬ (a.From≠x.From) from fun h=>h e1)]
  by_cases e2:a.To=x.To
  ·rw [if_pos e2,if_neg (show ¬ (a.To≠x.To) from fun h=>h e2)]
   by_cases e3:a.Up=x.Up
   ·rw [if_pos e3]
    refine ⟨0,by simp [rangeM,ifB],by omega⟩
   ·rw [if_neg e3,Option.bind_some,fin_ret]
    exact ⟨_,rfl,by split <;> omega⟩
  ·rw [if_neg e2,if_pos (show a.To≠x.To from e2),Option.bind_some,fin_ret]
   exact ⟨_,rfl,by split <;> omega⟩
 ·rw [if_neg e1,if_pos (show a.From≠x.From from e1),Option.bind_some,fin_ret]
  exact ⟨_,rfl,by split <;> omega⟩
def fltW (f:List TFollow) (i:Nat) (x:TFollow):Option Int :=
 if ¬ ((1≤x.From∧x.From≤7)∧(1≤x.To∧x.To≤7)) then some 4 else if ¬ (0≤x.Up∧x.Up≤11) then some 1 else
 match i with
 | 0=>none
 | i+1=>match f[i]? with
  | none=>none
  | some a=>if cmpF a x≥0 then some 7 else none
theorem fltW_none {f:List TFollow} {i:Nat} {x:TFollow} (h:fltW f i x=none):okF x:=by
 unfold fltW at h
 split at h
 ·cases h
 ·split at h
  ·cases h
  ·rename_i h1 h2
   have h1:=Classical.not_not.1 h1
   have h2:=Classical.not_not.1 h2
   exact ⟨h1.1,h1.2,h2⟩
def resW (f:List TFollow):Nat→List TFollow→Option (Flow Unit Int)
 | _,[]=>some (.brk ())
 | i,x::t=>match fltW f i x with
  | none=>resW f (i+1) t
  | some e=>some (.ret e)
theorem rangeM_resW (step:Nat→TFollow→Unit→Option (Flow Unit Int)) (f:List TFollow)
  (h:∀ i x,f[i]? = some x→(∀ j y,j<i→f[j]? = some y→okF y)→step i x ()=some (match fltW f i x with | none=>.nxt () | some e=>.ret e)) :
  ∀ (t:List TFollow) (i:Nat),f.drop i=t→(∀ j y,j<i→f[j]? = some y→okF y)→rangeM step i t ()=resW f i t:=by
 intro t
 induction t with
 | nil=>intro i _ _; rfl
 | cons x t ih =>
  intro i hd hp
  have hx:f[i]? = some x:=by
   have:(f.drop i)[0]? = some x:=by rw [hd]; rfl
   simpa using this
  rw [rangeM_cons,h i x hx hp]
  unfold resW
  cases e:fltW f i x with
  | some e=>rfl
  | none =>
   rw [Option.bind_some,run_nxt]
   refine ih (i+1) (by rw [← List.drop_drop,hd]; rfl) fun j y hj hy=>?_
   rcases Nat.lt_succ_iff_lt_or_eq.1 hj with h1 | h1
   ·exact hp j y h1 hy
   ·subst h1
    rw [hx] at hy
    cases hy
    exact fltW_none e
theorem prev_ix {f:List TFollow} {i:Nat} (hi:i+1<f.length) (hl:f.length≤500):∃ a,f[i]? = some a∧getI f (w64 (((i+1:Nat):Int) - 1))=some a:=by
 refine ⟨f[i]'(by omega),List.getElem?_eq_getElem _,getI_of (n:=i) (by rw [w64_id (by omega)]; omega) (List.getElem?_eq_getElem _)⟩
theorem isKind_spec (a:Int):m_chord_isKind a=some (decide (1≤a∧a≤7)):=by
 unfold m_chord_isKind
 rw [Outside_spec,Option.bind_some]
 simp
theorem CheckF_step (f:List TFollow) (hl:f.length≤500) (i:Nat) (x:TFollow) (hx:f[i]? = some x) (hp:∀ j y,j<i→f[j]? = some y→okF y):m_chord_CheckFollows_l1 f i x ()=some (match fltW f i x with | none=>.nxt () | some e=>.ret e):=by
 have hi:=(List.getElem?_eq_some_iff.1 hx).1
 unfold m_chord_CheckFollows_l1 fltW
 rw [isKind_spec,isKind_spec,Outside_spec]
 by_cases h1:1≤x.From∧x.From≤7
 ·by_cases h2:1≤x.To∧x.To≤7
  ·rw [if_neg (fun h=>h ⟨h1,h2⟩)]
   simp only [h1,h2,and_self,decide_true,Option.bind_some,Bool.not_true,ifB_false,fin_inl]
   by_cases h3:0≤x.Up∧x.Up≤11
   ·rw [if_neg (fun h=>h h3)]
    simp only [h3,and_self,decide_true,Bool.not_true,ifB_false]
    cases i with
    | zero=>rfl
    | succ i =>
     obtain ⟨a,ha,hg⟩:=prev_ix hi hl
     rw [ifB_ite,if_pos (by omega),hg,Option.bind_some,compareFollows_spec (hp i a (by omega) ha) ⟨h1,h2,h3⟩,Option.bind_some,ifB_ite]
     simp only [ha]
     split <;> rfl
   ·rw [if_pos h3,show (!decide (0≤x.Up∧x.Up≤11))=true by rw [decide_eq_false h3]; rfl]; rfl
  ·rw [if_pos (fun h=>h2 h.2)]
   simp only [h1,h2,and_self,decide_true,decide_false,Option.bind_some,Bool.not_true,Bool.not_false,ifB_false,ifB_true,fin_inl]
 ·rw [if_pos (fun h=>h1 h.1)]
  simp only [h1,decide_false,Option.bind_some,Bool.not_false,ifB_true,fin_inl]
theorem inW (a b c:Int):m_gleeref2_in a b c=some (decide (b≤a∧a≤c)):=by
 unfold m_gleeref2_in
 rw [ifB_ite]
 by_cases h:b≤a
 ·rw [if_pos h]; simp [h]
 ·rw [if_neg h]; simp [h]
theorem FollowsF_step (f:List TFollow) (hl:f.length≤500) (i:Nat) (x:TFollow) (hx:f[i]? = some x):m_gleeref2_FollowsFault_l1 f i x ()=some (match fltW f i x with | none=>.nxt () | some e=>.ret e):=by
 have hi:=(List.getElem?_eq_some_iff.1 hx).1
 unfold m_gleeref2_FollowsFault_l1 fltW
 rw [inW,inW,inW]
 by_cases h1:1≤x.From∧x.From≤7
 ·by_cases h2:1≤x.To∧x.To≤7
  ·rw [if_neg (fun h=>h ⟨h1,h2⟩)]
   simp only [h1,h2,and_self,decide_true,Option.bind_some,Bool.not_true,ifB_false,fin_inl]
   by_cases h3:0≤x.Up∧x.Up≤11
   ·rw [if_neg (fun h=>h h3)]
    simp only [h3,and_self,decide_true,Bool.not_true,ifB_false]
    cases i with
    | zero=>rfl
    | succ i =>
     obtain ⟨a,ha,hg⟩:=prev_ix hi hl
     obtain ⟨z,hz,hzz⟩:=Compare3 a x
     rw [ifB_ite,if_pos (by omega),hg,Option.bind_some,Option.bind_some,Option.bind_some,hz,Option.bind_some,Option.bind_some,fin_inl,ifB_ite]
     simp only [ha]
     by_cases hc:cmpF a x≥0
     ·rw [if_pos hc,if_pos (hzz.2 hc)]
     ·rw [if_neg hc,if_neg (fun h=>hc (hzz.1 h))]
   ·rw [if_pos h3,decide_eq_false h3]; rfl
  ·rw [if_pos (fun h=>h2 h.2)]
   simp only [h1,h2,and_self,decide_true,decide_false,Option.bind_some,Bool.not_true,Bool.not_false,ifB_false,ifB_true,fin_inl]
 ·rw [if_pos (fun h=>h1 h.1)]
  simp only [h1,decide_false,Option.bind_some,Bool.not_false,ifB_true,fin_inl]
theorem FollowsFault_eq (f:List TFollow):m_chord_CheckFollows f=m_gleeref2_FollowsFault f:=by
 unfold m_chord_CheckFollows m_gleeref2_FollowsFault
 rw [ifB_ite,ifB_ite]
 by_cases h:(f.length:Int)>500
 ·rw [if_pos h,if_pos h]
 ·rw [if_neg h,if_neg h,rangeM_resW _ f (CheckF_step f (by omega)) f 0 rfl (fun j y hj=>by omega),rangeM_resW _ f (fun i x hx _=>FollowsF_step f (by omega) i x hx) f 0 rfl (fun j y hj=>by omega)]
theorem resW_some (f:List TFollow):∀ (t:List TFollow) (i:Nat),resW f i t=some (.brk ())∨∃ e,resW f i t=some (.ret e)
 | [],_=>.inl rfl
 | x::t,i=>by
  unfold resW
  cases fltW f i x with
  | none=>exact resW_some f t (i+1)
  | some e=>exact .inr ⟨_,rfl⟩
theorem FollowsFault_total (f:List TFollow):∃ e,m_gleeref2_FollowsFault f=some e:=by
 unfold m_gleeref2_FollowsFault
 rw [ifB_ite]
 by_cases h:(f.length:Int)>500
 ·rw [if_pos h]; exact ⟨_,rfl⟩
 ·rw [if_neg h,rangeM_resW _ f (fun i x hx _=>FollowsF_step f (by omega) i x hx) f 0 rfl (fun j y hj=>by omega)]
  rcases resW_some f f 0 with hr | ⟨e,hr⟩ <;> rw [hr] <;> exact ⟨_,rfl⟩
end Go.G
