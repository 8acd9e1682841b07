/- LVg: all rows of notes of a chord, by the reference. In plain Lean, no program in sight. -/
import Derived.Test.YtlkpfhdlfapfhacGreatDoorLVf
namespace Go.G
open Go Go.J
set_option linter.unusedSimpArgs false
set_option linter.unusedVariables false
def adj (p:List Int):Prop:=∀ i,i+1<p.length→nt p i≤nt p (i+1)∧(0<i→nt p (i+1) - nt p i≤12)
theorem still_nil (a:Int) (p:List Int):stillF a p=[]↔adj p:=by
 unfold stillF
 rw [List.append_eq_nil_iff,List.flatMap_eq_nil_iff,List.flatMap_eq_nil_iff]
 have hc:∀ k,crF a p k=[]↔nt p k≤nt p (k+1):=fun k=>by
  unfold crF
  split
  ·simp; omega
  ·simp; omega
 have hf:∀ k,faF a p k=[]↔szI (nt p (k+1) - nt p k)≤12:=fun k=>by
  unfold faF
  split
  ·simp; omega
  ·simp; omega
 constructor
 ·rintro ⟨h1,h2⟩ i hi
  have g1:=(hc i).1 (h1 i (List.mem_range.2 (by omega)))
  refine ⟨g1,fun h0=>?_⟩
  have g2:=(hf i).1 (h2 i (List.mem_range'.2 ⟨i - 1,by omega,by omega⟩))
  unfold szI at g2
  omega
 ·intro h
  refine ⟨fun k hk=>(hc k).2 (h k (by have:=List.mem_range.1 hk; omega)).1,fun k hk=>(hf k).2 ?_⟩
  obtain ⟨j,hj,rfl⟩:=List.mem_range'.1 hk
  obtain ⟨g1,g2⟩:=h (1+1*j) (by omega)
  have:=g2 (by omega)
  unfold szI
  omega
noncomputable def qB (T row:List Int):Bool:=(stillF 0 row).isEmpty&&fitsB T row
theorem qB_iff {T row:List Int}:qB T row=true↔adj row∧fitsB T row=true:=by
 unfold qB
 rw [Bool.and_eq_true,List.isEmpty_iff,still_nil]
theorem ext_mem (T:List Int):∀ (rest:List TRange) (p row:List Int),row∈ext T rest p→∃ s,row=p++s∧s.length=rest.length∧∀ x∈s,∃ r∈rest,r.Low≤x∧x≤r.High
 | [],p,row,h=>by
  unfold ext at h
  rw [List.mem_singleton] at h
  exact ⟨[],by simp [h],rfl,by simp⟩
 | r::rest,p,row,h=>by
  unfold ext at h
  obtain ⟨n,hn,h2⟩:=List.mem_flatMap.1 h
  split at h2
  ·obtain ⟨s,rfl,h3,h4⟩:=ext_mem T rest (p++[n]) row h2
   refine ⟨n::s,by simp,by simp [h3],fun x hx=>?_⟩
   rcases List.mem_cons.1 hx with rfl | hx
   ·exact ⟨r,List.mem_cons_self ..,mem_rng hn⟩
   ·obtain ⟨r',h5,h6⟩:=h4 x hx
    exact ⟨r',List.mem_cons_of_mem _ h5,h6⟩
  ·cases h2
theorem nt_app {p s:List Int} {i:Nat} (h:i<p.length):nt (p++s) i=nt p i:=by
 unfold nt
 rw [List.getD_eq_getElem?_getD,List.getD_eq_getElem?_getD,List.getElem?_append_left h]
theorem nt_snoc {p s:List Int} {n:Int}:nt (p++[n]++s) p.length=n:=by
 unfold nt
 rw [List.getD_eq_getElem?_getD,List.append_assoc,List.getElem?_append_right (Nat.le_refl _),Nat.sub_self]
 rfl
theorem adj_snoc {p:List Int} {n:Int} (h:adj p) (h1:0<p.length→lastN p≤n) (h2:1<p.length→n - lastN p≤12):adj (p++[n]):=by
 intro i hi
 rw [List.length_append,List.length_singleton] at hi
 by_cases hlt:i+1<p.length
 ·rw [nt_app (by omega),nt_app hlt]
  exact h i hlt
 ·have e1:i+1=p.length:=by omega
  have e2:nt (p++[n]) (i+1)=n:=by
   have:=nt_snoc (p:=p) (s:=[]) (n:=n)
   rw [List.append_nil] at this
   rw [e1,this]
  have e3:nt (p++[n]) i=lastN p:=by
   rw [nt_app (by omega)]
   unfold lastN
   congr 1
   omega
  rw [e2,e3]
  exact ⟨h1 (by omega),fun h0=>h2 (by omega)⟩
theorem dfs_ext (T:List Int):∀ (rest:List TRange) (p:List Int),adj p→(0<p.length→(nt p 0).tmod 12=nt T 0)→dfs T rest p=(ext T rest p).filter (qB T)
 | [],p,h,_=>by
  unfold dfs ext
  rw [List.filter_cons,List.filter_nil]
  by_cases hf:fitsB T p=true
  ·rw [if_pos hf,if_pos (qB_iff.2 ⟨h,hf⟩)]
  ·rw [if_neg hf,if_neg (fun e=>hf (qB_iff.1 e).2)]
 | r::rest,p,h,h0=>by
  unfold dfs ext
  rw [List.filter_flatMap]
  have key:∀ n,(if okB T p n=true then dfs T rest (p++[n]) else [])=(if inT T n=true then ext T rest (p++[n]) else []).filter (qB T):=fun n=>by
   by_cases hT:inT T n=true
   ·rw [if_pos hT]
    by_cases hok:okB T p n=true
    ·rw [if_pos hok]
     unfold okB at hok
     simp only [Bool.and_eq_true,Bool.or_eq_true,decide_eq_true_eq,beq_iff_eq] at hok
     refine dfs_ext T rest (p++[n]) (adj_snoc h (fun hp=>?_) (fun hp=>?_)) (fun _=>?_)
     ·rcases hok.2.2 with h3 | h3
      ·omega
      ·exact h3.1
     ·rcases hok.2.2 with h3 | h3
      ·omega
      ·rcases h3.2 with h4 | h4
       ·omega
       ·exact h4
     ·by_cases hp:0<p.length
      ·rw [nt_app hp]; exact h0 hp
      ·have:p=[]:=List.eq_nil_of_length_eq_zero (by omega)
       subst this
       rcases hok.2.1 with h3 | h3
       ·omega
       ·exact h3
    ·rw [if_neg hok]
     symm
     rw [List.filter_eq_nil_iff]
     intro row hrow hq
     obtain ⟨s,rfl,-,-⟩:=ext_mem T rest (p++[n]) row hrow
     obtain ⟨g1,g2⟩:=qB_iff.1 hq
     apply hok
     unfold okB
     simp only [Bool.and_eq_true,Bool.or_eq_true,decide_eq_true_eq,beq_iff_eq]
     refine ⟨hT,?_,?_⟩
     ·by_cases hp:0<p.length
      ·exact .inl hp
      ·right
       have:p=[]:=List.eq_nil_of_length_eq_zero (by omega)
       subst this
       unfold fitsB at g2
       rw [Bool.and_eq_true,decide_eq_true_eq] at g2
       exact g2.1
     ·by_cases hp:p.length=0
      ·exact .inl hp
      ·right
       have g3:=g1 (p.length - 1) (by simp only [List.length_append,List.length_singleton]; omega)
       rw [show p.length - 1+1=p.length by omega,nt_snoc,List.append_assoc,nt_app (p:=p) (by omega)] at g3
       refine ⟨g3.1,?_⟩
       by_cases hp1:p.length≤1
       ·exact .inl hp1
       ·exact .inr (g3.2 (by omega))
   ·have hok:okB T p n≠true:=fun e=>hT (by unfold okB at e; rw [Bool.and_eq_true] at e; exact e.1)
    rw [if_neg hT,if_neg hok]; rfl
  congr 1
  funext n
  exact key n
where
 flat_lenX {G:List Int→List (List Int)} {B:Nat}:∀ {l:List (List Int)},(∀ k,k∈l→(G k).length≤B)→(l.flatMap G).length≤l.length*B
  | [],_=>by simp
  | x::l,h=>by
   rw [List.flatMap_cons,List.length_append,List.length_cons,Nat.add_mul]
   have h1:=h x (List.mem_cons_self ..)
   have h2:=flat_lenX fun k hk=>h k (List.mem_cons_of_mem _ hk)
   omega
structure RowOK (v:Nat) (row:List Int):Prop where
 len:row.length=v
 notes:∀ x∈row,0≤x∧x≤127
theorem ext_ok {T:List Int} {rs:List TRange} (hr:RR rs) {row:List Int} (h:row∈ext T rs []):RowOK rs.length row:=by
 obtain ⟨s,rfl,h1,h2⟩:=ext_mem T rs [] row h
 refine ⟨by simpa using h1,fun x hx=>?_⟩
 obtain ⟨r,hr1,h3⟩:=h2 x (by simpa using hx)
 have:=hr.ok r hr1
 omega
theorem dfs_ok {T:List Int} {rs:List TRange} (hr:RR rs) {row:List Int} (h:row∈dfs T rs []):RowOK rs.length row∧adj row:=by
 rw [dfs_ext T rs [] (fun i hi=>by simp at hi) (fun h=>by simp at h)] at h
 obtain ⟨h1,h2⟩:=List.mem_filter.1 h
 exact ⟨ext_ok hr h1,(qB_iff.1 h2).1⟩
end Go.G
