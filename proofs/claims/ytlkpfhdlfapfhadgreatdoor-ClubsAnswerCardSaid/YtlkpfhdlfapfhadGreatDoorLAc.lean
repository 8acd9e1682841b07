/- LAc: acts of a club, as they are drawn. In plain Lean, no program in sight. -/
import Derived.Test.YtlkpfhdlfapfhadGreatDoorLDo
import Derived.Test.YtlkpfhdlfapfhadGreatDoorLM
namespace Go.G
open Go Go.J
set_option linter.unusedSimpArgs false
theorem bb0 (a b:TAct):∃ c,v7 a b=some c:=by
 have hs:∀ n,∃ c,L1 n=some c:=fun n=>by unfold L1; cases decide (n<0) <;> cases decide (n>0) <;> exact ⟨_,rfl⟩
 unfold v7
 obtain ⟨c1,h1⟩:=hs (w64 (a.At - b.At))
 obtain ⟨c2,h2⟩:=hs (w64 (a.No - b.No))
 rw [h1,h2,show D9 a.Site b.Site=some _ from rfl]
 cases (a.At != b.At) <;> cases (!(a.Site.toList==b.Site.toList)) <;> exact ⟨_,rfl⟩
theorem bP8 (u:List TAct) (hl:u.length≤20):∃ m,n9 u=some m∧m.Perm u:=by
 have e0:∀ (v:List TAct) a b,o0 v a b=isM v7 v a b:=fun _ _ _=>rfl
 have hc:∀ x∈u,∀ y∈u,∃ c,v7 x y=some c:=fun x _ y _=>bb0 x y
 obtain ⟨m,h1,h2⟩:=bd9 v7 u (by omega) hc
 unfold n9 w7
 by_cases h20:u.length=20
 ·have g1:m4 (u.length:Int) (0,20,u)=some (.nxt (20,40,m)):=by
   unfold m4
   rw [e0]
   simp only
   rw [show isM v7 u 0 20=some m by rw [← h1,h20]; rfl,decide_eq_true (by omega),j9]; rfl
  have g2:m4 (u.length:Int) (20,40,m)=some (.brk (20,40,m)):=by
   unfold m4
   simp only
   rw [decide_eq_false (by omega),j4]
  rw [o6 g1,D8,o6 g2,ag4,Option.bind_some,D5,e0]
  simp only
  have g3:isM v7 m 20 (u.length:Int)=some m:=by
   unfold isM
   rw [o6 (show aU9 (ρ:=List TAct) v7 20 (u.length:Int) (w64 (20+1),m)=some (.brk (w64 (20+1),m)) by
    unfold aU9; rw [show w64 (20+1)=21 from rfl]; simp only; rw [decide_eq_false (by omega),j4]),ag4]; rfl
  rw [g3,Option.bind_some]
  have g4:o7 (u.length:Int) (20,20,40)=some (.brk (20,20,40)):=by
   unfold o7
   simp only
   rw [decide_eq_false (by omega),j4]
  rw [o6 g4,ag4]
  exact ⟨m,rfl,h2⟩
 ·have g2:m4 (u.length:Int) (0,20,u)=some (.brk (0,20,u)):=by
   unfold m4
   simp only
   rw [decide_eq_false (by omega),j4]
  rw [o6 g2,ag4,Option.bind_some,D5,e0]
  simp only
  rw [h1,Option.bind_some]
  have g4:o7 (u.length:Int) (20,0,20)=some (.brk (20,0,20)):=by
   unfold o7
   simp only
   rw [decide_eq_false (by omega),j4]
  rw [o6 g4,ag4]
  exact ⟨m,rfl,h2⟩
def zzB:ByteArray:=ByteArray.mk [122,122].toArray
def ax1:List ByteArray:=[ByteArray.mk [97,110,110].toArray,ByteArray.mk [98,111,98].toArray,ByteArray.mk [99,105,100].toArray,ByteArray.empty]
structure ActsI (p0:Int) (i:Nat) (s:Int × Int × (List (ByteArray × Int)) × (List TAct)):Prop where
 at1:0≤s.1
 at2:s.1≤2592000000*i
 pos:OKp (p0+20*i) s.2.1
 no:∀ k,0≤(lkM s.2.2.1 k).getD 0∧(lkM s.2.2.1 k).getD 0≤i
 len:s.2.2.2.length=i
 ats:∀ x∈s.2.2.2,(0≤x.At∧x.At≤2592000000*i)∧x.Site≠zzB∧x.Who∈ax1
theorem OKp.le {k k' p:Int} (h:OKp k p) (hk:k≤k'):OKp k' p:=by unfold OKp at *; omega
set_option maxHeartbeats 4000000 in
theorem bQ1 (L:List Int) (p0:Int) (hp0:0≤p0) (hp1:p0≤1000000) (i:Nat) (hi:i<20) (x:Nat) (s:Int × Int × (List (ByteArray × Int)) × (List TAct)) (h:ActsI p0 i s) :
  ∃ s',J9 L i x s=some (.nxt s')∧ActsI p0 (i+1) s':=by
 obtain ⟨a,p,no,out⟩:=s
 obtain ⟨h1,h2,h3,h4,h5,h6⟩:=h
 simp only at h1 h2 h3 h4 h5 h6
 suffices hs:∃ r,J9 L i x (a,p,no,out)=some r∧∃ s',r = .nxt s'∧ActsI p0 (i+1) s' by
  obtain ⟨r,e,s',rfl,g⟩:=hs
  exact ⟨s',e,g⟩
 unfold J9
 refine bj1 h3 (by omega) (by simp) (by simp) fun v q1 hv=>?_
 have hv1:0≤v∧v≤2592000000:=by
  simp only [List.mem_cons,List.not_mem_nil,or_false] at hv
  omega
 refine aW0 q1 (by omega) (by simp) (by simp) fun site q2 hs=>?_
 refine bj1 q2 (by omega) (by simp) (by simp) fun kind q3 _=>?_
 refine aW0 q3 (by omega) (by simp) (by simp) fun who q4 hwh=>?_
 refine aW0 q4 (by omega) (by simp) (by simp) fun mot q5 _=>?_
 simp only
 have hw:w64 (a+v)=a+v:=A0 (by omega)
 have hw2:w64 ((lkM no site).getD 0+1)=(lkM no site).getD 0+1:=A0 (by have:=h4 site; omega)
 rw [hw,hw2]
 have hno:∀ k,0≤(lkM (q9 no site ((lkM no site).getD 0+1)) k).getD 0∧(lkM (q9 no site ((lkM no site).getD 0+1)) k).getD 0≤((i+1:Nat):Int):=fun k=>by
  rw [aO0]
  have:=h4 k; have:=h4 site
  split
  ·simp only [Option.getD_some]; omega
  ·omega
 have hsa:=hno (ByteArray.mk [115,97].toArray)
 generalize q9 no site ((lkM no site).getD 0+1)=no' at hno hsa ⊢
 have hsite:site≠zzB:=by
  rintro rfl
  simp only [List.mem_cons,List.not_mem_nil,or_false] at hs
  rcases hs with h | h | h | h <;> exact absurd h (by decide)
 have hsz:∀ z,z∈[ByteArray.empty,ByteArray.mk [115,97].toArray]→z≠zzB:=by
  rintro z hz rfl
  simp only [List.mem_cons,List.not_mem_nil,or_false] at hz
  rcases hz with h | h <;> exact absurd h (by decide)
 have hwho:who∈ax1:=by
  simp only [List.mem_cons,List.not_mem_nil,or_false] at hwh
  unfold ax1
  rcases hwh with rfl | rfl | rfl | rfl <;> simp
 have hwe:ByteArray.empty∈ax1:=by unfold ax1; simp
 have hw2:∀ z,z∈[ByteArray.empty,who]→z∈ax1:=fun z hz=>by
  simp only [List.mem_cons,List.not_mem_nil,or_false] at hz
  rcases hz with rfl | rfl
  ·exact hwe
  ·exact hwho
 have hw3:∀ z,z∈[ByteArray.empty,ByteArray.empty]→z∈ax1:=fun z hz=>by
  simp only [List.mem_cons,List.not_mem_nil,or_false,or_self] at hz
  rw [hz]; exact hwe
 have fin:∀ (q:Int) (t:TAct),OKp (p0+20*i+1+1+1+1+1+12) q→t.At=a+v→t.Site≠zzB→t.Who∈ax1→∃ r,(some (Flow.nxt (a+v,q,no',out++[t])):Option (Flow (Int × Int × (List (ByteArray × Int)) × (List TAct)) ((List TAct) × Int)))=some r∧∃ s',r = .nxt s'∧ActsI p0 (i+1) s':=by
  intro q t hq ht ht2 ht3
  refine ⟨_,rfl,_,rfl,by simp only; omega,by simp only; omega,hq.le (by omega),hno,by simp [h5],fun y hy=>?_⟩
  rcases List.mem_append.1 hy with hy | hy
  ·have:=h6 y hy; exact ⟨by omega,this.2⟩
  ·simp only [List.mem_singleton] at hy
   rw [hy]; exact ⟨by rw [ht]; omega,ht2,ht3⟩
 repeat' (first
  | with_reducible refine bZ0 ?_ ?_
  | with_reducible refine bV2 ?_
  | with_reducible refine bO1 (by assumption) (by omega) (by omega) (fun _ _=>?_)
  | with_reducible refine bO0 (by assumption) (by omega) (by omega) (fun _ _ _ _=>?_)
  | with_reducible refine bj1 (by assumption) (by omega) (by simp) (by simp) (fun _ _ _=>?_)
  | with_reducible refine aW0 (by assumption) (by omega) (by simp) (by simp) (fun _ _ _=>?_)
  | with_reducible refine bV7 (by assumption) (by omega) (by omega) (by omega) (by omega) (fun _ _=>?_)
  | with_reducible refine bH3 (by assumption) (by omega) (by omega) (by omega) (by omega) (fun _ _ _ _=>?_)
  | with_reducible refine bV3 (by simp [h5]; omega) (by omega) ?_
  | exact fin _ _ (OKp.le (by assumption) (by omega)) rfl (by first | exact hsite | exact hsz _ (by assumption)) (by first | exact hwho | exact hwe | exact hw2 _ (by assumption) | exact hw3 _ (by assumption))
  | with_reducible refine ⟨_,rfl,_,rfl,?_⟩)
theorem bD1 (L:List Int) {p n:Int} (hp:0≤p) (hp':p≤1000000) (hn:0≤n) (hn':n≤20):∃ l q,N2 L p n=some (l,q)∧0≤q∧q≤p+20*n∧(l.length:Int)=n∧∀ x∈l,(0≤x.At∧x.At≤2592000000*n)∧x.Site≠zzB∧x.Who∈ax1:=by
 unfold N2
 rw [ax2 (by omega),Option.bind_some]
 obtain ⟨s,h1,h2⟩:=Q8 (J9 L) (List.range n.toNat) (ActsI p) (by
  intro i x s hx hI
  have hi:i<n.toNat:=by simpa using (List.getElem?_eq_some_iff.1 hx).1
  exact bQ1 L p hp hp' i (by omega) x s hI) (0,p,[],[]) ⟨by simp,by simp,⟨hp,by simp⟩,fun k=>by simp [lkM],rfl,fun x hx=>by cases hx⟩
 rw [h1,Option.bind_some,D5]
 have hl:=h2.len
 rw [List.length_range] at h2 hl
 obtain ⟨m,g1,g2⟩:=bP8 s.2.2.2 (by omega)
 rw [g1,Option.bind_some]
 have hpos:=h2.pos
 unfold OKp at hpos
 refine ⟨m,s.2.1,rfl,hpos.1,by omega,by rw [g2.length_eq]; omega,fun x hx=>?_⟩
 have:=h2.ats x (g2.subset hx)
 exact ⟨by omega,this.2⟩
end Go.G
