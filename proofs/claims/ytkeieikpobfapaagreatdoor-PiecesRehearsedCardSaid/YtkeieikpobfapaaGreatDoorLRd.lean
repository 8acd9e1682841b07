/- LRd: who sings, who is away, wishes and free windows as they are drawn. In plain Lean, no program in sight. -/
import Derived.Test.YtkeieikpobfapaaGreatDoorLRb
import Derived.Test.YtkeieikpobfapaaGreatDoorLDo
namespace Go.G
open Go Go.J
set_option linter.unusedSimpArgs false
set_option linter.unusedVariables false
theorem OKp.up {k k' p:Int} (h:OKp k p) (hk:k≤k'):OKp k' p:=by unfold OKp at *; omega
theorem Odd_val (L:List Int) {p a b:Int} (hp:0≤p) (hp':p≤999999998) (ha:-1000000000000≤a) (hab:a≤b) (hb:b≤1000000000000):∃ v,m_gleemake_Stream_Odd L p a b=some (v,p+2)∧(a - 1≤v∧v≤b+1∨v = -1099511627776∨v=1099511627776):=by
 unfold m_gleemake_Stream_Odd
 obtain ⟨c,h1⟩:=Flip_spec L (p:=p) (n:=12) hp (by omega) (by omega)
 rw [h1,Option.bind_some]
 cases c
 ·obtain ⟨v,h2,h3,h4⟩:=Range_spec L (p:=p+1) (a:=a) (b:=b) (by omega) (by omega) ha hab hb
  simp only [ifB_false]
  rw [h2]; exact ⟨v,by simp; omega,by omega⟩
 ·obtain ⟨v,h2,h3⟩:=Pick_spec L (p:=p+1) [w64 (a - 1),w64 (b+1),a,b,(-1099511627776),1099511627776] (by omega) (by omega) (by simp) (by simp)
  simp only [ifB_true]
  rw [h2]
  refine ⟨v,by simp; omega,?_⟩
  simp only [List.mem_cons,List.not_mem_nil,or_false] at h3
  rw [w64_id (by omega),w64_id (by omega)] at h3
  omega
theorem dr_OddV {β : Type} {Q : β → Prop} {L:List Int} {k p a b:Int} {F:Int × Int→Option β} (hp:OKp k p) (hk:k≤999999000) (ha:-1000000000000≤a) (hab:a≤b) (hb:b≤1000000000000) (hf:∀ v,OKp (k+2) (p+2)→(a - 1≤v∧v≤b+1∨v = -1099511627776∨v=1099511627776)→∃ r,F (v,p+2)=some r∧Q r):∃ r,(m_gleemake_Stream_Odd L p a b).bind F=some r∧Q r:=by
 unfold OKp at *
 obtain ⟨v,h1,h2⟩:=Odd_val L hp.1 (by omega) ha hab hb
 rw [h1]; exact hf v (by omega) h2
def ltS (x y:TSings):Prop:=bytesOf x.Singer<bytesOf y.Singer∨(x.Singer=y.Singer∧bytesOf x.Piece<bytesOf y.Piece)
def gloB:ByteArray:=ByteArray.mk [103,108,111,114,105,97].toArray
def kyrB:ByteArray:=ByteArray.mk [107,121,114,105,101].toArray
def sncB:ByteArray:=ByteArray.mk [115,97,110,99,116,117,115].toArray
def sgr4:List ByteArray:=[(ByteArray.mk [97,110,110].toArray),(ByteArray.mk [98,111,98].toArray),(ByteArray.mk [99,105,100].toArray),(ByteArray.mk [100,97,110].toArray)]
structure SgOK (l:List TSings):Prop where
 pw:l.Pairwise ltS
 ok:∀ x∈l,x.Singer∈sgr4∧(x.Piece=gloB∨x.Piece=kyrB)∧isKey x.Part=true
theorem sing_step (L:List Int) {k p:Int} (hp:OKp k p) (hk:k≤1000000) (x y:ByteArray) (i:Nat) (u:List TSings) (hu:u.length≤100):∃ q u',m_gleemake_Stream_RightSings_l2 L x i y (p,u)=some (.nxt (q,u'))∧OKp (k+2) q∧(u'=u∨∃ v,isKey v=true∧u'=u++[⟨x,y,v⟩]):=by
 suffices hs:∃ r,m_gleemake_Stream_RightSings_l2 L x i y (p,u)=some r∧∃ q u',r = .nxt (q,u')∧OKp (k+2) q∧(u'=u∨∃ v,isKey v=true∧u'=u++[⟨x,y,v⟩]) by
  obtain ⟨r,e,q,u',rfl,g⟩:=hs
  exact ⟨q,u',e,g⟩
 unfold m_gleemake_Stream_RightSings_l2
 refine dr_Flip hp (by omega) (by omega) fun b q1=>?_
 cases b with
 | true=>exact ⟨_,rfl,_,_,rfl,q1.up (by omega),.inl rfl⟩
 | false =>
  simp only [Bool.not_false,ifB_true]
  refine dr_Some q1 (by omega) (by simp) (by simp) fun v q2 hv=>?_
  refine ex_app (by rw [List.length_singleton]; omega) (by omega) ?_
  refine ⟨_,rfl,_,_,rfl,q2.up (by omega),.inr ⟨v,?_,rfl⟩⟩
  simp only [List.mem_cons,List.not_mem_nil,or_false] at hv
  rcases hv with rfl | rfl <;> kernel_rfl
theorem SgOK.snoc {u:List TSings} {x y v:ByteArray} (h:SgOK u) (hx:x∈sgr4) (hy:y=gloB∨y=kyrB) (hv:isKey v=true) (hlt:∀ z∈u,ltS z ⟨x,y,v⟩):SgOK (u++[⟨x,y,v⟩]) :=
 ⟨List.pairwise_append.2 ⟨h.pw,List.pairwise_singleton _ _,fun a ha b hb=>by rw [List.mem_singleton.1 hb]; exact hlt a ha⟩,fun z hz=>by
  rcases List.mem_append.1 hz with hz | hz
  ·exact h.ok z hz
  ·rw [List.mem_singleton.1 hz]; exact ⟨hx,hy,hv⟩⟩
theorem glo_kyr:bytesOf gloB<bytesOf kyrB:=by decide
theorem sing_one (L:List Int) {k p:Int} (hp:OKp k p) (hk:k≤900000) (x:ByteArray) (hx:x∈sgr4) (i:Nat) (u:List TSings) (hu:u.length≤90) (h:SgOK u) (hlt:∀ z∈u,bytesOf z.Singer<bytesOf x) :
  ∃ q u',m_gleemake_Stream_RightSings_l1 L i x (p,u)=some (.nxt (q,u'))∧OKp (k+4) q∧SgOK u'∧u'.length≤u.length+2∧∀ z∈u',bytesOf z.Singer<bytesOf x∨z.Singer=x:=by
 unfold m_gleemake_Stream_RightSings_l1
 obtain ⟨q1,u1,h1,h2,h3⟩:=sing_step L hp (by omega) x gloB 0 u (by omega)
 have hS1:SgOK u1∧u1.length≤u.length+1∧(∀ z∈u1,bytesOf z.Singer<bytesOf x∨z.Singer=x)∧∀ z∈u1,∀ v,ltS z ⟨x,kyrB,v⟩:=by
  rcases h3 with rfl | ⟨v,hv,rfl⟩
  ·exact ⟨h,by omega,fun z hz=>.inl (hlt z hz),fun z hz v=>.inl (hlt z hz)⟩
  ·refine ⟨h.snoc hx (.inl rfl) hv fun z hz=>.inl (hlt z hz),by rw [List.length_append,List.length_singleton]; omega,fun z hz=>?_,fun z hz w=>?_⟩
   ·rcases List.mem_append.1 hz with hz | hz
    ·exact .inl (hlt z hz)
    ·rw [List.mem_singleton.1 hz]; exact .inr rfl
   ·rcases List.mem_append.1 hz with hz | hz
    ·exact .inl (hlt z hz)
    ·rw [List.mem_singleton.1 hz]; exact .inr ⟨rfl,glo_kyr⟩
 obtain ⟨q2,u2,g1,g2,g3⟩:=sing_step L h2 (by omega) x kyrB 1 u1 (by omega)
 have e:rangeM (m_gleemake_Stream_RightSings_l2 L x) 0 [gloB,kyrB] (p,u)=some (.brk (q2,u2)):=by
  rw [rangeM_cons,h1,Option.bind_some,run_nxt,rangeM_cons,g1,Option.bind_some,run_nxt,rangeM_nil]
 change ∃ q u',((rangeM (m_gleemake_Stream_RightSings_l2 L x) 0 [gloB,kyrB] (p,u)).bind _)=_∧_
 rw [e]
 refine ⟨q2,u2,rfl,g2.up (by omega),?_⟩
 rcases g3 with rfl | ⟨v,hv,rfl⟩
 ·exact ⟨hS1.1,by omega,hS1.2.2.1⟩
 ·refine ⟨hS1.1.snoc hx (.inr rfl) hv fun z hz=>hS1.2.2.2 z hz v,by rw [List.length_append,List.length_singleton]; omega,fun z hz=>?_⟩
  rcases List.mem_append.1 hz with hz | hz
  ·exact hS1.2.2.1 z hz
  ·rw [List.mem_singleton.1 hz]; exact .inr rfl
theorem RightSings_spec (L:List Int) {p:Int} (hp:0≤p) (hp':p≤800000):∃ l q,m_gleemake_Stream_RightSings L p=some (l,q)∧0≤q∧q≤p+16∧l.length≤8∧SgOK l:=by
 unfold m_gleemake_Stream_RightSings
 obtain ⟨q1,u1,a1,b1,c1,d1,e1⟩:=sing_one L (k:=p) (p:=p) ⟨hp,Int.le_refl _⟩ (by omega) _ (show (ByteArray.mk [97,110,110].toArray)∈sgr4 by simp [sgr4]) 0 [] (by simp) ⟨List.Pairwise.nil,fun _ h=>by cases h⟩ (fun _ h=>by cases h)
 rw [List.length_nil] at d1
 have s12:bytesOf (ByteArray.mk [97,110,110].toArray)<bytesOf (ByteArray.mk [98,111,98].toArray):=by decide
 have s23:bytesOf (ByteArray.mk [98,111,98].toArray)<bytesOf (ByteArray.mk [99,105,100].toArray):=by decide
 have s34:bytesOf (ByteArray.mk [99,105,100].toArray)<bytesOf (ByteArray.mk [100,97,110].toArray):=by decide
 have nx:∀ {u:List TSings} {x y:ByteArray},bytesOf x<bytesOf y→(∀ z∈u,bytesOf z.Singer<bytesOf x∨z.Singer=x)→∀ z∈u,bytesOf z.Singer<bytesOf y:=fun hxy h z hz=>by
  rcases h z hz with g | g
  ·exact List.lt_trans g hxy
  ·rw [g]; exact hxy
 obtain ⟨q2,u2,a2,b2,c2,d2,e2⟩:=sing_one L b1 (by omega) _ (show (ByteArray.mk [98,111,98].toArray)∈sgr4 by simp [sgr4]) 1 u1 (by omega) c1 (nx s12 e1)
 obtain ⟨q3,u3,a3,b3,c3,d3,e3⟩:=sing_one L b2 (by omega) _ (show (ByteArray.mk [99,105,100].toArray)∈sgr4 by simp [sgr4]) 2 u2 (by omega) c2 (nx s23 e2)
 obtain ⟨q4,u4,a4,b4,c4,d4,e4⟩:=sing_one L b3 (by omega) _ (show (ByteArray.mk [100,97,110].toArray)∈sgr4 by simp [sgr4]) 3 u3 (by omega) c3 (nx s34 e3)
 rw [rangeM_cons,a1,Option.bind_some,run_nxt,rangeM_cons,a2,Option.bind_some,run_nxt,rangeM_cons,a3,Option.bind_some,run_nxt,rangeM_cons,a4,Option.bind_some,run_nxt,rangeM_nil,Option.bind_some,fin_brk]
 unfold OKp at b4
 exact ⟨u4,q4,rfl,b4.1,by omega,by omega,c4⟩
theorem Wishes_l1 (L:List Int) {k p:Int} (hp:OKp k p) (hk:k≤900000) (x:ByteArray) (i:Nat) (u:List TWish) (hu:u.length≤90):∃ q u',m_gleemake_Stream_Wishes_l1 L i x (p,u)=some (.nxt (q,u'))∧OKp (k+8) q∧u'.length≤u.length+1:=by
 suffices hs:∃ r,m_gleemake_Stream_Wishes_l1 L i x (p,u)=some r∧∃ q u',r = .nxt (q,u')∧OKp (k+8) q∧u'.length≤u.length+1 by
  obtain ⟨r,e,q,u',rfl,g⟩:=hs
  exact ⟨q,u',e,g⟩
 unfold m_gleemake_Stream_Wishes_l1
 simp only
 refine dr_Flip hp (by omega) (by omega) fun b r1=>?_
 cases b with
 | true=>exact ⟨_,rfl,_,_,rfl,r1.up (by omega),by omega⟩
 | false =>
  simp only [ifB_false]
  refine dr_Pick r1 (by omega) (by simp) (by simp) fun v r2 _=>?_
  refine dr_Flip r2 (by omega) (by omega) fun c r3=>?_
  refine ex_fin ?_
  simp only
  have hfin:∀ (q:Int) (z:TWish),OKp (k+8) q→∃ r',((appM 24 u [z]).bind fun q23=>(some (.nxt (q,q23)):Option (Flow (Int × (List TWish)) ((List TWish) × Int))))=some r'∧∃ q u',r' = .nxt (q,u')∧OKp (k+8) q∧u'.length≤u.length+1:=by
   intro q z hq
   refine ex_app (by rw [List.length_singleton]; omega) (by omega) ?_
   exact ⟨_,rfl,_,_,rfl,hq,by rw [List.length_append,List.length_singleton]; omega⟩
  cases c with
  | false=>exact ⟨_,rfl,_,rfl,hfin _ _ (r3.up (by omega))⟩
  | true =>
   simp only [ifB_true]
   refine dr_Some r3 (by omega) (by simp) (by simp) fun z r4 _=>?_
   refine dr_Odd r4 (by omega) (by omega) (by omega) (by omega) fun d r5=>?_
   exact ⟨_,rfl,_,rfl,hfin _ _ (r5.up (by omega))⟩
theorem Wishes_spec (L:List Int) {p:Int} (hp:0≤p) (hp':p≤700000):∃ l q,m_gleemake_Stream_Wishes L p=some (l,q)∧0≤q∧q≤p+30∧l.length≤3:=by
 unfold m_gleemake_Stream_Wishes
 obtain ⟨q1,u1,a1,b1,c1⟩:=Wishes_l1 L (k:=p) (p:=p) ⟨hp,Int.le_refl _⟩ (by omega) gloB 0 [] (by simp)
 rw [List.length_nil] at c1
 obtain ⟨q2,u2,a2,b2,c2⟩:=Wishes_l1 L b1 (by omega) kyrB 1 u1 (by omega)
 obtain ⟨q3,u3,a3,b3,c3⟩:=Wishes_l1 L b2 (by omega) sncB 2 u2 (by omega)
 have e:rangeM (m_gleemake_Stream_Wishes_l1 L) 0 [gloB,kyrB,sncB] (p,[])=some (.brk (q3,u3)):=by
  rw [rangeM_cons,a1,Option.bind_some,run_nxt,rangeM_cons,a2,Option.bind_some,run_nxt,rangeM_cons,a3,Option.bind_some,run_nxt,rangeM_nil]
 change ∃ l q,((rangeM (m_gleemake_Stream_Wishes_l1 L) 0 [gloB,kyrB,sncB] (p,[])).bind _)=_∧_
 rw [e]
 unfold OKp at b3
 exact ⟨u3,q3,rfl,b3.1,by omega,by omega⟩
end Go.G
