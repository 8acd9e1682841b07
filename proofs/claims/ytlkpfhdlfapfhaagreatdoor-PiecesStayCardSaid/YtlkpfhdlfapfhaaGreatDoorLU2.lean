/- LU2: whether tones fill bars, in plain Lean: the program and the reference say the same, and how they fill them. No program in sight. -/
import Derived.Test.YtlkpfhdlfapfhaaGreatDoorLU1
namespace Go.G
open Go Go.J
set_option linter.unusedSimpArgs false
def uT (x:TTone):Int:=x.Long.Num*(192:Int).tdiv x.Long.Den
def lB (x:TBar):Int:=x.Beats*(192:Int).tdiv x.Unit
def sumU (t:List TTone):Int:=(t.map uT).sum
theorem units_spec {x:TTone} (h:TGood x):m_piece_units x.Long=some (uT x)∧m_gleeref2_units x.Long=some (uT x)∧1≤uT x∧uT x≤3072:=by
 obtain ⟨-,h1,h2,h3,h4⟩:=h
 have h5:(192:Int)=x.Long.Den*(192:Int).tdiv x.Long.Den:=by have:=Int.mul_tdiv_add_tmod 192 x.Long.Den; omega
 have h6:0≤(192:Int).tdiv x.Long.Den:=Int.tdiv_nonneg (by omega) (by omega)
 have h7:(192:Int).tdiv x.Long.Den≠0:=fun h=>by rw [h] at h5; omega
 have h8:1*(192:Int).tdiv x.Long.Den≤x.Long.Num*(192:Int).tdiv x.Long.Den:=Int.mul_le_mul_of_nonneg_right h1 h6
 have h9:x.Long.Num*(192:Int).tdiv x.Long.Den≤16*x.Long.Den*(192:Int).tdiv x.Long.Den:=Int.mul_le_mul_of_nonneg_right h4 h6
 rw [Int.mul_assoc,← h5] at h9
 have h10:1*(192:Int).tdiv x.Long.Den≤x.Long.Den*(192:Int).tdiv x.Long.Den:=Int.mul_le_mul_of_nonneg_right h2 h6
 have b1:1≤uT x:=by unfold uT; omega
 have b2:uT x≤3072:=by unfold uT; omega
 have e:∀ {r:Option Int},r=((quoM 192 x.Long.Den).bind fun z2=>some (w64 (x.Long.Num*z2)))→r=some (uT x):=by
  intro r hr
  rw [hr,quoM_of (by omega),Option.bind_some,w64_id (n:=(192:Int).tdiv x.Long.Den) (by omega)]
  show some (w64 (uT x))=_
  rw [w64_id (by omega)]
 exact ⟨e rfl,e rfl,b1,b2⟩
theorem long_spec {x:TBar} (h:bad x=false):m_piece_long x=some (lB x)∧m_gleeref2_barUnits x=some (lB x)∧1≤lB x∧lB x≤3072:=by
 obtain ⟨h1,h2,h3,-⟩:=notbad x h
 unfold m_piece_long m_gleeref2_barUnits lB
 have key:∀ u v:Int,x.Unit=u→(192:Int)=u*v→0<u→12≤v→v≤192→(quoM 192 x.Unit).bind (fun z2=>some (w64 (x.Beats*z2)))=some (x.Beats*(192:Int).tdiv x.Unit) ∧
   (quoM (w64 (x.Beats*192)) x.Unit).bind (fun z2=>some z2)=some (x.Beats*(192:Int).tdiv x.Unit)∧1≤x.Beats*(192:Int).tdiv x.Unit∧x.Beats*(192:Int).tdiv x.Unit≤3072:=by
  intro u v hu huv hu0 hv hv2
  subst hu
  have e1:(192:Int).tdiv x.Unit=v:=by rw [huv]; exact Int.mul_tdiv_cancel_left _ (by omega)
  have e2:(x.Beats*192).tdiv x.Unit=x.Beats*v:=by rw [huv,← Int.mul_assoc,Int.mul_comm x.Beats,Int.mul_assoc]; exact Int.mul_tdiv_cancel_left _ (by omega)
  have b1:1*v≤x.Beats*v:=Int.mul_le_mul_of_nonneg_right h1 (by omega)
  have b2:x.Beats*v≤16*v:=Int.mul_le_mul_of_nonneg_right h2 (by omega)
  rw [quoM_of (by omega),quoM_of (by omega),e1,w64_id (n:=x.Beats*192) (by omega),e2,Option.bind_some,Option.bind_some,w64_id (n:=v) (by omega),w64_id (by omega)]
  exact ⟨rfl,rfl,by omega,by omega⟩
 rcases h3 with h3 | h3 | h3 | h3 | h3
 ·exact key 1 192 h3 rfl (by omega) (by omega) (by omega)
 ·exact key 2 96 h3 rfl (by omega) (by omega) (by omega)
 ·exact key 4 48 h3 rfl (by omega) (by omega) (by omega)
 ·exact key 8 24 h3 rfl (by omega) (by omega) (by omega)
 ·exact key 16 12 h3 rfl (by omega) (by omega) (by omega)
theorem fill_loop (bs:List TBar) (hb:∀ x∈bs,bad x=false) (hl:bs.length≤600):∀ (t:List TTone) (i bar:Nat) (left:Int),(∀ x∈t,TOk x)→bar≤bs.length→0≤left→left≤3072 →
  (∃ k,k≠0∧rangeM (m_piece_checkTones_l1 bs) i t ((bar:Int),left)=some (.ret k)∧rangeM (m_gleeref2_fillFault_l1 bs) i t ((bar:Int) - 1,left)=some (.ret k)) ∨
  (∃ (bar':Nat) (left':Int),rangeM (m_piece_checkTones_l1 bs) i t ((bar:Int),left)=some (.brk ((bar':Int),left'))∧rangeM (m_gleeref2_fillFault_l1 bs) i t ((bar:Int) - 1,left)=some (.brk ((bar':Int) - 1,left')) ∧
   bar'≤bs.length∧0≤left'∧left'≤3072∧(∀ x∈t,TGood x)∧(left'=0→bar'=bs.length→∃ g0 gs,t=g0++List.flatten gs∧sumU g0=left∧gs.map sumU=(bs.drop bar).map lB))
 | [],i,bar,left,_,h1,h2,h3=>.inr ⟨bar,left,rfl,rfl,h1,h2,h3,by simp,fun h h'=>⟨[],[],rfl,by simp [sumU,h],by rw [h']; simp⟩⟩
 | x::t,i,bar,left,ht,h1,h2,h3=>by
  obtain ⟨k,hk1,hk2,hk3⟩:=toneFault_spec x (ht x (List.mem_cons_self ..))
  have ht':∀ y∈t,TOk y:=fun y hy=>ht y (List.mem_cons_of_mem _ hy)
  rw [rangeM_cons,rangeM_cons]
  by_cases hk:k=0
  ·subst hk
   have hg:=hk3 rfl
   obtain ⟨hu1,hu2,hu3,hu4⟩:=units_spec hg
   -- one round,from what is left
   have step:∀ (L:Int) (nb:Nat),0≤L→L≤3072→nb≤bs.length →
     m_piece_checkTones_l1 bs i x ((bar:Int),left)=(if uT x>L then some (.ret 16) else some (.nxt ((nb:Int),L - uT x))) →
     m_gleeref2_fillFault_l1 bs i x ((bar:Int) - 1,left)=(if uT x>L then some (.ret 16) else some (.nxt ((nb:Int) - 1,L - uT x))) →
     (∀ g0 gs,t=g0++List.flatten gs→sumU g0=L - uT x→gs.map sumU=(bs.drop nb).map lB→∃ g0 gs,x::t=g0++List.flatten gs∧sumU g0=left∧gs.map sumU=(bs.drop bar).map lB) →
     (∃ k,k≠0∧((m_piece_checkTones_l1 bs i x ((bar:Int),left)).bind fun f=>f.run (fun s'=>rangeM (m_piece_checkTones_l1 bs) (i+1) t s') (fun s'=>some (.brk s')) (fun v=>some (.ret v)))=some (.ret k) ∧
      ((m_gleeref2_fillFault_l1 bs i x ((bar:Int) - 1,left)).bind fun f=>f.run (fun s'=>rangeM (m_gleeref2_fillFault_l1 bs) (i+1) t s') (fun s'=>some (.brk s')) (fun v=>some (.ret v)))=some (.ret k)) ∨
     (∃ (bar':Nat) (left':Int),((m_piece_checkTones_l1 bs i x ((bar:Int),left)).bind fun f=>f.run (fun s'=>rangeM (m_piece_checkTones_l1 bs) (i+1) t s') (fun s'=>some (.brk s')) (fun v=>some (.ret v)))=some (.brk ((bar':Int),left')) ∧
      ((m_gleeref2_fillFault_l1 bs i x ((bar:Int) - 1,left)).bind fun f=>f.run (fun s'=>rangeM (m_gleeref2_fillFault_l1 bs) (i+1) t s') (fun s'=>some (.brk s')) (fun v=>some (.ret v)))=some (.brk ((bar':Int) - 1,left')) ∧
      bar'≤bs.length∧0≤left'∧left'≤3072∧(∀ y∈x::t,TGood y)∧(left'=0→bar'=bs.length→∃ g0 gs,x::t=g0++List.flatten gs∧sumU g0=left∧gs.map sumU=(bs.drop bar).map lB)):=by
    intro L nb hL0 hL1 hnb e1 e2 hseg
    rw [e1,e2]
    by_cases hlt:uT x>L
    ·rw [if_pos hlt,if_pos hlt]
     exact .inl ⟨16,by decide,rfl,rfl⟩
    ·rw [if_neg hlt,if_neg hlt]
     rcases fill_loop bs hb hl t (i+1) nb (L - uT x) ht' hnb (by omega) (by omega) with ⟨k,k1,k2,k3⟩ | ⟨b',l',k1,k2,k3,k4,k5,k6,k7⟩
     ·exact .inl ⟨k,k1,k2,k3⟩
     ·refine .inr ⟨b',l',k1,k2,k3,k4,k5,fun y hy=>?_,fun h h'=>?_⟩
      ·rcases List.mem_cons.1 hy with rfl | hy
       ·exact hg
       ·exact k6 y hy
      ·obtain ⟨g0,gs,e3,e4,e5⟩:=k7 h h'
       exact hseg g0 gs e3 e4 e5
   by_cases hz:left=0
   ·subst hz
    by_cases hlen:bar=bs.length
    ·left
     refine ⟨16,by decide,?_,?_⟩
     ·unfold m_piece_checkTones_l1
      have:((bar:Int)==(bs.length:Int))=true:=by simp [hlen]
      simp only [hk1,Option.bind_some,bne_self_eq_false,ifB_false,beq_self_eq_true,ifB_true,this,fin_inr]; rfl
     ·unfold m_gleeref2_fillFault_l1
      have:(w64 ((bar:Int) - 1+1)==(bs.length:Int))=true:=by rw [w64_id (by omega)]; simp; omega
      simp only [hk2,Option.bind_some,bne_self_eq_false,ifB_false,beq_self_eq_true,ifB_true,this,fin_inr]; rfl
    ·have hlt:bar<bs.length:=by omega
     have hx:bs[bar]? = some bs[bar]:=List.getElem?_eq_getElem hlt
     obtain ⟨l1,l2,l3,l4⟩:=long_spec (hb _ (List.getElem_mem hlt))
     refine step (lB bs[bar]) (bar+1) (by omega) l4 (by omega) ?_ ?_ ?_
     ·unfold m_piece_checkTones_l1
      have e:((bar:Int)==(bs.length:Int))=false:=by simp; omega
      simp only [hk1,Option.bind_some,bne_self_eq_false,ifB_false,beq_self_eq_true,ifB_true,e,getI_of (n:=bar) rfl hx,l1,fin_inl,hu1]
      rw [w64_id (by omega),ifB_ite]
      split
      ·rfl
      ·rw [w64_id (by omega)]; rfl
     ·unfold m_gleeref2_fillFault_l1
      have e0:w64 ((bar:Int) - 1+1)=(bar:Int):=by rw [w64_id (by omega)]; omega
      have e:((bar:Int)==(bs.length:Int))=false:=by simp; omega
      simp only [hk2,Option.bind_some,bne_self_eq_false,ifB_false,beq_self_eq_true,ifB_true,e0,e,getI_of (n:=bar) rfl hx,l2,fin_inl,hu2]
      rw [w64_id (by omega),ifB_ite]
      by_cases hq:uT x>lB bs[bar]
      ·rw [if_pos hq,if_pos (by omega)]
      ·rw [if_neg hq,if_neg (by omega)]
       have:((bar+1:Nat):Int) - 1=bar:=by omega
       rw [this]
     ·intro g0 gs e1 e2 e3
      refine ⟨[],(x::g0)::gs,by simp [e1],rfl,?_⟩
      rw [List.drop_eq_getElem_cons hlt,List.map_cons,List.map_cons,e3]
      congr 1
      show uT x+sumU g0=_
      omega
   ·have hzb:(left==0)=false:=by simpa using hz
    refine step left bar h2 h3 h1 ?_ ?_ ?_
    ·unfold m_piece_checkTones_l1
     simp only [hk1,Option.bind_some,bne_self_eq_false,ifB_false,hzb,fin_inl,hu1]
     rw [ifB_ite]
     split
     ·rfl
     ·rw [w64_id (by omega)]
    ·unfold m_gleeref2_fillFault_l1
     simp only [hk2,Option.bind_some,bne_self_eq_false,ifB_false,hzb,fin_inl,hu2]
     rw [w64_id (by omega),ifB_ite]
     by_cases hq:uT x>left
     ·rw [if_pos hq,if_pos (by omega)]
     ·rw [if_neg hq,if_neg (by omega)]
    ·intro g0 gs e1 e2 e3
     refine ⟨x::g0,gs,by simp [e1],?_,e3⟩
     show uT x+sumU g0=_
     omega
  ·left
   have hb':(k != 0)=true:=by simpa using hk
   refine ⟨k,hk,?_,?_⟩
   ·unfold m_piece_checkTones_l1
    simp [hk1,hb']
   ·unfold m_gleeref2_fillFault_l1
    simp [hk2,hb']
def carryB (x y:TTone):Bool:=(x.Note==y.Note)&&(y.Text.toList==ByteArray.empty.toList)
theorem carries_spec (x y:TTone):m_piece_carries x y=some (carryB x y)∧m_gleeref2_tiesTo x y=some (carryB x y):=by
 unfold m_piece_carries m_gleeref2_tiesTo carryB
 constructor
 ·rw [show (y.Note==x.Note)=(x.Note==y.Note) from Bool.beq_comm]
  cases (x.Note==y.Note) <;> rfl
 ·cases (x.Note==y.Note) <;> rfl
def badT (t:List TTone) (last:Bool) (i:Nat) (x:TTone):Bool:=x.Tied&&(match t[i+1]? with
 | none=>!last
 | some y=>!carryB x y)
theorem tie_step (t:List TTone) (last:Bool) (hl:t.length≤2000) (i:Nat) (x:TTone) (hx:t[i]? = some x) :
  m_piece_checkTones_l2 t last i x ()=some (bif badT t last i x then .ret 16 else .nxt ())∧m_gleeref2_fillFault_l2 t last i x ()=some (bif badT t last i x then .ret 16 else .nxt ()):=by
 have hi:i<t.length:=(List.getElem?_eq_some_iff.1 hx).1
 unfold m_piece_checkTones_l2 m_gleeref2_fillFault_l2 badT
 cases x.Tied with
 | false=>exact ⟨rfl,rfl⟩
 | true =>
  rw [w64_id (n:=(t.length:Int) - 1) (by omega),w64_id (n:=(i:Int)+1) (by omega)]
  by_cases he:i+1=t.length
  ·have e1:((i:Int)==(t.length:Int) - 1)=true:=by simp; omega
   have e2:decide ((i:Int)<(t.length:Int) - 1)=false:=decide_eq_false (by omega)
   have e3:t[i+1]? = none:=List.getElem?_eq_none (by omega)
   simp only [e1,e2,e3,ifB_true,ifB_false,Bool.not_true]
   cases last <;> simp
  ·have e1:((i:Int)==(t.length:Int) - 1)=false:=by simp; omega
   have e2:decide ((i:Int)<(t.length:Int) - 1)=true:=decide_eq_true (by omega)
   have e3:t[i+1]? = some t[i+1]:=List.getElem?_eq_getElem (by omega)
   have e4:min ((i:Int)+1) ((t.length:Int) - 1)=((i+1:Nat):Int):=by omega
   obtain ⟨c1,c2⟩:=carries_spec x t[i+1]
   have e5:getI t ((i+1:Nat):Int)=some t[i+1]:=getI_of (n:=i+1) rfl e3
   have e6:getI t ((i:Int)+1)=some t[i+1]:=getI_of (n:=i+1) (by omega) e3
   simp only [e1,e2,e3,e4,e5,e6,ifB_true,ifB_false,Bool.not_false,Option.bind_some,c1,c2]
   cases carryB x t[i+1] <;> exact ⟨rfl,rfl⟩
theorem tie_loop (t:List TTone) (last:Bool) (hl:t.length≤2000):∀ (ys:List TTone) (i:Nat),t.drop i=ys →
  (rangeM (m_piece_checkTones_l2 t last) i ys ()=some (.ret 16)∧rangeM (m_gleeref2_fillFault_l2 t last) i ys ()=some (.ret 16)) ∨
  (rangeM (m_piece_checkTones_l2 t last) i ys ()=some (.brk ())∧rangeM (m_gleeref2_fillFault_l2 t last) i ys ()=some (.brk ())∧∀ j x,i≤j→t[j]? = some x→badT t last j x=false)
 | [],i,hd=>.inr ⟨rfl,rfl,fun j x hj hx=>by
   have:=(List.getElem?_eq_some_iff.1 hx).1
   have:=congrArg List.length hd
   simp at this
   omega⟩
 | x::ys,i,hd=>by
  obtain ⟨hx,hd'⟩:=drop_cons hd
  obtain ⟨s1,s2⟩:=tie_step t last hl i x hx
  rw [rangeM_cons,rangeM_cons,s1,s2]
  cases hb:badT t last i x with
  | true=>exact .inl ⟨rfl,rfl⟩
  | false =>
   rcases tie_loop t last hl ys (i+1) hd' with ⟨h1,h2⟩ | ⟨h1,h2,h3⟩
   ·exact .inl ⟨h1,h2⟩
   ·refine .inr ⟨h1,h2,fun j y hj hy=>?_⟩
    by_cases e:i=j
    ·subst e
     rw [hx] at hy
     cases hy
     exact hb
    ·exact h3 j y (by omega) hy
structure Fills (bs:List TBar) (t:List TTone) (last:Bool):Prop where
 len:t.length≤2000
 good:∀ x∈t,TGood x
 seg:∃ gs,t=List.flatten gs∧gs.map sumU=bs.map lB
 tie:∀ j x,t[j]? = some x→badT t last j x=false
theorem fill_spec (bs:List TBar) (hb:∀ x∈bs,bad x=false) (hl:bs.length≤600) (t:List TTone) (last:Bool) (ht:∀ x∈t,TOk x) (hlt:t.length≤1000000) :
  ∃ k,m_piece_checkTones bs t last=some k∧m_gleeref2_fillFault bs t last=some k∧(k=0→Fills bs t last):=by
 unfold m_piece_checkTones m_gleeref2_fillFault
 by_cases h2:(t.length:Int)>2000
 ·exact ⟨2,by simp [h2],by simp [h2],fun h=>by cases h⟩
 ·simp only [decide_eq_false h2,ifB_false]
  rcases fill_loop bs hb hl t 0 0 0 ht (Nat.zero_le _) (by omega) (by omega) with ⟨k,k1,k2,k3⟩ | ⟨b',l',k2,k3,k4,k5,k5',k6,k7⟩
  ·exact ⟨k,by rw [show ((0:Int),(0:Int))=(((0:Nat):Int),(0:Int)) from rfl,k2]; rfl,by rw [show ((-1:Int),(0:Int))=(((0:Nat):Int) - 1,(0:Int)) from rfl,k3]; rfl,fun h=>(k1 h).elim⟩
  ·rw [show ((0:Int),(0:Int))=(((0:Nat):Int),(0:Int)) from rfl,show ((-1:Int),(0:Int))=(((0:Nat):Int) - 1,(0:Int)) from rfl,k2,k3]
   simp only [Option.bind_some,fin_brk]
   have e1:(ifB (decide (l'>0)) (some (Sum.inl true)) (some (Sum.inl (decide ((b':Int)<(bs.length:Int))))):Option (Bool ⊕ Int))=some (.inl (!(l'==0&&b'==bs.length))):=by
    by_cases h:l'>0
    ·have:(l'==0)=false:=by simp; omega
     simp [h,this]
    ·have h0:l'=0:=by omega
     by_cases hb':b'=bs.length
     ·simp [h0,hb']
     ·have:(b':Int)<(bs.length:Int):=by omega
      simp [h0,hb',this]
   have e2:(ifB (l' != 0) (some (Sum.inl true)) (some (Sum.inl ((b':Int) - 1 != w64 ((bs.length:Int) - 1)))):Option (Bool ⊕ Int))=some (.inl (!(l'==0&&b'==bs.length))):=by
    rw [w64_id (by omega)]
    by_cases h:l'=0
    ·subst h
     by_cases hb':b'=bs.length
     ·simp [hb']
     ·have:((b':Int) - 1 != (bs.length:Int) - 1)=true:=by rw [bne_iff_ne]; omega
      simp [hb',this]
    ·have h5:(l' != 0)=true:=by simpa using h
     have h6:(l'==0)=false:=by simpa using h
     rw [h5,h6]; rfl
   rw [e1,e2]
   simp only [Option.bind_some,fin_inl]
   by_cases hf:l'=0∧b'=bs.length
   ·obtain ⟨h0,hb'⟩:=hf
    obtain ⟨g0,gs,e3,e4,e5⟩:=k7 h0 hb'
    simp only [h0,hb',beq_self_eq_true,Bool.and_self,Bool.not_true,ifB_false]
    rcases tie_loop t last (by omega) t 0 rfl with ⟨q1,q2⟩ | ⟨q1,q2,q3⟩
    ·exact ⟨16,by rw [q1]; rfl,by rw [q2]; rfl,fun h=>by cases h⟩
    ·refine ⟨0,by rw [q1]; rfl,by rw [q2]; rfl,fun _=>⟨by omega,k6,?_,fun j x hx=>q3 j x (Nat.zero_le _) hx⟩⟩
     have hg0:g0=[]:=by
      cases g0 with
      | nil=>rfl
      | cons y ys =>
       have hgd:=k6 y (by rw [e3]; simp)
       have hu:=(units_spec hgd).2.2.1
       have hs:0≤sumU ys:=by
        have:∀ z∈ys,TGood z:=fun z hz=>k6 z (by rw [e3]; simp [hz])
        clear e3 e4
        induction ys with
        | nil=>simp [sumU]
        | cons z zs ih =>
         have h1:=(units_spec (this z (List.mem_cons_self ..))).2.2.1
         have h2:=ih (fun q hq=>this q (List.mem_cons_of_mem _ hq))
         show 0≤uT z+sumU zs
         omega
       have:uT y+sumU ys=0:=e4
       omega
     subst hg0
     exact ⟨gs,by simpa using e3,by simpa using e5⟩
   ·have:(l'==0&&b'==bs.length)=false:=by
     rw [Bool.and_eq_false_iff]
     by_cases h0:l'=0
     ·right; simp; exact fun h=>hf ⟨h0,h⟩
     ·left; simpa using h0
    rw [this]
    exact ⟨3,rfl,rfl,fun h=>by cases h⟩
theorem CheckTones_spec (bs:List TBar) (hl:bs.length≤600) (t:List TTone) (ht:∀ x∈t,TOk x) (hlt:t.length≤1000000) :
  ∃ k,m_piece_CheckTones bs t=some k∧m_gleeref2_TonesFault bs t=some k∧(k=0→cB bs=0∧Fills bs t false):=by
 unfold m_piece_CheckTones m_gleeref2_TonesFault
 rw [CheckBars_spec bs hl,BarsFault_spec bs hl]
 simp only [Option.bind_some]
 by_cases h:cB bs=0
 ·obtain ⟨-,r,hg,-⟩:=cB_zero h
  obtain ⟨k,k1,k2,k3⟩:=fill_spec bs (goB_all bs _ r hg) hl t false ht hlt
  simp only [h,bne_self_eq_false,ifB_false,k1,k2,Option.bind_some]
  exact ⟨k,rfl,rfl,fun hk=>⟨trivial,k3 hk⟩⟩
 ·have:(cB bs != 0)=true:=by simpa using h
  simp only [this,ifB_true]
  exact ⟨_,rfl,rfl,fun hk=>(h hk).elim⟩
end Go.G
