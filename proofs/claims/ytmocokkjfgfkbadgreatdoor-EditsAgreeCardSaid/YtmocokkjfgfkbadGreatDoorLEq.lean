/- LEq: what is written of right edits is right. In plain Lean, no program in sight. -/
import Derived.Test.YtmocokkjfgfkbadGreatDoorLEo
import Derived.Test.YtmocokkjfgfkbadGreatDoorLU6c
namespace Go.G
open Go Go.J
set_option linter.unusedSimpArgs false
set_option linter.unusedVariables false
structure TZ (x:TTone):Prop where
 good:TGood x
 zero:m_piece_toneFault x=some 0
structure FillsZ (bs:List TBar) (t:List TTone):Prop where
 len:t.length≤2000
 rt:∀ x∈t,TZ x
 seg:∃ gs,t=List.flatten gs∧gs.map sumU=bs.map lB
 tie:∀ (j:Nat) x,t[j]? = some x→x.Tied=true→∃ y,t[j+1]? = some y∧carryB x y=true
theorem sumU_nonnegZ {t:List TTone} (h:∀ x∈t,TZ x):0≤sumU t:=by
 induction t with
 | nil=>simp [sumU]
 | cons x t ih =>
  have h1:=(units_specR (h x (List.mem_cons_self ..)).good).2.1
  have h2:=ih fun y hy=>h y (List.mem_cons_of_mem _ hy)
  show 0≤uT x+sumU t
  omega
theorem fill_loopZ (bs:List TBar) (hb:∀ x∈bs,bad x=false) (hl:bs.length≤600):∀ (t:List TTone) (i bar:Nat) (left:Int) (g0:List TTone) (gs:List (List TTone)),(∀ x∈t,TZ x)→t=g0++List.flatten gs→sumU g0=left →
  gs.map sumU=(bs.drop bar).map lB→bar≤bs.length→left≤3072→rangeM (m_piece_checkTones_l1 bs) i t ((bar:Int),left)=some (.brk ((bs.length:Int),0))
 | [],i,bar,left,g0,gs,_,h1,h2,h3,h4,_=>by
  have h5:=List.append_eq_nil_iff.1 h1.symm
  rw [h5.1] at h2
  have hbar:bar=bs.length:=by
   by_cases hlt:bar<bs.length
   ·rw [List.drop_eq_getElem_cons hlt,List.map_cons] at h3
    cases gs with
    | nil=>cases h3
    | cons g gs =>
     rw [List.map_cons] at h3
     have h6:=(List.cons.inj h3).1
     have h7:=(long_specR (hb _ (List.getElem_mem hlt))).2.1
     have h8:g=[]:=(List.append_eq_nil_iff.1 (show g++List.flatten gs=[] from h5.2)).1
     rw [h8] at h6
     have:sumU []=0:=rfl
     omega
   ·omega
  have:left=0:=h2.symm
  rw [hbar,this]; rfl
 | x::t,i,bar,left,g0,gs,ht,h1,h2,h3,h4,h5=>by
  have hx:=ht x (List.mem_cons_self ..)
  have ht':∀ y∈t,TZ y:=fun y hy=>ht y (List.mem_cons_of_mem _ hy)
  obtain ⟨u1,u2,u3⟩:=units_specR hx.good
  cases g0 with
  | cons y g0 =>
   rw [List.cons_append] at h1
   obtain ⟨rfl,h1'⟩:=List.cons.inj h1
   have h6:uT x+sumU g0=left:=h2
   have h7:0≤sumU g0:=sumU_nonnegZ fun y hy=>ht' y (by rw [h1']; exact List.mem_append_left _ hy)
   have hz:(left==0)=false:=by simp; omega
   have step:m_piece_checkTones_l1 bs i x ((bar:Int),left)=some (.nxt ((bar:Int),left - uT x)):=by
    unfold m_piece_checkTones_l1
    simp only [hx.zero,Option.bind_some,bne_self_eq_false,ifB_false,hz,fin_inl,u1]
    rw [decide_eq_false (by omega),ifB_false,w64_id (by omega)]
   rw [rangeM_cons,step,Option.bind_some,run_nxt]
   exact fill_loopZ bs hb hl t (i+1) bar (left - uT x) g0 gs ht' h1' (by omega) h3 h4 (by omega)
  | nil =>
   have h6:left=0:=h2.symm
   subst h6
   cases gs with
   | nil=>simp at h1
   | cons g gs =>
    have hlt:bar<bs.length:=by
     by_cases hlt:bar<bs.length
     ·exact hlt
     ·rw [List.drop_eq_nil_of_le (by omega)] at h3; cases h3
    rw [List.drop_eq_getElem_cons hlt,List.map_cons,List.map_cons] at h3
    obtain ⟨h7,h8⟩:=List.cons.inj h3
    obtain ⟨l1,l2,l3,-⟩:=long_specR (hb _ (List.getElem_mem hlt))
    cases g with
    | nil=>have:sumU []=0:=rfl; omega
    | cons y g =>
     have h1:x::t=y::(g++List.flatten gs):=by simpa using h1
     obtain ⟨rfl,h1'⟩:=List.cons.inj h1
     have h9:uT x+sumU g=lB bs[bar]:=h7
     have h10:0≤sumU g:=sumU_nonnegZ fun y hy=>ht' y (by rw [h1']; exact List.mem_append_left _ hy)
     have step:m_piece_checkTones_l1 bs i x ((bar:Int),0)=some (.nxt (((bar+1:Nat):Int),lB bs[bar] - uT x)):=by
      unfold m_piece_checkTones_l1
      have e:((bar:Int)==(bs.length:Int))=false:=by simp; omega
      simp only [hx.zero,Option.bind_some,bne_self_eq_false,ifB_false,beq_self_eq_true,ifB_true,e,getI_of (n:=bar) rfl (List.getElem?_eq_getElem hlt),l1,fin_inl,u1]
      rw [w64_id (by omega),decide_eq_false (by omega),ifB_false,w64_id (by omega)]; rfl
     rw [rangeM_cons,step,Option.bind_some,run_nxt]
     exact fill_loopZ bs hb hl t (i+1) (bar+1) _ g gs ht' h1' (by omega) h8 (by omega) (by omega)
theorem tie_stepZ (t:List TTone) (hl:t.length≤2000) (i:Nat) (x:TTone) (hx:t[i]? = some x) (h:x.Tied=true→∃ y,t[i+1]? = some y∧carryB x y=true):m_piece_checkTones_l2 t false i x ()=some (.nxt ()):=by
 have hi:i<t.length:=(List.getElem?_eq_some_iff.1 hx).1
 unfold m_piece_checkTones_l2
 cases ht:x.Tied with
 | false=>rfl
 | true =>
  obtain ⟨y,hy,hc⟩:=h ht
  have hi2:i+1<t.length:=(List.getElem?_eq_some_iff.1 hy).1
  rw [w64_id (n:=(t.length:Int) - 1) (by omega),w64_id (n:=(i:Int)+1) (by omega)]
  have e1:((i:Int)==(t.length:Int) - 1)=false:=by simp; omega
  have e2:decide ((i:Int)<(t.length:Int) - 1)=true:=decide_eq_true (by omega)
  have e6:getI t ((i:Int)+1)=some y:=getI_of (n:=i+1) (by omega) hy
  simp only [e1,e2,e6,ifB_true,ifB_false,Option.bind_some,carries_specR,hc,Bool.not_true]
theorem CheckTones_zeroZ {bs:List TBar} {t:List TTone} (hc:cB bs=0) (h:FillsZ bs t):m_piece_CheckTones bs t=some 0:=by
 obtain ⟨hl,r,hg,-⟩:=cB_zero hc
 have hb:=goB_all bs _ r hg
 unfold m_piece_CheckTones
 rw [CheckBars_spec bs (by omega),hc,Option.bind_some,bne_self_eq_false,ifB_false]
 unfold m_piece_checkTones
 have hlen:=h.len
 obtain ⟨gs,e1,e2⟩:=h.seg
 have h1:=fill_loopZ bs hb (by omega) t 0 0 0 [] gs h.rt (by simpa using e1) rfl (by simpa using e2) (Nat.zero_le _) (by omega)
 rw [decide_eq_false (by omega),ifB_false,show ((0:Int),(0:Int))=(((0:Nat):Int),(0:Int)) from rfl,h1,Option.bind_some,fin_brk]
 simp only
 rw [decide_eq_false (show ¬ (0:Int)>0 by omega),decide_eq_false (Int.lt_irrefl _)]
 obtain ⟨s,h2,-⟩:=rangeM_invx (m_piece_checkTones_l2 t false) t (fun _ _=>True) (fun i x s hx _=>⟨(),tie_stepZ t hlen i x hx (h.tie i x hx),trivial⟩) () trivial
 simp only [ifB_false,Option.bind_some,fin_inl,h2,fin_brk]
theorem low_facts2 (k:Nat) (h1:1≤k) (h2:k≤3072):∃ a b:Nat,lowF k 192=⟨(a:Int),(b:Int)⟩∧1≤a∧1≤b∧a≤16*b∧b≤192∧Nat.gcd a b=1∧(192:Int).tmod (b:Int)=0∧(a:Int)*(192:Int).tdiv (b:Int)=k:=by
  obtain ⟨a,ha⟩:=Nat.gcd_dvd_left k 192
  obtain ⟨b,hb⟩:=Nat.gcd_dvd_right k 192
  have hg0:0<Nat.gcd k 192:=Nat.gcd_pos_of_pos_right _ (by omega)
  have hgg:Nat.gcd k 192=Nat.gcd k 192*Nat.gcd a b:=by
    have h:=Nat.gcd_mul_left (Nat.gcd k 192) a b
    rw [← ha,← hb] at h
    exact h
  have f1:k / Nat.gcd k 192=a:=(congrArg (fun z => z / Nat.gcd k 192) ha).trans (Nat.mul_div_cancel_left a hg0)
  have f2:192 / Nat.gcd k 192=b:=(congrArg (fun z => z / Nat.gcd k 192) hb).trans (Nat.mul_div_cancel_left b hg0)
  have e1:(lowF k 192)=⟨(a:Int),(b:Int)⟩:=by
    unfold lowF
    congr 1
    · rw [← f1]; rfl
    · rw [← f2]; rfl
  generalize Nat.gcd k 192=g at *
  have ha0:0<a:=Nat.pos_of_ne_zero fun h=>by rw [h] at ha; simp at ha; omega
  have hb0:0<b:=Nat.pos_of_ne_zero fun h=>by rw [h] at hb; simp at hb
  have hab:a≤16*b:=Nat.le_of_mul_le_mul_left (by rw [Nat.mul_left_comm,← ha,← hb]; omega) hg0
  have hb192:b≤192:=Nat.le_of_dvd (by omega) ⟨g,by rw [Nat.mul_comm]; exact hb⟩
  have hu:(192:Int).tdiv (b:Int)=(g:Int):=by
    have:192 / b=g:=Nat.div_eq_of_eq_mul_left hb0 hb
    rw [← this]; rfl
  have hm:(192:Int).tmod (b:Int)=0:=by
    have:192 % b=0:=Nat.mod_eq_zero_of_dvd ⟨g,by rw [Nat.mul_comm]; exact hb⟩
    show ((192 % b:Nat):Int)=0
    rw [this]; rfl
  refine ⟨a,b,e1,ha0,hb0,hab,hb192,Nat.eq_of_mul_eq_mul_left hg0 (by rw [Nat.mul_one]; exact hgg.symm),hm,?_⟩
  rw [hu,← Int.natCast_mul,Nat.mul_comm,← ha]
theorem rest_zero (k:Nat) (h1:1≤k) (h2:k≤3072):TZ (TTone.mk (-1) (lowF k 192) ByteArray.empty false):=by
 obtain ⟨a,b,e,f1,f2,f3,f4,f5,f6,f7⟩:=low_facts2 k h1 h2
 have hL:m_piece_isLowest (lowF k 192)=some true:=by
  rw [e]
  unfold m_piece_isLowest
  simp only
  rw [lowLoopR,Option.bind_some,fin_brk,f5,decide_eq_true (show (b:Int)>0 by omega),ifB_true]
  rfl
 have hT:m_piece_isText ByteArray.empty=some true:=txt_true (by simp [txs])
 refine ⟨⟨.inl rfl,by rw [e]; simp only; omega,by rw [e]; simp only; omega,by rw [e]; exact f6,by rw [e]; simp only; omega,(by show ByteArray.empty.size≤20; decide),fun j c hj=>absurd hj (by simp)⟩,?_⟩
 unfold m_piece_toneFault
 simp only [hL,hT,Option.bind_some]
 rw [show ((-1:Int) != -1)=false from rfl]
 simp only [ifB_false,Option.bind_some,fin_inl]
 rw [e]
 simp only
 rw [decide_eq_false (show ¬ (a:Int)<1 by omega)]
 simp only [ifB_false,Bool.not_true,Option.bind_some,fin_inl]
 rw [remM_of (by omega),f6]
 simp only [Option.bind_some,bne_self_eq_false,ifB_false,fin_inl]
 rw [w64_id (n:=16*(b:Int)) (by omega),decide_eq_false (show ¬ (a:Int)>16*(b:Int) by omega)]
 simp only [ifB_false,Bool.not_true]
 rw [show ((-1:Int) == -1)=true from rfl,show (ByteArray.empty.toList==ByteArray.empty.toList)=true by simp]
 rfl
theorem step0 {bs:List TBar} {i:Nat} {x:TTone} {s:Int × Int} {f:Flow (Int × Int) Int} (h:m_piece_checkTones_l1 bs i x s=some f):(∃ k,f = .ret k∧k≠0)∨((∃ s',f = .nxt s')∧m_piece_toneFault x=some 0):=by
 unfold m_piece_checkTones_l1 at h
 cases h1:m_piece_toneFault x with
 | none=>rw [h1] at h; cases h
 | some k =>
  rw [h1,Option.bind_some] at h
  by_cases hk:k=0
  ·rw [show (k != 0)=false by simpa using hk,ifB_false] at h
   have key:∀ (o:Option ((Int × Int) ⊕ (Flow (Int × Int) Int))),(∀ g,o=some (.inr g)→∃ v,g = .ret v∧v≠0)→(o.bind fun k12=>Sum.fin k12 fun u10=>(m_piece_units x.Long).bind fun y15=>ifB (decide (y15>u10.2)) (some (.ret 16)) ((m_piece_units x.Long).bind fun y16=>some (.nxt (u10.1,w64 (u10.2 - y16)))))=some f→(∃ k,f = .ret k∧k≠0)∨∃ s',f = .nxt s':=by
    intro o ho hof
    cases o with
    | none=>cases hof
    | some o =>
     cases o with
     | inr g =>
      obtain ⟨v,rfl,hv⟩:=ho g rfl
      have:some (Flow.ret v)=some f:=hof
      exact .inl ⟨v,(Option.some.inj this).symm,hv⟩
     | inl u =>
      rw [Option.bind_some,fin_inl] at hof
      cases hu:m_piece_units x.Long with
      | none=>rw [hu] at hof; cases hof
      | some n =>
       rw [hu,Option.bind_some,Option.bind_some] at hof
       cases hd:decide (n>u.2) with
       | true=>rw [hd] at hof; cases hof; exact .inl ⟨16,rfl,by omega⟩
       | false=>rw [hd] at hof; cases hof; exact .inr ⟨_,rfl⟩
   rcases key _ (by
    intro g hg
    cases h3:(s.2==0) with
    | false=>rw [h3] at hg; cases hg
    | true =>
     rw [h3,ifB_true] at hg
     cases h4:(s.1==(bs.length:Int)) with
     | true=>rw [h4] at hg; cases hg; exact ⟨16,rfl,by omega⟩
     | false =>
      rw [h4,ifB_false] at hg
      cases h5:getI bs s.1 with
      | none=>rw [h5] at hg; cases hg
      | some y =>
       rw [h5,Option.bind_some] at hg
       cases h6:m_piece_long y with
       | none=>rw [h6] at hg; cases hg
       | some v=>rw [h6] at hg; cases hg) h with h7 | h7
   ·exact .inl h7
   ·exact .inr ⟨h7,by rw [hk]⟩
  ·rw [show (k != 0)=true by simpa using hk,ifB_true] at h
   exact .inl ⟨k,(Option.some.inj h).symm,hk⟩
theorem loop0 (bs:List TBar):∀ (t:List TTone) (i:Nat) (s:Int × Int) (f:Flow (Int × Int) Int),rangeM (m_piece_checkTones_l1 bs) i t s=some f→(∃ k,f = .ret k∧k≠0)∨∀ x∈t,m_piece_toneFault x=some 0
 | [],i,s,f,_=>.inr fun x hx=>by cases hx
 | x::t,i,s,f,h=>by
  rw [rangeM_cons] at h
  cases h1:m_piece_checkTones_l1 bs i x s with
  | none=>rw [h1] at h; cases h
  | some g =>
   rw [h1,Option.bind_some] at h
   rcases step0 h1 with ⟨k,rfl,hk⟩ | ⟨⟨s',rfl⟩,h2⟩
   ·have:some (Flow.ret k)=some f:=h
    exact .inl ⟨k,(Option.some.inj this).symm,hk⟩
   ·rw [run_nxt] at h
    rcases loop0 bs t (i+1) s' f h with h3 | h3
    ·exact .inl h3
    ·exact .inr fun y hy=>by
      rcases List.mem_cons.1 hy with rfl | hy
      ·exact h2
      ·exact h3 y hy
theorem tones0 {bs:List TBar} {t:List TTone} {last:Bool} (h:m_piece_checkTones bs t last=some 0):∀ x∈t,m_piece_toneFault x=some 0:=by
 unfold m_piece_checkTones at h
 by_cases h2:(t.length:Int)>2000
 ·rw [decide_eq_true h2] at h; cases h
 ·rw [decide_eq_false h2,ifB_false] at h
  cases h1:rangeM (m_piece_checkTones_l1 bs) 0 t (0,0) with
  | none=>rw [h1] at h; cases h
  | some f =>
   rcases loop0 bs t 0 (0,0) f h1 with ⟨k,rfl,hk⟩ | h3
   ·rw [h1,Option.bind_some] at h
    have:some k=some (0:Int):=h
    exact absurd (Option.some.inj this) hk
   ·exact h3
theorem chain0 {a b c:Option (Bool ⊕ Int)} {t:Option Bool} {d d':Option Int} (hd:d=some 0→d'=some 0)
  (h:(a.bind fun k4=>Sum.fin k4 fun u2=>ifB u2 (some 1) (b.bind fun k8=>Sum.fin k8 fun u6=>ifB u6 (some 3) (c.bind fun k12=>Sum.fin k12 fun u10=>ifB u10 (some 1) (t.bind fun y14=>ifB (!y14) (some 3) d))))=some (0:Int)) (ha:∀ v,a≠some (.inr v)) (hb:∀ v,b≠some (.inr v)) (hc:∀ v,c≠some (.inr v)) :
  (a.bind fun k4=>Sum.fin k4 fun u2=>ifB u2 (some 1) (b.bind fun k8=>Sum.fin k8 fun u6=>ifB u6 (some 3) (c.bind fun k12=>Sum.fin k12 fun u10=>ifB u10 (some 1) (t.bind fun y14=>ifB (!y14) (some 3) d'))))=some (0:Int):=by
 cases a with
 | none=>cases h
 | some a =>
  cases a with
  | inr v=>exact absurd rfl (ha v)
  | inl u =>
   cases u with
   | true=>cases h
   | false =>
    cases b with
    | none=>cases h
    | some b =>
     cases b with
     | inr v=>exact absurd rfl (hb v)
     | inl u =>
      cases u with
      | true=>cases h
      | false =>
       cases c with
       | none=>cases h
       | some c =>
        cases c with
        | inr v=>exact absurd rfl (hc v)
        | inl u =>
         cases u with
         | true=>cases h
         | false =>
          cases t with
          | none=>cases h
          | some t =>
           cases t with
           | false=>cases h
           | true=>exact hd h
theorem bind_inl {α : Type} (o:Option α) (g : α → Bool) (v:Int):(o.bind fun y=>some (.inl (g y)):Option (Bool ⊕ Int))≠some (.inr v):=by cases o <;> simp
theorem zero_untied {x:TTone} (h:m_piece_toneFault x=some 0):m_piece_toneFault (TTone.mk x.Note x.Long x.Text false)=some 0:=by
 unfold m_piece_toneFault at h ⊢
 refine chain0 ?_ h ?_ ?_ ?_
 ·intro hd
  cases hn:(x.Note==(-1)) with
  | false=>rfl
  | true =>
   rw [hn,ifB_true] at hd
   cases ht:x.Tied with
   | true=>rw [ht] at hd; cases hd
   | false=>rw [ht] at hd; exact hd
 ·intro v
  cases (x.Note != (-1)) with
  | false=>rw [ifB_false]; simp
  | true=>rw [ifB_true]; exact bind_inl _ _ _
 ·intro v
  cases decide (x.Long.Num<1) with
  | true=>rw [ifB_true]; simp
  | false=>rw [ifB_false]; exact bind_inl _ _ _
 ·intro v
  cases remM 192 x.Long.Den with
  | none=>simp
  | some z=>cases hz:(z != 0) <;> simp [hz,ifB_true,ifB_false]
theorem TZ.untied {x:TTone} (h:TZ x):TZ (TTone.mk x.Note x.Long x.Text false):=⟨⟨h.good.note,h.good.num,h.good.den,h.good.div,h.good.most,h.good.text,h.good.byte⟩,zero_untied h.zero⟩
def nextB (t:List TTone) (j:Nat) (x:TTone):Bool:=match t[j+1]? with
 | none=>true
 | some y=>!carryB x y
theorem nextB_none {t:List TTone} {j:Nat} {x:TTone} (h:t[j+1]? = none):nextB t j x=true:=by unfold nextB; rw [h]
theorem nextB_some {t:List TTone} {j:Nat} {x y:TTone} (h:t[j+1]? = some y):nextB t j x = !carryB x y:=by unfold nextB; rw [h]
def looseB (t:List TTone) (j:Nat) (x:TTone):TTone:=bif nextB t j x then TTone.mk x.Note x.Long x.Text false else x
def loosF (t:List TTone):List TTone:=t.mapIdx (looseB t)
theorem loosened_exact (t:List TTone) (hl:t.length≤100000000):m_piece_loosened t=some (loosF t,loosF t):=by
 obtain ⟨u,h1,h2,h3⟩:=rangeM_invx m_piece_loosened_l1 t (fun i s=>s.length=t.length∧∀ j:Nat,s[j]? = if j<i then (t[j]?).map (looseB t j) else t[j]?) (by
  rintro i x s hx ⟨hs,hI⟩
  have hi:=(List.getElem?_eq_some_iff.1 hx).1
  have hsi:s[i]? = some x:=by rw [hI i,if_neg (by omega),hx]
  have hg:getI s (i:Int)=some x:=getI_of (n:=i) rfl hsi
  have hset:∀ y:TTone,looseB t i x=y→∀ j:Nat,(s.set i y)[j]? = if j<i+1 then (t[j]?).map (looseB t j) else t[j]?:=fun y hy j=>by
   rw [List.getElem?_set]
   by_cases hij:i=j
   ·subst hij
    rw [if_pos rfl,if_pos (by omega),if_pos (by omega),hx,Option.map_some,hy]
   ·rw [if_neg hij,hI j]
    by_cases hj:j<i
    ·rw [if_pos hj,if_pos (by omega)]
    ·rw [if_neg hj,if_neg (by omega)]
  have hkeep:looseB t i x=x→∀ j:Nat,s[j]? = if j<i+1 then (t[j]?).map (looseB t j) else t[j]?:=fun hy j=>by
   by_cases hij:i=j
   ·subst hij
    rw [if_pos (by omega),hx,Option.map_some,hy,hsi]
   ·rw [hI j]
    by_cases hj:j<i
    ·rw [if_pos hj,if_pos (by omega)]
    ·rw [if_neg hj,if_neg (by omega)]
  unfold m_piece_loosened_l1
  rw [w64_id (n:=(s.length:Int) - 1) (by omega),hg]
  simp only [Option.bind_some]
  by_cases hlast:i+1=t.length
  ·have hn:t[i+1]? = none:=List.getElem?_eq_none (by omega)
   rw [show ((i:Int)==(s.length:Int) - 1)=true by simp; omega,ifB_true,show ((i:Int)).toNat=i by omega]
   exact ⟨_,rfl,by rw [List.length_set]; exact hs,hset _ (by unfold looseB; rw [nextB_none hn]; rfl)⟩
  ·have hy:t[i+1]? = some (t[i+1]'(by omega)):=List.getElem?_eq_getElem _
   have hsy:s[i+1]? = some (t[i+1]'(by omega)):=by rw [hI (i+1),if_neg (by omega),hy]
   rw [show ((i:Int)==(s.length:Int) - 1)=false by simp; omega,ifB_false,w64_id (n:=(i:Int)+1) (by omega),getI_of (n:=i+1) (by omega) hsy,Option.bind_some,(carries_spec x _).1,Option.bind_some,show ((i:Int)).toNat=i by omega]
   cases hcr:carryB x (t[i+1]'(by omega)) with
   | false=>exact ⟨_,rfl,by rw [List.length_set]; exact hs,hset _ (by unfold looseB; rw [nextB_some hy,hcr]; rfl)⟩
   | true=>exact ⟨_,rfl,hs,hkeep (by unfold looseB; rw [nextB_some hy,hcr]; rfl)⟩) t ⟨rfl,fun j=>by rw [if_neg (by omega)]⟩
 have:u=loosF t:=by
  apply List.ext_getElem?
  intro j
  unfold loosF
  rw [h3 j,List.getElem?_mapIdx]
  by_cases hj:j<t.length
  ·rw [if_pos hj]
  ·rw [if_neg hj,List.getElem?_eq_none (by omega)]; rfl
 unfold m_piece_loosened
 rw [h1,Option.bind_some,fin_brk,this]
theorem looseB_note (t:List TTone) (j:Nat) (x:TTone):(looseB t j x).Note=x.Note∧(looseB t j x).Long=x.Long∧(looseB t j x).Text=x.Text:=by
 unfold looseB
 cases nextB t j x <;> exact ⟨rfl,rfl,rfl⟩
theorem looseB_carry (t:List TTone) (j k:Nat) (x y:TTone):carryB (looseB t j x) (looseB t k y)=carryB x y:=by
 unfold carryB
 rw [(looseB_note t j x).1,(looseB_note t k y).1,(looseB_note t k y).2.2]
theorem loosF_fills {b:List TBar} {rows:List (List TTone)} (hz:∀ r∈rows,∀ x∈r,TZ x) (hs:rows.map sumU=b.map lB) (hl:rows.flatten.length≤2000):FillsZ b (loosF rows.flatten):=by
 have hget:∀ j x,(loosF rows.flatten)[j]? = some x→∃ y,rows.flatten[j]? = some y∧x=looseB rows.flatten j y:=fun j x h=>by
  unfold loosF at h
  rw [List.getElem?_mapIdx,Option.map_eq_some_iff] at h
  obtain ⟨y,h1,h2⟩:=h
  exact ⟨y,h1,h2.symm⟩
 have hu:(loosF rows.flatten).map uT=(rows.map (fun r=>r.map uT)).flatten:=by
  rw [← List.map_flatten]
  apply List.ext_getElem?
  intro j
  unfold loosF
  rw [List.getElem?_map,List.getElem?_mapIdx,List.getElem?_map]
  cases rows.flatten[j]? with
  | none=>rfl
  | some y =>
   show some (uT (looseB rows.flatten j y))=some (uT y)
   unfold uT
   rw [(looseB_note rows.flatten j y).2.1]
 obtain ⟨gs,g1,g2⟩:=split_by _ _ hu
 refine ⟨by unfold loosF; rw [List.length_mapIdx]; exact hl,fun x hx=>?_,⟨gs,g1,?_⟩,fun j x hx ht=>?_⟩
 ·obtain ⟨j,hj,rfl⟩:=List.mem_iff_getElem.1 hx
  obtain ⟨y,h1,h2⟩:=hget j _ (List.getElem?_eq_getElem hj)
  obtain ⟨r,hr,hyr⟩:=List.mem_flatten.1 (List.mem_of_getElem? h1)
  have:=hz r hr y hyr
  rw [h2]
  unfold looseB
  cases nextB rows.flatten j y
  ·exact this
  ·exact this.untied
 ·rw [g2,List.map_map,← hs]
  rfl
 ·obtain ⟨y,h1,rfl⟩:=hget j x hx
  cases hn:rows.flatten[j+1]? with
  | none =>
   unfold looseB at ht
   rw [nextB_none hn] at ht
   cases ht
  | some z =>
   have hz':(loosF rows.flatten)[j+1]? = some (looseB rows.flatten (j+1) z):=by
    unfold loosF
    rw [List.getElem?_mapIdx,hn]; rfl
   refine ⟨_,hz',?_⟩
   rw [looseB_carry]
   unfold looseB at ht
   rw [nextB_some hn] at ht
   cases hc:carryB y z with
   | true=>rfl
   | false=>rw [hc] at ht; cases ht
theorem barE_cases (part:ByteArray) (at_:Int) (i:Nat):∀ (l:List TEdit) (t:List TTone),barE l part at_ i t=t∨∃ e∈l,e.Bar=(i:Int)∧barE l part at_ i t=e.Tones
 | [],t=>.inl rfl
 | e::l,t=>by
  have hs:barE (e::l) part at_ i t=barE l part at_ i (if (hitE part at_ e&&decide (e.Bar=(i:Int)))=true then e.Tones else t):=rfl
  rw [hs]
  by_cases h:(hitE part at_ e&&decide (e.Bar=(i:Int)))=true
  ·rw [if_pos h]
   rw [Bool.and_eq_true,decide_eq_true_eq] at h
   rcases barE_cases part at_ i l e.Tones with h1 | ⟨e',h1,h2,h3⟩
   ·exact .inr ⟨e,List.mem_cons_self ..,h.2,h1⟩
   ·exact .inr ⟨e',List.mem_cons_of_mem _ h1,h2,h3⟩
  ·rw [if_neg h]
   rcases barE_cases part at_ i l t with h1 | ⟨e',h1,h2,h3⟩
   ·exact .inl h1
   ·exact .inr ⟨e',List.mem_cons_of_mem _ h1,h2,h3⟩
theorem flat_leN (N:Nat):∀ (rows:List (List TTone)),(∀ r∈rows,r.length≤N)→rows.flatten.length≤rows.length*N
 | [],_=>by simp
 | r::rows,h=>by
  have h1:=h r (List.mem_cons_self ..)
  have h2:=flat_leN N rows (fun r' h'=>h r' (List.mem_cons_of_mem _ h'))
  rw [List.flatten_cons,List.length_append,List.length_cons,Nat.add_mul]
  omega
theorem Written_right {b:List TBar} (hc:cB b=0) (hbl:b.length≤12) {parts:List ByteArray} (hpl:parts.length≤100000) (hpf:m_gleeref2_PartsFault b parts=some 0) {e:List TEdit} (h:RE b parts e) (hE:∀ z∈e,EOk z) {part:ByteArray} (hp:part∈parts) {at_:Int} (ha:mo at_=true) :
  ∃ t,m_piece_Written b parts e part at_=some (t,0)∧FillsZ b t:=by
 have hb:=good_of hc
 have hrow:∀ i x,b[i]? = some x→(∀ y∈barE e part at_ i (restT x),TZ y)∧sumU (barE e part at_ i (restT x))=lB x∧(barE e part at_ i (restT x)).length≤140:=fun i x hx=>by
  have hbx:=hb x (List.mem_of_getElem? hx)
  obtain ⟨-,-,l1,l2⟩:=long_spec hbx
  rcases barE_cases part at_ i e (restT x) with h1 | ⟨z,h1,h2,h3⟩
  ·rw [h1]
   refine ⟨fun y hy=>?_,?_,by unfold restT; simp⟩
   ·unfold restT at hy
    rw [List.mem_singleton.1 hy]
    exact rest_zero _ (by omega) (by omega)
   ·have hu:uT (TTone.mk (-1) (lowF (lB x).toNat 192) ByteArray.empty false)=lB x:=(low_spec (n:=lB x) l1 (by omega)).2.2.1
    unfold sumU restT restF
    rw [List.map_singleton,List.sum_singleton,hu]
  ·rw [h3]
   obtain ⟨n,hn,x',hx',hf,hz⟩:=(h.er z h1).bar
   have:n=i:=by omega
   subst this
   rw [hx] at hx'; cases hx'
   refine ⟨fun y hy=>⟨hf.good y hy,tones0 hz y hy⟩,?_,(hE z h1).short⟩
   obtain ⟨gs,g1,g2⟩:=hf.seg
   rw [List.map_singleton] at g2
   cases gs with
   | nil=>cases g2
   | cons g gs =>
    rw [List.map_cons] at g2
    obtain ⟨g3,g4⟩:=List.cons.inj g2
    have:gs=[]:=List.map_eq_nil_iff.1 g4
    subst this
    rw [g1,List.flatten_cons,List.flatten_nil,List.append_nil,g3]
    rfl
 have hmem:∀ r∈rowsE b e part at_,∃ (i:Nat) (x:TBar),b[i]? = some x∧r=barE e part at_ i (restT x):=fun r hr=>by
  obtain ⟨i,hi,rfl⟩:=List.mem_iff_getElem.1 hr
  have hib:i<b.length:=by unfold rowsE at hi; rw [List.length_mapIdx] at hi; exact hi
  exact ⟨i,_,List.getElem?_eq_getElem hib,List.getElem_mapIdx ..⟩
 have hlen:∀ r∈rowsE b e part at_,r.length≤140:=fun r hr=>by
  obtain ⟨i,x,h1,rfl⟩:=hmem r hr
  exact (hrow i x h1).2.2
 have hrn:(rowsE b e part at_).length=b.length:=by unfold rowsE; rw [List.length_mapIdx]
 have hfl:=flat_leN 140 _ hlen
 have hsum:(rowsE b e part at_).map sumU=b.map lB:=by
  apply List.ext_getElem?
  intro i
  unfold rowsE
  rw [List.getElem?_map,List.getElem?_mapIdx,List.getElem?_map]
  cases hx:b[i]? with
  | none=>rfl
  | some x =>
   show some (sumU (barE e part at_ i (restT x)))=some (lB x)
   rw [(hrow i x hx).2.1]
 obtain ⟨rows,g0,g1,g2,g3⟩:=restRows (by omega) hb
 obtain ⟨rows',k1,k2,k3⟩:=progBars part at_ b.length e 0 rows g2 (fun z hz=>by
  obtain ⟨n,hn,y,hy,-⟩:=(h.er z hz).bar
  exact ⟨n,hn,(List.getElem?_eq_some_iff.1 hy).1⟩)
 have hrows:rows'=rowsE b e part at_:=by
  apply List.ext_getElem?
  intro i
  unfold rowsE
  rw [List.getElem?_mapIdx]
  by_cases hi:i<b.length
  ·have hbi:b[i]? = some b[i]:=List.getElem?_eq_getElem hi
   rw [k3 i _ (g3 i _ hbi),hbi]; rfl
  ·rw [List.getElem?_eq_none (by omega),List.getElem?_eq_none (l:=b) (by omega)]; rfl
 refine ⟨loosF (rowsE b e part at_).flatten,?_,loosF_fills (fun r hr=>by
  obtain ⟨i,x,h1,rfl⟩:=hmem r hr
  exact (hrow i x h1).1) hsum (by omega)⟩
 unfold m_piece_Written
 rw [CheckEdits_zero (by omega) hpl hpf h,Option.bind_some,show ((0:Int) != 0)=false from rfl,ifB_false,ContainsE,memS_iff.2 hp,Option.bind_some,Bool.not_true,ifB_false,IsMoment_E,ha,Option.bind_some,Bool.not_true,ifB_false,g0,Option.bind_some,g1,Option.bind_some,fin_brk,k1,Option.bind_some,fin_brk,hrows,
  ConcatT _ (fun r hr=>Nat.le_trans (hlen r hr) (by omega)) (by omega),Option.bind_some,decide_eq_false (by omega),ifB_false,loosened_exact _ (by omega),Option.bind_some]
end Go.G
