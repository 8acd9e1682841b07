/- LU4: tones that are tied together made one, forth and back; their range. No program in sight. -/
import Derived.Test.YtlkpfhdlfapfhaaGreatDoorLU3
namespace Go.G
open Go Go.J
set_option linter.unusedSimpArgs false
def uF (f:TFraction):Int:=f.Num*(192:Int).tdiv f.Den
structure UOk (f:TFraction) (m:Int):Prop where
 p:m_piece_units f=some (uF f)
 q:m_gleeref2_units f=some (uF f)
 pos:1≤uF f
 le:uF f≤m
theorem UOk.of_good {x:TTone} (h:TGood x):UOk x.Long 3072:=⟨(units_spec h).1,(units_spec h).2.1,(units_spec h).2.2.1,(units_spec h).2.2.2⟩
theorem low_ref {n:Int} (h1:1≤n) (h2:n≤1000000000):m_gleeref2_Lowest n 192=some (lowF n.toNat 192)∧uF (lowF n.toNat 192)=n∧UOk (lowF n.toNat 192) n:=by
 obtain ⟨k,rfl⟩:=Int.eq_ofNat_of_zero_le (by omega:0≤n)
 simp only [Int.toNat_natCast]
 have hg1:Nat.gcd k 192 ∣ k:=Nat.gcd_dvd_left ..
 have hg2:Nat.gcd k 192 ∣ 192:=Nat.gcd_dvd_right ..
 have hg0:0<Nat.gcd k 192:=Nat.gcd_pos_of_pos_right _ (by omega)
 obtain ⟨a,ha⟩:=hg1
 obtain ⟨b,hb⟩:=hg2
 have hb0:0<b:=Nat.pos_of_ne_zero fun h=>by rw [h] at hb; simp at hb
 have hb192:b≤192:=Nat.le_of_dvd (by omega) ⟨Nat.gcd k 192,by rw [Nat.mul_comm]; exact hb⟩
 have e1:(lowF k 192)=⟨(a:Int),(b:Int)⟩:=by
  unfold lowF
  have f1:k / Nat.gcd k 192=a:=(congrArg (fun z=>z / Nat.gcd k 192) ha).trans (Nat.mul_div_cancel_left a hg0)
  have f2:192 / Nat.gcd k 192=b:=(congrArg (fun z=>z / Nat.gcd k 192) hb).trans (Nat.mul_div_cancel_left b hg0)
  congr 1
  ·rw [← f1]; rfl
  ·rw [← f2]; rfl
 have hu:(192:Int).tdiv (b:Int)=(Nat.gcd k 192:Int):=by
  have:192 / b=Nat.gcd k 192:=Nat.div_eq_of_eq_mul_left hb0 hb
  rw [← this]; rfl
 have hk:(a:Int)*(Nat.gcd k 192:Int)=k:=by
  have:=congrArg (fun n:Nat=>(n:Int)) ha
  simp only [Int.natCast_mul] at this
  rw [Int.mul_comm]; exact this.symm
 have e2:uF (lowF k 192)=k:=by
  rw [e1]
  show (a:Int)*(192:Int).tdiv (b:Int)=k
  rw [hu,hk]
 have hgl:Nat.gcd k 192≤192:=Nat.le_of_dvd (by omega) (Nat.gcd_dvd_right ..)
 have e3:∀ {r:Option Int},r=((quoM 192 (lowF k 192).Den).bind fun z2=>some (w64 ((lowF k 192).Num*z2)))→r=some (uF (lowF k 192)):=by
  intro r hr
  rw [hr,e1]
  show (quoM 192 (b:Int)).bind _=_
  rw [quoM_of (by omega),Option.bind_some,hu,w64_id (n:=(Nat.gcd k 192:Int)) (by omega)]
  show some (w64 ((a:Int)*(Nat.gcd k 192:Int)))=_
  rw [hk,w64_id (by omega)]
  show _=some ((a:Int)*(192:Int).tdiv (b:Int))
  rw [hu,hk]
 exact ⟨refLowest_spec k 192 (by omega) (by omega) (by omega),e2,⟨e3 rfl,e3 rfl,by omega,by omega⟩⟩
theorem low_spec {n:Int} (h1:1≤n) (h2:n≤1000000000):m_piece_fraction n=some (lowF n.toNat 192)∧m_gleeref2_Lowest n 192=some (lowF n.toNat 192)∧uF (lowF n.toNat 192)=n∧UOk (lowF n.toNat 192) n:=by
 refine ⟨?_,low_ref h1 h2⟩
 obtain ⟨k,rfl⟩:=Int.eq_ofNat_of_zero_le (by omega:0≤n)
 simp only [Int.toNat_natCast]
 unfold m_piece_fraction
 rw [show ((192:Int))=((192:Nat):Int) from rfl,kitLowest_spec k 192 (by omega) (by omega) (by omega)]; rfl
def un (x:TTone):TTone:=⟨x.Note,x.Long,x.Text,false⟩
def glue (y:TTone):List TTone→List TTone
 | []=>[y]
 | z::r=>⟨y.Note,lowF (uF y.Long+uF z.Long).toNat 192,y.Text,y.Tied⟩::r
def Jn:List TTone→List TTone
 | []=>[]
 | x::t=>bif x.Tied then glue (un x) (Jn t) else un x::Jn t
def Ch (t:List TTone):Prop:=∀ pre x suf,t=pre++x::suf→x.Tied=true→suf≠[]
theorem Ch.tail {x:TTone} {t:List TTone} (h:Ch (x::t)):Ch t:=fun pre y suf e=>h (x::pre) y suf (by rw [e]; rfl)
theorem Jn_ne {t:List TTone} (h:t≠[]):Jn t≠[]:=by
 cases t with
 | nil=>exact (h rfl).elim
 | cons x t =>
  unfold Jn
  cases x.Tied
  ·simp
  ·cases Jn t <;> simp [glue]
theorem Jn_ok {t:List TTone} (h:∀ x∈t,TGood x) (hl:t.length≤2000):∀ y∈Jn t,UOk y.Long (3072*t.length):=by
 induction t with
 | nil=>simp [Jn]
 | cons x t ih =>
  have ih:=ih (fun y hy=>h y (List.mem_cons_of_mem _ hy)) (by simp at hl; omega)
  have hx:=UOk.of_good (h x (List.mem_cons_self ..))
  simp only [List.length_cons] at hl
  have up:∀ {f:TFraction} {m m':Int},UOk f m→m≤m'→UOk f m':=fun h hm=>⟨h.p,h.q,h.pos,Int.le_trans h.le hm⟩
  have e:3072*((x::t).length:Int)=3072*(t.length:Int)+3072:=by simp; omega
  rw [e]
  intro y hy
  unfold Jn at hy
  cases hT:x.Tied with
  | false =>
   rw [hT] at hy
   rcases List.mem_cons.1 hy with rfl | hy
   ·exact up hx (by omega)
   ·exact up (ih y hy) (by omega)
  | true =>
   rw [hT] at hy
   cases hj:Jn t with
   | nil =>
    rw [hj] at hy
    rcases List.mem_cons.1 hy with rfl | hy
    ·exact up hx (by omega)
    ·cases hy
   | cons z r =>
    rw [hj] at hy ih
    have hz:=ih z (List.mem_cons_self ..)
    rcases List.mem_cons.1 hy with rfl | hy
    ·have:=low_spec (n:=uF (un x).Long+uF z.Long) (by have:=hx.pos; have:=hz.pos; show 1≤uF x.Long+uF z.Long; omega) (by have:=hx.le; have:=hz.le; show uF x.Long+uF z.Long≤_; omega)
     exact up this.2.2.2 (by have:=hx.le; have:=hz.le; show uF x.Long+uF z.Long≤_; omega)
    ·exact up (ih y (List.mem_cons_of_mem _ hy)) (by omega)
theorem forth_loop:∀ (t:List TTone),(∀ x∈t,TGood x)→Ch t→(∀ (i:Nat) (out:List TTone),out.length+t.length≤2000→rangeM m_piece_Joined_l1 i t (false,out)=some (.brk (false,out++Jn t))) ∧
  (t≠[]→∀ (i:Nat) (out:List TTone) (y:TTone),out.length+1+t.length≤2000→UOk y.Long (3072*(2001 - t.length))→rangeM m_piece_Joined_l1 i t (true,out++[y])=some (.brk (false,out++glue y (Jn t))))
 | [],_,_=>⟨fun i out _=>by simp [Jn],fun h=>(h rfl).elim⟩
 | x::t,h,hc=>by
  have hx:=UOk.of_good (h x (List.mem_cons_self ..))
  have h':∀ y∈t,TGood y:=fun y hy=>h y (List.mem_cons_of_mem _ hy)
  obtain ⟨i1,i2⟩:=forth_loop t h' hc.tail
  have hne:x.Tied=true→t≠[]:=fun hT=>hc [] x t rfl hT
  constructor
  ·intro i out hl
   simp only [List.length_cons] at hl
   have e:m_piece_Joined_l1 i x (false,out)=some (.nxt (x.Tied,out++[un x])):=by
    unfold m_piece_Joined_l1
    simp only [ifB_false]
    rw [appM_of (by simp; omega) (by omega)]; rfl
   rw [rangeM_cons,e,Option.bind_some,run_nxt,Jn]
   cases hT:x.Tied with
   | false =>
    rw [i1 (i+1) (out++[un x]) (by simp; omega)]
    simp
   | true=>rw [i2 (hne hT) (i+1) out (un x) (by omega) ⟨hx.p,hx.q,hx.pos,by have:=hx.le; show uF x.Long≤_; omega⟩]; rfl
  ·intro _ i out y hl hy
   simp only [List.length_cons] at hl
   have ey:3072*(2001 - ((x::t).length:Int))=3072*(2001 - (t.length:Int)) - 3072:=by rw [List.length_cons]; omega
   rw [ey] at hy
   have hyl:=hy.le; have hyp:=hy.pos; have hxl:=hx.le; have hxp:=hx.pos
   have hlow:=low_spec (n:=uF y.Long+uF x.Long) (by omega) (by omega)
   have e:m_piece_Joined_l1 i x (true,out++[y])=some (.nxt (x.Tied,out++[⟨y.Note,lowF (uF y.Long+uF x.Long).toNat 192,y.Text,y.Tied⟩])):=by
    unfold m_piece_Joined_l1
    have hlen:(((out++[y]).length:Nat):Int)=(out.length:Int)+1:=by simp
    have hget:getI (out++[y]) (out.length:Int)=some y:=getI_of (n:=out.length) rfl (by simp)
    simp only [ifB_true,hlen]
    rw [w64_id (n:=(out.length:Int)+1 - 1) (by omega),show (out.length:Int)+1 - 1=(out.length:Int) by omega,hget]
    simp only [Option.bind_some,hy.p,hx.p]
    rw [w64_id (n:=uF y.Long+uF x.Long) (by omega),hlow.1]
    have hset:∀ z,(out++[y]).set out.length z=out++[z]:=fun z=>by simp
    simp only [Option.bind_some,Int.toNat_natCast,hset]
   rw [rangeM_cons,e,Option.bind_some,run_nxt,Jn]
   cases hT:x.Tied with
   | false =>
    rw [i1 (i+1) _ (by simp; omega)]
    simp [glue,un]
   | true =>
    have hj:=Jn_ne (hne hT)
    rw [i2 (hne hT) (i+1) out _ (by omega) ⟨hlow.2.2.2.p,hlow.2.2.2.q,hlow.2.2.2.pos,by have:=hlow.2.2.1; show uF (lowF _ _)≤_; omega⟩]
    cases hjj:Jn t with
    | nil=>exact (hj hjj).elim
    | cons z r =>
     have hz:=Jn_ok h' (by omega) z (by rw [hjj]; exact List.mem_cons_self ..)
     have hzl:=hz.le; have hzp:=hz.pos
     have hlow2:=low_spec (n:=uF x.Long+uF z.Long) (by omega) (by omega)
     simp only [cond_true,glue,un,hlow.2.2.1,hlow2.2.2.1,Int.add_assoc]
theorem Joined_spec {t:List TTone} (h:∀ x∈t,TGood x) (hl:t.length≤2000) (hc:Ch t):rangeM m_piece_Joined_l1 0 t (false,[])=some (.brk (false,Jn t)):=by
 have:=(forth_loop t h hc).1 0 [] (by simpa using hl)
 simpa using this
theorem Fills.ch {bs:List TBar} {t:List TTone} (h:Fills bs t false):Ch t:=by
 intro pre x suf e hT hs
 subst hs
 have h1:=h.tie pre.length x (by rw [e]; simp)
 unfold badT at h1
 have h2:t[pre.length+1]? = none:=List.getElem?_eq_none (by rw [e]; simp)
 rw [hT,h2] at h1
 cases h1
end Go.G
