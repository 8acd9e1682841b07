/- LT: the law of the played bars holds of its model at every seed, in plain Lean. No program in sight. -/
import Derived.Test.YtlkpfhdlfapfhaaGreatDoorLTE
namespace Go.G
open Go Go.J
def lowF (a b:Nat):TFraction:=⟨(a:Int) / (Nat.gcd a b:Int),(b:Int) / (Nat.gcd a b:Int)⟩
theorem gcdLoop1 (a b:Nat):loopM m_kit_Lowest_l1 ((a:Int),(b:Int))=some (.brk ((Nat.gcd a b:Int),0)):=by
 obtain ⟨f,hf,rfl⟩:=loopM_post m_kit_Lowest_l1 (fun s=>∃ x y:Nat,s=((x:Int),(y:Int))∧Nat.gcd x y=Nat.gcd a b) (fun s=>s.2.toNat) (fun f=>f = .brk ((Nat.gcd a b:Int),0)) (by
  rintro s ⟨x,y,rfl,hg⟩
  unfold m_kit_Lowest_l1
  by_cases hy:y=0
  ·subst hy
   rw [Nat.gcd_zero_right] at hg
   exact .inr (.inl ⟨_,rfl,by rw [hg]; rfl⟩)
  ·have h1:((y:Int) != 0)=true:=by simpa using hy
   have h2:((x:Int)).tmod (y:Int)=((x % y:Nat):Int):=rfl
   refine .inl ⟨((y:Int),((x % y:Nat):Int)),?_,⟨y,x % y,rfl,?_⟩,?_⟩
   ·simp only
    rw [h1,ifB_true,remM_of (by omega),Option.bind_some,h2]
   ·rw [← hg,Nat.gcd_comm x y,Nat.gcd_comm y (x % y),← Nat.gcd_rec]
   ·have:=Nat.mod_lt x (Nat.pos_of_ne_zero hy)
    simp only; omega) _ ⟨a,b,rfl,rfl⟩
 exact hf
theorem gcdLoop2 (a b:Nat):loopM m_gleeref2_divisor_l1 ((a:Int),(b:Int))=some (.brk ((Nat.gcd a b:Int),0)):=by
 obtain ⟨f,hf,rfl⟩:=loopM_post m_gleeref2_divisor_l1 (fun s=>∃ x y:Nat,s=((x:Int),(y:Int))∧Nat.gcd x y=Nat.gcd a b) (fun s=>s.2.toNat) (fun f=>f = .brk ((Nat.gcd a b:Int),0)) (by
  rintro s ⟨x,y,rfl,hg⟩
  unfold m_gleeref2_divisor_l1
  by_cases hy:y=0
  ·subst hy
   rw [Nat.gcd_zero_right] at hg
   exact .inr (.inl ⟨_,rfl,by rw [hg]; rfl⟩)
  ·have h1:((y:Int) != 0)=true:=by simpa using hy
   have h2:((x:Int)).tmod (y:Int)=((x % y:Nat):Int):=rfl
   refine .inl ⟨((y:Int),((x % y:Nat):Int)),?_,⟨y,x % y,rfl,?_⟩,?_⟩
   ·simp only
    rw [h1,ifB_true,remM_of (by omega),Option.bind_some,h2]
   ·rw [← hg,Nat.gcd_comm x y,Nat.gcd_comm y (x % y),← Nat.gcd_rec]
   ·have:=Nat.mod_lt x (Nat.pos_of_ne_zero hy)
    simp only; omega) _ ⟨a,b,rfl,rfl⟩
 exact hf
theorem quo_gcd (a b c:Nat) (hb:b≠0) (_:b≤1000000000000) (hc:c≤1000000000000):quoM (c:Int) (Nat.gcd a b:Int)=some ((c:Int) / (Nat.gcd a b:Int)):=by
 have hg:0<Nat.gcd a b:=Nat.gcd_pos_of_pos_right a (Nat.pos_of_ne_zero hb)
 rw [quoM_of (by omega)]
 have e:((c:Int)).tdiv (Nat.gcd a b:Int)=((c / Nat.gcd a b:Nat):Int):=rfl
 have:=Nat.div_le_self c (Nat.gcd a b)
 have h0:(0:Int)≤((c / Nat.gcd a b:Nat):Int):=Int.natCast_nonneg _
 rw [e,w64_id (by omega)]
 rfl
theorem kitLowest_spec (a b:Nat) (hb:b≠0) (hb':b≤1000000000000) (ha:a≤1000000000000):m_kit_Lowest (a:Int) (b:Int)=some (lowF a b):=by
 unfold m_kit_Lowest
 rw [gcdLoop1,Option.bind_some,fin_brk]
 simp only
 rw [quo_gcd a b a hb hb' ha,Option.bind_some,quo_gcd a b b hb hb' hb']
 rfl
theorem refLowest_spec (a b:Nat) (hb:b≠0) (hb':b≤1000000000000) (ha:a≤1000000000000):m_gleeref2_Lowest (a:Int) (b:Int)=some (lowF a b):=by
 have hg:0<Nat.gcd a b:=Nat.gcd_pos_of_pos_right a (Nat.pos_of_ne_zero hb)
 have hg':Nat.gcd a b≤b:=Nat.gcd_le_right a (Nat.pos_of_ne_zero hb)
 have hd:m_gleeref2_divisor (a:Int) (b:Int)=some (Nat.gcd a b:Int):=by
  unfold m_gleeref2_divisor
  rw [gcdLoop2,Option.bind_some,fin_brk]
  simp only
  rw [w64_id (by omega)]
  congr 1
  omega
 unfold m_gleeref2_Lowest
 rw [hd,Option.bind_some,quo_gcd a b a hb hb' ha,Option.bind_some,quo_gcd a b b hb hb' hb']
 rfl
theorem passF_mem (bs:List TBar) (p:Int):∀ (c n:Nat),∀ k∈passF bs p n c,∃ j:Nat,k=j∧∃ x,bs[j]? = some x
 | 0,n,k,h=>by simp [passF] at h
 | c+1,n,k,h=>by
  unfold passF at h
  cases hs:sungB bs p n with
  | false=>rw [hs] at h; exact passF_mem bs p c (n+1) k h
  | true =>
   rw [hs] at h
   rcases List.mem_cons.1 h with rfl | h
   ·refine ⟨n,rfl,?_⟩
    unfold sungB at hs
    cases hb:bs[n]? with
    | none=>rw [hb] at hs; cases hs
    | some x=>exact ⟨x,rfl⟩
   ·exact passF_mem bs p c (n+1) k h
theorem passes_mem (bs:List TBar) (a c:Nat):∀ (m:Nat) (p:Int),∀ k∈passes bs a c m p,∃ j:Nat,k=j∧∃ x,bs[j]? = some x
 | 0,p,k,h=>by simp [passes] at h
 | m+1,p,k,h=>by
  rcases List.mem_append.1 (show k∈passF bs p a c++passes bs a c m (p+1) from h) with h | h
  ·exact passF_mem bs p c a k h
  ·exact passes_mem bs a c m (p+1) k h
theorem expand_mem (bs:List TBar):∀ (gs:List Grp),∀ k∈expand bs gs,∃ j:Nat,k=j∧∃ x,bs[j]? = some x
 | [],k,h=>by simp [expand] at h
 | g::gs,k,h=>by
  rcases List.mem_append.1 (show k∈passes bs g.1 (g.2.1 - g.1) g.2.2.toNat 1++expand bs gs from h) with h | h
  ·exact passes_mem bs _ _ _ _ k h
  ·exact expand_mem bs gs k h
theorem Order_spec {bs:List TBar} (h:cB bs=0):m_piece_Order bs=some (expand bs (gsB none 0 bs),0)∧m_gleeref2_OrderOf bs=some (expand bs (gsB none 0 bs)):=by
 obtain ⟨hl,r,hg,h1,h2,h3⟩:=cB_zero h
 refine ⟨?_,OrderOf_spec bs (by omega) r hg h1⟩
 unfold m_piece_Order
 rw [CheckBars_spec bs (by omega),h,Option.bind_some]
 show (m_piece_played bs).bind _=_
 rw [played_spec h]; rfl
end Go.G
