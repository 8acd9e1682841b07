/- LT: the law of the played bars holds of its model at every seed, in plain Lean. No program in sight. -/
import Derived.Test.YtmocokkjfgfkbadGreatDoorLTE
namespace Go.G
open Go Go.J
def lowF (a b:Nat):TFraction:=⟨(a:Int) / (Nat.gcd a b:Int),(b:Int) / (Nat.gcd a b:Int)⟩
theorem gcdLoop1 (a b:Nat):loopM m_kit_Lowest_l1 ((a:Int),(b:Int))=some (.brk ((Nat.gcd a b:Int),0)):=by
 obtain ⟨f,hf,rfl⟩:=loopM_post m_kit_Lowest_l1 (fun s=>∃ x y:Nat,s=((x:Int),(y:Int))∧Nat.gcd x y=Nat.gcd a b) (fun s=>s.2.toNat) (fun f=>f = .brk ((Nat.gcd a b:Int),0)) (by
  rintro s ⟨x,y,rfl,hg⟩
  unfold m_kit_Lowest_l1
  by_cases hy:y=0
  ·subst hy
   rw [Nat.gcd_zero_right] at hg
   exact .inr (.inl ⟨_,rfl,by rw [hg]; rfl⟩)
  ·have h1:((y:Int) != 0)=true:=by simpa using hy
   have h2:((x:Int)).tmod (y:Int)=((x % y:Nat):Int):=rfl
   refine .inl ⟨((y:Int),((x % y:Nat):Int)),?_,⟨y,x % y,rfl,?_⟩,?_⟩
   ·simp only
    rw [h1,ifB_true,remM_of (by omega),Option.bind_some,h2]
   ·rw [← hg,Nat.gcd_comm x y,Nat.gcd_comm y (x % y),← Nat.gcd_rec]
   ·have:=Nat.mod_lt x (Nat.pos_of_ne_zero hy)
    simp only; omega) _ ⟨a,b,rfl,rfl⟩
 exact hf
theorem gcdLoop2 (a b:Nat):loopM m_gleeref2_divisor_l1 ((a:Int),(b:Int))=some (.brk ((Nat.gcd a b:Int),0)):=by
 obtain ⟨f,hf,rfl⟩:=loopM_post m_gleeref2_divisor_l1 (fun s=>∃ x y:Nat,s=((x:Int),(y:Int))∧Nat.gcd x y=Nat.gcd a b) (fun s=>s.2.toNat) (fun f=>f = .brk ((Nat.gcd a b:Int),0)) (by
  rintro s ⟨x,y,rfl,hg⟩
  unfold m_gleeref2_divisor_l1
  by_cases hy:y=0
  ·subst hy
   rw [Nat.gcd_zero_right] at hg
   exact .inr (.inl ⟨_,rfl,by rw [hg]; rfl⟩)
  ·have h1:((y:Int) != 0)=true:=by simpa using hy
   have h2:((x:Int)).tmod (y:Int)=((x % y:Nat):Int):=rfl
   refine .inl ⟨((y:Int),((x % y:Nat):Int)),?_,⟨y,x % y,rfl,?_⟩,?_⟩
   ·simp only
    rw [h1,ifB_true,remM_of (by omega),Option.bind_some,h2]
   ·rw [← hg,Nat.gcd_comm x y,Nat.gcd_comm y (x % y),← Nat.gcd_rec]
   ·have:=Nat.mod_lt x (Nat.pos_of_ne_zero hy)
    simp only; omega) _ ⟨a,b,rfl,rfl⟩
 exact hf
theorem quo_gcd (a b c:Nat) (hb:b≠0) (_:b≤1000000000000) (hc:c≤1000000000000):quoM (c:Int) (Nat.gcd a b:Int)=some ((c:Int) / (Nat.gcd a b:Int)):=by
 have hg:0<Nat.gcd a b:=Nat.gcd_pos_of_pos_right a (Nat.pos_of_ne_zero hb)
 rw [quoM_of (by omega)]
 have e:((c:Int)).tdiv (Nat.gcd a b:Int)=((c / Nat.gcd a b:Nat):Int):=rfl
 have:=Nat.div_le_self c (Nat.gcd a b)
 have h0:(0:Int)≤((c / Nat.gcd a b:Nat):Int):=Int.natCast_nonneg _
 rw [e,w64_id (by omega)]
 rfl
theorem kitLowest_spec (a b:Nat) (hb:b≠0) (hb':b≤1000000000000) (ha:a≤1000000000000):m_kit_Lowest (a:Int) (b:Int)=some (lowF a b):=by
 unfold m_kit_Lowest
 rw [gcdLoop1,Option.bind_some,fin_brk]
 simp only
 rw [quo_gcd a b a hb hb' ha,Option.bind_some,quo_gcd a b b hb hb' hb']
 rfl
theorem refLowest_spec (a b:Nat) (hb:b≠0) (hb':b≤1000000000000) (ha:a≤1000000000000):m_gleeref2_Lowest (a:Int) (b:Int)=some (lowF a b):=by
 have hg:0<Nat.gcd a b:=Nat.gcd_pos_of_pos_right a (Nat.pos_of_ne_zero hb)
 have hg':Nat.gcd a b≤b:=Nat.gcd_le_right a (Nat.pos_of_ne_zero hb)
 have hd:m_gleeref2_divisor (a:Int) (b:Int)=some (Nat.gcd a b:Int):=by
  unfold m_gleeref2_divisor
  rw [gcdLoop2,Option.bind_some,fin_brk]
  simp only
  rw [w64_id (by omega)]
  congr 1
  omega
 unfold m_gleeref2_Lowest
 rw [hd,Option.bind_some,quo_gcd a b a hb hb' ha,Option.bind_some,quo_gcd a b b hb hb' hb']
 rfl
end Go.G
