/- LU6c: right tones have no fault (printed from LB3). In plain Lean, no program in sight. -/
import Derived.Test.YtmocokkjfgfkbadGreatDoorLU6r
namespace Go.G
open Go Go.J
set_option linter.unusedSimpArgs false
set_option linter.unusedVariables false
theorem lowLoopR (a b:Nat):loopM m_piece_isLowest_l1 ((a:Int),(b:Int))=some (.brk ((Nat.gcd a b:Int),0)):=by
 obtain ⟨f,hf,rfl⟩:=loopM_post m_piece_isLowest_l1 (fun s=>∃ x y:Nat,s=((x:Int),(y:Int))∧Nat.gcd x y=Nat.gcd a b) (fun s=>s.2.toNat) (fun f=>f = .brk ((Nat.gcd a b:Int),0)) (by
  rintro s ⟨x,y,rfl,hg⟩
  unfold m_piece_isLowest_l1
  by_cases hy:y=0
  ·subst hy
   rw [Nat.gcd_zero_right] at hg
   exact .inr (.inl ⟨_,rfl,by rw [hg]; rfl⟩)
  ·have h1:((y:Int) != 0)=true:=by simpa using hy
   have h2:((x:Int)).tmod (y:Int)=((x % y:Nat):Int):=rfl
   refine .inl ⟨((y:Int),((x % y:Nat):Int)),?_,⟨y,x % y,rfl,?_⟩,?_⟩
   ·simp only
    rw [h1,ifB_true,remM_of (by omega),Option.bind_some,h2]
   ·rw [← hg,Nat.gcd_comm x y,Nat.gcd_comm y (x % y),← Nat.gcd_rec]
   ·have:=Nat.mod_lt x (Nat.pos_of_ne_zero hy)
    simp only; omega) _ ⟨a,b,rfl,rfl⟩
 exact hf
theorem txt_true {s:ByteArray} (h:s∈txs):m_piece_isText s=some true:=by
 simp only [txs,List.mem_cons,List.not_mem_nil,or_false] at h
 rcases h with rfl | rfl | rfl | rfl | rfl | rfl | rfl <;> kernel_rfl
theorem units_specR {x:TTone} (h:TGood x):m_piece_units x.Long=some (uT x)∧1≤uT x∧uT x≤3072:=by
 obtain ⟨-,h1,h2,h3,h4⟩:=h
 have h5:(192:Int)=x.Long.Den*(192:Int).tdiv x.Long.Den:=by have:=Int.mul_tdiv_add_tmod 192 x.Long.Den; omega
 have h6:0≤(192:Int).tdiv x.Long.Den:=Int.tdiv_nonneg (by omega) (by omega)
 have h7:(192:Int).tdiv x.Long.Den≠0:=fun h=>by rw [h] at h5; omega
 have h8:1*(192:Int).tdiv x.Long.Den≤x.Long.Num*(192:Int).tdiv x.Long.Den:=Int.mul_le_mul_of_nonneg_right h1 h6
 have h9:x.Long.Num*(192:Int).tdiv x.Long.Den≤16*x.Long.Den*(192:Int).tdiv x.Long.Den:=Int.mul_le_mul_of_nonneg_right h4 h6
 rw [Int.mul_assoc,← h5] at h9
 have h10:1*(192:Int).tdiv x.Long.Den≤x.Long.Den*(192:Int).tdiv x.Long.Den:=Int.mul_le_mul_of_nonneg_right h2 h6
 have b1:1≤uT x:=by unfold uT; omega
 have b2:uT x≤3072:=by unfold uT; omega
 refine ⟨?_,b1,b2⟩
 unfold m_piece_units
 rw [quoM_of (by omega),Option.bind_some,w64_id (n:=(192:Int).tdiv x.Long.Den) (by omega)]
 show some (w64 (uT x))=_
 rw [w64_id (by omega)]
theorem carries_specR (x y:TTone):m_piece_carries x y=some (carryB x y):=by
 unfold m_piece_carries carryB
 rw [show (y.Note==x.Note)=(x.Note==y.Note) from Bool.beq_comm]
 cases (x.Note==y.Note) <;> rfl
end Go.G
