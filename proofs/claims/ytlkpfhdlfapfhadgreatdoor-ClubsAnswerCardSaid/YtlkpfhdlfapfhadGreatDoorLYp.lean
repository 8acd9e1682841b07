/- LYp: what all paid: Purse of package club. In plain Lean, no program in sight. -/
import Derived.Test.YtlkpfhdlfapfhadGreatDoorLY6
namespace Go.G
open Go Go.J
def aR5:List (ByteArray × Int)→Int
 | []=>0
 | x::t=>x.2+aR5 t
theorem bd8 {a b:List (ByteArray × Int)} (h:a.Perm b):aR5 a=aR5 b:=by
 induction h with
 | nil=>rfl
 | cons x _ ih=>simp only [aR5,ih]
 | swap x y l=>simp only [aR5]; omega
 | trans _ _ h1 h2=>exact h1.trans h2
theorem bv4 (a b:Int):w64 (w64 a+b)=w64 (a+b):=by
 unfold w64
 simp only [IntKind.wrap_i64]
 omega
theorem bs2:∀ (t:List (ByteArray × Int)) (i:Nat) (n:Int),l8 Y5 i t (w64 n)=some (.brk (w64 (n+aR5 t))):=by
 intro t
 induction t with
 | nil=>intro i n; simp [aR5]
 | cons x t ih =>
  intro i n
  rw [o5]
  unfold Y5
  rw [Option.bind_some,D8,bv4]
  have:=ih (i+1) (n+x.2)
  unfold Y5 at this
  rw [this]
  simp only [aR5]
  rw [Int.add_assoc]
def az5 (pd:List (ByteArray × Int)):Int × Int:=if w64 (aR5 pd)>1000000000000 then (0,12) else (w64 (aR5 pd),0)
theorem bs1 (a:Int) (st:ab7) (pd:List (ByteArray × Int)) (mo:aB6) (rf:List Int):X9 a st pd mo rf=some (az5 pd):=by
 unfold X9
 refine ao0 fun L hL=>?_
 have h:=bs2 L 0 0
 rw [show w64 0=0 from rfl,Int.zero_add,bd8 hL] at h
 rw [h,Option.bind_some,D5,bh8]
 unfold az5
 split <;> rfl
theorem bv1 (l:List TAct) (at_:Int):ag9 l at_=some (if aa2 l at_=0 then az5 (j7 l at_).pd else (0,aa2 l at_)):=by
 unfold ag9
 rw [ag3,Option.bind_some]
 by_cases h:aa2 l at_=0
 ·simp only [if_pos h,K4]
  rw [show ((0:Int) != 0)=false from rfl,j4,bs1]; rfl
 ·simp only [if_neg h,ad4]
  rw [show (aa2 l at_ != 0)=true by simpa using h,j9]
end Go.G
