/- Plain laws of the models; no condition beyond what each theorem says. -/
import Derived.Test.YtlkpfhdlfapfhadGreatDoorLKr
import Derived.Test.YtlkpfhdlfapfhadGreatDoorLS1
import Derived.Lib.Atoi
import Derived.Lib.ItoaMem
import Derived.Test.YtlkpfhdlfapfhadGreatDoorL0
import Derived.Lib.SplitLaws
import Derived.Lib.Join
/- LBs: what the laws of texts stand on (keys). -/

/- LN0: numerals: which rows of digits are written as they are read. In plain Lean, no program in sight. -/
namespace Go.G
open Go Go.J
end Go.G

/- LT0: strings cut at a byte: what strings.Split gives, as a plain recursion; joined again. In plain Lean, no program in sight. -/
namespace Go.G
open Go Go.J
set_option linter.unusedSimpArgs false
set_option linter.unusedVariables false
abbrev BL:=List UInt8
def spl (c:UInt8):BL→List BL
 | []=>[[]]
 | b::t=>if b=c then []::spl c t else match spl c t with
  | []=>[[b]]
  | h::r=>(b::h)::r
theorem br4 (c:UInt8):∀ s,spl c s≠[]
 | []=>by simp [spl]
 | b::t=>by
  unfold spl
  split
  ·simp
  ·split <;> simp
theorem bp0 (b c:UInt8) (l:BL):Lib.index (b::l) [c]=if b=c then 0 else if Lib.index l [c] == -1 then -1 else Lib.index l [c]+1:=by
 rw [Lib.index]
 by_cases h:b=c
 ·simp [List.isPrefixOf,h]
 ·have:([c]:BL).isPrefixOf (b::l)=false:=by simp [List.isPrefixOf,Ne.symm h]
  rw [this,if_neg h]; simp
theorem aX2 (c:UInt8):∀ s:BL,Lib.splitK [c] 0 (Lib.count s [c]) s=spl c s
 | []=>by rw [Lib.count_one]; rfl
 | b::l=>by
  have ih:=aX2 c l
  have hix:=bp0 b c l
  by_cases h:b=c
  ·rw [if_pos h] at hix
   rw [h,Lib.count_cons_eq,Nat.add_comm,Lib.splitK]
   rw [h] at hix
   rw [hix,spl,if_pos rfl,← ih]
   simp
  ·rw [if_neg h] at hix
   rw [Lib.count_cons_ne b c l h,spl,if_neg h,← ih]
   by_cases hm:Lib.index l [c] = -1
   ·rw [Lib.count_miss hm,Lib.splitK,Lib.splitK]
   ·rw [if_neg (by simpa using hm)] at hix
    have hge:=Lib.index_ge l [c]
    obtain ⟨j,hj⟩:∃ j:Nat,Lib.index l [c]=j:=⟨(Lib.index l [c]).toNat,by omega⟩
    rw [Lib.count_hit (by simp) hj,Nat.add_comm 1,Lib.splitK,Lib.splitK,if_neg (by rw [hix]; simp; omega),if_neg (by simpa using hm),hix,hj]
    simp only
    rw [show ((j:Int)+1).toNat=j+1 by omega,Int.toNat_natCast]
    simp
theorem br3 (c:UInt8) (s:ByteArray):(Lib.splitB ⟨#[c]⟩ 0 (Lib.countB s ⟨#[c]⟩) s).map (·.data.toList)=spl c s.data.toList:=by
 rw [Lib.splitB_data]
 exact aX2 c s.data.toList
def toB (l:BL):ByteArray:=⟨l.toArray⟩
theorem aM2 (s:ByteArray):toB s.data.toList=s:=by cases s; rfl
theorem Y2 (l:BL):(toB l).data.toList=l:=rfl
theorem ap2 (l:BL):(toB l).size=l.length:=by simp [toB,ByteArray.size]
theorem bh3 (L:List ByteArray):(L.map (·.data.toList)).map toB=L:=by
 rw [List.map_map]
 exact (List.map_congr_left fun x _=>aM2 x).trans (List.map_id L)
theorem bm2 (c:UInt8) (s:ByteArray):Lib.splitB ⟨#[c]⟩ 0 (Lib.countB s ⟨#[c]⟩) s=(spl c s.data.toList).map toB:=by
 rw [← br3,bh3]
def jn (c:UInt8):List BL→BL
 | []=>[]
 | [x]=>x
 | x::y::r=>x++c::jn c (y::r)
theorem bw9 (c:UInt8):∀ L:List BL,Lib.join L [c]=jn c L
 | []=>rfl
 | [x]=>by rw [Lib.join_one]; rfl
 | x::y::r=>by
  have ih:=bw9 c (y::r)
  rw [jn,← ih]
  simp [Lib.join,List.intercalate]
theorem bw3 (c:UInt8):∀ (a b:BL),c∉a→spl c (a++c::b)=a::spl c b
 | [],b,_=>by simp [spl]
 | x::a,b,h=>by
  have hx:x≠c:=fun e=>h (by rw [e]; exact List.mem_cons_self ..)
  rw [List.cons_append,spl,if_neg hx,bw3 c a b fun hm=>h (List.mem_cons_of_mem _ hm)]
theorem bm3 (c:UInt8):∀ (a:BL),c∉a→spl c a=[a]
 | [],_=>rfl
 | x::a,h=>by
  have hx:x≠c:=fun e=>h (by rw [e]; exact List.mem_cons_self ..)
  rw [spl,if_neg hx,bm3 c a fun hm=>h (List.mem_cons_of_mem _ hm)]
theorem bK9 (c:UInt8) (a:BL):spl c (a++[c])=spl c a++[[]]:=by
 induction a with
 | nil=>simp [spl]
 | cons b t ih =>
  rw [List.cons_append,spl,ih,spl]
  split
  ·simp
  ·cases h:spl c t with
   | nil=>exact (br4 c t h).elim
   | cons hd r=>simp
end Go.G

/- LT1: numbers that are read: the program's way is the reference's. In plain Lean, no program in sight. -/
namespace Go.G
open Go Go.J
end Go.G

