/- LKr: keys as the reference has them. In plain Lean, no program in sight. -/
import Derived.Test.YtlkpfhdlfapfhadGreatDoorLQ0
namespace Go.G
open Go Go.J
theorem bd4 (s set:ByteArray) (hs:(s.size:Int)≤9223372036854775807):O1 s set=some (s.data.toList.all fun b=>decide (b∈set.data.toList)):=by
 unfold O1
 rw [ax2 hs]
 have hlen:(List.range ((s.size:Int)).toNat)=List.range s.data.toList.length:=by simp
 rw [hlen]
 show (l8 _ 0 _ ()).bind _=_
 rw [br8 (aj9 s set) false (fun i _=>match s.data.toList[i]? with | some b=>!decide (b∈set.data.toList) | none=>false)]
 ·have:((List.range s.data.toList.length).zipIdx 0).any (fun q=>match s.data.toList[q.2]? with | some b=>!decide (b∈set.data.toList) | none=>false) = !(s.data.toList.all fun b=>decide (b∈set.data.toList)):=by
   rw [Bool.eq_iff_iff]
   simp only [List.any_eq_true,Bool.not_eq_true',List.all_eq_false,decide_eq_true_eq]
   constructor
   ·rintro ⟨⟨a,i⟩,hm,h⟩
    simp only at h
    cases hb:s.data.toList[i]? with
    | none=>rw [hb] at h; cases h
    | some b=>rw [hb] at h; exact ⟨b,List.mem_of_getElem? hb,by simpa using h⟩
   ·rintro ⟨b,hb,h⟩
    obtain ⟨i,hi,rfl⟩:=List.mem_iff_getElem.1 hb
    refine ⟨(i,i),?_,?_⟩
    ·rw [List.mem_zipIdx_iff_getElem?]
     simp only
     rw [List.getElem?_range hi]
    ·simp only [List.getElem?_eq_getElem hi]
     simpa using h
  rw [this]
  cases s.data.toList.all fun b=>decide (b∈set.data.toList) <;> rfl
 ·intro i x hx
  have hxi:i<s.data.toList.length:=by
   have:=(List.getElem?_eq_some_iff.1 hx).1
   simpa using this
  unfold aj9
  simp only [Nat.zero_add]
  rw [bm1,List.getElem?_eq_getElem hxi]
  unfold H1
  simp only [Option.map_some,Option.bind_some,bv5]
  by_cases h:s.data.toList[i]∈set.data.toList
  ·rw [decide_eq_false (fun e=>(ao7 _ _).1 e h)]; simp; simpa using h
  ·rw [decide_eq_true ((ao7 _ _).2 h)]; simp; simpa using h
theorem bx2 (n lo hi:Int):J0 n lo hi=some (decide (lo≤n∧n≤hi)):=by
 unfold J0
 by_cases h:lo≤n <;> simp [h]
theorem bD7 (s:ByteArray) (h:1≤s.size):az1 s 0 1=some (s.extract 0 1):=by
 unfold az1
 rw [if_pos ⟨by omega,by omega,by omega⟩]
 rfl
theorem be0 (s:ByteArray):I6 s=some (T5 s):=by
 unfold I6 T5
 rw [bx2,Option.bind_some]
 by_cases h:1≤s.size∧s.size≤40
 ·rw [decide_eq_true (show (1:Int)≤s.size∧(s.size:Int)≤40 by omega),j9,decide_eq_true h,Bool.true_and,bD7 s h.1,Option.bind_some]
  have e1:(s.extract 0 1).data.toList=s.data.toList.take 1:=by rw [Lib.extract_data]; simp
  have hsz:((s.extract 0 1).size:Int)≤9223372036854775807:=by rw [N6,e1]; simp; omega
  rw [bd4 _ _ hsz,Option.bind_some,e1]
  show ifB ((s.data.toList.take 1).all fun b=>decide (b∈av8.data.toList)) _ _=_
  cases (s.data.toList.take 1).all fun b=>decide (b∈av8.data.toList) with
  | false=>rfl
  | true =>
   rw [j9,Bool.true_and]
   show (O1 s bB2).bind _=_
   rw [bd4 s bB2 (by omega)]
   rfl
 ·rw [decide_eq_false (show ¬ ((1:Int)≤s.size∧(s.size:Int)≤40) by omega),j4,decide_eq_false h]; rfl
end Go.G
