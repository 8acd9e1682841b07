/- LYe: what is due, and what somebody paid less that: as the program reckons it. In plain Lean, no program in sight. -/
import Derived.Test.YtlkpfhdlfapfhadGreatDoorLYd
namespace Go.G
open Go Go.J
set_option linter.unusedSimpArgs false
set_option linter.unusedVariables false
def aq9 (a:Int) (y:Tclub_stay):Prop:=0≤y.since∧y.since≤a∧(y.till = -1∨y.since≤y.till∧y.till≤a)∧0≤y.cents∧y.cents≤1000000000
def ai9 (a:Int) (y:Tclub_stay):Int:=if y.till<0 then (a - y.since) / 2592000000+1 else (y.till - y.since+2591999999) / 2592000000
def aP1 (a:Int) (y:Tclub_stay):Int:=ai9 a y*y.cents
def aB2 (a:Int):List Tclub_stay→Int
 | []=>0
 | y::t=>aP1 a y+aB2 a t
theorem aA2 {a:Int} {y:Tclub_stay} (h:aq9 a y) (ha:a≤345686399999):0≤ai9 a y∧ai9 a y≤134:=by
 unfold aq9 at h
 unfold ai9
 split <;> omega
theorem aP0 {a:Int} {y:Tclub_stay} (h:aq9 a y) (ha:a≤345686399999):0≤aP1 a y∧aP1 a y≤134000000000:=by
 obtain ⟨m1,m2⟩:=aA2 h ha
 unfold aq9 at h
 unfold aP1
 refine ⟨Int.mul_nonneg m1 h.2.2.2.1,?_⟩
 exact Int.le_trans (Int.mul_le_mul m2 h.2.2.2.2 h.2.2.2.1 (by omega)) (by omega)
theorem bZ2 {a:Int} {y:Tclub_stay} (h:aq9 a y) (ha:a≤345686399999) (i:Nat) (u:Int) (hu:0≤u) (hu':u≤4000000000000000000):aa8 a i y u=some (.nxt (u+aP1 a y)):=by
 obtain ⟨m1,m2⟩:=aA2 h ha
 obtain ⟨d1,d2⟩:=aP0 h ha
 have h':=h
 unfold aq9 at h'
 unfold aa8
 by_cases ht:y.till<0
 ·have e:(w64 (w64 ((w64 (a - y.since)).tdiv 2592000000)+1))=ai9 a y:=by
   rw [A0 (n:=a - y.since) (by omega),Int.tdiv_eq_ediv_of_nonneg (by omega),A0 (n:=(a - y.since) / 2592000000) (by omega),A0 (by omega)]
   unfold ai9; rw [if_pos ht]
  rw [decide_eq_true ht,j9,e,show ai9 a y*y.cents=aP1 a y from rfl,A0 (n:=aP1 a y) (by omega),A0 (by omega)]
 ·have e:(w64 ((w64 ((w64 ((w64 (y.till - y.since))+2592000000)) - 1)).tdiv 2592000000))=ai9 a y:=by
   rw [A0 (n:=y.till - y.since) (by omega),A0 (n:=y.till - y.since+2592000000) (by omega),A0 (n:=y.till - y.since+2592000000 - 1) (by omega),Int.tdiv_eq_ediv_of_nonneg (by omega),A0 (by omega)]
   unfold ai9; rw [if_neg ht]; congr 1; omega
  rw [decide_eq_false ht,j4,e,show ai9 a y*y.cents=aP1 a y from rfl,A0 (n:=aP1 a y) (by omega),A0 (by omega)]
theorem bH2 {a:Int} (ha:a≤345686399999):∀ (t:List Tclub_stay) (i:Nat) (u:Int),(∀ y∈t,aq9 a y)→0≤u→u+134000000000*(t.length:Int)≤4000000000000000000 →
  l8 (aa8 a) i t u=some (.brk (u+aB2 a t))∧0≤aB2 a t∧aB2 a t≤134000000000*(t.length:Int):=by
 intro t
 induction t with
 | nil=>intro i u _ _ _; simp [aB2]
 | cons y t ih =>
  intro i u h hu hb
  have hy:=h y (List.mem_cons_self ..)
  obtain ⟨d1,d2⟩:=aP0 hy ha
  simp only [List.length_cons] at hb
  obtain ⟨g1,g2,g3⟩:=ih (i+1) (u+aP1 a y) (fun z hz=>h z (List.mem_cons_of_mem _ hz)) (by omega) (by omega)
  rw [o5,bZ2 hy ha i u hu (by omega),Option.bind_some,D8,g1]
  simp only [aB2,List.length_cons]
  exact ⟨by rw [Int.add_assoc],by omega,by omega⟩
theorem PInv.stays {a:Int} {n:Nat} {s:Bk} (h:PInv a n s) (k:ByteArray):∀ y∈A5 s.st k,aq9 a y:=fun y hy=>h.sr k y hy
theorem aZ6 {a:Int} {s:Bk} (h:PInv a 2000 s) (hb:BOK 2000 s) (ha:a≤345686399999) (k:ByteArray):ab5 a s.st s.pd s.mo s.rf k=some (aB2 a (A5 s.st k))∧0≤aB2 a (A5 s.st k)∧aB2 a (A5 s.st k)≤268000000000000:=by
 have hr:=hb.row k
 obtain ⟨g1,g2,g3⟩:=bH2 ha (A5 s.st k) 0 0 (h.stays k) (Int.le_refl _) (by omega)
 unfold ab5
 rw [show (lkM s.st k).getD []=A5 s.st k from rfl,g1,Option.bind_some,D5,Int.zero_add]
 exact ⟨rfl,g2,by omega⟩
def az6 (pd:List (ByteArray × Int)) (k:ByteArray):Int:=(lkM pd k).getD 0
theorem aX8 {a:Int} {s:Bk} (h:PInv a 2000 s) (k:ByteArray):0≤az6 s.pd k∧az6 s.pd k≤2000000000000:=by
 unfold az6
 cases hl:lkM s.pd k with
 | none=>simp only [Option.getD_none]; omega
 | some v=>have:=(h.pv _ (av3 hl)).2; simp only [Option.getD_some] at this ⊢; omega
def bf0 (d p:Int):Int × Int:=if d>1000000000000∨p>1000000000000 then (0,12) else (p - d,0)
theorem bk4 {a:Int} {s:Bk} (h:PInv a 2000 s) (hb:BOK 2000 s) (ha:a≤345686399999) (k:ByteArray):I7 a s.st s.pd s.mo s.rf k=some (bf0 (aB2 a (A5 s.st k)) (az6 s.pd k)):=by
 obtain ⟨g1,g2,g3⟩:=aZ6 h hb ha k
 obtain ⟨p1,p2⟩:=aX8 h k
 unfold I7 bf0
 rw [g1,Option.bind_some,show (lkM s.pd k).getD 0=az6 s.pd k from rfl]
 by_cases h1:aB2 a (A5 s.st k)>1000000000000
 ·rw [decide_eq_true h1,if_pos (.inl h1)]; rfl
 ·rw [decide_eq_false h1,j4,Option.bind_some,C9]
  by_cases h2:az6 s.pd k>1000000000000
  ·rw [decide_eq_true h2,if_pos (.inr h2)]; rfl
  ·rw [decide_eq_false h2,if_neg (by omega),j4,A0 (by omega)]
theorem bM1 {V:Type} {l:List (ByteArray × V)} {k:ByteArray} (h:k∉l.map Prod.fst):lkM l k=none:=aY7 fun p hp e=>h (e ▸ List.mem_map.2 ⟨p,hp,rfl⟩)
end Go.G
