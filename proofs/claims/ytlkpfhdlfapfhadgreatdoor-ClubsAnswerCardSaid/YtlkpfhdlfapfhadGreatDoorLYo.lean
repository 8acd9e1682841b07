/- LYo: which motions are open. In plain Lean, no program in sight. -/
import Derived.Test.YtlkpfhdlfapfhadGreatDoorLY6
namespace Go.G
open Go Go.J
set_option linter.unusedSimpArgs false
set_option linter.unusedVariables false
theorem bd3 (a:Int) (st:ab7) (pd:List (ByteArray × Int)) (mo:aB6) (rf:List Int) (hl:mo.length≤1000000):S9 a st pd mo rf=some ((ae1 (mo.map Prod.fst)).filter (O0 mo)):=by
 unfold S9 m7
 rw [if_pos (by omega),bk7 _ (by simp; omega),Option.bind_some,ag5 _ (fun x=>if O0 mo x then some x else none) _ (by
  intro i x s hx hs
  have hi:=(List.getElem?_eq_some_iff.1 hx).1
  rw [an0] at hi
  simp only [List.length_map] at hi
  unfold aq0
  rw [aT7,Option.bind_some]
  cases hm:O0 mo x
  ·simp
  ·rw [j9,Q7 (by simp; omega) (by omega)]; simp),Option.bind_some,D5]
 rw [← List.filterMap_eq_filter]
 congr 2
theorem bh2 (l:List TAct) (at_:Int) (hl:l.length≤2000):(j7 l at_).mo.length≤2000:=by
 have hc:=an9 at_ l 0
 have step:∀ (s:Bk) (z:Int) (x:TAct),(Y9 s z x).mo.length≤s.mo.length+1:=by
  intro s z x
  unfold Y9
  split
  ·unfold aP8
   cases x.Kind==1
   case true=>simp only [cond_true]; omega
   cases x.Kind==2
   case true=>simp only [cond_true,cond_false]; omega
   cases x.Kind==3
   case true=>simp only [cond_true,cond_false]; omega
   cases x.Kind==4
   case true=>exact aE5 _ _ _
   simp only [cond_false]
   cases lkM s.mo x.Motion with
   | none=>simp only; omega
   | some t =>
    simp only
    cases x.Kind==5
    ·cases x.Kind==6
     ·simp only [cond_false]; omega
     ·exact aE5 _ _ _
    ·exact aE5 _ _ _
  ·simp only; omega
 have key:∀ (t:List Int) (s:Bk),(t.foldl (ab8 l) s).mo.length≤s.mo.length+t.length:=by
  intro t
  induction t with
  | nil=>intro s; simp
  | cons z t ih =>
   intro s
   rw [List.foldl_cons,List.length_cons]
   have h1:=ih (ab8 l s z)
   have h2:(ab8 l s z).mo.length≤s.mo.length+1:=by
    unfold ab8
    split
    ·exact step _ _ _
    ·omega
   omega
 have:=key (W7 at_ 0 l) ⟨[],[],[],[]⟩
 simp only [List.length_nil] at this
 unfold j7
 omega
end Go.G
