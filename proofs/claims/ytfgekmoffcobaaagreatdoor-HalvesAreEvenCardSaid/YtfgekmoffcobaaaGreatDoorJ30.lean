/- J30: maps whose values lead to more of ours (rows of things, blocks with maps of their own): the map and all that its values lead to are one object. No program in sight. -/
import Derived.Test.YtfgekmoffcobaaaGreatDoorJ29
namespace Go.J
open Go Go.RowKit
set_option linter.unusedSimpArgs false
set_option linter.unusedSectionVars false
section
variable {K X G : Type} [DecidableEq K]
/-! ### the plain side -/
def repM {V : Type} (l : List (K × V)) (k : K) (v : V) : List (K × V) := l.map fun p => if p.1 = k then (k, v) else p
theorem repM_keys {V : Type} (l : List (K × V)) (k : K) (v : V) : (repM l k v).map Prod.fst = l.map Prod.fst := by
  unfold repM
  rw [List.map_map]
  refine List.map_congr_left fun p _ => ?_
  simp only [Function.comp]
  by_cases h : p.1 = k <;> simp [h]
theorem repM_map {V V' : Type} (f : V → V') (l : List (K × V)) (k : K) (v : V) : repM (mpV f l) k (f v) = mpV f (repM l k v) := by
  unfold repM mpV
  rw [List.map_map, List.map_map]
  refine List.map_congr_left fun p _ => ?_
  simp only [Function.comp]
  by_cases h : p.1 = k <;> simp [h]
theorem repM_put {V : Type} {l : List (K × V)} {k : K} (h : hasM l k = true) (v : V) : putM l k v = repM l k v := by unfold putM repM; rw [if_pos h]
theorem repM_none {V : Type} {l : List (K × V)} {k : K} (h : lkM l k = none) (v : V) : repM l k v = l := by
  unfold repM
  refine (List.map_congr_left fun p hp => ?_).trans (List.map_id l)
  have : p.1 ≠ k := fun e => by
    unfold lkM at h
    rw [Option.map_eq_none_iff, List.find?_eq_none] at h
    exact h p hp (by simp [e])
  simp [this]
theorem repM_same {V : Type} {l : List (K × V)} {k : K} {v : V} (hn : (l.map Prod.fst).Nodup) (h : lkM l k = some v) : repM l k v = l := by
  unfold repM
  refine (List.map_congr_left fun p hp => ?_).trans (List.map_id l)
  by_cases e : p.1 = k
  · obtain ⟨i, hi, he⟩ := List.getElem_of_mem hp
    have : lkM l k = some p.2 := lkM_some hn i (by rw [List.getElem?_eq_getElem hi, he, ← e])
    rw [h] at this
    cases this
    simp only [e, if_true]
    rw [← e]; rfl
  · simp [e]
theorem lkM_has {V : Type} (l : List (K × V)) (k : K) : hasM l k = (lkM l k).isSome := by
  unfold hasM lkM
  rw [Option.isSome_map, Bool.eq_iff_iff, List.find?_isSome, List.any_eq_true]
theorem lkM_mem {V : Type} {l : List (K × V)} {k : K} {v : V} (h : lkM l k = some v) : (k, v) ∈ l := by
  unfold lkM at h
  cases hf : l.find? fun p => decide (p.1 = k) with
  | none => rw [hf] at h; cases h
  | some p =>
    rw [hf] at h
    cases h
    have h1 := List.find?_some hf
    have h2 := List.mem_of_find?_eq_some hf
    simp at h1
    rw [← h1]; exact h2
theorem lkM_put_same {V : Type} (l : List (K × V)) (k : K) (v : V) : lkM (putM l k v) k = some v := by
  unfold putM
  by_cases h : hasM l k = true
  · rw [if_pos h]
    induction l with
    | nil => simp [hasM] at h
    | cons p l ih =>
      by_cases e : p.1 = k
      · simp [lkM, List.find?_cons, e]
      · have h' : hasM l k = true := by simpa [hasM, e] using h
        have := ih h'
        unfold lkM at this ⊢
        simp only [List.map_cons, e, if_false, List.find?_cons, decide_eq_false e]
        exact this
  · rw [if_neg h]
    have : lkM l k = none := by rw [lkM_has] at h; simpa using h
    unfold lkM at this ⊢
    rw [Option.map_eq_none_iff] at this
    rw [List.find?_append, this]
    simp
/-- two maps with the same keys are one map of pairs -/
theorem zipT {V W : Type} : ∀ {xs : List (K × V)} {Z : List (K × W)}, xs.map Prod.fst = Z.map Prod.fst → ∃ T : List (K × (V × W)), xs = mpV Prod.fst T ∧ Z = mpV Prod.snd T := by
  intro xs
  induction xs with
  | nil => intro Z h; cases Z with
    | nil => exact ⟨[], rfl, rfl⟩
    | cons z Z => cases h
  | cons x xs ih => intro Z h; cases Z with
    | nil => cases h
    | cons z Z =>
      simp only [List.map_cons, List.cons.injEq] at h
      obtain ⟨T, h1, h2⟩ := ih h.2
      exact ⟨(x.1, (x.2, z.2)) :: T, by rw [h1]; rfl, by rw [h2, mpV, mpV, List.map_cons, h.1]⟩
/-! ### what the values lead to -/
theorem flatMap_congr {α : Type} {β : Type _} {l : List α} {f g : α → List β} (h : ∀ x ∈ l, f x = g x) : l.flatMap f = l.flatMap g := by
  induction l with
  | nil => rfl
  | cons x l ih => rw [List.flatMap_cons, List.flatMap_cons, h x (List.mem_cons_self ..), ih fun y hy => h y (List.mem_cons_of_mem _ hy)]
def famEs (ents : X → G → List Ent) (xs : List (K × X)) (Z : List (K × G)) (hol : Option K) : List Ent :=
  (xs.zip Z).flatMap fun p => if hol = some p.1.1 then [] else ents p.1.2 p.2.2
def fem (ents : X → G → List Ent) (hol : Option K) (t : K × (X × G)) : List Ent := if hol = some t.1 then [] else ents t.2.1 t.2.2
theorem famEs_T (ents : X → G → List Ent) (T : List (K × (X × G))) (hol : Option K) : famEs ents (mpV Prod.fst T) (mpV Prod.snd T) hol = T.flatMap (fem ents hol) := by
  unfold famEs
  induction T with
  | nil => rfl
  | cons t T ih =>
    have : (mpV Prod.fst (t :: T)).zip (mpV Prod.snd (t :: T)) = ((t.1, t.2.1), (t.1, t.2.2)) :: (mpV Prod.fst T).zip (mpV Prod.snd T) := rfl
    rw [this, List.flatMap_cons, List.flatMap_cons, ih]
    rfl
theorem fem_none {ents : X → G → List Ent} {k : K} {T : List (K × (X × G))} (h : lkM T k = none) : T.flatMap (fem ents none) = T.flatMap (fem ents (some k)) := by
  refine flatMap_congr fun t ht => ?_
  have : t.1 ≠ k := fun e => by
    unfold lkM at h
    rw [Option.map_eq_none_iff, List.find?_eq_none] at h
    exact h t ht (by simp [e])
  unfold fem
  rw [if_neg (by simp), if_neg (by simpa using fun e => this e.symm)]
theorem fem_some {ents : X → G → List Ent} {k : K} {v : X × G} : ∀ {T : List (K × (X × G))}, (T.map Prod.fst).Nodup → lkM T k = some v → (T.flatMap (fem ents none)).Perm (ents v.1 v.2 ++ T.flatMap (fem ents (some k))) := by
  intro T
  induction T with
  | nil => intro _ h; cases h
  | cons t T ih =>
    intro hn h
    simp only [List.map_cons, List.nodup_cons] at hn
    rw [List.flatMap_cons, List.flatMap_cons]
    by_cases e : t.1 = k
    · have hv : t.2 = v := by
        unfold lkM at h
        rw [List.find?_cons, decide_eq_true e] at h
        exact Option.some.inj h
      have hno : lkM T k = none := lkM_none fun p hp e' => hn.1 (by rw [e, ← e']; exact List.mem_map_of_mem hp)
      rw [fem_none hno]
      subst hv
      have h1 : fem ents (none : Option K) t = ents t.2.1 t.2.2 := if_neg (by simp)
      have h2 : fem ents (some k) t = [] := if_pos (by rw [e])
      rw [h1, h2, List.nil_append]
    · have h' : lkM T k = some v := by
        unfold lkM at h ⊢
        rw [List.find?_cons, decide_eq_false e] at h
        exact h
      have h1 : fem ents (none : Option K) t = ents t.2.1 t.2.2 := if_neg (by simp)
      have h2 : fem ents (some k) t = ents t.2.1 t.2.2 := if_neg (by simpa using fun e' => e e'.symm)
      rw [h1, h2]
      refine ((ih hn.2 h').append_left _).trans ?_
      rw [← List.append_assoc, ← List.append_assoc]
      exact List.Perm.append_right _ List.perm_append_comm
theorem fem_put {ents : X → G → List Ent} {k : K} {v : X × G} {T : List (K × (X × G))} : (putM T k v).flatMap (fem ents (some k)) = T.flatMap (fem ents (some k)) := by
  unfold putM
  split
  · rw [List.flatMap_map]
    refine flatMap_congr fun t _ => ?_
    by_cases e : t.1 = k
    · have h1 : fem ents (some k) t = [] := if_pos (by rw [e])
      rw [h1]; simp [e, fem]
    · simp [e]
  · rw [List.flatMap_append]
    simp [fem]
variable (kv : K → Value) (vv : G → Value) (ents : X → G → List Ent) (b : Nat)
structure FamAt (xs : List (K × X)) (Z : List (K × G)) (hol : Option K) (es : Array MapEntry) (cl : Nat) (w : World) : Prop where
  map : MapAt kv b (mpV vv Z) es cl w
  kys : xs.map Prod.fst = Z.map Prod.fst
  own : ∀ e ∈ famEs ents xs Z hol, e.okx w
def famO (xs : List (K × X)) (Z : List (K × G)) (hol : Option K) (es : Array MapEntry) (cl : Nat) : OW := {
  ks := b :: keys (famEs ents xs Z hol)
  ok := FamAt kv vv ents b xs Z hol es cl
  stay := fun {w w'} h m => ⟨(mapO kv b (mpV vv Z) es cl).stay (fun k hk => h k (by rw [List.mem_singleton.1 hk]; exact List.mem_cons_self ..)) m.map, m.kys,
    fun e he => Ent.okx_of_block (m.own e he) fun k hk => h k (List.mem_cons_of_mem _ (mem_keys.2 ⟨e, he, hk⟩))⟩
  lt := fun {w} m k hk => by
    rcases List.mem_cons.1 hk with rfl | hk
    · exact (Array.getElem?_eq_some_iff.1 m.map.heap).1
    · obtain ⟨e, he, hek⟩ := mem_keys.1 hk
      exact Ent.okx_lt (m.own e he) hek }
variable {kv vv ents b}
theorem FamAt.ndZ {xs : List (K × X)} {Z : List (K × G)} {hol : Option K} {es : Array MapEntry} {cl : Nat} {w : World} (m : FamAt kv vv ents b xs Z hol es cl w) : (Z.map Prod.fst).Nodup := by
  have := m.map.nd
  rwa [show (mpV vv Z).map Prod.fst = Z.map Prod.fst by unfold mpV; rw [List.map_map]; rfl] at this
theorem FamAt.has {xs : List (K × X)} {Z : List (K × G)} {hol : Option K} {es : Array MapEntry} {cl : Nat} {w : World} (m : FamAt kv vv ents b xs Z hol es cl w) (k : K) : hasM Z k = hasM xs k := by
  rw [Bool.eq_iff_iff, hasM_iff, hasM_iff, m.kys]
theorem FamAt.len {xs : List (K × X)} {Z : List (K × G)} {hol : Option K} {es : Array MapEntry} {cl : Nat} {w : World} (m : FamAt kv vv ents b xs Z hol es cl w) : Z.length = xs.length := by
  have := congrArg List.length m.kys
  simpa using this.symm
theorem FamAt.lk {xs : List (K × X)} {Z : List (K × G)} {hol : Option K} {es : Array MapEntry} {cl : Nat} {w : World} (m : FamAt kv vv ents b xs Z hol es cl w) (k : K) :
    (lkM xs k = none ∧ lkM Z k = none) ∨ ∃ x g, lkM xs k = some x ∧ lkM Z k = some g := by
  have h := m.has k
  rw [lkM_has, lkM_has] at h
  cases h1 : lkM xs k with
  | none => rw [h1] at h; left; exact ⟨rfl, by simpa using h⟩
  | some x =>
    rw [h1] at h
    cases h2 : lkM Z k with
    | none => rw [h2] at h; cases h
    | some g => exact .inr ⟨x, g, rfl, rfl⟩
/-- the entries at a key, apart -/
theorem famEs_take {xs : List (K × X)} {Z : List (K × G)} {k : K} {x : X} {g : G} (hk : xs.map Prod.fst = Z.map Prod.fst) (hn : (Z.map Prod.fst).Nodup) (hx : lkM xs k = some x) (hg : lkM Z k = some g) :
    (famEs ents xs Z none).Perm (ents x g ++ famEs ents xs Z (some k)) := by
  obtain ⟨T, rfl, rfl⟩ := zipT hk
  have hT : (T.map Prod.fst).Nodup := by rwa [show (mpV Prod.snd T).map Prod.fst = T.map Prod.fst by unfold mpV; rw [List.map_map]; rfl] at hn
  rw [lkM_map] at hx hg
  cases hv : lkM T k with
  | none => rw [hv] at hx; cases hx
  | some v =>
    rw [hv] at hx hg
    cases hx; cases hg
    rw [famEs_T, famEs_T]
    exact fem_some hT hv
theorem famEs_none {xs : List (K × X)} {Z : List (K × G)} {k : K} (hk : xs.map Prod.fst = Z.map Prod.fst) (hx : lkM xs k = none) : famEs ents xs Z none = famEs ents xs Z (some k) := by
  obtain ⟨T, rfl, rfl⟩ := zipT hk
  rw [lkM_map] at hx
  have hv : lkM T k = none := by simpa using hx
  rw [famEs_T, famEs_T]
  exact fem_none hv
theorem putM_nodup {V : Type} {l : List (K × V)} (h : (l.map Prod.fst).Nodup) (k : K) (v : V) : ((putM l k v).map Prod.fst).Nodup := by
  rw [putM_keys]
  split
  · exact h
  · rename_i hh
    rw [List.nodup_append]
    refine ⟨h, by simp, fun a ha c hc => ?_⟩
    simp at hc; subst hc
    exact fun e => hh ((hasM_iff l _).2 (e ▸ ha))
theorem famEs_put {xs : List (K × X)} {Z : List (K × G)} {k : K} {x : X} {g : G} (hk : xs.map Prod.fst = Z.map Prod.fst) (hn : (Z.map Prod.fst).Nodup) :
    (famEs ents (putM xs k x) (putM Z k g) none).Perm (ents x g ++ famEs ents xs Z (some k)) := by
  obtain ⟨T, rfl, rfl⟩ := zipT hk
  have hT : (T.map Prod.fst).Nodup := by rwa [show (mpV Prod.snd T).map Prod.fst = T.map Prod.fst by unfold mpV; rw [List.map_map]; rfl] at hn
  rw [show putM (mpV Prod.fst T) k x = mpV Prod.fst (putM T k (x, g)) from putM_map Prod.fst T k (x, g), show putM (mpV Prod.snd T) k g = mpV Prod.snd (putM T k (x, g)) from putM_map Prod.snd T k (x, g), famEs_T, famEs_T]
  have h1 := fem_some (ents := ents) (putM_nodup hT k (x, g)) (lkM_put_same T k (x, g))
  rw [fem_put] at h1
  exact h1
theorem famEs_rep {xs : List (K × X)} {Z : List (K × G)} {k : K} {x : X} {g : G} (hk : xs.map Prod.fst = Z.map Prod.fst) (hn : (Z.map Prod.fst).Nodup) (hg : lkM Z k = some g) :
    (famEs ents (repM xs k x) Z none).Perm (ents x g ++ famEs ents xs Z (some k)) := by
  have hh : hasM xs k = true := by rw [hasM_iff, hk, ← hasM_iff, lkM_has, hg]; rfl
  have hz : hasM Z k = true := by rw [lkM_has, hg]; rfl
  have h := famEs_put (ents := ents) (k := k) (x := x) (g := g) hk hn
  rw [repM_put hh, repM_put hz, repM_same hn hg] at h
  exact h
end
/-! ### the lists of what is ours, grouped anew -/
section
variable {w0 w w' : World} {M : List Nat} {A : Nat → Prop} {es es' rs : List Ent}
theorem Sat.regroup (h : Sat w0 M A es w) (hk : (keys es').Nodup) (hsub : ∀ k ∈ keys es', k ∈ keys es) (hok : ∀ e ∈ es', e.okx w) (hro : ∀ F, Ent.ro F ∈ es' → Ent.ro F ∈ es) : Sat w0 M A es' w :=
  ⟨h.chg, h.dis, hk, fun k hk' => h.fresh k (hsub k hk'), hok, fun e he => by
    cases e with
    | ro F => exact okr_congr (h.okr _ (hro F he)) fun _ hb => hsub _ hb
    | box b T cs => trivial
    | row R v xs => trivial
    | obj o => trivial⟩
/-- the entries 'a' in front become the entries 'a'' with (some of) the same blocks -/
theorem Sat.front {a a' : List Ent} (h : Sat w0 M A (a ++ rs) w) (hp : ∃ r, (keys a).Perm (keys a' ++ r)) (hok : ∀ e ∈ a', e.okx w) (hro : ∀ F, Ent.ro F ∉ a') : Sat w0 M A (a' ++ rs) w := by
  obtain ⟨r, hp⟩ := hp
  have hn := h.nodup
  rw [keys_append] at hn
  have hp2 : (keys a ++ keys rs).Perm (r ++ (keys a' ++ keys rs)) := by
    refine (hp.append_right _).trans ?_
    rw [← List.append_assoc]
    exact List.Perm.append_right _ List.perm_append_comm
  have hn2 := hp2.nodup_iff.1 hn
  rw [List.nodup_append] at hn2
  refine h.regroup (by rw [keys_append]; exact hn2.2.1) (fun k hk => ?_) (fun e he => ?_) (fun F hF => ?_)
  · rw [keys_append] at hk ⊢
    exact hp2.symm.subset (List.mem_append_right _ hk)
  · rcases List.mem_append.1 he with q | q
    · exact hok e q
    · exact h.okx e (List.mem_append_right _ q)
  · rcases List.mem_append.1 hF with q | q
    · exact absurd q (hro F)
    · exact List.mem_append_right _ q
end
section
variable {w0 w w' : World} {M : List Nat} {A : Nat → Prop} {es es' rs : List Ent} {K X G : Type} [DecidableEq K] {kv : K → Value} {vv : G → Value} {ents : X → G → List Ent} {b : Nat} {xs : List (K × X)} {Z : List (K × G)} {hol : Option K} {mes : Array MapEntry} {mcl : Nat} {k : K} {x : X} {g : G}
theorem keys_one (o : OW) : keys [Ent.obj o] = o.ks := by simp [keys, Ent.kl]
/-- what a value leads to is taken out -/
theorem Sat.famTake (h : Sat w0 M A (.obj (famO kv vv ents b xs Z none mes mcl) :: rs) w) (hx : lkM xs k = some x) (hg : lkM Z k = some g) (hro : ∀ F, Ent.ro F ∉ ents x g) :
    Sat w0 M A (ents x g ++ (.obj (famO kv vv ents b xs Z (some k) mes mcl) :: rs)) w := by
  have m : FamAt kv vv ents b xs Z none mes mcl w := h.okx _ (List.mem_cons_self ..)
  have hp := famEs_take (ents := ents) m.kys m.ndZ hx hg
  have h2 := h.front (a := [.obj (famO kv vv ents b xs Z none mes mcl)]) (a' := ents x g ++ [.obj (famO kv vv ents b xs Z (some k) mes mcl)]) (rs := rs) ⟨[], ?_⟩ ?_ ?_
  · simpa using h2
  · rw [keys_one, keys_append, keys_one, List.append_nil]
    show (b :: keys (famEs ents xs Z none)).Perm (keys (ents x g) ++ (b :: keys (famEs ents xs Z (some k))))
    refine List.Perm.trans ?_ List.perm_middle.symm
    refine List.Perm.cons b ?_
    have := keys_perm hp
    rwa [keys_append] at this
  · intro e he
    rcases List.mem_append.1 he with q | q
    · exact m.own e (hp.symm.subset (List.mem_append_left _ q))
    · rw [List.mem_singleton.1 q]
      exact ⟨m.map, m.kys, fun e' he' => m.own e' (hp.symm.subset (List.mem_append_right _ he'))⟩
  · intro F hF
    rcases List.mem_append.1 hF with q | q
    · exact hro F q
    · simp at q
/-- .. and given back -/
theorem Sat.famGive (h : Sat w0 M A (.obj (famO kv vv ents b xs Z (some k) mes mcl) :: (ents x g ++ rs)) w) (hg : lkM Z k = some g) :
    Sat w0 M A (.obj (famO kv vv ents b (repM xs k x) Z none mes mcl) :: rs) w := by
  have m : FamAt kv vv ents b xs Z (some k) mes mcl w := h.okx _ (List.mem_cons_self ..)
  have hp := famEs_rep (ents := ents) (x := x) m.kys m.ndZ hg
  have h' : Sat w0 M A (([.obj (famO kv vv ents b xs Z (some k) mes mcl)] ++ ents x g) ++ rs) w := by simpa using h
  refine h'.front (a' := [.obj (famO kv vv ents b (repM xs k x) Z none mes mcl)]) ⟨[], ?_⟩ ?_ ?_
  · rw [keys_one, keys_append, keys_one, List.append_nil]
    show ((b :: keys (famEs ents xs Z (some k))) ++ keys (ents x g)).Perm (b :: keys (famEs ents (repM xs k x) Z none))
    rw [List.cons_append]
    refine List.Perm.cons b ?_
    have := keys_perm hp
    rw [keys_append] at this
    exact List.perm_append_comm.trans this.symm
  · intro e he
    rw [List.mem_singleton.1 he]
    refine ⟨m.map, (repM_keys _ _ _).trans m.kys, fun e' he' => ?_⟩
    rcases List.mem_append.1 (hp.subset he') with q | q
    · exact h.okx e' (List.mem_cons_of_mem _ (List.mem_append_left _ q))
    · exact m.own e' q
  · intro F hF; simp at hF
/-- what is to be put in, and what the map leads to beside it, as one object -/
def famP (kv : K → Value) (vv : G → Value) (ents : X → G → List Ent) (b : Nat) (Z : List (K × G)) (xs' : List (K × X)) (Z' : List (K × G)) (es : Array MapEntry) (cl : Nat) : OW := {
  ks := b :: keys (famEs ents xs' Z' none)
  ok := fun w => MapAt kv b (mpV vv Z) es cl w ∧ ∀ e ∈ famEs ents xs' Z' none, e.okx w
  stay := fun {w w'} h m => ⟨(mapO kv b (mpV vv Z) es cl).stay (fun k hk => h k (by rw [List.mem_singleton.1 hk]; exact List.mem_cons_self ..)) m.1,
    fun e he => Ent.okx_of_block (m.2 e he) fun k hk => h k (List.mem_cons_of_mem _ (mem_keys.2 ⟨e, he, hk⟩))⟩
  lt := fun {w} m k hk => by
    rcases List.mem_cons.1 hk with rfl | hk
    · exact (Array.getElem?_eq_some_iff.1 m.1.heap).1
    · obtain ⟨e, he, hek⟩ := mem_keys.1 hk
      exact Ent.okx_lt (m.2 e he) hek }
theorem Sat.famPend (h : Sat w0 M A (.obj (famO kv vv ents b xs Z hol mes mcl) :: (ents x g ++ rs)) w) (hh : hol = none ∨ hol = some k) :
    Sat w0 M A (.obj (famP kv vv ents b Z (putM xs k x) (putM Z k g) mes mcl) :: rs) w := by
  have m : FamAt kv vv ents b xs Z hol mes mcl w := h.okx _ (List.mem_cons_self ..)
  have hp := famEs_put (ents := ents) (k := k) (x := x) (g := g) m.kys m.ndZ
  have hsub : ∃ r, (famEs ents xs Z hol).Perm (r ++ famEs ents xs Z (some k)) := by
    rcases hh with rfl | rfl
    · rcases m.lk k with ⟨h1, h2⟩ | ⟨x', g', h1, h2⟩
      · exact ⟨[], by rw [← famEs_none m.kys h1]; exact List.Perm.refl _⟩
      · exact ⟨_, famEs_take (ents := ents) m.kys m.ndZ h1 h2⟩
    · exact ⟨[], List.Perm.refl _⟩
  obtain ⟨r, hr⟩ := hsub
  have h' : Sat w0 M A (([.obj (famO kv vv ents b xs Z hol mes mcl)] ++ ents x g) ++ rs) w := by simpa using h
  refine h'.front (a' := [.obj (famP kv vv ents b Z (putM xs k x) (putM Z k g) mes mcl)]) ⟨keys r, ?_⟩ ?_ ?_
  · rw [keys_append, keys_one, keys_one]
    show ((b :: keys (famEs ents xs Z hol)) ++ keys (ents x g)).Perm ((b :: keys (famEs ents (putM xs k x) (putM Z k g) none)) ++ keys r)
    rw [List.cons_append, List.cons_append]
    refine List.Perm.cons b ?_
    have e1 := keys_perm hr
    have e2 := keys_perm hp
    rw [keys_append] at e1 e2
    refine (e1.append_right _).trans (List.Perm.trans ?_ (e2.symm.append_right _))
    rw [List.append_assoc]
    refine List.perm_append_comm.trans ?_
    exact List.Perm.append_right _ List.perm_append_comm
  · intro e he
    rw [List.mem_singleton.1 he]
    refine ⟨m.map, fun e' he' => ?_⟩
    rcases List.mem_append.1 (hp.subset he') with q | q
    · exact h.okx e' (List.mem_cons_of_mem _ (List.mem_append_left _ q))
    · exact m.own e' (hr.symm.subset (List.mem_append_right _ q))
  · intro F hF; simp at hF
theorem Sat.famPut {es2 : Array MapEntry} {cl2 : Nat} (h : Sat w0 M A (.obj (famP kv vv ents b Z (putM xs k x) (putM Z k g) mes mcl) :: rs) w) (hk : xs.map Prod.fst = Z.map Prod.fst)
    (h2 : MapAt kv b (mpV vv (putM Z k g)) es2 cl2 (w.putObj b (.map es2 cl2))) : Sat w0 M A (.obj (famO kv vv ents b (putM xs k x) (putM Z k g) none es2 cl2) :: rs) (w.putObj b (.map es2 cl2)) := by
  have m := (h.okx _ (List.mem_cons_self ..) : (famP kv vv ents b Z (putM xs k x) (putM Z k g) mes mcl).ok w)
  have hnd := h.nodup
  rw [keys_cons, List.nodup_append] at hnd
  have hnd1 : (b :: keys (famEs ents (putM xs k x) (putM Z k g) none)).Nodup := hnd.1
  have hlt := (Array.getElem?_eq_some_iff.1 m.1.heap).1
  have hc : Chg [b] w (w.putObj b (.map es2 cl2)) := chg_put m.1.heap
  refine h.swap' (k := 0) (e' := .obj (famO kv vv ents b (putM xs k x) (putM Z k g) none es2 cl2)) rfl ?_ ?_ hnd1 ?_ (fun F hF => by cases hF)
  · exact ⟨hc.os, hc.tape, hc.output, hc.size, fun c hc' hn => hc.block c hc' (fun hm => hn (by rw [List.mem_singleton.1 hm]; exact List.mem_cons_self ..))⟩
  · refine ⟨h2, by rw [putM_keys, putM_keys, hk, show hasM xs k = hasM Z k by rw [Bool.eq_iff_iff, hasM_iff, hasM_iff, hk]], fun e he => Ent.okx_of_block (m.2 e he) fun c hcc => ?_⟩
    refine hc.block c (Ent.okx_lt (m.2 e he) hcc) (fun hm => ?_)
    rw [List.mem_singleton.1 hm] at hcc
    exact (List.nodup_cons.1 hnd1).1 (mem_keys.2 ⟨e, he, hcc⟩)
  · intro c hcc
    exact ⟨Nat.lt_of_lt_of_le ((famP kv vv ents b Z (putM xs k x) (putM Z k g) mes mcl).lt m c hcc) hc.size, .inr hcc⟩
end
end Go.J
