/- J23: what the program does with a map of ours. No program in sight. -/
import Derived.Test.YtfgekmoffcobaaaGreatDoorJ22
import Derived.MapKept
namespace Go.J
open Go Go.RowKit
set_option linter.unusedSimpArgs false
set_option linter.unusedSectionVars false
section
variable {P : Program} {K : Type} [DecidableEq K] {kv : K → Value} {b : Nat} {l : List (K × Value)} {es : Array MapEntry} {clock : Nat} {w : World} {T E Tk : TypeId} {k : K} {z v : Value}
theorem MapAt.entry (m : MapAt kv b l es clock w) {i : Nat} {u : Value} (h : l[i]? = some (k, u)) : ∃ e, es.toList[i]? = some e ∧ e.key = kv k ∧ e.val = u := by
  have hj := congrArg (·[i]?) m.el
  simp only [List.getElem?_map, h] at hj
  cases he : es.toList[i]? with
  | none => rw [he] at hj; cases hj
  | some e =>
    rw [he] at hj
    simp at hj
    exact ⟨e, rfl, hj.1, hj.2⟩
theorem run_lookup_own (hT : P.underlying T = some (.map Tk E)) (hK : KeyF P Tk kv) (hz : ∀ w, (zeroValue E).run P w = .ok z w) (m : MapAt kv b l es clock w) (c : Bool) :
    (Instr.lookup T (.map (some b)) (kv k) c).run P w = .ok (if c then .tuple #[(lkM l k).getD z, .bool (hasM l k)] else (lkM l k).getD z) w := by
  rcases hK.find k w l es.toList m.el with ⟨i, v, h1, h2⟩ | ⟨h1, h2⟩
  · have h3 := lkM_some m.nd i h2
    have h4 : hasM l k = true := (hasM_iff l k).2 (List.mem_map.2 ⟨(k, v), List.mem_of_getElem? h2, rfl⟩)
    cases c <;> simp [Instr.lookup, run_underlying hT, MapKept.run_getObj_map m.heap, hK.chk, h1, h3, h4]
  · have h3 := lkM_none h2
    have h4 := hasM_none h2
    cases c <;> simp [Instr.lookup, run_underlying hT, MapKept.run_getObj_map m.heap, hK.chk, h1, h3, h4, hz]
theorem run_lookup_nil (hT : P.underlying T = some (.map Tk E)) (hK : KeyF P Tk kv) (hz : ∀ w, (zeroValue E).run P w = .ok z w) (c : Bool) :
    (Instr.lookup T (.map none) (kv k) c).run P w = .ok (if c then .tuple #[z, .bool false] else z) w := by
  rcases hK.find k w [] [] rfl with ⟨i, v, h1, h2⟩ | ⟨h1, h2⟩
  · cases h2
  · cases c <;> simp [Instr.lookup, run_underlying hT, hK.chk, h1, hz]
theorem keyStays (hK : KeyF P Tk kv) (k : K) (w : World) : (Instr.keyThatStays (kv k) (kv k)).run P w = .ok (kv k) w := by
  simp [Instr.keyThatStays, hK.same k]
theorem run_mapUpdate_own (hT : P.underlying T = some (.map Tk E)) (hK : KeyF P Tk kv) (m : MapAt kv b l es clock w) : ∃ es' clock', (Instr.mapUpdate T (.map (some b)) (kv k) v).run P w = .ok () (w.putObj b (.map es' clock')) ∧ MapAt kv b (putM l k v) es' clock' (w.putObj b (.map es' clock')) := by
  have hlt := (Array.getElem?_eq_some_iff.1 m.heap).1
  have hput : ∀ o : Obj, (setObj b o).run P w = .ok () (w.putObj b o) := fun o => by rw [MapKept.run_setObj_map o m.heap]; rfl
  rcases hK.find k w l es.toList m.el with ⟨i, u, h1, h2⟩ | ⟨h1, h2⟩
  · obtain ⟨e, he, hk, hv⟩ := m.entry h2
    have he' : es[i]? = some e := by simpa using he
    refine ⟨es.modify i fun e => { e with key := kv k, val := v }, clock, ?_, ?_⟩
    · simp [Instr.mapUpdate, run_underlying hT, MapKept.run_getObj_map m.heap, hK.chk, h1, he', hk, keyStays hK, hput]
    · rw [putM_at m.nd i h2]
      exact m.put h2 _ (fun e _ => ⟨rfl, rfl⟩) (fun _ => rfl) (World.putObj_heap_same hlt)
  · refine ⟨es.push ⟨kv k, v, clock⟩, clock + 1, ?_, ?_⟩
    · simp [Instr.mapUpdate, run_underlying hT, MapKept.run_getObj_map m.heap, hK.chk, h1, hput]
    · rw [putM_new h2]
      exact m.push h2 (World.putObj_heap_same hlt)
/-- 'm[k]' for 'm[k] op= x': the entry is there from now on -/
theorem run_mapEntry_own (hT : P.underlying T = some (.map Tk E)) (hK : KeyF P Tk kv) (hz : ∀ w, (zeroValue E).run P w = .ok z w) (m : MapAt kv b l es clock w) :
    ∃ es' clock' n, (Instr.mapEntry T (.map (some b)) (kv k)).run P w = .ok (.tuple #[(lkM l k).getD z, .int .i64 (n : Nat)]) (w.putObj b (.map es' clock')) ∧ MapAt kv b (putM l k ((lkM l k).getD z)) es' clock' (w.putObj b (.map es' clock')) ∧
      ∃ (i : Nat) (e : MapEntry), es'.toList[i]? = some e ∧ e.born = n ∧ ∃ v, (putM l k ((lkM l k).getD z))[i]? = some (k, v) := by
  have hlt := (Array.getElem?_eq_some_iff.1 m.heap).1
  have hput : ∀ o : Obj, (setObj b o).run P w = .ok () (w.putObj b o) := fun o => by rw [MapKept.run_setObj_map o m.heap]; rfl
  rcases hK.find k w l es.toList m.el with ⟨i, u, h1, h2⟩ | ⟨h1, h2⟩
  · obtain ⟨e, he, hk, hv⟩ := m.entry h2
    have he' : es[i]? = some e := by simpa using he
    have h3 : (lkM l k).getD z = u := by rw [lkM_some m.nd i h2]; rfl
    have hi : i < l.length := (List.getElem?_eq_some_iff.1 h2).1
    refine ⟨es.modify i fun e => { e with key := kv k }, clock, e.born, ?_, ?_, i, { e with key := kv k }, ?_, rfl, u, ?_⟩
    · rw [h3]
      simp [Instr.mapEntry, run_underlying hT, MapKept.run_getObj_map m.heap, hK.chk, h1, he', hk, keyStays hK, hput, goInt]
    · rw [h3, putM_at m.nd i h2]
      exact m.put h2 _ (fun e' he2 => ⟨rfl, by rw [he'] at he2; cases he2; exact hv⟩) (fun _ => rfl) (World.putObj_heap_same hlt)
    · simp [Array.toList_modify, List.getElem?_modify, he']
    · rw [h3, putM_at m.nd i h2]; simp [hi]
  · have h3 : (lkM l k).getD z = z := by rw [lkM_none h2]; rfl
    refine ⟨es.push ⟨kv k, z, clock⟩, clock + 1, clock, ?_, ?_, es.size, ⟨kv k, z, clock⟩, ?_, rfl, z, ?_⟩
    · rw [h3]
      simp [Instr.mapEntry, run_underlying hT, MapKept.run_getObj_map m.heap, hK.chk, h1, hz, hput, goInt]
    · rw [h3, putM_new h2]
      exact m.push h2 (World.putObj_heap_same hlt)
    · simp
    · rw [h3, putM_new h2]
      have := EL.len m.el
      simp at this
      simp [this]
theorem run_entryStore_own {n : Nat} (m : MapAt kv b l es clock w) {i : Nat} {e : MapEntry} (hi : es.toList[i]? = some e) (hb : e.born = n) {u : Value} (hl : l[i]? = some (k, u)) :
    ∃ es', (Instr.entryStore T (.map (some b)) (.int .i64 (n : Nat)) v).run P w = .ok () (w.putObj b (.map es' clock)) ∧ MapAt kv b (putM l k v) es' clock (w.putObj b (.map es' clock)) := by
  have hlt := (Array.getElem?_eq_some_iff.1 m.heap).1
  have hput : ∀ o : Obj, (setObj b o).run P w = .ok () (w.putObj b o) := fun o => by rw [MapKept.run_setObj_map o m.heap]; rfl
  have hii : i < es.size := by have := (List.getElem?_eq_some_iff.1 hi).1; simpa using this
  have hfi : es.findIdx? (fun e => (e.born : Int) == (n : Int)) = some i := by
    rw [Array.findIdx?_eq_some_iff_getElem]
    refine ⟨hii, ?_, fun j hj => ?_⟩
    · have := List.getElem?_eq_some_iff.1 hi
      have h2 : es[i] = e := by simpa using this.2
      rw [h2, hb]; simp
    · have hjs : j < es.size := by omega
      have hne : es[j].born ≠ n := fun h => by
        have h1 : (es.toList.map (·.born))[j]'(by simpa using hjs) = (es.toList.map (·.born))[i]'(by simpa using hii) := by
          have := (List.getElem?_eq_some_iff.1 hi).2
          simp only [List.getElem_map, Array.getElem_toList]
          rw [h]
          have h2 : es[i] = e := by simpa using this
          rw [h2, hb]
        exact absurd ((List.getElem_inj m.bnd).1 h1) (by omega)
      simp; omega
  obtain ⟨e2, he2, hk2, -⟩ := m.entry hl
  refine ⟨es.modify i fun e => { e with val := v }, ?_, ?_⟩
  · simp [Instr.entryStore, MapKept.run_getObj_map m.heap, asInt, asIntOf, hfi, hput]
  · rw [putM_at m.nd i hl]
    exact m.put hl _ (fun e' he' => ⟨by rw [Array.getElem?_toList] at he2; rw [he2] at he'; cases he'; exact hk2, rfl⟩) (fun _ => rfl) (World.putObj_heap_same hlt)
end
section
variable {P : Program} {Rp : Post} {Kk : List Lay} {N : NN} {l : Fr} {ops : Array Oper} {rest : List Oper} {d : Nat} {dd : Option Nat} {ty : Nat} {pos : String} {af : Array Edge} {g : Option (Nat × Bool)} {x y u : Operand} {T E Tk : TypeId} {c : Code}
variable {w0 : World} {M : List Nat} {A : Nat → Prop} {es : List Ent} {j b : Nat} {K V : Type} [DecidableEq K] {kv : K → Value} {vv : V → Value} {L : List (K × V)} {k : K} {v z : V} {mes : Array MapEntry} {mcl : Nat}
theorem Sat.swapO {w w' : World} {o o' : OW} (h : Sat w0 M A es w) (hk : nth es j = some (.obj o)) (h1 : o.ks = [b]) (h2 : o'.ks = [b]) (hc : Chg [b] w w') (hok : o'.ok w') : Sat w0 M A (setN es j (.obj o')) w' := by
  have hlt : b < w.heap.size := o.lt (h.objAt hk) b (by rw [h1]; exact List.mem_singleton.2 rfl)
  refine h.swap' hk (by show Chg o.ks w w'; rw [h1]; exact hc) hok (by show o'.ks.Nodup; rw [h2]; simp) (fun q hq => ?_) (fun F hF => by cases hF)
  have hq' : q ∈ o'.ks := hq
  rw [h2] at hq'
  rw [List.mem_singleton.1 hq']
  exact ⟨Nat.lt_of_lt_of_le hlt hc.size, .inr (by show b ∈ o.ks; rw [h1]; exact List.mem_singleton.2 rfl)⟩
theorem chg_put {w : World} {o o' : Obj} (_ : w.heap[b]? = some o) : Chg [b] w (w.putObj b o') := ⟨rfl, rfl, rfl, by simp, fun x _ hx => World.putObj_heap_other (fun e => hx (by simp [e]))⟩
theorem r_mkmap (kv : K → Value) (vv : V → Value) (hd : Nat.blt d N.n = true) (h : ∀ b, LJ P Rp ops rest Kk N ((d, .map (some b)) :: l) (Sat w0 M A (.obj (mapO kv b (mpV vv []) #[] 0) :: es))) :
    LJ P Rp ops (⟨some d, .makeMap T none, ty, pos, af, none⟩ :: rest) Kk N l (Sat w0 M A es) := by
  intro a w hf hw
  refine wpList_plain rfl fun K' hK => ?_
  unfold Oper.wp
  have : (execOp a.eval ⟨some d, .makeMap T none, ty, pos, af, none⟩).run P w = .ok (.value (.map (some w.heap.size))) (w.alloc (.map #[] 0)) := by
    simp [execOp, Instr.makeMap]
  rw [this]
  refine hK _ _ (h _ _ _ (hf.put hd _) ?_)
  have hal := hw.allocO (.map #[] 0)
  refine Sat.swapO (b := w.heap.size) (j := 0) hal rfl rfl rfl (Chg.refl _ _) ?_
  exact ⟨Go.heap_alloc_new w _, rfl, by simp [mpV], by simp, by simp⟩
theorem p_lkm (hT : P.underlying T = some (.map Tk E)) (hK : KeyF P Tk kv) (hz : ∀ w, (zeroValue E).run P w = .ok (vv z) w) (hj : FactAt es (MapAt kv b (mpV vv L) mes mcl)) (hx : ev l x = some (.map (some b))) (hy : ev l y = some (kv k)) :
    PureOp P N ⟨dd, .lookup T x y false, ty, pos, af, g⟩ l (Sat w0 M A es) (vv ((lkM L k).getD z)) := fun a w hf hw => by
  have m := hj.get hw
  have h := run_lookup_own (P := P) (k := k) hT hK hz m false
  rw [lkM_map] at h
  have e : (Option.map vv (lkM L k)).getD (vv z) = vv ((lkM L k).getD z) := by cases lkM L k <;> rfl
  simp only [e] at h
  simp [execOp, hf.ev hx, hf.ev hy, h]
theorem p_lko (hT : P.underlying T = some (.map Tk E)) (hK : KeyF P Tk kv) (hz : ∀ w, (zeroValue E).run P w = .ok (vv z) w) (hj : FactAt es (MapAt kv b (mpV vv L) mes mcl)) (hx : ev l x = some (.map (some b))) (hy : ev l y = some (kv k)) :
    PureOp P N ⟨dd, .lookup T x y true, ty, pos, af, g⟩ l (Sat w0 M A es) (.tuple #[vv ((lkM L k).getD z), .bool (hasM L k)]) := fun a w hf hw => by
  have m := hj.get hw
  have h := run_lookup_own (P := P) (k := k) hT hK hz m true
  rw [lkM_map, hasM_map] at h
  have e : (Option.map vv (lkM L k)).getD (vv z) = vv ((lkM L k).getD z) := by cases lkM L k <;> rfl
  simp only [e] at h
  simp [execOp, hf.ev hx, hf.ev hy, h]
theorem p_lenm (hT : P.underlying T = some (.map Tk E)) (hj : FactAt es (MapAt kv b (mpV vv L) mes mcl)) (hx : ev l x = some (.map (some b))) :
    PureOp P N ⟨dd, .call { callee := .builtin .len, args := #[x], argTypes := #[T] }, ty, pos, af, g⟩ l (Sat w0 M A es) (.int .i64 L.length) := fun a w hf hw => by
  have m := hj.get hw
  have hl := EL.len m.el
  have hl' : mes.size = L.length := by simpa [mpV] using hl
  simp [execOp, resolve, invoke, builtin, hf.ev hx, Builtin.len_, run_underlying hT, MapKept.run_getObj_map m.heap, hl', goInt]
theorem r_mpu (hT : P.underlying T = some (.map Tk E)) (hK : KeyF P Tk kv) (hj : nth es j = some (.obj (mapO kv b (mpV vv L) mes mcl))) (hx : ev l x = some (.map (some b))) (hy : ev l y = some (kv k)) (hu : ev l u = some (vv v))
    (h : ∀ es' cl', LJ P Rp ops rest Kk N l (Sat w0 M A (setN es j (.obj (mapO kv b (mpV vv (putM L k v)) es' cl'))))) :
    LJ P Rp ops (⟨none, .mapUpdate T x y u, ty, pos, af, none⟩ :: rest) Kk N l (Sat w0 M A es) := by
  intro a w hf hw
  refine wpList_plain rfl fun K' hKk => ?_
  unfold Oper.wp
  have m : MapAt kv b (mpV vv L) mes mcl w := hw.objAt hj
  obtain ⟨es2, cl2, h1, h2⟩ := run_mapUpdate_own (P := P) (k := k) (v := vv v) hT hK m
  have : (execOp a.eval ⟨none, .mapUpdate T x y u, ty, pos, af, none⟩).run P w = .ok .skip (w.putObj b (.map es2 cl2)) := by
    simp [execOp, hf.ev hx, hf.ev hy, hf.ev hu, h1]
  rw [this]
  rw [putM_map] at h2
  exact hKk _ _ (h es2 cl2 _ _ (hf.put_none undef) (Sat.swapO hw hj rfl rfl (chg_put m.heap) h2))
/-- an entry of a written-out map -/
theorem r_ins (hT : P.underlying T = some (.map Tk E)) (hK : KeyF P Tk kv) (hj : nth es j = some (.obj (mapO kv b (mpV vv L) mes mcl))) (hx : ev l x = some (.map (some b))) (hy : ev l y = some (kv k)) (hu : ev l u = some (vv v))
    (h : ∀ es' cl', LJ P Rp ops rest Kk N l (Sat w0 M A (setN es j (.obj (mapO kv b (mpV vv (putM L k v)) es' cl'))))) :
    LJ P Rp ops (⟨none, .insert T x y u, ty, pos, af, none⟩ :: rest) Kk N l (Sat w0 M A es) := by
  intro a w hf hw
  refine wpList_plain rfl fun K' hKk => ?_
  unfold Oper.wp
  have m : MapAt kv b (mpV vv L) mes mcl w := hw.objAt hj
  obtain ⟨es2, cl2, h1, h2⟩ := run_mapUpdate_own (P := P) (k := k) (v := vv v) hT hK m
  have : (execOp a.eval ⟨none, .insert T x y u, ty, pos, af, none⟩).run P w = .ok .skip (w.putObj b (.map es2 cl2)) := by
    simp [execOp, hf.ev hx, hf.ev hy, hf.ev hu, h1]
  rw [this]
  rw [putM_map] at h2
  exact hKk _ _ (h es2 cl2 _ _ (hf.put_none undef) (Sat.swapO hw hj rfl rfl (chg_put m.heap) h2))
theorem r_mpe (hT : P.underlying T = some (.map Tk E)) (hK : KeyF P Tk kv) (hz : ∀ w, (zeroValue E).run P w = .ok (vv z) w) (hj : nth es j = some (.obj (mapO kv b (mpV vv L) mes mcl))) (hx : ev l x = some (.map (some b))) (hy : ev l y = some (kv k)) (hd : Nat.blt d N.n = true)
    (h : ∀ (n : Nat) es' cl', BornAt (mpV vv (putM L k ((lkM L k).getD z))) es' k n → LJ P Rp ops rest Kk N ((d, .tuple #[vv ((lkM L k).getD z), .int .i64 n]) :: l) (Sat w0 M A (setN es j (.obj (mapO kv b (mpV vv (putM L k ((lkM L k).getD z))) es' cl'))))) :
    LJ P Rp ops (⟨some d, .mapEntry T x y, ty, pos, af, none⟩ :: rest) Kk N l (Sat w0 M A es) := by
  intro a w hf hw
  refine wpList_plain rfl fun K' hKk => ?_
  unfold Oper.wp
  have m : MapAt kv b (mpV vv L) mes mcl w := hw.objAt hj
  obtain ⟨es2, cl2, n, h1, h2, h3⟩ := run_mapEntry_own (P := P) (k := k) hT hK hz m
  have e : (lkM (mpV vv L) k).getD (vv z) = vv ((lkM L k).getD z) := by rw [lkM_map]; cases lkM L k <;> rfl
  rw [e] at h1
  rw [e, putM_map] at h2 h3
  have : (execOp a.eval ⟨some d, .mapEntry T x y, ty, pos, af, none⟩).run P w = .ok (.value (.tuple #[vv ((lkM L k).getD z), .int .i64 n])) (w.putObj b (.map es2 cl2)) := by
    simp [execOp, hf.ev hx, hf.ev hy, h1]
  rw [this]
  exact hKk _ _ (h n es2 cl2 h3 _ _ (hf.put hd _) (Sat.swapO hw hj rfl rfl (chg_put m.heap) h2))
theorem putM_putM {V : Type} (L : List (K × V)) (k : K) (u v : V) : putM (putM L k u) k v = putM L k v := by
  unfold putM
  by_cases h : hasM L k = true
  · have h2 : hasM (L.map fun p => if p.1 = k then (k, u) else p) k = true := by
      rw [hasM_iff] at h ⊢
      obtain ⟨p, hp, e⟩ := List.mem_map.1 h
      exact List.mem_map.2 ⟨(k, u), List.mem_map.2 ⟨p, hp, by rw [if_pos e]⟩, rfl⟩
    rw [if_pos h, if_pos h2, if_pos h, List.map_map]
    refine List.map_congr_left fun p _ => ?_
    simp only [Function.comp]
    by_cases e : p.1 = k <;> simp [e]
  · have h2 : hasM (L ++ [(k, u)]) k = true := by
      rw [hasM_iff]; simp
    rw [if_neg h, if_pos h2, if_neg h, List.map_append]
    have h3 : L.map (fun p => if p.1 = k then (k, v) else p) = L := by
      refine (List.map_congr_left fun p hp => ?_).trans (List.map_id L)
      have : p.1 ≠ k := fun e => h ((hasM_iff L k).2 (List.mem_map.2 ⟨p, hp, e⟩))
      simp [this]
    rw [h3]; simp
theorem r_ens {n : Nat} {u0 : V} (hj : nth es j = some (.obj (mapO kv b (mpV vv (putM L k u0)) mes mcl))) (hB : BornAt (mpV vv (putM L k u0)) mes k n) (hx : ev l x = some (.map (some b))) (hy : ev l y = some (.int .i64 n)) (hu : ev l u = some (vv v))
    (h : ∀ es' cl', LJ P Rp ops rest Kk N l (Sat w0 M A (setN es j (.obj (mapO kv b (mpV vv (putM L k v)) es' cl'))))) :
    LJ P Rp ops (⟨none, .entryStore T x y u, ty, pos, af, none⟩ :: rest) Kk N l (Sat w0 M A es) := by
  intro a w hf hw
  refine wpList_plain rfl fun K' hKk => ?_
  unfold Oper.wp
  have m : MapAt kv b (mpV vv (putM L k u0)) mes mcl w := hw.objAt hj
  obtain ⟨i, e, h1, h2, u', h3⟩ := hB
  obtain ⟨es2, h4, h5⟩ := run_entryStore_own (P := P) (T := T) (v := vv v) m h1 h2 h3
  have : (execOp a.eval ⟨none, .entryStore T x y u, ty, pos, af, none⟩).run P w = .ok .skip (w.putObj b (.map es2 mcl)) := by
    simp [execOp, hf.ev hx, hf.ev hy, hf.ev hu, h4]
  rw [this]
  rw [putM_map, putM_putM] at h5
  exact hKk _ _ (h es2 mcl _ _ (hf.put_none undef) (Sat.swapO hw hj rfl rfl (chg_put m.heap) h5))
end
end Go.J
