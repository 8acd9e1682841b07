/- J29: room made ahead (slices.Grow of nil): cap of nil, append(nil, make(..)...), the cut of that room. No program in sight. -/
import Derived.Test.YtfgekmoffcobaaaGreatDoorJ28
import Derived.Lib.AppendZeros
namespace Go.G
open Go Go.J
set_option linter.unusedSimpArgs false
/-- how often a closure may call itself -/
@[irreducible] def FUEL : Nat := 100000
/-- a row that was grown from nil by n: too long fails -/
def growM (by_ : Nat) (n : Int) : Option Unit := if 0 < n ∧ n.toNat * by_ ≤ 140737488355328 ∧ n.toNat ≤ maxLen then some () else none
theorem growM_spec {by_ : Nat} {n : Int} {u : Unit} (h : growM by_ n = some u) : ∃ k : Nat, n = k ∧ 0 < k ∧ k * by_ ≤ 140737488355328 ∧ k ≤ maxLen := by
  unfold growM at h
  split at h
  · rename_i h3
    exact ⟨n.toNat, by omega, by omega, h3.2.1, h3.2.2⟩
  · cases h
/-- a block of c elements, whatever they are -/
def spareO (T sz b c : Nat) : OW := {
  ks := [b]
  ok := fun w => c ≤ maxLen ∧ ∃ cur : Array Value, w.heap[b]? = some (.cells cur T (0, 0)) ∧ cur.size = c * sz
  stay := fun h hk => ⟨hk.1, by obtain ⟨cur, h1, h2⟩ := hk.2; exact ⟨cur, (h b (by simp)).trans h1, h2⟩⟩
  lt := fun h k hk => by
    simp at hk
    subst hk
    obtain ⟨cur, h1, -⟩ := h.2
    exact (Array.getElem?_eq_some_iff.1 h1).1 }
section
variable {P : Program} {α : Type} {R : Rep α} {Rp : Post} {K : List Lay} {N : NN} {l : Fr} {ops : Array Oper} {rest : List Oper} {d : Nat} {dd : Option Nat} {ty : Nat} {pos : String} {af : Array Edge} {g : Option (Nat × Bool)} {x y : Operand} {T Ti by_ : Nat} {zs : List Value}
variable {w0 : World} {M : List Nat} {A : Nat → Prop} {es : List Ent} {b c k n : Nat} {m : Int} {u : Unit}
theorem p_capN {H : World → Prop} {E : TypeId} (hT : P.underlying T = some (.slice E)) (hx : ev l x = some (.slice none 0 0)) :
    PureOp P N ⟨dd, .call { callee := .builtin .cap, args := #[x], argTypes := #[T] }, ty, pos, af, g⟩ l H (.int .i64 0) := fun a w hf hw => by
  simp [execOp, resolve, invoke, builtin, hf.ev hx, Builtin.cap_, run_underlying hT, goInt]
theorem r_growN {ag : Bool} (hT : P.underlying T = some (.slice R.T)) (hTi : P.underlying Ti = some (.int .i64)) (hE : TyF P R.T ag R.sz by_ zs) (hsz : 0 < R.sz) (hzs : zs.length = R.sz) (hx : ev l x = some (.slice none 0 0)) (hy : ev l y = some (.int .i64 m)) (hq : growM by_ m = some u) (hd : Nat.blt d N.n = true)
    (h : ∀ (b c n : Nat), n ≤ c → LJ P Rp ops rest K N ((d, .slice (some ⟨b, 0, none⟩) n c) :: l) (Sat w0 M A (.obj (spareO R.T R.sz b c) :: es))) :
    LJ P Rp ops (⟨some d, .call { callee := .builtin .append, args := #[x, y], argTypes := #[T, Ti] }, ty, pos, af, none⟩ :: rest) K N l (Sat w0 M A es) := by
  intro a w hf hw
  obtain ⟨n, rfl, h0, h1, h2⟩ := growM_spec hq
  obtain ⟨i, z, hi, hz, hzc, hs, hb⟩ := hE.info
  have hz2 : z.cells.size = R.sz := by rw [hzc]; simpa using hzs
  refine wpList_plain rfl fun K' hK => ?_
  have hr := Lib.run_append_nil_zeros (P := P) w T Ti ty R.T i z .i64 .i64 hT hTi hi hz n h0 (by omega) (by unfold maxLen at h2; omega) (by rw [hb]; omega)
  refine Lib.wp_append_run w x y T Ti rfl _ _ (hf.ev hx) (hf.ev hy) _ _ hr ?_
  have hge := grownCap_ge w n 0 R.T
  refine hK _ _ (h _ _ _ hge _ _ (hf.put hd _) ?_)
  have hal := hw.drew.allocO (.cells (Builtin.zeroCells z.cells n ++ Builtin.zeroCells z.cells (grownCap w n 0 R.T - n)) R.T)
  refine hal.swapO (j := 0) (b := w.heap.size) rfl rfl rfl ⟨rfl, rfl, rfl, Nat.le_refl _, fun _ _ _ => rfl⟩ ⟨grownCap_le_maxLen w n 0 R.T h2, _, hal.objAt (k := 0) rfl, ?_⟩
  simp only [Array.size_append, size_zeroCells', hz2, ← Nat.add_mul]
  congr 1
  omega
/-- nothing of the room is in use: an empty row -/
theorem r_cutG {ag : Bool} (hT : P.underlying T = some (.slice R.T)) (hE : TyF P R.T ag R.sz by_ zs) (hx : ev l x = some (.slice (some ⟨b, 0, none⟩) n c)) (hy : ev l y = some (.int .i64 0)) (hnc : n ≤ c) (hk : nth es k = some (.obj (spareO R.T R.sz b c))) (hd : Nat.blt d N.n = true)
    (h : ∀ s' : SV, LJ P Rp ops rest K N ((d, s'.v) :: l) (Sat w0 M A (setN es k (.row R s'.v [])))) :
    LJ P Rp ops (⟨some d, .slice T x none (some y) none, ty, pos, af, none⟩ :: rest) K N l (Sat w0 M A es) := by
  intro a w hf hw
  have hB := run_sliceBounds (P := P) (w := w) (c := c) (n := n) (a := 0) (b := 0) (lo := none) (hi := some (.int .i64 0)) (Nat.le_refl _) (Nat.zero_le _) hnc (.inr ⟨rfl, rfl⟩) (.inl rfl)
  refine wpList_plain rfl fun K' hK => ?_
  unfold Oper.wp
  have e1 : evO l (some y) = some (some (.int .i64 0)) := by simp [evO, hy]
  have : (execOp a.eval ⟨some d, .slice T x none (some y) none, ty, pos, af, none⟩).run P w = .ok (.value (SV.v ⟨some ⟨b, 0, none⟩, 0, c⟩)) w := by
    have hB2 : (Instr.sliceBounds true n c none (some (Value.int IntKind.i64 0)) none).run P w = .ok (0, 0, c) w := hB
    have e2 : (Instr.sliceAt T (.slice (some ⟨b, 0, none⟩) n c) none (some (.int .i64 0)) none).run P w = .ok (SV.v ⟨some ⟨b, 0, none⟩, 0, c⟩) w := by
      simp only [Instr.sliceAt, Sem.run_bind, run_underlying hT, Result.andThen_ok, Instr.slice, hB2, hE.size w, Sem.run_pure]
      simp [Addr.add]
    simp [execOp, hf.ev hx, hf.evO e1, e2]
  rw [this]
  refine hK _ _ (h ⟨some ⟨b, 0, none⟩, 0, c⟩ _ _ (hf.put hd _) ?_)
  obtain ⟨hm, cur, hcur, hcs⟩ := hw.objAt hk
  refine hw.swap' hk ⟨rfl, rfl, rfl, Nat.le_refl _, fun _ _ _ => rfl⟩ (e' := .row R (SV.v ⟨some ⟨b, 0, none⟩, 0, c⟩) []) ?_ (by simp [Ent.kl, Value.ownBlock]) ?_ (fun F hF => by cases hF)
  · exact ⟨by simp [Rep.cells], .inr ⟨b, c, cur, rfl, Nat.zero_le _, hcur, Nat.zero_le _, hm, hcs, by simp [Rep.cells]⟩⟩
  · intro q hq
    have : q = b := by simpa [Ent.kl, Value.ownBlock] using hq
    subst this
    exact ⟨(Array.getElem?_eq_some_iff.1 hcur).1, .inr (by simp [Ent.kl, spareO])⟩
end
end Go.G
