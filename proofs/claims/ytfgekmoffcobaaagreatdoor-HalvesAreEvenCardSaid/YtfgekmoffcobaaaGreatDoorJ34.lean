/- J34: cuts whose room ends where they end. No program in sight. -/
import Derived.Test.YtfgekmoffcobaaaGreatDoorJ33
namespace Go.J
open Go Go.RowKit
section
variable {P : Program} {N : NN} {l : Fr} {dd : Option Nat} {ty : Nat} {pos : String} {af : Array Edge} {g : Option (Nat × Bool)} {x oh om : Operand} {T : TypeId}
variable {w0 : World} {M : List Nat} {A : Nat → Prop} {es : List Ent} {α : Type} {R : Rep α} {s : SV} {xs qs : List α} {lo hi : Int} {by_ : Nat} {zs : List Value}
theorem RdS.takeB {w : World} (h : RdS R s.v xs w) {b : Nat} (hb : b ≤ xs.length) : RdS R (SV.v ⟨s.a, b, b⟩) (xs.take b) w := by
  have hlen : (xs.take b).length = b := by simp; omega
  have h1 := h.1
  refine ⟨by rw [hlen]; omega, ?_⟩
  rcases h.2 with ⟨h2, x0, cap0, h1, hm⟩ | ⟨g, off, cap, h1, h2, h3, h4⟩
  · subst h2
    simp at hb
    subst hb
    exact .inl ⟨by simp, s.a, 0, rfl, by simp [maxLen]⟩
  · injection h1 with h5 h6 h7
    refine .inr ⟨g, off, b, by simp only [SV.v, h5, hlen], by omega, by omega, fun j u hu => h4 j u ?_⟩
    have e : R.cells xs = R.cells (xs.take b) ++ R.cells (xs.drop b) := by rw [← R.cells_append, List.take_append_drop]
    rw [e, List.getElem?_append_left (List.getElem?_eq_some_iff.1 hu).1]
    exact hu
theorem RdS.cutB {w : World} (h : RdS R s.v xs w) (hq : sliceI xs lo hi = some qs) : RdS R ((s.lim hi.toNat).sub R.sz lo.toNat hi.toNat).v qs w := by
  obtain ⟨p, q, rfl, rfl, hpq, hqx, rfl⟩ := sliceI_spec hq
  have h2 := (h.takeB hqx).sub hpq (show q ≤ (xs.take q).length by simp; omega)
  simp only [Int.toNat_natCast]
  have e : ((xs.take q).drop p).take (q - p) = (xs.drop p).take (q - p) := by
    rw [List.drop_take, List.take_take, Nat.min_self]
  rw [e] at h2
  exact h2
theorem run_sliceAtB {w : World} {lo : Option Value} {a b : Nat} {ag : Bool} (hT : P.underlying T = some (.slice R.T)) (hE : TyF P R.T ag R.sz by_ zs) (h : RdS R s.v xs w) (hab : a ≤ b) (hb : b ≤ xs.length)
    (hlo : lo = some (.int .i64 a) ∨ (lo = none ∧ a = 0)) : (Instr.sliceAt T s.v lo (some (.int .i64 (b : Int))) (some (.int .i64 (b : Int)))).run P w = .ok ((s.lim b).sub R.sz a b).v w := by
  have hcap : xs.length ≤ s.c := by
    rcases h.2 with ⟨h2, x0, cap0, h1, hm⟩ | ⟨g, off, cap, h1, h2, h3, h4⟩
    · subst h2; simp
    · injection h1 with h5 h6 h7; omega
  have hB := run_sliceBounds3 (P := P) (w := w) (n := s.n) (c := s.c) hab (Nat.le_refl b) (Nat.le_trans hb hcap) hlo
  simp only [Instr.sliceAt, Sem.run_bind, run_underlying hT, Result.andThen_ok, Instr.slice, hB, hE.size w, Sem.run_pure]
  rfl
theorem p_cutB {ag : Bool} {ol : Option Operand} {vl : Option Value} (hT : P.underlying T = some (.slice R.T)) (hE : TyF P R.T ag R.sz by_ zs) (hx : ev l x = some s.v) (hlo : evO l ol = some vl) (hhi : ev l oh = some (.int .i64 hi)) (hmx : ev l om = some (.int .i64 hi))
    (hbl : boundV vl = true) (hk : FactAt es (RdS R s.v xs)) (hl : loV vl = lo) (hq : sliceI xs lo hi = some qs) :
    PureOp P N ⟨dd, .slice T x ol (some oh) (some om), ty, pos, af, g⟩ l (Sat w0 M A es) ((s.lim hi.toNat).sub R.sz lo.toNat hi.toNat).v := fun a w hf hw => by
  subst hl
  obtain ⟨p, q, hp, rfl, hpq, hqx, rfl⟩ := sliceI_spec hq
  have hrun := run_sliceAtB (P := P) (T := T) (lo := vl) hT hE (hk.get hw) hpq hqx
    (by
      cases vl with
      | none => exact .inr ⟨rfl, by simp [loV] at hp; omega⟩
      | some v => cases v <;> first | cases hbl; done | (rename_i kk nn; cases kk <;> first | cases hbl; done | (simp [loV] at hp; exact .inl (by rw [hp]))))
  rw [hp]
  simp only [Int.toNat_natCast]
  have e1 : evO l (some oh) = some (some (.int .i64 (q : Int))) := by simp [evO, hhi]
  have e2 : evO l (some om) = some (some (.int .i64 (q : Int))) := by simp [evO, hmx]
  simp [execOp, hf.ev hx, hf.evO hlo, hf.evO e1, hf.evO e2, hrun]
end
end Go.J
