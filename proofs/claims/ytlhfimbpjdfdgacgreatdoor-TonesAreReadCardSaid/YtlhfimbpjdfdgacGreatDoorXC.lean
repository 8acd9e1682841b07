/- Contracts of library functions; no condition. -/
import Derived.Test.YtlhfimbpjdfdgacGreatDoorJB
namespace Go.J
open Go Go.RowKit
theorem Sat.more {w0 w w' : World} {M : List Nat} {A : Nat → Prop} {es : List Ent} (h : Sat w0 M A es w) (hc : Chg [] w w') : Sat w0 M A es w' := by
  have := h.step (w' := w') [] (by simp) hc es [] (List.Sublist.refl _) (by simp) List.nodup_nil (fun k hk => by cases hk) (fun e he => by cases he) (fun e he => by cases he)
  simpa using this
theorem Ctr.of_below {P : Program} {f : FuncId} {args : Array Value} {v : Value} {fs : List (World → Prop)} (h : ∀ w, (∀ F, F ∈ fs → F w) → Calls P f args w fun e w' => e = .returned v ∧ Below w.heap.size w w') :
    Ctr P f args [] fs (X := Unit) (fun _ => v) (fun _ => []) := by
  intro w A hs
  have hf : ∀ F, F ∈ fs → F w := fun F hF => hs.okr (.ro F) (by simpa using hF) w (Same.refl _ _ _ _)
  refine (h w hf).mono ?_
  rintro e w' ⟨rfl, hb⟩
  refine ⟨(), rfl, ?_⟩
  have hs2 := hs.more (w' := w') ⟨hb.os, hb.tape, hb.output, hb.size, fun b hb' _ => hb.block b hb'⟩
  exact hs2.sublist (by simp)
end Go.J
