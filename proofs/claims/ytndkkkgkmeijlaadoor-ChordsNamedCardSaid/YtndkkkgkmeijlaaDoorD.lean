/- Facts on the types and functions. Written by program. -/
import Derived.Test.YtndkkkgkmeijlaaDoorRows
import Derived.Test.YtndkkkgkmeijlaaDoorM
namespace Go.Proofs.YtndkkkgkmeijlaaDoor
open Go Go.J Go.G
theorem ty3 : TyF Tryd.prog 3 false 1 8 [.int .i64 0] := TyF.mk' (z := .int .i64 0) Tryd.underlying3 rfl (by kernel_rfl) rfl
def R3 : Rep Int := ⟨3, 1, 8, fun x => [.int .i64 x], fun _ => rfl, fun x u hu => by simp only [List.mem_cons, List.mem_nil_iff, or_false] at hu; rcases hu with rfl <;> rfl, by decide⟩
theorem ty9 : TyF Tryd.prog 9 false 1 16 [.string ByteArray.empty] := TyF.mk' (z := .string ByteArray.empty) Tryd.underlying9 rfl (by kernel_rfl) rfl
def R9 : Rep ByteArray := ⟨9, 1, 16, fun x => [.string x], fun _ => rfl, fun x u hu => by simp only [List.mem_cons, List.mem_nil_iff, or_false] at hu; rcases hu with rfl <;> rfl, by decide⟩
theorem ty22 : TyF Tryd.prog 22 false 1 24 [.slice none 0 0] := TyF.mk' (z := .slice none 0 0) Tryd.underlying22 rfl (by kernel_rfl) rfl
theorem ty25 : TyF Tryd.prog 25 true 2 32 [.slice none 0 0, .int .i64 0] := TyF.mk' (z := .agg #[.slice none 0 0, .int .i64 0]) Tryd.underlying25 rfl (by kernel_rfl) rfl
theorem ty28 : TyF Tryd.prog 28 true 3 24 [.int .i64 0, .int .i64 0, .int .i64 0] := TyF.mk' (z := .agg #[.int .i64 0, .int .i64 0, .int .i64 0]) Tryd.underlying28 rfl (by kernel_rfl) rfl
def R28 : Rep TChord := ⟨28, 3, 24, fun x => [.int .i64 x.Root, .int .i64 x.Kind, .int .i64 x.Turn], fun _ => rfl, fun x u hu => by simp only [List.mem_cons, List.mem_nil_iff, or_false] at hu; rcases hu with rfl | rfl | rfl <;> rfl, by decide⟩
def N22 : Nst (List Int) SV := ⟨⟨22, 1, 24, fun p => [p.2.v], fun _ => rfl, fun p u hu => by simp only [List.mem_cons, List.mem_nil_iff, or_false] at hu; rcases hu with rfl <;> rfl, by decide⟩, fun p w => RdS R3 (SV.v p.2) p.1 w⟩
theorem eqst28_ (d : Nat) (x y : TChord) : EqV Tryd.prog (d + 2) 28 (.agg (R28.enc x).toArray) (.agg (R28.enc y).toArray) (decide (x = y)) := by
  have h : ((x.Root == y.Root) && ((x.Kind == y.Kind) && ((x.Turn == y.Turn) && true))) = decide (x = y) := by rw [Bool.eq_iff_iff]; cases x; cases y; simp [ba_beq]
  rw [← h]
  exact eqv_struct Tryd.underlying28 (by kernel_rfl) (eqf_cons (.int .i64 x.Root) (.int .i64 y.Root) (by decide) (fun _ => by kernel_rfl) (fun _ => by kernel_rfl) (eqv_int Tryd.underlying3 _ _) (eqf_cons (.int .i64 x.Kind) (.int .i64 y.Kind) (by decide) (fun _ => by kernel_rfl) (fun _ => by kernel_rfl) (eqv_int Tryd.underlying3 _ _) (eqf_cons (.int .i64 x.Turn) (.int .i64 y.Turn) (by decide) (fun _ => by kernel_rfl) (fun _ => by kernel_rfl) (eqv_int Tryd.underlying3 _ _) eqf_nil)))
theorem eqst28 (x y : TChord) : EqV Tryd.prog 10000 28 (.agg (R28.enc x).toArray) (.agg (R28.enc y).toArray) (decide (x = y)) := eqst28_ 9998 x y
theorem fl25_0 : FldF Tryd.prog 25 0 0 := fun _ _ => by kernel_rfl
theorem fl25_1 : FldF Tryd.prog 25 1 1 := fun _ _ => by kernel_rfl
theorem fl28_0 : FldF Tryd.prog 28 0 0 := fun _ _ => by kernel_rfl
theorem fl28_1 : FldF Tryd.prog 28 1 1 := fun _ _ => by kernel_rfl
theorem fl28_2 : FldF Tryd.prog 28 2 2 := fun _ _ => by kernel_rfl
theorem cf9 : ∀ args w, (callFunc 9 args).run Tryd.prog w = .ok (.enter 9 args) w := fun _ _ => by kernel_rfl
theorem cf10 : ∀ args w, (callFunc 10 args).run Tryd.prog w = .ok (.enter 10 args) w := fun _ _ => by kernel_rfl
theorem cf12 : ∀ args w, (callFunc 12 args).run Tryd.prog w = .ok (.enter 12 args) w := fun _ _ => by kernel_rfl
theorem cf19 : ∀ args w, (callFunc 19 args).run Tryd.prog w = .ok (.enter 19 args) w := fun _ _ => by kernel_rfl
theorem cf27 : ∀ args w, (callFunc 27 args).run Tryd.prog w = .ok (.enter 27 args) w := fun _ _ => by kernel_rfl
theorem cf28 : ∀ args w, (callFunc 28 args).run Tryd.prog w = .ok (.enter 28 args) w := fun _ _ => by kernel_rfl
theorem cf31 : ∀ args w, (callFunc 31 args).run Tryd.prog w = .ok (.enter 31 args) w := fun _ _ => by kernel_rfl
theorem cf54 : ∀ args w, (callFunc 54 args).run Tryd.prog w = .ok (.enter 54 args) w := fun _ _ => by kernel_rfl
theorem cf55 : ∀ args w, (callFunc 55 args).run Tryd.prog w = .ok (.enter 55 args) w := fun _ _ => by kernel_rfl
theorem cf56 : ∀ args w, (callFunc 56 args).run Tryd.prog w = .ok (.enter 56 args) w := fun _ _ => by kernel_rfl
theorem cf57 : ∀ args w, (callFunc 57 args).run Tryd.prog w = .ok (.enter 57 args) w := fun _ _ => by kernel_rfl
theorem cf58 : ∀ args w, (callFunc 58 args).run Tryd.prog w = .ok (.enter 58 args) w := fun _ _ => by kernel_rfl
theorem cf59 : ∀ args w, (callFunc 59 args).run Tryd.prog w = .ok (.enter 59 args) w := fun _ _ => by kernel_rfl
theorem cf60 : ∀ args w, (callFunc 60 args).run Tryd.prog w = .ok (.enter 60 args) w := fun _ _ => by kernel_rfl
theorem cf61 : ∀ args w, (callFunc 61 args).run Tryd.prog w = .ok (.enter 61 args) w := fun _ _ => by kernel_rfl
theorem cf62 : ∀ args w, (callFunc 62 args).run Tryd.prog w = .ok (.enter 62 args) w := fun _ _ => by kernel_rfl
theorem cf63 : ∀ args w, (callFunc 63 args).run Tryd.prog w = .ok (.enter 63 args) w := fun _ _ => by kernel_rfl
theorem cf67 : ∀ args w, (callFunc 67 args).run Tryd.prog w = .ok (.enter 67 args) w := fun _ _ => by kernel_rfl
theorem cf71 : ∀ args w, (callFunc 71 args).run Tryd.prog w = .ok (.enter 71 args) w := fun _ _ => by kernel_rfl
theorem cf77 : ∀ args w, (callFunc 77 args).run Tryd.prog w = .ok (.enter 77 args) w := fun _ _ => by kernel_rfl
theorem cf78 : ∀ args w, (callFunc 78 args).run Tryd.prog w = .ok (.enter 78 args) w := fun _ _ => by kernel_rfl
theorem cf100 : ∀ args w, (callFunc 100 args).run Tryd.prog w = .ok (.enter 100 args) w := fun _ _ => by kernel_rfl
theorem cf109 : ∀ args w, (callFunc 109 args).run Tryd.prog w = .ok (.enter 109 args) w := fun _ _ => by kernel_rfl
theorem cf110 : ∀ args w, (callFunc 110 args).run Tryd.prog w = .ok (.enter 110 args) w := fun _ _ => by kernel_rfl
theorem cf111 : ∀ args w, (callFunc 111 args).run Tryd.prog w = .ok (.enter 111 args) w := fun _ _ => by kernel_rfl
theorem cf112 : ∀ args w, (callFunc 112 args).run Tryd.prog w = .ok (.enter 112 args) w := fun _ _ => by kernel_rfl
theorem cf113 : ∀ args w, (callFunc 113 args).run Tryd.prog w = .ok (.enter 113 args) w := fun _ _ => by kernel_rfl
theorem cf114 : ∀ args w, (callFunc 114 args).run Tryd.prog w = .ok (.enter 114 args) w := fun _ _ => by kernel_rfl
theorem cf115 : ∀ args w, (callFunc 115 args).run Tryd.prog w = .ok (.enter 115 args) w := fun _ _ => by kernel_rfl
theorem cf116 : ∀ args w, (callFunc 116 args).run Tryd.prog w = .ok (.enter 116 args) w := fun _ _ => by kernel_rfl
theorem cf117 : ∀ args w, (callFunc 117 args).run Tryd.prog w = .ok (.enter 117 args) w := fun _ _ => by kernel_rfl
theorem cf118 : ∀ args w, (callFunc 118 args).run Tryd.prog w = .ok (.enter 118 args) w := fun _ _ => by kernel_rfl
theorem cf119 : ∀ args w, (callFunc 119 args).run Tryd.prog w = .ok (.enter 119 args) w := fun _ _ => by kernel_rfl
theorem cf120 : ∀ args w, (callFunc 120 args).run Tryd.prog w = .ok (.enter 120 args) w := fun _ _ => by kernel_rfl
theorem cf142 : ∀ args w, (callFunc 142 args).run Tryd.prog w = .ok (.enter 142 args) w := fun _ _ => by kernel_rfl
theorem cf143 : ∀ args w, (callFunc 143 args).run Tryd.prog w = .ok (.enter 143 args) w := fun _ _ => by kernel_rfl
theorem cf144 : ∀ args w, (callFunc 144 args).run Tryd.prog w = .ok (.enter 144 args) w := fun _ _ => by kernel_rfl
theorem cf145 : ∀ args w, (callFunc 145 args).run Tryd.prog w = .ok (.enter 145 args) w := fun _ _ => by kernel_rfl
theorem cf146 : ∀ args w, (callFunc 146 args).run Tryd.prog w = .ok (.enter 146 args) w := fun _ _ => by kernel_rfl
theorem cf147 : ∀ args w, (callFunc 147 args).run Tryd.prog w = .ok (.enter 147 args) w := fun _ _ => by kernel_rfl
theorem cf164 : ∀ args w, (callFunc 164 args).run Tryd.prog w = .ok (.enter 164 args) w := fun _ _ => by kernel_rfl
theorem cf165 : ∀ args w, (callFunc 165 args).run Tryd.prog w = .ok (.enter 165 args) w := fun _ _ => by kernel_rfl
theorem cf175 : ∀ args w, (callFunc 175 args).run Tryd.prog w = .ok (.enter 175 args) w := fun _ _ => by kernel_rfl
theorem cf176 : ∀ args w, (callFunc 176 args).run Tryd.prog w = .ok (.enter 176 args) w := fun _ _ => by kernel_rfl
theorem cf195 : ∀ args w, (callFunc 195 args).run Tryd.prog w = .ok (.enter 195 args) w := fun _ _ => by kernel_rfl
theorem cf199 : ∀ args w, (callFunc 199 args).run Tryd.prog w = .ok (.enter 199 args) w := fun _ _ => by kernel_rfl
end Go.Proofs.YtndkkkgkmeijlaaDoor
