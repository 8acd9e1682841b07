/- Facts on the types and functions. Written by program. -/
import Derived.Test.YtndkkkgkmeijlaaDoorRows
import Derived.Test.YtndkkkgkmeijlaaDoorM
namespace Go.Proofs.YtndkkkgkmeijlaaDoor
open Go Go.J Go.G
theorem ty3 : TyF Tryd.prog 3 false 1 8 [.int .i64 0] := TyF.mk' (z := .int .i64 0) Tryd.underlying3 rfl (by kernel_rfl) rfl
def R3 : Rep Int := ⟨3, 1, 8, fun x => [.int .i64 x], fun _ => rfl, fun x u hu => by simp only [List.mem_cons, List.mem_nil_iff, or_false] at hu; rcases hu with rfl <;> rfl, by decide⟩
theorem ty9 : TyF Tryd.prog 9 false 1 16 [.string ByteArray.empty] := TyF.mk' (z := .string ByteArray.empty) Tryd.underlying9 rfl (by kernel_rfl) rfl
def R9 : Rep ByteArray := ⟨9, 1, 16, fun x => [.string x], fun _ => rfl, fun x u hu => by simp only [List.mem_cons, List.mem_nil_iff, or_false] at hu; rcases hu with rfl <;> rfl, by decide⟩
theorem ty22 : TyF Tryd.prog 22 false 1 24 [.slice none 0 0] := TyF.mk' (z := .slice none 0 0) Tryd.underlying22 rfl (by kernel_rfl) rfl
theorem ty25 : TyF Tryd.prog 25 true 2 32 [.slice none 0 0, .int .i64 0] := TyF.mk' (z := .agg #[.slice none 0 0, .int .i64 0]) Tryd.underlying25 rfl (by kernel_rfl) rfl
theorem ty28 : TyF Tryd.prog 28 true 3 24 [.int .i64 0, .int .i64 0, .int .i64 0] := TyF.mk' (z := .agg #[.int .i64 0, .int .i64 0, .int .i64 0]) Tryd.underlying28 rfl (by kernel_rfl) rfl
def R28 : Rep TChord := ⟨28, 3, 24, fun x => [.int .i64 x.Root, .int .i64 x.Kind, .int .i64 x.Turn], fun _ => rfl, fun x u hu => by simp only [List.mem_cons, List.mem_nil_iff, or_false] at hu; rcases hu with rfl | rfl | rfl <;> rfl, by decide⟩
theorem ty34 : TyF Tryd.prog 34 false 1 8 [.int .i64 0] := TyF.mk' (z := .int .i64 0) Tryd.underlying34 rfl (by kernel_rfl) rfl
def R34 : Rep Int := ⟨34, 1, 8, fun x => [.int .i64 x], fun _ => rfl, fun x u hu => by simp only [List.mem_cons, List.mem_nil_iff, or_false] at hu; rcases hu with rfl <;> rfl, by decide⟩
theorem ty59 : TyF Tryd.prog 59 false 1 8 [.nilFunc] := TyF.mk' (z := .nilFunc) Tryd.underlying59 rfl (by kernel_rfl) rfl
def N22 : Nst (List Int) SV := ⟨⟨22, 1, 24, fun p => [p.2.v], fun _ => rfl, fun p u hu => by simp only [List.mem_cons, List.mem_nil_iff, or_false] at hu; rcases hu with rfl <;> rfl, by decide⟩, fun p w => RdS R3 (SV.v p.2) p.1 w⟩
theorem eqst28_ (d : Nat) (x y : TChord) : EqV Tryd.prog (d + 2) 28 (.agg (R28.enc x).toArray) (.agg (R28.enc y).toArray) (decide (x = y)) := by
  have h : ((x.Root == y.Root) && ((x.Kind == y.Kind) && ((x.Turn == y.Turn) && true))) = decide (x = y) := by rw [Bool.eq_iff_iff]; cases x; cases y; simp [ba_beq]
  rw [← h]
  exact eqv_struct Tryd.underlying28 (by kernel_rfl) (eqf_cons (.int .i64 x.Root) (.int .i64 y.Root) (by decide) (fun _ => by kernel_rfl) (fun _ => by kernel_rfl) (eqv_int Tryd.underlying3 _ _) (eqf_cons (.int .i64 x.Kind) (.int .i64 y.Kind) (by decide) (fun _ => by kernel_rfl) (fun _ => by kernel_rfl) (eqv_int Tryd.underlying3 _ _) (eqf_cons (.int .i64 x.Turn) (.int .i64 y.Turn) (by decide) (fun _ => by kernel_rfl) (fun _ => by kernel_rfl) (eqv_int Tryd.underlying3 _ _) eqf_nil)))
theorem eqst28 (x y : TChord) : EqV Tryd.prog 10000 28 (.agg (R28.enc x).toArray) (.agg (R28.enc y).toArray) (decide (x = y)) := eqst28_ 9998 x y
theorem fl25_0 : FldF Tryd.prog 25 0 0 := fun _ _ => by kernel_rfl
theorem fl25_1 : FldF Tryd.prog 25 1 1 := fun _ _ => by kernel_rfl
theorem fl28_0 : FldF Tryd.prog 28 0 0 := fun _ _ => by kernel_rfl
theorem fl28_1 : FldF Tryd.prog 28 1 1 := fun _ _ => by kernel_rfl
theorem fl28_2 : FldF Tryd.prog 28 2 2 := fun _ _ => by kernel_rfl
theorem cf8 : ∀ args w, (callFunc 8 args).run Tryd.prog w = .ok (.enter 8 args) w := fun _ _ => by kernel_rfl
theorem cf9 : ∀ args w, (callFunc 9 args).run Tryd.prog w = .ok (.enter 9 args) w := fun _ _ => by kernel_rfl
theorem cf10 : ∀ args w, (callFunc 10 args).run Tryd.prog w = .ok (.enter 10 args) w := fun _ _ => by kernel_rfl
theorem cf11 : ∀ args w, (callFunc 11 args).run Tryd.prog w = .ok (.enter 11 args) w := fun _ _ => by kernel_rfl
theorem cf12 : ∀ args w, (callFunc 12 args).run Tryd.prog w = .ok (.enter 12 args) w := fun _ _ => by kernel_rfl
theorem cf13 : ∀ args w, (callFunc 13 args).run Tryd.prog w = .ok (.enter 13 args) w := fun _ _ => by kernel_rfl
theorem cf14 : ∀ args w, (callFunc 14 args).run Tryd.prog w = .ok (.enter 14 args) w := fun _ _ => by kernel_rfl
theorem cf15 : ∀ args w, (callFunc 15 args).run Tryd.prog w = .ok (.enter 15 args) w := fun _ _ => by kernel_rfl
theorem cf16 : ∀ args w, (callFunc 16 args).run Tryd.prog w = .ok (.enter 16 args) w := fun _ _ => by kernel_rfl
theorem cf17 : ∀ args w, (callFunc 17 args).run Tryd.prog w = .ok (.enter 17 args) w := fun _ _ => by kernel_rfl
theorem cf18 : ∀ args w, (callFunc 18 args).run Tryd.prog w = .ok (.enter 18 args) w := fun _ _ => by kernel_rfl
theorem cf19 : ∀ args w, (callFunc 19 args).run Tryd.prog w = .ok (.enter 19 args) w := fun _ _ => by kernel_rfl
theorem cf20 : ∀ args w, (callFunc 20 args).run Tryd.prog w = .ok (.enter 20 args) w := fun _ _ => by kernel_rfl
theorem cf21 : ∀ args w, (callFunc 21 args).run Tryd.prog w = .ok (.enter 21 args) w := fun _ _ => by kernel_rfl
theorem cf22 : ∀ args w, (callFunc 22 args).run Tryd.prog w = .ok (.enter 22 args) w := fun _ _ => by kernel_rfl
theorem cf23 : ∀ args w, (callFunc 23 args).run Tryd.prog w = .ok (.enter 23 args) w := fun _ _ => by kernel_rfl
theorem cf24 : ∀ args w, (callFunc 24 args).run Tryd.prog w = .ok (.enter 24 args) w := fun _ _ => by kernel_rfl
theorem cf25 : ∀ args w, (callFunc 25 args).run Tryd.prog w = .ok (.enter 25 args) w := fun _ _ => by kernel_rfl
theorem cf26 : ∀ args w, (callFunc 26 args).run Tryd.prog w = .ok (.enter 26 args) w := fun _ _ => by kernel_rfl
theorem cf27 : ∀ args w, (callFunc 27 args).run Tryd.prog w = .ok (.enter 27 args) w := fun _ _ => by kernel_rfl
theorem cf28 : ∀ args w, (callFunc 28 args).run Tryd.prog w = .ok (.enter 28 args) w := fun _ _ => by kernel_rfl
theorem cf31 : ∀ args w, (callFunc 31 args).run Tryd.prog w = .ok (.enter 31 args) w := fun _ _ => by kernel_rfl
theorem cf56 : ∀ args w, (callFunc 56 args).run Tryd.prog w = .ok (.enter 56 args) w := fun _ _ => by kernel_rfl
theorem cf58 : ∀ args w, (callFunc 58 args).run Tryd.prog w = .ok (.enter 58 args) w := fun _ _ => by kernel_rfl
theorem cf61 : ∀ args w, (callFunc 61 args).run Tryd.prog w = .ok (.enter 61 args) w := fun _ _ => by kernel_rfl
theorem cf62 : ∀ args w, (callFunc 62 args).run Tryd.prog w = .ok (.enter 62 args) w := fun _ _ => by kernel_rfl
theorem cf63 : ∀ args w, (callFunc 63 args).run Tryd.prog w = .ok (.enter 63 args) w := fun _ _ => by kernel_rfl
theorem cf64 : ∀ args w, (callFunc 64 args).run Tryd.prog w = .ok (.enter 64 args) w := fun _ _ => by kernel_rfl
theorem cf65 : ∀ args w, (callFunc 65 args).run Tryd.prog w = .ok (.enter 65 args) w := fun _ _ => by kernel_rfl
theorem cf66 : ∀ args w, (callFunc 66 args).run Tryd.prog w = .ok (.enter 66 args) w := fun _ _ => by kernel_rfl
theorem cf67 : ∀ args w, (callFunc 67 args).run Tryd.prog w = .ok (.enter 67 args) w := fun _ _ => by kernel_rfl
theorem cf68 : ∀ args w, (callFunc 68 args).run Tryd.prog w = .ok (.enter 68 args) w := fun _ _ => by kernel_rfl
theorem cf69 : ∀ args w, (callFunc 69 args).run Tryd.prog w = .ok (.enter 69 args) w := fun _ _ => by kernel_rfl
theorem cf70 : ∀ args w, (callFunc 70 args).run Tryd.prog w = .ok (.enter 70 args) w := fun _ _ => by kernel_rfl
theorem cf71 : ∀ args w, (callFunc 71 args).run Tryd.prog w = .ok (.enter 71 args) w := fun _ _ => by kernel_rfl
theorem cf72 : ∀ args w, (callFunc 72 args).run Tryd.prog w = .ok (.enter 72 args) w := fun _ _ => by kernel_rfl
theorem cf73 : ∀ args w, (callFunc 73 args).run Tryd.prog w = .ok (.enter 73 args) w := fun _ _ => by kernel_rfl
theorem cf74 : ∀ args w, (callFunc 74 args).run Tryd.prog w = .ok (.enter 74 args) w := fun _ _ => by kernel_rfl
theorem cf75 : ∀ args w, (callFunc 75 args).run Tryd.prog w = .ok (.enter 75 args) w := fun _ _ => by kernel_rfl
theorem cf76 : ∀ args w, (callFunc 76 args).run Tryd.prog w = .ok (.enter 76 args) w := fun _ _ => by kernel_rfl
theorem cf77 : ∀ args w, (callFunc 77 args).run Tryd.prog w = .ok (.enter 77 args) w := fun _ _ => by kernel_rfl
theorem cf78 : ∀ args w, (callFunc 78 args).run Tryd.prog w = .ok (.enter 78 args) w := fun _ _ => by kernel_rfl
theorem cf79 : ∀ args w, (callFunc 79 args).run Tryd.prog w = .ok (.enter 79 args) w := fun _ _ => by kernel_rfl
theorem cf80 : ∀ args w, (callFunc 80 args).run Tryd.prog w = .ok (.enter 80 args) w := fun _ _ => by kernel_rfl
theorem cf81 : ∀ args w, (callFunc 81 args).run Tryd.prog w = .ok (.enter 81 args) w := fun _ _ => by kernel_rfl
theorem cf82 : ∀ args w, (callFunc 82 args).run Tryd.prog w = .ok (.enter 82 args) w := fun _ _ => by kernel_rfl
theorem cf83 : ∀ args w, (callFunc 83 args).run Tryd.prog w = .ok (.enter 83 args) w := fun _ _ => by kernel_rfl
theorem cf84 : ∀ args w, (callFunc 84 args).run Tryd.prog w = .ok (.enter 84 args) w := fun _ _ => by kernel_rfl
theorem cf100 : ∀ args w, (callFunc 100 args).run Tryd.prog w = .ok (.enter 100 args) w := fun _ _ => by kernel_rfl
theorem cf110 : ∀ args w, (callFunc 110 args).run Tryd.prog w = .ok (.enter 110 args) w := fun _ _ => by kernel_rfl
theorem cf111 : ∀ args w, (callFunc 111 args).run Tryd.prog w = .ok (.enter 111 args) w := fun _ _ => by kernel_rfl
theorem cf112 : ∀ args w, (callFunc 112 args).run Tryd.prog w = .ok (.enter 112 args) w := fun _ _ => by kernel_rfl
theorem cf119 : ∀ args w, (callFunc 119 args).run Tryd.prog w = .ok (.enter 119 args) w := fun _ _ => by kernel_rfl
theorem cf120 : ∀ args w, (callFunc 120 args).run Tryd.prog w = .ok (.enter 120 args) w := fun _ _ => by kernel_rfl
theorem cf121 : ∀ args w, (callFunc 121 args).run Tryd.prog w = .ok (.enter 121 args) w := fun _ _ => by kernel_rfl
theorem cf122 : ∀ args w, (callFunc 122 args).run Tryd.prog w = .ok (.enter 122 args) w := fun _ _ => by kernel_rfl
theorem cf123 : ∀ args w, (callFunc 123 args).run Tryd.prog w = .ok (.enter 123 args) w := fun _ _ => by kernel_rfl
theorem cf124 : ∀ args w, (callFunc 124 args).run Tryd.prog w = .ok (.enter 124 args) w := fun _ _ => by kernel_rfl
theorem cf125 : ∀ args w, (callFunc 125 args).run Tryd.prog w = .ok (.enter 125 args) w := fun _ _ => by kernel_rfl
end Go.Proofs.YtndkkkgkmeijlaaDoor
