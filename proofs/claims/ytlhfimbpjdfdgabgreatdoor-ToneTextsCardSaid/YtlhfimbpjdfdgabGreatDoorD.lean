/- Facts on the types and functions. Written by program. -/
import Derived.Test.YtlhfimbpjdfdgabGreatDoorProg
import Derived.KernelRfl
import Derived.Test.YtlhfimbpjdfdgabGreatDoorM
namespace Go.Proofs.YtlhfimbpjdfdgabGreatDoor
open Go Go.J Go.G
set_option linter.unusedSimpArgs false
theorem ty3 : TyF Tryz.prog 3 false 1 8 [.int .i64 0] := TyF.mk' (z := .int .i64 0) Tryz.underlying3 rfl (by kernel_rfl) rfl
def R3 : Rep Int := ⟨3, 1, 8, fun x => [.int .i64 x], fun _ => rfl, fun x u hu => by simp only [List.mem_cons, List.mem_nil_iff, or_false] at hu; rcases hu with rfl <;> rfl, by decide⟩
theorem ty4 : TyF Tryz.prog 4 false 1 1 [.bool false] := TyF.mk' (z := .bool false) Tryz.underlying4 rfl (by kernel_rfl) rfl
def R4 : Rep Bool := ⟨4, 1, 1, fun x => [.bool x], fun _ => rfl, fun x u hu => by simp only [List.mem_cons, List.mem_nil_iff, or_false] at hu; rcases hu with rfl <;> rfl, by decide⟩
theorem ty9 : TyF Tryz.prog 9 false 1 16 [.string ByteArray.empty] := TyF.mk' (z := .string ByteArray.empty) Tryz.underlying9 rfl (by kernel_rfl) rfl
def R9 : Rep ByteArray := ⟨9, 1, 16, fun x => [.string x], fun _ => rfl, fun x u hu => by simp only [List.mem_cons, List.mem_nil_iff, or_false] at hu; rcases hu with rfl <;> rfl, by decide⟩
theorem ty22 : TyF Tryz.prog 22 false 1 24 [.slice none 0 0] := TyF.mk' (z := .slice none 0 0) Tryz.underlying22 rfl (by kernel_rfl) rfl
theorem ty23 : TyF Tryz.prog 23 false 1 8 [.pointer none] := TyF.mk' (z := .pointer none) Tryz.underlying23 rfl (by kernel_rfl) rfl
theorem ty25 : TyF Tryz.prog 25 true 2 32 [.slice none 0 0, .int .i64 0] := TyF.mk' (z := .agg #[.slice none 0 0, .int .i64 0]) Tryz.underlying25 rfl (by kernel_rfl) rfl
theorem ty28 : TyF Tryz.prog 28 false 1 24 [.slice none 0 0] := TyF.mk' (z := .slice none 0 0) Tryz.underlying28 rfl (by kernel_rfl) rfl
theorem ty40 : TyF Tryz.prog 40 true 2 16 [.int .i64 0, .int .i64 0] := TyF.mk' (z := .agg #[.int .i64 0, .int .i64 0]) Tryz.underlying40 rfl (by kernel_rfl) rfl
def R40 : Rep TFraction := ⟨40, 2, 16, fun x => [.int .i64 x.Num, .int .i64 x.Den], fun _ => rfl, fun x u hu => by simp only [List.mem_cons, List.mem_nil_iff, or_false] at hu; rcases hu with rfl | rfl <;> rfl, by decide⟩
theorem ty42 : TyF Tryz.prog 42 true 5 48 [.int .i64 0, .int .i64 0, .int .i64 0, .string ByteArray.empty, .bool false] := TyF.mk' (z := .agg #[.int .i64 0, .int .i64 0, .int .i64 0, .string ByteArray.empty, .bool false]) Tryz.underlying42 rfl (by kernel_rfl) rfl
def R42 : Rep TTone := ⟨42, 5, 48, fun x => [.int .i64 x.Note, .int .i64 x.Long.Num, .int .i64 x.Long.Den, .string x.Text, .bool x.Tied], fun _ => rfl, fun x u hu => by simp only [List.mem_cons, List.mem_nil_iff, or_false] at hu; rcases hu with rfl | rfl | rfl | rfl | rfl <;> rfl, by decide⟩
theorem ty48 : TyF Tryz.prog 48 true 5 40 [.int .i64 0, .int .i64 0, .int .i64 0, .int .i64 0, .bool false] := TyF.mk' (z := .agg #[.int .i64 0, .int .i64 0, .int .i64 0, .int .i64 0, .bool false]) Tryz.underlying48 rfl (by kernel_rfl) rfl
def R48 : Rep TBar := ⟨48, 5, 40, fun x => [.int .i64 x.Beats, .int .i64 x.Unit, .int .i64 x.Close, .int .i64 x.Ending, .bool x.Open], fun _ => rfl, fun x u hu => by simp only [List.mem_cons, List.mem_nil_iff, or_false] at hu; rcases hu with rfl | rfl | rfl | rfl | rfl <;> rfl, by decide⟩
theorem ty60 : TyF Tryz.prog 60 true 2 32 [.pointer none, .slice none 0 0] := TyF.mk' (z := .agg #[.pointer none, .slice none 0 0]) Tryz.underlying60 rfl (by kernel_rfl) rfl
theorem ty61 : TyF Tryz.prog 61 false 1 24 [.slice none 0 0] := TyF.mk' (z := .slice none 0 0) Tryz.underlying61 rfl (by kernel_rfl) rfl
theorem ty118 : TyF Tryz.prog 118 true 3 24 [.int .i64 0, .int .i64 0, .int .i64 0] := TyF.mk' (z := .agg #[.int .i64 0, .int .i64 0, .int .i64 0]) Tryz.underlying118 rfl (by kernel_rfl) rfl
def R118 : Rep Tpiece_repeat := ⟨118, 3, 24, fun x => [.int .i64 x.from_, .int .i64 x.to_, .int .i64 x.times], fun _ => rfl, fun x u hu => by simp only [List.mem_cons, List.mem_nil_iff, or_false] at hu; rcases hu with rfl | rfl | rfl <;> rfl, by decide⟩
def N28 : Nst (List TTone) SV := ⟨⟨28, 1, 24, fun p => [p.2.v], fun _ => rfl, fun p u hu => by simp only [List.mem_cons, List.mem_nil_iff, or_false] at hu; rcases hu with rfl <;> rfl, by decide⟩, fun p w => RdS R42 (SV.v p.2) p.1 w⟩
theorem eqst40_ (d : Nat) (x y : TFraction) : EqV Tryz.prog (d + 2) 40 (.agg (R40.enc x).toArray) (.agg (R40.enc y).toArray) (decide (x = y)) := by
  have h : ((x.Num == y.Num) && ((x.Den == y.Den) && true)) = decide (x = y) := by rw [Bool.eq_iff_iff]; cases x; cases y; simp [ba_beq]
  rw [← h]
  exact eqv_struct Tryz.underlying40 (by kernel_rfl) (eqf_cons (.int .i64 x.Num) (.int .i64 y.Num) (by decide) (fun _ => by kernel_rfl) (fun _ => by kernel_rfl) (eqv_int Tryz.underlying3 _ _) (eqf_cons (.int .i64 x.Den) (.int .i64 y.Den) (by decide) (fun _ => by kernel_rfl) (fun _ => by kernel_rfl) (eqv_int Tryz.underlying3 _ _) eqf_nil))
theorem eqst40 (x y : TFraction) : EqV Tryz.prog 10000 40 (.agg (R40.enc x).toArray) (.agg (R40.enc y).toArray) (decide (x = y)) := eqst40_ 9998 x y
theorem eqst42_ (d : Nat) (x y : TTone) : EqV Tryz.prog (d + 3) 42 (.agg (R42.enc x).toArray) (.agg (R42.enc y).toArray) (decide (x = y)) := by
  have h : ((x.Note == y.Note) && ((decide (x.Long = y.Long)) && ((x.Text == y.Text) && ((x.Tied == y.Tied) && true)))) = decide (x = y) := by rw [Bool.eq_iff_iff]; cases x; cases y; simp [ba_beq]
  rw [← h]
  exact eqv_struct Tryz.underlying42 (by kernel_rfl) (eqf_cons (.int .i64 x.Note) (.int .i64 y.Note) (by decide) (fun _ => by kernel_rfl) (fun _ => by kernel_rfl) (eqv_int Tryz.underlying3 _ _) (eqf_cons (.agg (R40.enc x.Long).toArray) (.agg (R40.enc y.Long).toArray) (by decide) (fun _ => by kernel_rfl) (fun _ => by kernel_rfl) (eqst40_ _ x.Long y.Long) (eqf_cons (.string x.Text) (.string y.Text) (by decide) (fun _ => by kernel_rfl) (fun _ => by kernel_rfl) (eqv_str Tryz.underlying9 _ _) (eqf_cons (.bool x.Tied) (.bool y.Tied) (by decide) (fun _ => by kernel_rfl) (fun _ => by kernel_rfl) (eqv_bool Tryz.underlying4 _ _) eqf_nil))))
theorem eqst42 (x y : TTone) : EqV Tryz.prog 10000 42 (.agg (R42.enc x).toArray) (.agg (R42.enc y).toArray) (decide (x = y)) := eqst42_ 9997 x y
theorem fl25_0 : FldF Tryz.prog 25 0 0 := fun _ _ => by kernel_rfl
theorem fl25_1 : FldF Tryz.prog 25 1 1 := fun _ _ => by kernel_rfl
theorem fl40_0 : FldF Tryz.prog 40 0 0 := fun _ _ => by kernel_rfl
theorem fl40_1 : FldF Tryz.prog 40 1 1 := fun _ _ => by kernel_rfl
theorem fl42_0 : FldF Tryz.prog 42 0 0 := fun _ _ => by kernel_rfl
theorem fl42_1 : FldF Tryz.prog 42 1 1 := fun _ _ => by kernel_rfl
theorem fl42_2 : FldF Tryz.prog 42 2 3 := fun _ _ => by kernel_rfl
theorem fl42_3 : FldF Tryz.prog 42 3 4 := fun _ _ => by kernel_rfl
theorem fl48_0 : FldF Tryz.prog 48 0 0 := fun _ _ => by kernel_rfl
theorem fl48_1 : FldF Tryz.prog 48 1 1 := fun _ _ => by kernel_rfl
theorem fl48_2 : FldF Tryz.prog 48 2 2 := fun _ _ => by kernel_rfl
theorem fl48_3 : FldF Tryz.prog 48 3 3 := fun _ _ => by kernel_rfl
theorem fl48_4 : FldF Tryz.prog 48 4 4 := fun _ _ => by kernel_rfl
theorem fl118_0 : FldF Tryz.prog 118 0 0 := fun _ _ => by kernel_rfl
theorem fl118_1 : FldF Tryz.prog 118 1 1 := fun _ _ => by kernel_rfl
theorem fl118_2 : FldF Tryz.prog 118 2 2 := fun _ _ => by kernel_rfl
theorem cf4 : ∀ args w, (callFunc 4 args).run Tryz.prog w = .ok (.enter 4 args) w := fun _ _ => by kernel_rfl
theorem cf5 : ∀ args w, (callFunc 5 args).run Tryz.prog w = .ok (.enter 5 args) w := fun _ _ => by kernel_rfl
theorem cf6 : ∀ args w, (callFunc 6 args).run Tryz.prog w = .ok (.enter 6 args) w := fun _ _ => by kernel_rfl
theorem cf7 : ∀ args w, (callFunc 7 args).run Tryz.prog w = .ok (.enter 7 args) w := fun _ _ => by kernel_rfl
theorem cf8 : ∀ args w, (callFunc 8 args).run Tryz.prog w = .ok (.enter 8 args) w := fun _ _ => by kernel_rfl
theorem cf9 : ∀ args w, (callFunc 9 args).run Tryz.prog w = .ok (.enter 9 args) w := fun _ _ => by kernel_rfl
theorem cf10 : ∀ args w, (callFunc 10 args).run Tryz.prog w = .ok (.enter 10 args) w := fun _ _ => by kernel_rfl
theorem cf11 : ∀ args w, (callFunc 11 args).run Tryz.prog w = .ok (.enter 11 args) w := fun _ _ => by kernel_rfl
theorem cf12 : ∀ args w, (callFunc 12 args).run Tryz.prog w = .ok (.enter 12 args) w := fun _ _ => by kernel_rfl
theorem cf13 : ∀ args w, (callFunc 13 args).run Tryz.prog w = .ok (.enter 13 args) w := fun _ _ => by kernel_rfl
theorem cf14 : ∀ args w, (callFunc 14 args).run Tryz.prog w = .ok (.enter 14 args) w := fun _ _ => by kernel_rfl
theorem cf15 : ∀ args w, (callFunc 15 args).run Tryz.prog w = .ok (.enter 15 args) w := fun _ _ => by kernel_rfl
theorem cf16 : ∀ args w, (callFunc 16 args).run Tryz.prog w = .ok (.enter 16 args) w := fun _ _ => by kernel_rfl
theorem cf17 : ∀ args w, (callFunc 17 args).run Tryz.prog w = .ok (.enter 17 args) w := fun _ _ => by kernel_rfl
theorem cf18 : ∀ args w, (callFunc 18 args).run Tryz.prog w = .ok (.enter 18 args) w := fun _ _ => by kernel_rfl
theorem cf19 : ∀ args w, (callFunc 19 args).run Tryz.prog w = .ok (.enter 19 args) w := fun _ _ => by kernel_rfl
theorem cf20 : ∀ args w, (callFunc 20 args).run Tryz.prog w = .ok (.enter 20 args) w := fun _ _ => by kernel_rfl
theorem cf21 : ∀ args w, (callFunc 21 args).run Tryz.prog w = .ok (.enter 21 args) w := fun _ _ => by kernel_rfl
theorem cf22 : ∀ args w, (callFunc 22 args).run Tryz.prog w = .ok (.enter 22 args) w := fun _ _ => by kernel_rfl
theorem cf23 : ∀ args w, (callFunc 23 args).run Tryz.prog w = .ok (.enter 23 args) w := fun _ _ => by kernel_rfl
theorem cf24 : ∀ args w, (callFunc 24 args).run Tryz.prog w = .ok (.enter 24 args) w := fun _ _ => by kernel_rfl
theorem cf25 : ∀ args w, (callFunc 25 args).run Tryz.prog w = .ok (.enter 25 args) w := fun _ _ => by kernel_rfl
theorem cf26 : ∀ args w, (callFunc 26 args).run Tryz.prog w = .ok (.enter 26 args) w := fun _ _ => by kernel_rfl
theorem cf27 : ∀ args w, (callFunc 27 args).run Tryz.prog w = .ok (.enter 27 args) w := fun _ _ => by kernel_rfl
theorem cf28 : ∀ args w, (callFunc 28 args).run Tryz.prog w = .ok (.enter 28 args) w := fun _ _ => by kernel_rfl
theorem cf29 : ∀ args w, (callFunc 29 args).run Tryz.prog w = .ok (.enter 29 args) w := fun _ _ => by kernel_rfl
theorem cf30 : ∀ args w, (callFunc 30 args).run Tryz.prog w = .ok (.enter 30 args) w := fun _ _ => by kernel_rfl
theorem cf31 : ∀ args w, (callFunc 31 args).run Tryz.prog w = .ok (.enter 31 args) w := fun _ _ => by kernel_rfl
theorem cf32 : ∀ args w, (callFunc 32 args).run Tryz.prog w = .ok (.enter 32 args) w := fun _ _ => by kernel_rfl
theorem cf33 : ∀ args w, (callFunc 33 args).run Tryz.prog w = .ok (.enter 33 args) w := fun _ _ => by kernel_rfl
theorem cf34 : ∀ args w, (callFunc 34 args).run Tryz.prog w = .ok (.enter 34 args) w := fun _ _ => by kernel_rfl
theorem cf35 : ∀ args w, (callFunc 35 args).run Tryz.prog w = .ok (.enter 35 args) w := fun _ _ => by kernel_rfl
theorem cf36 : ∀ args w, (callFunc 36 args).run Tryz.prog w = .ok (.enter 36 args) w := fun _ _ => by kernel_rfl
theorem cf37 : ∀ args w, (callFunc 37 args).run Tryz.prog w = .ok (.enter 37 args) w := fun _ _ => by kernel_rfl
theorem cf38 : ∀ args w, (callFunc 38 args).run Tryz.prog w = .ok (.enter 38 args) w := fun _ _ => by kernel_rfl
theorem cf39 : ∀ args w, (callFunc 39 args).run Tryz.prog w = .ok (.enter 39 args) w := fun _ _ => by kernel_rfl
theorem cf40 : ∀ args w, (callFunc 40 args).run Tryz.prog w = .ok (.enter 40 args) w := fun _ _ => by kernel_rfl
theorem cf41 : ∀ args w, (callFunc 41 args).run Tryz.prog w = .ok (.enter 41 args) w := fun _ _ => by kernel_rfl
theorem cf42 : ∀ args w, (callFunc 42 args).run Tryz.prog w = .ok (.enter 42 args) w := fun _ _ => by kernel_rfl
theorem cf43 : ∀ args w, (callFunc 43 args).run Tryz.prog w = .ok (.enter 43 args) w := fun _ _ => by kernel_rfl
theorem cf44 : ∀ args w, (callFunc 44 args).run Tryz.prog w = .ok (.enter 44 args) w := fun _ _ => by kernel_rfl
theorem cf45 : ∀ args w, (callFunc 45 args).run Tryz.prog w = .ok (.enter 45 args) w := fun _ _ => by kernel_rfl
theorem cf46 : ∀ args w, (callFunc 46 args).run Tryz.prog w = .ok (.enter 46 args) w := fun _ _ => by kernel_rfl
theorem cf47 : ∀ args w, (callFunc 47 args).run Tryz.prog w = .ok (.enter 47 args) w := fun _ _ => by kernel_rfl
theorem cf48 : ∀ args w, (callFunc 48 args).run Tryz.prog w = .ok (.enter 48 args) w := fun _ _ => by kernel_rfl
theorem cf49 : ∀ args w, (callFunc 49 args).run Tryz.prog w = .ok (.enter 49 args) w := fun _ _ => by kernel_rfl
theorem cf50 : ∀ args w, (callFunc 50 args).run Tryz.prog w = .ok (.enter 50 args) w := fun _ _ => by kernel_rfl
theorem cf51 : ∀ args w, (callFunc 51 args).run Tryz.prog w = .ok (.enter 51 args) w := fun _ _ => by kernel_rfl
theorem cf52 : ∀ args w, (callFunc 52 args).run Tryz.prog w = .ok (.enter 52 args) w := fun _ _ => by kernel_rfl
theorem cf53 : ∀ args w, (callFunc 53 args).run Tryz.prog w = .ok (.enter 53 args) w := fun _ _ => by kernel_rfl
theorem cf54 : ∀ args w, (callFunc 54 args).run Tryz.prog w = .ok (.enter 54 args) w := fun _ _ => by kernel_rfl
theorem cf55 : ∀ args w, (callFunc 55 args).run Tryz.prog w = .ok (.enter 55 args) w := fun _ _ => by kernel_rfl
theorem cf56 : ∀ args w, (callFunc 56 args).run Tryz.prog w = .ok (.enter 56 args) w := fun _ _ => by kernel_rfl
theorem cf58 : ∀ args w, (callFunc 58 args).run Tryz.prog w = .ok (.enter 58 args) w := fun _ _ => by kernel_rfl
theorem cf59 : ∀ args w, (callFunc 59 args).run Tryz.prog w = .ok (.enter 59 args) w := fun _ _ => by kernel_rfl
theorem cf60 : ∀ args w, (callFunc 60 args).run Tryz.prog w = .ok (.enter 60 args) w := fun _ _ => by kernel_rfl
theorem cf61 : ∀ args w, (callFunc 61 args).run Tryz.prog w = .ok (.enter 61 args) w := fun _ _ => by kernel_rfl
theorem cf63 : ∀ args w, (callFunc 63 args).run Tryz.prog w = .ok (.enter 63 args) w := fun _ _ => by kernel_rfl
theorem cf64 : ∀ args w, (callFunc 64 args).run Tryz.prog w = .ok (.enter 64 args) w := fun _ _ => by kernel_rfl
theorem cf65 : ∀ args w, (callFunc 65 args).run Tryz.prog w = .ok (.enter 65 args) w := fun _ _ => by kernel_rfl
theorem cf66 : ∀ args w, (callFunc 66 args).run Tryz.prog w = .ok (.enter 66 args) w := fun _ _ => by kernel_rfl
theorem cf67 : ∀ args w, (callFunc 67 args).run Tryz.prog w = .ok (.enter 67 args) w := fun _ _ => by kernel_rfl
theorem cf68 : ∀ args w, (callFunc 68 args).run Tryz.prog w = .ok (.enter 68 args) w := fun _ _ => by kernel_rfl
theorem cf69 : ∀ args w, (callFunc 69 args).run Tryz.prog w = .ok (.enter 69 args) w := fun _ _ => by kernel_rfl
theorem cf70 : ∀ args w, (callFunc 70 args).run Tryz.prog w = .ok (.enter 70 args) w := fun _ _ => by kernel_rfl
theorem cf71 : ∀ args w, (callFunc 71 args).run Tryz.prog w = .ok (.enter 71 args) w := fun _ _ => by kernel_rfl
theorem cf72 : ∀ args w, (callFunc 72 args).run Tryz.prog w = .ok (.enter 72 args) w := fun _ _ => by kernel_rfl
theorem cf73 : ∀ args w, (callFunc 73 args).run Tryz.prog w = .ok (.enter 73 args) w := fun _ _ => by kernel_rfl
theorem cf74 : ∀ args w, (callFunc 74 args).run Tryz.prog w = .ok (.enter 74 args) w := fun _ _ => by kernel_rfl
theorem cf75 : ∀ args w, (callFunc 75 args).run Tryz.prog w = .ok (.enter 75 args) w := fun _ _ => by kernel_rfl
theorem cf76 : ∀ args w, (callFunc 76 args).run Tryz.prog w = .ok (.enter 76 args) w := fun _ _ => by kernel_rfl
theorem cf77 : ∀ args w, (callFunc 77 args).run Tryz.prog w = .ok (.enter 77 args) w := fun _ _ => by kernel_rfl
theorem cf78 : ∀ args w, (callFunc 78 args).run Tryz.prog w = .ok (.enter 78 args) w := fun _ _ => by kernel_rfl
theorem cf79 : ∀ args w, (callFunc 79 args).run Tryz.prog w = .ok (.enter 79 args) w := fun _ _ => by kernel_rfl
theorem cf82 : ∀ args w, (callFunc 82 args).run Tryz.prog w = .ok (.enter 82 args) w := fun _ _ => by kernel_rfl
theorem cf84 : ∀ args w, (callFunc 84 args).run Tryz.prog w = .ok (.enter 84 args) w := fun _ _ => by kernel_rfl
theorem cf85 : ∀ args w, (callFunc 85 args).run Tryz.prog w = .ok (.enter 85 args) w := fun _ _ => by kernel_rfl
theorem cf87 : ∀ args w, (callFunc 87 args).run Tryz.prog w = .ok (.enter 87 args) w := fun _ _ => by kernel_rfl
theorem cf88 : ∀ args w, (callFunc 88 args).run Tryz.prog w = .ok (.enter 88 args) w := fun _ _ => by kernel_rfl
theorem cf89 : ∀ args w, (callFunc 89 args).run Tryz.prog w = .ok (.enter 89 args) w := fun _ _ => by kernel_rfl
theorem cf90 : ∀ args w, (callFunc 90 args).run Tryz.prog w = .ok (.enter 90 args) w := fun _ _ => by kernel_rfl
theorem cf91 : ∀ args w, (callFunc 91 args).run Tryz.prog w = .ok (.enter 91 args) w := fun _ _ => by kernel_rfl
theorem cf92 : ∀ args w, (callFunc 92 args).run Tryz.prog w = .ok (.enter 92 args) w := fun _ _ => by kernel_rfl
theorem cf93 : ∀ args w, (callFunc 93 args).run Tryz.prog w = .ok (.enter 93 args) w := fun _ _ => by kernel_rfl
theorem cf94 : ∀ args w, (callFunc 94 args).run Tryz.prog w = .ok (.enter 94 args) w := fun _ _ => by kernel_rfl
theorem cf95 : ∀ args w, (callFunc 95 args).run Tryz.prog w = .ok (.enter 95 args) w := fun _ _ => by kernel_rfl
theorem cf97 : ∀ args w, (callFunc 97 args).run Tryz.prog w = .ok (.enter 97 args) w := fun _ _ => by kernel_rfl
theorem cf99 : ∀ args w, (callFunc 99 args).run Tryz.prog w = .ok (.enter 99 args) w := fun _ _ => by kernel_rfl
theorem cf100 : ∀ args w, (callFunc 100 args).run Tryz.prog w = .ok (.enter 100 args) w := fun _ _ => by kernel_rfl
theorem cf104 : ∀ args w, (callFunc 104 args).run Tryz.prog w = .ok (.enter 104 args) w := fun _ _ => by kernel_rfl
theorem cf105 : ∀ args w, (callFunc 105 args).run Tryz.prog w = .ok (.enter 105 args) w := fun _ _ => by kernel_rfl
theorem cf106 : ∀ args w, (callFunc 106 args).run Tryz.prog w = .ok (.enter 106 args) w := fun _ _ => by kernel_rfl
theorem cf107 : ∀ args w, (callFunc 107 args).run Tryz.prog w = .ok (.enter 107 args) w := fun _ _ => by kernel_rfl
theorem cf108 : ∀ args w, (callFunc 108 args).run Tryz.prog w = .ok (.enter 108 args) w := fun _ _ => by kernel_rfl
theorem cf119 : ∀ args w, (callFunc 119 args).run Tryz.prog w = .ok (.enter 119 args) w := fun _ _ => by kernel_rfl
theorem cf123 : ∀ args w, (callFunc 123 args).run Tryz.prog w = .ok (.enter 123 args) w := fun _ _ => by kernel_rfl
theorem cf131 : ∀ args w, (callFunc 131 args).run Tryz.prog w = .ok (.enter 131 args) w := fun _ _ => by kernel_rfl
end Go.Proofs.YtlhfimbpjdfdgabGreatDoor
