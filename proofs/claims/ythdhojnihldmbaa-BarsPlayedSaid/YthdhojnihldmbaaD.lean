/- Facts on the types and functions. Written by program. -/
import Derived.Test.YthdhojnihldmbaaRows
import Derived.Test.YthdhojnihldmbaaM
namespace Go.Proofs.Ythdhojnihldmbaa
open Go Go.J Go.G
theorem ty3 : TyF Try.prog 3 false 1 8 [.int .i64 0] := TyF.mk' (z := .int .i64 0) Try.underlying3 rfl (by kernel_rfl) rfl
def R3 : Rep Int := ⟨3, 1, 8, fun x => [.int .i64 x], fun _ => rfl, fun x u hu => by simp only [List.mem_cons, List.mem_nil_iff, or_false] at hu; rcases hu with rfl <;> rfl, by decide⟩
theorem ty4 : TyF Try.prog 4 false 1 1 [.bool false] := TyF.mk' (z := .bool false) Try.underlying4 rfl (by kernel_rfl) rfl
def R4 : Rep Bool := ⟨4, 1, 1, fun x => [.bool x], fun _ => rfl, fun x u hu => by simp only [List.mem_cons, List.mem_nil_iff, or_false] at hu; rcases hu with rfl <;> rfl, by decide⟩
theorem ty22 : TyF Try.prog 22 false 1 24 [.slice none 0 0] := TyF.mk' (z := .slice none 0 0) Try.underlying22 rfl (by kernel_rfl) rfl
theorem ty23 : TyF Try.prog 23 false 1 8 [.pointer none] := TyF.mk' (z := .pointer none) Try.underlying23 rfl (by kernel_rfl) rfl
theorem ty33 : TyF Try.prog 33 true 2 16 [.int .i64 0, .int .i64 0] := TyF.mk' (z := .agg #[.int .i64 0, .int .i64 0]) Try.underlying33 rfl (by kernel_rfl) rfl
def R33 : Rep Fraction := ⟨33, 2, 16, fun x => [.int .i64 x.Num, .int .i64 x.Den], fun _ => rfl, fun x u hu => by simp only [List.mem_cons, List.mem_nil_iff, or_false] at hu; rcases hu with rfl | rfl <;> rfl, by decide⟩
theorem ty49 : TyF Try.prog 49 true 5 40 [.int .i64 0, .int .i64 0, .int .i64 0, .int .i64 0, .bool false] := TyF.mk' (z := .agg #[.int .i64 0, .int .i64 0, .int .i64 0, .int .i64 0, .bool false]) Try.underlying49 rfl (by kernel_rfl) rfl
def R49 : Rep Bar := ⟨49, 5, 40, fun x => [.int .i64 x.Beats, .int .i64 x.Unit, .int .i64 x.Close, .int .i64 x.Ending, .bool x.Open], fun _ => rfl, fun x u hu => by simp only [List.mem_cons, List.mem_nil_iff, or_false] at hu; rcases hu with rfl | rfl | rfl | rfl | rfl <;> rfl, by decide⟩
theorem ty66 : TyF Try.prog 66 true 3 24 [.int .i64 0, .int .i64 0, .int .i64 0] := TyF.mk' (z := .agg #[.int .i64 0, .int .i64 0, .int .i64 0]) Try.underlying66 rfl (by kernel_rfl) rfl
def R66 : Rep piece_repeat := ⟨66, 3, 24, fun x => [.int .i64 x.from_, .int .i64 x.to_, .int .i64 x.times], fun _ => rfl, fun x u hu => by simp only [List.mem_cons, List.mem_nil_iff, or_false] at hu; rcases hu with rfl | rfl | rfl <;> rfl, by decide⟩
theorem eqst33_ (d : Nat) (x y : Fraction) : EqV Try.prog (d + 2) 33 (.agg (R33.enc x).toArray) (.agg (R33.enc y).toArray) (decide (x = y)) := by
  have h : ((x.Num == y.Num) && ((x.Den == y.Den) && true)) = decide (x = y) := by rw [Bool.eq_iff_iff]; cases x; cases y; simp
  rw [← h]
  exact eqv_struct Try.underlying33 (by kernel_rfl) (eqf_cons (.int .i64 x.Num) (.int .i64 y.Num) (by decide) (fun _ => by kernel_rfl) (fun _ => by kernel_rfl) (eqv_int Try.underlying3 _ _) (eqf_cons (.int .i64 x.Den) (.int .i64 y.Den) (by decide) (fun _ => by kernel_rfl) (fun _ => by kernel_rfl) (eqv_int Try.underlying3 _ _) eqf_nil))
theorem eqst33 (x y : Fraction) : EqV Try.prog 10000 33 (.agg (R33.enc x).toArray) (.agg (R33.enc y).toArray) (decide (x = y)) := eqst33_ 9998 x y
theorem fl25_0 : FldF Try.prog 25 0 0 := fun _ _ => by kernel_rfl
theorem fl25_1 : FldF Try.prog 25 1 1 := fun _ _ => by kernel_rfl
theorem fl49_0 : FldF Try.prog 49 0 0 := fun _ _ => by kernel_rfl
theorem fl49_1 : FldF Try.prog 49 1 1 := fun _ _ => by kernel_rfl
theorem fl49_2 : FldF Try.prog 49 2 2 := fun _ _ => by kernel_rfl
theorem fl49_3 : FldF Try.prog 49 3 3 := fun _ _ => by kernel_rfl
theorem fl49_4 : FldF Try.prog 49 4 4 := fun _ _ => by kernel_rfl
theorem fl66_0 : FldF Try.prog 66 0 0 := fun _ _ => by kernel_rfl
theorem fl66_1 : FldF Try.prog 66 1 1 := fun _ _ => by kernel_rfl
theorem fl66_2 : FldF Try.prog 66 2 2 := fun _ _ => by kernel_rfl
theorem cf4 : ∀ args w, (callFunc 4 args).run Try.prog w = .ok (.enter 4 args) w := fun _ _ => by kernel_rfl
theorem cf5 : ∀ args w, (callFunc 5 args).run Try.prog w = .ok (.enter 5 args) w := fun _ _ => by kernel_rfl
theorem cf6 : ∀ args w, (callFunc 6 args).run Try.prog w = .ok (.enter 6 args) w := fun _ _ => by kernel_rfl
theorem cf7 : ∀ args w, (callFunc 7 args).run Try.prog w = .ok (.enter 7 args) w := fun _ _ => by kernel_rfl
theorem cf8 : ∀ args w, (callFunc 8 args).run Try.prog w = .ok (.enter 8 args) w := fun _ _ => by kernel_rfl
theorem cf9 : ∀ args w, (callFunc 9 args).run Try.prog w = .ok (.enter 9 args) w := fun _ _ => by kernel_rfl
theorem cf10 : ∀ args w, (callFunc 10 args).run Try.prog w = .ok (.enter 10 args) w := fun _ _ => by kernel_rfl
theorem cf11 : ∀ args w, (callFunc 11 args).run Try.prog w = .ok (.enter 11 args) w := fun _ _ => by kernel_rfl
theorem cf12 : ∀ args w, (callFunc 12 args).run Try.prog w = .ok (.enter 12 args) w := fun _ _ => by kernel_rfl
theorem cf13 : ∀ args w, (callFunc 13 args).run Try.prog w = .ok (.enter 13 args) w := fun _ _ => by kernel_rfl
theorem cf14 : ∀ args w, (callFunc 14 args).run Try.prog w = .ok (.enter 14 args) w := fun _ _ => by kernel_rfl
theorem cf15 : ∀ args w, (callFunc 15 args).run Try.prog w = .ok (.enter 15 args) w := fun _ _ => by kernel_rfl
theorem cf16 : ∀ args w, (callFunc 16 args).run Try.prog w = .ok (.enter 16 args) w := fun _ _ => by kernel_rfl
theorem cf17 : ∀ args w, (callFunc 17 args).run Try.prog w = .ok (.enter 17 args) w := fun _ _ => by kernel_rfl
theorem cf18 : ∀ args w, (callFunc 18 args).run Try.prog w = .ok (.enter 18 args) w := fun _ _ => by kernel_rfl
theorem cf19 : ∀ args w, (callFunc 19 args).run Try.prog w = .ok (.enter 19 args) w := fun _ _ => by kernel_rfl
theorem cf20 : ∀ args w, (callFunc 20 args).run Try.prog w = .ok (.enter 20 args) w := fun _ _ => by kernel_rfl
theorem cf21 : ∀ args w, (callFunc 21 args).run Try.prog w = .ok (.enter 21 args) w := fun _ _ => by kernel_rfl
theorem cf22 : ∀ args w, (callFunc 22 args).run Try.prog w = .ok (.enter 22 args) w := fun _ _ => by kernel_rfl
theorem cf23 : ∀ args w, (callFunc 23 args).run Try.prog w = .ok (.enter 23 args) w := fun _ _ => by kernel_rfl
theorem cf24 : ∀ args w, (callFunc 24 args).run Try.prog w = .ok (.enter 24 args) w := fun _ _ => by kernel_rfl
theorem cf25 : ∀ args w, (callFunc 25 args).run Try.prog w = .ok (.enter 25 args) w := fun _ _ => by kernel_rfl
theorem cf26 : ∀ args w, (callFunc 26 args).run Try.prog w = .ok (.enter 26 args) w := fun _ _ => by kernel_rfl
theorem cf27 : ∀ args w, (callFunc 27 args).run Try.prog w = .ok (.enter 27 args) w := fun _ _ => by kernel_rfl
theorem cf28 : ∀ args w, (callFunc 28 args).run Try.prog w = .ok (.enter 28 args) w := fun _ _ => by kernel_rfl
theorem cf29 : ∀ args w, (callFunc 29 args).run Try.prog w = .ok (.enter 29 args) w := fun _ _ => by kernel_rfl
theorem cf30 : ∀ args w, (callFunc 30 args).run Try.prog w = .ok (.enter 30 args) w := fun _ _ => by kernel_rfl
theorem cf31 : ∀ args w, (callFunc 31 args).run Try.prog w = .ok (.enter 31 args) w := fun _ _ => by kernel_rfl
theorem cf32 : ∀ args w, (callFunc 32 args).run Try.prog w = .ok (.enter 32 args) w := fun _ _ => by kernel_rfl
theorem cf33 : ∀ args w, (callFunc 33 args).run Try.prog w = .ok (.enter 33 args) w := fun _ _ => by kernel_rfl
theorem cf34 : ∀ args w, (callFunc 34 args).run Try.prog w = .ok (.enter 34 args) w := fun _ _ => by kernel_rfl
theorem cf35 : ∀ args w, (callFunc 35 args).run Try.prog w = .ok (.enter 35 args) w := fun _ _ => by kernel_rfl
theorem cf36 : ∀ args w, (callFunc 36 args).run Try.prog w = .ok (.enter 36 args) w := fun _ _ => by kernel_rfl
theorem cf37 : ∀ args w, (callFunc 37 args).run Try.prog w = .ok (.enter 37 args) w := fun _ _ => by kernel_rfl
theorem cf38 : ∀ args w, (callFunc 38 args).run Try.prog w = .ok (.enter 38 args) w := fun _ _ => by kernel_rfl
theorem cf39 : ∀ args w, (callFunc 39 args).run Try.prog w = .ok (.enter 39 args) w := fun _ _ => by kernel_rfl
end Go.Proofs.Ythdhojnihldmbaa
