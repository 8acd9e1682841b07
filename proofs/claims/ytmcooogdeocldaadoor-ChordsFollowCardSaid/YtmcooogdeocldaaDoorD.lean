/- Facts on the types and functions. Written by program. -/
import Derived.Test.YtmcooogdeocldaaDoorProg
import Derived.KernelRfl
import Derived.Test.YtmcooogdeocldaaDoorM
namespace Go.Proofs.YtmcooogdeocldaaDoor
open Go Go.J Go.G
set_option linter.unusedSimpArgs false
theorem ty3 : TyF Tryd.prog 3 false 1 8 [.int .i64 0] := TyF.mk' (z := .int .i64 0) Tryd.underlying3 rfl (by kernel_rfl) rfl
def R3 : Rep Int := ⟨3, 1, 8, fun x => [.int .i64 x], fun _ => rfl, fun x u hu => by simp only [List.mem_cons, List.mem_nil_iff, or_false] at hu; rcases hu with rfl <;> rfl, by decide⟩
theorem ty9 : TyF Tryd.prog 9 false 1 16 [.string ByteArray.empty] := TyF.mk' (z := .string ByteArray.empty) Tryd.underlying9 rfl (by kernel_rfl) rfl
def R9 : Rep ByteArray := ⟨9, 1, 16, fun x => [.string x], fun _ => rfl, fun x u hu => by simp only [List.mem_cons, List.mem_nil_iff, or_false] at hu; rcases hu with rfl <;> rfl, by decide⟩
theorem ty22 : TyF Tryd.prog 22 false 1 24 [.slice none 0 0] := TyF.mk' (z := .slice none 0 0) Tryd.underlying22 rfl (by kernel_rfl) rfl
theorem ty25 : TyF Tryd.prog 25 true 2 32 [.slice none 0 0, .int .i64 0] := TyF.mk' (z := .agg #[.slice none 0 0, .int .i64 0]) Tryd.underlying25 rfl (by kernel_rfl) rfl
theorem ty29 : TyF Tryd.prog 29 true 3 24 [.int .i64 0, .int .i64 0, .int .i64 0] := TyF.mk' (z := .agg #[.int .i64 0, .int .i64 0, .int .i64 0]) Tryd.underlying29 rfl (by kernel_rfl) rfl
def R29 : Rep TChord := ⟨29, 3, 24, fun x => [.int .i64 x.Root, .int .i64 x.Kind, .int .i64 x.Turn], fun _ => rfl, fun x u hu => by simp only [List.mem_cons, List.mem_nil_iff, or_false] at hu; rcases hu with rfl | rfl | rfl <;> rfl, by decide⟩
theorem ty36 : TyF Tryd.prog 36 false 1 8 [.int .i64 0] := TyF.mk' (z := .int .i64 0) Tryd.underlying36 rfl (by kernel_rfl) rfl
def R36 : Rep Int := ⟨36, 1, 8, fun x => [.int .i64 x], fun _ => rfl, fun x u hu => by simp only [List.mem_cons, List.mem_nil_iff, or_false] at hu; rcases hu with rfl <;> rfl, by decide⟩
theorem ty56 : TyF Tryd.prog 56 true 3 24 [.int .i64 0, .int .i64 0, .int .i64 0] := TyF.mk' (z := .agg #[.int .i64 0, .int .i64 0, .int .i64 0]) Tryd.underlying56 rfl (by kernel_rfl) rfl
def R56 : Rep TFollow := ⟨56, 3, 24, fun x => [.int .i64 x.From, .int .i64 x.To, .int .i64 x.Up], fun _ => rfl, fun x u hu => by simp only [List.mem_cons, List.mem_nil_iff, or_false] at hu; rcases hu with rfl | rfl | rfl <;> rfl, by decide⟩
def N22 : Nst (List Int) SV := ⟨⟨22, 1, 24, fun p => [p.2.v], fun _ => rfl, fun p u hu => by simp only [List.mem_cons, List.mem_nil_iff, or_false] at hu; rcases hu with rfl <;> rfl, by decide⟩, fun p w => RdS R3 (SV.v p.2) p.1 w⟩
theorem eqst29_ (d : Nat) (x y : TChord) : EqV Tryd.prog (d + 2) 29 (.agg (R29.enc x).toArray) (.agg (R29.enc y).toArray) (decide (x = y)) := by
  have h : ((x.Root == y.Root) && ((x.Kind == y.Kind) && ((x.Turn == y.Turn) && true))) = decide (x = y) := by rw [Bool.eq_iff_iff]; cases x; cases y; simp [ba_beq]
  rw [← h]
  exact eqv_struct Tryd.underlying29 (by kernel_rfl) (eqf_cons (.int .i64 x.Root) (.int .i64 y.Root) (by decide) (fun _ => by kernel_rfl) (fun _ => by kernel_rfl) (eqv_int Tryd.underlying3 _ _) (eqf_cons (.int .i64 x.Kind) (.int .i64 y.Kind) (by decide) (fun _ => by kernel_rfl) (fun _ => by kernel_rfl) (eqv_int Tryd.underlying3 _ _) (eqf_cons (.int .i64 x.Turn) (.int .i64 y.Turn) (by decide) (fun _ => by kernel_rfl) (fun _ => by kernel_rfl) (eqv_int Tryd.underlying3 _ _) eqf_nil)))
theorem eqst29 (x y : TChord) : EqV Tryd.prog 10000 29 (.agg (R29.enc x).toArray) (.agg (R29.enc y).toArray) (decide (x = y)) := eqst29_ 9998 x y
theorem eqst56_ (d : Nat) (x y : TFollow) : EqV Tryd.prog (d + 2) 56 (.agg (R56.enc x).toArray) (.agg (R56.enc y).toArray) (decide (x = y)) := by
  have h : ((x.From == y.From) && ((x.To == y.To) && ((x.Up == y.Up) && true))) = decide (x = y) := by rw [Bool.eq_iff_iff]; cases x; cases y; simp [ba_beq]
  rw [← h]
  exact eqv_struct Tryd.underlying56 (by kernel_rfl) (eqf_cons (.int .i64 x.From) (.int .i64 y.From) (by decide) (fun _ => by kernel_rfl) (fun _ => by kernel_rfl) (eqv_int Tryd.underlying3 _ _) (eqf_cons (.int .i64 x.To) (.int .i64 y.To) (by decide) (fun _ => by kernel_rfl) (fun _ => by kernel_rfl) (eqv_int Tryd.underlying3 _ _) (eqf_cons (.int .i64 x.Up) (.int .i64 y.Up) (by decide) (fun _ => by kernel_rfl) (fun _ => by kernel_rfl) (eqv_int Tryd.underlying3 _ _) eqf_nil)))
theorem eqst56 (x y : TFollow) : EqV Tryd.prog 10000 56 (.agg (R56.enc x).toArray) (.agg (R56.enc y).toArray) (decide (x = y)) := eqst56_ 9998 x y
@[reducible] def vv3 : Int → Value := fun x => .int .i64 x
@[reducible] def kv29 : TChord → Value := fun x => .agg (R29.enc x).toArray
theorem keyF29 : KeyF Tryd.prog 29 kv29 := keyF_agg Tryd.underlying29 (fun _ _ _ => by kernel_rfl) eqst29 (fun k v hv => by simp only [R29, List.mem_cons, List.not_mem_nil, or_false] at hv; rcases hv with rfl | rfl | rfl <;> simp [Instr.sameBits, ba_dec])
theorem fl25_0 : FldF Tryd.prog 25 0 0 := fun _ _ => by kernel_rfl
theorem fl25_1 : FldF Tryd.prog 25 1 1 := fun _ _ => by kernel_rfl
theorem fl29_0 : FldF Tryd.prog 29 0 0 := fun _ _ => by kernel_rfl
theorem fl29_1 : FldF Tryd.prog 29 1 1 := fun _ _ => by kernel_rfl
theorem fl29_2 : FldF Tryd.prog 29 2 2 := fun _ _ => by kernel_rfl
theorem fl56_0 : FldF Tryd.prog 56 0 0 := fun _ _ => by kernel_rfl
theorem fl56_1 : FldF Tryd.prog 56 1 1 := fun _ _ => by kernel_rfl
theorem fl56_2 : FldF Tryd.prog 56 2 2 := fun _ _ => by kernel_rfl
theorem cf4 : ∀ args w, (callFunc 4 args).run Tryd.prog w = .ok (.enter 4 args) w := fun _ _ => by kernel_rfl
theorem cf5 : ∀ args w, (callFunc 5 args).run Tryd.prog w = .ok (.enter 5 args) w := fun _ _ => by kernel_rfl
theorem cf6 : ∀ args w, (callFunc 6 args).run Tryd.prog w = .ok (.enter 6 args) w := fun _ _ => by kernel_rfl
theorem cf7 : ∀ args w, (callFunc 7 args).run Tryd.prog w = .ok (.enter 7 args) w := fun _ _ => by kernel_rfl
theorem cf8 : ∀ args w, (callFunc 8 args).run Tryd.prog w = .ok (.enter 8 args) w := fun _ _ => by kernel_rfl
theorem cf9 : ∀ args w, (callFunc 9 args).run Tryd.prog w = .ok (.enter 9 args) w := fun _ _ => by kernel_rfl
theorem cf10 : ∀ args w, (callFunc 10 args).run Tryd.prog w = .ok (.enter 10 args) w := fun _ _ => by kernel_rfl
theorem cf11 : ∀ args w, (callFunc 11 args).run Tryd.prog w = .ok (.enter 11 args) w := fun _ _ => by kernel_rfl
theorem cf12 : ∀ args w, (callFunc 12 args).run Tryd.prog w = .ok (.enter 12 args) w := fun _ _ => by kernel_rfl
theorem cf13 : ∀ args w, (callFunc 13 args).run Tryd.prog w = .ok (.enter 13 args) w := fun _ _ => by kernel_rfl
theorem cf14 : ∀ args w, (callFunc 14 args).run Tryd.prog w = .ok (.enter 14 args) w := fun _ _ => by kernel_rfl
theorem cf15 : ∀ args w, (callFunc 15 args).run Tryd.prog w = .ok (.enter 15 args) w := fun _ _ => by kernel_rfl
theorem cf16 : ∀ args w, (callFunc 16 args).run Tryd.prog w = .ok (.enter 16 args) w := fun _ _ => by kernel_rfl
theorem cf17 : ∀ args w, (callFunc 17 args).run Tryd.prog w = .ok (.enter 17 args) w := fun _ _ => by kernel_rfl
theorem cf18 : ∀ args w, (callFunc 18 args).run Tryd.prog w = .ok (.enter 18 args) w := fun _ _ => by kernel_rfl
theorem cf19 : ∀ args w, (callFunc 19 args).run Tryd.prog w = .ok (.enter 19 args) w := fun _ _ => by kernel_rfl
theorem cf20 : ∀ args w, (callFunc 20 args).run Tryd.prog w = .ok (.enter 20 args) w := fun _ _ => by kernel_rfl
theorem cf21 : ∀ args w, (callFunc 21 args).run Tryd.prog w = .ok (.enter 21 args) w := fun _ _ => by kernel_rfl
theorem cf22 : ∀ args w, (callFunc 22 args).run Tryd.prog w = .ok (.enter 22 args) w := fun _ _ => by kernel_rfl
theorem cf23 : ∀ args w, (callFunc 23 args).run Tryd.prog w = .ok (.enter 23 args) w := fun _ _ => by kernel_rfl
theorem cf24 : ∀ args w, (callFunc 24 args).run Tryd.prog w = .ok (.enter 24 args) w := fun _ _ => by kernel_rfl
theorem cf25 : ∀ args w, (callFunc 25 args).run Tryd.prog w = .ok (.enter 25 args) w := fun _ _ => by kernel_rfl
theorem cf26 : ∀ args w, (callFunc 26 args).run Tryd.prog w = .ok (.enter 26 args) w := fun _ _ => by kernel_rfl
theorem cf27 : ∀ args w, (callFunc 27 args).run Tryd.prog w = .ok (.enter 27 args) w := fun _ _ => by kernel_rfl
theorem cf28 : ∀ args w, (callFunc 28 args).run Tryd.prog w = .ok (.enter 28 args) w := fun _ _ => by kernel_rfl
theorem cf29 : ∀ args w, (callFunc 29 args).run Tryd.prog w = .ok (.enter 29 args) w := fun _ _ => by kernel_rfl
theorem cf30 : ∀ args w, (callFunc 30 args).run Tryd.prog w = .ok (.enter 30 args) w := fun _ _ => by kernel_rfl
theorem cf31 : ∀ args w, (callFunc 31 args).run Tryd.prog w = .ok (.enter 31 args) w := fun _ _ => by kernel_rfl
theorem cf32 : ∀ args w, (callFunc 32 args).run Tryd.prog w = .ok (.enter 32 args) w := fun _ _ => by kernel_rfl
theorem cf33 : ∀ args w, (callFunc 33 args).run Tryd.prog w = .ok (.enter 33 args) w := fun _ _ => by kernel_rfl
theorem cf34 : ∀ args w, (callFunc 34 args).run Tryd.prog w = .ok (.enter 34 args) w := fun _ _ => by kernel_rfl
theorem cf35 : ∀ args w, (callFunc 35 args).run Tryd.prog w = .ok (.enter 35 args) w := fun _ _ => by kernel_rfl
theorem cf36 : ∀ args w, (callFunc 36 args).run Tryd.prog w = .ok (.enter 36 args) w := fun _ _ => by kernel_rfl
theorem cf37 : ∀ args w, (callFunc 37 args).run Tryd.prog w = .ok (.enter 37 args) w := fun _ _ => by kernel_rfl
theorem cf38 : ∀ args w, (callFunc 38 args).run Tryd.prog w = .ok (.enter 38 args) w := fun _ _ => by kernel_rfl
theorem cf39 : ∀ args w, (callFunc 39 args).run Tryd.prog w = .ok (.enter 39 args) w := fun _ _ => by kernel_rfl
theorem cf40 : ∀ args w, (callFunc 40 args).run Tryd.prog w = .ok (.enter 40 args) w := fun _ _ => by kernel_rfl
theorem cf41 : ∀ args w, (callFunc 41 args).run Tryd.prog w = .ok (.enter 41 args) w := fun _ _ => by kernel_rfl
theorem cf42 : ∀ args w, (callFunc 42 args).run Tryd.prog w = .ok (.enter 42 args) w := fun _ _ => by kernel_rfl
theorem cf43 : ∀ args w, (callFunc 43 args).run Tryd.prog w = .ok (.enter 43 args) w := fun _ _ => by kernel_rfl
theorem cf44 : ∀ args w, (callFunc 44 args).run Tryd.prog w = .ok (.enter 44 args) w := fun _ _ => by kernel_rfl
theorem cf45 : ∀ args w, (callFunc 45 args).run Tryd.prog w = .ok (.enter 45 args) w := fun _ _ => by kernel_rfl
theorem cf46 : ∀ args w, (callFunc 46 args).run Tryd.prog w = .ok (.enter 46 args) w := fun _ _ => by kernel_rfl
theorem cf47 : ∀ args w, (callFunc 47 args).run Tryd.prog w = .ok (.enter 47 args) w := fun _ _ => by kernel_rfl
theorem cf48 : ∀ args w, (callFunc 48 args).run Tryd.prog w = .ok (.enter 48 args) w := fun _ _ => by kernel_rfl
theorem cf49 : ∀ args w, (callFunc 49 args).run Tryd.prog w = .ok (.enter 49 args) w := fun _ _ => by kernel_rfl
theorem cf50 : ∀ args w, (callFunc 50 args).run Tryd.prog w = .ok (.enter 50 args) w := fun _ _ => by kernel_rfl
theorem cf51 : ∀ args w, (callFunc 51 args).run Tryd.prog w = .ok (.enter 51 args) w := fun _ _ => by kernel_rfl
theorem cf52 : ∀ args w, (callFunc 52 args).run Tryd.prog w = .ok (.enter 52 args) w := fun _ _ => by kernel_rfl
theorem cf53 : ∀ args w, (callFunc 53 args).run Tryd.prog w = .ok (.enter 53 args) w := fun _ _ => by kernel_rfl
theorem cf54 : ∀ args w, (callFunc 54 args).run Tryd.prog w = .ok (.enter 54 args) w := fun _ _ => by kernel_rfl
theorem cf55 : ∀ args w, (callFunc 55 args).run Tryd.prog w = .ok (.enter 55 args) w := fun _ _ => by kernel_rfl
theorem cf64 : ∀ args w, (callFunc 64 args).run Tryd.prog w = .ok (.enter 64 args) w := fun _ _ => by kernel_rfl
theorem cf65 : ∀ args w, (callFunc 65 args).run Tryd.prog w = .ok (.enter 65 args) w := fun _ _ => by kernel_rfl
theorem cf66 : ∀ args w, (callFunc 66 args).run Tryd.prog w = .ok (.enter 66 args) w := fun _ _ => by kernel_rfl
theorem cf67 : ∀ args w, (callFunc 67 args).run Tryd.prog w = .ok (.enter 67 args) w := fun _ _ => by kernel_rfl
end Go.Proofs.YtmcooogdeocldaaDoor
