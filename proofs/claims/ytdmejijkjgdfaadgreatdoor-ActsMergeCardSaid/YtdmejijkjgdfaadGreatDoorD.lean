/- Facts on the types and functions. Written by program. -/
import Derived.Test.YtdmejijkjgdfaadGreatDoorProg
import Derived.KernelRfl
import Derived.Test.YtdmejijkjgdfaadGreatDoorM
namespace Go.Proofs.YtdmejijkjgdfaadGreatDoor
open Go Go.J Go.G
set_option linter.unusedSimpArgs false
theorem ty3 : TyF Tryz.prog 3 false 1 8 [.int .i64 0] := TyF.mk' (z := .int .i64 0) Tryz.underlying3 rfl (by kernel_rfl) rfl
def R3 : Rep Int := ⟨3, 1, 8, fun x => [.int .i64 x], fun _ => rfl, fun x u hu => by simp only [List.mem_cons, List.mem_nil_iff, or_false] at hu; rcases hu with rfl <;> rfl, by decide⟩
theorem ty4 : TyF Tryz.prog 4 false 1 1 [.bool false] := TyF.mk' (z := .bool false) Tryz.underlying4 rfl (by kernel_rfl) rfl
def R4 : Rep Bool := ⟨4, 1, 1, fun x => [.bool x], fun _ => rfl, fun x u hu => by simp only [List.mem_cons, List.mem_nil_iff, or_false] at hu; rcases hu with rfl <;> rfl, by decide⟩
theorem ty9 : TyF Tryz.prog 9 false 1 16 [.string ByteArray.empty] := TyF.mk' (z := .string ByteArray.empty) Tryz.underlying9 rfl (by kernel_rfl) rfl
def R9 : Rep ByteArray := ⟨9, 1, 16, fun x => [.string x], fun _ => rfl, fun x u hu => by simp only [List.mem_cons, List.mem_nil_iff, or_false] at hu; rcases hu with rfl <;> rfl, by decide⟩
theorem ty22 : TyF Tryz.prog 22 false 1 24 [.slice none 0 0] := TyF.mk' (z := .slice none 0 0) Tryz.underlying22 rfl (by kernel_rfl) rfl
theorem ty25 : TyF Tryz.prog 25 true 2 32 [.slice none 0 0, .int .i64 0] := TyF.mk' (z := .agg #[.slice none 0 0, .int .i64 0]) Tryz.underlying25 rfl (by kernel_rfl) rfl
theorem ty26 : TyF Tryz.prog 26 false 1 24 [.slice none 0 0] := TyF.mk' (z := .slice none 0 0) Tryz.underlying26 rfl (by kernel_rfl) rfl
theorem ty30 : TyF Tryz.prog 30 false 1 8 [.nilFunc] := TyF.mk' (z := .nilFunc) Tryz.underlying30 rfl (by kernel_rfl) rfl
theorem ty33 : TyF Tryz.prog 33 true 10 112 [.string ByteArray.empty, .int .i64 0, .int .i64 0, .int .i64 0, .string ByteArray.empty, .string ByteArray.empty, .int .i64 0, .bool false, .string ByteArray.empty, .int .i64 0] := TyF.mk' (z := .agg #[.string ByteArray.empty, .int .i64 0, .int .i64 0, .int .i64 0, .string ByteArray.empty, .string ByteArray.empty, .int .i64 0, .bool false, .string ByteArray.empty, .int .i64 0]) Tryz.underlying33 rfl (by kernel_rfl) rfl
def R33 : Rep TAct := ⟨33, 10, 112, fun x => [.string x.Site, .int .i64 x.No, .int .i64 x.At, .int .i64 x.Kind, .string x.Who, .string x.Motion, .int .i64 x.Cents, .bool x.Yes, .string x.Of, .int .i64 x.Other], fun _ => rfl, fun x u hu => by simp only [List.mem_cons, List.mem_nil_iff, or_false] at hu; rcases hu with rfl | rfl | rfl | rfl | rfl | rfl | rfl | rfl | rfl | rfl <;> rfl, by decide⟩
theorem ty35 : TyF Tryz.prog 35 false 1 8 [.int .i64 0] := TyF.mk' (z := .int .i64 0) Tryz.underlying35 rfl (by kernel_rfl) rfl
def R35 : Rep Int := ⟨35, 1, 8, fun x => [.int .i64 x], fun _ => rfl, fun x u hu => by simp only [List.mem_cons, List.mem_nil_iff, or_false] at hu; rcases hu with rfl <;> rfl, by decide⟩
theorem ty49 : TyF Tryz.prog 49 false 1 8 [.map none] := TyF.mk' (z := .map none) Tryz.underlying49 rfl (by kernel_rfl) rfl
theorem ty62 : TyF Tryz.prog 62 true 2 24 [.string ByteArray.empty, .int .i64 0] := TyF.mk' (z := .agg #[.string ByteArray.empty, .int .i64 0]) Tryz.underlying62 rfl (by kernel_rfl) rfl
def R62 : Rep Tclub_own := ⟨62, 2, 24, fun x => [.string x.site, .int .i64 x.no], fun _ => rfl, fun x u hu => by simp only [List.mem_cons, List.mem_nil_iff, or_false] at hu; rcases hu with rfl | rfl <;> rfl, by decide⟩
theorem ty67 : TyF Tryz.prog 67 false 1 8 [.map none] := TyF.mk' (z := .map none) Tryz.underlying67 rfl (by kernel_rfl) rfl
theorem ty68 : TyF Tryz.prog 68 false 1 24 [.slice none 0 0] := TyF.mk' (z := .slice none 0 0) Tryz.underlying68 rfl (by kernel_rfl) rfl
theorem ty87 : TyF Tryz.prog 87 true 5 5 [.bool false, .bool false, .bool false, .bool false, .bool false] := TyF.mk' (z := .agg #[.bool false, .bool false, .bool false, .bool false, .bool false]) Tryz.underlying87 rfl (by kernel_rfl) rfl
def R87 : Rep Tclub_uses := ⟨87, 5, 5, fun x => [.bool x.who, .bool x.motion, .bool x.cents, .bool x.yes, .bool x.undo], fun _ => rfl, fun x u hu => by simp only [List.mem_cons, List.mem_nil_iff, or_false] at hu; rcases hu with rfl | rfl | rfl | rfl | rfl <;> rfl, by decide⟩
theorem ty115 : TyF Tryz.prog 115 false 1 8 [.map none] := TyF.mk' (z := .map none) Tryz.underlying115 rfl (by kernel_rfl) rfl
theorem ty117 : TyF Tryz.prog 117 false 1 8 [.map none] := TyF.mk' (z := .map none) Tryz.underlying117 rfl (by kernel_rfl) rfl
theorem ty119 : TyF Tryz.prog 119 true 5 56 [.int .i64 0, .map none, .map none, .map none, .slice none 0 0] := TyF.mk' (z := .agg #[.int .i64 0, .map none, .map none, .map none, .slice none 0 0]) Tryz.underlying119 rfl (by kernel_rfl) rfl
theorem ty136 : TyF Tryz.prog 136 true 3 24 [.int .i64 0, .int .i64 0, .int .i64 0] := TyF.mk' (z := .agg #[.int .i64 0, .int .i64 0, .int .i64 0]) Tryz.underlying136 rfl (by kernel_rfl) rfl
def R136 : Rep Tclub_stay := ⟨136, 3, 24, fun x => [.int .i64 x.since, .int .i64 x.till, .int .i64 x.cents], fun _ => rfl, fun x u hu => by simp only [List.mem_cons, List.mem_nil_iff, or_false] at hu; rcases hu with rfl | rfl | rfl <;> rfl, by decide⟩
theorem ty145 : TyF Tryz.prog 145 false 1 8 [.map none] := TyF.mk' (z := .map none) Tryz.underlying145 rfl (by kernel_rfl) rfl
theorem ty147 : TyF Tryz.prog 147 true 3 40 [.bool false, .map none, .slice none 0 0] := TyF.mk' (z := .agg #[.bool false, .map none, .slice none 0 0]) Tryz.underlying147 rfl (by kernel_rfl) rfl
def N26 : Nst (List TAct) SV := ⟨⟨26, 1, 24, fun p => [p.2.v], fun _ => rfl, fun p u hu => by simp only [List.mem_cons, List.mem_nil_iff, or_false] at hu; rcases hu with rfl <;> rfl, by decide⟩, fun p w => RdS R33 (SV.v p.2) p.1 w⟩
theorem eqst33_ (d : Nat) (x y : TAct) : EqV Tryz.prog (d + 2) 33 (.agg (R33.enc x).toArray) (.agg (R33.enc y).toArray) (decide (x = y)) := by
  have h : ((x.Site == y.Site) && ((x.No == y.No) && ((x.At == y.At) && ((x.Kind == y.Kind) && ((x.Who == y.Who) && ((x.Motion == y.Motion) && ((x.Cents == y.Cents) && ((x.Yes == y.Yes) && ((x.Of == y.Of) && ((x.Other == y.Other) && true)))))))))) = decide (x = y) := by rw [Bool.eq_iff_iff]; cases x; cases y; simp [ba_beq]
  rw [← h]
  exact eqv_struct Tryz.underlying33 (by kernel_rfl) (eqf_cons (.string x.Site) (.string y.Site) (by decide) (fun _ => by kernel_rfl) (fun _ => by kernel_rfl) (eqv_str Tryz.underlying9 _ _) (eqf_cons (.int .i64 x.No) (.int .i64 y.No) (by decide) (fun _ => by kernel_rfl) (fun _ => by kernel_rfl) (eqv_int Tryz.underlying3 _ _) (eqf_cons (.int .i64 x.At) (.int .i64 y.At) (by decide) (fun _ => by kernel_rfl) (fun _ => by kernel_rfl) (eqv_int Tryz.underlying3 _ _) (eqf_cons (.int .i64 x.Kind) (.int .i64 y.Kind) (by decide) (fun _ => by kernel_rfl) (fun _ => by kernel_rfl) (eqv_int Tryz.underlying3 _ _) (eqf_cons (.string x.Who) (.string y.Who) (by decide) (fun _ => by kernel_rfl) (fun _ => by kernel_rfl) (eqv_str Tryz.underlying9 _ _) (eqf_cons (.string x.Motion) (.string y.Motion) (by decide) (fun _ => by kernel_rfl) (fun _ => by kernel_rfl) (eqv_str Tryz.underlying9 _ _) (eqf_cons (.int .i64 x.Cents) (.int .i64 y.Cents) (by decide) (fun _ => by kernel_rfl) (fun _ => by kernel_rfl) (eqv_int Tryz.underlying3 _ _) (eqf_cons (.bool x.Yes) (.bool y.Yes) (by decide) (fun _ => by kernel_rfl) (fun _ => by kernel_rfl) (eqv_bool Tryz.underlying4 _ _) (eqf_cons (.string x.Of) (.string y.Of) (by decide) (fun _ => by kernel_rfl) (fun _ => by kernel_rfl) (eqv_str Tryz.underlying9 _ _) (eqf_cons (.int .i64 x.Other) (.int .i64 y.Other) (by decide) (fun _ => by kernel_rfl) (fun _ => by kernel_rfl) (eqv_int Tryz.underlying3 _ _) eqf_nil))))))))))
theorem eqst33 (x y : TAct) : EqV Tryz.prog 10000 33 (.agg (R33.enc x).toArray) (.agg (R33.enc y).toArray) (decide (x = y)) := eqst33_ 9998 x y
theorem eqst62_ (d : Nat) (x y : Tclub_own) : EqV Tryz.prog (d + 2) 62 (.agg (R62.enc x).toArray) (.agg (R62.enc y).toArray) (decide (x = y)) := by
  have h : ((x.site == y.site) && ((x.no == y.no) && true)) = decide (x = y) := by rw [Bool.eq_iff_iff]; cases x; cases y; simp [ba_beq]
  rw [← h]
  exact eqv_struct Tryz.underlying62 (by kernel_rfl) (eqf_cons (.string x.site) (.string y.site) (by decide) (fun _ => by kernel_rfl) (fun _ => by kernel_rfl) (eqv_str Tryz.underlying9 _ _) (eqf_cons (.int .i64 x.no) (.int .i64 y.no) (by decide) (fun _ => by kernel_rfl) (fun _ => by kernel_rfl) (eqv_int Tryz.underlying3 _ _) eqf_nil))
theorem eqst62 (x y : Tclub_own) : EqV Tryz.prog 10000 62 (.agg (R62.enc x).toArray) (.agg (R62.enc y).toArray) (decide (x = y)) := eqst62_ 9998 x y
@[reducible] def vv3 : Int → Value := fun x => .int .i64 x
@[reducible] def vv4 : Bool → Value := fun x => .bool x
@[reducible] def kv9 : ByteArray → Value := fun x => .string x
theorem keyF9 : KeyF Tryz.prog 9 kv9 := keyF_str Tryz.underlying9
@[reducible] def vv33 : TAct → Value := fun x => .agg (R33.enc x).toArray
@[reducible] def kv62 : Tclub_own → Value := fun x => .agg (R62.enc x).toArray
theorem keyF62 : KeyF Tryz.prog 62 kv62 := keyF_agg Tryz.underlying62 (fun _ _ _ => by kernel_rfl) eqst62 (fun k v hv => by simp only [R62, List.mem_cons, List.not_mem_nil, or_false] at hv; rcases hv with rfl | rfl <;> simp [Instr.sameBits, ba_dec])
@[reducible] def Fh144 : (Nat × Nat × Array MapEntry × Nat × SV) → Nat := fun q => q.1
def Fe144 : (Bool × (List (ByteArray × Bool)) × (List ByteArray)) → (Nat × Nat × Array MapEntry × Nat × SV) → List Ent := fun t q => [.box q.1 147 [.bool t.1, .map (some q.2.1), q.2.2.2.2.v], .obj (mapO kv9 q.2.1 (mpV vv4 t.2.1) q.2.2.1 q.2.2.2.1), .row R9 (SV.v q.2.2.2.2) t.2.2]
theorem fro144 : ∀ t q F, Ent.ro F ∉ Fe144 t q := by intro t q F h; simp [Fe144] at h
theorem fl25_0 : FldF Tryz.prog 25 0 0 := fun _ _ => by kernel_rfl
theorem fl25_1 : FldF Tryz.prog 25 1 1 := fun _ _ => by kernel_rfl
theorem fl33_0 : FldF Tryz.prog 33 0 0 := fun _ _ => by kernel_rfl
theorem fl33_1 : FldF Tryz.prog 33 1 1 := fun _ _ => by kernel_rfl
theorem fl33_2 : FldF Tryz.prog 33 2 2 := fun _ _ => by kernel_rfl
theorem fl33_3 : FldF Tryz.prog 33 3 3 := fun _ _ => by kernel_rfl
theorem fl33_4 : FldF Tryz.prog 33 4 4 := fun _ _ => by kernel_rfl
theorem fl33_5 : FldF Tryz.prog 33 5 5 := fun _ _ => by kernel_rfl
theorem fl33_6 : FldF Tryz.prog 33 6 6 := fun _ _ => by kernel_rfl
theorem fl33_7 : FldF Tryz.prog 33 7 7 := fun _ _ => by kernel_rfl
theorem fl33_8 : FldF Tryz.prog 33 8 8 := fun _ _ => by kernel_rfl
theorem fl33_9 : FldF Tryz.prog 33 9 9 := fun _ _ => by kernel_rfl
theorem fl87_0 : FldF Tryz.prog 87 0 0 := fun _ _ => by kernel_rfl
theorem fl87_1 : FldF Tryz.prog 87 1 1 := fun _ _ => by kernel_rfl
theorem fl87_2 : FldF Tryz.prog 87 2 2 := fun _ _ => by kernel_rfl
theorem fl87_3 : FldF Tryz.prog 87 3 3 := fun _ _ => by kernel_rfl
theorem fl87_4 : FldF Tryz.prog 87 4 4 := fun _ _ => by kernel_rfl
theorem fl119_1 : FldF Tryz.prog 119 1 1 := fun _ _ => by kernel_rfl
theorem fl119_2 : FldF Tryz.prog 119 2 2 := fun _ _ => by kernel_rfl
theorem fl119_3 : FldF Tryz.prog 119 3 3 := fun _ _ => by kernel_rfl
theorem fl119_4 : FldF Tryz.prog 119 4 4 := fun _ _ => by kernel_rfl
theorem fl136_1 : FldF Tryz.prog 136 1 1 := fun _ _ => by kernel_rfl
theorem fl147_0 : FldF Tryz.prog 147 0 0 := fun _ _ => by kernel_rfl
theorem fl147_1 : FldF Tryz.prog 147 1 1 := fun _ _ => by kernel_rfl
theorem fl147_2 : FldF Tryz.prog 147 2 2 := fun _ _ => by kernel_rfl
theorem cf4 : ∀ args w, (callFunc 4 args).run Tryz.prog w = .ok (.enter 4 args) w := fun _ _ => by kernel_rfl
theorem cf5 : ∀ args w, (callFunc 5 args).run Tryz.prog w = .ok (.enter 5 args) w := fun _ _ => by kernel_rfl
theorem cf6 : ∀ args w, (callFunc 6 args).run Tryz.prog w = .ok (.enter 6 args) w := fun _ _ => by kernel_rfl
theorem cf7 : ∀ args w, (callFunc 7 args).run Tryz.prog w = .ok (.enter 7 args) w := fun _ _ => by kernel_rfl
theorem cf8 : ∀ args w, (callFunc 8 args).run Tryz.prog w = .ok (.enter 8 args) w := fun _ _ => by kernel_rfl
theorem cf9 : ∀ args w, (callFunc 9 args).run Tryz.prog w = .ok (.enter 9 args) w := fun _ _ => by kernel_rfl
theorem cf10 : ∀ args w, (callFunc 10 args).run Tryz.prog w = .ok (.enter 10 args) w := fun _ _ => by kernel_rfl
theorem cf11 : ∀ args w, (callFunc 11 args).run Tryz.prog w = .ok (.enter 11 args) w := fun _ _ => by kernel_rfl
theorem cf12 : ∀ args w, (callFunc 12 args).run Tryz.prog w = .ok (.enter 12 args) w := fun _ _ => by kernel_rfl
theorem cf13 : ∀ args w, (callFunc 13 args).run Tryz.prog w = .ok (.enter 13 args) w := fun _ _ => by kernel_rfl
theorem cf14 : ∀ args w, (callFunc 14 args).run Tryz.prog w = .ok (.enter 14 args) w := fun _ _ => by kernel_rfl
theorem cf15 : ∀ args w, (callFunc 15 args).run Tryz.prog w = .ok (.enter 15 args) w := fun _ _ => by kernel_rfl
theorem cf16 : ∀ args w, (callFunc 16 args).run Tryz.prog w = .ok (.enter 16 args) w := fun _ _ => by kernel_rfl
theorem cf17 : ∀ args w, (callFunc 17 args).run Tryz.prog w = .ok (.enter 17 args) w := fun _ _ => by kernel_rfl
theorem cf18 : ∀ args w, (callFunc 18 args).run Tryz.prog w = .ok (.enter 18 args) w := fun _ _ => by kernel_rfl
theorem cf19 : ∀ args w, (callFunc 19 args).run Tryz.prog w = .ok (.enter 19 args) w := fun _ _ => by kernel_rfl
theorem cf20 : ∀ args w, (callFunc 20 args).run Tryz.prog w = .ok (.enter 20 args) w := fun _ _ => by kernel_rfl
theorem cf21 : ∀ args w, (callFunc 21 args).run Tryz.prog w = .ok (.enter 21 args) w := fun _ _ => by kernel_rfl
theorem cf22 : ∀ args w, (callFunc 22 args).run Tryz.prog w = .ok (.enter 22 args) w := fun _ _ => by kernel_rfl
theorem cf23 : ∀ args w, (callFunc 23 args).run Tryz.prog w = .ok (.enter 23 args) w := fun _ _ => by kernel_rfl
theorem cf24 : ∀ args w, (callFunc 24 args).run Tryz.prog w = .ok (.enter 24 args) w := fun _ _ => by kernel_rfl
theorem cf25 : ∀ args w, (callFunc 25 args).run Tryz.prog w = .ok (.enter 25 args) w := fun _ _ => by kernel_rfl
theorem cf26 : ∀ args w, (callFunc 26 args).run Tryz.prog w = .ok (.enter 26 args) w := fun _ _ => by kernel_rfl
theorem cf27 : ∀ args w, (callFunc 27 args).run Tryz.prog w = .ok (.enter 27 args) w := fun _ _ => by kernel_rfl
theorem cf28 : ∀ args w, (callFunc 28 args).run Tryz.prog w = .ok (.enter 28 args) w := fun _ _ => by kernel_rfl
theorem cf29 : ∀ args w, (callFunc 29 args).run Tryz.prog w = .ok (.enter 29 args) w := fun _ _ => by kernel_rfl
theorem cf30 : ∀ args w, (callFunc 30 args).run Tryz.prog w = .ok (.enter 30 args) w := fun _ _ => by kernel_rfl
theorem cf31 : ∀ args w, (callFunc 31 args).run Tryz.prog w = .ok (.enter 31 args) w := fun _ _ => by kernel_rfl
theorem cf32 : ∀ args w, (callFunc 32 args).run Tryz.prog w = .ok (.enter 32 args) w := fun _ _ => by kernel_rfl
theorem cf33 : ∀ args w, (callFunc 33 args).run Tryz.prog w = .ok (.enter 33 args) w := fun _ _ => by kernel_rfl
theorem cf34 : ∀ args w, (callFunc 34 args).run Tryz.prog w = .ok (.enter 34 args) w := fun _ _ => by kernel_rfl
theorem cf35 : ∀ args w, (callFunc 35 args).run Tryz.prog w = .ok (.enter 35 args) w := fun _ _ => by kernel_rfl
theorem cf36 : ∀ args w, (callFunc 36 args).run Tryz.prog w = .ok (.enter 36 args) w := fun _ _ => by kernel_rfl
theorem cf37 : ∀ args w, (callFunc 37 args).run Tryz.prog w = .ok (.enter 37 args) w := fun _ _ => by kernel_rfl
theorem cf38 : ∀ args w, (callFunc 38 args).run Tryz.prog w = .ok (.enter 38 args) w := fun _ _ => by kernel_rfl
theorem cf39 : ∀ args w, (callFunc 39 args).run Tryz.prog w = .ok (.enter 39 args) w := fun _ _ => by kernel_rfl
theorem cf40 : ∀ args w, (callFunc 40 args).run Tryz.prog w = .ok (.enter 40 args) w := fun _ _ => by kernel_rfl
theorem cf41 : ∀ args w, (callFunc 41 args).run Tryz.prog w = .ok (.enter 41 args) w := fun _ _ => by kernel_rfl
theorem cf42 : ∀ args w, (callFunc 42 args).run Tryz.prog w = .ok (.enter 42 args) w := fun _ _ => by kernel_rfl
theorem cf43 : ∀ args w, (callFunc 43 args).run Tryz.prog w = .ok (.enter 43 args) w := fun _ _ => by kernel_rfl
theorem cf44 : ∀ args w, (callFunc 44 args).run Tryz.prog w = .ok (.enter 44 args) w := fun _ _ => by kernel_rfl
theorem cf45 : ∀ args w, (callFunc 45 args).run Tryz.prog w = .ok (.enter 45 args) w := fun _ _ => by kernel_rfl
theorem cf46 : ∀ args w, (callFunc 46 args).run Tryz.prog w = .ok (.enter 46 args) w := fun _ _ => by kernel_rfl
theorem cf47 : ∀ args w, (callFunc 47 args).run Tryz.prog w = .ok (.enter 47 args) w := fun _ _ => by kernel_rfl
theorem cf48 : ∀ args w, (callFunc 48 args).run Tryz.prog w = .ok (.enter 48 args) w := fun _ _ => by kernel_rfl
theorem cf49 : ∀ args w, (callFunc 49 args).run Tryz.prog w = .ok (.enter 49 args) w := fun _ _ => by kernel_rfl
theorem cf50 : ∀ args w, (callFunc 50 args).run Tryz.prog w = .ok (.enter 50 args) w := fun _ _ => by kernel_rfl
theorem cf51 : ∀ args w, (callFunc 51 args).run Tryz.prog w = .ok (.enter 51 args) w := fun _ _ => by kernel_rfl
theorem cf52 : ∀ args w, (callFunc 52 args).run Tryz.prog w = .ok (.enter 52 args) w := fun _ _ => by kernel_rfl
theorem cf53 : ∀ args w, (callFunc 53 args).run Tryz.prog w = .ok (.enter 53 args) w := fun _ _ => by kernel_rfl
theorem cf56 : ∀ args w, (callFunc 56 args).run Tryz.prog w = .ok (.enter 56 args) w := fun _ _ => by kernel_rfl
theorem cf57 : ∀ args w, (callFunc 57 args).run Tryz.prog w = .ok (.enter 57 args) w := fun _ _ => by kernel_rfl
theorem cf58 : ∀ args w, (callFunc 58 args).run Tryz.prog w = .ok (.enter 58 args) w := fun _ _ => by kernel_rfl
theorem cf59 : ∀ args w, (callFunc 59 args).run Tryz.prog w = .ok (.enter 59 args) w := fun _ _ => by kernel_rfl
theorem cf60 : ∀ args w, (callFunc 60 args).run Tryz.prog w = .ok (.enter 60 args) w := fun _ _ => by kernel_rfl
theorem cf61 : ∀ args w, (callFunc 61 args).run Tryz.prog w = .ok (.enter 61 args) w := fun _ _ => by kernel_rfl
theorem cf62 : ∀ args w, (callFunc 62 args).run Tryz.prog w = .ok (.enter 62 args) w := fun _ _ => by kernel_rfl
theorem cf63 : ∀ args w, (callFunc 63 args).run Tryz.prog w = .ok (.enter 63 args) w := fun _ _ => by kernel_rfl
theorem cf64 : ∀ args w, (callFunc 64 args).run Tryz.prog w = .ok (.enter 64 args) w := fun _ _ => by kernel_rfl
theorem cf65 : ∀ args w, (callFunc 65 args).run Tryz.prog w = .ok (.enter 65 args) w := fun _ _ => by kernel_rfl
theorem cf66 : ∀ args w, (callFunc 66 args).run Tryz.prog w = .ok (.enter 66 args) w := fun _ _ => by kernel_rfl
theorem cf69 : ∀ args w, (callFunc 69 args).run Tryz.prog w = .ok (.enter 69 args) w := fun _ _ => by kernel_rfl
theorem cf70 : ∀ args w, (callFunc 70 args).run Tryz.prog w = .ok (.enter 70 args) w := fun _ _ => by kernel_rfl
theorem cf80 : ∀ args w, (callFunc 80 args).run Tryz.prog w = .ok (.enter 80 args) w := fun _ _ => by kernel_rfl
theorem cf81 : ∀ args w, (callFunc 81 args).run Tryz.prog w = .ok (.enter 81 args) w := fun _ _ => by kernel_rfl
theorem cf82 : ∀ args w, (callFunc 82 args).run Tryz.prog w = .ok (.enter 82 args) w := fun _ _ => by kernel_rfl
theorem cf83 : ∀ args w, (callFunc 83 args).run Tryz.prog w = .ok (.enter 83 args) w := fun _ _ => by kernel_rfl
theorem cf84 : ∀ args w, (callFunc 84 args).run Tryz.prog w = .ok (.enter 84 args) w := fun _ _ => by kernel_rfl
theorem cf85 : ∀ args w, (callFunc 85 args).run Tryz.prog w = .ok (.enter 85 args) w := fun _ _ => by kernel_rfl
theorem cf86 : ∀ args w, (callFunc 86 args).run Tryz.prog w = .ok (.enter 86 args) w := fun _ _ => by kernel_rfl
theorem cf87 : ∀ args w, (callFunc 87 args).run Tryz.prog w = .ok (.enter 87 args) w := fun _ _ => by kernel_rfl
theorem cf103 : ∀ args w, (callFunc 103 args).run Tryz.prog w = .ok (.enter 103 args) w := fun _ _ => by kernel_rfl
theorem cf104 : ∀ args w, (callFunc 104 args).run Tryz.prog w = .ok (.enter 104 args) w := fun _ _ => by kernel_rfl
theorem cf105 : ∀ args w, (callFunc 105 args).run Tryz.prog w = .ok (.enter 105 args) w := fun _ _ => by kernel_rfl
theorem cf106 : ∀ args w, (callFunc 106 args).run Tryz.prog w = .ok (.enter 106 args) w := fun _ _ => by kernel_rfl
theorem cf107 : ∀ args w, (callFunc 107 args).run Tryz.prog w = .ok (.enter 107 args) w := fun _ _ => by kernel_rfl
theorem cf115 : ∀ args w, (callFunc 115 args).run Tryz.prog w = .ok (.enter 115 args) w := fun _ _ => by kernel_rfl
theorem cf116 : ∀ args w, (callFunc 116 args).run Tryz.prog w = .ok (.enter 116 args) w := fun _ _ => by kernel_rfl
end Go.Proofs.YtdmejijkjgdfaadGreatDoor
