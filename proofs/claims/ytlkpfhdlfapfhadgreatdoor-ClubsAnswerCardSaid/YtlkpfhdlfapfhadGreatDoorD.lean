/- Facts on the types and functions. Written by program. -/
import Derived.Test.YtlkpfhdlfapfhadGreatDoorProg
import Derived.KernelRfl
import Derived.Test.YtlkpfhdlfapfhadGreatDoorM
namespace Go.Proofs.YtlkpfhdlfapfhadGreatDoor
open Go Go.J Go.G
set_option linter.unusedSimpArgs false
theorem ty3:TyF Tryz.prog 3 false 1 8 [.int .i64 0]:=TyF.mk' (z:=.int .i64 0) Tryz.underlying3 rfl (by kernel_rfl) rfl
def R3:Rep Int:=⟨3,1,8,fun x=>[.int .i64 x],fun _=>rfl,fun x u hu=>by simp only [List.mem_cons,List.mem_nil_iff,or_false] at hu; rcases hu with rfl <;> rfl,by decide⟩
theorem ty4:TyF Tryz.prog 4 false 1 1 [.bool false]:=TyF.mk' (z:=.bool false) Tryz.underlying4 rfl (by kernel_rfl) rfl
def R4:Rep Bool:=⟨4,1,1,fun x=>[.bool x],fun _=>rfl,fun x u hu=>by simp only [List.mem_cons,List.mem_nil_iff,or_false] at hu; rcases hu with rfl <;> rfl,by decide⟩
theorem ty9:TyF Tryz.prog 9 false 1 16 [.string ByteArray.empty]:=TyF.mk' (z:=.string ByteArray.empty) Tryz.underlying9 rfl (by kernel_rfl) rfl
def R9:Rep ByteArray:=⟨9,1,16,fun x=>[.string x],fun _=>rfl,fun x u hu=>by simp only [List.mem_cons,List.mem_nil_iff,or_false] at hu; rcases hu with rfl <;> rfl,by decide⟩
theorem aQ3:TyF Tryz.prog 22 false 1 24 [.slice none 0 0]:=TyF.mk' (z:=.slice none 0 0) Tryz.underlying22 rfl (by kernel_rfl) rfl
theorem ty25:TyF Tryz.prog 25 true 2 32 [.slice none 0 0,.int .i64 0]:=TyF.mk' (z:=.agg #[.slice none 0 0,.int .i64 0]) Tryz.underlying25 rfl (by kernel_rfl) rfl
theorem aC5:TyF Tryz.prog 26 false 1 24 [.slice none 0 0]:=TyF.mk' (z:=.slice none 0 0) Tryz.underlying26 rfl (by kernel_rfl) rfl
theorem aM0:TyF Tryz.prog 32 false 1 24 [.slice none 0 0]:=TyF.mk' (z:=.slice none 0 0) Tryz.underlying32 rfl (by kernel_rfl) rfl
theorem ty33:TyF Tryz.prog 33 false 1 8 [.int .i64 0]:=TyF.mk' (z:=.int .i64 0) Tryz.underlying33 rfl (by kernel_rfl) rfl
def R33:Rep Int:=⟨33,1,8,fun x=>[.int .i64 x],fun _=>rfl,fun x u hu=>by simp only [List.mem_cons,List.mem_nil_iff,or_false] at hu; rcases hu with rfl <;> rfl,by decide⟩
theorem aK0:TyF Tryz.prog 45 false 1 8 [.map none]:=TyF.mk' (z:=.map none) Tryz.underlying45 rfl (by kernel_rfl) rfl
theorem J4:TyF Tryz.prog 48 true 10 112 [.string ByteArray.empty,.int .i64 0,.int .i64 0,.int .i64 0,.string ByteArray.empty,.string ByteArray.empty,.int .i64 0,.bool false,.string ByteArray.empty,.int .i64 0]:=TyF.mk' (z:=.agg #[.string ByteArray.empty,.int .i64 0,.int .i64 0,.int .i64 0,.string ByteArray.empty,.string ByteArray.empty,.int .i64 0,.bool false,.string ByteArray.empty,.int .i64 0]) Tryz.underlying48 rfl (by kernel_rfl) rfl
def R48:Rep TAct:=⟨48,10,112,fun x=>[.string x.Site,.int .i64 x.No,.int .i64 x.At,.int .i64 x.Kind,.string x.Who,.string x.Motion,.int .i64 x.Cents,.bool x.Yes,.string x.Of,.int .i64 x.Other],fun _=>rfl,fun x u hu=>by simp only [List.mem_cons,List.mem_nil_iff,or_false] at hu; rcases hu with rfl | rfl | rfl | rfl | rfl | rfl | rfl | rfl | rfl | rfl <;> rfl,by decide⟩
theorem bK4:TyF Tryz.prog 49 false 1 8 [.nilFunc]:=TyF.mk' (z:=.nilFunc) Tryz.underlying49 rfl (by kernel_rfl) rfl
theorem ty61:TyF Tryz.prog 61 true 2 32 [.slice none 0 0,.int .i64 0]:=TyF.mk' (z:=.agg #[.slice none 0 0,.int .i64 0]) Tryz.underlying61 rfl (by kernel_rfl) rfl
theorem bS3:TyF Tryz.prog 65 true 2 32 [.pointer none,.slice none 0 0]:=TyF.mk' (z:=.agg #[.pointer none,.slice none 0 0]) Tryz.underlying65 rfl (by kernel_rfl) rfl
theorem bl9:TyF Tryz.prog 84 false 1 8 [.map none]:=TyF.mk' (z:=.map none) Tryz.underlying84 rfl (by kernel_rfl) rfl
theorem ty86:TyF Tryz.prog 86 true 3 40 [.bool false,.slice none 0 0,.map none]:=TyF.mk' (z:=.agg #[.bool false,.slice none 0 0,.map none]) Tryz.underlying86 rfl (by kernel_rfl) rfl
theorem aQ2:TyF Tryz.prog 88 false 1 8 [.map none]:=TyF.mk' (z:=.map none) Tryz.underlying88 rfl (by kernel_rfl) rfl
theorem bz4:TyF Tryz.prog 89 false 1 8 [.map none]:=TyF.mk' (z:=.map none) Tryz.underlying89 rfl (by kernel_rfl) rfl
theorem ty91:TyF Tryz.prog 91 true 4 48 [.map none,.map none,.map none,.slice none 0 0]:=TyF.mk' (z:=.agg #[.map none,.map none,.map none,.slice none 0 0]) Tryz.underlying91 rfl (by kernel_rfl) rfl
theorem aM1:TyF Tryz.prog 110 false 1 8 [.map none]:=TyF.mk' (z:=.map none) Tryz.underlying110 rfl (by kernel_rfl) rfl
theorem aB8:TyF Tryz.prog 111 false 1 8 [.map none]:=TyF.mk' (z:=.map none) Tryz.underlying111 rfl (by kernel_rfl) rfl
theorem ty113:TyF Tryz.prog 113 true 5 56 [.int .i64 0,.map none,.map none,.map none,.slice none 0 0]:=TyF.mk' (z:=.agg #[.int .i64 0,.map none,.map none,.map none,.slice none 0 0]) Tryz.underlying113 rfl (by kernel_rfl) rfl
theorem aS8:TyF Tryz.prog 115 true 3 24 [.int .i64 0,.int .i64 0,.int .i64 0]:=TyF.mk' (z:=.agg #[.int .i64 0,.int .i64 0,.int .i64 0]) Tryz.underlying115 rfl (by kernel_rfl) rfl
def W3:Rep Tclub_stay:=⟨115,3,24,fun x=>[.int .i64 x.since,.int .i64 x.till,.int .i64 x.cents],fun _=>rfl,fun x u hu=>by simp only [List.mem_cons,List.mem_nil_iff,or_false] at hu; rcases hu with rfl | rfl | rfl <;> rfl,by decide⟩
theorem ty118:TyF Tryz.prog 118 true 3 40 [.bool false,.map none,.slice none 0 0]:=TyF.mk' (z:=.agg #[.bool false,.map none,.slice none 0 0]) Tryz.underlying118 rfl (by kernel_rfl) rfl
theorem bv9:TyF Tryz.prog 121 false 1 8 [.map none]:=TyF.mk' (z:=.map none) Tryz.underlying121 rfl (by kernel_rfl) rfl
theorem bv8:TyF Tryz.prog 123 true 2 24 [.string ByteArray.empty,.int .i64 0]:=TyF.mk' (z:=.agg #[.string ByteArray.empty,.int .i64 0]) Tryz.underlying123 rfl (by kernel_rfl) rfl
def bC8:Rep Tclub_own:=⟨123,2,24,fun x=>[.string x.site,.int .i64 x.no],fun _=>rfl,fun x u hu=>by simp only [List.mem_cons,List.mem_nil_iff,or_false] at hu; rcases hu with rfl | rfl <;> rfl,by decide⟩
theorem aJ1:TyF Tryz.prog 132 true 3 24 [.int .i64 0,.int .i64 0,.int .i64 0]:=TyF.mk' (z:=.agg #[.int .i64 0,.int .i64 0,.int .i64 0]) Tryz.underlying132 rfl (by kernel_rfl) rfl
def U5:Rep Tgleeref2_stay:=⟨132,3,24,fun x=>[.int .i64 x.from_,.int .i64 x.to_,.int .i64 x.cents],fun _=>rfl,fun x u hu=>by simp only [List.mem_cons,List.mem_nil_iff,or_false] at hu; rcases hu with rfl | rfl | rfl <;> rfl,by decide⟩
theorem aJ0:TyF Tryz.prog 141 true 2 32 [.string ByteArray.empty,.string ByteArray.empty]:=TyF.mk' (z:=.agg #[.string ByteArray.empty,.string ByteArray.empty]) Tryz.underlying141 rfl (by kernel_rfl) rfl
def ax0:Rep TPair:=⟨141,2,32,fun x=>[.string x.Name,.string x.Value],fun _=>rfl,fun x u hu=>by simp only [List.mem_cons,List.mem_nil_iff,or_false] at hu; rcases hu with rfl | rfl <;> rfl,by decide⟩
theorem G4:TyF Tryz.prog 154 true 5 5 [.bool false,.bool false,.bool false,.bool false,.bool false]:=TyF.mk' (z:=.agg #[.bool false,.bool false,.bool false,.bool false,.bool false]) Tryz.underlying154 rfl (by kernel_rfl) rfl
def R154:Rep Tclub_uses:=⟨154,5,5,fun x=>[.bool x.who,.bool x.motion,.bool x.cents,.bool x.yes,.bool x.undo],fun _=>rfl,fun x u hu=>by simp only [List.mem_cons,List.mem_nil_iff,or_false] at hu; rcases hu with rfl | rfl | rfl | rfl | rfl <;> rfl,by decide⟩
theorem aB7:TyF Tryz.prog 174 true 2 16 [.int .i64 0,.int .i64 0]:=TyF.mk' (z:=.agg #[.int .i64 0,.int .i64 0]) Tryz.underlying174 rfl (by kernel_rfl) rfl
def aP9:Rep TFraction:=⟨174,2,16,fun x=>[.int .i64 x.Num,.int .i64 x.Den],fun _=>rfl,fun x u hu=>by simp only [List.mem_cons,List.mem_nil_iff,or_false] at hu; rcases hu with rfl | rfl <;> rfl,by decide⟩
theorem B5:TyF Tryz.prog 177 true 6 48 [.string ByteArray.empty,.int .i64 0,.int .i64 0,.int .i64 0,.bool false,.bool false]:=TyF.mk' (z:=.agg #[.string ByteArray.empty,.int .i64 0,.int .i64 0,.int .i64 0,.bool false,.bool false]) Tryz.underlying177 rfl (by kernel_rfl) rfl
def bX2:Rep TTally:=⟨177,6,48,fun x=>[.string x.Motion,.int .i64 x.Yes,.int .i64 x.No,.int .i64 x.Of,.bool x.Over,.bool x.Accepted],fun _=>rfl,fun x u hu=>by simp only [List.mem_cons,List.mem_nil_iff,or_false] at hu; rcases hu with rfl | rfl | rfl | rfl | rfl | rfl <;> rfl,by decide⟩
theorem ap1:TyF Tryz.prog 251 true 2 24 [.string ByteArray.empty,.int .i64 0]:=TyF.mk' (z:=.agg #[.string ByteArray.empty,.int .i64 0]) Tryz.underlying251 rfl (by kernel_rfl) rfl
def ai2:Rep Tclub_debt:=⟨251,2,24,fun x=>[.string x.who,.int .i64 x.cents],fun _=>rfl,fun x u hu=>by simp only [List.mem_cons,List.mem_nil_iff,or_false] at hu; rcases hu with rfl | rfl <;> rfl,by decide⟩
theorem bN7 (d:Nat) (x y:TAct):EqV Tryz.prog (d+2) 48 (.agg (R48.enc x).toArray) (.agg (R48.enc y).toArray) (decide (x=y)):=by
  have h:((x.Site==y.Site)&&((x.No==y.No)&&((x.At==y.At)&&((x.Kind==y.Kind)&&((x.Who==y.Who)&&((x.Motion==y.Motion)&&((x.Cents==y.Cents)&&((x.Yes==y.Yes)&&((x.Of==y.Of)&&((x.Other==y.Other)&&true))))))))))=decide (x=y):=by rw [Bool.eq_iff_iff]; cases x; cases y; simp [bv0]
  rw [← h]
  exact aZ5 Tryz.underlying48 (by kernel_rfl) (ad1 (.string x.Site) (.string y.Site) (by decide) (fun _=>by kernel_rfl) (fun _=>by kernel_rfl) (aO9 Tryz.underlying9 _ _) (ad1 (.int .i64 x.No) (.int .i64 y.No) (by decide) (fun _=>by kernel_rfl) (fun _=>by kernel_rfl) (aH7 Tryz.underlying3 _ _) (ad1 (.int .i64 x.At) (.int .i64 y.At) (by decide) (fun _=>by kernel_rfl) (fun _=>by kernel_rfl) (aH7 Tryz.underlying3 _ _) (ad1 (.int .i64 x.Kind) (.int .i64 y.Kind) (by decide) (fun _=>by kernel_rfl) (fun _=>by kernel_rfl) (aH7 Tryz.underlying3 _ _) (ad1 (.string x.Who) (.string y.Who) (by decide) (fun _=>by kernel_rfl) (fun _=>by kernel_rfl) (aO9 Tryz.underlying9 _ _) (ad1 (.string x.Motion) (.string y.Motion) (by decide) (fun _=>by kernel_rfl) (fun _=>by kernel_rfl) (aO9 Tryz.underlying9 _ _) (ad1 (.int .i64 x.Cents) (.int .i64 y.Cents) (by decide) (fun _=>by kernel_rfl) (fun _=>by kernel_rfl) (aH7 Tryz.underlying3 _ _) (ad1 (.bool x.Yes) (.bool y.Yes) (by decide) (fun _=>by kernel_rfl) (fun _=>by kernel_rfl) (bG9 Tryz.underlying4 _ _) (ad1 (.string x.Of) (.string y.Of) (by decide) (fun _=>by kernel_rfl) (fun _=>by kernel_rfl) (aO9 Tryz.underlying9 _ _) (ad1 (.int .i64 x.Other) (.int .i64 y.Other) (by decide) (fun _=>by kernel_rfl) (fun _=>by kernel_rfl) (aH7 Tryz.underlying3 _ _) by1))))))))))
theorem bV5 (x y:TAct):EqV Tryz.prog 10000 48 (.agg (R48.enc x).toArray) (.agg (R48.enc y).toArray) (decide (x=y)):=bN7 9998 x y
theorem bH0 (d:Nat) (x y:Tclub_own):EqV Tryz.prog (d+2) 123 (.agg (bC8.enc x).toArray) (.agg (bC8.enc y).toArray) (decide (x=y)):=by
  have h:((x.site==y.site)&&((x.no==y.no)&&true))=decide (x=y):=by rw [Bool.eq_iff_iff]; cases x; cases y; simp [bv0]
  rw [← h]
  exact aZ5 Tryz.underlying123 (by kernel_rfl) (ad1 (.string x.site) (.string y.site) (by decide) (fun _=>by kernel_rfl) (fun _=>by kernel_rfl) (aO9 Tryz.underlying9 _ _) (ad1 (.int .i64 x.no) (.int .i64 y.no) (by decide) (fun _=>by kernel_rfl) (fun _=>by kernel_rfl) (aH7 Tryz.underlying3 _ _) by1))
theorem bN8 (x y:Tclub_own):EqV Tryz.prog 10000 123 (.agg (bC8.enc x).toArray) (.agg (bC8.enc y).toArray) (decide (x=y)):=bH0 9998 x y
@[reducible] def vv3:Int→Value:=fun x=>.int .i64 x
@[reducible] def vv4:Bool→Value:=fun x=>.bool x
@[reducible] def kv9:ByteArray→Value:=fun x=>.string x
theorem C3:KeyF Tryz.prog 9 kv9:=bF8 Tryz.underlying9
@[reducible] def vv119:Unit→Value:=fun _=>.pointer none
@[reducible] def aY9:Tclub_own→Value:=fun x=>.agg (bC8.enc x).toArray
theorem aV6:KeyF Tryz.prog 123 aY9:=bF9 Tryz.underlying123 (fun _ _ _=>by kernel_rfl) bN8 (fun k v hv=>by simp only [bC8,List.mem_cons,List.not_mem_nil,or_false] at hv; rcases hv with rfl | rfl <;> simp [Instr.sameBits,bk5])
@[reducible] def U9:(Nat × SV × Nat × Array MapEntry × Nat)→Nat:=fun q=>q.1
def V0:(Bool × (List ByteArray) × (List (ByteArray × Bool)))→(Nat × SV × Nat × Array MapEntry × Nat)→List Ent:=fun t q=>[.box q.1 86 [.bool t.1,q.2.1.v,.map (some q.2.2.1)],.row R9 (SV.v q.2.1) t.2.1,.obj (G2 kv9 q.2.2.1 (mpV vv4 t.2.2) q.2.2.2.1 q.2.2.2.2)]
theorem at7:∀ t q F,Ent.ro F∉V0 t q:=by intro t q F h; simp [V0] at h
@[reducible] def B8:(Nat × Nat × Array MapEntry × Nat × SV)→Nat:=fun q=>q.1
def D2:(Bool × (List (ByteArray × Bool)) × (List ByteArray))→(Nat × Nat × Array MapEntry × Nat × SV)→List Ent:=fun t q=>[.box q.1 118 [.bool t.1,.map (some q.2.1),q.2.2.2.2.v],.obj (G2 kv9 q.2.1 (mpV vv4 t.2.1) q.2.2.1 q.2.2.2.1),.row R9 (SV.v q.2.2.2.2) t.2.2]
theorem al7:∀ t q F,Ent.ro F∉D2 t q:=by intro t q F h; simp [D2] at h
theorem bi3:Q0 Tryz.prog 25 0 0:=fun _ _=>by kernel_rfl
theorem aZ4:Q0 Tryz.prog 25 1 1:=fun _ _=>by kernel_rfl
theorem ag2:Q0 Tryz.prog 48 0 0:=fun _ _=>by kernel_rfl
theorem al9:Q0 Tryz.prog 48 1 1:=fun _ _=>by kernel_rfl
theorem ag1:Q0 Tryz.prog 48 2 2:=fun _ _=>by kernel_rfl
theorem al8:Q0 Tryz.prog 48 3 3:=fun _ _=>by kernel_rfl
theorem D7:Q0 Tryz.prog 48 4 4:=fun _ _=>by kernel_rfl
theorem G8:Q0 Tryz.prog 48 5 5:=fun _ _=>by kernel_rfl
theorem ae0:Q0 Tryz.prog 48 6 6:=fun _ _=>by kernel_rfl
theorem ak1:Q0 Tryz.prog 48 7 7:=fun _ _=>by kernel_rfl
theorem E3:Q0 Tryz.prog 48 8 8:=fun _ _=>by kernel_rfl
theorem R7:Q0 Tryz.prog 48 9 9:=fun _ _=>by kernel_rfl
theorem aR9:Q0 Tryz.prog 61 0 0:=fun _ _=>by kernel_rfl
theorem aL5:Q0 Tryz.prog 61 1 1:=fun _ _=>by kernel_rfl
theorem aL4:Q0 Tryz.prog 86 0 0:=fun _ _=>by kernel_rfl
theorem bG5:Q0 Tryz.prog 86 1 1:=fun _ _=>by kernel_rfl
theorem bi2:Q0 Tryz.prog 86 2 2:=fun _ _=>by kernel_rfl
theorem an8:Q0 Tryz.prog 91 0 0:=fun _ _=>by kernel_rfl
theorem bi1:Q0 Tryz.prog 91 1 1:=fun _ _=>by kernel_rfl
theorem aR8:Q0 Tryz.prog 91 2 2:=fun _ _=>by kernel_rfl
theorem bG4:Q0 Tryz.prog 91 3 3:=fun _ _=>by kernel_rfl
theorem bN1:Q0 Tryz.prog 113 0 0:=fun _ _=>by kernel_rfl
theorem av7:Q0 Tryz.prog 113 1 1:=fun _ _=>by kernel_rfl
theorem bi7:Q0 Tryz.prog 113 2 2:=fun _ _=>by kernel_rfl
theorem am0:Q0 Tryz.prog 113 3 3:=fun _ _=>by kernel_rfl
theorem bx9:Q0 Tryz.prog 113 4 4:=fun _ _=>by kernel_rfl
theorem bi6:Q0 Tryz.prog 115 0 0:=fun _ _=>by kernel_rfl
theorem aV9:Q0 Tryz.prog 115 1 1:=fun _ _=>by kernel_rfl
theorem bx8:Q0 Tryz.prog 115 2 2:=fun _ _=>by kernel_rfl
theorem aO8:Q0 Tryz.prog 118 0 0:=fun _ _=>by kernel_rfl
theorem aV8:Q0 Tryz.prog 118 1 1:=fun _ _=>by kernel_rfl
theorem bx7:Q0 Tryz.prog 118 2 2:=fun _ _=>by kernel_rfl
theorem bx6:Q0 Tryz.prog 132 0 0:=fun _ _=>by kernel_rfl
theorem aO7:Q0 Tryz.prog 132 1 1:=fun _ _=>by kernel_rfl
theorem bN0:Q0 Tryz.prog 132 2 2:=fun _ _=>by kernel_rfl
theorem bx5:Q0 Tryz.prog 141 0 0:=fun _ _=>by kernel_rfl
theorem bx4:Q0 Tryz.prog 141 1 1:=fun _ _=>by kernel_rfl
theorem bx3:Q0 Tryz.prog 154 0 0:=fun _ _=>by kernel_rfl
theorem aV7:Q0 Tryz.prog 154 1 1:=fun _ _=>by kernel_rfl
theorem aO6:Q0 Tryz.prog 154 2 2:=fun _ _=>by kernel_rfl
theorem av6:Q0 Tryz.prog 154 3 3:=fun _ _=>by kernel_rfl
theorem O7:Q0 Tryz.prog 154 4 4:=fun _ _=>by kernel_rfl
theorem aB0:Q0 Tryz.prog 174 0 0:=fun _ _=>by kernel_rfl
theorem av5:Q0 Tryz.prog 174 1 1:=fun _ _=>by kernel_rfl
theorem T7:Q0 Tryz.prog 177 1 1:=fun _ _=>by kernel_rfl
theorem T6:Q0 Tryz.prog 177 2 2:=fun _ _=>by kernel_rfl
theorem ao8:Q0 Tryz.prog 177 3 3:=fun _ _=>by kernel_rfl
theorem aH5:Q0 Tryz.prog 177 4 4:=fun _ _=>by kernel_rfl
theorem ae5:Q0 Tryz.prog 177 5 5:=fun _ _=>by kernel_rfl
theorem bi5:Q0 Tryz.prog 251 0 0:=fun _ _=>by kernel_rfl
theorem bi4:Q0 Tryz.prog 251 1 1:=fun _ _=>by kernel_rfl
theorem cf4:∀ args w,(callFunc 4 args).run Tryz.prog w = .ok (.enter 4 args) w:=fun _ _=>by kernel_rfl
theorem cf5:∀ args w,(callFunc 5 args).run Tryz.prog w = .ok (.enter 5 args) w:=fun _ _=>by kernel_rfl
theorem cf6:∀ args w,(callFunc 6 args).run Tryz.prog w = .ok (.enter 6 args) w:=fun _ _=>by kernel_rfl
theorem cf7:∀ args w,(callFunc 7 args).run Tryz.prog w = .ok (.enter 7 args) w:=fun _ _=>by kernel_rfl
theorem cf8:∀ args w,(callFunc 8 args).run Tryz.prog w = .ok (.enter 8 args) w:=fun _ _=>by kernel_rfl
theorem cf9:∀ args w,(callFunc 9 args).run Tryz.prog w = .ok (.enter 9 args) w:=fun _ _=>by kernel_rfl
theorem cf10:∀ args w,(callFunc 10 args).run Tryz.prog w = .ok (.enter 10 args) w:=fun _ _=>by kernel_rfl
theorem cf11:∀ args w,(callFunc 11 args).run Tryz.prog w = .ok (.enter 11 args) w:=fun _ _=>by kernel_rfl
theorem cf12:∀ args w,(callFunc 12 args).run Tryz.prog w = .ok (.enter 12 args) w:=fun _ _=>by kernel_rfl
theorem cf13:∀ args w,(callFunc 13 args).run Tryz.prog w = .ok (.enter 13 args) w:=fun _ _=>by kernel_rfl
theorem cf14:∀ args w,(callFunc 14 args).run Tryz.prog w = .ok (.enter 14 args) w:=fun _ _=>by kernel_rfl
theorem cf15:∀ args w,(callFunc 15 args).run Tryz.prog w = .ok (.enter 15 args) w:=fun _ _=>by kernel_rfl
theorem cf16:∀ args w,(callFunc 16 args).run Tryz.prog w = .ok (.enter 16 args) w:=fun _ _=>by kernel_rfl
theorem cf17:∀ args w,(callFunc 17 args).run Tryz.prog w = .ok (.enter 17 args) w:=fun _ _=>by kernel_rfl
theorem cf18:∀ args w,(callFunc 18 args).run Tryz.prog w = .ok (.enter 18 args) w:=fun _ _=>by kernel_rfl
theorem bC5:∀ args w,(callFunc 19 args).run Tryz.prog w = .ok (.enter 19 args) w:=fun _ _=>by kernel_rfl
theorem bP2:∀ args w,(callFunc 20 args).run Tryz.prog w = .ok (.enter 20 args) w:=fun _ _=>by kernel_rfl
theorem bI0:∀ args w,(callFunc 21 args).run Tryz.prog w = .ok (.enter 21 args) w:=fun _ _=>by kernel_rfl
theorem bP1:∀ args w,(callFunc 22 args).run Tryz.prog w = .ok (.enter 22 args) w:=fun _ _=>by kernel_rfl
theorem cf23:∀ args w,(callFunc 23 args).run Tryz.prog w = .ok (.enter 23 args) w:=fun _ _=>by kernel_rfl
theorem cf24:∀ args w,(callFunc 24 args).run Tryz.prog w = .ok (.enter 24 args) w:=fun _ _=>by kernel_rfl
theorem bP0:∀ args w,(callFunc 25 args).run Tryz.prog w = .ok (.enter 25 args) w:=fun _ _=>by kernel_rfl
theorem cf26:∀ args w,(callFunc 26 args).run Tryz.prog w = .ok (.enter 26 args) w:=fun _ _=>by kernel_rfl
theorem cf27:∀ args w,(callFunc 27 args).run Tryz.prog w = .ok (.enter 27 args) w:=fun _ _=>by kernel_rfl
theorem cf28:∀ args w,(callFunc 28 args).run Tryz.prog w = .ok (.enter 28 args) w:=fun _ _=>by kernel_rfl
theorem cf29:∀ args w,(callFunc 29 args).run Tryz.prog w = .ok (.enter 29 args) w:=fun _ _=>by kernel_rfl
theorem cf30:∀ args w,(callFunc 30 args).run Tryz.prog w = .ok (.enter 30 args) w:=fun _ _=>by kernel_rfl
theorem cf31:∀ args w,(callFunc 31 args).run Tryz.prog w = .ok (.enter 31 args) w:=fun _ _=>by kernel_rfl
theorem cf32:∀ args w,(callFunc 32 args).run Tryz.prog w = .ok (.enter 32 args) w:=fun _ _=>by kernel_rfl
theorem cf33:∀ args w,(callFunc 33 args).run Tryz.prog w = .ok (.enter 33 args) w:=fun _ _=>by kernel_rfl
theorem bu8:∀ args w,(callFunc 34 args).run Tryz.prog w = .ok (.enter 34 args) w:=fun _ _=>by kernel_rfl
theorem bj8:∀ args w,(callFunc 35 args).run Tryz.prog w = .ok (.enter 35 args) w:=fun _ _=>by kernel_rfl
theorem cf36:∀ args w,(callFunc 36 args).run Tryz.prog w = .ok (.enter 36 args) w:=fun _ _=>by kernel_rfl
theorem aq8:∀ args w,(callFunc 37 args).run Tryz.prog w = .ok (.enter 37 args) w:=fun _ _=>by kernel_rfl
theorem cf38:∀ args w,(callFunc 38 args).run Tryz.prog w = .ok (.enter 38 args) w:=fun _ _=>by kernel_rfl
theorem cf39:∀ args w,(callFunc 39 args).run Tryz.prog w = .ok (.enter 39 args) w:=fun _ _=>by kernel_rfl
theorem cf40:∀ args w,(callFunc 40 args).run Tryz.prog w = .ok (.enter 40 args) w:=fun _ _=>by kernel_rfl
theorem cf41:∀ args w,(callFunc 41 args).run Tryz.prog w = .ok (.enter 41 args) w:=fun _ _=>by kernel_rfl
theorem cf42:∀ args w,(callFunc 42 args).run Tryz.prog w = .ok (.enter 42 args) w:=fun _ _=>by kernel_rfl
theorem cf43:∀ args w,(callFunc 43 args).run Tryz.prog w = .ok (.enter 43 args) w:=fun _ _=>by kernel_rfl
theorem cf44:∀ args w,(callFunc 44 args).run Tryz.prog w = .ok (.enter 44 args) w:=fun _ _=>by kernel_rfl
theorem cf45:∀ args w,(callFunc 45 args).run Tryz.prog w = .ok (.enter 45 args) w:=fun _ _=>by kernel_rfl
theorem cf46:∀ args w,(callFunc 46 args).run Tryz.prog w = .ok (.enter 46 args) w:=fun _ _=>by kernel_rfl
theorem bO9:∀ args w,(callFunc 47 args).run Tryz.prog w = .ok (.enter 47 args) w:=fun _ _=>by kernel_rfl
theorem cf48:∀ args w,(callFunc 48 args).run Tryz.prog w = .ok (.enter 48 args) w:=fun _ _=>by kernel_rfl
theorem cf49:∀ args w,(callFunc 49 args).run Tryz.prog w = .ok (.enter 49 args) w:=fun _ _=>by kernel_rfl
theorem bW7:∀ args w,(callFunc 50 args).run Tryz.prog w = .ok (.enter 50 args) w:=fun _ _=>by kernel_rfl
theorem bW6:∀ args w,(callFunc 51 args).run Tryz.prog w = .ok (.enter 51 args) w:=fun _ _=>by kernel_rfl
theorem bW5:∀ args w,(callFunc 52 args).run Tryz.prog w = .ok (.enter 52 args) w:=fun _ _=>by kernel_rfl
theorem cf53:∀ args w,(callFunc 53 args).run Tryz.prog w = .ok (.enter 53 args) w:=fun _ _=>by kernel_rfl
theorem bW4:∀ args w,(callFunc 54 args).run Tryz.prog w = .ok (.enter 54 args) w:=fun _ _=>by kernel_rfl
theorem bO8:∀ args w,(callFunc 55 args).run Tryz.prog w = .ok (.enter 55 args) w:=fun _ _=>by kernel_rfl
theorem bc0:∀ args w,(callFunc 56 args).run Tryz.prog w = .ok (.enter 56 args) w:=fun _ _=>by kernel_rfl
theorem bb9:∀ args w,(callFunc 57 args).run Tryz.prog w = .ok (.enter 57 args) w:=fun _ _=>by kernel_rfl
theorem cf58:∀ args w,(callFunc 58 args).run Tryz.prog w = .ok (.enter 58 args) w:=fun _ _=>by kernel_rfl
theorem bC4:∀ args w,(callFunc 59 args).run Tryz.prog w = .ok (.enter 59 args) w:=fun _ _=>by kernel_rfl
theorem cf60:∀ args w,(callFunc 60 args).run Tryz.prog w = .ok (.enter 60 args) w:=fun _ _=>by kernel_rfl
theorem cf61:∀ args w,(callFunc 61 args).run Tryz.prog w = .ok (.enter 61 args) w:=fun _ _=>by kernel_rfl
theorem cf62:∀ args w,(callFunc 62 args).run Tryz.prog w = .ok (.enter 62 args) w:=fun _ _=>by kernel_rfl
theorem cf63:∀ args w,(callFunc 63 args).run Tryz.prog w = .ok (.enter 63 args) w:=fun _ _=>by kernel_rfl
theorem cf64:∀ args w,(callFunc 64 args).run Tryz.prog w = .ok (.enter 64 args) w:=fun _ _=>by kernel_rfl
theorem cf66:∀ args w,(callFunc 66 args).run Tryz.prog w = .ok (.enter 66 args) w:=fun _ _=>by kernel_rfl
theorem cf67:∀ args w,(callFunc 67 args).run Tryz.prog w = .ok (.enter 67 args) w:=fun _ _=>by kernel_rfl
theorem bC3:∀ args w,(callFunc 68 args).run Tryz.prog w = .ok (.enter 68 args) w:=fun _ _=>by kernel_rfl
theorem bu7:∀ args w,(callFunc 69 args).run Tryz.prog w = .ok (.enter 69 args) w:=fun _ _=>by kernel_rfl
theorem bW3:∀ args w,(callFunc 70 args).run Tryz.prog w = .ok (.enter 70 args) w:=fun _ _=>by kernel_rfl
theorem cf71:∀ args w,(callFunc 71 args).run Tryz.prog w = .ok (.enter 71 args) w:=fun _ _=>by kernel_rfl
theorem cf72:∀ args w,(callFunc 72 args).run Tryz.prog w = .ok (.enter 72 args) w:=fun _ _=>by kernel_rfl
theorem cf73:∀ args w,(callFunc 73 args).run Tryz.prog w = .ok (.enter 73 args) w:=fun _ _=>by kernel_rfl
theorem bu6:∀ args w,(callFunc 75 args).run Tryz.prog w = .ok (.enter 75 args) w:=fun _ _=>by kernel_rfl
theorem bO7:∀ args w,(callFunc 76 args).run Tryz.prog w = .ok (.enter 76 args) w:=fun _ _=>by kernel_rfl
theorem bu5:∀ args w,(callFunc 77 args).run Tryz.prog w = .ok (.enter 77 args) w:=fun _ _=>by kernel_rfl
theorem cf78:∀ args w,(callFunc 78 args).run Tryz.prog w = .ok (.enter 78 args) w:=fun _ _=>by kernel_rfl
theorem cf79:∀ args w,(callFunc 79 args).run Tryz.prog w = .ok (.enter 79 args) w:=fun _ _=>by kernel_rfl
theorem bO6:∀ args w,(callFunc 80 args).run Tryz.prog w = .ok (.enter 80 args) w:=fun _ _=>by kernel_rfl
theorem bW2:∀ args w,(callFunc 81 args).run Tryz.prog w = .ok (.enter 81 args) w:=fun _ _=>by kernel_rfl
theorem cf82:∀ args w,(callFunc 82 args).run Tryz.prog w = .ok (.enter 82 args) w:=fun _ _=>by kernel_rfl
theorem bW1:∀ args w,(callFunc 83 args).run Tryz.prog w = .ok (.enter 83 args) w:=fun _ _=>by kernel_rfl
theorem cf85:∀ args w,(callFunc 85 args).run Tryz.prog w = .ok (.enter 85 args) w:=fun _ _=>by kernel_rfl
theorem cf86:∀ args w,(callFunc 86 args).run Tryz.prog w = .ok (.enter 86 args) w:=fun _ _=>by kernel_rfl
theorem cf87:∀ args w,(callFunc 87 args).run Tryz.prog w = .ok (.enter 87 args) w:=fun _ _=>by kernel_rfl
theorem cf88:∀ args w,(callFunc 88 args).run Tryz.prog w = .ok (.enter 88 args) w:=fun _ _=>by kernel_rfl
theorem cf89:∀ args w,(callFunc 89 args).run Tryz.prog w = .ok (.enter 89 args) w:=fun _ _=>by kernel_rfl
theorem cf90:∀ args w,(callFunc 90 args).run Tryz.prog w = .ok (.enter 90 args) w:=fun _ _=>by kernel_rfl
theorem cf91:∀ args w,(callFunc 91 args).run Tryz.prog w = .ok (.enter 91 args) w:=fun _ _=>by kernel_rfl
theorem cf92:∀ args w,(callFunc 92 args).run Tryz.prog w = .ok (.enter 92 args) w:=fun _ _=>by kernel_rfl
theorem cf93:∀ args w,(callFunc 93 args).run Tryz.prog w = .ok (.enter 93 args) w:=fun _ _=>by kernel_rfl
theorem cf96:∀ args w,(callFunc 96 args).run Tryz.prog w = .ok (.enter 96 args) w:=fun _ _=>by kernel_rfl
theorem cf97:∀ args w,(callFunc 97 args).run Tryz.prog w = .ok (.enter 97 args) w:=fun _ _=>by kernel_rfl
theorem cf98:∀ args w,(callFunc 98 args).run Tryz.prog w = .ok (.enter 98 args) w:=fun _ _=>by kernel_rfl
theorem cf99:∀ args w,(callFunc 99 args).run Tryz.prog w = .ok (.enter 99 args) w:=fun _ _=>by kernel_rfl
theorem bR8:∀ args w,(callFunc 100 args).run Tryz.prog w = .ok (.enter 100 args) w:=fun _ _=>by kernel_rfl
theorem cg0:∀ args w,(callFunc 101 args).run Tryz.prog w = .ok (.enter 101 args) w:=fun _ _=>by kernel_rfl
theorem bI5:∀ args w,(callFunc 102 args).run Tryz.prog w = .ok (.enter 102 args) w:=fun _ _=>by kernel_rfl
theorem aP3:∀ args w,(callFunc 103 args).run Tryz.prog w = .ok (.enter 103 args) w:=fun _ _=>by kernel_rfl
theorem bI4:∀ args w,(callFunc 104 args).run Tryz.prog w = .ok (.enter 104 args) w:=fun _ _=>by kernel_rfl
theorem cf3:∀ args w,(callFunc 105 args).run Tryz.prog w = .ok (.enter 105 args) w:=fun _ _=>by kernel_rfl
theorem bR7:∀ args w,(callFunc 106 args).run Tryz.prog w = .ok (.enter 106 args) w:=fun _ _=>by kernel_rfl
theorem bI3:∀ args w,(callFunc 107 args).run Tryz.prog w = .ok (.enter 107 args) w:=fun _ _=>by kernel_rfl
theorem cf2:∀ args w,(callFunc 108 args).run Tryz.prog w = .ok (.enter 108 args) w:=fun _ _=>by kernel_rfl
theorem cf0:∀ args w,(callFunc 110 args).run Tryz.prog w = .ok (.enter 110 args) w:=fun _ _=>by kernel_rfl
theorem bI2:∀ args w,(callFunc 111 args).run Tryz.prog w = .ok (.enter 111 args) w:=fun _ _=>by kernel_rfl
theorem ce9:∀ args w,(callFunc 112 args).run Tryz.prog w = .ok (.enter 112 args) w:=fun _ _=>by kernel_rfl
theorem ce8:∀ args w,(callFunc 113 args).run Tryz.prog w = .ok (.enter 113 args) w:=fun _ _=>by kernel_rfl
theorem ce7:∀ args w,(callFunc 114 args).run Tryz.prog w = .ok (.enter 114 args) w:=fun _ _=>by kernel_rfl
theorem ce6:∀ args w,(callFunc 115 args).run Tryz.prog w = .ok (.enter 115 args) w:=fun _ _=>by kernel_rfl
theorem ce5:∀ args w,(callFunc 116 args).run Tryz.prog w = .ok (.enter 116 args) w:=fun _ _=>by kernel_rfl
theorem bR6:∀ args w,(callFunc 117 args).run Tryz.prog w = .ok (.enter 117 args) w:=fun _ _=>by kernel_rfl
theorem by7:∀ args w,(callFunc 118 args).run Tryz.prog w = .ok (.enter 118 args) w:=fun _ _=>by kernel_rfl
theorem ce4:∀ args w,(callFunc 119 args).run Tryz.prog w = .ok (.enter 119 args) w:=fun _ _=>by kernel_rfl
theorem bR5:∀ args w,(callFunc 122 args).run Tryz.prog w = .ok (.enter 122 args) w:=fun _ _=>by kernel_rfl
theorem ce3:∀ args w,(callFunc 123 args).run Tryz.prog w = .ok (.enter 123 args) w:=fun _ _=>by kernel_rfl
theorem ce2:∀ args w,(callFunc 124 args).run Tryz.prog w = .ok (.enter 124 args) w:=fun _ _=>by kernel_rfl
theorem ce1:∀ args w,(callFunc 125 args).run Tryz.prog w = .ok (.enter 125 args) w:=fun _ _=>by kernel_rfl
theorem ce0:∀ args w,(callFunc 129 args).run Tryz.prog w = .ok (.enter 129 args) w:=fun _ _=>by kernel_rfl
theorem cd9:∀ args w,(callFunc 130 args).run Tryz.prog w = .ok (.enter 130 args) w:=fun _ _=>by kernel_rfl
theorem cd8:∀ args w,(callFunc 131 args).run Tryz.prog w = .ok (.enter 131 args) w:=fun _ _=>by kernel_rfl
theorem cd7:∀ args w,(callFunc 132 args).run Tryz.prog w = .ok (.enter 132 args) w:=fun _ _=>by kernel_rfl
theorem cd6:∀ args w,(callFunc 133 args).run Tryz.prog w = .ok (.enter 133 args) w:=fun _ _=>by kernel_rfl
theorem cd5:∀ args w,(callFunc 134 args).run Tryz.prog w = .ok (.enter 134 args) w:=fun _ _=>by kernel_rfl
theorem cd4:∀ args w,(callFunc 139 args).run Tryz.prog w = .ok (.enter 139 args) w:=fun _ _=>by kernel_rfl
theorem cd2:∀ args w,(callFunc 140 args).run Tryz.prog w = .ok (.enter 140 args) w:=fun _ _=>by kernel_rfl
theorem cd1:∀ args w,(callFunc 141 args).run Tryz.prog w = .ok (.enter 141 args) w:=fun _ _=>by kernel_rfl
theorem bR4:∀ args w,(callFunc 149 args).run Tryz.prog w = .ok (.enter 149 args) w:=fun _ _=>by kernel_rfl
theorem cc9:∀ args w,(callFunc 150 args).run Tryz.prog w = .ok (.enter 150 args) w:=fun _ _=>by kernel_rfl
theorem bR3:∀ args w,(callFunc 151 args).run Tryz.prog w = .ok (.enter 151 args) w:=fun _ _=>by kernel_rfl
theorem bI1:∀ args w,(callFunc 152 args).run Tryz.prog w = .ok (.enter 152 args) w:=fun _ _=>by kernel_rfl
theorem cc8:∀ args w,(callFunc 153 args).run Tryz.prog w = .ok (.enter 153 args) w:=fun _ _=>by kernel_rfl
theorem cc7:∀ args w,(callFunc 154 args).run Tryz.prog w = .ok (.enter 154 args) w:=fun _ _=>by kernel_rfl
theorem cc6:∀ args w,(callFunc 155 args).run Tryz.prog w = .ok (.enter 155 args) w:=fun _ _=>by kernel_rfl
theorem bR2:∀ args w,(callFunc 156 args).run Tryz.prog w = .ok (.enter 156 args) w:=fun _ _=>by kernel_rfl
theorem cc3:∀ args w,(callFunc 172 args).run Tryz.prog w = .ok (.enter 172 args) w:=fun _ _=>by kernel_rfl
theorem cc2:∀ args w,(callFunc 173 args).run Tryz.prog w = .ok (.enter 173 args) w:=fun _ _=>by kernel_rfl
theorem cc1:∀ args w,(callFunc 178 args).run Tryz.prog w = .ok (.enter 178 args) w:=fun _ _=>by kernel_rfl
theorem cc0:∀ args w,(callFunc 179 args).run Tryz.prog w = .ok (.enter 179 args) w:=fun _ _=>by kernel_rfl
theorem cb9:∀ args w,(callFunc 180 args).run Tryz.prog w = .ok (.enter 180 args) w:=fun _ _=>by kernel_rfl
theorem bR1:∀ args w,(callFunc 181 args).run Tryz.prog w = .ok (.enter 181 args) w:=fun _ _=>by kernel_rfl
theorem bR0:∀ args w,(callFunc 182 args).run Tryz.prog w = .ok (.enter 182 args) w:=fun _ _=>by kernel_rfl
theorem cb8:∀ args w,(callFunc 189 args).run Tryz.prog w = .ok (.enter 189 args) w:=fun _ _=>by kernel_rfl
theorem cb7:∀ args w,(callFunc 190 args).run Tryz.prog w = .ok (.enter 190 args) w:=fun _ _=>by kernel_rfl
theorem bQ9:∀ args w,(callFunc 194 args).run Tryz.prog w = .ok (.enter 194 args) w:=fun _ _=>by kernel_rfl
theorem cb6:∀ args w,(callFunc 195 args).run Tryz.prog w = .ok (.enter 195 args) w:=fun _ _=>by kernel_rfl
theorem cb5:∀ args w,(callFunc 196 args).run Tryz.prog w = .ok (.enter 196 args) w:=fun _ _=>by kernel_rfl
theorem cb4:∀ args w,(callFunc 197 args).run Tryz.prog w = .ok (.enter 197 args) w:=fun _ _=>by kernel_rfl
theorem bQ8:∀ args w,(callFunc 198 args).run Tryz.prog w = .ok (.enter 198 args) w:=fun _ _=>by kernel_rfl
theorem cb3:∀ args w,(callFunc 199 args).run Tryz.prog w = .ok (.enter 199 args) w:=fun _ _=>by kernel_rfl
theorem cb2:∀ args w,(callFunc 215 args).run Tryz.prog w = .ok (.enter 215 args) w:=fun _ _=>by kernel_rfl
theorem cb1:∀ args w,(callFunc 226 args).run Tryz.prog w = .ok (.enter 226 args) w:=fun _ _=>by kernel_rfl
theorem cb0:∀ args w,(callFunc 229 args).run Tryz.prog w = .ok (.enter 229 args) w:=fun _ _=>by kernel_rfl
theorem ca9:∀ args w,(callFunc 230 args).run Tryz.prog w = .ok (.enter 230 args) w:=fun _ _=>by kernel_rfl
theorem ca8:∀ args w,(callFunc 231 args).run Tryz.prog w = .ok (.enter 231 args) w:=fun _ _=>by kernel_rfl
theorem bQ7:∀ args w,(callFunc 232 args).run Tryz.prog w = .ok (.enter 232 args) w:=fun _ _=>by kernel_rfl
theorem ca6:∀ args w,(callFunc 244 args).run Tryz.prog w = .ok (.enter 244 args) w:=fun _ _=>by kernel_rfl
theorem ca5:∀ args w,(callFunc 245 args).run Tryz.prog w = .ok (.enter 245 args) w:=fun _ _=>by kernel_rfl
theorem bQ6:∀ args w,(callFunc 246 args).run Tryz.prog w = .ok (.enter 246 args) w:=fun _ _=>by kernel_rfl
theorem ca4:∀ args w,(callFunc 248 args).run Tryz.prog w = .ok (.enter 248 args) w:=fun _ _=>by kernel_rfl
end Go.Proofs.YtlkpfhdlfapfhadGreatDoor
