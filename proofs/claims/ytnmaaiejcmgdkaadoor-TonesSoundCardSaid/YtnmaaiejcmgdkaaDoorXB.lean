/- XB: the library's functions that are met by contract (for TonesSound): strings.Builder is walked here. -/
import Derived.Test.YtnmaaiejcmgdkaaDoorXMB
import Derived.Test.YtnmaaiejcmgdkaaDoorXC
import Derived.Test.YtnmaaiejcmgdkaaDoorD
import Derived.Test.YtnmaaiejcmgdkaaDoorShelf
namespace Go.Proofs.YtnmaaiejcmgdkaaDoor
open Go Go.J Go.G
set_option maxRecDepth 100000
def UtfT (w : World) : Prop := Lib.Utf8Tabs 0 1 w
theorem ok_utf8_ValidString (a0 : ByteArray) {r : Bool} (hm : m_utf8_ValidString a0 = some r) :
    Ctr Tryd.prog 99 [.string a0].toArray ([] : List Ent) [UtfT] (X := Unit) (fun _ => .bool r) (fun _ => []) := by
  unfold m_utf8_ValidString at hm
  split at hm
  · rename_i h
    obtain rfl := Option.some.inj hm
    exact Ctr.of_below fun w hF => Any.utf8_ValidString Tryd.lays196 a0 w h (hF _ (List.mem_cons_self ..))
  · cases hm
theorem cf90' : ∀ args w, (callFunc 90 args).run Tryd.prog w = .ok (.enter 90 args) w := fun _ _ => by kernel_rfl
theorem noEsc (v : Value) (w : World) : (callFunc 98 [v].toArray).run Tryd.prog w = .ok (.value v) w := by
  rw [run_callFunc_extern Tryd.func98 (by kernel_rfl) (by kernel_rfl) (by kernel_rfl) (e := Extern.AbiNoEscape.same) (by kernel_rfl)]
  show ((Extern.AbiNoEscape.same #[v]).run Tryd.prog w).andThen _ = _
  rw [Lib.run_noEscape]
  rfl
theorem ty98' : TyF Tryd.prog 98 false 1 8 [.pointer none] := TyF.mk' (z := .pointer none) Tryd.underlying98 rfl (by kernel_rfl) rfl
theorem ty99' : TyF Tryd.prog 99 false 1 24 [.slice none 0 0] := TyF.mk' (z := .slice none 0 0) Tryd.underlying99 rfl (by kernel_rfl) rfl
theorem ty5' : TyF Tryd.prog 5 false 1 1 [.int .u8 0] := TyF.mk' (z := .int .u8 0) Tryd.underlying5 rfl (by kernel_rfl) rfl
theorem fl101_0' : FldF Tryd.prog 101 0 0 := fun _ _ => by kernel_rfl
theorem fl101_1' : FldF Tryd.prog 101 1 1 := fun _ _ => by kernel_rfl
theorem ok_copyCheck_fresh (b : Nat) (v : SV) :
    Ctr Tryd.prog 90 [.pointer (some ⟨b, 0, none⟩)].toArray [.box b 101 [.pointer none, v.v]] [] (X := Unit) (fun _ => .tuple #[]) (fun _ => [.box b 101 [.pointer (some ⟨b, 0, none⟩), v.v]]) := by
  refine ctr_mk (vs := [(0, .pointer (some ⟨b, 0, none⟩))]) Tryd.func90 rfl Tryd.ntmps90 rfl ⟨rfl, trivial⟩ (fun w0 A => ?_)
  obtain ⟨i, -, hi, -, -, hsz, -⟩ := ty101.info
  refine cj_seq ?_
  refine cj_reg ?_
  refine lp rfl (p_mv rfl) ?_
  refine lp rfl (p_nc rfl) ?_
  refine lp rfl (p_fab fl101_0' rfl) ?_
  refine lp rfl (p_lbs ty98' rfl (j := 0) rfl rfl) ?_
  refine lp rfl (p_eqpn Tryd.underlying98 rfl rfl) ?_
  refine lj_seq ?_
  refine cj_if_t rfl ?_
  refine cj_reg ?_
  refine lp rfl (p_mv rfl) ?_
  refine lp rfl (p_mv rfl) ?_
  refine lp rfl (p_tousp Tryd.underlying98 Tryd.underlying134 hi (by rw [hsz]; decide) (k := 0) rfl rfl rfl) ?_
  refine lp rfl (p_ext_call (noEsc _) rfl rfl) ?_
  refine lp rfl (p_frusp Tryd.underlying134 Tryd.underlying98 hi (k := 0) rfl (by kernel_rfl) rfl) ?_
  refine lp rfl (p_nc rfl) ?_
  refine lp rfl (p_fab fl101_0' rfl) ?_
  refine r_sb (vs := [.pointer (some ⟨b, 0, none⟩)]) (j := 0) ty98' rfl rfl rfl rfl rfl rfl rfl ?_
  refine lj_nil ?_
  exact nj_rt () [0] Tryd.results90 .nil rfl rfl
theorem ok_copyCheck_used (b : Nat) (v : SV) :
    Ctr Tryd.prog 90 [.pointer (some ⟨b, 0, none⟩)].toArray [.box b 101 [.pointer (some ⟨b, 0, none⟩), v.v]] [] (X := Unit) (fun _ => .tuple #[]) (fun _ => [.box b 101 [.pointer (some ⟨b, 0, none⟩), v.v]]) := by
  refine ctr_mk (vs := [(0, .pointer (some ⟨b, 0, none⟩))]) Tryd.func90 rfl Tryd.ntmps90 rfl ⟨rfl, trivial⟩ (fun w0 A => ?_)
  obtain ⟨i, -, hi, -, -, hsz, -⟩ := ty101.info
  refine cj_seq ?_
  refine cj_reg ?_
  refine lp rfl (p_mv rfl) ?_
  refine lp rfl (p_nc rfl) ?_
  refine lp rfl (p_fab fl101_0' rfl) ?_
  refine lp rfl (p_lbs ty98' rfl (j := 0) rfl rfl) ?_
  refine lp rfl (p_eqpn Tryd.underlying98 rfl rfl) ?_
  refine lj_seq ?_
  refine cj_if_f rfl ?_
  refine cj_seq ?_
  refine cj_reg ?_
  refine lp rfl (p_mv rfl) ?_
  refine lp rfl (p_nc rfl) ?_
  refine lp rfl (p_fab fl101_0' rfl) ?_
  refine lp rfl (p_lbs ty98' rfl (j := 0) rfl rfl) ?_
  refine lp rfl (p_mv rfl) ?_
  refine lp rfl (p_nepp Tryd.underlying98 hi rfl rfl) ?_
  refine lj_seq ?_
  refine cj_if_f rfl ?_
  refine cj_skip ?_
  exact nj_rt () [0] Tryd.results90 .nil rfl rfl
theorem ok_copyCheck (b : Nat) (q : Option Addr) (v : SV) (hq : q = none ∨ q = some ⟨b, 0, none⟩) :
    Ctr Tryd.prog 90 [.pointer (some ⟨b, 0, none⟩)].toArray [.box b 101 [.pointer q, v.v]] [] (X := Unit) (fun _ => .tuple #[]) (fun _ => [.box b 101 [.pointer (some ⟨b, 0, none⟩), v.v]]) := by
  rcases hq with rfl | rfl
  · exact ok_copyCheck_fresh b v
  · exact ok_copyCheck_used b v
theorem ok_bWriteString (b : Nat) (s : SV) (c t : ByteArray) {y : ByteArray} (hm : m_bWriteString c t = some y) :
    Ctr Tryd.prog 64 [.pointer (some ⟨b, 0, none⟩), .string t].toArray [.obj (bldO 101 5 b s c.data.toList)] [] (X := SV) (fun _ => .tuple #[.int .i64 t.size, .nilIface]) (fun s' => [.obj (bldO 101 5 b s' y.data.toList)]) := by
  unfold m_bWriteString at hm
  split at hm
  case isFalse => cases hm
  rename_i hle
  obtain rfl := Option.some.inj hm
  have hcs : c.data.toList.length = c.size := by simp
  have hcat : (c ++ t).data.toList = c.data.toList ++ t.data.toList := by simp
  refine ctr_mk (vs := [(0, .pointer (some ⟨b, 0, none⟩)), (1, .string t)]) Tryd.func64 rfl Tryd.ntmps64 rfl ⟨rfl, rfl, trivial⟩ (fun w0 A => ?_)
  refine cj_openB (fun q hq h1 h2 => ?_)
  refine cj_seq ?_
  refine cj_reg ?_
  refine lp rfl (p_as rfl) ?_
  refine lp rfl (p_as rfl) ?_
  refine lj_seq ?_
  refine cj_seq ?_
  refine cj_reg ?_
  refine lp rfl (p_mv rfl) ?_
  refine r_call [0] cf90' rfl rfl (ok_copyCheck b q s hq) rfl rfl .nil (fun _ => rfl) rfl (fun _ => ?_)
  refine lj_seq ?_
  refine cj_seq ?_
  refine cj_reg ?_
  refine lp rfl (p_mv rfl) ?_
  refine lp rfl (p_mv rfl) ?_
  refine lp rfl (p_nc rfl) ?_
  refine lp rfl (p_fab fl101_1' rfl) ?_
  refine lp rfl (p_lbs ty99' rfl (j := 0) rfl rfl) ?_
  refine lp rfl (p_mv rfl) ?_
  refine r_apps (k := 1) Tryd.underlying99 Tryd.underlying9 ty5' rfl rfl rfl (by rw [hcs]; exact hle) h1 rfl (fun s' g1 g2 => ?_)
  refine lp rfl (p_nc rfl) ?_
  refine lp rfl (p_fab fl101_1' rfl) ?_
  refine r_sb (vs := [s'.v]) (j := 0) ty99' rfl rfl rfl rfl rfl rfl rfl ?_
  refine lj_seq ?_
  refine cj_seq ?_
  refine cj_reg ?_
  refine lp rfl (p_mv rfl) ?_
  refine lp rfl (p_lens Tryd.underlying9 rfl) ?_
  refine lp rfl (p_as rfl) ?_
  refine lp rfl (p_as rfl) ?_
  refine lj_seq ?_
  rw [← hcat] at g1 g2
  refine cj_closeB (q := some ⟨b, 0, none⟩) (s := s') (bs := (c ++ t).data.toList) (.inr rfl) g1 g2 ?_
  exact cj_rt s' [0] Tryd.results64 (.tmp rfl (.tmp rfl .nil)) rfl rfl
theorem ok_bLen (b : Nat) (s : SV) (c : ByteArray) :
    Ctr Tryd.prog 65 [.pointer (some ⟨b, 0, none⟩)].toArray [.obj (bldO 101 5 b s c.data.toList)] [] (X := Unit) (fun _ => .int .i64 c.size) (fun _ => [.obj (bldO 101 5 b s c.data.toList)]) := by
  have hcs : c.size = c.data.toList.length := by simp
  rw [hcs]
  refine ctr_mk (vs := [(0, .pointer (some ⟨b, 0, none⟩))]) Tryd.func65 rfl Tryd.ntmps65 rfl ⟨rfl, trivial⟩ (fun w0 A => ?_)
  refine cj_openB (fun q hq h1 h2 => ?_)
  refine cj_seq ?_
  refine cj_reg ?_
  refine lp rfl (p_as rfl) ?_
  refine lj_seq ?_
  refine cj_seq ?_
  refine cj_reg ?_
  refine lp rfl (p_mv rfl) ?_
  refine lp rfl (p_nc rfl) ?_
  refine lp rfl (p_fab fl101_1' rfl) ?_
  refine lp rfl (p_lbs ty99' rfl (j := 0) rfl rfl) ?_
  refine lp rfl (p_len Tryd.underlying99 rfl (.row 1 rfl)) ?_
  refine lp rfl (p_as rfl) ?_
  refine lj_seq ?_
  refine cj_closeB (q := q) (s := s) (bs := c.data.toList) hq h1 h2 ?_
  exact cj_rt () [0] Tryd.results65 (.tmp rfl .nil) rfl rfl
theorem ok_bString (b : Nat) (s : SV) (c : ByteArray) :
    Ctr Tryd.prog 66 [.pointer (some ⟨b, 0, none⟩)].toArray [.obj (bldO 101 5 b s c.data.toList)] [] (X := Unit) (fun _ => .string c) (fun _ => []) := by
  have hcs : c = ⟨c.data.toList.toArray⟩ := rfl
  refine ctr_mk (vs := [(0, .pointer (some ⟨b, 0, none⟩))]) Tryd.func66 rfl Tryd.ntmps66 rfl ⟨rfl, trivial⟩ (fun w0 A => ?_)
  refine cj_openB (fun q hq h1 h2 => ?_)
  refine cj_seq ?_
  refine cj_reg ?_
  refine lp rfl (p_as rfl) ?_
  refine lj_seq ?_
  refine cj_seq ?_
  refine cj_tail 10 (by kernel_rfl) (by kernel_rfl) ?_
  refine s_p rfl (p_mv rfl) ?_
  refine s_p rfl (p_nc rfl) ?_
  refine s_p rfl (p_fab fl101_1' rfl) ?_
  refine s_p rfl (p_lbs ty99' rfl (j := 0) rfl rfl) ?_
  refine s_p rfl (p_usd rfl (.row 1 rfl) h1) ?_
  refine s_p rfl (p_mv rfl) ?_
  refine s_p rfl (p_nc rfl) ?_
  refine s_p rfl (p_fab fl101_1' rfl) ?_
  refine s_p rfl (p_lbs ty99' rfl (j := 0) rfl rfl) ?_
  refine s_p rfl (p_len Tryd.underlying99 rfl (.row 1 rfl)) ?_
  refine s_nil ?_
  refine r_ustr (k := 1) Tryd.underlying125 (by kernel_rfl) rfl rfl rfl h1 rfl ?_
  refine lp rfl (p_as rfl) ?_
  refine lj_seq ?_
  exact cj_rt () [] Tryd.results66 (.tmp rfl .nil) rfl rfl
end Go.Proofs.YtnmaaiejcmgdkaaDoor
