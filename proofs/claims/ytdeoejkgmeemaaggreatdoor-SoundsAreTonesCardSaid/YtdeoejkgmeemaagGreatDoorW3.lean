/- The walks. Written by program. -/
import Derived.Test.YtdeoejkgmeemaagGreatDoorW2
namespace Go.Proofs.YtdeoejkgmeemaagGreatDoor
open Go Go.J Go.G
set_option maxRecDepth 100000
set_option linter.unusedVariables false
set_option linter.unusedSimpArgs false
theorem ok_gleekeep2_ready  {r : Bool} (hm : m_gleekeep2_ready  = some r) :
  Ctr Tryz.prog 14 [].toArray ([] : List Ent) [PowT] (X := Unit) (fun _ => .bool r) (fun _ => []) := by
 unfold m_gleekeep2_ready at hm
 refine ctr_mk (vs := []) Tryz.func14 rfl Tryz.ntmps14 rfl trivial (fun w0 A => ?_)
 refine cj_seq ?_
 refine cj_reg ?_
 refine lp rfl (p_as rfl) ?_
 refine lj_seq ?_
 refine cj_seq ?_
 refine cj_reg ?_
 refine lp rfl (p_bld [.int .i64 1, .int .i64 4, .int .i64 2, .int .i64 0, .bool true] rfl (fun _ => by kernel_rfl)) ?_
 refine r_bs R53 [(TBar.mk 1 4 2 0 true)] rfl rfl rfl (fun _ => by kernel_rfl) rfl (fun s1 => ?_)
 obtain ⟨y2, hy2, hm⟩ := bindS hm
 refine r_call [] cf35 rfl rfl (ok_piece_Order s1 [(TBar.mk 1 4 2 0 true)] hy2) rfl rfl (.cons (.row 0 rfl) .nil) (fun _ => rfl) rfl (fun s3 => ?_)
 refine lp rfl (p_mv rfl) ?_
 refine lp rfl (p_ext rfl rfl) ?_
 refine lp rfl (p_ext rfl rfl) ?_
 refine lp rfl (p_as rfl) ?_
 refine lp rfl (p_as rfl) ?_
 refine lj_seq ?_
 refine cj_seq ?_
 refine cj_reg ?_
 refine lp rfl (p_bld [.int .i64 1, .int .i64 2, .int .i64 1] rfl (fun _ => by kernel_rfl)) ?_
 obtain ⟨y4, hy4, hm⟩ := bindS hm
 refine r_call [] cf36 rfl rfl (ok_chord_Name (TChord.mk 1 2 1) hy4) rfl rfl (.cons (.ro 2 rfl) .nil) (fun _ => rfl) rfl (fun _ => ?_)
 refine lp rfl (p_mv rfl) ?_
 refine lp rfl (p_ext rfl rfl) ?_
 refine lp rfl (p_ext rfl rfl) ?_
 refine lp rfl (p_as rfl) ?_
 refine lp rfl (p_as rfl) ?_
 refine lj_seq ?_
 refine cj_seq ?_
 refine cj_reg ?_
 refine lp rfl (p_bld [.int .i64 5, .string (ByteArray.mk [97, 110, 110].toArray), .bool false] rfl (fun _ => by kernel_rfl)) ?_
 refine r_bs R91 [(TCame.mk 5 (ByteArray.mk [97, 110, 110].toArray) false)] rfl rfl rfl (fun _ => by kernel_rfl) rfl (fun s5 => ?_)
 obtain ⟨y6, hy6, hm⟩ := bindS hm
 refine r_call [] cf37 rfl rfl (ok_rehearse_There s5 [(TCame.mk 5 (ByteArray.mk [97, 110, 110].toArray) false)] 6 hy6) rfl rfl (.cons (.row 0 rfl) .nil) (fun _ => rfl) rfl (fun s7 => ?_)
 refine lp rfl (p_mv rfl) ?_
 refine lp rfl (p_ext rfl rfl) ?_
 refine lp rfl (p_ext rfl rfl) ?_
 refine lp rfl (p_as rfl) ?_
 refine lp rfl (p_as rfl) ?_
 refine lj_seq ?_
 refine cj_seq ?_
 refine cj_reg ?_
 refine r_bs R9 [(ByteArray.mk [97, 108, 116, 111].toArray)] rfl rfl rfl (fun _ => by kernel_rfl) rfl (fun s8 => ?_)
 refine lp rfl (p_bld [.string (ByteArray.mk [97].toArray), .string (ByteArray.mk [112].toArray), .int .i64 7, s8.v] rfl (fun _ => by kernel_rfl)) ?_
 refine r_fz 0 rfl ?_
 refine r_fact (F := Lk N96 [(TItem.mk (ByteArray.mk [97].toArray) (ByteArray.mk [112].toArray) 7 [(ByteArray.mk [97, 108, 116, 111].toArray)])] [((TItem.mk (ByteArray.mk [97].toArray) (ByteArray.mk [112].toArray) 7 [(ByteArray.mk [97, 108, 116, 111].toArray)]), s8)]) (.imp (.and (.ro 0 rfl) (.nilL N96)) (fun _ h => Lk.cons h.1 h.2)) ?_
 have hLs9 : (([((TItem.mk (ByteArray.mk [97].toArray) (ByteArray.mk [112].toArray) 7 [(ByteArray.mk [97, 108, 116, 111].toArray)]), s8)] : List (TItem × SV)).map Prod.fst) = ([(TItem.mk (ByteArray.mk [97].toArray) (ByteArray.mk [112].toArray) 7 [(ByteArray.mk [97, 108, 116, 111].toArray)])] : List TItem) := rfl
 refine r_bs N96.R [((TItem.mk (ByteArray.mk [97].toArray) (ByteArray.mk [112].toArray) 7 [(ByteArray.mk [97, 108, 116, 111].toArray)]), s8)] rfl rfl rfl (fun _ => by kernel_rfl) rfl (fun s9 => ?_)
 refine lp rfl (p_bld [s9.v, .int .i64 0, .int .i64 0, .int .i64 0, .int .i64 (-1)] rfl (fun _ => by kernel_rfl)) ?_
 obtain ⟨y10, hy10, hm⟩ := bindS hm
 refine r_call [] cf38 rfl rfl (ok_concert_Long (TProgram.mk [(TItem.mk (ByteArray.mk [97].toArray) (ByteArray.mk [112].toArray) 7 [(ByteArray.mk [97, 108, 116, 111].toArray)])] 0 0 0 (-1)) s9 [((TItem.mk (ByteArray.mk [97].toArray) (ByteArray.mk [112].toArray) 7 [(ByteArray.mk [97, 108, 116, 111].toArray)]), s8)] hy10) rfl rfl (.cons (.ro 1 rfl) (.cons (.row 0 rfl) .nil)) (fun _ => rfl) rfl (fun _ => ?_)
 refine lp rfl (p_mv rfl) ?_
 refine lp rfl (p_ext rfl rfl) ?_
 refine lp rfl (p_ext rfl rfl) ?_
 refine lp rfl (p_as rfl) ?_
 refine lp rfl (p_as rfl) ?_
 refine lj_seq ?_
 refine cj_seq ?_
 refine cj_reg ?_
 refine lp rfl (p_bld [.string (ByteArray.mk [97].toArray), .int .i64 1, .int .i64 0, .int .i64 1, .string (ByteArray.mk [97, 110, 110].toArray), .string ByteArray.empty, .int .i64 0, .bool false, .string ByteArray.empty, .int .i64 0] rfl (fun _ => by kernel_rfl)) ?_
 refine r_bs R102 [(TAct.mk (ByteArray.mk [97].toArray) 1 0 1 (ByteArray.mk [97, 110, 110].toArray) ByteArray.empty 0 false ByteArray.empty 0)] rfl rfl rfl (fun _ => by kernel_rfl) rfl (fun s11 => ?_)
 obtain ⟨y12, hy12, hm⟩ := bindS hm
 refine r_call [] cf39 rfl rfl (ok_club_Members s11 [(TAct.mk (ByteArray.mk [97].toArray) 1 0 1 (ByteArray.mk [97, 110, 110].toArray) ByteArray.empty 0 false ByteArray.empty 0)] 0 hy12) rfl rfl (.cons (.row 0 rfl) .nil) (fun _ => rfl) rfl (fun s13 => ?_)
 refine lp rfl (p_mv rfl) ?_
 refine lp rfl (p_ext rfl rfl) ?_
 refine lp rfl (p_ext rfl rfl) ?_
 refine lp rfl (p_as rfl) ?_
 refine lp rfl (p_as rfl) ?_
 refine lj_seq ?_
 refine cj_seq ?_
 refine cj_reg ?_
 refine lp rfl (p_mv rfl) ?_
 refine lp rfl (p_mv rfl) ?_
 refine lp rfl (p_mv rfl) ?_
 refine lp rfl (p_mv rfl) ?_
 refine lp rfl (p_mv rfl) ?_
 refine r_bs R31 [y2.2, y4.2, y6.2, y10.2, y12.2] rfl rfl rfl (fun _ => by kernel_rfl) rfl (fun s14 => ?_)
 obtain ⟨y15, hy15, hm⟩ := bindS hm
 refine r_call [] cf11 rfl rfl (ok_gleekeep2_errs s14 [y2.2, y4.2, y6.2, y10.2, y12.2] hy15) rfl rfl (.cons (.row 0 rfl) .nil) (fun _ => rfl) rfl (fun _ => ?_)
 refine lp rfl (p_eql rfl rfl) ?_
 refine lp rfl (p_mv rfl) ?_
 refine lcase (i := 50) (y15 == 0) rfl (fun hb => ?_) (fun hb => ?_)
 ·have hm := ifB_t hb hm
  refine lg true rfl rfl rfl ?_
  refine lp rfl (p_mv rfl) ?_
  refine lg true rfl rfl rfl ?_
  refine lp rfl (p_len Tryz.underlying22 rfl (.row 8 rfl)) ?_
  refine lg true rfl rfl rfl ?_
  refine lp rfl (p_eql rfl rfl) ?_
  refine lp rfl (p_pkt rfl rfl) ?_
  refine lp rfl (p_mv rfl) ?_
  refine lcase (i := 55) ((y2.1.length : Int) == 2) rfl (fun hb => ?_) (fun hb => ?_)
  ·have hm := ifB_t hb hm
   refine lg true rfl rfl rfl ?_
   refine lp rfl (p_mv rfl) ?_
   refine lg true rfl rfl rfl ?_
   refine lp rfl (p_eqs rfl rfl) ?_
   refine lp rfl (p_pkt rfl rfl) ?_
   refine lp rfl (p_mv rfl) ?_
   refine lcase (i := 59) (y4.1.toList == (ByteArray.mk [99, 35, 32, 109, 105, 110, 47, 49].toArray).toList) rfl (fun hb => ?_) (fun hb => ?_)
   ·have hm := ifB_t hb hm
    refine lg true rfl rfl rfl ?_
    refine lp rfl (p_mv rfl) ?_
    refine lg true rfl rfl rfl ?_
    refine lp rfl (p_len Tryz.underlying87 rfl (.row 6 rfl)) ?_
    refine lg true rfl rfl rfl ?_
    refine lp rfl (p_eql rfl rfl) ?_
    refine lp rfl (p_pkt rfl rfl) ?_
    refine lp rfl (p_mv rfl) ?_
    refine lcase (i := 64) ((y6.1.length : Int) == 1) rfl (fun hb => ?_) (fun hb => ?_)
    ·have hm := ifB_t hb hm
     refine lg true rfl rfl rfl ?_
     refine lp rfl (p_mv rfl) ?_
     refine lg true rfl rfl rfl ?_
     refine lp rfl (p_eql rfl rfl) ?_
     refine lp rfl (p_pkt rfl rfl) ?_
     refine lp rfl (p_mv rfl) ?_
     refine lcase (i := 68) (y10.1 == 7) rfl (fun hb => ?_) (fun hb => ?_)
     ·have hm := ifB_t hb hm
      refine lg true rfl rfl rfl ?_
      refine lp rfl (p_mv rfl) ?_
      refine lg true rfl rfl rfl ?_
      refine lp rfl (p_len Tryz.underlying87 rfl (.row 1 rfl)) ?_
      refine lg true rfl rfl rfl ?_
      refine lp rfl (p_eql rfl rfl) ?_
      refine lp rfl (p_pkt rfl rfl) ?_
      refine lp rfl (p_as rfl) ?_
      refine lj_seq ?_
      obtain rfl := Option.some.inj hm
      exact cj_rt () [] Tryz.results14 (.tmp rfl .nil) rfl rfl
     ·have hm := ifB_f hb hm
      refine ls true rfl rfl rfl rfl ?_
      refine ls true rfl rfl rfl rfl ?_
      refine ls true rfl rfl rfl rfl ?_
      refine lp rfl (p_pkf rfl rfl) ?_
      refine lp rfl (p_as rfl) ?_
      refine lj_seq ?_
      obtain rfl := Option.some.inj hm
      exact cj_rt () [] Tryz.results14 (.tmp rfl .nil) rfl rfl
    ·have hm := ifB_f hb hm
     refine ls true rfl rfl rfl rfl ?_
     refine ls true rfl rfl rfl rfl ?_
     refine lp rfl (p_pkf rfl rfl) ?_
     refine lp rfl (p_mv rfl) ?_
     refine ls true rfl rfl rfl rfl ?_
     refine ls true rfl rfl rfl rfl ?_
     refine ls true rfl rfl rfl rfl ?_
     refine lp rfl (p_pkf rfl rfl) ?_
     refine lp rfl (p_as rfl) ?_
     refine lj_seq ?_
     obtain rfl := Option.some.inj hm
     exact cj_rt () [] Tryz.results14 (.tmp rfl .nil) rfl rfl
   ·have hm := ifB_f hb hm
    refine ls true rfl rfl rfl rfl ?_
    refine ls true rfl rfl rfl rfl ?_
    refine ls true rfl rfl rfl rfl ?_
    refine lp rfl (p_pkf rfl rfl) ?_
    refine lp rfl (p_mv rfl) ?_
    refine ls true rfl rfl rfl rfl ?_
    refine ls true rfl rfl rfl rfl ?_
    refine lp rfl (p_pkf rfl rfl) ?_
    refine lp rfl (p_mv rfl) ?_
    refine ls true rfl rfl rfl rfl ?_
    refine ls true rfl rfl rfl rfl ?_
    refine ls true rfl rfl rfl rfl ?_
    refine lp rfl (p_pkf rfl rfl) ?_
    refine lp rfl (p_as rfl) ?_
    refine lj_seq ?_
    obtain rfl := Option.some.inj hm
    exact cj_rt () [] Tryz.results14 (.tmp rfl .nil) rfl rfl
  ·have hm := ifB_f hb hm
   refine ls true rfl rfl rfl rfl ?_
   refine ls true rfl rfl rfl rfl ?_
   refine lp rfl (p_pkf rfl rfl) ?_
   refine lp rfl (p_mv rfl) ?_
   refine ls true rfl rfl rfl rfl ?_
   refine ls true rfl rfl rfl rfl ?_
   refine ls true rfl rfl rfl rfl ?_
   refine lp rfl (p_pkf rfl rfl) ?_
   refine lp rfl (p_mv rfl) ?_
   refine ls true rfl rfl rfl rfl ?_
   refine ls true rfl rfl rfl rfl ?_
   refine lp rfl (p_pkf rfl rfl) ?_
   refine lp rfl (p_mv rfl) ?_
   refine ls true rfl rfl rfl rfl ?_
   refine ls true rfl rfl rfl rfl ?_
   refine ls true rfl rfl rfl rfl ?_
   refine lp rfl (p_pkf rfl rfl) ?_
   refine lp rfl (p_as rfl) ?_
   refine lj_seq ?_
   obtain rfl := Option.some.inj hm
   exact cj_rt () [] Tryz.results14 (.tmp rfl .nil) rfl rfl
 ·have hm := ifB_f hb hm
  refine ls true rfl rfl rfl rfl ?_
  refine ls true rfl rfl rfl rfl ?_
  refine ls true rfl rfl rfl rfl ?_
  refine lp rfl (p_pkf rfl rfl) ?_
  refine lp rfl (p_mv rfl) ?_
  refine ls true rfl rfl rfl rfl ?_
  refine ls true rfl rfl rfl rfl ?_
  refine lp rfl (p_pkf rfl rfl) ?_
  refine lp rfl (p_mv rfl) ?_
  refine ls true rfl rfl rfl rfl ?_
  refine ls true rfl rfl rfl rfl ?_
  refine ls true rfl rfl rfl rfl ?_
  refine lp rfl (p_pkf rfl rfl) ?_
  refine lp rfl (p_mv rfl) ?_
  refine ls true rfl rfl rfl rfl ?_
  refine ls true rfl rfl rfl rfl ?_
  refine lp rfl (p_pkf rfl rfl) ?_
  refine lp rfl (p_mv rfl) ?_
  refine ls true rfl rfl rfl rfl ?_
  refine ls true rfl rfl rfl rfl ?_
  refine ls true rfl rfl rfl rfl ?_
  refine lp rfl (p_pkf rfl rfl) ?_
  refine lp rfl (p_as rfl) ?_
  refine lj_seq ?_
  obtain rfl := Option.some.inj hm
  exact cj_rt () [] Tryz.results14 (.tmp rfl .nil) rfl rfl
theorem ok_gleekeep2_SoundsAreTones (s0_ : SV) (a0 : (List Int)) {r : Bool} (hm : m_gleekeep2_SoundsAreTones a0 = some r) :
  Ctr Tryz.prog 3 [s0_.v].toArray ([] : List Ent) [RdS R3 (SV.v s0_) a0, MaxT, PowT, UtfT] (X := Unit) (fun _ => .bool r) (fun _ => []) := by
 unfold m_gleekeep2_SoundsAreTones at hm
 refine ctr_mk (vs := [(0, s0_.v)]) Tryz.func3 rfl Tryz.ntmps3 rfl ⟨rfl, trivial⟩ (fun w0 A => ?_)
 refine cj_seq ?_
 refine cj_reg ?_
 refine lp rfl (p_as rfl) ?_
 refine lj_seq ?_
 refine cj_seq ?_
 refine cj_reg ?_
 refine lp rfl (p_mv rfl) ?_
 refine lp rfl (p_bld [s0_.v, .int .i64 0] rfl (fun _ => by kernel_rfl)) ?_
 refine r_bx (cs := [s0_.v, .int .i64 0]) rfl rfl rfl (fun b1 => ?_)
 refine lp rfl (p_as rfl) ?_
 refine lj_seq ?_
 refine cj_seq ?_
 refine cj_reg ?_
 refine lp rfl (p_mv rfl) ?_
 obtain ⟨y2, hy2, hm⟩ := bindS hm
 refine r_call [0] cf4 rfl rfl (ok_gleemake_Stream_RightBars b1 s0_ a0 0 hy2) rfl rfl (.cons (.ro 0 rfl) .nil) (fun _ => rfl) rfl (fun s3 => ?_)
 refine lp rfl (p_as rfl) ?_
 refine lj_seq ?_
 refine cj_seq ?_
 refine cj_reg ?_
 refine lp rfl (p_mv rfl) ?_
 refine lp rfl (p_mv rfl) ?_
 obtain ⟨y4, hy4, hm⟩ := bindS hm
 refine r_call [1] cf5 rfl rfl (ok_gleemake_Stream_TonesFor b1 s0_ a0 y2.2 s3 y2.1 hy4) rfl rfl (.cons (.ro 1 rfl) (.cons (.row 0 rfl) .nil)) (fun _ => rfl) rfl (fun s5 => ?_)
 refine lp rfl (p_as rfl) ?_
 refine lj_seq ?_
 refine cj_seq ?_
 refine cj_reg ?_
 refine lp rfl (p_mv rfl) ?_
 obtain ⟨y6, hy6, hm⟩ := bindS hm
 refine r_call [] cf6 rfl rfl (ok_piece_Begins s3 y2.1 hy6) rfl rfl (.cons (.row 2 rfl) .nil) (fun _ => rfl) rfl (fun s7 => ?_)
 refine lp rfl (p_mv rfl) ?_
 refine lp rfl (p_ext rfl rfl) ?_
 refine lp rfl (p_ext rfl rfl) ?_
 refine lp rfl (p_as rfl) ?_
 refine lp rfl (p_as rfl) ?_
 refine lj_seq ?_
 refine cj_seq ?_
 refine cj_reg ?_
 refine lp rfl (p_mv rfl) ?_
 refine lp rfl (p_mv rfl) ?_
 refine r_fz 3 rfl ?_
 refine r_fz 2 rfl ?_
 obtain ⟨y8, hy8, hm⟩ := bindS hm
 refine r_callN [] cf7 rfl rfl (ok_piece_InBars s3 y2.1 s5 y4.1 hy8) rfl rfl (.cons (.ro 1 rfl) (.cons (.ro 0 rfl) (.cons (.ro 7 rfl) .nil))) rfl (fun ⟨s9, xg10⟩ => ?_)
 refine r_pure (F := Lk N28 y8.1 xg10) (.ro 1 rfl) (fun _ h => h.1) (fun hLs9 => ?_)
 refine lp rfl (p_mv rfl) ?_
 refine lp rfl (p_ext rfl rfl) ?_
 refine lp rfl (p_ext rfl rfl) ?_
 refine lp rfl (p_as rfl) ?_
 refine lp rfl (p_as rfl) ?_
 refine lj_seq ?_
 refine cj_seq ?_
 refine cj_reg ?_
 refine lp rfl (p_mv rfl) ?_
 refine lp rfl (p_mv rfl) ?_
 obtain ⟨y11, hy11, hm⟩ := bindS hm
 refine r_call [] cf8 rfl rfl (ok_piece_Lyrics s3 y2.1 s5 y4.1 hy11) rfl rfl (.cons (.ro 3 rfl) (.cons (.ro 2 rfl) (.cons (.ro 9 rfl) .nil))) (fun _ => rfl) rfl (fun _ => ?_)
 refine lp rfl (p_mv rfl) ?_
 refine lp rfl (p_ext rfl rfl) ?_
 refine lp rfl (p_ext rfl rfl) ?_
 refine lp rfl (p_as rfl) ?_
 refine lp rfl (p_as rfl) ?_
 refine lj_seq ?_
 refine cj_seq ?_
 refine cj_reg ?_
 refine lp rfl (p_mv rfl) ?_
 refine lp rfl (p_mv rfl) ?_
 obtain ⟨y12, hy12, hm⟩ := bindS hm
 refine r_call [] cf9 rfl rfl (ok_piece_Played s3 y2.1 s5 y4.1 hy12) rfl rfl (.cons (.ro 3 rfl) (.cons (.ro 2 rfl) (.cons (.ro 9 rfl) .nil))) (fun _ => rfl) rfl (fun s13 => ?_)
 refine lp rfl (p_mv rfl) ?_
 refine lp rfl (p_ext rfl rfl) ?_
 refine lp rfl (p_ext rfl rfl) ?_
 refine lp rfl (p_as rfl) ?_
 refine lp rfl (p_as rfl) ?_
 refine lj_seq ?_
 refine cj_seq ?_
 refine cj_reg ?_
 refine lp rfl (p_as rfl) ?_
 refine lj_seq ?_
 refine cj_seq ?_
 refine cj_seq ?_
 refine cj_reg ?_
 refine lp rfl (p_mv rfl) ?_
 refine lp rfl (p_len Tryz.underlying28 rfl (.row 0 rfl)) ?_
 refine lp rfl (p_mv rfl) ?_
 refine lj_seq ?_
 obtain ⟨f20, hf20, hm⟩ := bindS hm
 refine cj_range (γ := Unit) (m := (y12.1.length : Int)) hf20 () (fun u17 g18 => [(2, .bool false), (4, s3.v), (5, s5.v), (6, s7.v), (7, .int .i64 y6.2), (8, s9.v), (9, .int .i64 y8.2), (10, .string y11.1), (11, .int .i64 y11.2), (13, .int .i64 y12.2), (14, .int .i64 u17), (53, s13.v)]) (fun u17 g18 => Sat w0 (keys ([] : List Ent)) A [.row R44 (SV.v s13) y12.1, .row N28.R (SV.v s9) xg10, .ro (Lk N28 y8.1 xg10), .ro (RdS R44 (SV.v s5) y4.1), .ro (RdS R53 (SV.v s3) y2.1), .row R42 (SV.v s7) y6.1, .ro MaxT, .ro PowT, .ro UtfT]) ⟨rfl, rfl, rfl, rfl, rfl, rfl, rfl, rfl, rfl, rfl, rfl, rfl, rfl, rfl, trivial⟩ (fun _ h => h.picks [0, 0, 0, 0, 0, 0, 2, 2, 2] rfl) (nat_lt _) (fun _ h => (FactAt.get (F := RdS R44 (SV.v s13) y12.1) (.row 0 rfl) h).1) (fun _ _ => ⟨rfl, rfl, rfl, rfl⟩) ⟨rfl, rfl, rfl, rfl, rfl⟩ rfl rfl rfl (fun u17 g18 e => ?_) (fun aftk19 i14 x15 u17 g18 k19 hx16 hs J hJk19 hBk19 hX I cnk19 => ?_)
 ·have hm := Flow.fin_b e hm
  refine nj_seq ?_
  refine cj_seq ?_
  refine cj_seq ?_
  refine cj_reg ?_
  obtain ⟨k25, hk25, hm⟩ := bindS hm
  have hRk25 : ∀ t, k25 = .inr t → some t = some r := fun t e => by rw [e] at hm; exact hm
  refine lj_join (σ := Bool) (γ := Unit) (fun u23 => k25 = .inl u23) (fun u23 g24 => [(2, .bool false), (4, s3.v), (5, s5.v), (6, s7.v), (8, s9.v), (93, .bool u23)]) (fun u23 g24 => Sat w0 (keys ([] : List Ent)) A [.row N28.R (SV.v s9) xg10, .ro (Lk N28 y8.1 xg10), .ro (RdS R44 (SV.v s5) y4.1), .ro (RdS R53 (SV.v s3) y2.1), .row R42 (SV.v s7) y6.1, .ro MaxT, .ro PowT, .ro UtfT]) (fun u23 g24 hq => ?_) (fun J cnk25 => ?_)
  ·have hm := Sum.fin_l hq hm
   refine cj_if (b := u23) rfl (fun hb => ?_) (fun hb => ?_)
   ·have hm := ifB_t hb hm
    refine cj_seq ?_
    refine cj_reg ?_
    refine lp rfl (p_as rfl) ?_
    refine lj_seq ?_
    obtain rfl := Option.some.inj hm
    exact cj_rt () [] Tryz.results3 (.tmp rfl .nil) rfl rfl
   ·have hm := ifB_f hb hm
    refine cj_skip ?_
    refine nj_seq ?_
    refine cj_seq ?_
    refine cj_seq ?_
    refine cj_reg ?_
    refine lp rfl (p_mv rfl) ?_
    refine lp rfl (p_len Tryz.underlying30 rfl (.row 4 rfl)) ?_
    refine lp rfl (p_mv rfl) ?_
    refine lj_seq ?_
    obtain ⟨f35, hf35, hm⟩ := bindS hm
    refine cj_range (γ := Unit) (m := (y6.1.length : Int)) hf35 () (fun u32 g33 => [(2, .bool false), (4, s3.v), (5, s5.v), (8, s9.v), (94, s7.v)]) (fun u32 g33 => Sat w0 (keys ([] : List Ent)) A [.row N28.R (SV.v s9) xg10, .ro (Lk N28 y8.1 xg10), .ro (RdS R44 (SV.v s5) y4.1), .ro (RdS R53 (SV.v s3) y2.1), .row R42 (SV.v s7) y6.1, .ro MaxT, .ro PowT, .ro UtfT]) ⟨rfl, rfl, rfl, rfl, rfl, rfl, rfl, trivial⟩ (fun _ h => h.picks [0, 0, 0, 0, 0, 0, 0, 0] rfl) (nat_lt _) (fun _ h => (FactAt.get (F := RdS R42 (SV.v s7) y6.1) (.row 4 rfl) h).1) (fun _ _ => ⟨rfl, rfl, rfl, rfl⟩) ⟨rfl, rfl, rfl, rfl, rfl⟩ rfl rfl rfl (fun u32 g33 e => ?_) (fun aftk34 i29 x30 u32 g33 k34 hx31 hs J hJk34 hBk34 hX I cnk34 => ?_)
    ·have hm := Flow.fin_b e hm
     refine nj_seq ?_
     refine cj_seq ?_
     refine cj_reg ?_
     obtain ⟨y46, hy46, hm⟩ := bindS hm
     refine r_call [] cf14 rfl rfl (ok_gleekeep2_ready  hy46) rfl rfl (.cons (.ro 6 rfl) .nil) (fun _ => rfl) rfl (fun _ => ?_)
     refine lp rfl (p_as rfl) ?_
     refine lj_seq ?_
     obtain rfl := Option.some.inj hm
     exact cj_rt () [] Tryz.results3 (.tmp rfl .nil) rfl rfl
    ·have hRk34 : ∀ t, k34 = .ret t → some t = some r := fun t e => by rw [hX t e] at hm; exact hm
     have hm := hs
     refine cj_seq ?_
     refine cj_reg ?_
     refine lp rfl (p_mv rfl) ?_
     refine lp rfl (p_idx Tryz.underlying30 ty42 rfl rfl (.row 4 rfl) (getI_nat.trans hx31)) ?_
     refine lp rfl (p_lea ty42 rfl (.row 4 rfl) hx31) ?_
     refine r_al ty42 rfl (fun b36 => ?_)
     refine lp rfl (p_as rfl) ?_
     refine r_sb (vs := [.int .i64 x30.Num, .int .i64 x30.Den]) (j := 0) ty42 rfl rfl rfl rfl rfl rfl rfl ?_
     refine lj_seq ?_
     refine cj_seq ?_
     refine cj_reg ?_
     refine lp rfl (p_mv rfl) ?_
     refine lp rfl (p_mv rfl) ?_
     refine lp rfl (p_lbw ty42 rfl (j := 0) rfl rfl) ?_
     obtain ⟨y37, hy37, hm⟩ := bindS hm
     refine r_call [] cf13 rfl rfl (ok_piece_Sounds s3 y2.1 s5 y4.1 x30 hy37) rfl rfl (.cons (.ro 4 rfl) (.cons (.ro 3 rfl) (.cons (.ro 8 rfl) .nil))) (fun _ => rfl) rfl (fun _ => ?_)
     refine lp rfl (p_mv rfl) ?_
     refine lp rfl (p_ext rfl rfl) ?_
     refine lp rfl (p_ext rfl rfl) ?_
     refine lp rfl (p_ext rfl rfl) ?_
     refine lp rfl (p_as rfl) ?_
     refine lp rfl (p_as rfl) ?_
     refine lp rfl (p_as rfl) ?_
     refine lj_seq ?_
     refine cj_seq ?_
     refine cj_reg ?_
     obtain ⟨k40, hk40, hm⟩ := bindS hm
     have hRk40 : ∀ t, k40 = .inr t → some t = some k34 := fun t e => by rw [e] at hm; exact hm
     refine lj_join (σ := Bool) (γ := Unit) (fun u38 => k40 = .inl u38) (fun u38 g39 => [(2, .bool false), (4, s3.v), (5, s5.v), (8, s9.v), (94, s7.v), (95, .int .i64 (y6.1.length : Int)), (96, .int .i64 (i29 : Int)), (144, .bool u38)]) (fun u38 g39 => Sat w0 (keys ([] : List Ent)) A [.row N28.R (SV.v s9) xg10, .ro (Lk N28 y8.1 xg10), .ro (RdS R44 (SV.v s5) y4.1), .ro (RdS R53 (SV.v s3) y2.1), .row R42 (SV.v s7) y6.1, .ro MaxT, .ro PowT, .ro UtfT]) (fun u38 g39 hq => ?_) (fun J cnk40 => ?_)
     ·have hm := Sum.fin_l hq hm
      refine cj_if (b := u38) rfl (fun hb => ?_) (fun hb => ?_)
      ·have hm := ifB_t hb hm
       refine cj_seq ?_
       refine cj_reg ?_
       refine lp rfl (p_as rfl) ?_
       refine lj_seq ?_
       have hm := hRk34 _ (Option.some.inj hm).symm
       obtain rfl := Option.some.inj hm
       exact cj_rt () [] Tryz.results3 (.tmp rfl .nil) rfl rfl
      ·have hm := ifB_f hb hm
       refine cj_skip ?_
       refine nj_blk ?_
       exact cnk34 _ _ () () (hJk34 _ (Option.some.inj hm).symm) ⟨rfl, rfl, rfl, rfl, rfl, rfl, rfl, trivial⟩ (fun _ h => h.picks [0, 0, 0, 0, 0, 0, 0, 0] rfl)
     ·have hm := hk40
      refine lp rfl (p_mv rfl) ?_
      refine lp rfl (p_neq rfl rfl) ?_
      refine lp rfl (p_mv rfl) ?_
      refine lcase (i := 111) (y37.2.2 != 0) rfl (fun hb => ?_) (fun hb => ?_)
      ·have hm := ifB_t hb hm
       refine ls false rfl rfl rfl rfl ?_
       refine ls false rfl rfl rfl rfl ?_
       refine ls false rfl rfl rfl rfl ?_
       refine ls false rfl rfl rfl rfl ?_
       refine ls false rfl rfl rfl rfl ?_
       refine ls false rfl rfl rfl rfl ?_
       refine lp rfl (p_pkt rfl rfl) ?_
       refine lp rfl (p_mv rfl) ?_
       refine ls false rfl rfl rfl rfl ?_
       refine ls false rfl rfl rfl rfl ?_
       refine ls false rfl rfl rfl rfl ?_
       refine ls false rfl rfl rfl rfl ?_
       refine ls false rfl rfl rfl rfl ?_
       refine ls false rfl rfl rfl rfl ?_
       refine ls false rfl rfl rfl rfl ?_
       refine ls false rfl rfl rfl rfl ?_
       refine ls false rfl rfl rfl rfl ?_
       refine ls false rfl rfl rfl rfl ?_
       refine lp rfl (p_pkt rfl rfl) ?_
       refine lp rfl (p_mv rfl) ?_
       refine ls false rfl rfl rfl rfl ?_
       refine ls false rfl rfl rfl rfl ?_
       refine lsu rfl rfl rfl rfl ?_
       refine lsu rfl rfl rfl rfl ?_
       refine lsu rfl rfl rfl rfl ?_
       refine lsu rfl rfl rfl rfl ?_
       refine lsu rfl rfl rfl rfl ?_
       refine lsu rfl rfl rfl rfl ?_
       refine lsu rfl rfl rfl rfl ?_
       refine lsu rfl rfl rfl rfl ?_
       refine lsu rfl rfl rfl rfl ?_
       refine ls false rfl rfl rfl rfl ?_
       refine lp rfl (p_pkt rfl rfl) ?_
       refine lj_nil ?_
       exact cnk40 _ _ true () (Option.some.inj hm).symm ⟨rfl, rfl, rfl, rfl, rfl, rfl, rfl, rfl, trivial⟩ (fun _ h => h.picks [1, 1, 1, 1, 1, 1, 1, 1] rfl)
      ·have hm := ifB_f hb hm
       refine lg false rfl rfl rfl ?_
       refine lp rfl (p_mv rfl) ?_
       refine lg false rfl rfl rfl ?_
       refine lp rfl (p_mv rfl) ?_
       refine lg false rfl rfl rfl ?_
       obtain ⟨e41, he41, hm⟩ := bindS hm
       obtain ⟨ge41, he41G⟩ := lk_getI hLs9 he41
       refine lp rfl (p_idx Tryz.underlying34 ty28 rfl rfl (.row 1 rfl) he41G) ?_
       refine lg false rfl rfl rfl ?_
       refine lp rfl (p_lde (o := 0) ty28 rfl rfl (.row 1 rfl) (getI_spec he41G).2 rfl) ?_
       refine lg false rfl rfl rfl ?_
       refine lp rfl (p_len Tryz.underlying28 rfl (.imp (.ro 2 rfl) (fun _ h => (Lk.at_ h (getI_spec he41G).2)))) ?_
       refine lg false rfl rfl rfl ?_
       refine lp rfl (p_eql rfl rfl) ?_
       refine lp rfl (p_pkf rfl rfl) ?_
       refine lp rfl (p_mv rfl) ?_
       refine lcase (i := 119) ((e41.length : Int) == 0) rfl (fun hb => ?_) (fun hb => ?_)
       ·have hm := ifB_t hb hm
        refine ls false rfl rfl rfl rfl ?_
        refine ls false rfl rfl rfl rfl ?_
        refine ls false rfl rfl rfl rfl ?_
        refine ls false rfl rfl rfl rfl ?_
        refine ls false rfl rfl rfl rfl ?_
        refine ls false rfl rfl rfl rfl ?_
        refine ls false rfl rfl rfl rfl ?_
        refine ls false rfl rfl rfl rfl ?_
        refine ls false rfl rfl rfl rfl ?_
        refine ls false rfl rfl rfl rfl ?_
        refine lp rfl (p_pkt rfl rfl) ?_
        refine lp rfl (p_mv rfl) ?_
        refine ls false rfl rfl rfl rfl ?_
        refine ls false rfl rfl rfl rfl ?_
        refine lsu rfl rfl rfl rfl ?_
        refine lsu rfl rfl rfl rfl ?_
        refine lsu rfl rfl rfl rfl ?_
        refine lsu rfl rfl rfl rfl ?_
        refine lsu rfl rfl rfl rfl ?_
        refine lsu rfl rfl rfl rfl ?_
        refine lsu rfl rfl rfl rfl ?_
        refine lsu rfl rfl rfl rfl ?_
        refine lsu rfl rfl rfl rfl ?_
        refine ls false rfl rfl rfl rfl ?_
        refine lp rfl (p_pkt rfl rfl) ?_
        refine lj_nil ?_
        exact cnk40 _ _ true () (Option.some.inj hm).symm ⟨rfl, rfl, rfl, rfl, rfl, rfl, rfl, rfl, trivial⟩ (fun _ h => h.picks [1, 1, 1, 1, 1, 1, 1, 1] rfl)
       ·have hm := ifB_f hb hm
        refine lg false rfl rfl rfl ?_
        refine lp rfl (p_mv rfl) ?_
        refine lg false rfl rfl rfl ?_
        refine lp rfl (p_mv rfl) ?_
        refine lg false rfl rfl rfl ?_
        refine lp rfl (p_mv rfl) ?_
        refine lg false rfl rfl rfl ?_
        obtain ⟨e42, he42, hm⟩ := bindS hm
        obtain ⟨ge42, he42G⟩ := lk_getI hLs9 he42
        refine lp rfl (p_idx Tryz.underlying34 ty28 rfl rfl (.row 1 rfl) he42G) ?_
        refine lg false rfl rfl rfl ?_
        refine lp rfl (p_lde (o := 0) ty28 rfl rfl (.row 1 rfl) (getI_spec he42G).2 rfl) ?_
        refine lg false rfl rfl rfl ?_
        obtain ⟨e43, he43, hm⟩ := bindS hm
        refine lp rfl (p_idx Tryz.underlying28 ty44 rfl rfl (.imp (.ro 2 rfl) (fun _ h => (Lk.at_ h (getI_spec he42G).2))) he43) ?_
        refine lg false rfl rfl rfl ?_
        refine lp rfl (p_fae fl44_0 rfl (.imp (.ro 2 rfl) (fun _ h => (Lk.at_ h (getI_spec he42G).2))) (getI_spec he43).2) ?_
        refine lg false rfl rfl rfl ?_
        refine lp rfl (p_lde (o := 0) ty3 rfl rfl (.imp (.ro 2 rfl) (fun _ h => (Lk.at_ h (getI_spec he42G).2))) (getI_spec he43).2 rfl) ?_
        refine lg false rfl rfl rfl ?_
        refine lp rfl (p_neq rfl rfl) ?_
        refine lg false rfl rfl rfl ?_
        refine lp rfl (p_neb Tryz.underlying4 rfl rfl) ?_
        refine lp rfl (p_pkf rfl rfl) ?_
        refine lp rfl (p_mv rfl) ?_
        refine lcase (i := 131) (!(y37.2.1 == (e43.Note != (-1)))) rfl (fun hb => ?_) (fun hb => ?_)
        ·have hm := ifB_t hb hm
         refine ls false rfl rfl rfl rfl ?_
         refine ls false rfl rfl rfl rfl ?_
         refine lsu rfl rfl rfl rfl ?_
         refine lsu rfl rfl rfl rfl ?_
         refine lsu rfl rfl rfl rfl ?_
         refine lsu rfl rfl rfl rfl ?_
         refine lsu rfl rfl rfl rfl ?_
         refine lsu rfl rfl rfl rfl ?_
         refine lsu rfl rfl rfl rfl ?_
         refine lsu rfl rfl rfl rfl ?_
         refine lsu rfl rfl rfl rfl ?_
         refine ls false rfl rfl rfl rfl ?_
         refine lp rfl (p_pkt rfl rfl) ?_
         refine lj_nil ?_
         exact cnk40 _ _ true () (Option.some.inj hm).symm ⟨rfl, rfl, rfl, rfl, rfl, rfl, rfl, rfl, trivial⟩ (fun _ h => h.picks [1, 1, 1, 1, 1, 1, 1, 1] rfl)
        ·have hm := ifB_f hb hm
         refine lg false rfl rfl rfl ?_
         refine lp rfl (p_mv rfl) ?_
         refine lg false rfl rfl rfl ?_
         refine lp rfl (p_mv rfl) ?_
         refine lcase (i := 133) y37.2.1 rfl (fun hb => ?_) (fun hb => ?_)
         ·have hm := ifB_t hb hm
          refine lg true rfl rfl rfl ?_
          refine lp rfl (p_mv rfl) ?_
          refine lg true rfl rfl rfl ?_
          refine lp rfl (p_mv rfl) ?_
          refine lg true rfl rfl rfl ?_
          refine lp rfl (p_mv rfl) ?_
          refine lg true rfl rfl rfl ?_
          obtain ⟨e44, he44, hm⟩ := bindS hm
          obtain ⟨ge44, he44G⟩ := lk_getI hLs9 he44
          refine lp rfl (p_idx Tryz.underlying34 ty28 rfl rfl (.row 1 rfl) he44G) ?_
          refine lg true rfl rfl rfl ?_
          refine lp rfl (p_lde (o := 0) ty28 rfl rfl (.row 1 rfl) (getI_spec he44G).2 rfl) ?_
          refine lg true rfl rfl rfl ?_
          obtain ⟨e45, he45, hm⟩ := bindS hm
          refine lp rfl (p_idx Tryz.underlying28 ty44 rfl rfl (.imp (.ro 2 rfl) (fun _ h => (Lk.at_ h (getI_spec he44G).2))) he45) ?_
          refine lg true rfl rfl rfl ?_
          refine lp rfl (p_fae fl44_0 rfl (.imp (.ro 2 rfl) (fun _ h => (Lk.at_ h (getI_spec he44G).2))) (getI_spec he45).2) ?_
          refine lg true rfl rfl rfl ?_
          refine lp rfl (p_lde (o := 0) ty3 rfl rfl (.imp (.ro 2 rfl) (fun _ h => (Lk.at_ h (getI_spec he44G).2))) (getI_spec he45).2 rfl) ?_
          refine lg true rfl rfl rfl ?_
          refine lp rfl (p_neq rfl rfl) ?_
          refine lg false rfl rfl rfl ?_
          refine lp rfl (p_pkt rfl rfl) ?_
          refine lp rfl (p_pkf rfl rfl) ?_
          refine lj_nil ?_
          exact cnk40 _ _ (y37.1 != e45.Note) () (Option.some.inj hm).symm ⟨rfl, rfl, rfl, rfl, rfl, rfl, rfl, rfl, trivial⟩ (fun _ h => h.picks [1, 1, 1, 1, 1, 1, 1, 1] rfl)
         ·have hm := ifB_f hb hm
          refine ls true rfl rfl rfl rfl ?_
          refine ls true rfl rfl rfl rfl ?_
          refine ls true rfl rfl rfl rfl ?_
          refine ls true rfl rfl rfl rfl ?_
          refine ls true rfl rfl rfl rfl ?_
          refine ls true rfl rfl rfl rfl ?_
          refine ls true rfl rfl rfl rfl ?_
          refine ls true rfl rfl rfl rfl ?_
          refine ls true rfl rfl rfl rfl ?_
          refine lg false rfl rfl rfl ?_
          refine lp rfl (p_pkf rfl rfl) ?_
          refine lp rfl (p_pkf rfl rfl) ?_
          refine lj_nil ?_
          exact cnk40 _ _ false () (Option.some.inj hm).symm ⟨rfl, rfl, rfl, rfl, rfl, rfl, rfl, rfl, trivial⟩ (fun _ h => h.picks [1, 1, 1, 1, 1, 1, 1, 1] rfl)
  ·have hm := hk25
   refine lp rfl (p_mv rfl) ?_
   refine lp rfl (p_mv rfl) ?_
   refine lp rfl (p_mv rfl) ?_
   refine lp rfl (p_mv rfl) ?_
   refine r_bs R31 [y6.2, y8.2, y11.2, y12.2] rfl rfl rfl (fun _ => by kernel_rfl) rfl (fun s26 => ?_)
   obtain ⟨y27, hy27, hm⟩ := bindS hm
   refine r_call [] cf11 rfl rfl (ok_gleekeep2_errs s26 [y6.2, y8.2, y11.2, y12.2] hy27) rfl rfl (.cons (.row 0 rfl) .nil) (fun _ => rfl) rfl (fun _ => ?_)
   refine lp rfl (p_neq rfl rfl) ?_
   refine lp rfl (p_mv rfl) ?_
   refine lcase (i := 73) (y27 != 0) rfl (fun hb => ?_) (fun hb => ?_)
   ·have hm := ifB_t hb hm
    refine ls false rfl rfl rfl rfl ?_
    refine ls false rfl rfl rfl rfl ?_
    refine ls false rfl rfl rfl rfl ?_
    refine ls false rfl rfl rfl rfl ?_
    refine ls false rfl rfl rfl rfl ?_
    refine lp rfl (p_pkt rfl rfl) ?_
    refine lp rfl (p_mv rfl) ?_
    refine ls false rfl rfl rfl rfl ?_
    refine ls false rfl rfl rfl rfl ?_
    refine ls false rfl rfl rfl rfl ?_
    refine ls false rfl rfl rfl rfl ?_
    refine ls false rfl rfl rfl rfl ?_
    refine lp rfl (p_pkt rfl rfl) ?_
    refine lp rfl (p_mv rfl) ?_
    refine ls false rfl rfl rfl rfl ?_
    refine ls false rfl rfl rfl rfl ?_
    refine ls false rfl rfl rfl rfl ?_
    refine ls false rfl rfl rfl rfl ?_
    refine ls false rfl rfl rfl rfl ?_
    refine lp rfl (p_pkt rfl rfl) ?_
    refine lj_nil ?_
    exact cnk25 _ _ true () (Option.some.inj hm).symm ⟨rfl, rfl, rfl, rfl, rfl, rfl, trivial⟩ (fun _ h => h.picks [2, 2, 2, 2, 2, 2, 2, 2] rfl)
   ·have hm := ifB_f hb hm
    refine lg false rfl rfl rfl ?_
    refine lp rfl (p_mv rfl) ?_
    refine lg false rfl rfl rfl ?_
    refine lp rfl (p_len Tryz.underlying30 rfl (.row 6 rfl)) ?_
    refine lg false rfl rfl rfl ?_
    refine lp rfl (p_mv rfl) ?_
    refine lg false rfl rfl rfl ?_
    refine lp rfl (p_len Tryz.underlying26 rfl (.ro 5 rfl)) ?_
    refine lg false rfl rfl rfl ?_
    refine lp rfl (p_neq rfl rfl) ?_
    refine lp rfl (p_pkf rfl rfl) ?_
    refine lp rfl (p_mv rfl) ?_
    refine lcase (i := 80) ((y6.1.length : Int) != (y2.1.length : Int)) rfl (fun hb => ?_) (fun hb => ?_)
    ·have hm := ifB_t hb hm
     refine ls false rfl rfl rfl rfl ?_
     refine ls false rfl rfl rfl rfl ?_
     refine ls false rfl rfl rfl rfl ?_
     refine ls false rfl rfl rfl rfl ?_
     refine ls false rfl rfl rfl rfl ?_
     refine lp rfl (p_pkt rfl rfl) ?_
     refine lp rfl (p_mv rfl) ?_
     refine ls false rfl rfl rfl rfl ?_
     refine ls false rfl rfl rfl rfl ?_
     refine ls false rfl rfl rfl rfl ?_
     refine ls false rfl rfl rfl rfl ?_
     refine ls false rfl rfl rfl rfl ?_
     refine lp rfl (p_pkt rfl rfl) ?_
     refine lj_nil ?_
     exact cnk25 _ _ true () (Option.some.inj hm).symm ⟨rfl, rfl, rfl, rfl, rfl, rfl, trivial⟩ (fun _ h => h.picks [2, 2, 2, 2, 2, 2, 2, 2] rfl)
    ·have hm := ifB_f hb hm
     refine lg false rfl rfl rfl ?_
     refine lp rfl (p_mv rfl) ?_
     refine lg false rfl rfl rfl ?_
     refine lp rfl (p_lenG hLs9 Tryz.underlying34 rfl (.row 2 rfl)) ?_
     refine lg false rfl rfl rfl ?_
     refine lp rfl (p_mv rfl) ?_
     refine lg false rfl rfl rfl ?_
     refine lp rfl (p_len Tryz.underlying26 rfl (.ro 5 rfl)) ?_
     refine lg false rfl rfl rfl ?_
     refine lp rfl (p_neq rfl rfl) ?_
     refine lp rfl (p_pkf rfl rfl) ?_
     refine lp rfl (p_mv rfl) ?_
     refine lcase (i := 87) ((y8.1.length : Int) != (y2.1.length : Int)) rfl (fun hb => ?_) (fun hb => ?_)
     ·have hm := ifB_t hb hm
      refine ls false rfl rfl rfl rfl ?_
      refine ls false rfl rfl rfl rfl ?_
      refine ls false rfl rfl rfl rfl ?_
      refine ls false rfl rfl rfl rfl ?_
      refine ls false rfl rfl rfl rfl ?_
      refine lp rfl (p_pkt rfl rfl) ?_
      refine lj_nil ?_
      exact cnk25 _ _ true () (Option.some.inj hm).symm ⟨rfl, rfl, rfl, rfl, rfl, rfl, trivial⟩ (fun _ h => h.picks [2, 2, 2, 2, 2, 2, 2, 2] rfl)
     ·have hm := ifB_f hb hm
      refine lg false rfl rfl rfl ?_
      refine lp rfl (p_mv rfl) ?_
      refine lg false rfl rfl rfl ?_
      obtain ⟨y28, hy28, hm⟩ := bindS hm
      refine r_call [] cf12 rfl rfl (ok_strings_ReplaceAll y11.1 (ByteArray.mk [32].toArray) ByteArray.empty hy28) rfl rfl (.cons (.ro 7 rfl) .nil) (fun _ => rfl) rfl (fun _ => ?_)
      refine lg false rfl rfl rfl ?_
      refine lp rfl (p_lens Tryz.underlying9 rfl) ?_
      refine lg false rfl rfl rfl ?_
      refine lp rfl (p_mv rfl) ?_
      refine lg false rfl rfl rfl ?_
      refine lp rfl (p_neq rfl rfl) ?_
      refine lp rfl (p_pkf rfl rfl) ?_
      refine lj_nil ?_
      exact cnk25 _ _ ((y28.size : Int) != u17) () (Option.some.inj hm).symm ⟨rfl, rfl, rfl, rfl, rfl, rfl, trivial⟩ (fun _ h => h.picks [2, 2, 2, 2, 2, 2, 2, 2] rfl)
 ·have hRk19 : ∀ t, k19 = .ret t → some t = some r := fun t e => by rw [hX t e] at hm; exact hm
  have hm := hs
  refine cj_seq ?_
  refine cj_reg ?_
  refine lp rfl (p_idx Tryz.underlying28 ty44 rfl rfl (.row 0 rfl) (getI_nat.trans hx16)) ?_
  refine lp rfl (p_lea ty44 rfl (.row 0 rfl) hx16) ?_
  refine r_al ty44 rfl (fun b21 => ?_)
  refine r_sb (vs := [.int .i64 x15.Note, .int .i64 x15.Long.Num, .int .i64 x15.Long.Den, .string x15.Text, .bool x15.Tied]) (j := 0) ty44 rfl rfl rfl rfl rfl rfl rfl ?_
  refine lj_seq ?_
  refine cj_reg ?_
  refine lp rfl (p_mv rfl) ?_
  refine lp rfl (p_fab fl44_2 rfl) ?_
  refine lp rfl (p_lbs ty9 rfl (j := 0) rfl rfl) ?_
  obtain ⟨y22, hy22, hm⟩ := bindS hm
  refine r_call [] cf10 rfl rfl (ok_strings_TrimSuffix x15.Text (ByteArray.mk [45].toArray) hy22) rfl rfl .nil (fun _ => rfl) rfl (fun _ => ?_)
  refine lp rfl (p_lens Tryz.underlying9 rfl) ?_
  refine lp rfl (p_add rfl rfl) ?_
  refine lp rfl (p_as rfl) ?_
  refine lj_nil ?_
  refine nj_blk ?_
  exact cnk19 _ _ (w64 (u17 + (y22.size : Int))) () (hJk19 _ (Option.some.inj hm).symm) ⟨rfl, rfl, rfl, rfl, rfl, rfl, rfl, rfl, rfl, rfl, rfl, rfl, rfl, rfl, trivial⟩ (fun _ h => h.picks [1, 1, 1, 1, 1, 1, 1, 1, 1] rfl)
end Go.Proofs.YtdeoejkgmeemaagGreatDoor
