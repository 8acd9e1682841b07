/- The walks. Written by program. -/
import Derived.Test.YtdeoejkgmeemaafGreatDoorW2
namespace Go.Proofs.YtdeoejkgmeemaafGreatDoor
open Go Go.J Go.G
set_option maxRecDepth 100000
set_option linter.unusedVariables false
set_option linter.unusedSimpArgs false
theorem ok_gleekeep2_ready  {r : Bool} (hm : m_gleekeep2_ready  = some r) :
  Ctr Tryz.prog 15 [].toArray ([] : List Ent) [PowT] (X := Unit) (fun _ => .bool r) (fun _ => []) := by
 unfold m_gleekeep2_ready at hm
 refine ctr_mk (vs := []) Tryz.func15 rfl Tryz.ntmps15 rfl trivial (fun w0 A => ?_)
 refine cj_seq ?_
 refine cj_reg ?_
 refine lp rfl (p_as rfl) ?_
 refine lj_seq ?_
 refine cj_seq ?_
 refine cj_reg ?_
 refine lp rfl (p_bld [.int .i64 1, .int .i64 4, .int .i64 2, .int .i64 0, .bool true] rfl (fun _ => by kernel_rfl)) ?_
 refine r_bs R51 [(TBar.mk 1 4 2 0 true)] rfl rfl rfl (fun _ => by kernel_rfl) rfl (fun s1 => ?_)
 obtain ⟨y2, hy2, hm⟩ := bindS hm
 refine r_call [] cf6 rfl rfl (ok_piece_Order s1 [(TBar.mk 1 4 2 0 true)] hy2) rfl rfl (.cons (.row 0 rfl) .nil) (fun _ => rfl) rfl (fun s3 => ?_)
 refine lp rfl (p_mv rfl) ?_
 refine lp rfl (p_ext rfl rfl) ?_
 refine lp rfl (p_ext rfl rfl) ?_
 refine lp rfl (p_as rfl) ?_
 refine lp rfl (p_as rfl) ?_
 refine lj_seq ?_
 refine cj_seq ?_
 refine cj_reg ?_
 refine lp rfl (p_bld [.int .i64 1, .int .i64 2, .int .i64 1] rfl (fun _ => by kernel_rfl)) ?_
 obtain ⟨y4, hy4, hm⟩ := bindS hm
 refine r_call [] cf31 rfl rfl (ok_chord_Name (TChord.mk 1 2 1) hy4) rfl rfl (.cons (.ro 2 rfl) .nil) (fun _ => rfl) rfl (fun _ => ?_)
 refine lp rfl (p_mv rfl) ?_
 refine lp rfl (p_ext rfl rfl) ?_
 refine lp rfl (p_ext rfl rfl) ?_
 refine lp rfl (p_as rfl) ?_
 refine lp rfl (p_as rfl) ?_
 refine lj_seq ?_
 refine cj_seq ?_
 refine cj_reg ?_
 refine lp rfl (p_bld [.int .i64 5, .string (ByteArray.mk [97, 110, 110].toArray), .bool false] rfl (fun _ => by kernel_rfl)) ?_
 refine r_bs R77 [(TCame.mk 5 (ByteArray.mk [97, 110, 110].toArray) false)] rfl rfl rfl (fun _ => by kernel_rfl) rfl (fun s5 => ?_)
 obtain ⟨y6, hy6, hm⟩ := bindS hm
 refine r_call [] cf32 rfl rfl (ok_rehearse_There s5 [(TCame.mk 5 (ByteArray.mk [97, 110, 110].toArray) false)] 6 hy6) rfl rfl (.cons (.row 0 rfl) .nil) (fun _ => rfl) rfl (fun s7 => ?_)
 refine lp rfl (p_mv rfl) ?_
 refine lp rfl (p_ext rfl rfl) ?_
 refine lp rfl (p_ext rfl rfl) ?_
 refine lp rfl (p_as rfl) ?_
 refine lp rfl (p_as rfl) ?_
 refine lj_seq ?_
 refine cj_seq ?_
 refine cj_reg ?_
 refine r_bs R9 [(ByteArray.mk [97, 108, 116, 111].toArray)] rfl rfl rfl (fun _ => by kernel_rfl) rfl (fun s8 => ?_)
 refine lp rfl (p_bld [.string (ByteArray.mk [97].toArray), .string (ByteArray.mk [112].toArray), .int .i64 7, s8.v] rfl (fun _ => by kernel_rfl)) ?_
 refine r_fz 0 rfl ?_
 refine r_fact (F := Lk N82 [(TItem.mk (ByteArray.mk [97].toArray) (ByteArray.mk [112].toArray) 7 [(ByteArray.mk [97, 108, 116, 111].toArray)])] [((TItem.mk (ByteArray.mk [97].toArray) (ByteArray.mk [112].toArray) 7 [(ByteArray.mk [97, 108, 116, 111].toArray)]), s8)]) (.imp (.and (.ro 0 rfl) (.nilL N82)) (fun _ h => Lk.cons h.1 h.2)) ?_
 have hLs9 : (([((TItem.mk (ByteArray.mk [97].toArray) (ByteArray.mk [112].toArray) 7 [(ByteArray.mk [97, 108, 116, 111].toArray)]), s8)] : List (TItem × SV)).map Prod.fst) = ([(TItem.mk (ByteArray.mk [97].toArray) (ByteArray.mk [112].toArray) 7 [(ByteArray.mk [97, 108, 116, 111].toArray)])] : List TItem) := rfl
 refine r_bs N82.R [((TItem.mk (ByteArray.mk [97].toArray) (ByteArray.mk [112].toArray) 7 [(ByteArray.mk [97, 108, 116, 111].toArray)]), s8)] rfl rfl rfl (fun _ => by kernel_rfl) rfl (fun s9 => ?_)
 refine lp rfl (p_bld [s9.v, .int .i64 0, .int .i64 0, .int .i64 0, .int .i64 (-1)] rfl (fun _ => by kernel_rfl)) ?_
 obtain ⟨y10, hy10, hm⟩ := bindS hm
 refine r_call [] cf33 rfl rfl (ok_concert_Long (TProgram.mk [(TItem.mk (ByteArray.mk [97].toArray) (ByteArray.mk [112].toArray) 7 [(ByteArray.mk [97, 108, 116, 111].toArray)])] 0 0 0 (-1)) s9 [((TItem.mk (ByteArray.mk [97].toArray) (ByteArray.mk [112].toArray) 7 [(ByteArray.mk [97, 108, 116, 111].toArray)]), s8)] hy10) rfl rfl (.cons (.ro 1 rfl) (.cons (.row 0 rfl) .nil)) (fun _ => rfl) rfl (fun _ => ?_)
 refine lp rfl (p_mv rfl) ?_
 refine lp rfl (p_ext rfl rfl) ?_
 refine lp rfl (p_ext rfl rfl) ?_
 refine lp rfl (p_as rfl) ?_
 refine lp rfl (p_as rfl) ?_
 refine lj_seq ?_
 refine cj_seq ?_
 refine cj_reg ?_
 refine lp rfl (p_bld [.string (ByteArray.mk [97].toArray), .int .i64 1, .int .i64 0, .int .i64 1, .string (ByteArray.mk [97, 110, 110].toArray), .string ByteArray.empty, .int .i64 0, .bool false, .string ByteArray.empty, .int .i64 0] rfl (fun _ => by kernel_rfl)) ?_
 refine r_bs R88 [(TAct.mk (ByteArray.mk [97].toArray) 1 0 1 (ByteArray.mk [97, 110, 110].toArray) ByteArray.empty 0 false ByteArray.empty 0)] rfl rfl rfl (fun _ => by kernel_rfl) rfl (fun s11 => ?_)
 obtain ⟨y12, hy12, hm⟩ := bindS hm
 refine r_call [] cf34 rfl rfl (ok_club_Members s11 [(TAct.mk (ByteArray.mk [97].toArray) 1 0 1 (ByteArray.mk [97, 110, 110].toArray) ByteArray.empty 0 false ByteArray.empty 0)] 0 hy12) rfl rfl (.cons (.row 0 rfl) .nil) (fun _ => rfl) rfl (fun s13 => ?_)
 refine lp rfl (p_mv rfl) ?_
 refine lp rfl (p_ext rfl rfl) ?_
 refine lp rfl (p_ext rfl rfl) ?_
 refine lp rfl (p_as rfl) ?_
 refine lp rfl (p_as rfl) ?_
 refine lj_seq ?_
 refine cj_seq ?_
 refine cj_reg ?_
 refine lp rfl (p_mv rfl) ?_
 refine lp rfl (p_mv rfl) ?_
 refine lp rfl (p_mv rfl) ?_
 refine lp rfl (p_mv rfl) ?_
 refine lp rfl (p_mv rfl) ?_
 refine r_bs R30 [y2.2, y4.2, y6.2, y10.2, y12.2] rfl rfl rfl (fun _ => by kernel_rfl) rfl (fun s14 => ?_)
 obtain ⟨y15, hy15, hm⟩ := bindS hm
 refine r_call [] cf11 rfl rfl (ok_gleekeep2_errs s14 [y2.2, y4.2, y6.2, y10.2, y12.2] hy15) rfl rfl (.cons (.row 0 rfl) .nil) (fun _ => rfl) rfl (fun _ => ?_)
 refine lp rfl (p_eql rfl rfl) ?_
 refine lp rfl (p_mv rfl) ?_
 refine lcase (i := 50) (y15 == 0) rfl (fun hb => ?_) (fun hb => ?_)
 ·have hm := ifB_t hb hm
  refine lg true rfl rfl rfl ?_
  refine lp rfl (p_mv rfl) ?_
  refine lg true rfl rfl rfl ?_
  refine lp rfl (p_len Tryz.underlying22 rfl (.row 8 rfl)) ?_
  refine lg true rfl rfl rfl ?_
  refine lp rfl (p_eql rfl rfl) ?_
  refine lp rfl (p_pkt rfl rfl) ?_
  refine lp rfl (p_mv rfl) ?_
  refine lcase (i := 55) ((y2.1.length : Int) == 2) rfl (fun hb => ?_) (fun hb => ?_)
  ·have hm := ifB_t hb hm
   refine lg true rfl rfl rfl ?_
   refine lp rfl (p_mv rfl) ?_
   refine lg true rfl rfl rfl ?_
   refine lp rfl (p_eqs rfl rfl) ?_
   refine lp rfl (p_pkt rfl rfl) ?_
   refine lp rfl (p_mv rfl) ?_
   refine lcase (i := 59) (y4.1.toList == (ByteArray.mk [99, 35, 32, 109, 105, 110, 47, 49].toArray).toList) rfl (fun hb => ?_) (fun hb => ?_)
   ·have hm := ifB_t hb hm
    refine lg true rfl rfl rfl ?_
    refine lp rfl (p_mv rfl) ?_
    refine lg true rfl rfl rfl ?_
    refine lp rfl (p_len Tryz.underlying73 rfl (.row 6 rfl)) ?_
    refine lg true rfl rfl rfl ?_
    refine lp rfl (p_eql rfl rfl) ?_
    refine lp rfl (p_pkt rfl rfl) ?_
    refine lp rfl (p_mv rfl) ?_
    refine lcase (i := 64) ((y6.1.length : Int) == 1) rfl (fun hb => ?_) (fun hb => ?_)
    ·have hm := ifB_t hb hm
     refine lg true rfl rfl rfl ?_
     refine lp rfl (p_mv rfl) ?_
     refine lg true rfl rfl rfl ?_
     refine lp rfl (p_eql rfl rfl) ?_
     refine lp rfl (p_pkt rfl rfl) ?_
     refine lp rfl (p_mv rfl) ?_
     refine lcase (i := 68) (y10.1 == 7) rfl (fun hb => ?_) (fun hb => ?_)
     ·have hm := ifB_t hb hm
      refine lg true rfl rfl rfl ?_
      refine lp rfl (p_mv rfl) ?_
      refine lg true rfl rfl rfl ?_
      refine lp rfl (p_len Tryz.underlying73 rfl (.row 1 rfl)) ?_
      refine lg true rfl rfl rfl ?_
      refine lp rfl (p_eql rfl rfl) ?_
      refine lp rfl (p_pkt rfl rfl) ?_
      refine lp rfl (p_as rfl) ?_
      refine lj_seq ?_
      obtain rfl := Option.some.inj hm
      exact cj_rt () [] Tryz.results15 (.tmp rfl .nil) rfl rfl
     ·have hm := ifB_f hb hm
      refine ls true rfl rfl rfl rfl ?_
      refine ls true rfl rfl rfl rfl ?_
      refine ls true rfl rfl rfl rfl ?_
      refine lp rfl (p_pkf rfl rfl) ?_
      refine lp rfl (p_as rfl) ?_
      refine lj_seq ?_
      obtain rfl := Option.some.inj hm
      exact cj_rt () [] Tryz.results15 (.tmp rfl .nil) rfl rfl
    ·have hm := ifB_f hb hm
     refine ls true rfl rfl rfl rfl ?_
     refine ls true rfl rfl rfl rfl ?_
     refine lp rfl (p_pkf rfl rfl) ?_
     refine lp rfl (p_mv rfl) ?_
     refine ls true rfl rfl rfl rfl ?_
     refine ls true rfl rfl rfl rfl ?_
     refine ls true rfl rfl rfl rfl ?_
     refine lp rfl (p_pkf rfl rfl) ?_
     refine lp rfl (p_as rfl) ?_
     refine lj_seq ?_
     obtain rfl := Option.some.inj hm
     exact cj_rt () [] Tryz.results15 (.tmp rfl .nil) rfl rfl
   ·have hm := ifB_f hb hm
    refine ls true rfl rfl rfl rfl ?_
    refine ls true rfl rfl rfl rfl ?_
    refine ls true rfl rfl rfl rfl ?_
    refine lp rfl (p_pkf rfl rfl) ?_
    refine lp rfl (p_mv rfl) ?_
    refine ls true rfl rfl rfl rfl ?_
    refine ls true rfl rfl rfl rfl ?_
    refine lp rfl (p_pkf rfl rfl) ?_
    refine lp rfl (p_mv rfl) ?_
    refine ls true rfl rfl rfl rfl ?_
    refine ls true rfl rfl rfl rfl ?_
    refine ls true rfl rfl rfl rfl ?_
    refine lp rfl (p_pkf rfl rfl) ?_
    refine lp rfl (p_as rfl) ?_
    refine lj_seq ?_
    obtain rfl := Option.some.inj hm
    exact cj_rt () [] Tryz.results15 (.tmp rfl .nil) rfl rfl
  ·have hm := ifB_f hb hm
   refine ls true rfl rfl rfl rfl ?_
   refine ls true rfl rfl rfl rfl ?_
   refine lp rfl (p_pkf rfl rfl) ?_
   refine lp rfl (p_mv rfl) ?_
   refine ls true rfl rfl rfl rfl ?_
   refine ls true rfl rfl rfl rfl ?_
   refine ls true rfl rfl rfl rfl ?_
   refine lp rfl (p_pkf rfl rfl) ?_
   refine lp rfl (p_mv rfl) ?_
   refine ls true rfl rfl rfl rfl ?_
   refine ls true rfl rfl rfl rfl ?_
   refine lp rfl (p_pkf rfl rfl) ?_
   refine lp rfl (p_mv rfl) ?_
   refine ls true rfl rfl rfl rfl ?_
   refine ls true rfl rfl rfl rfl ?_
   refine ls true rfl rfl rfl rfl ?_
   refine lp rfl (p_pkf rfl rfl) ?_
   refine lp rfl (p_as rfl) ?_
   refine lj_seq ?_
   obtain rfl := Option.some.inj hm
   exact cj_rt () [] Tryz.results15 (.tmp rfl .nil) rfl rfl
 ·have hm := ifB_f hb hm
  refine ls true rfl rfl rfl rfl ?_
  refine ls true rfl rfl rfl rfl ?_
  refine ls true rfl rfl rfl rfl ?_
  refine lp rfl (p_pkf rfl rfl) ?_
  refine lp rfl (p_mv rfl) ?_
  refine ls true rfl rfl rfl rfl ?_
  refine ls true rfl rfl rfl rfl ?_
  refine lp rfl (p_pkf rfl rfl) ?_
  refine lp rfl (p_mv rfl) ?_
  refine ls true rfl rfl rfl rfl ?_
  refine ls true rfl rfl rfl rfl ?_
  refine ls true rfl rfl rfl rfl ?_
  refine lp rfl (p_pkf rfl rfl) ?_
  refine lp rfl (p_mv rfl) ?_
  refine ls true rfl rfl rfl rfl ?_
  refine ls true rfl rfl rfl rfl ?_
  refine lp rfl (p_pkf rfl rfl) ?_
  refine lp rfl (p_mv rfl) ?_
  refine ls true rfl rfl rfl rfl ?_
  refine ls true rfl rfl rfl rfl ?_
  refine ls true rfl rfl rfl rfl ?_
  refine lp rfl (p_pkf rfl rfl) ?_
  refine lp rfl (p_as rfl) ?_
  refine lj_seq ?_
  obtain rfl := Option.some.inj hm
  exact cj_rt () [] Tryz.results15 (.tmp rfl .nil) rfl rfl
theorem ok_gleekeep2_PlayedLasts (s0_ : SV) (a0 : (List Int)) {r : Bool} (hm : m_gleekeep2_PlayedLasts a0 = some r) :
  Ctr Tryz.prog 3 [s0_.v].toArray ([] : List Ent) [RdS R3 (SV.v s0_) a0, PowT, UtfT] (X := Unit) (fun _ => .bool r) (fun _ => []) := by
 unfold m_gleekeep2_PlayedLasts at hm
 refine ctr_mk (vs := [(0, s0_.v)]) Tryz.func3 rfl Tryz.ntmps3 rfl ⟨rfl, trivial⟩ (fun w0 A => ?_)
 refine cj_seq ?_
 refine cj_reg ?_
 refine lp rfl (p_as rfl) ?_
 refine lj_seq ?_
 refine cj_seq ?_
 refine cj_reg ?_
 refine lp rfl (p_mv rfl) ?_
 refine lp rfl (p_bld [s0_.v, .int .i64 0] rfl (fun _ => by kernel_rfl)) ?_
 refine r_bx (cs := [s0_.v, .int .i64 0]) rfl rfl rfl (fun b1 => ?_)
 refine lp rfl (p_as rfl) ?_
 refine lj_seq ?_
 refine cj_seq ?_
 refine cj_reg ?_
 refine lp rfl (p_mv rfl) ?_
 obtain ⟨y2, hy2, hm⟩ := bindS hm
 refine r_call [0] cf4 rfl rfl (ok_gleemake_Stream_RightBars b1 s0_ a0 0 hy2) rfl rfl (.cons (.ro 0 rfl) .nil) (fun _ => rfl) rfl (fun s3 => ?_)
 refine lp rfl (p_as rfl) ?_
 refine lj_seq ?_
 refine cj_seq ?_
 refine cj_reg ?_
 refine lp rfl (p_mv rfl) ?_
 refine lp rfl (p_mv rfl) ?_
 obtain ⟨y4, hy4, hm⟩ := bindS hm
 refine r_call [1] cf5 rfl rfl (ok_gleemake_Stream_TonesFor b1 s0_ a0 y2.2 s3 y2.1 hy4) rfl rfl (.cons (.ro 1 rfl) (.cons (.row 0 rfl) .nil)) (fun _ => rfl) rfl (fun s5 => ?_)
 refine lp rfl (p_as rfl) ?_
 refine lj_seq ?_
 refine cj_seq ?_
 refine cj_reg ?_
 refine lp rfl (p_mv rfl) ?_
 obtain ⟨y6, hy6, hm⟩ := bindS hm
 refine r_call [] cf6 rfl rfl (ok_piece_Order s3 y2.1 hy6) rfl rfl (.cons (.row 2 rfl) .nil) (fun _ => rfl) rfl (fun s7 => ?_)
 refine lp rfl (p_mv rfl) ?_
 refine lp rfl (p_ext rfl rfl) ?_
 refine lp rfl (p_ext rfl rfl) ?_
 refine lp rfl (p_as rfl) ?_
 refine lp rfl (p_as rfl) ?_
 refine lj_seq ?_
 refine cj_seq ?_
 refine cj_reg ?_
 refine lp rfl (p_mv rfl) ?_
 obtain ⟨y8, hy8, hm⟩ := bindS hm
 refine r_call [] cf7 rfl rfl (ok_piece_Long s3 y2.1 hy8) rfl rfl (.cons (.row 3 rfl) .nil) (fun _ => rfl) rfl (fun _ => ?_)
 refine lp rfl (p_mv rfl) ?_
 refine lp rfl (p_ext rfl rfl) ?_
 refine lp rfl (p_ext rfl rfl) ?_
 refine r_al ty34 rfl (fun b9 => ?_)
 refine r_sb (vs := [.int .i64 y8.1.Num, .int .i64 y8.1.Den]) (j := 0) ty34 rfl rfl rfl rfl rfl rfl rfl ?_
 refine lp rfl (p_as rfl) ?_
 refine lj_seq ?_
 refine cj_seq ?_
 refine cj_reg ?_
 refine lp rfl (p_mv rfl) ?_
 refine lp rfl (p_mv rfl) ?_
 obtain ⟨y10, hy10, hm⟩ := bindS hm
 refine r_call [] cf8 rfl rfl (ok_piece_Played s3 y2.1 s5 y4.1 hy10) rfl rfl (.cons (.row 4 rfl) (.cons (.row 2 rfl) (.cons (.ro 7 rfl) .nil))) (fun _ => rfl) rfl (fun s11 => ?_)
 refine lp rfl (p_mv rfl) ?_
 refine lp rfl (p_ext rfl rfl) ?_
 refine lp rfl (p_ext rfl rfl) ?_
 refine lp rfl (p_as rfl) ?_
 refine lp rfl (p_as rfl) ?_
 refine lj_seq ?_
 refine cj_seq ?_
 refine cj_reg ?_
 refine lp rfl (p_mv rfl) ?_
 refine lp rfl (p_mv rfl) ?_
 refine r_fz 5 rfl ?_
 refine r_fz 4 rfl ?_
 obtain ⟨y12, hy12, hm⟩ := bindS hm
 refine r_callN [] cf9 rfl rfl (ok_piece_InBars s3 y2.1 s5 y4.1 hy12) rfl rfl (.cons (.ro 1 rfl) (.cons (.ro 0 rfl) (.cons (.ro 8 rfl) .nil))) rfl (fun ⟨s13, xg14⟩ => ?_)
 refine r_pure (F := Lk N28 y12.1 xg14) (.ro 1 rfl) (fun _ h => h.1) (fun hLs13 => ?_)
 refine lp rfl (p_mv rfl) ?_
 refine lp rfl (p_ext rfl rfl) ?_
 refine lp rfl (p_ext rfl rfl) ?_
 refine lp rfl (p_as rfl) ?_
 refine lp rfl (p_as rfl) ?_
 refine lj_seq ?_
 refine cj_seq ?_
 refine cj_reg ?_
 refine lp rfl (p_mv rfl) ?_
 refine lp rfl (p_mv rfl) ?_
 obtain ⟨y15, hy15, hm⟩ := bindS hm
 refine r_call [] cf10 rfl rfl (ok_piece_Joined s3 y2.1 s5 y4.1 hy15) rfl rfl (.cons (.ro 3 rfl) (.cons (.ro 2 rfl) (.cons (.ro 10 rfl) .nil))) (fun _ => rfl) rfl (fun s16 => ?_)
 refine lp rfl (p_mv rfl) ?_
 refine lp rfl (p_ext rfl rfl) ?_
 refine lp rfl (p_ext rfl rfl) ?_
 refine lp rfl (p_as rfl) ?_
 refine lp rfl (p_as rfl) ?_
 refine lj_seq ?_
 refine cj_seq ?_
 refine cj_seq ?_
 obtain ⟨k19, hk19, hm⟩ := bindS hm
 have hRk19 : ∀ t, k19 = .inr t → some t = some r := fun t e => by rw [e] at hm; exact hm
 refine cj_joinK (σ := Bool) (γ := Unit) (fun u17 => k19 = .inl u17) (fun u17 g18 => [(2, .bool false), (4, s3.v), (5, s5.v), (6, s7.v), (10, s11.v), (12, s13.v), (105, .bool u17)]) (fun u17 g18 => Sat w0 (keys ([] : List Ent)) A [.row N28.R (SV.v s13) xg14, .ro (Lk N28 y12.1 xg14), .ro (RdS R46 (SV.v s5) y4.1), .ro (RdS R51 (SV.v s3) y2.1), .row R46 (SV.v s11) y10.1, .row R3 (SV.v s7) y6.1, .ro PowT, .ro UtfT]) (fun u17 g18 hq => ?_) (fun J cnk19 => ?_)
 ·have hm := Sum.fin_l hq hm
  refine cj_if (b := u17) rfl (fun hb => ?_) (fun hb => ?_)
  ·have hm := ifB_t hb hm
   refine cj_seq ?_
   refine cj_reg ?_
   refine lp rfl (p_as rfl) ?_
   refine lj_seq ?_
   obtain rfl := Option.some.inj hm
   exact cj_rt () [] Tryz.results3 (.tmp rfl .nil) rfl rfl
  ·have hm := ifB_f hb hm
   refine cj_skip ?_
   refine nj_seq ?_
   refine cj_seq ?_
   refine cj_reg ?_
   refine lp rfl (p_as rfl) ?_
   refine lj_seq ?_
   refine cj_seq ?_
   refine cj_seq ?_
   refine cj_reg ?_
   refine lp rfl (p_mv rfl) ?_
   refine lp rfl (p_len Tryz.underlying22 rfl (.row 5 rfl)) ?_
   refine lp rfl (p_mv rfl) ?_
   refine lj_seq ?_
   obtain ⟨f34, hf34, hm⟩ := bindS hm
   refine cj_range (γ := Unit) (m := (y6.1.length : Int)) hf34 () (fun u31 g32 => [(2, .bool false), (4, s3.v), (5, s5.v), (10, s11.v), (12, s13.v), (16, .int .i64 u31), (106, s7.v)]) (fun u31 g32 => Sat w0 (keys ([] : List Ent)) A [.row N28.R (SV.v s13) xg14, .ro (Lk N28 y12.1 xg14), .ro (RdS R46 (SV.v s5) y4.1), .ro (RdS R51 (SV.v s3) y2.1), .row R46 (SV.v s11) y10.1, .row R3 (SV.v s7) y6.1, .ro PowT, .ro UtfT]) ⟨rfl, rfl, rfl, rfl, rfl, rfl, rfl, rfl, rfl, trivial⟩ (fun _ h => h.picks [0, 0, 0, 0, 0, 0, 0, 0] rfl) (nat_lt _) (fun _ h => (FactAt.get (F := RdS R3 (SV.v s7) y6.1) (.row 5 rfl) h).1) (fun _ _ => ⟨rfl, rfl, rfl, rfl⟩) ⟨rfl, rfl, rfl, rfl, rfl⟩ rfl rfl rfl (fun u31 g32 e => ?_) (fun aftk33 i28 x29 u31 g32 k33 hx30 hs J hJk33 hBk33 hX I cnk33 => ?_)
   ·have hm := Flow.fin_b e hm
    refine nj_seq ?_
    refine cj_seq ?_
    refine cj_reg ?_
    refine lp rfl (p_mv rfl) ?_
    obtain ⟨y39, hy39, hm⟩ := bindS hm
    refine r_call [] cf14 rfl rfl (ok_slices_Concat_api_Tone_api_Tone s13 xg14 y12.1 hy39) rfl rfl (.cons (.ro 1 rfl) (.cons (.row 0 rfl) .nil)) (fun _ => rfl) rfl (fun s40 => ?_)
    refine lp rfl (p_mv rfl) ?_
    obtain ⟨y41, hy41, hm⟩ := bindS hm
    refine r_call [] cf13 rfl rfl (ok_slices_Equal_api_Tone_api_Tone s40 y39 s5 y4.1 hy41) rfl rfl (.cons (.row 0 rfl) (.cons (.ro 3 rfl) .nil)) (fun _ => rfl) rfl (fun _ => ?_)
    refine lp rfl (p_mv rfl) ?_
    refine lcase (i := 132) y41 rfl (fun hb => ?_) (fun hb => ?_)
    ·have hm := ifB_t hb hm
     refine lg true rfl rfl rfl ?_
     refine lp rfl (p_mv rfl) ?_
     refine lg true rfl rfl rfl ?_
     refine lp rfl (p_mv rfl) ?_
     refine lg true rfl rfl rfl ?_
     refine lp rfl (p_len Tryz.underlying28 rfl (.row 5 rfl)) ?_
     refine lg true rfl rfl rfl ?_
     refine lp rfl (p_eql rfl rfl) ?_
     refine lp rfl (p_pkt rfl rfl) ?_
     refine lp rfl (p_mv rfl) ?_
     refine lcase (i := 138) (u31 == (y10.1.length : Int)) rfl (fun hb => ?_) (fun hb => ?_)
     ·have hm := ifB_t hb hm
      refine lg true rfl rfl rfl ?_
      obtain ⟨y42, hy42, hm⟩ := bindS hm
      refine r_call [] cf15 rfl rfl (ok_gleekeep2_ready  hy42) rfl rfl (.cons (.ro 7 rfl) .nil) (fun _ => rfl) rfl (fun _ => ?_)
      refine lp rfl (p_pkt rfl rfl) ?_
      refine lp rfl (p_as rfl) ?_
      refine lj_seq ?_
      obtain rfl := Option.some.inj hm
      exact cj_rt () [] Tryz.results3 (.tmp rfl .nil) rfl rfl
     ·have hm := ifB_f hb hm
      refine ls true rfl rfl rfl rfl ?_
      refine lp rfl (p_pkf rfl rfl) ?_
      refine lp rfl (p_as rfl) ?_
      refine lj_seq ?_
      obtain rfl := Option.some.inj hm
      exact cj_rt () [] Tryz.results3 (.tmp rfl .nil) rfl rfl
    ·have hm := ifB_f hb hm
     refine ls true rfl rfl rfl rfl ?_
     refine ls true rfl rfl rfl rfl ?_
     refine ls true rfl rfl rfl rfl ?_
     refine ls true rfl rfl rfl rfl ?_
     refine lp rfl (p_pkf rfl rfl) ?_
     refine lp rfl (p_mv rfl) ?_
     refine ls true rfl rfl rfl rfl ?_
     refine lp rfl (p_pkf rfl rfl) ?_
     refine lp rfl (p_as rfl) ?_
     refine lj_seq ?_
     obtain rfl := Option.some.inj hm
     exact cj_rt () [] Tryz.results3 (.tmp rfl .nil) rfl rfl
   ·have hRk33 : ∀ t, k33 = .ret t → some t = some r := fun t e => by rw [hX t e] at hm; exact hm
    have hm := hs
    refine cj_seq ?_
    refine cj_reg ?_
    refine lp rfl (p_idx Tryz.underlying22 ty3 rfl rfl (.row 5 rfl) (getI_nat.trans hx30)) ?_
    refine lp rfl (p_lde (o := 0) ty3 rfl rfl (.row 5 rfl) hx30 rfl) ?_
    refine lp rfl (p_as rfl) ?_
    refine lj_seq ?_
    refine cj_seq ?_
    refine cj_seq ?_
    refine cj_reg ?_
    obtain ⟨k37, hk37, hm⟩ := bindS hm
    have hRk37 : ∀ t, k37 = .inr t → some t = some k33 := fun t e => by rw [e] at hm; exact hm
    refine lj_join (σ := Bool) (γ := Unit) (fun u35 => k37 = .inl u35) (fun u35 g36 => [(2, .bool false), (4, s3.v), (5, s5.v), (10, s11.v), (12, s13.v), (16, .int .i64 u31), (18, .int .i64 x29), (106, s7.v), (107, .int .i64 (y6.1.length : Int)), (108, .int .i64 (i28 : Int)), (119, .bool u35)]) (fun u35 g36 => Sat w0 (keys ([] : List Ent)) A [.row N28.R (SV.v s13) xg14, .ro (Lk N28 y12.1 xg14), .ro (RdS R46 (SV.v s5) y4.1), .ro (RdS R51 (SV.v s3) y2.1), .row R46 (SV.v s11) y10.1, .row R3 (SV.v s7) y6.1, .ro PowT, .ro UtfT]) (fun u35 g36 hq => ?_) (fun J cnk37 => ?_)
    ·have hm := Sum.fin_l hq hm
     refine cj_if (b := u35) rfl (fun hb => ?_) (fun hb => ?_)
     ·have hm := ifB_t hb hm
      refine cj_seq ?_
      refine cj_reg ?_
      refine lp rfl (p_as rfl) ?_
      refine lj_seq ?_
      have hm := hRk33 _ (Option.some.inj hm).symm
      obtain rfl := Option.some.inj hm
      exact cj_rt () [] Tryz.results3 (.tmp rfl .nil) rfl rfl
     ·have hm := ifB_f hb hm
      refine cj_skip ?_
      refine nj_seq ?_
      refine cj_reg ?_
      refine lp rfl (p_mv rfl) ?_
      refine lp rfl (p_mv rfl) ?_
      refine lp rfl (p_mv rfl) ?_
      obtain ⟨e38, he38, hm⟩ := bindS hm
      obtain ⟨ge38, he38G⟩ := lk_getI hLs13 he38
      refine lp rfl (p_idx Tryz.underlying39 ty28 rfl rfl (.row 0 rfl) he38G) ?_
      refine lp rfl (p_lde (o := 0) ty28 rfl rfl (.row 0 rfl) (getI_spec he38G).2 rfl) ?_
      refine lp rfl (p_len Tryz.underlying28 rfl (.imp (.ro 1 rfl) (fun _ h => (Lk.at_ h (getI_spec he38G).2)))) ?_
      refine lp rfl (p_add rfl rfl) ?_
      refine lp rfl (p_as rfl) ?_
      refine lj_nil ?_
      refine nj_blk ?_
      exact cnk33 _ _ (w64 (u31 + (e38.length : Int))) () (hJk33 _ (Option.some.inj hm).symm) ⟨rfl, rfl, rfl, rfl, rfl, rfl, rfl, rfl, rfl, trivial⟩ (fun _ h => h.picks [0, 0, 0, 0, 0, 0, 0, 0] rfl)
    ·have hm := hk37
     refine lp rfl (p_mv rfl) ?_
     refine lp rfl (p_lss rfl rfl) ?_
     refine lp rfl (p_mv rfl) ?_
     refine lcase (i := 114) (decide (x29 < 0)) rfl (fun hb => ?_) (fun hb => ?_)
     ·have hm := ifB_t hb hm
      refine ls false rfl rfl rfl rfl ?_
      refine ls false rfl rfl rfl rfl ?_
      refine ls false rfl rfl rfl rfl ?_
      refine ls false rfl rfl rfl rfl ?_
      refine lp rfl (p_pkt rfl rfl) ?_
      refine lj_nil ?_
      exact cnk37 _ _ true () (Option.some.inj hm).symm ⟨rfl, rfl, rfl, rfl, rfl, rfl, rfl, rfl, rfl, rfl, rfl, trivial⟩ (fun _ h => h.picks [0, 0, 0, 0, 0, 0, 0, 0] rfl)
     ·have hm := ifB_f hb hm
      refine lg false rfl rfl rfl ?_
      refine lp rfl (p_mv rfl) ?_
      refine lg false rfl rfl rfl ?_
      refine lp rfl (p_mv rfl) ?_
      refine lg false rfl rfl rfl ?_
      refine lp rfl (p_len Tryz.underlying26 rfl (.ro 3 rfl)) ?_
      refine lg false rfl rfl rfl ?_
      refine lp rfl (p_geq rfl rfl) ?_
      refine lp rfl (p_pkf rfl rfl) ?_
      refine lj_nil ?_
      exact cnk37 _ _ (decide (x29 ≥ (y2.1.length : Int))) () (Option.some.inj hm).symm ⟨rfl, rfl, rfl, rfl, rfl, rfl, rfl, rfl, rfl, rfl, rfl, trivial⟩ (fun _ h => h.picks [0, 0, 0, 0, 0, 0, 0, 0] rfl)
 ·have hm := hk19
  obtain ⟨y21, hy21, hm⟩ := bindS hm
  refine cj_anyT [0, 1, 2, 3, 4, 7, 8, 9, 10, 11, 13, 14, 15, 16, 17, 19, 20, 21, 22, 23, 24, 26, 27, 29, 30, 31, 32, 33, 34, 35, 37, 38, 40, 42, 44, 45, 46, 47, 48, 49] [] (Sat w0 (keys ([] : List Ent)) A [.row R46 (SV.v s16) y15.1, .row N28.R (SV.v s13) xg14, .ro (Lk N28 y12.1 xg14), .ro (RdS R46 (SV.v s5) y4.1), .ro (RdS R51 (SV.v s3) y2.1), .row R46 (SV.v s11) y10.1, .box b9 34 [.int .i64 y8.1.Num, .int .i64 y8.1.Den], .row R3 (SV.v s7) y6.1, .box b1 25 [s0_.v, .int .i64 y4.2], .ro (RdS R3 (SV.v s0_) a0), .ro PowT, .ro UtfT]) (Sat w0 (keys ([] : List Ent)) A [.row R46 (SV.v s16) y15.1, .row N28.R (SV.v s13) xg14, .ro (Lk N28 y12.1 xg14), .ro (RdS R46 (SV.v s5) y4.1), .ro (RdS R51 (SV.v s3) y2.1), .row R46 (SV.v s11) y10.1, .box b9 34 [.int .i64 y8.1.Num, .int .i64 y8.1.Den], .row R3 (SV.v s7) y6.1, .box b1 25 [s0_.v, .int .i64 y4.2], .ro (RdS R3 (SV.v s0_) a0), .ro PowT, .ro UtfT]) (by kernel_rfl) ?_
  refine at_take2 0 rfl (by kernel_rfl) (by kernel_rfl) (by kernel_rfl) (fun _ h => h.picks [0, 0, 0, 0, 0, 0, 0, 0, 0, 0, 0, 0] rfl) rfl rfl (p_mv rfl) (fun _ h => h.picks [0, 0, 0, 0, 0, 0, 0, 0, 0, 0, 0, 0] rfl) ?_
  refine at_take2 1 rfl (by kernel_rfl) (by kernel_rfl) (by kernel_rfl) (fun _ h => h.picks [0, 0, 0, 0, 0, 0, 0, 0, 0, 0, 0, 0] rfl) rfl rfl (p_mv rfl) (fun _ h => h.picks [0, 0, 0, 0, 0, 0, 0, 0, 0, 0, 0, 0] rfl) ?_
  refine at_take2 2 rfl (by kernel_rfl) (by kernel_rfl) (by kernel_rfl) (fun _ h => h.picks [0, 0, 0, 0, 0, 0, 0, 0, 0, 0, 0, 0] rfl) rfl rfl (p_mv rfl) (fun _ h => h.picks [0, 0, 0, 0, 0, 0, 0, 0, 0, 0, 0, 0] rfl) ?_
  refine at_take2 3 rfl (by kernel_rfl) (by kernel_rfl) (by kernel_rfl) (fun _ h => h.picks [0, 0, 0, 0, 0, 0, 0, 0, 0, 0, 0, 0] rfl) rfl rfl (p_mv rfl) (fun _ h => h.picks [0, 0, 0, 0, 0, 0, 0, 0, 0, 0, 0, 0] rfl) ?_
  refine at_take2 4 rfl (by kernel_rfl) (by kernel_rfl) (by kernel_rfl) (fun _ h => h.picks [0, 0, 0, 0, 0, 0, 0, 0, 0, 0, 0, 0] rfl) rfl rfl (p_mv rfl) (fun _ h => h.picks [0, 0, 0, 0, 0, 0, 0, 0, 0, 0, 0, 0] rfl) ?_
  refine at_each (rs := [5]) (by kernel_rfl) (by decide) ?_
  refine (.cons rfl (fun I cnI => ?_) .nil)
  ·refine r_bs R30 [y6.2, y8.2, y10.2, y12.2, y15.2] rfl rfl rfl (fun _ => by kernel_rfl) rfl (fun s27 => ?_)
   refine lj_nil ?_
   refine cnI _ _ (sof1 rfl rfl (fun _ h => h.picks [1, 1, 1, 1, 1, 1, 1, 1, 1, 1, 1, 1] rfl)) ?_
   refine at_each (rs := [6]) (by kernel_rfl) (by decide) ?_
   refine (.cons rfl (fun I cnI => ?_) .nil)
   ·refine r_call [] cf11 rfl rfl (ok_gleekeep2_errs s27 [y6.2, y8.2, y10.2, y12.2, y15.2] hy21) rfl rfl (.cons (.row 0 rfl) .nil) (fun _ => rfl) rfl (fun _ => ?_)
    refine lj_nil ?_
    refine cnI _ _ (sof1 rfl rfl (fun _ h => h.picks [1, 1, 1, 1, 1, 1, 1, 1, 1, 1, 1, 1] rfl)) ?_
    refine at_take2 7 rfl (by kernel_rfl) (by kernel_rfl) (by kernel_rfl) (fun _ h => h.picks [0, 0, 0, 0, 0, 0, 0, 0, 0, 0, 0, 0] rfl) rfl rfl (p_neq rfl rfl) (fun _ h => h.picks [1, 1, 1, 1, 1, 1, 1, 1, 1, 1, 1, 1] rfl) ?_
    refine at_take2 8 rfl (by kernel_rfl) (by kernel_rfl) (by kernel_rfl) (fun _ h => h.picks [0, 0, 0, 0, 0, 0, 0, 0, 0, 0, 0, 0] rfl) rfl rfl (p_mv rfl) (fun _ h => h.picks [1, 1, 1, 1, 1, 1, 1, 1, 1, 1, 1, 1] rfl) ?_
    refine at_case (i := 63) (y21 != 0) rfl (fun hb => ?_) (fun hb => ?_)
    ·have hm := ifB_t hb hm
     refine at_skip 9 rfl rfl rfl rfl (by kernel_rfl) (by kernel_rfl) (by kernel_rfl) rfl rfl ?_
     refine at_skip 10 rfl rfl rfl rfl (by kernel_rfl) (by kernel_rfl) (by kernel_rfl) rfl rfl ?_
     refine at_skip 11 rfl rfl rfl rfl (by kernel_rfl) (by kernel_rfl) (by kernel_rfl) rfl rfl ?_
     refine at_each (rs := [12]) (by kernel_rfl) (by decide) ?_
     refine (.cons rfl (fun I cnI => ?_) .nil)
     ·refine lp rfl (p_pkt rfl rfl) ?_
      refine lj_nil ?_
      refine cnI _ _ (sof1 rfl rfl (fun _ h => h.picks [1, 1, 1, 1, 1, 1, 1, 1, 1, 1, 1, 1] rfl)) ?_
      refine at_take2 13 rfl (by kernel_rfl) (by kernel_rfl) (by kernel_rfl) (fun _ h => h.picks [0, 0, 0, 0, 0, 0, 0, 0, 0, 0, 0, 0] rfl) rfl rfl (p_mv rfl) (fun _ h => h.picks [1, 1, 1, 1, 1, 1, 1, 1, 1, 1, 1, 1] rfl) ?_
      refine at_skip 14 rfl rfl rfl rfl (by kernel_rfl) (by kernel_rfl) (by kernel_rfl) rfl rfl ?_
      refine at_skip 15 rfl rfl rfl rfl (by kernel_rfl) (by kernel_rfl) (by kernel_rfl) rfl rfl ?_
      refine at_skip 16 rfl rfl rfl rfl (by kernel_rfl) (by kernel_rfl) (by kernel_rfl) rfl rfl ?_
      refine at_skip 17 rfl rfl rfl rfl (by kernel_rfl) (by kernel_rfl) (by kernel_rfl) rfl rfl ?_
      refine at_each (rs := [18]) (by kernel_rfl) (by decide) ?_
      refine (.cons rfl (fun I cnI => ?_) .nil)
      ·refine lp rfl (p_pkt rfl rfl) ?_
       refine lj_nil ?_
       refine cnI _ _ (sof1 rfl rfl (fun _ h => h.picks [1, 1, 1, 1, 1, 1, 1, 1, 1, 1, 1, 1] rfl)) ?_
       refine at_take2 19 rfl (by kernel_rfl) (by kernel_rfl) (by kernel_rfl) (fun _ h => h.picks [0, 0, 0, 0, 0, 0, 0, 0, 0, 0, 0, 0] rfl) rfl rfl (p_mv rfl) (fun _ h => h.picks [1, 1, 1, 1, 1, 1, 1, 1, 1, 1, 1, 1] rfl) ?_
       refine at_skip 20 rfl rfl rfl rfl (by kernel_rfl) (by kernel_rfl) (by kernel_rfl) rfl rfl ?_
       refine at_skip 21 rfl rfl rfl rfl (by kernel_rfl) (by kernel_rfl) (by kernel_rfl) rfl rfl ?_
       refine at_skip 22 rfl rfl rfl rfl (by kernel_rfl) (by kernel_rfl) (by kernel_rfl) rfl rfl ?_
       refine at_skip 23 rfl rfl rfl rfl (by kernel_rfl) (by kernel_rfl) (by kernel_rfl) rfl rfl ?_
       refine at_skip 24 rfl rfl rfl rfl (by kernel_rfl) (by kernel_rfl) (by kernel_rfl) rfl rfl ?_
       refine at_each (rs := [25]) (by kernel_rfl) (by decide) ?_
       refine (.cons rfl (fun I cnI => ?_) .nil)
       ·refine lp rfl (p_pkt rfl rfl) ?_
        refine lj_nil ?_
        refine cnI _ _ (sof1 rfl rfl (fun _ h => h.picks [1, 1, 1, 1, 1, 1, 1, 1, 1, 1, 1, 1] rfl)) ?_
        refine at_take2 26 rfl (by kernel_rfl) (by kernel_rfl) (by kernel_rfl) (fun _ h => h.picks [0, 0, 0, 0, 0, 0, 0, 0, 0, 0, 0, 0] rfl) rfl rfl (p_mv rfl) (fun _ h => h.picks [1, 1, 1, 1, 1, 1, 1, 1, 1, 1, 1, 1] rfl) ?_
        refine at_skip 27 rfl rfl rfl rfl (by kernel_rfl) (by kernel_rfl) (by kernel_rfl) rfl rfl ?_
        refine at_skip 29 rfl rfl rfl rfl (by kernel_rfl) (by kernel_rfl) (by kernel_rfl) rfl rfl ?_
        refine at_skip 30 rfl rfl rfl rfl (by kernel_rfl) (by kernel_rfl) (by kernel_rfl) rfl rfl ?_
        refine at_skip 31 rfl rfl rfl rfl (by kernel_rfl) (by kernel_rfl) (by kernel_rfl) rfl rfl ?_
        refine at_skip 32 rfl rfl rfl rfl (by kernel_rfl) (by kernel_rfl) (by kernel_rfl) rfl rfl ?_
        refine at_skip 33 rfl rfl rfl rfl (by kernel_rfl) (by kernel_rfl) (by kernel_rfl) rfl rfl ?_
        refine at_skip 34 rfl rfl rfl rfl (by kernel_rfl) (by kernel_rfl) (by kernel_rfl) rfl rfl ?_
        refine at_each (rs := [28]) (by kernel_rfl) (by decide) ?_
        refine (.cons rfl (fun I cnI => ?_) .nil)
        ·refine ls false rfl rfl rfl rfl ?_
         refine lj_nil ?_
         refine cnI _ _ (sof1 rfl rfl (fun _ h => h.picks [1, 1, 1, 1, 1, 1, 1, 1, 1, 1, 1, 1] rfl)) ?_
         refine at_skip 35 rfl rfl rfl rfl (by kernel_rfl) (by kernel_rfl) (by kernel_rfl) rfl rfl ?_
         refine at_each (rs := [36]) (by kernel_rfl) (by decide) ?_
         refine (.cons rfl (fun I cnI => ?_) .nil)
         ·refine lp rfl (p_pkt rfl rfl) ?_
          refine lj_nil ?_
          refine cnI _ _ (sof1 rfl rfl (fun _ h => h.picks [1, 1, 1, 1, 1, 1, 1, 1, 1, 1, 1, 1] rfl)) ?_
          refine at_take2 37 rfl (by kernel_rfl) (by kernel_rfl) (by kernel_rfl) (fun _ h => h.picks [0, 0, 0, 0, 0, 0, 0, 0, 0, 0, 0, 0] rfl) rfl rfl (p_mv rfl) (fun _ h => h.picks [1, 1, 1, 1, 1, 1, 1, 1, 1, 1, 1, 1] rfl) ?_
          refine at_skip 38 rfl rfl rfl rfl (by kernel_rfl) (by kernel_rfl) (by kernel_rfl) rfl rfl ?_
          refine at_skip 40 rfl rfl rfl rfl (by kernel_rfl) (by kernel_rfl) (by kernel_rfl) rfl rfl ?_
          refine at_each (rs := [39]) (by kernel_rfl) (by decide) ?_
          refine (.cons rfl (fun I cnI => ?_) .nil)
          ·refine ls false rfl rfl rfl rfl ?_
           refine lj_nil ?_
           refine cnI _ _ (sof1 rfl rfl (fun _ h => h.picks [1, 1, 1, 1, 1, 1, 1, 1, 1, 1, 1, 1] rfl)) ?_
           refine at_each (rs := [41]) (by kernel_rfl) (by decide) ?_
           refine (.cons rfl (fun I cnI => ?_) .nil)
           ·refine ls false rfl rfl rfl rfl ?_
            refine lj_nil ?_
            refine cnI _ _ (sof1 rfl rfl (fun _ h => h.picks [1, 1, 1, 1, 1, 1, 1, 1, 1, 1, 1, 1] rfl)) ?_
            refine at_skip 42 rfl rfl rfl rfl (by kernel_rfl) (by kernel_rfl) (by kernel_rfl) rfl rfl ?_
            refine at_each (rs := [43]) (by kernel_rfl) (by decide) ?_
            refine (.cons rfl (fun I cnI => ?_) .nil)
            ·refine lp rfl (p_pkt rfl rfl) ?_
             refine lj_nil ?_
             refine cnI _ _ (sof1 rfl rfl (fun _ h => h.picks [1, 1, 1, 1, 1, 1, 1, 1, 1, 1, 1, 1] rfl)) ?_
             refine at_take2 44 rfl (by kernel_rfl) (by kernel_rfl) (by kernel_rfl) (fun _ h => h.picks [0, 0, 0, 0, 0, 0, 0, 0, 0, 0, 0, 0] rfl) rfl rfl (p_mv rfl) (fun _ h => h.picks [1, 1, 1, 1, 1, 1, 1, 1, 1, 1, 1, 1] rfl) ?_
             refine at_skip 45 rfl rfl rfl rfl (by kernel_rfl) (by kernel_rfl) (by kernel_rfl) rfl rfl ?_
             refine at_skip 46 rfl rfl rfl rfl (by kernel_rfl) (by kernel_rfl) (by kernel_rfl) rfl rfl ?_
             refine at_skip 47 rfl rfl rfl rfl (by kernel_rfl) (by kernel_rfl) (by kernel_rfl) rfl rfl ?_
             refine at_skip 48 rfl rfl rfl rfl (by kernel_rfl) (by kernel_rfl) (by kernel_rfl) rfl rfl ?_
             refine at_skip 49 rfl rfl rfl rfl (by kernel_rfl) (by kernel_rfl) (by kernel_rfl) rfl rfl ?_
             refine at_each (rs := [50]) (by kernel_rfl) (by decide) ?_
             refine (.cons rfl (fun I cnI => ?_) .nil)
             ·refine lp rfl (p_pkt rfl rfl) ?_
              refine lj_nil ?_
              refine cnI _ _ (sof1 rfl rfl (fun _ h => h.picks [1, 1, 1, 1, 1, 1, 1, 1, 1, 1, 1, 1] rfl)) ?_
              refine at_done (by kernel_rfl) ?_
              exact cnk19 _ _ true () (Option.some.inj hm).symm ⟨rfl, rfl, rfl, rfl, rfl, rfl, rfl, trivial⟩ (fun _ h => h.picks [2, 2, 2, 2, 2, 3, 5, 5] rfl)
    ·have hm := ifB_f hb hm
     refine at_take2g 9 rfl rfl rfl rfl (by kernel_rfl) (by kernel_rfl) (by kernel_rfl) (fun _ h => h.picks [0, 0, 0, 0, 0, 0, 0, 0, 0, 0, 0, 0] rfl) rfl rfl (p_fab fl34_1 rfl) (fun _ h => h.picks [1, 1, 1, 1, 1, 1, 1, 1, 1, 1, 1, 1] rfl) ?_
     refine at_take2g 10 rfl rfl rfl rfl (by kernel_rfl) (by kernel_rfl) (by kernel_rfl) (fun _ h => h.picks [0, 0, 0, 0, 0, 0, 0, 0, 0, 0, 0, 0] rfl) rfl rfl (p_lbs ty3 rfl (j := 6) rfl rfl) (fun _ h => h.picks [1, 1, 1, 1, 1, 1, 1, 1, 1, 1, 1, 1] rfl) ?_
     refine at_take2g 11 rfl rfl rfl rfl (by kernel_rfl) (by kernel_rfl) (by kernel_rfl) (fun _ h => h.picks [0, 0, 0, 0, 0, 0, 0, 0, 0, 0, 0, 0] rfl) rfl rfl (p_lss rfl rfl) (fun _ h => h.picks [1, 1, 1, 1, 1, 1, 1, 1, 1, 1, 1, 1] rfl) ?_
     refine at_each (rs := [12]) (by kernel_rfl) (by decide) ?_
     refine (.cons rfl (fun I cnI => ?_) .nil)
     ·refine lp rfl (p_pkf rfl rfl) ?_
      refine lj_nil ?_
      refine cnI _ _ (sof1 rfl rfl (fun _ h => h.picks [1, 1, 1, 1, 1, 1, 1, 1, 1, 1, 1, 1] rfl)) ?_
      refine at_take2 13 rfl (by kernel_rfl) (by kernel_rfl) (by kernel_rfl) (fun _ h => h.picks [0, 0, 0, 0, 0, 0, 0, 0, 0, 0, 0, 0] rfl) rfl rfl (p_mv rfl) (fun _ h => h.picks [1, 1, 1, 1, 1, 1, 1, 1, 1, 1, 1, 1] rfl) ?_
      refine at_case (i := 68) (decide (y8.1.Den < 1)) rfl (fun hb => ?_) (fun hb => ?_)
      ·have hm := ifB_t hb hm
       refine at_skip 14 rfl rfl rfl rfl (by kernel_rfl) (by kernel_rfl) (by kernel_rfl) rfl rfl ?_
       refine at_skip 15 rfl rfl rfl rfl (by kernel_rfl) (by kernel_rfl) (by kernel_rfl) rfl rfl ?_
       refine at_skip 16 rfl rfl rfl rfl (by kernel_rfl) (by kernel_rfl) (by kernel_rfl) rfl rfl ?_
       refine at_skip 17 rfl rfl rfl rfl (by kernel_rfl) (by kernel_rfl) (by kernel_rfl) rfl rfl ?_
       refine at_each (rs := [18]) (by kernel_rfl) (by decide) ?_
       refine (.cons rfl (fun I cnI => ?_) .nil)
       ·refine lp rfl (p_pkt rfl rfl) ?_
        refine lj_nil ?_
        refine cnI _ _ (sof1 rfl rfl (fun _ h => h.picks [1, 1, 1, 1, 1, 1, 1, 1, 1, 1, 1, 1] rfl)) ?_
        refine at_take2 19 rfl (by kernel_rfl) (by kernel_rfl) (by kernel_rfl) (fun _ h => h.picks [0, 0, 0, 0, 0, 0, 0, 0, 0, 0, 0, 0] rfl) rfl rfl (p_mv rfl) (fun _ h => h.picks [1, 1, 1, 1, 1, 1, 1, 1, 1, 1, 1, 1] rfl) ?_
        refine at_skip 20 rfl rfl rfl rfl (by kernel_rfl) (by kernel_rfl) (by kernel_rfl) rfl rfl ?_
        refine at_skip 21 rfl rfl rfl rfl (by kernel_rfl) (by kernel_rfl) (by kernel_rfl) rfl rfl ?_
        refine at_skip 22 rfl rfl rfl rfl (by kernel_rfl) (by kernel_rfl) (by kernel_rfl) rfl rfl ?_
        refine at_skip 23 rfl rfl rfl rfl (by kernel_rfl) (by kernel_rfl) (by kernel_rfl) rfl rfl ?_
        refine at_skip 24 rfl rfl rfl rfl (by kernel_rfl) (by kernel_rfl) (by kernel_rfl) rfl rfl ?_
        refine at_each (rs := [25]) (by kernel_rfl) (by decide) ?_
        refine (.cons rfl (fun I cnI => ?_) .nil)
        ·refine lp rfl (p_pkt rfl rfl) ?_
         refine lj_nil ?_
         refine cnI _ _ (sof1 rfl rfl (fun _ h => h.picks [1, 1, 1, 1, 1, 1, 1, 1, 1, 1, 1, 1] rfl)) ?_
         refine at_take2 26 rfl (by kernel_rfl) (by kernel_rfl) (by kernel_rfl) (fun _ h => h.picks [0, 0, 0, 0, 0, 0, 0, 0, 0, 0, 0, 0] rfl) rfl rfl (p_mv rfl) (fun _ h => h.picks [1, 1, 1, 1, 1, 1, 1, 1, 1, 1, 1, 1] rfl) ?_
         refine at_skip 27 rfl rfl rfl rfl (by kernel_rfl) (by kernel_rfl) (by kernel_rfl) rfl rfl ?_
         refine at_skip 29 rfl rfl rfl rfl (by kernel_rfl) (by kernel_rfl) (by kernel_rfl) rfl rfl ?_
         refine at_skip 30 rfl rfl rfl rfl (by kernel_rfl) (by kernel_rfl) (by kernel_rfl) rfl rfl ?_
         refine at_skip 31 rfl rfl rfl rfl (by kernel_rfl) (by kernel_rfl) (by kernel_rfl) rfl rfl ?_
         refine at_skip 32 rfl rfl rfl rfl (by kernel_rfl) (by kernel_rfl) (by kernel_rfl) rfl rfl ?_
         refine at_skip 33 rfl rfl rfl rfl (by kernel_rfl) (by kernel_rfl) (by kernel_rfl) rfl rfl ?_
         refine at_skip 34 rfl rfl rfl rfl (by kernel_rfl) (by kernel_rfl) (by kernel_rfl) rfl rfl ?_
         refine at_each (rs := [28]) (by kernel_rfl) (by decide) ?_
         refine (.cons rfl (fun I cnI => ?_) .nil)
         ·refine ls false rfl rfl rfl rfl ?_
          refine lj_nil ?_
          refine cnI _ _ (sof1 rfl rfl (fun _ h => h.picks [1, 1, 1, 1, 1, 1, 1, 1, 1, 1, 1, 1] rfl)) ?_
          refine at_skip 35 rfl rfl rfl rfl (by kernel_rfl) (by kernel_rfl) (by kernel_rfl) rfl rfl ?_
          refine at_each (rs := [36]) (by kernel_rfl) (by decide) ?_
          refine (.cons rfl (fun I cnI => ?_) .nil)
          ·refine lp rfl (p_pkt rfl rfl) ?_
           refine lj_nil ?_
           refine cnI _ _ (sof1 rfl rfl (fun _ h => h.picks [1, 1, 1, 1, 1, 1, 1, 1, 1, 1, 1, 1] rfl)) ?_
           refine at_take2 37 rfl (by kernel_rfl) (by kernel_rfl) (by kernel_rfl) (fun _ h => h.picks [0, 0, 0, 0, 0, 0, 0, 0, 0, 0, 0, 0] rfl) rfl rfl (p_mv rfl) (fun _ h => h.picks [1, 1, 1, 1, 1, 1, 1, 1, 1, 1, 1, 1] rfl) ?_
           refine at_skip 38 rfl rfl rfl rfl (by kernel_rfl) (by kernel_rfl) (by kernel_rfl) rfl rfl ?_
           refine at_skip 40 rfl rfl rfl rfl (by kernel_rfl) (by kernel_rfl) (by kernel_rfl) rfl rfl ?_
           refine at_each (rs := [39]) (by kernel_rfl) (by decide) ?_
           refine (.cons rfl (fun I cnI => ?_) .nil)
           ·refine ls false rfl rfl rfl rfl ?_
            refine lj_nil ?_
            refine cnI _ _ (sof1 rfl rfl (fun _ h => h.picks [1, 1, 1, 1, 1, 1, 1, 1, 1, 1, 1, 1] rfl)) ?_
            refine at_each (rs := [41]) (by kernel_rfl) (by decide) ?_
            refine (.cons rfl (fun I cnI => ?_) .nil)
            ·refine ls false rfl rfl rfl rfl ?_
             refine lj_nil ?_
             refine cnI _ _ (sof1 rfl rfl (fun _ h => h.picks [1, 1, 1, 1, 1, 1, 1, 1, 1, 1, 1, 1] rfl)) ?_
             refine at_skip 42 rfl rfl rfl rfl (by kernel_rfl) (by kernel_rfl) (by kernel_rfl) rfl rfl ?_
             refine at_each (rs := [43]) (by kernel_rfl) (by decide) ?_
             refine (.cons rfl (fun I cnI => ?_) .nil)
             ·refine lp rfl (p_pkt rfl rfl) ?_
              refine lj_nil ?_
              refine cnI _ _ (sof1 rfl rfl (fun _ h => h.picks [1, 1, 1, 1, 1, 1, 1, 1, 1, 1, 1, 1] rfl)) ?_
              refine at_take2 44 rfl (by kernel_rfl) (by kernel_rfl) (by kernel_rfl) (fun _ h => h.picks [0, 0, 0, 0, 0, 0, 0, 0, 0, 0, 0, 0] rfl) rfl rfl (p_mv rfl) (fun _ h => h.picks [1, 1, 1, 1, 1, 1, 1, 1, 1, 1, 1, 1] rfl) ?_
              refine at_skip 45 rfl rfl rfl rfl (by kernel_rfl) (by kernel_rfl) (by kernel_rfl) rfl rfl ?_
              refine at_skip 46 rfl rfl rfl rfl (by kernel_rfl) (by kernel_rfl) (by kernel_rfl) rfl rfl ?_
              refine at_skip 47 rfl rfl rfl rfl (by kernel_rfl) (by kernel_rfl) (by kernel_rfl) rfl rfl ?_
              refine at_skip 48 rfl rfl rfl rfl (by kernel_rfl) (by kernel_rfl) (by kernel_rfl) rfl rfl ?_
              refine at_skip 49 rfl rfl rfl rfl (by kernel_rfl) (by kernel_rfl) (by kernel_rfl) rfl rfl ?_
              refine at_each (rs := [50]) (by kernel_rfl) (by decide) ?_
              refine (.cons rfl (fun I cnI => ?_) .nil)
              ·refine lp rfl (p_pkt rfl rfl) ?_
               refine lj_nil ?_
               refine cnI _ _ (sof1 rfl rfl (fun _ h => h.picks [1, 1, 1, 1, 1, 1, 1, 1, 1, 1, 1, 1] rfl)) ?_
               refine at_done (by kernel_rfl) ?_
               exact cnk19 _ _ true () (Option.some.inj hm).symm ⟨rfl, rfl, rfl, rfl, rfl, rfl, rfl, trivial⟩ (fun _ h => h.picks [2, 2, 2, 2, 2, 3, 5, 5] rfl)
      ·have hm := ifB_f hb hm
       obtain ⟨z22, hz22, hm⟩ := bindS hm
       refine at_take2g 14 rfl rfl rfl rfl (by kernel_rfl) (by kernel_rfl) (by kernel_rfl) (fun _ h => h.picks [0, 0, 0, 0, 0, 0, 0, 0, 0, 0, 0, 0] rfl) rfl rfl (p_fab fl34_1 rfl) (fun _ h => h.picks [1, 1, 1, 1, 1, 1, 1, 1, 1, 1, 1, 1] rfl) ?_
       refine at_take2g 15 rfl rfl rfl rfl (by kernel_rfl) (by kernel_rfl) (by kernel_rfl) (fun _ h => h.picks [0, 0, 0, 0, 0, 0, 0, 0, 0, 0, 0, 0] rfl) rfl rfl (p_lbs ty3 rfl (j := 6) rfl rfl) (fun _ h => h.picks [1, 1, 1, 1, 1, 1, 1, 1, 1, 1, 1, 1] rfl) ?_
       refine at_take2g 16 rfl rfl rfl rfl (by kernel_rfl) (by kernel_rfl) (by kernel_rfl) (fun _ h => h.picks [0, 0, 0, 0, 0, 0, 0, 0, 0, 0, 0, 0] rfl) rfl rfl (p_remM hz22 rfl rfl) (fun _ h => h.picks [1, 1, 1, 1, 1, 1, 1, 1, 1, 1, 1, 1] rfl) ?_
       refine at_take2g 17 rfl rfl rfl rfl (by kernel_rfl) (by kernel_rfl) (by kernel_rfl) (fun _ h => h.picks [0, 0, 0, 0, 0, 0, 0, 0, 0, 0, 0, 0] rfl) rfl rfl (p_neq rfl rfl) (fun _ h => h.picks [1, 1, 1, 1, 1, 1, 1, 1, 1, 1, 1, 1] rfl) ?_
       refine at_each (rs := [18]) (by kernel_rfl) (by decide) ?_
       refine (.cons rfl (fun I cnI => ?_) .nil)
       ·refine lp rfl (p_pkf rfl rfl) ?_
        refine lj_nil ?_
        refine cnI _ _ (sof1 rfl rfl (fun _ h => h.picks [1, 1, 1, 1, 1, 1, 1, 1, 1, 1, 1, 1] rfl)) ?_
        refine at_take2 19 rfl (by kernel_rfl) (by kernel_rfl) (by kernel_rfl) (fun _ h => h.picks [0, 0, 0, 0, 0, 0, 0, 0, 0, 0, 0, 0] rfl) rfl rfl (p_mv rfl) (fun _ h => h.picks [1, 1, 1, 1, 1, 1, 1, 1, 1, 1, 1, 1] rfl) ?_
        refine at_case (i := 74) (z22 != 0) rfl (fun hb => ?_) (fun hb => ?_)
        ·have hm := ifB_t hb hm
         refine at_skip 20 rfl rfl rfl rfl (by kernel_rfl) (by kernel_rfl) (by kernel_rfl) rfl rfl ?_
         refine at_skip 21 rfl rfl rfl rfl (by kernel_rfl) (by kernel_rfl) (by kernel_rfl) rfl rfl ?_
         refine at_skip 22 rfl rfl rfl rfl (by kernel_rfl) (by kernel_rfl) (by kernel_rfl) rfl rfl ?_
         refine at_skip 23 rfl rfl rfl rfl (by kernel_rfl) (by kernel_rfl) (by kernel_rfl) rfl rfl ?_
         refine at_skip 24 rfl rfl rfl rfl (by kernel_rfl) (by kernel_rfl) (by kernel_rfl) rfl rfl ?_
         refine at_each (rs := [25]) (by kernel_rfl) (by decide) ?_
         refine (.cons rfl (fun I cnI => ?_) .nil)
         ·refine lp rfl (p_pkt rfl rfl) ?_
          refine lj_nil ?_
          refine cnI _ _ (sof1 rfl rfl (fun _ h => h.picks [1, 1, 1, 1, 1, 1, 1, 1, 1, 1, 1, 1] rfl)) ?_
          refine at_take2 26 rfl (by kernel_rfl) (by kernel_rfl) (by kernel_rfl) (fun _ h => h.picks [0, 0, 0, 0, 0, 0, 0, 0, 0, 0, 0, 0] rfl) rfl rfl (p_mv rfl) (fun _ h => h.picks [1, 1, 1, 1, 1, 1, 1, 1, 1, 1, 1, 1] rfl) ?_
          refine at_skip 27 rfl rfl rfl rfl (by kernel_rfl) (by kernel_rfl) (by kernel_rfl) rfl rfl ?_
          refine at_skip 29 rfl rfl rfl rfl (by kernel_rfl) (by kernel_rfl) (by kernel_rfl) rfl rfl ?_
          refine at_skip 30 rfl rfl rfl rfl (by kernel_rfl) (by kernel_rfl) (by kernel_rfl) rfl rfl ?_
          refine at_skip 31 rfl rfl rfl rfl (by kernel_rfl) (by kernel_rfl) (by kernel_rfl) rfl rfl ?_
          refine at_skip 32 rfl rfl rfl rfl (by kernel_rfl) (by kernel_rfl) (by kernel_rfl) rfl rfl ?_
          refine at_skip 33 rfl rfl rfl rfl (by kernel_rfl) (by kernel_rfl) (by kernel_rfl) rfl rfl ?_
          refine at_skip 34 rfl rfl rfl rfl (by kernel_rfl) (by kernel_rfl) (by kernel_rfl) rfl rfl ?_
          refine at_each (rs := [28]) (by kernel_rfl) (by decide) ?_
          refine (.cons rfl (fun I cnI => ?_) .nil)
          ·refine ls false rfl rfl rfl rfl ?_
           refine lj_nil ?_
           refine cnI _ _ (sof1 rfl rfl (fun _ h => h.picks [1, 1, 1, 1, 1, 1, 1, 1, 1, 1, 1, 1] rfl)) ?_
           refine at_skip 35 rfl rfl rfl rfl (by kernel_rfl) (by kernel_rfl) (by kernel_rfl) rfl rfl ?_
           refine at_each (rs := [36]) (by kernel_rfl) (by decide) ?_
           refine (.cons rfl (fun I cnI => ?_) .nil)
           ·refine lp rfl (p_pkt rfl rfl) ?_
            refine lj_nil ?_
            refine cnI _ _ (sof1 rfl rfl (fun _ h => h.picks [1, 1, 1, 1, 1, 1, 1, 1, 1, 1, 1, 1] rfl)) ?_
            refine at_take2 37 rfl (by kernel_rfl) (by kernel_rfl) (by kernel_rfl) (fun _ h => h.picks [0, 0, 0, 0, 0, 0, 0, 0, 0, 0, 0, 0] rfl) rfl rfl (p_mv rfl) (fun _ h => h.picks [1, 1, 1, 1, 1, 1, 1, 1, 1, 1, 1, 1] rfl) ?_
            refine at_skip 38 rfl rfl rfl rfl (by kernel_rfl) (by kernel_rfl) (by kernel_rfl) rfl rfl ?_
            refine at_skip 40 rfl rfl rfl rfl (by kernel_rfl) (by kernel_rfl) (by kernel_rfl) rfl rfl ?_
            refine at_each (rs := [39]) (by kernel_rfl) (by decide) ?_
            refine (.cons rfl (fun I cnI => ?_) .nil)
            ·refine ls false rfl rfl rfl rfl ?_
             refine lj_nil ?_
             refine cnI _ _ (sof1 rfl rfl (fun _ h => h.picks [1, 1, 1, 1, 1, 1, 1, 1, 1, 1, 1, 1] rfl)) ?_
             refine at_each (rs := [41]) (by kernel_rfl) (by decide) ?_
             refine (.cons rfl (fun I cnI => ?_) .nil)
             ·refine ls false rfl rfl rfl rfl ?_
              refine lj_nil ?_
              refine cnI _ _ (sof1 rfl rfl (fun _ h => h.picks [1, 1, 1, 1, 1, 1, 1, 1, 1, 1, 1, 1] rfl)) ?_
              refine at_skip 42 rfl rfl rfl rfl (by kernel_rfl) (by kernel_rfl) (by kernel_rfl) rfl rfl ?_
              refine at_each (rs := [43]) (by kernel_rfl) (by decide) ?_
              refine (.cons rfl (fun I cnI => ?_) .nil)
              ·refine lp rfl (p_pkt rfl rfl) ?_
               refine lj_nil ?_
               refine cnI _ _ (sof1 rfl rfl (fun _ h => h.picks [1, 1, 1, 1, 1, 1, 1, 1, 1, 1, 1, 1] rfl)) ?_
               refine at_take2 44 rfl (by kernel_rfl) (by kernel_rfl) (by kernel_rfl) (fun _ h => h.picks [0, 0, 0, 0, 0, 0, 0, 0, 0, 0, 0, 0] rfl) rfl rfl (p_mv rfl) (fun _ h => h.picks [1, 1, 1, 1, 1, 1, 1, 1, 1, 1, 1, 1] rfl) ?_
               refine at_skip 45 rfl rfl rfl rfl (by kernel_rfl) (by kernel_rfl) (by kernel_rfl) rfl rfl ?_
               refine at_skip 46 rfl rfl rfl rfl (by kernel_rfl) (by kernel_rfl) (by kernel_rfl) rfl rfl ?_
               refine at_skip 47 rfl rfl rfl rfl (by kernel_rfl) (by kernel_rfl) (by kernel_rfl) rfl rfl ?_
               refine at_skip 48 rfl rfl rfl rfl (by kernel_rfl) (by kernel_rfl) (by kernel_rfl) rfl rfl ?_
               refine at_skip 49 rfl rfl rfl rfl (by kernel_rfl) (by kernel_rfl) (by kernel_rfl) rfl rfl ?_
               refine at_each (rs := [50]) (by kernel_rfl) (by decide) ?_
               refine (.cons rfl (fun I cnI => ?_) .nil)
               ·refine lp rfl (p_pkt rfl rfl) ?_
                refine lj_nil ?_
                refine cnI _ _ (sof1 rfl rfl (fun _ h => h.picks [1, 1, 1, 1, 1, 1, 1, 1, 1, 1, 1, 1] rfl)) ?_
                refine at_done (by kernel_rfl) ?_
                exact cnk19 _ _ true () (Option.some.inj hm).symm ⟨rfl, rfl, rfl, rfl, rfl, rfl, rfl, trivial⟩ (fun _ h => h.picks [2, 2, 2, 2, 2, 3, 5, 5] rfl)
        ·have hm := ifB_f hb hm
         refine at_take2g 20 rfl rfl rfl rfl (by kernel_rfl) (by kernel_rfl) (by kernel_rfl) (fun _ h => h.picks [0, 0, 0, 0, 0, 0, 0, 0, 0, 0, 0, 0] rfl) rfl rfl (p_mv rfl) (fun _ h => h.picks [1, 1, 1, 1, 1, 1, 1, 1, 1, 1, 1, 1] rfl) ?_
         refine at_take2g 21 rfl rfl rfl rfl (by kernel_rfl) (by kernel_rfl) (by kernel_rfl) (fun _ h => h.picks [0, 0, 0, 0, 0, 0, 0, 0, 0, 0, 0, 0] rfl) rfl rfl (p_lenG hLs13 Tryz.underlying39 rfl (.row 1 rfl)) (fun _ h => h.picks [1, 1, 1, 1, 1, 1, 1, 1, 1, 1, 1, 1] rfl) ?_
         refine at_take2g 22 rfl rfl rfl rfl (by kernel_rfl) (by kernel_rfl) (by kernel_rfl) (fun _ h => h.picks [0, 0, 0, 0, 0, 0, 0, 0, 0, 0, 0, 0] rfl) rfl rfl (p_mv rfl) (fun _ h => h.picks [1, 1, 1, 1, 1, 1, 1, 1, 1, 1, 1, 1] rfl) ?_
         refine at_take2g 23 rfl rfl rfl rfl (by kernel_rfl) (by kernel_rfl) (by kernel_rfl) (fun _ h => h.picks [0, 0, 0, 0, 0, 0, 0, 0, 0, 0, 0, 0] rfl) rfl rfl (p_len Tryz.underlying26 rfl (.ro 4 rfl)) (fun _ h => h.picks [1, 1, 1, 1, 1, 1, 1, 1, 1, 1, 1, 1] rfl) ?_
         refine at_take2g 24 rfl rfl rfl rfl (by kernel_rfl) (by kernel_rfl) (by kernel_rfl) (fun _ h => h.picks [0, 0, 0, 0, 0, 0, 0, 0, 0, 0, 0, 0] rfl) rfl rfl (p_neq rfl rfl) (fun _ h => h.picks [1, 1, 1, 1, 1, 1, 1, 1, 1, 1, 1, 1] rfl) ?_
         refine at_each (rs := [25]) (by kernel_rfl) (by decide) ?_
         refine (.cons rfl (fun I cnI => ?_) .nil)
         ·refine lp rfl (p_pkf rfl rfl) ?_
          refine lj_nil ?_
          refine cnI _ _ (sof1 rfl rfl (fun _ h => h.picks [1, 1, 1, 1, 1, 1, 1, 1, 1, 1, 1, 1] rfl)) ?_
          refine at_take2 26 rfl (by kernel_rfl) (by kernel_rfl) (by kernel_rfl) (fun _ h => h.picks [0, 0, 0, 0, 0, 0, 0, 0, 0, 0, 0, 0] rfl) rfl rfl (p_mv rfl) (fun _ h => h.picks [1, 1, 1, 1, 1, 1, 1, 1, 1, 1, 1, 1] rfl) ?_
          refine at_case (i := 81) ((y12.1.length : Int) != (y2.1.length : Int)) rfl (fun hb => ?_) (fun hb => ?_)
          ·have hm := ifB_t hb hm
           refine at_skip 27 rfl rfl rfl rfl (by kernel_rfl) (by kernel_rfl) (by kernel_rfl) rfl rfl ?_
           refine at_skip 29 rfl rfl rfl rfl (by kernel_rfl) (by kernel_rfl) (by kernel_rfl) rfl rfl ?_
           refine at_skip 30 rfl rfl rfl rfl (by kernel_rfl) (by kernel_rfl) (by kernel_rfl) rfl rfl ?_
           refine at_skip 31 rfl rfl rfl rfl (by kernel_rfl) (by kernel_rfl) (by kernel_rfl) rfl rfl ?_
           refine at_skip 32 rfl rfl rfl rfl (by kernel_rfl) (by kernel_rfl) (by kernel_rfl) rfl rfl ?_
           refine at_skip 33 rfl rfl rfl rfl (by kernel_rfl) (by kernel_rfl) (by kernel_rfl) rfl rfl ?_
           refine at_skip 34 rfl rfl rfl rfl (by kernel_rfl) (by kernel_rfl) (by kernel_rfl) rfl rfl ?_
           refine at_each (rs := [28]) (by kernel_rfl) (by decide) ?_
           refine (.cons rfl (fun I cnI => ?_) .nil)
           ·refine ls false rfl rfl rfl rfl ?_
            refine lj_nil ?_
            refine cnI _ _ (sof1 rfl rfl (fun _ h => h.picks [1, 1, 1, 1, 1, 1, 1, 1, 1, 1, 1, 1] rfl)) ?_
            refine at_skip 35 rfl rfl rfl rfl (by kernel_rfl) (by kernel_rfl) (by kernel_rfl) rfl rfl ?_
            refine at_each (rs := [36]) (by kernel_rfl) (by decide) ?_
            refine (.cons rfl (fun I cnI => ?_) .nil)
            ·refine lp rfl (p_pkt rfl rfl) ?_
             refine lj_nil ?_
             refine cnI _ _ (sof1 rfl rfl (fun _ h => h.picks [1, 1, 1, 1, 1, 1, 1, 1, 1, 1, 1, 1] rfl)) ?_
             refine at_take2 37 rfl (by kernel_rfl) (by kernel_rfl) (by kernel_rfl) (fun _ h => h.picks [0, 0, 0, 0, 0, 0, 0, 0, 0, 0, 0, 0] rfl) rfl rfl (p_mv rfl) (fun _ h => h.picks [1, 1, 1, 1, 1, 1, 1, 1, 1, 1, 1, 1] rfl) ?_
             refine at_skip 38 rfl rfl rfl rfl (by kernel_rfl) (by kernel_rfl) (by kernel_rfl) rfl rfl ?_
             refine at_skip 40 rfl rfl rfl rfl (by kernel_rfl) (by kernel_rfl) (by kernel_rfl) rfl rfl ?_
             refine at_each (rs := [39]) (by kernel_rfl) (by decide) ?_
             refine (.cons rfl (fun I cnI => ?_) .nil)
             ·refine ls false rfl rfl rfl rfl ?_
              refine lj_nil ?_
              refine cnI _ _ (sof1 rfl rfl (fun _ h => h.picks [1, 1, 1, 1, 1, 1, 1, 1, 1, 1, 1, 1] rfl)) ?_
              refine at_each (rs := [41]) (by kernel_rfl) (by decide) ?_
              refine (.cons rfl (fun I cnI => ?_) .nil)
              ·refine ls false rfl rfl rfl rfl ?_
               refine lj_nil ?_
               refine cnI _ _ (sof1 rfl rfl (fun _ h => h.picks [1, 1, 1, 1, 1, 1, 1, 1, 1, 1, 1, 1] rfl)) ?_
               refine at_skip 42 rfl rfl rfl rfl (by kernel_rfl) (by kernel_rfl) (by kernel_rfl) rfl rfl ?_
               refine at_each (rs := [43]) (by kernel_rfl) (by decide) ?_
               refine (.cons rfl (fun I cnI => ?_) .nil)
               ·refine lp rfl (p_pkt rfl rfl) ?_
                refine lj_nil ?_
                refine cnI _ _ (sof1 rfl rfl (fun _ h => h.picks [1, 1, 1, 1, 1, 1, 1, 1, 1, 1, 1, 1] rfl)) ?_
                refine at_take2 44 rfl (by kernel_rfl) (by kernel_rfl) (by kernel_rfl) (fun _ h => h.picks [0, 0, 0, 0, 0, 0, 0, 0, 0, 0, 0, 0] rfl) rfl rfl (p_mv rfl) (fun _ h => h.picks [1, 1, 1, 1, 1, 1, 1, 1, 1, 1, 1, 1] rfl) ?_
                refine at_skip 45 rfl rfl rfl rfl (by kernel_rfl) (by kernel_rfl) (by kernel_rfl) rfl rfl ?_
                refine at_skip 46 rfl rfl rfl rfl (by kernel_rfl) (by kernel_rfl) (by kernel_rfl) rfl rfl ?_
                refine at_skip 47 rfl rfl rfl rfl (by kernel_rfl) (by kernel_rfl) (by kernel_rfl) rfl rfl ?_
                refine at_skip 48 rfl rfl rfl rfl (by kernel_rfl) (by kernel_rfl) (by kernel_rfl) rfl rfl ?_
                refine at_skip 49 rfl rfl rfl rfl (by kernel_rfl) (by kernel_rfl) (by kernel_rfl) rfl rfl ?_
                refine at_each (rs := [50]) (by kernel_rfl) (by decide) ?_
                refine (.cons rfl (fun I cnI => ?_) .nil)
                ·refine lp rfl (p_pkt rfl rfl) ?_
                 refine lj_nil ?_
                 refine cnI _ _ (sof1 rfl rfl (fun _ h => h.picks [1, 1, 1, 1, 1, 1, 1, 1, 1, 1, 1, 1] rfl)) ?_
                 refine at_done (by kernel_rfl) ?_
                 exact cnk19 _ _ true () (Option.some.inj hm).symm ⟨rfl, rfl, rfl, rfl, rfl, rfl, rfl, trivial⟩ (fun _ h => h.picks [2, 2, 2, 2, 2, 3, 5, 5] rfl)
          ·have hm := ifB_f hb hm
           obtain ⟨y23, hy23, hm⟩ := bindS hm
           obtain ⟨z24, hz24, hm⟩ := bindS hm
           refine at_take2g 27 rfl rfl rfl rfl (by kernel_rfl) (by kernel_rfl) (by kernel_rfl) (fun _ h => h.picks [0, 0, 0, 0, 0, 0, 0, 0, 0, 0, 0, 0] rfl) rfl rfl (p_mv rfl) (fun _ h => h.picks [1, 1, 1, 1, 1, 1, 1, 1, 1, 1, 1, 1] rfl) ?_
           refine at_take2g 29 rfl rfl rfl rfl (by kernel_rfl) (by kernel_rfl) (by kernel_rfl) (fun _ h => h.picks [0, 0, 0, 0, 0, 0, 0, 0, 0, 0, 0, 0] rfl) rfl rfl (p_fab fl34_0 rfl) (fun _ h => h.picks [1, 1, 1, 1, 1, 1, 1, 1, 1, 1, 1, 1] rfl) ?_
           refine at_take2g 30 rfl rfl rfl rfl (by kernel_rfl) (by kernel_rfl) (by kernel_rfl) (fun _ h => h.picks [0, 0, 0, 0, 0, 0, 0, 0, 0, 0, 0, 0] rfl) rfl rfl (p_lbs ty3 rfl (j := 6) rfl rfl) (fun _ h => h.picks [1, 1, 1, 1, 1, 1, 1, 1, 1, 1, 1, 1] rfl) ?_
           refine at_take2g 31 rfl rfl rfl rfl (by kernel_rfl) (by kernel_rfl) (by kernel_rfl) (fun _ h => h.picks [0, 0, 0, 0, 0, 0, 0, 0, 0, 0, 0, 0] rfl) rfl rfl (p_fab fl34_1 rfl) (fun _ h => h.picks [1, 1, 1, 1, 1, 1, 1, 1, 1, 1, 1, 1] rfl) ?_
           refine at_take2g 32 rfl rfl rfl rfl (by kernel_rfl) (by kernel_rfl) (by kernel_rfl) (fun _ h => h.picks [0, 0, 0, 0, 0, 0, 0, 0, 0, 0, 0, 0] rfl) rfl rfl (p_lbs ty3 rfl (j := 6) rfl rfl) (fun _ h => h.picks [1, 1, 1, 1, 1, 1, 1, 1, 1, 1, 1, 1] rfl) ?_
           refine at_take2g 33 rfl rfl rfl rfl (by kernel_rfl) (by kernel_rfl) (by kernel_rfl) (fun _ h => h.picks [0, 0, 0, 0, 0, 0, 0, 0, 0, 0, 0, 0] rfl) rfl rfl (p_quoM hz24 rfl rfl) (fun _ h => h.picks [1, 1, 1, 1, 1, 1, 1, 1, 1, 1, 1, 1] rfl) ?_
           refine at_take2g 34 rfl rfl rfl rfl (by kernel_rfl) (by kernel_rfl) (by kernel_rfl) (fun _ h => h.picks [0, 0, 0, 0, 0, 0, 0, 0, 0, 0, 0, 0] rfl) rfl rfl (p_mul rfl rfl) (fun _ h => h.picks [1, 1, 1, 1, 1, 1, 1, 1, 1, 1, 1, 1] rfl) ?_
           refine at_each (rs := [28]) (by kernel_rfl) (by decide) ?_
           refine (.cons rfl (fun I cnI => ?_) .nil)
           ·refine lg false rfl rfl rfl ?_
            refine r_call [] cf12 rfl rfl (ok_gleekeep2_sum s11 y10.1 hy23) rfl rfl (.cons (.row 6 rfl) .nil) (fun _ => rfl) rfl (fun _ => ?_)
            refine lj_nil ?_
            refine cnI _ _ (sof1 rfl rfl (fun _ h => h.picks [1, 1, 1, 1, 1, 1, 1, 1, 1, 1, 1, 1] rfl)) ?_
            refine at_take2g 35 rfl rfl rfl rfl (by kernel_rfl) (by kernel_rfl) (by kernel_rfl) (fun _ h => h.picks [0, 0, 0, 0, 0, 0, 0, 0, 0, 0, 0, 0] rfl) rfl rfl (p_neq rfl rfl) (fun _ h => h.picks [1, 1, 1, 1, 1, 1, 1, 1, 1, 1, 1, 1] rfl) ?_
            refine at_each (rs := [36]) (by kernel_rfl) (by decide) ?_
            refine (.cons rfl (fun I cnI => ?_) .nil)
            ·refine lp rfl (p_pkf rfl rfl) ?_
             refine lj_nil ?_
             refine cnI _ _ (sof1 rfl rfl (fun _ h => h.picks [1, 1, 1, 1, 1, 1, 1, 1, 1, 1, 1, 1] rfl)) ?_
             refine at_take2 37 rfl (by kernel_rfl) (by kernel_rfl) (by kernel_rfl) (fun _ h => h.picks [0, 0, 0, 0, 0, 0, 0, 0, 0, 0, 0, 0] rfl) rfl rfl (p_mv rfl) (fun _ h => h.picks [1, 1, 1, 1, 1, 1, 1, 1, 1, 1, 1, 1] rfl) ?_
             refine at_case (i := 92) (y23 != (w64 (y8.1.Num * z24))) rfl (fun hb => ?_) (fun hb => ?_)
             ·have hm := ifB_t hb hm
              refine at_skip 38 rfl rfl rfl rfl (by kernel_rfl) (by kernel_rfl) (by kernel_rfl) rfl rfl ?_
              refine at_skip 40 rfl rfl rfl rfl (by kernel_rfl) (by kernel_rfl) (by kernel_rfl) rfl rfl ?_
              refine at_each (rs := [39]) (by kernel_rfl) (by decide) ?_
              refine (.cons rfl (fun I cnI => ?_) .nil)
              ·refine ls false rfl rfl rfl rfl ?_
               refine lj_nil ?_
               refine cnI _ _ (sof1 rfl rfl (fun _ h => h.picks [1, 1, 1, 1, 1, 1, 1, 1, 1, 1, 1, 1] rfl)) ?_
               refine at_each (rs := [41]) (by kernel_rfl) (by decide) ?_
               refine (.cons rfl (fun I cnI => ?_) .nil)
               ·refine ls false rfl rfl rfl rfl ?_
                refine lj_nil ?_
                refine cnI _ _ (sof1 rfl rfl (fun _ h => h.picks [1, 1, 1, 1, 1, 1, 1, 1, 1, 1, 1, 1] rfl)) ?_
                refine at_skip 42 rfl rfl rfl rfl (by kernel_rfl) (by kernel_rfl) (by kernel_rfl) rfl rfl ?_
                refine at_each (rs := [43]) (by kernel_rfl) (by decide) ?_
                refine (.cons rfl (fun I cnI => ?_) .nil)
                ·refine lp rfl (p_pkt rfl rfl) ?_
                 refine lj_nil ?_
                 refine cnI _ _ (sof1 rfl rfl (fun _ h => h.picks [1, 1, 1, 1, 1, 1, 1, 1, 1, 1, 1, 1] rfl)) ?_
                 refine at_take2 44 rfl (by kernel_rfl) (by kernel_rfl) (by kernel_rfl) (fun _ h => h.picks [0, 0, 0, 0, 0, 0, 0, 0, 0, 0, 0, 0] rfl) rfl rfl (p_mv rfl) (fun _ h => h.picks [1, 1, 1, 1, 1, 1, 1, 1, 1, 1, 1, 1] rfl) ?_
                 refine at_skip 45 rfl rfl rfl rfl (by kernel_rfl) (by kernel_rfl) (by kernel_rfl) rfl rfl ?_
                 refine at_skip 46 rfl rfl rfl rfl (by kernel_rfl) (by kernel_rfl) (by kernel_rfl) rfl rfl ?_
                 refine at_skip 47 rfl rfl rfl rfl (by kernel_rfl) (by kernel_rfl) (by kernel_rfl) rfl rfl ?_
                 refine at_skip 48 rfl rfl rfl rfl (by kernel_rfl) (by kernel_rfl) (by kernel_rfl) rfl rfl ?_
                 refine at_skip 49 rfl rfl rfl rfl (by kernel_rfl) (by kernel_rfl) (by kernel_rfl) rfl rfl ?_
                 refine at_each (rs := [50]) (by kernel_rfl) (by decide) ?_
                 refine (.cons rfl (fun I cnI => ?_) .nil)
                 ·refine lp rfl (p_pkt rfl rfl) ?_
                  refine lj_nil ?_
                  refine cnI _ _ (sof1 rfl rfl (fun _ h => h.picks [1, 1, 1, 1, 1, 1, 1, 1, 1, 1, 1, 1] rfl)) ?_
                  refine at_done (by kernel_rfl) ?_
                  exact cnk19 _ _ true () (Option.some.inj hm).symm ⟨rfl, rfl, rfl, rfl, rfl, rfl, rfl, trivial⟩ (fun _ h => h.picks [2, 2, 2, 2, 2, 3, 5, 5] rfl)
             ·have hm := ifB_f hb hm
              obtain ⟨y25, hy25, hm⟩ := bindS hm
              obtain ⟨y26, hy26, hm⟩ := bindS hm
              refine at_take2g 38 rfl rfl rfl rfl (by kernel_rfl) (by kernel_rfl) (by kernel_rfl) (fun _ h => h.picks [0, 0, 0, 0, 0, 0, 0, 0, 0, 0, 0, 0] rfl) rfl rfl (p_mv rfl) (fun _ h => h.picks [1, 1, 1, 1, 1, 1, 1, 1, 1, 1, 1, 1] rfl) ?_
              refine at_take2g 40 rfl rfl rfl rfl (by kernel_rfl) (by kernel_rfl) (by kernel_rfl) (fun _ h => h.picks [0, 0, 0, 0, 0, 0, 0, 0, 0, 0, 0, 0] rfl) rfl rfl (p_mv rfl) (fun _ h => h.picks [1, 1, 1, 1, 1, 1, 1, 1, 1, 1, 1, 1] rfl) ?_
              refine at_each (rs := [39]) (by kernel_rfl) (by decide) ?_
              refine (.cons rfl (fun I cnI => ?_) .nil)
              ·refine lg false rfl rfl rfl ?_
               refine r_call [] cf12 rfl rfl (ok_gleekeep2_sum s16 y15.1 hy25) rfl rfl (.cons (.row 1 rfl) .nil) (fun _ => rfl) rfl (fun _ => ?_)
               refine lj_nil ?_
               refine cnI _ _ (sof1 rfl rfl (fun _ h => h.picks [1, 1, 1, 1, 1, 1, 1, 1, 1, 1, 1, 1] rfl)) ?_
               refine at_each (rs := [41]) (by kernel_rfl) (by decide) ?_
               refine (.cons rfl (fun I cnI => ?_) .nil)
               ·refine lg false rfl rfl rfl ?_
                refine r_call [] cf12 rfl rfl (ok_gleekeep2_sum s5 y4.1 hy26) rfl rfl (.cons (.ro 4 rfl) .nil) (fun _ => rfl) rfl (fun _ => ?_)
                refine lj_nil ?_
                refine cnI _ _ (sof1 rfl rfl (fun _ h => h.picks [1, 1, 1, 1, 1, 1, 1, 1, 1, 1, 1, 1] rfl)) ?_
                refine at_take2g 42 rfl rfl rfl rfl (by kernel_rfl) (by kernel_rfl) (by kernel_rfl) (fun _ h => h.picks [0, 0, 0, 0, 0, 0, 0, 0, 0, 0, 0, 0] rfl) rfl rfl (p_neq rfl rfl) (fun _ h => h.picks [1, 1, 1, 1, 1, 1, 1, 1, 1, 1, 1, 1] rfl) ?_
                refine at_each (rs := [43]) (by kernel_rfl) (by decide) ?_
                refine (.cons rfl (fun I cnI => ?_) .nil)
                ·refine lp rfl (p_pkf rfl rfl) ?_
                 refine lj_nil ?_
                 refine cnI _ _ (sof1 rfl rfl (fun _ h => h.picks [1, 1, 1, 1, 1, 1, 1, 1, 1, 1, 1, 1] rfl)) ?_
                 refine at_take2 44 rfl (by kernel_rfl) (by kernel_rfl) (by kernel_rfl) (fun _ h => h.picks [0, 0, 0, 0, 0, 0, 0, 0, 0, 0, 0, 0] rfl) rfl rfl (p_mv rfl) (fun _ h => h.picks [1, 1, 1, 1, 1, 1, 1, 1, 1, 1, 1, 1] rfl) ?_
                 refine at_case (i := 99) (y25 != y26) rfl (fun hb => ?_) (fun hb => ?_)
                 ·have hm := ifB_t hb hm
                  refine at_skip 45 rfl rfl rfl rfl (by kernel_rfl) (by kernel_rfl) (by kernel_rfl) rfl rfl ?_
                  refine at_skip 46 rfl rfl rfl rfl (by kernel_rfl) (by kernel_rfl) (by kernel_rfl) rfl rfl ?_
                  refine at_skip 47 rfl rfl rfl rfl (by kernel_rfl) (by kernel_rfl) (by kernel_rfl) rfl rfl ?_
                  refine at_skip 48 rfl rfl rfl rfl (by kernel_rfl) (by kernel_rfl) (by kernel_rfl) rfl rfl ?_
                  refine at_skip 49 rfl rfl rfl rfl (by kernel_rfl) (by kernel_rfl) (by kernel_rfl) rfl rfl ?_
                  refine at_each (rs := [50]) (by kernel_rfl) (by decide) ?_
                  refine (.cons rfl (fun I cnI => ?_) .nil)
                  ·refine lp rfl (p_pkt rfl rfl) ?_
                   refine lj_nil ?_
                   refine cnI _ _ (sof1 rfl rfl (fun _ h => h.picks [1, 1, 1, 1, 1, 1, 1, 1, 1, 1, 1, 1] rfl)) ?_
                   refine at_done (by kernel_rfl) ?_
                   exact cnk19 _ _ true () (Option.some.inj hm).symm ⟨rfl, rfl, rfl, rfl, rfl, rfl, rfl, trivial⟩ (fun _ h => h.picks [2, 2, 2, 2, 2, 3, 5, 5] rfl)
                 ·have hm := ifB_f hb hm
                  refine at_take2g 45 rfl rfl rfl rfl (by kernel_rfl) (by kernel_rfl) (by kernel_rfl) (fun _ h => h.picks [0, 0, 0, 0, 0, 0, 0, 0, 0, 0, 0, 0] rfl) rfl rfl (p_mv rfl) (fun _ h => h.picks [1, 1, 1, 1, 1, 1, 1, 1, 1, 1, 1, 1] rfl) ?_
                  refine at_take2g 46 rfl rfl rfl rfl (by kernel_rfl) (by kernel_rfl) (by kernel_rfl) (fun _ h => h.picks [0, 0, 0, 0, 0, 0, 0, 0, 0, 0, 0, 0] rfl) rfl rfl (p_len Tryz.underlying28 rfl (.row 0 rfl)) (fun _ h => h.picks [1, 1, 1, 1, 1, 1, 1, 1, 1, 1, 1, 1] rfl) ?_
                  refine at_take2g 47 rfl rfl rfl rfl (by kernel_rfl) (by kernel_rfl) (by kernel_rfl) (fun _ h => h.picks [0, 0, 0, 0, 0, 0, 0, 0, 0, 0, 0, 0] rfl) rfl rfl (p_mv rfl) (fun _ h => h.picks [1, 1, 1, 1, 1, 1, 1, 1, 1, 1, 1, 1] rfl) ?_
                  refine at_take2g 48 rfl rfl rfl rfl (by kernel_rfl) (by kernel_rfl) (by kernel_rfl) (fun _ h => h.picks [0, 0, 0, 0, 0, 0, 0, 0, 0, 0, 0, 0] rfl) rfl rfl (p_len Tryz.underlying28 rfl (.ro 3 rfl)) (fun _ h => h.picks [1, 1, 1, 1, 1, 1, 1, 1, 1, 1, 1, 1] rfl) ?_
                  refine at_take2g 49 rfl rfl rfl rfl (by kernel_rfl) (by kernel_rfl) (by kernel_rfl) (fun _ h => h.picks [0, 0, 0, 0, 0, 0, 0, 0, 0, 0, 0, 0] rfl) rfl rfl (p_gtr rfl rfl) (fun _ h => h.picks [1, 1, 1, 1, 1, 1, 1, 1, 1, 1, 1, 1] rfl) ?_
                  refine at_each (rs := [50]) (by kernel_rfl) (by decide) ?_
                  refine (.cons rfl (fun I cnI => ?_) .nil)
                  ·refine lp rfl (p_pkf rfl rfl) ?_
                   refine lj_nil ?_
                   refine cnI _ _ (sof1 rfl rfl (fun _ h => h.picks [1, 1, 1, 1, 1, 1, 1, 1, 1, 1, 1, 1] rfl)) ?_
                   refine at_done (by kernel_rfl) ?_
                   exact cnk19 _ _ (decide ((y15.1.length : Int) > (y4.1.length : Int))) () (Option.some.inj hm).symm ⟨rfl, rfl, rfl, rfl, rfl, rfl, rfl, trivial⟩ (fun _ h => h.picks [2, 2, 2, 2, 2, 3, 5, 5] rfl)
end Go.Proofs.YtdeoejkgmeemaafGreatDoor
