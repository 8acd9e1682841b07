/- The walks. Written by program. -/
import Derived.Test.YtgfbgcdnnkehbaaGreatDoorW
namespace Go.Proofs.YtgfbgcdnnkehbaaGreatDoor
open Go Go.J Go.G
set_option maxRecDepth 100000
set_option linter.unusedVariables false
set_option linter.unusedSimpArgs false
theorem ok_club_usesOf (a0 : Int) {r : Tclub_uses} (hm : m_club_usesOf a0 = some r) :
  Ctr Tryz.prog 99 [.int .i64 a0].toArray ([] : List Ent) [] (X := Unit) (fun _ => .agg (R152.enc r).toArray) (fun _ => []) := by
 unfold m_club_usesOf at hm
 refine ctr_mk (vs := [(0, .int .i64 a0)]) Tryz.func99 rfl Tryz.ntmps99 rfl ⟨rfl, trivial⟩ (fun w0 A => ?_)
 refine cj_seq ?_
 refine cj_reg ?_
 refine r_al ty152 rfl (fun b1 => ?_)
 refine lj_seq ?_
 refine cj_seq ?_
 refine cj_reg ?_
 refine lp rfl (p_mv rfl) ?_
 refine lp rfl (p_eql rfl rfl) ?_
 refine lp rfl (p_mv rfl) ?_
 refine lp rfl (p_eql rfl rfl) ?_
 refine lp rfl (p_mv rfl) ?_
 refine lp rfl (p_eql rfl rfl) ?_
 refine lp rfl (p_as rfl) ?_
 refine lp rfl (p_as rfl) ?_
 refine lp rfl (p_as rfl) ?_
 refine lj_seq ?_
 refine cj_seq ?_
 refine cj_reg ?_
 refine lp rfl (p_mv rfl) ?_
 refine lp rfl (p_mv rfl) ?_
 refine lcase (i := 13) (a0 == 1) rfl (fun hb => ?_) (fun hb => ?_)
 ·have hm := ifB_t hb hm
  refine ls false rfl rfl rfl rfl ?_
  refine ls false rfl rfl rfl rfl ?_
  refine lp rfl (p_pkt rfl rfl) ?_
  refine lp rfl (p_mv rfl) ?_
  refine ls false rfl rfl rfl rfl ?_
  refine lp rfl (p_pkt rfl rfl) ?_
  refine lp rfl (p_mv rfl) ?_
  refine ls false rfl rfl rfl rfl ?_
  refine lp rfl (p_pkt rfl rfl) ?_
  refine lp rfl (p_mv rfl) ?_
  refine lp rfl (p_eql rfl rfl) ?_
  refine lp rfl (p_mv rfl) ?_
  refine lcase (i := 25) (a0 == 4) rfl (fun hb => ?_) (fun hb => ?_)
  ·have hm := ifB_t hb hm
   refine ls false rfl rfl rfl rfl ?_
   refine lp rfl (p_pkt rfl rfl) ?_
   refine lp rfl (p_mv rfl) ?_
   refine ls false rfl rfl rfl rfl ?_
   refine ls false rfl rfl rfl rfl ?_
   refine lp rfl (p_pkt rfl rfl) ?_
   refine lp rfl (p_mv rfl) ?_
   refine lp rfl (p_mv rfl) ?_
   refine lcase (i := 33) (a0 == 1) rfl (fun hb => ?_) (fun hb => ?_)
   ·have hm := ifB_t hb hm
    refine ls false rfl rfl rfl rfl ?_
    refine lp rfl (p_pkt rfl rfl) ?_
    refine lp rfl (p_mv rfl) ?_
    refine lp rfl (p_mv rfl) ?_
    refine lp rfl (p_eql rfl rfl) ?_
    refine lp rfl (p_bld [.bool true, .bool true, .bool true, .bool (a0 == 5), .bool (a0 == 7)] rfl (fun _ => by kernel_rfl)) ?_
    refine r_sb (vs := [.bool true, .bool true, .bool true, .bool (a0 == 5), .bool (a0 == 7)]) (j := 0) ty152 rfl rfl rfl rfl rfl rfl rfl ?_
    refine lj_seq ?_
    obtain rfl := Option.some.inj hm
    exact cj_rt () [] Tryz.results99 (.agg (k := 0) ty152 rfl rfl rfl .nil) rfl rfl
   ·have hm := ifB_f hb hm
    refine lg false rfl rfl rfl ?_
    refine lp rfl (p_mv rfl) ?_
    refine lp rfl (p_pkf rfl rfl) ?_
    refine lp rfl (p_mv rfl) ?_
    refine lp rfl (p_mv rfl) ?_
    refine lp rfl (p_eql rfl rfl) ?_
    refine lp rfl (p_bld [.bool true, .bool true, .bool (a0 == 3), .bool (a0 == 5), .bool (a0 == 7)] rfl (fun _ => by kernel_rfl)) ?_
    refine r_sb (vs := [.bool true, .bool true, .bool (a0 == 3), .bool (a0 == 5), .bool (a0 == 7)]) (j := 0) ty152 rfl rfl rfl rfl rfl rfl rfl ?_
    refine lj_seq ?_
    obtain rfl := Option.some.inj hm
    exact cj_rt () [] Tryz.results99 (.agg (k := 0) ty152 rfl rfl rfl .nil) rfl rfl
  ·have hm := ifB_f hb hm
   refine lg false rfl rfl rfl ?_
   refine lp rfl (p_mv rfl) ?_
   refine lp rfl (p_pkf rfl rfl) ?_
   refine lp rfl (p_mv rfl) ?_
   refine lcase (i := 28) (a0 == 5) rfl (fun hb => ?_) (fun hb => ?_)
   ·have hm := ifB_t hb hm
    refine ls false rfl rfl rfl rfl ?_
    refine ls false rfl rfl rfl rfl ?_
    refine lp rfl (p_pkt rfl rfl) ?_
    refine lp rfl (p_mv rfl) ?_
    refine lp rfl (p_mv rfl) ?_
    refine lcase (i := 33) (a0 == 1) rfl (fun hb => ?_) (fun hb => ?_)
    ·have hm := ifB_t hb hm
     refine ls false rfl rfl rfl rfl ?_
     refine lp rfl (p_pkt rfl rfl) ?_
     refine lp rfl (p_mv rfl) ?_
     refine lp rfl (p_mv rfl) ?_
     refine lp rfl (p_eql rfl rfl) ?_
     refine lp rfl (p_bld [.bool true, .bool true, .bool true, .bool (a0 == 5), .bool (a0 == 7)] rfl (fun _ => by kernel_rfl)) ?_
     refine r_sb (vs := [.bool true, .bool true, .bool true, .bool (a0 == 5), .bool (a0 == 7)]) (j := 0) ty152 rfl rfl rfl rfl rfl rfl rfl ?_
     refine lj_seq ?_
     obtain rfl := Option.some.inj hm
     exact cj_rt () [] Tryz.results99 (.agg (k := 0) ty152 rfl rfl rfl .nil) rfl rfl
    ·have hm := ifB_f hb hm
     refine lg false rfl rfl rfl ?_
     refine lp rfl (p_mv rfl) ?_
     refine lp rfl (p_pkf rfl rfl) ?_
     refine lp rfl (p_mv rfl) ?_
     refine lp rfl (p_mv rfl) ?_
     refine lp rfl (p_eql rfl rfl) ?_
     refine lp rfl (p_bld [.bool true, .bool true, .bool (a0 == 3), .bool (a0 == 5), .bool (a0 == 7)] rfl (fun _ => by kernel_rfl)) ?_
     refine r_sb (vs := [.bool true, .bool true, .bool (a0 == 3), .bool (a0 == 5), .bool (a0 == 7)]) (j := 0) ty152 rfl rfl rfl rfl rfl rfl rfl ?_
     refine lj_seq ?_
     obtain rfl := Option.some.inj hm
     exact cj_rt () [] Tryz.results99 (.agg (k := 0) ty152 rfl rfl rfl .nil) rfl rfl
   ·have hm := ifB_f hb hm
    refine lg false rfl rfl rfl ?_
    refine lp rfl (p_mv rfl) ?_
    refine lg false rfl rfl rfl ?_
    refine lp rfl (p_eql rfl rfl) ?_
    refine lp rfl (p_pkf rfl rfl) ?_
    refine lp rfl (p_mv rfl) ?_
    refine lp rfl (p_mv rfl) ?_
    refine lcase (i := 33) (a0 == 1) rfl (fun hb => ?_) (fun hb => ?_)
    ·have hm := ifB_t hb hm
     refine ls false rfl rfl rfl rfl ?_
     refine lp rfl (p_pkt rfl rfl) ?_
     refine lp rfl (p_mv rfl) ?_
     refine lp rfl (p_mv rfl) ?_
     refine lp rfl (p_eql rfl rfl) ?_
     refine lp rfl (p_bld [.bool true, .bool (a0 == 6), .bool true, .bool (a0 == 5), .bool (a0 == 7)] rfl (fun _ => by kernel_rfl)) ?_
     refine r_sb (vs := [.bool true, .bool (a0 == 6), .bool true, .bool (a0 == 5), .bool (a0 == 7)]) (j := 0) ty152 rfl rfl rfl rfl rfl rfl rfl ?_
     refine lj_seq ?_
     obtain rfl := Option.some.inj hm
     exact cj_rt () [] Tryz.results99 (.agg (k := 0) ty152 rfl rfl rfl .nil) rfl rfl
    ·have hm := ifB_f hb hm
     refine lg false rfl rfl rfl ?_
     refine lp rfl (p_mv rfl) ?_
     refine lp rfl (p_pkf rfl rfl) ?_
     refine lp rfl (p_mv rfl) ?_
     refine lp rfl (p_mv rfl) ?_
     refine lp rfl (p_eql rfl rfl) ?_
     refine lp rfl (p_bld [.bool true, .bool (a0 == 6), .bool (a0 == 3), .bool (a0 == 5), .bool (a0 == 7)] rfl (fun _ => by kernel_rfl)) ?_
     refine r_sb (vs := [.bool true, .bool (a0 == 6), .bool (a0 == 3), .bool (a0 == 5), .bool (a0 == 7)]) (j := 0) ty152 rfl rfl rfl rfl rfl rfl rfl ?_
     refine lj_seq ?_
     obtain rfl := Option.some.inj hm
     exact cj_rt () [] Tryz.results99 (.agg (k := 0) ty152 rfl rfl rfl .nil) rfl rfl
 ·have hm := ifB_f hb hm
  refine lg false rfl rfl rfl ?_
  refine lp rfl (p_mv rfl) ?_
  refine lg false rfl rfl rfl ?_
  refine lp rfl (p_eql rfl rfl) ?_
  refine lp rfl (p_pkf rfl rfl) ?_
  refine lp rfl (p_mv rfl) ?_
  refine lcase (i := 17) (a0 == 2) rfl (fun hb => ?_) (fun hb => ?_)
  ·have hm := ifB_t hb hm
   refine ls false rfl rfl rfl rfl ?_
   refine lp rfl (p_pkt rfl rfl) ?_
   refine lp rfl (p_mv rfl) ?_
   refine ls false rfl rfl rfl rfl ?_
   refine lp rfl (p_pkt rfl rfl) ?_
   refine lp rfl (p_mv rfl) ?_
   refine lp rfl (p_eql rfl rfl) ?_
   refine lp rfl (p_mv rfl) ?_
   refine lcase (i := 25) (a0 == 4) rfl (fun hb => ?_) (fun hb => ?_)
   ·have hm := ifB_t hb hm
    refine ls false rfl rfl rfl rfl ?_
    refine lp rfl (p_pkt rfl rfl) ?_
    refine lp rfl (p_mv rfl) ?_
    refine ls false rfl rfl rfl rfl ?_
    refine ls false rfl rfl rfl rfl ?_
    refine lp rfl (p_pkt rfl rfl) ?_
    refine lp rfl (p_mv rfl) ?_
    refine lp rfl (p_mv rfl) ?_
    refine lcase (i := 33) (a0 == 1) rfl (fun hb => ?_) (fun hb => ?_)
    ·have hm := ifB_t hb hm
     refine ls false rfl rfl rfl rfl ?_
     refine lp rfl (p_pkt rfl rfl) ?_
     refine lp rfl (p_mv rfl) ?_
     refine lp rfl (p_mv rfl) ?_
     refine lp rfl (p_eql rfl rfl) ?_
     refine lp rfl (p_bld [.bool true, .bool true, .bool true, .bool (a0 == 5), .bool (a0 == 7)] rfl (fun _ => by kernel_rfl)) ?_
     refine r_sb (vs := [.bool true, .bool true, .bool true, .bool (a0 == 5), .bool (a0 == 7)]) (j := 0) ty152 rfl rfl rfl rfl rfl rfl rfl ?_
     refine lj_seq ?_
     obtain rfl := Option.some.inj hm
     exact cj_rt () [] Tryz.results99 (.agg (k := 0) ty152 rfl rfl rfl .nil) rfl rfl
    ·have hm := ifB_f hb hm
     refine lg false rfl rfl rfl ?_
     refine lp rfl (p_mv rfl) ?_
     refine lp rfl (p_pkf rfl rfl) ?_
     refine lp rfl (p_mv rfl) ?_
     refine lp rfl (p_mv rfl) ?_
     refine lp rfl (p_eql rfl rfl) ?_
     refine lp rfl (p_bld [.bool true, .bool true, .bool (a0 == 3), .bool (a0 == 5), .bool (a0 == 7)] rfl (fun _ => by kernel_rfl)) ?_
     refine r_sb (vs := [.bool true, .bool true, .bool (a0 == 3), .bool (a0 == 5), .bool (a0 == 7)]) (j := 0) ty152 rfl rfl rfl rfl rfl rfl rfl ?_
     refine lj_seq ?_
     obtain rfl := Option.some.inj hm
     exact cj_rt () [] Tryz.results99 (.agg (k := 0) ty152 rfl rfl rfl .nil) rfl rfl
   ·have hm := ifB_f hb hm
    refine lg false rfl rfl rfl ?_
    refine lp rfl (p_mv rfl) ?_
    refine lp rfl (p_pkf rfl rfl) ?_
    refine lp rfl (p_mv rfl) ?_
    refine lcase (i := 28) (a0 == 5) rfl (fun hb => ?_) (fun hb => ?_)
    ·have hm := ifB_t hb hm
     refine ls false rfl rfl rfl rfl ?_
     refine ls false rfl rfl rfl rfl ?_
     refine lp rfl (p_pkt rfl rfl) ?_
     refine lp rfl (p_mv rfl) ?_
     refine lp rfl (p_mv rfl) ?_
     refine lcase (i := 33) (a0 == 1) rfl (fun hb => ?_) (fun hb => ?_)
     ·have hm := ifB_t hb hm
      refine ls false rfl rfl rfl rfl ?_
      refine lp rfl (p_pkt rfl rfl) ?_
      refine lp rfl (p_mv rfl) ?_
      refine lp rfl (p_mv rfl) ?_
      refine lp rfl (p_eql rfl rfl) ?_
      refine lp rfl (p_bld [.bool true, .bool true, .bool true, .bool (a0 == 5), .bool (a0 == 7)] rfl (fun _ => by kernel_rfl)) ?_
      refine r_sb (vs := [.bool true, .bool true, .bool true, .bool (a0 == 5), .bool (a0 == 7)]) (j := 0) ty152 rfl rfl rfl rfl rfl rfl rfl ?_
      refine lj_seq ?_
      obtain rfl := Option.some.inj hm
      exact cj_rt () [] Tryz.results99 (.agg (k := 0) ty152 rfl rfl rfl .nil) rfl rfl
     ·have hm := ifB_f hb hm
      refine lg false rfl rfl rfl ?_
      refine lp rfl (p_mv rfl) ?_
      refine lp rfl (p_pkf rfl rfl) ?_
      refine lp rfl (p_mv rfl) ?_
      refine lp rfl (p_mv rfl) ?_
      refine lp rfl (p_eql rfl rfl) ?_
      refine lp rfl (p_bld [.bool true, .bool true, .bool (a0 == 3), .bool (a0 == 5), .bool (a0 == 7)] rfl (fun _ => by kernel_rfl)) ?_
      refine r_sb (vs := [.bool true, .bool true, .bool (a0 == 3), .bool (a0 == 5), .bool (a0 == 7)]) (j := 0) ty152 rfl rfl rfl rfl rfl rfl rfl ?_
      refine lj_seq ?_
      obtain rfl := Option.some.inj hm
      exact cj_rt () [] Tryz.results99 (.agg (k := 0) ty152 rfl rfl rfl .nil) rfl rfl
    ·have hm := ifB_f hb hm
     refine lg false rfl rfl rfl ?_
     refine lp rfl (p_mv rfl) ?_
     refine lg false rfl rfl rfl ?_
     refine lp rfl (p_eql rfl rfl) ?_
     refine lp rfl (p_pkf rfl rfl) ?_
     refine lp rfl (p_mv rfl) ?_
     refine lp rfl (p_mv rfl) ?_
     refine lcase (i := 33) (a0 == 1) rfl (fun hb => ?_) (fun hb => ?_)
     ·have hm := ifB_t hb hm
      refine ls false rfl rfl rfl rfl ?_
      refine lp rfl (p_pkt rfl rfl) ?_
      refine lp rfl (p_mv rfl) ?_
      refine lp rfl (p_mv rfl) ?_
      refine lp rfl (p_eql rfl rfl) ?_
      refine lp rfl (p_bld [.bool true, .bool (a0 == 6), .bool true, .bool (a0 == 5), .bool (a0 == 7)] rfl (fun _ => by kernel_rfl)) ?_
      refine r_sb (vs := [.bool true, .bool (a0 == 6), .bool true, .bool (a0 == 5), .bool (a0 == 7)]) (j := 0) ty152 rfl rfl rfl rfl rfl rfl rfl ?_
      refine lj_seq ?_
      obtain rfl := Option.some.inj hm
      exact cj_rt () [] Tryz.results99 (.agg (k := 0) ty152 rfl rfl rfl .nil) rfl rfl
     ·have hm := ifB_f hb hm
      refine lg false rfl rfl rfl ?_
      refine lp rfl (p_mv rfl) ?_
      refine lp rfl (p_pkf rfl rfl) ?_
      refine lp rfl (p_mv rfl) ?_
      refine lp rfl (p_mv rfl) ?_
      refine lp rfl (p_eql rfl rfl) ?_
      refine lp rfl (p_bld [.bool true, .bool (a0 == 6), .bool (a0 == 3), .bool (a0 == 5), .bool (a0 == 7)] rfl (fun _ => by kernel_rfl)) ?_
      refine r_sb (vs := [.bool true, .bool (a0 == 6), .bool (a0 == 3), .bool (a0 == 5), .bool (a0 == 7)]) (j := 0) ty152 rfl rfl rfl rfl rfl rfl rfl ?_
      refine lj_seq ?_
      obtain rfl := Option.some.inj hm
      exact cj_rt () [] Tryz.results99 (.agg (k := 0) ty152 rfl rfl rfl .nil) rfl rfl
  ·have hm := ifB_f hb hm
   refine lg false rfl rfl rfl ?_
   refine lp rfl (p_mv rfl) ?_
   refine lp rfl (p_pkf rfl rfl) ?_
   refine lp rfl (p_mv rfl) ?_
   refine lcase (i := 20) (a0 == 3) rfl (fun hb => ?_) (fun hb => ?_)
   ·have hm := ifB_t hb hm
    refine ls false rfl rfl rfl rfl ?_
    refine lp rfl (p_pkt rfl rfl) ?_
    refine lp rfl (p_mv rfl) ?_
    refine lp rfl (p_eql rfl rfl) ?_
    refine lp rfl (p_mv rfl) ?_
    refine lcase (i := 25) (a0 == 4) rfl (fun hb => ?_) (fun hb => ?_)
    ·have hm := ifB_t hb hm
     refine ls false rfl rfl rfl rfl ?_
     refine lp rfl (p_pkt rfl rfl) ?_
     refine lp rfl (p_mv rfl) ?_
     refine ls false rfl rfl rfl rfl ?_
     refine ls false rfl rfl rfl rfl ?_
     refine lp rfl (p_pkt rfl rfl) ?_
     refine lp rfl (p_mv rfl) ?_
     refine lp rfl (p_mv rfl) ?_
     refine lcase (i := 33) (a0 == 1) rfl (fun hb => ?_) (fun hb => ?_)
     ·have hm := ifB_t hb hm
      refine ls false rfl rfl rfl rfl ?_
      refine lp rfl (p_pkt rfl rfl) ?_
      refine lp rfl (p_mv rfl) ?_
      refine lp rfl (p_mv rfl) ?_
      refine lp rfl (p_eql rfl rfl) ?_
      refine lp rfl (p_bld [.bool true, .bool true, .bool true, .bool (a0 == 5), .bool (a0 == 7)] rfl (fun _ => by kernel_rfl)) ?_
      refine r_sb (vs := [.bool true, .bool true, .bool true, .bool (a0 == 5), .bool (a0 == 7)]) (j := 0) ty152 rfl rfl rfl rfl rfl rfl rfl ?_
      refine lj_seq ?_
      obtain rfl := Option.some.inj hm
      exact cj_rt () [] Tryz.results99 (.agg (k := 0) ty152 rfl rfl rfl .nil) rfl rfl
     ·have hm := ifB_f hb hm
      refine lg false rfl rfl rfl ?_
      refine lp rfl (p_mv rfl) ?_
      refine lp rfl (p_pkf rfl rfl) ?_
      refine lp rfl (p_mv rfl) ?_
      refine lp rfl (p_mv rfl) ?_
      refine lp rfl (p_eql rfl rfl) ?_
      refine lp rfl (p_bld [.bool true, .bool true, .bool (a0 == 3), .bool (a0 == 5), .bool (a0 == 7)] rfl (fun _ => by kernel_rfl)) ?_
      refine r_sb (vs := [.bool true, .bool true, .bool (a0 == 3), .bool (a0 == 5), .bool (a0 == 7)]) (j := 0) ty152 rfl rfl rfl rfl rfl rfl rfl ?_
      refine lj_seq ?_
      obtain rfl := Option.some.inj hm
      exact cj_rt () [] Tryz.results99 (.agg (k := 0) ty152 rfl rfl rfl .nil) rfl rfl
    ·have hm := ifB_f hb hm
     refine lg false rfl rfl rfl ?_
     refine lp rfl (p_mv rfl) ?_
     refine lp rfl (p_pkf rfl rfl) ?_
     refine lp rfl (p_mv rfl) ?_
     refine lcase (i := 28) (a0 == 5) rfl (fun hb => ?_) (fun hb => ?_)
     ·have hm := ifB_t hb hm
      refine ls false rfl rfl rfl rfl ?_
      refine ls false rfl rfl rfl rfl ?_
      refine lp rfl (p_pkt rfl rfl) ?_
      refine lp rfl (p_mv rfl) ?_
      refine lp rfl (p_mv rfl) ?_
      refine lcase (i := 33) (a0 == 1) rfl (fun hb => ?_) (fun hb => ?_)
      ·have hm := ifB_t hb hm
       refine ls false rfl rfl rfl rfl ?_
       refine lp rfl (p_pkt rfl rfl) ?_
       refine lp rfl (p_mv rfl) ?_
       refine lp rfl (p_mv rfl) ?_
       refine lp rfl (p_eql rfl rfl) ?_
       refine lp rfl (p_bld [.bool true, .bool true, .bool true, .bool (a0 == 5), .bool (a0 == 7)] rfl (fun _ => by kernel_rfl)) ?_
       refine r_sb (vs := [.bool true, .bool true, .bool true, .bool (a0 == 5), .bool (a0 == 7)]) (j := 0) ty152 rfl rfl rfl rfl rfl rfl rfl ?_
       refine lj_seq ?_
       obtain rfl := Option.some.inj hm
       exact cj_rt () [] Tryz.results99 (.agg (k := 0) ty152 rfl rfl rfl .nil) rfl rfl
      ·have hm := ifB_f hb hm
       refine lg false rfl rfl rfl ?_
       refine lp rfl (p_mv rfl) ?_
       refine lp rfl (p_pkf rfl rfl) ?_
       refine lp rfl (p_mv rfl) ?_
       refine lp rfl (p_mv rfl) ?_
       refine lp rfl (p_eql rfl rfl) ?_
       refine lp rfl (p_bld [.bool true, .bool true, .bool (a0 == 3), .bool (a0 == 5), .bool (a0 == 7)] rfl (fun _ => by kernel_rfl)) ?_
       refine r_sb (vs := [.bool true, .bool true, .bool (a0 == 3), .bool (a0 == 5), .bool (a0 == 7)]) (j := 0) ty152 rfl rfl rfl rfl rfl rfl rfl ?_
       refine lj_seq ?_
       obtain rfl := Option.some.inj hm
       exact cj_rt () [] Tryz.results99 (.agg (k := 0) ty152 rfl rfl rfl .nil) rfl rfl
     ·have hm := ifB_f hb hm
      refine lg false rfl rfl rfl ?_
      refine lp rfl (p_mv rfl) ?_
      refine lg false rfl rfl rfl ?_
      refine lp rfl (p_eql rfl rfl) ?_
      refine lp rfl (p_pkf rfl rfl) ?_
      refine lp rfl (p_mv rfl) ?_
      refine lp rfl (p_mv rfl) ?_
      refine lcase (i := 33) (a0 == 1) rfl (fun hb => ?_) (fun hb => ?_)
      ·have hm := ifB_t hb hm
       refine ls false rfl rfl rfl rfl ?_
       refine lp rfl (p_pkt rfl rfl) ?_
       refine lp rfl (p_mv rfl) ?_
       refine lp rfl (p_mv rfl) ?_
       refine lp rfl (p_eql rfl rfl) ?_
       refine lp rfl (p_bld [.bool true, .bool (a0 == 6), .bool true, .bool (a0 == 5), .bool (a0 == 7)] rfl (fun _ => by kernel_rfl)) ?_
       refine r_sb (vs := [.bool true, .bool (a0 == 6), .bool true, .bool (a0 == 5), .bool (a0 == 7)]) (j := 0) ty152 rfl rfl rfl rfl rfl rfl rfl ?_
       refine lj_seq ?_
       obtain rfl := Option.some.inj hm
       exact cj_rt () [] Tryz.results99 (.agg (k := 0) ty152 rfl rfl rfl .nil) rfl rfl
      ·have hm := ifB_f hb hm
       refine lg false rfl rfl rfl ?_
       refine lp rfl (p_mv rfl) ?_
       refine lp rfl (p_pkf rfl rfl) ?_
       refine lp rfl (p_mv rfl) ?_
       refine lp rfl (p_mv rfl) ?_
       refine lp rfl (p_eql rfl rfl) ?_
       refine lp rfl (p_bld [.bool true, .bool (a0 == 6), .bool (a0 == 3), .bool (a0 == 5), .bool (a0 == 7)] rfl (fun _ => by kernel_rfl)) ?_
       refine r_sb (vs := [.bool true, .bool (a0 == 6), .bool (a0 == 3), .bool (a0 == 5), .bool (a0 == 7)]) (j := 0) ty152 rfl rfl rfl rfl rfl rfl rfl ?_
       refine lj_seq ?_
       obtain rfl := Option.some.inj hm
       exact cj_rt () [] Tryz.results99 (.agg (k := 0) ty152 rfl rfl rfl .nil) rfl rfl
   ·have hm := ifB_f hb hm
    refine lg false rfl rfl rfl ?_
    refine lp rfl (p_mv rfl) ?_
    refine lp rfl (p_pkf rfl rfl) ?_
    refine lp rfl (p_mv rfl) ?_
    refine lp rfl (p_eql rfl rfl) ?_
    refine lp rfl (p_mv rfl) ?_
    refine lcase (i := 25) (a0 == 4) rfl (fun hb => ?_) (fun hb => ?_)
    ·have hm := ifB_t hb hm
     refine ls false rfl rfl rfl rfl ?_
     refine lp rfl (p_pkt rfl rfl) ?_
     refine lp rfl (p_mv rfl) ?_
     refine ls false rfl rfl rfl rfl ?_
     refine ls false rfl rfl rfl rfl ?_
     refine lp rfl (p_pkt rfl rfl) ?_
     refine lp rfl (p_mv rfl) ?_
     refine lp rfl (p_mv rfl) ?_
     refine lcase (i := 33) (a0 == 1) rfl (fun hb => ?_) (fun hb => ?_)
     ·have hm := ifB_t hb hm
      refine ls false rfl rfl rfl rfl ?_
      refine lp rfl (p_pkt rfl rfl) ?_
      refine lp rfl (p_mv rfl) ?_
      refine lp rfl (p_mv rfl) ?_
      refine lp rfl (p_eql rfl rfl) ?_
      refine lp rfl (p_bld [.bool (a0 == 5), .bool true, .bool true, .bool (a0 == 5), .bool (a0 == 7)] rfl (fun _ => by kernel_rfl)) ?_
      refine r_sb (vs := [.bool (a0 == 5), .bool true, .bool true, .bool (a0 == 5), .bool (a0 == 7)]) (j := 0) ty152 rfl rfl rfl rfl rfl rfl rfl ?_
      refine lj_seq ?_
      obtain rfl := Option.some.inj hm
      exact cj_rt () [] Tryz.results99 (.agg (k := 0) ty152 rfl rfl rfl .nil) rfl rfl
     ·have hm := ifB_f hb hm
      refine lg false rfl rfl rfl ?_
      refine lp rfl (p_mv rfl) ?_
      refine lp rfl (p_pkf rfl rfl) ?_
      refine lp rfl (p_mv rfl) ?_
      refine lp rfl (p_mv rfl) ?_
      refine lp rfl (p_eql rfl rfl) ?_
      refine lp rfl (p_bld [.bool (a0 == 5), .bool true, .bool (a0 == 3), .bool (a0 == 5), .bool (a0 == 7)] rfl (fun _ => by kernel_rfl)) ?_
      refine r_sb (vs := [.bool (a0 == 5), .bool true, .bool (a0 == 3), .bool (a0 == 5), .bool (a0 == 7)]) (j := 0) ty152 rfl rfl rfl rfl rfl rfl rfl ?_
      refine lj_seq ?_
      obtain rfl := Option.some.inj hm
      exact cj_rt () [] Tryz.results99 (.agg (k := 0) ty152 rfl rfl rfl .nil) rfl rfl
    ·have hm := ifB_f hb hm
     refine lg false rfl rfl rfl ?_
     refine lp rfl (p_mv rfl) ?_
     refine lp rfl (p_pkf rfl rfl) ?_
     refine lp rfl (p_mv rfl) ?_
     refine lcase (i := 28) (a0 == 5) rfl (fun hb => ?_) (fun hb => ?_)
     ·have hm := ifB_t hb hm
      refine ls false rfl rfl rfl rfl ?_
      refine ls false rfl rfl rfl rfl ?_
      refine lp rfl (p_pkt rfl rfl) ?_
      refine lp rfl (p_mv rfl) ?_
      refine lp rfl (p_mv rfl) ?_
      refine lcase (i := 33) (a0 == 1) rfl (fun hb => ?_) (fun hb => ?_)
      ·have hm := ifB_t hb hm
       refine ls false rfl rfl rfl rfl ?_
       refine lp rfl (p_pkt rfl rfl) ?_
       refine lp rfl (p_mv rfl) ?_
       refine lp rfl (p_mv rfl) ?_
       refine lp rfl (p_eql rfl rfl) ?_
       refine lp rfl (p_bld [.bool (a0 == 5), .bool true, .bool true, .bool (a0 == 5), .bool (a0 == 7)] rfl (fun _ => by kernel_rfl)) ?_
       refine r_sb (vs := [.bool (a0 == 5), .bool true, .bool true, .bool (a0 == 5), .bool (a0 == 7)]) (j := 0) ty152 rfl rfl rfl rfl rfl rfl rfl ?_
       refine lj_seq ?_
       obtain rfl := Option.some.inj hm
       exact cj_rt () [] Tryz.results99 (.agg (k := 0) ty152 rfl rfl rfl .nil) rfl rfl
      ·have hm := ifB_f hb hm
       refine lg false rfl rfl rfl ?_
       refine lp rfl (p_mv rfl) ?_
       refine lp rfl (p_pkf rfl rfl) ?_
       refine lp rfl (p_mv rfl) ?_
       refine lp rfl (p_mv rfl) ?_
       refine lp rfl (p_eql rfl rfl) ?_
       refine lp rfl (p_bld [.bool (a0 == 5), .bool true, .bool (a0 == 3), .bool (a0 == 5), .bool (a0 == 7)] rfl (fun _ => by kernel_rfl)) ?_
       refine r_sb (vs := [.bool (a0 == 5), .bool true, .bool (a0 == 3), .bool (a0 == 5), .bool (a0 == 7)]) (j := 0) ty152 rfl rfl rfl rfl rfl rfl rfl ?_
       refine lj_seq ?_
       obtain rfl := Option.some.inj hm
       exact cj_rt () [] Tryz.results99 (.agg (k := 0) ty152 rfl rfl rfl .nil) rfl rfl
     ·have hm := ifB_f hb hm
      refine lg false rfl rfl rfl ?_
      refine lp rfl (p_mv rfl) ?_
      refine lg false rfl rfl rfl ?_
      refine lp rfl (p_eql rfl rfl) ?_
      refine lp rfl (p_pkf rfl rfl) ?_
      refine lp rfl (p_mv rfl) ?_
      refine lp rfl (p_mv rfl) ?_
      refine lcase (i := 33) (a0 == 1) rfl (fun hb => ?_) (fun hb => ?_)
      ·have hm := ifB_t hb hm
       refine ls false rfl rfl rfl rfl ?_
       refine lp rfl (p_pkt rfl rfl) ?_
       refine lp rfl (p_mv rfl) ?_
       refine lp rfl (p_mv rfl) ?_
       refine lp rfl (p_eql rfl rfl) ?_
       refine lp rfl (p_bld [.bool (a0 == 5), .bool (a0 == 6), .bool true, .bool (a0 == 5), .bool (a0 == 7)] rfl (fun _ => by kernel_rfl)) ?_
       refine r_sb (vs := [.bool (a0 == 5), .bool (a0 == 6), .bool true, .bool (a0 == 5), .bool (a0 == 7)]) (j := 0) ty152 rfl rfl rfl rfl rfl rfl rfl ?_
       refine lj_seq ?_
       obtain rfl := Option.some.inj hm
       exact cj_rt () [] Tryz.results99 (.agg (k := 0) ty152 rfl rfl rfl .nil) rfl rfl
      ·have hm := ifB_f hb hm
       refine lg false rfl rfl rfl ?_
       refine lp rfl (p_mv rfl) ?_
       refine lp rfl (p_pkf rfl rfl) ?_
       refine lp rfl (p_mv rfl) ?_
       refine lp rfl (p_mv rfl) ?_
       refine lp rfl (p_eql rfl rfl) ?_
       refine lp rfl (p_bld [.bool (a0 == 5), .bool (a0 == 6), .bool (a0 == 3), .bool (a0 == 5), .bool (a0 == 7)] rfl (fun _ => by kernel_rfl)) ?_
       refine r_sb (vs := [.bool (a0 == 5), .bool (a0 == 6), .bool (a0 == 3), .bool (a0 == 5), .bool (a0 == 7)]) (j := 0) ty152 rfl rfl rfl rfl rfl rfl rfl ?_
       refine lj_seq ?_
       obtain rfl := Option.some.inj hm
       exact cj_rt () [] Tryz.results99 (.agg (k := 0) ty152 rfl rfl rfl .nil) rfl rfl
set_option maxHeartbeats 8000000 in
theorem ok_club_formed (a0 : TAct) {r : Int} (hm : m_club_formed a0 = some r) :
  Ctr Tryz.prog 74 [.agg (R33.enc a0).toArray].toArray ([] : List Ent) [] (X := Unit) (fun _ => .int .i64 r) (fun _ => []) := by
 unfold m_club_formed at hm
 refine ctr_mk (vs := [(0, .agg (R33.enc a0).toArray)]) Tryz.func74 rfl Tryz.ntmps74 rfl ⟨rfl, trivial⟩ (fun w0 A => ?_)
 refine cj_seq ?_
 refine cj_reg ?_
 refine r_bx (cs := [.string a0.Site, .int .i64 a0.No, .int .i64 a0.At, .int .i64 a0.Kind, .string a0.Who, .string a0.Motion, .int .i64 a0.Cents, .bool a0.Yes, .string a0.Of, .int .i64 a0.Other]) rfl rfl rfl (fun b1 => ?_)
 refine lp rfl (p_as rfl) ?_
 refine lj_seq ?_
 refine cj_seq ?_
 refine cj_blk ?_
 refine cj_seq ?_
 refine cj_reg ?_
 refine lp rfl (p_fab fl33_0 rfl) ?_
 refine lp rfl (p_lbs ty9 rfl (j := 0) rfl rfl) ?_
 obtain ⟨y2, hy2, hm⟩ := bindS hm
 refine r_call [] cf84 rfl rfl (ok_kit_IsKey a0.Site hy2) rfl rfl .nil (fun _ => rfl) rfl (fun _ => ?_)
 refine lp rfl (p_not rfl) ?_
 refine lp rfl (p_as rfl) ?_
 refine lj_seq ?_
 refine cj_if (b := !y2) rfl (fun hb => ?_) (fun hb => ?_)
 ·have hm := ifB_t hb hm
  refine cj_seq ?_
  refine cj_reg ?_
  refine lp rfl (p_as rfl) ?_
  refine lj_seq ?_
  obtain rfl := Option.some.inj hm
  exact cj_rt () [] Tryz.results74 (.tmp rfl .nil) rfl rfl
 ·have hm := ifB_f hb hm
  refine cj_seq ?_
  refine cj_reg ?_
  obtain ⟨k5, hk5, hm⟩ := bindS hm
  have hRk5 : ∀ t, k5 = .inr t → some t = some r := fun t e => by rw [e] at hm; exact hm
  refine lj_join (σ := Bool) (γ := Unit) (fun u3 => k5 = .inl u3) (fun u3 g4 => [(1, .pointer (some ⟨b1, 0, none⟩)), (2, .int .i64 0), (10, .bool u3)]) (fun u3 g4 => Sat w0 (keys ([] : List Ent)) A [.box b1 33 [.string a0.Site, .int .i64 a0.No, .int .i64 a0.At, .int .i64 a0.Kind, .string a0.Who, .string a0.Motion, .int .i64 a0.Cents, .bool a0.Yes, .string a0.Of, .int .i64 a0.Other]]) (fun u3 g4 hq => ?_) (fun J cnk5 => ?_)
  ·have hm := Sum.fin_l hq hm
   refine cj_if (b := u3) rfl (fun hb => ?_) (fun hb => ?_)
   ·have hm := ifB_t hb hm
    refine cj_seq ?_
    refine cj_reg ?_
    refine lp rfl (p_as rfl) ?_
    refine lj_seq ?_
    obtain rfl := Option.some.inj hm
    exact cj_rt () [] Tryz.results74 (.tmp rfl .nil) rfl rfl
   ·have hm := ifB_f hb hm
    refine cj_seq ?_
    refine cj_reg ?_
    refine lp rfl (p_fab fl33_3 rfl) ?_
    refine lp rfl (p_lbs ty3 rfl (j := 0) rfl rfl) ?_
    obtain ⟨y8, hy8, hm⟩ := bindS hm
    refine r_call [] cf76 rfl rfl (ok_kit_Outside a0.Kind 1 7 hy8) rfl rfl .nil (fun _ => rfl) rfl (fun _ => ?_)
    refine lp rfl (p_as rfl) ?_
    refine lj_seq ?_
    refine cj_if (b := y8) rfl (fun hb => ?_) (fun hb => ?_)
    ·have hm := ifB_t hb hm
     refine cj_seq ?_
     refine cj_reg ?_
     refine lp rfl (p_as rfl) ?_
     refine lj_seq ?_
     obtain rfl := Option.some.inj hm
     exact cj_rt () [] Tryz.results74 (.tmp rfl .nil) rfl rfl
    ·have hm := ifB_f hb hm
     refine cj_skip ?_
     refine nj_blk ?_
     refine nj_seq ?_
     refine cj_seq ?_
     refine cj_reg ?_
     refine lp rfl (p_fab fl33_3 rfl) ?_
     refine lp rfl (p_lbs ty3 rfl (j := 0) rfl rfl) ?_
     obtain ⟨y9, hy9, hm⟩ := bindS hm
     refine r_call [] cf99 rfl rfl (ok_club_usesOf a0.Kind hy9) rfl rfl .nil (fun _ => rfl) rfl (fun _ => ?_)
     refine r_al ty152 rfl (fun b10 => ?_)
     refine r_sb (vs := [.bool y9.who, .bool y9.motion, .bool y9.cents, .bool y9.yes, .bool y9.undo]) (j := 0) ty152 rfl rfl rfl rfl rfl rfl rfl ?_
     refine lj_seq ?_
     refine cj_seq ?_
     refine cj_reg ?_
     refine lp rfl (p_as rfl) ?_
     refine lj_seq ?_
     refine cj_seq ?_
     refine cj_seq ?_
     refine cj_reg ?_
     refine lp rfl (p_fab fl33_3 rfl) ?_
     refine lp rfl (p_lbs ty3 rfl (j := 1) rfl rfl) ?_
     refine lp rfl (p_eql rfl rfl) ?_
     refine lj_seq ?_
     obtain ⟨k13, hk13, hm⟩ := bindS hm
     have hRk13 : ∀ t, k13 = .inr t → some t = some r := fun t e => by rw [e] at hm; exact hm
     refine cj_joinK (σ := Int) (γ := Unit) (fun u11 => k13 = .inl u11) (fun u11 g12 => [(1, .pointer (some ⟨b1, 0, none⟩)), (2, .int .i64 0), (3, .pointer (some ⟨b10, 0, none⟩)), (4, .int .i64 u11)]) (fun u11 g12 => Sat w0 (keys ([] : List Ent)) A [.box b10 152 [.bool y9.who, .bool y9.motion, .bool y9.cents, .bool y9.yes, .bool y9.undo], .box b1 33 [.string a0.Site, .int .i64 a0.No, .int .i64 a0.At, .int .i64 a0.Kind, .string a0.Who, .string a0.Motion, .int .i64 a0.Cents, .bool a0.Yes, .string a0.Of, .int .i64 a0.Other]]) (fun u11 g12 hq => ?_) (fun J cnk13 => ?_)
     ·have hm := Sum.fin_l hq hm
      refine cj_seq ?_
      refine cj_blk ?_
      refine cj_seq ?_
      refine cj_reg ?_
      obtain ⟨k16, hk16, hm⟩ := bindS hm
      have hRk16 : ∀ t, k16 = .inr t → some t = some r := fun t e => by rw [e] at hm; exact hm
      refine lj_join (σ := Bool) (γ := Unit) (fun u14 => k16 = .inl u14) (fun u14 g15 => [(1, .pointer (some ⟨b1, 0, none⟩)), (2, .int .i64 0), (3, .pointer (some ⟨b10, 0, none⟩)), (4, .int .i64 u11), (30, .bool u14)]) (fun u14 g15 => Sat w0 (keys ([] : List Ent)) A [.box b10 152 [.bool y9.who, .bool y9.motion, .bool y9.cents, .bool y9.yes, .bool y9.undo], .box b1 33 [.string a0.Site, .int .i64 a0.No, .int .i64 a0.At, .int .i64 a0.Kind, .string a0.Who, .string a0.Motion, .int .i64 a0.Cents, .bool a0.Yes, .string a0.Of, .int .i64 a0.Other]]) (fun u14 g15 hq => ?_) (fun J cnk16 => ?_)
      ·have hm := Sum.fin_l hq hm
       refine cj_if (b := u14) rfl (fun hb => ?_) (fun hb => ?_)
       ·have hm := ifB_t hb hm
        refine cj_seq ?_
        refine cj_reg ?_
        refine lp rfl (p_as rfl) ?_
        refine lj_seq ?_
        obtain rfl := Option.some.inj hm
        exact cj_rt () [] Tryz.results74 (.tmp rfl .nil) rfl rfl
       ·have hm := ifB_f hb hm
        refine cj_seq ?_
        refine cj_reg ?_
        obtain ⟨k26, hk26, hm⟩ := bindS hm
        have hRk26 : ∀ t, k26 = .inr t → some t = some r := fun t e => by rw [e] at hm; exact hm
        refine lj_join (σ := Bool) (γ := Unit) (fun u24 => k26 = .inl u24) (fun u24 g25 => [(1, .pointer (some ⟨b1, 0, none⟩)), (2, .int .i64 0), (3, .pointer (some ⟨b10, 0, none⟩)), (59, .bool u24)]) (fun u24 g25 => Sat w0 (keys ([] : List Ent)) A [.box b10 152 [.bool y9.who, .bool y9.motion, .bool y9.cents, .bool y9.yes, .bool y9.undo], .box b1 33 [.string a0.Site, .int .i64 a0.No, .int .i64 a0.At, .int .i64 a0.Kind, .string a0.Who, .string a0.Motion, .int .i64 a0.Cents, .bool a0.Yes, .string a0.Of, .int .i64 a0.Other]]) (fun u24 g25 hq => ?_) (fun J cnk26 => ?_)
        ·have hm := Sum.fin_l hq hm
         refine cj_if (b := u24) rfl (fun hb => ?_) (fun hb => ?_)
         ·have hm := ifB_t hb hm
          refine cj_seq ?_
          refine cj_reg ?_
          refine lp rfl (p_as rfl) ?_
          refine lj_seq ?_
          obtain rfl := Option.some.inj hm
          exact cj_rt () [] Tryz.results74 (.tmp rfl .nil) rfl rfl
         ·have hm := ifB_f hb hm
          refine cj_seq ?_
          refine cj_reg ?_
          obtain ⟨k32, hk32, hm⟩ := bindS hm
          have hRk32 : ∀ t, k32 = .inr t → some t = some r := fun t e => by rw [e] at hm; exact hm
          refine lj_join (σ := Bool) (γ := Unit) (fun u30 => k32 = .inl u30) (fun u30 g31 => [(2, .int .i64 0), (77, .bool u30)]) (fun u30 g31 => Sat w0 (keys ([] : List Ent)) A []) (fun u30 g31 hq => ?_) (fun J cnk32 => ?_)
          ·have hm := Sum.fin_l hq hm
           refine cj_if (b := u30) rfl (fun hb => ?_) (fun hb => ?_)
           ·have hm := ifB_t hb hm
            refine cj_seq ?_
            refine cj_reg ?_
            refine lp rfl (p_as rfl) ?_
            refine lj_seq ?_
            obtain rfl := Option.some.inj hm
            exact cj_rt () [] Tryz.results74 (.tmp rfl .nil) rfl rfl
           ·have hm := ifB_f hb hm
            refine cj_skip ?_
            refine nj_blk ?_
            refine nj_seq ?_
            refine cj_seq ?_
            refine cj_reg ?_
            refine lp rfl (p_as rfl) ?_
            refine lj_seq ?_
            obtain rfl := Option.some.inj hm
            exact cj_rt () [] Tryz.results74 (.tmp rfl .nil) rfl rfl
          ·have hm := hk32
           refine lp rfl (p_fab fl152_0 rfl) ?_
           refine lp rfl (p_lbs ty4 rfl (j := 0) rfl rfl) ?_
           refine lp rfl (p_not rfl) ?_
           refine lp rfl (p_mv rfl) ?_
           refine lcase (i := 81) (!y9.who) rfl (fun hb => ?_) (fun hb => ?_)
           ·have hm := ifB_t hb hm
            refine lg true rfl rfl rfl ?_
            refine lp rfl (p_fab fl33_4 rfl) ?_
            refine lg true rfl rfl rfl ?_
            refine lp rfl (p_lbs ty9 rfl (j := 1) rfl rfl) ?_
            refine lg true rfl rfl rfl ?_
            refine lp rfl (p_nes rfl rfl) ?_
            refine lp rfl (p_pkt rfl rfl) ?_
            refine lp rfl (p_mv rfl) ?_
            refine lcase (i := 86) (!(a0.Who.toList == ByteArray.empty.toList)) rfl (fun hb => ?_) (fun hb => ?_)
            ·have hm := ifB_t hb hm
             refine ls false rfl rfl rfl rfl ?_
             refine ls false rfl rfl rfl rfl ?_
             refine ls false rfl rfl rfl rfl ?_
             refine ls false rfl rfl rfl rfl ?_
             refine lsu rfl rfl rfl rfl ?_
             refine lsu rfl rfl rfl rfl ?_
             refine lsu rfl rfl rfl rfl ?_
             refine ls false rfl rfl rfl rfl ?_
             refine lp rfl (p_pkt rfl rfl) ?_
             refine lp rfl (p_mv rfl) ?_
             refine ls false rfl rfl rfl rfl ?_
             refine ls false rfl rfl rfl rfl ?_
             refine ls false rfl rfl rfl rfl ?_
             refine ls false rfl rfl rfl rfl ?_
             refine lsu rfl rfl rfl rfl ?_
             refine lsu rfl rfl rfl rfl ?_
             refine lsu rfl rfl rfl rfl ?_
             refine ls false rfl rfl rfl rfl ?_
             refine lp rfl (p_pkt rfl rfl) ?_
             refine lp rfl (p_mv rfl) ?_
             refine ls false rfl rfl rfl rfl ?_
             refine ls false rfl rfl rfl rfl ?_
             refine ls false rfl rfl rfl rfl ?_
             refine ls false rfl rfl rfl rfl ?_
             refine lsu rfl rfl rfl rfl ?_
             refine lsu rfl rfl rfl rfl ?_
             refine ls false rfl rfl rfl rfl ?_
             refine lp rfl (p_pkt rfl rfl) ?_
             refine lp rfl (p_mv rfl) ?_
             refine ls false rfl rfl rfl rfl ?_
             refine ls false rfl rfl rfl rfl ?_
             refine ls false rfl rfl rfl rfl ?_
             refine ls false rfl rfl rfl rfl ?_
             refine lsu rfl rfl rfl rfl ?_
             refine lsu rfl rfl rfl rfl ?_
             refine lsu rfl rfl rfl rfl ?_
             refine lsu rfl rfl rfl rfl ?_
             refine lsu rfl rfl rfl rfl ?_
             refine lsu rfl rfl rfl rfl ?_
             refine lsu rfl rfl rfl rfl ?_
             refine lsu rfl rfl rfl rfl ?_
             refine ls false rfl rfl rfl rfl ?_
             refine lp rfl (p_pkt rfl rfl) ?_
             refine lp rfl (p_as rfl) ?_
             refine lj_nil ?_
             exact cnk32 _ _ true () (Option.some.inj hm).symm ⟨rfl, rfl, trivial⟩ (fun _ h => h.picks [] rfl)
            ·have hm := ifB_f hb hm
             refine lg false rfl rfl rfl ?_
             refine lp rfl (p_fab fl152_1 rfl) ?_
             refine lg false rfl rfl rfl ?_
             refine lp rfl (p_lbs ty4 rfl (j := 0) rfl rfl) ?_
             refine lg false rfl rfl rfl ?_
             refine lp rfl (p_not rfl) ?_
             refine lg false rfl rfl rfl ?_
             refine lp rfl (p_mv rfl) ?_
             refine lcase (i := 90) (!y9.motion) rfl (fun hb => ?_) (fun hb => ?_)
             ·have hm := ifB_t hb hm
              refine lg true rfl rfl rfl ?_
              refine lp rfl (p_fab fl33_5 rfl) ?_
              refine lg true rfl rfl rfl ?_
              refine lp rfl (p_lbs ty9 rfl (j := 1) rfl rfl) ?_
              refine lg true rfl rfl rfl ?_
              refine lp rfl (p_nes rfl rfl) ?_
              refine lg false rfl rfl rfl ?_
              refine lp rfl (p_pkt rfl rfl) ?_
              refine lp rfl (p_pkf rfl rfl) ?_
              refine lp rfl (p_mv rfl) ?_
              refine lcase (i := 96) (!(a0.Motion.toList == ByteArray.empty.toList)) rfl (fun hb => ?_) (fun hb => ?_)
              ·have hm := ifB_t hb hm
               refine ls false rfl rfl rfl rfl ?_
               refine ls false rfl rfl rfl rfl ?_
               refine ls false rfl rfl rfl rfl ?_
               refine ls false rfl rfl rfl rfl ?_
               refine lsu rfl rfl rfl rfl ?_
               refine lsu rfl rfl rfl rfl ?_
               refine lsu rfl rfl rfl rfl ?_
               refine ls false rfl rfl rfl rfl ?_
               refine lp rfl (p_pkt rfl rfl) ?_
               refine lp rfl (p_mv rfl) ?_
               refine ls false rfl rfl rfl rfl ?_
               refine ls false rfl rfl rfl rfl ?_
               refine ls false rfl rfl rfl rfl ?_
               refine ls false rfl rfl rfl rfl ?_
               refine lsu rfl rfl rfl rfl ?_
               refine lsu rfl rfl rfl rfl ?_
               refine ls false rfl rfl rfl rfl ?_
               refine lp rfl (p_pkt rfl rfl) ?_
               refine lp rfl (p_mv rfl) ?_
               refine ls false rfl rfl rfl rfl ?_
               refine ls false rfl rfl rfl rfl ?_
               refine ls false rfl rfl rfl rfl ?_
               refine ls false rfl rfl rfl rfl ?_
               refine lsu rfl rfl rfl rfl ?_
               refine lsu rfl rfl rfl rfl ?_
               refine lsu rfl rfl rfl rfl ?_
               refine lsu rfl rfl rfl rfl ?_
               refine lsu rfl rfl rfl rfl ?_
               refine lsu rfl rfl rfl rfl ?_
               refine lsu rfl rfl rfl rfl ?_
               refine lsu rfl rfl rfl rfl ?_
               refine ls false rfl rfl rfl rfl ?_
               refine lp rfl (p_pkt rfl rfl) ?_
               refine lp rfl (p_as rfl) ?_
               refine lj_nil ?_
               exact cnk32 _ _ true () (Option.some.inj hm).symm ⟨rfl, rfl, trivial⟩ (fun _ h => h.picks [] rfl)
              ·have hm := ifB_f hb hm
               refine lg false rfl rfl rfl ?_
               refine lp rfl (p_fab fl152_2 rfl) ?_
               refine lg false rfl rfl rfl ?_
               refine lp rfl (p_lbs ty4 rfl (j := 0) rfl rfl) ?_
               refine lg false rfl rfl rfl ?_
               refine lp rfl (p_not rfl) ?_
               refine lg false rfl rfl rfl ?_
               refine lp rfl (p_mv rfl) ?_
               refine lcase (i := 100) (!y9.cents) rfl (fun hb => ?_) (fun hb => ?_)
               ·have hm := ifB_t hb hm
                refine lg true rfl rfl rfl ?_
                refine lp rfl (p_fab fl33_6 rfl) ?_
                refine lg true rfl rfl rfl ?_
                refine lp rfl (p_lbs ty3 rfl (j := 1) rfl rfl) ?_
                refine lg true rfl rfl rfl ?_
                refine lp rfl (p_neq rfl rfl) ?_
                refine lg false rfl rfl rfl ?_
                refine lp rfl (p_pkt rfl rfl) ?_
                refine lp rfl (p_pkf rfl rfl) ?_
                refine lp rfl (p_mv rfl) ?_
                refine lcase (i := 106) (a0.Cents != 0) rfl (fun hb => ?_) (fun hb => ?_)
                ·have hm := ifB_t hb hm
                 refine ls false rfl rfl rfl rfl ?_
                 refine ls false rfl rfl rfl rfl ?_
                 refine ls false rfl rfl rfl rfl ?_
                 refine ls false rfl rfl rfl rfl ?_
                 refine lsu rfl rfl rfl rfl ?_
                 refine lsu rfl rfl rfl rfl ?_
                 refine ls false rfl rfl rfl rfl ?_
                 refine lp rfl (p_pkt rfl rfl) ?_
                 refine lp rfl (p_mv rfl) ?_
                 refine ls false rfl rfl rfl rfl ?_
                 refine ls false rfl rfl rfl rfl ?_
                 refine ls false rfl rfl rfl rfl ?_
                 refine ls false rfl rfl rfl rfl ?_
                 refine lsu rfl rfl rfl rfl ?_
                 refine lsu rfl rfl rfl rfl ?_
                 refine lsu rfl rfl rfl rfl ?_
                 refine lsu rfl rfl rfl rfl ?_
                 refine lsu rfl rfl rfl rfl ?_
                 refine lsu rfl rfl rfl rfl ?_
                 refine lsu rfl rfl rfl rfl ?_
                 refine lsu rfl rfl rfl rfl ?_
                 refine ls false rfl rfl rfl rfl ?_
                 refine lp rfl (p_pkt rfl rfl) ?_
                 refine lp rfl (p_as rfl) ?_
                 refine lj_nil ?_
                 exact cnk32 _ _ true () (Option.some.inj hm).symm ⟨rfl, rfl, trivial⟩ (fun _ h => h.picks [] rfl)
                ·have hm := ifB_f hb hm
                 refine lg false rfl rfl rfl ?_
                 refine lp rfl (p_fab fl152_3 rfl) ?_
                 refine lg false rfl rfl rfl ?_
                 refine lp rfl (p_lbs ty4 rfl (j := 0) rfl rfl) ?_
                 refine lg false rfl rfl rfl ?_
                 refine lp rfl (p_not rfl) ?_
                 refine lg false rfl rfl rfl ?_
                 refine lp rfl (p_mv rfl) ?_
                 refine lcase (i := 110) (!y9.yes) rfl (fun hb => ?_) (fun hb => ?_)
                 ·have hm := ifB_t hb hm
                  refine lg true rfl rfl rfl ?_
                  refine lp rfl (p_fab fl33_7 rfl) ?_
                  refine lg true rfl rfl rfl ?_
                  refine lp rfl (p_lbs ty4 rfl (j := 1) rfl rfl) ?_
                  refine lg false rfl rfl rfl ?_
                  refine lp rfl (p_pkt rfl rfl) ?_
                  refine lp rfl (p_pkf rfl rfl) ?_
                  refine lp rfl (p_mv rfl) ?_
                  refine lcase (i := 115) a0.Yes rfl (fun hb => ?_) (fun hb => ?_)
                  ·have hm := ifB_t hb hm
                   refine ls false rfl rfl rfl rfl ?_
                   refine ls false rfl rfl rfl rfl ?_
                   refine ls false rfl rfl rfl rfl ?_
                   refine ls false rfl rfl rfl rfl ?_
                   refine lsu rfl rfl rfl rfl ?_
                   refine lsu rfl rfl rfl rfl ?_
                   refine lsu rfl rfl rfl rfl ?_
                   refine lsu rfl rfl rfl rfl ?_
                   refine lsu rfl rfl rfl rfl ?_
                   refine lsu rfl rfl rfl rfl ?_
                   refine lsu rfl rfl rfl rfl ?_
                   refine lsu rfl rfl rfl rfl ?_
                   refine ls false rfl rfl rfl rfl ?_
                   refine lp rfl (p_pkt rfl rfl) ?_
                   refine lp rfl (p_as rfl) ?_
                   refine lj_nil ?_
                   exact cnk32 _ _ true () (Option.some.inj hm).symm ⟨rfl, rfl, trivial⟩ (fun _ h => h.picks [] rfl)
                  ·have hm := ifB_f hb hm
                   refine lg false rfl rfl rfl ?_
                   refine lp rfl (p_fab fl152_4 rfl) ?_
                   refine lg false rfl rfl rfl ?_
                   refine lp rfl (p_lbs ty4 rfl (j := 0) rfl rfl) ?_
                   refine lg false rfl rfl rfl ?_
                   refine lp rfl (p_not rfl) ?_
                   refine lg false rfl rfl rfl ?_
                   refine lp rfl (p_mv rfl) ?_
                   refine lcase (i := 119) (!y9.undo) rfl (fun hb => ?_) (fun hb => ?_)
                   ·have hm := ifB_t hb hm
                    refine lg true rfl rfl rfl ?_
                    refine lp rfl (p_fab fl33_8 rfl) ?_
                    refine lg true rfl rfl rfl ?_
                    refine lp rfl (p_lbs ty9 rfl (j := 1) rfl rfl) ?_
                    refine lg true rfl rfl rfl ?_
                    refine lp rfl (p_nes rfl rfl) ?_
                    refine lg true rfl rfl rfl ?_
                    refine lp rfl (p_mv rfl) ?_
                    refine lcase (i := 123) (!(a0.Of.toList == ByteArray.empty.toList)) rfl (fun hb => ?_) (fun hb => ?_)
                    ·have hm := ifB_t hb hm
                     refine ls false rfl rfl rfl rfl ?_
                     refine ls false rfl rfl rfl rfl ?_
                     refine ls false rfl rfl rfl rfl ?_
                     refine lg true rfl rfl rfl ?_
                     refine lp rfl (p_pkt rfl rfl) ?_
                     refine lg false rfl rfl rfl ?_
                     refine lp rfl (p_pkt rfl rfl) ?_
                     refine lp rfl (p_pkf rfl rfl) ?_
                     refine lp rfl (p_as rfl) ?_
                     refine lj_nil ?_
                     exact cnk32 _ _ true () (Option.some.inj hm).symm ⟨rfl, rfl, trivial⟩ (fun _ h => h.picks [] rfl)
                    ·have hm := ifB_f hb hm
                     refine lg false rfl rfl rfl ?_
                     refine lp rfl (p_fab fl33_9 rfl) ?_
                     refine lg false rfl rfl rfl ?_
                     refine lp rfl (p_lbs ty3 rfl (j := 1) rfl rfl) ?_
                     refine lg false rfl rfl rfl ?_
                     refine lp rfl (p_neq rfl rfl) ?_
                     refine lg true rfl rfl rfl ?_
                     refine lp rfl (p_pkf rfl rfl) ?_
                     refine lg false rfl rfl rfl ?_
                     refine lp rfl (p_pkt rfl rfl) ?_
                     refine lp rfl (p_pkf rfl rfl) ?_
                     refine lp rfl (p_as rfl) ?_
                     refine lj_nil ?_
                     exact cnk32 _ _ (a0.Other != 0) () (Option.some.inj hm).symm ⟨rfl, rfl, trivial⟩ (fun _ h => h.picks [] rfl)
                   ·have hm := ifB_f hb hm
                    refine ls true rfl rfl rfl rfl ?_
                    refine ls true rfl rfl rfl rfl ?_
                    refine ls true rfl rfl rfl rfl ?_
                    refine ls true rfl rfl rfl rfl ?_
                    refine lsu rfl rfl rfl rfl ?_
                    refine lsu rfl rfl rfl rfl ?_
                    refine lsu rfl rfl rfl rfl ?_
                    refine ls true rfl rfl rfl rfl ?_
                    refine lg false rfl rfl rfl ?_
                    refine lp rfl (p_pkf rfl rfl) ?_
                    refine lp rfl (p_pkf rfl rfl) ?_
                    refine lp rfl (p_as rfl) ?_
                    refine lj_nil ?_
                    exact cnk32 _ _ false () (Option.some.inj hm).symm ⟨rfl, rfl, trivial⟩ (fun _ h => h.picks [] rfl)
                 ·have hm := ifB_f hb hm
                  refine ls true rfl rfl rfl rfl ?_
                  refine ls true rfl rfl rfl rfl ?_
                  refine lg false rfl rfl rfl ?_
                  refine lp rfl (p_pkf rfl rfl) ?_
                  refine lp rfl (p_pkf rfl rfl) ?_
                  refine lp rfl (p_mv rfl) ?_
                  refine lg false rfl rfl rfl ?_
                  refine lp rfl (p_fab fl152_4 rfl) ?_
                  refine lg false rfl rfl rfl ?_
                  refine lp rfl (p_lbs ty4 rfl (j := 0) rfl rfl) ?_
                  refine lg false rfl rfl rfl ?_
                  refine lp rfl (p_not rfl) ?_
                  refine lg false rfl rfl rfl ?_
                  refine lp rfl (p_mv rfl) ?_
                  refine lcase (i := 119) (!y9.undo) rfl (fun hb => ?_) (fun hb => ?_)
                  ·have hm := ifB_t hb hm
                   refine lg true rfl rfl rfl ?_
                   refine lp rfl (p_fab fl33_8 rfl) ?_
                   refine lg true rfl rfl rfl ?_
                   refine lp rfl (p_lbs ty9 rfl (j := 1) rfl rfl) ?_
                   refine lg true rfl rfl rfl ?_
                   refine lp rfl (p_nes rfl rfl) ?_
                   refine lg true rfl rfl rfl ?_
                   refine lp rfl (p_mv rfl) ?_
                   refine lcase (i := 123) (!(a0.Of.toList == ByteArray.empty.toList)) rfl (fun hb => ?_) (fun hb => ?_)
                   ·have hm := ifB_t hb hm
                    refine ls false rfl rfl rfl rfl ?_
                    refine ls false rfl rfl rfl rfl ?_
                    refine ls false rfl rfl rfl rfl ?_
                    refine lg true rfl rfl rfl ?_
                    refine lp rfl (p_pkt rfl rfl) ?_
                    refine lg false rfl rfl rfl ?_
                    refine lp rfl (p_pkt rfl rfl) ?_
                    refine lp rfl (p_pkf rfl rfl) ?_
                    refine lp rfl (p_as rfl) ?_
                    refine lj_nil ?_
                    exact cnk32 _ _ true () (Option.some.inj hm).symm ⟨rfl, rfl, trivial⟩ (fun _ h => h.picks [] rfl)
                   ·have hm := ifB_f hb hm
                    refine lg false rfl rfl rfl ?_
                    refine lp rfl (p_fab fl33_9 rfl) ?_
                    refine lg false rfl rfl rfl ?_
                    refine lp rfl (p_lbs ty3 rfl (j := 1) rfl rfl) ?_
                    refine lg false rfl rfl rfl ?_
                    refine lp rfl (p_neq rfl rfl) ?_
                    refine lg true rfl rfl rfl ?_
                    refine lp rfl (p_pkf rfl rfl) ?_
                    refine lg false rfl rfl rfl ?_
                    refine lp rfl (p_pkt rfl rfl) ?_
                    refine lp rfl (p_pkf rfl rfl) ?_
                    refine lp rfl (p_as rfl) ?_
                    refine lj_nil ?_
                    exact cnk32 _ _ (a0.Other != 0) () (Option.some.inj hm).symm ⟨rfl, rfl, trivial⟩ (fun _ h => h.picks [] rfl)
                  ·have hm := ifB_f hb hm
                   refine ls true rfl rfl rfl rfl ?_
                   refine ls true rfl rfl rfl rfl ?_
                   refine ls true rfl rfl rfl rfl ?_
                   refine ls true rfl rfl rfl rfl ?_
                   refine lsu rfl rfl rfl rfl ?_
                   refine lsu rfl rfl rfl rfl ?_
                   refine lsu rfl rfl rfl rfl ?_
                   refine ls true rfl rfl rfl rfl ?_
                   refine lg false rfl rfl rfl ?_
                   refine lp rfl (p_pkf rfl rfl) ?_
                   refine lp rfl (p_pkf rfl rfl) ?_
                   refine lp rfl (p_as rfl) ?_
                   refine lj_nil ?_
                   exact cnk32 _ _ false () (Option.some.inj hm).symm ⟨rfl, rfl, trivial⟩ (fun _ h => h.picks [] rfl)
               ·have hm := ifB_f hb hm
                refine ls true rfl rfl rfl rfl ?_
                refine ls true rfl rfl rfl rfl ?_
                refine ls true rfl rfl rfl rfl ?_
                refine lg false rfl rfl rfl ?_
                refine lp rfl (p_pkf rfl rfl) ?_
                refine lp rfl (p_pkf rfl rfl) ?_
                refine lp rfl (p_mv rfl) ?_
                refine lg false rfl rfl rfl ?_
                refine lp rfl (p_fab fl152_3 rfl) ?_
                refine lg false rfl rfl rfl ?_
                refine lp rfl (p_lbs ty4 rfl (j := 0) rfl rfl) ?_
                refine lg false rfl rfl rfl ?_
                refine lp rfl (p_not rfl) ?_
                refine lg false rfl rfl rfl ?_
                refine lp rfl (p_mv rfl) ?_
                refine lcase (i := 110) (!y9.yes) rfl (fun hb => ?_) (fun hb => ?_)
                ·have hm := ifB_t hb hm
                 refine lg true rfl rfl rfl ?_
                 refine lp rfl (p_fab fl33_7 rfl) ?_
                 refine lg true rfl rfl rfl ?_
                 refine lp rfl (p_lbs ty4 rfl (j := 1) rfl rfl) ?_
                 refine lg false rfl rfl rfl ?_
                 refine lp rfl (p_pkt rfl rfl) ?_
                 refine lp rfl (p_pkf rfl rfl) ?_
                 refine lp rfl (p_mv rfl) ?_
                 refine lcase (i := 115) a0.Yes rfl (fun hb => ?_) (fun hb => ?_)
                 ·have hm := ifB_t hb hm
                  refine ls false rfl rfl rfl rfl ?_
                  refine ls false rfl rfl rfl rfl ?_
                  refine ls false rfl rfl rfl rfl ?_
                  refine ls false rfl rfl rfl rfl ?_
                  refine lsu rfl rfl rfl rfl ?_
                  refine lsu rfl rfl rfl rfl ?_
                  refine lsu rfl rfl rfl rfl ?_
                  refine lsu rfl rfl rfl rfl ?_
                  refine lsu rfl rfl rfl rfl ?_
                  refine lsu rfl rfl rfl rfl ?_
                  refine lsu rfl rfl rfl rfl ?_
                  refine lsu rfl rfl rfl rfl ?_
                  refine ls false rfl rfl rfl rfl ?_
                  refine lp rfl (p_pkt rfl rfl) ?_
                  refine lp rfl (p_as rfl) ?_
                  refine lj_nil ?_
                  exact cnk32 _ _ true () (Option.some.inj hm).symm ⟨rfl, rfl, trivial⟩ (fun _ h => h.picks [] rfl)
                 ·have hm := ifB_f hb hm
                  refine lg false rfl rfl rfl ?_
                  refine lp rfl (p_fab fl152_4 rfl) ?_
                  refine lg false rfl rfl rfl ?_
                  refine lp rfl (p_lbs ty4 rfl (j := 0) rfl rfl) ?_
                  refine lg false rfl rfl rfl ?_
                  refine lp rfl (p_not rfl) ?_
                  refine lg false rfl rfl rfl ?_
                  refine lp rfl (p_mv rfl) ?_
                  refine lcase (i := 119) (!y9.undo) rfl (fun hb => ?_) (fun hb => ?_)
                  ·have hm := ifB_t hb hm
                   refine lg true rfl rfl rfl ?_
                   refine lp rfl (p_fab fl33_8 rfl) ?_
                   refine lg true rfl rfl rfl ?_
                   refine lp rfl (p_lbs ty9 rfl (j := 1) rfl rfl) ?_
                   refine lg true rfl rfl rfl ?_
                   refine lp rfl (p_nes rfl rfl) ?_
                   refine lg true rfl rfl rfl ?_
                   refine lp rfl (p_mv rfl) ?_
                   refine lcase (i := 123) (!(a0.Of.toList == ByteArray.empty.toList)) rfl (fun hb => ?_) (fun hb => ?_)
                   ·have hm := ifB_t hb hm
                    refine ls false rfl rfl rfl rfl ?_
                    refine ls false rfl rfl rfl rfl ?_
                    refine ls false rfl rfl rfl rfl ?_
                    refine lg true rfl rfl rfl ?_
                    refine lp rfl (p_pkt rfl rfl) ?_
                    refine lg false rfl rfl rfl ?_
                    refine lp rfl (p_pkt rfl rfl) ?_
                    refine lp rfl (p_pkf rfl rfl) ?_
                    refine lp rfl (p_as rfl) ?_
                    refine lj_nil ?_
                    exact cnk32 _ _ true () (Option.some.inj hm).symm ⟨rfl, rfl, trivial⟩ (fun _ h => h.picks [] rfl)
                   ·have hm := ifB_f hb hm
                    refine lg false rfl rfl rfl ?_
                    refine lp rfl (p_fab fl33_9 rfl) ?_
                    refine lg false rfl rfl rfl ?_
                    refine lp rfl (p_lbs ty3 rfl (j := 1) rfl rfl) ?_
                    refine lg false rfl rfl rfl ?_
                    refine lp rfl (p_neq rfl rfl) ?_
                    refine lg true rfl rfl rfl ?_
                    refine lp rfl (p_pkf rfl rfl) ?_
                    refine lg false rfl rfl rfl ?_
                    refine lp rfl (p_pkt rfl rfl) ?_
                    refine lp rfl (p_pkf rfl rfl) ?_
                    refine lp rfl (p_as rfl) ?_
                    refine lj_nil ?_
                    exact cnk32 _ _ (a0.Other != 0) () (Option.some.inj hm).symm ⟨rfl, rfl, trivial⟩ (fun _ h => h.picks [] rfl)
                  ·have hm := ifB_f hb hm
                   refine ls true rfl rfl rfl rfl ?_
                   refine ls true rfl rfl rfl rfl ?_
                   refine ls true rfl rfl rfl rfl ?_
                   refine ls true rfl rfl rfl rfl ?_
                   refine lsu rfl rfl rfl rfl ?_
                   refine lsu rfl rfl rfl rfl ?_
                   refine lsu rfl rfl rfl rfl ?_
                   refine ls true rfl rfl rfl rfl ?_
                   refine lg false rfl rfl rfl ?_
                   refine lp rfl (p_pkf rfl rfl) ?_
                   refine lp rfl (p_pkf rfl rfl) ?_
                   refine lp rfl (p_as rfl) ?_
                   refine lj_nil ?_
                   exact cnk32 _ _ false () (Option.some.inj hm).symm ⟨rfl, rfl, trivial⟩ (fun _ h => h.picks [] rfl)
                ·have hm := ifB_f hb hm
                 refine ls true rfl rfl rfl rfl ?_
                 refine ls true rfl rfl rfl rfl ?_
                 refine lg false rfl rfl rfl ?_
                 refine lp rfl (p_pkf rfl rfl) ?_
                 refine lp rfl (p_pkf rfl rfl) ?_
                 refine lp rfl (p_mv rfl) ?_
                 refine lg false rfl rfl rfl ?_
                 refine lp rfl (p_fab fl152_4 rfl) ?_
                 refine lg false rfl rfl rfl ?_
                 refine lp rfl (p_lbs ty4 rfl (j := 0) rfl rfl) ?_
                 refine lg false rfl rfl rfl ?_
                 refine lp rfl (p_not rfl) ?_
                 refine lg false rfl rfl rfl ?_
                 refine lp rfl (p_mv rfl) ?_
                 refine lcase (i := 119) (!y9.undo) rfl (fun hb => ?_) (fun hb => ?_)
                 ·have hm := ifB_t hb hm
                  refine lg true rfl rfl rfl ?_
                  refine lp rfl (p_fab fl33_8 rfl) ?_
                  refine lg true rfl rfl rfl ?_
                  refine lp rfl (p_lbs ty9 rfl (j := 1) rfl rfl) ?_
                  refine lg true rfl rfl rfl ?_
                  refine lp rfl (p_nes rfl rfl) ?_
                  refine lg true rfl rfl rfl ?_
                  refine lp rfl (p_mv rfl) ?_
                  refine lcase (i := 123) (!(a0.Of.toList == ByteArray.empty.toList)) rfl (fun hb => ?_) (fun hb => ?_)
                  ·have hm := ifB_t hb hm
                   refine ls false rfl rfl rfl rfl ?_
                   refine ls false rfl rfl rfl rfl ?_
                   refine ls false rfl rfl rfl rfl ?_
                   refine lg true rfl rfl rfl ?_
                   refine lp rfl (p_pkt rfl rfl) ?_
                   refine lg false rfl rfl rfl ?_
                   refine lp rfl (p_pkt rfl rfl) ?_
                   refine lp rfl (p_pkf rfl rfl) ?_
                   refine lp rfl (p_as rfl) ?_
                   refine lj_nil ?_
                   exact cnk32 _ _ true () (Option.some.inj hm).symm ⟨rfl, rfl, trivial⟩ (fun _ h => h.picks [] rfl)
                  ·have hm := ifB_f hb hm
                   refine lg false rfl rfl rfl ?_
                   refine lp rfl (p_fab fl33_9 rfl) ?_
                   refine lg false rfl rfl rfl ?_
                   refine lp rfl (p_lbs ty3 rfl (j := 1) rfl rfl) ?_
                   refine lg false rfl rfl rfl ?_
                   refine lp rfl (p_neq rfl rfl) ?_
                   refine lg true rfl rfl rfl ?_
                   refine lp rfl (p_pkf rfl rfl) ?_
                   refine lg false rfl rfl rfl ?_
                   refine lp rfl (p_pkt rfl rfl) ?_
                   refine lp rfl (p_pkf rfl rfl) ?_
                   refine lp rfl (p_as rfl) ?_
                   refine lj_nil ?_
                   exact cnk32 _ _ (a0.Other != 0) () (Option.some.inj hm).symm ⟨rfl, rfl, trivial⟩ (fun _ h => h.picks [] rfl)
                 ·have hm := ifB_f hb hm
                  refine ls true rfl rfl rfl rfl ?_
                  refine ls true rfl rfl rfl rfl ?_
                  refine ls true rfl rfl rfl rfl ?_
                  refine ls true rfl rfl rfl rfl ?_
                  refine lsu rfl rfl rfl rfl ?_
                  refine lsu rfl rfl rfl rfl ?_
                  refine lsu rfl rfl rfl rfl ?_
                  refine ls true rfl rfl rfl rfl ?_
                  refine lg false rfl rfl rfl ?_
                  refine lp rfl (p_pkf rfl rfl) ?_
                  refine lp rfl (p_pkf rfl rfl) ?_
                  refine lp rfl (p_as rfl) ?_
                  refine lj_nil ?_
                  exact cnk32 _ _ false () (Option.some.inj hm).symm ⟨rfl, rfl, trivial⟩ (fun _ h => h.picks [] rfl)
             ·have hm := ifB_f hb hm
              refine ls true rfl rfl rfl rfl ?_
              refine ls true rfl rfl rfl rfl ?_
              refine ls true rfl rfl rfl rfl ?_
              refine lg false rfl rfl rfl ?_
              refine lp rfl (p_pkf rfl rfl) ?_
              refine lp rfl (p_pkf rfl rfl) ?_
              refine lp rfl (p_mv rfl) ?_
              refine lg false rfl rfl rfl ?_
              refine lp rfl (p_fab fl152_2 rfl) ?_
              refine lg false rfl rfl rfl ?_
              refine lp rfl (p_lbs ty4 rfl (j := 0) rfl rfl) ?_
              refine lg false rfl rfl rfl ?_
              refine lp rfl (p_not rfl) ?_
              refine lg false rfl rfl rfl ?_
              refine lp rfl (p_mv rfl) ?_
              refine lcase (i := 100) (!y9.cents) rfl (fun hb => ?_) (fun hb => ?_)
              ·have hm := ifB_t hb hm
               refine lg true rfl rfl rfl ?_
               refine lp rfl (p_fab fl33_6 rfl) ?_
               refine lg true rfl rfl rfl ?_
               refine lp rfl (p_lbs ty3 rfl (j := 1) rfl rfl) ?_
               refine lg true rfl rfl rfl ?_
               refine lp rfl (p_neq rfl rfl) ?_
               refine lg false rfl rfl rfl ?_
               refine lp rfl (p_pkt rfl rfl) ?_
               refine lp rfl (p_pkf rfl rfl) ?_
               refine lp rfl (p_mv rfl) ?_
               refine lcase (i := 106) (a0.Cents != 0) rfl (fun hb => ?_) (fun hb => ?_)
               ·have hm := ifB_t hb hm
                refine ls false rfl rfl rfl rfl ?_
                refine ls false rfl rfl rfl rfl ?_
                refine ls false rfl rfl rfl rfl ?_
                refine ls false rfl rfl rfl rfl ?_
                refine lsu rfl rfl rfl rfl ?_
                refine lsu rfl rfl rfl rfl ?_
                refine ls false rfl rfl rfl rfl ?_
                refine lp rfl (p_pkt rfl rfl) ?_
                refine lp rfl (p_mv rfl) ?_
                refine ls false rfl rfl rfl rfl ?_
                refine ls false rfl rfl rfl rfl ?_
                refine ls false rfl rfl rfl rfl ?_
                refine ls false rfl rfl rfl rfl ?_
                refine lsu rfl rfl rfl rfl ?_
                refine lsu rfl rfl rfl rfl ?_
                refine lsu rfl rfl rfl rfl ?_
                refine lsu rfl rfl rfl rfl ?_
                refine lsu rfl rfl rfl rfl ?_
                refine lsu rfl rfl rfl rfl ?_
                refine lsu rfl rfl rfl rfl ?_
                refine lsu rfl rfl rfl rfl ?_
                refine ls false rfl rfl rfl rfl ?_
                refine lp rfl (p_pkt rfl rfl) ?_
                refine lp rfl (p_as rfl) ?_
                refine lj_nil ?_
                exact cnk32 _ _ true () (Option.some.inj hm).symm ⟨rfl, rfl, trivial⟩ (fun _ h => h.picks [] rfl)
               ·have hm := ifB_f hb hm
                refine lg false rfl rfl rfl ?_
                refine lp rfl (p_fab fl152_3 rfl) ?_
                refine lg false rfl rfl rfl ?_
                refine lp rfl (p_lbs ty4 rfl (j := 0) rfl rfl) ?_
                refine lg false rfl rfl rfl ?_
                refine lp rfl (p_not rfl) ?_
                refine lg false rfl rfl rfl ?_
                refine lp rfl (p_mv rfl) ?_
                refine lcase (i := 110) (!y9.yes) rfl (fun hb => ?_) (fun hb => ?_)
                ·have hm := ifB_t hb hm
                 refine lg true rfl rfl rfl ?_
                 refine lp rfl (p_fab fl33_7 rfl) ?_
                 refine lg true rfl rfl rfl ?_
                 refine lp rfl (p_lbs ty4 rfl (j := 1) rfl rfl) ?_
                 refine lg false rfl rfl rfl ?_
                 refine lp rfl (p_pkt rfl rfl) ?_
                 refine lp rfl (p_pkf rfl rfl) ?_
                 refine lp rfl (p_mv rfl) ?_
                 refine lcase (i := 115) a0.Yes rfl (fun hb => ?_) (fun hb => ?_)
                 ·have hm := ifB_t hb hm
                  refine ls false rfl rfl rfl rfl ?_
                  refine ls false rfl rfl rfl rfl ?_
                  refine ls false rfl rfl rfl rfl ?_
                  refine ls false rfl rfl rfl rfl ?_
                  refine lsu rfl rfl rfl rfl ?_
                  refine lsu rfl rfl rfl rfl ?_
                  refine lsu rfl rfl rfl rfl ?_
                  refine lsu rfl rfl rfl rfl ?_
                  refine lsu rfl rfl rfl rfl ?_
                  refine lsu rfl rfl rfl rfl ?_
                  refine lsu rfl rfl rfl rfl ?_
                  refine lsu rfl rfl rfl rfl ?_
                  refine ls false rfl rfl rfl rfl ?_
                  refine lp rfl (p_pkt rfl rfl) ?_
                  refine lp rfl (p_as rfl) ?_
                  refine lj_nil ?_
                  exact cnk32 _ _ true () (Option.some.inj hm).symm ⟨rfl, rfl, trivial⟩ (fun _ h => h.picks [] rfl)
                 ·have hm := ifB_f hb hm
                  refine lg false rfl rfl rfl ?_
                  refine lp rfl (p_fab fl152_4 rfl) ?_
                  refine lg false rfl rfl rfl ?_
                  refine lp rfl (p_lbs ty4 rfl (j := 0) rfl rfl) ?_
                  refine lg false rfl rfl rfl ?_
                  refine lp rfl (p_not rfl) ?_
                  refine lg false rfl rfl rfl ?_
                  refine lp rfl (p_mv rfl) ?_
                  refine lcase (i := 119) (!y9.undo) rfl (fun hb => ?_) (fun hb => ?_)
                  ·have hm := ifB_t hb hm
                   refine lg true rfl rfl rfl ?_
                   refine lp rfl (p_fab fl33_8 rfl) ?_
                   refine lg true rfl rfl rfl ?_
                   refine lp rfl (p_lbs ty9 rfl (j := 1) rfl rfl) ?_
                   refine lg true rfl rfl rfl ?_
                   refine lp rfl (p_nes rfl rfl) ?_
                   refine lg true rfl rfl rfl ?_
                   refine lp rfl (p_mv rfl) ?_
                   refine lcase (i := 123) (!(a0.Of.toList == ByteArray.empty.toList)) rfl (fun hb => ?_) (fun hb => ?_)
                   ·have hm := ifB_t hb hm
                    refine ls false rfl rfl rfl rfl ?_
                    refine ls false rfl rfl rfl rfl ?_
                    refine ls false rfl rfl rfl rfl ?_
                    refine lg true rfl rfl rfl ?_
                    refine lp rfl (p_pkt rfl rfl) ?_
                    refine lg false rfl rfl rfl ?_
                    refine lp rfl (p_pkt rfl rfl) ?_
                    refine lp rfl (p_pkf rfl rfl) ?_
                    refine lp rfl (p_as rfl) ?_
                    refine lj_nil ?_
                    exact cnk32 _ _ true () (Option.some.inj hm).symm ⟨rfl, rfl, trivial⟩ (fun _ h => h.picks [] rfl)
                   ·have hm := ifB_f hb hm
                    refine lg false rfl rfl rfl ?_
                    refine lp rfl (p_fab fl33_9 rfl) ?_
                    refine lg false rfl rfl rfl ?_
                    refine lp rfl (p_lbs ty3 rfl (j := 1) rfl rfl) ?_
                    refine lg false rfl rfl rfl ?_
                    refine lp rfl (p_neq rfl rfl) ?_
                    refine lg true rfl rfl rfl ?_
                    refine lp rfl (p_pkf rfl rfl) ?_
                    refine lg false rfl rfl rfl ?_
                    refine lp rfl (p_pkt rfl rfl) ?_
                    refine lp rfl (p_pkf rfl rfl) ?_
                    refine lp rfl (p_as rfl) ?_
                    refine lj_nil ?_
                    exact cnk32 _ _ (a0.Other != 0) () (Option.some.inj hm).symm ⟨rfl, rfl, trivial⟩ (fun _ h => h.picks [] rfl)
                  ·have hm := ifB_f hb hm
                   refine ls true rfl rfl rfl rfl ?_
                   refine ls true rfl rfl rfl rfl ?_
                   refine ls true rfl rfl rfl rfl ?_
                   refine ls true rfl rfl rfl rfl ?_
                   refine lsu rfl rfl rfl rfl ?_
                   refine lsu rfl rfl rfl rfl ?_
                   refine lsu rfl rfl rfl rfl ?_
                   refine ls true rfl rfl rfl rfl ?_
                   refine lg false rfl rfl rfl ?_
                   refine lp rfl (p_pkf rfl rfl) ?_
                   refine lp rfl (p_pkf rfl rfl) ?_
                   refine lp rfl (p_as rfl) ?_
                   refine lj_nil ?_
                   exact cnk32 _ _ false () (Option.some.inj hm).symm ⟨rfl, rfl, trivial⟩ (fun _ h => h.picks [] rfl)
                ·have hm := ifB_f hb hm
                 refine ls true rfl rfl rfl rfl ?_
                 refine ls true rfl rfl rfl rfl ?_
                 refine lg false rfl rfl rfl ?_
                 refine lp rfl (p_pkf rfl rfl) ?_
                 refine lp rfl (p_pkf rfl rfl) ?_
                 refine lp rfl (p_mv rfl) ?_
                 refine lg false rfl rfl rfl ?_
                 refine lp rfl (p_fab fl152_4 rfl) ?_
                 refine lg false rfl rfl rfl ?_
                 refine lp rfl (p_lbs ty4 rfl (j := 0) rfl rfl) ?_
                 refine lg false rfl rfl rfl ?_
                 refine lp rfl (p_not rfl) ?_
                 refine lg false rfl rfl rfl ?_
                 refine lp rfl (p_mv rfl) ?_
                 refine lcase (i := 119) (!y9.undo) rfl (fun hb => ?_) (fun hb => ?_)
                 ·have hm := ifB_t hb hm
                  refine lg true rfl rfl rfl ?_
                  refine lp rfl (p_fab fl33_8 rfl) ?_
                  refine lg true rfl rfl rfl ?_
                  refine lp rfl (p_lbs ty9 rfl (j := 1) rfl rfl) ?_
                  refine lg true rfl rfl rfl ?_
                  refine lp rfl (p_nes rfl rfl) ?_
                  refine lg true rfl rfl rfl ?_
                  refine lp rfl (p_mv rfl) ?_
                  refine lcase (i := 123) (!(a0.Of.toList == ByteArray.empty.toList)) rfl (fun hb => ?_) (fun hb => ?_)
                  ·have hm := ifB_t hb hm
                   refine ls false rfl rfl rfl rfl ?_
                   refine ls false rfl rfl rfl rfl ?_
                   refine ls false rfl rfl rfl rfl ?_
                   refine lg true rfl rfl rfl ?_
                   refine lp rfl (p_pkt rfl rfl) ?_
                   refine lg false rfl rfl rfl ?_
                   refine lp rfl (p_pkt rfl rfl) ?_
                   refine lp rfl (p_pkf rfl rfl) ?_
                   refine lp rfl (p_as rfl) ?_
                   refine lj_nil ?_
                   exact cnk32 _ _ true () (Option.some.inj hm).symm ⟨rfl, rfl, trivial⟩ (fun _ h => h.picks [] rfl)
                  ·have hm := ifB_f hb hm
                   refine lg false rfl rfl rfl ?_
                   refine lp rfl (p_fab fl33_9 rfl) ?_
                   refine lg false rfl rfl rfl ?_
                   refine lp rfl (p_lbs ty3 rfl (j := 1) rfl rfl) ?_
                   refine lg false rfl rfl rfl ?_
                   refine lp rfl (p_neq rfl rfl) ?_
                   refine lg true rfl rfl rfl ?_
                   refine lp rfl (p_pkf rfl rfl) ?_
                   refine lg false rfl rfl rfl ?_
                   refine lp rfl (p_pkt rfl rfl) ?_
                   refine lp rfl (p_pkf rfl rfl) ?_
                   refine lp rfl (p_as rfl) ?_
                   refine lj_nil ?_
                   exact cnk32 _ _ (a0.Other != 0) () (Option.some.inj hm).symm ⟨rfl, rfl, trivial⟩ (fun _ h => h.picks [] rfl)
                 ·have hm := ifB_f hb hm
                  refine ls true rfl rfl rfl rfl ?_
                  refine ls true rfl rfl rfl rfl ?_
                  refine ls true rfl rfl rfl rfl ?_
                  refine ls true rfl rfl rfl rfl ?_
                  refine lsu rfl rfl rfl rfl ?_
                  refine lsu rfl rfl rfl rfl ?_
                  refine lsu rfl rfl rfl rfl ?_
                  refine ls true rfl rfl rfl rfl ?_
                  refine lg false rfl rfl rfl ?_
                  refine lp rfl (p_pkf rfl rfl) ?_
                  refine lp rfl (p_pkf rfl rfl) ?_
                  refine lp rfl (p_as rfl) ?_
                  refine lj_nil ?_
                  exact cnk32 _ _ false () (Option.some.inj hm).symm ⟨rfl, rfl, trivial⟩ (fun _ h => h.picks [] rfl)
              ·have hm := ifB_f hb hm
               refine ls true rfl rfl rfl rfl ?_
               refine ls true rfl rfl rfl rfl ?_
               refine ls true rfl rfl rfl rfl ?_
               refine lg false rfl rfl rfl ?_
               refine lp rfl (p_pkf rfl rfl) ?_
               refine lp rfl (p_pkf rfl rfl) ?_
               refine lp rfl (p_mv rfl) ?_
               refine lg false rfl rfl rfl ?_
               refine lp rfl (p_fab fl152_3 rfl) ?_
               refine lg false rfl rfl rfl ?_
               refine lp rfl (p_lbs ty4 rfl (j := 0) rfl rfl) ?_
               refine lg false rfl rfl rfl ?_
               refine lp rfl (p_not rfl) ?_
               refine lg false rfl rfl rfl ?_
               refine lp rfl (p_mv rfl) ?_
               refine lcase (i := 110) (!y9.yes) rfl (fun hb => ?_) (fun hb => ?_)
               ·have hm := ifB_t hb hm
                refine lg true rfl rfl rfl ?_
                refine lp rfl (p_fab fl33_7 rfl) ?_
                refine lg true rfl rfl rfl ?_
                refine lp rfl (p_lbs ty4 rfl (j := 1) rfl rfl) ?_
                refine lg false rfl rfl rfl ?_
                refine lp rfl (p_pkt rfl rfl) ?_
                refine lp rfl (p_pkf rfl rfl) ?_
                refine lp rfl (p_mv rfl) ?_
                refine lcase (i := 115) a0.Yes rfl (fun hb => ?_) (fun hb => ?_)
                ·have hm := ifB_t hb hm
                 refine ls false rfl rfl rfl rfl ?_
                 refine ls false rfl rfl rfl rfl ?_
                 refine ls false rfl rfl rfl rfl ?_
                 refine ls false rfl rfl rfl rfl ?_
                 refine lsu rfl rfl rfl rfl ?_
                 refine lsu rfl rfl rfl rfl ?_
                 refine lsu rfl rfl rfl rfl ?_
                 refine lsu rfl rfl rfl rfl ?_
                 refine lsu rfl rfl rfl rfl ?_
                 refine lsu rfl rfl rfl rfl ?_
                 refine lsu rfl rfl rfl rfl ?_
                 refine lsu rfl rfl rfl rfl ?_
                 refine ls false rfl rfl rfl rfl ?_
                 refine lp rfl (p_pkt rfl rfl) ?_
                 refine lp rfl (p_as rfl) ?_
                 refine lj_nil ?_
                 exact cnk32 _ _ true () (Option.some.inj hm).symm ⟨rfl, rfl, trivial⟩ (fun _ h => h.picks [] rfl)
                ·have hm := ifB_f hb hm
                 refine lg false rfl rfl rfl ?_
                 refine lp rfl (p_fab fl152_4 rfl) ?_
                 refine lg false rfl rfl rfl ?_
                 refine lp rfl (p_lbs ty4 rfl (j := 0) rfl rfl) ?_
                 refine lg false rfl rfl rfl ?_
                 refine lp rfl (p_not rfl) ?_
                 refine lg false rfl rfl rfl ?_
                 refine lp rfl (p_mv rfl) ?_
                 refine lcase (i := 119) (!y9.undo) rfl (fun hb => ?_) (fun hb => ?_)
                 ·have hm := ifB_t hb hm
                  refine lg true rfl rfl rfl ?_
                  refine lp rfl (p_fab fl33_8 rfl) ?_
                  refine lg true rfl rfl rfl ?_
                  refine lp rfl (p_lbs ty9 rfl (j := 1) rfl rfl) ?_
                  refine lg true rfl rfl rfl ?_
                  refine lp rfl (p_nes rfl rfl) ?_
                  refine lg true rfl rfl rfl ?_
                  refine lp rfl (p_mv rfl) ?_
                  refine lcase (i := 123) (!(a0.Of.toList == ByteArray.empty.toList)) rfl (fun hb => ?_) (fun hb => ?_)
                  ·have hm := ifB_t hb hm
                   refine ls false rfl rfl rfl rfl ?_
                   refine ls false rfl rfl rfl rfl ?_
                   refine ls false rfl rfl rfl rfl ?_
                   refine lg true rfl rfl rfl ?_
                   refine lp rfl (p_pkt rfl rfl) ?_
                   refine lg false rfl rfl rfl ?_
                   refine lp rfl (p_pkt rfl rfl) ?_
                   refine lp rfl (p_pkf rfl rfl) ?_
                   refine lp rfl (p_as rfl) ?_
                   refine lj_nil ?_
                   exact cnk32 _ _ true () (Option.some.inj hm).symm ⟨rfl, rfl, trivial⟩ (fun _ h => h.picks [] rfl)
                  ·have hm := ifB_f hb hm
                   refine lg false rfl rfl rfl ?_
                   refine lp rfl (p_fab fl33_9 rfl) ?_
                   refine lg false rfl rfl rfl ?_
                   refine lp rfl (p_lbs ty3 rfl (j := 1) rfl rfl) ?_
                   refine lg false rfl rfl rfl ?_
                   refine lp rfl (p_neq rfl rfl) ?_
                   refine lg true rfl rfl rfl ?_
                   refine lp rfl (p_pkf rfl rfl) ?_
                   refine lg false rfl rfl rfl ?_
                   refine lp rfl (p_pkt rfl rfl) ?_
                   refine lp rfl (p_pkf rfl rfl) ?_
                   refine lp rfl (p_as rfl) ?_
                   refine lj_nil ?_
                   exact cnk32 _ _ (a0.Other != 0) () (Option.some.inj hm).symm ⟨rfl, rfl, trivial⟩ (fun _ h => h.picks [] rfl)
                 ·have hm := ifB_f hb hm
                  refine ls true rfl rfl rfl rfl ?_
                  refine ls true rfl rfl rfl rfl ?_
                  refine ls true rfl rfl rfl rfl ?_
                  refine ls true rfl rfl rfl rfl ?_
                  refine lsu rfl rfl rfl rfl ?_
                  refine lsu rfl rfl rfl rfl ?_
                  refine lsu rfl rfl rfl rfl ?_
                  refine ls true rfl rfl rfl rfl ?_
                  refine lg false rfl rfl rfl ?_
                  refine lp rfl (p_pkf rfl rfl) ?_
                  refine lp rfl (p_pkf rfl rfl) ?_
                  refine lp rfl (p_as rfl) ?_
                  refine lj_nil ?_
                  exact cnk32 _ _ false () (Option.some.inj hm).symm ⟨rfl, rfl, trivial⟩ (fun _ h => h.picks [] rfl)
               ·have hm := ifB_f hb hm
                refine ls true rfl rfl rfl rfl ?_
                refine ls true rfl rfl rfl rfl ?_
                refine lg false rfl rfl rfl ?_
                refine lp rfl (p_pkf rfl rfl) ?_
                refine lp rfl (p_pkf rfl rfl) ?_
                refine lp rfl (p_mv rfl) ?_
                refine lg false rfl rfl rfl ?_
                refine lp rfl (p_fab fl152_4 rfl) ?_
                refine lg false rfl rfl rfl ?_
                refine lp rfl (p_lbs ty4 rfl (j := 0) rfl rfl) ?_
                refine lg false rfl rfl rfl ?_
                refine lp rfl (p_not rfl) ?_
                refine lg false rfl rfl rfl ?_
                refine lp rfl (p_mv rfl) ?_
                refine lcase (i := 119) (!y9.undo) rfl (fun hb => ?_) (fun hb => ?_)
                ·have hm := ifB_t hb hm
                 refine lg true rfl rfl rfl ?_
                 refine lp rfl (p_fab fl33_8 rfl) ?_
                 refine lg true rfl rfl rfl ?_
                 refine lp rfl (p_lbs ty9 rfl (j := 1) rfl rfl) ?_
                 refine lg true rfl rfl rfl ?_
                 refine lp rfl (p_nes rfl rfl) ?_
                 refine lg true rfl rfl rfl ?_
                 refine lp rfl (p_mv rfl) ?_
                 refine lcase (i := 123) (!(a0.Of.toList == ByteArray.empty.toList)) rfl (fun hb => ?_) (fun hb => ?_)
                 ·have hm := ifB_t hb hm
                  refine ls false rfl rfl rfl rfl ?_
                  refine ls false rfl rfl rfl rfl ?_
                  refine ls false rfl rfl rfl rfl ?_
                  refine lg true rfl rfl rfl ?_
                  refine lp rfl (p_pkt rfl rfl) ?_
                  refine lg false rfl rfl rfl ?_
                  refine lp rfl (p_pkt rfl rfl) ?_
                  refine lp rfl (p_pkf rfl rfl) ?_
                  refine lp rfl (p_as rfl) ?_
                  refine lj_nil ?_
                  exact cnk32 _ _ true () (Option.some.inj hm).symm ⟨rfl, rfl, trivial⟩ (fun _ h => h.picks [] rfl)
                 ·have hm := ifB_f hb hm
                  refine lg false rfl rfl rfl ?_
                  refine lp rfl (p_fab fl33_9 rfl) ?_
                  refine lg false rfl rfl rfl ?_
                  refine lp rfl (p_lbs ty3 rfl (j := 1) rfl rfl) ?_
                  refine lg false rfl rfl rfl ?_
                  refine lp rfl (p_neq rfl rfl) ?_
                  refine lg true rfl rfl rfl ?_
                  refine lp rfl (p_pkf rfl rfl) ?_
                  refine lg false rfl rfl rfl ?_
                  refine lp rfl (p_pkt rfl rfl) ?_
                  refine lp rfl (p_pkf rfl rfl) ?_
                  refine lp rfl (p_as rfl) ?_
                  refine lj_nil ?_
                  exact cnk32 _ _ (a0.Other != 0) () (Option.some.inj hm).symm ⟨rfl, rfl, trivial⟩ (fun _ h => h.picks [] rfl)
                ·have hm := ifB_f hb hm
                 refine ls true rfl rfl rfl rfl ?_
                 refine ls true rfl rfl rfl rfl ?_
                 refine ls true rfl rfl rfl rfl ?_
                 refine ls true rfl rfl rfl rfl ?_
                 refine lsu rfl rfl rfl rfl ?_
                 refine lsu rfl rfl rfl rfl ?_
                 refine lsu rfl rfl rfl rfl ?_
                 refine ls true rfl rfl rfl rfl ?_
                 refine lg false rfl rfl rfl ?_
                 refine lp rfl (p_pkf rfl rfl) ?_
                 refine lp rfl (p_pkf rfl rfl) ?_
                 refine lp rfl (p_as rfl) ?_
                 refine lj_nil ?_
                 exact cnk32 _ _ false () (Option.some.inj hm).symm ⟨rfl, rfl, trivial⟩ (fun _ h => h.picks [] rfl)
           ·have hm := ifB_f hb hm
            refine ls true rfl rfl rfl rfl ?_
            refine ls true rfl rfl rfl rfl ?_
            refine ls true rfl rfl rfl rfl ?_
            refine lp rfl (p_pkf rfl rfl) ?_
            refine lp rfl (p_mv rfl) ?_
            refine lg false rfl rfl rfl ?_
            refine lp rfl (p_fab fl152_1 rfl) ?_
            refine lg false rfl rfl rfl ?_
            refine lp rfl (p_lbs ty4 rfl (j := 0) rfl rfl) ?_
            refine lg false rfl rfl rfl ?_
            refine lp rfl (p_not rfl) ?_
            refine lg false rfl rfl rfl ?_
            refine lp rfl (p_mv rfl) ?_
            refine lcase (i := 90) (!y9.motion) rfl (fun hb => ?_) (fun hb => ?_)
            ·have hm := ifB_t hb hm
             refine lg true rfl rfl rfl ?_
             refine lp rfl (p_fab fl33_5 rfl) ?_
             refine lg true rfl rfl rfl ?_
             refine lp rfl (p_lbs ty9 rfl (j := 1) rfl rfl) ?_
             refine lg true rfl rfl rfl ?_
             refine lp rfl (p_nes rfl rfl) ?_
             refine lg false rfl rfl rfl ?_
             refine lp rfl (p_pkt rfl rfl) ?_
             refine lp rfl (p_pkf rfl rfl) ?_
             refine lp rfl (p_mv rfl) ?_
             refine lcase (i := 96) (!(a0.Motion.toList == ByteArray.empty.toList)) rfl (fun hb => ?_) (fun hb => ?_)
             ·have hm := ifB_t hb hm
              refine ls false rfl rfl rfl rfl ?_
              refine ls false rfl rfl rfl rfl ?_
              refine ls false rfl rfl rfl rfl ?_
              refine ls false rfl rfl rfl rfl ?_
              refine lsu rfl rfl rfl rfl ?_
              refine lsu rfl rfl rfl rfl ?_
              refine lsu rfl rfl rfl rfl ?_
              refine ls false rfl rfl rfl rfl ?_
              refine lp rfl (p_pkt rfl rfl) ?_
              refine lp rfl (p_mv rfl) ?_
              refine ls false rfl rfl rfl rfl ?_
              refine ls false rfl rfl rfl rfl ?_
              refine ls false rfl rfl rfl rfl ?_
              refine ls false rfl rfl rfl rfl ?_
              refine lsu rfl rfl rfl rfl ?_
              refine lsu rfl rfl rfl rfl ?_
              refine ls false rfl rfl rfl rfl ?_
              refine lp rfl (p_pkt rfl rfl) ?_
              refine lp rfl (p_mv rfl) ?_
              refine ls false rfl rfl rfl rfl ?_
              refine ls false rfl rfl rfl rfl ?_
              refine ls false rfl rfl rfl rfl ?_
              refine ls false rfl rfl rfl rfl ?_
              refine lsu rfl rfl rfl rfl ?_
              refine lsu rfl rfl rfl rfl ?_
              refine lsu rfl rfl rfl rfl ?_
              refine lsu rfl rfl rfl rfl ?_
              refine lsu rfl rfl rfl rfl ?_
              refine lsu rfl rfl rfl rfl ?_
              refine lsu rfl rfl rfl rfl ?_
              refine lsu rfl rfl rfl rfl ?_
              refine ls false rfl rfl rfl rfl ?_
              refine lp rfl (p_pkt rfl rfl) ?_
              refine lp rfl (p_as rfl) ?_
              refine lj_nil ?_
              exact cnk32 _ _ true () (Option.some.inj hm).symm ⟨rfl, rfl, trivial⟩ (fun _ h => h.picks [] rfl)
             ·have hm := ifB_f hb hm
              refine lg false rfl rfl rfl ?_
              refine lp rfl (p_fab fl152_2 rfl) ?_
              refine lg false rfl rfl rfl ?_
              refine lp rfl (p_lbs ty4 rfl (j := 0) rfl rfl) ?_
              refine lg false rfl rfl rfl ?_
              refine lp rfl (p_not rfl) ?_
              refine lg false rfl rfl rfl ?_
              refine lp rfl (p_mv rfl) ?_
              refine lcase (i := 100) (!y9.cents) rfl (fun hb => ?_) (fun hb => ?_)
              ·have hm := ifB_t hb hm
               refine lg true rfl rfl rfl ?_
               refine lp rfl (p_fab fl33_6 rfl) ?_
               refine lg true rfl rfl rfl ?_
               refine lp rfl (p_lbs ty3 rfl (j := 1) rfl rfl) ?_
               refine lg true rfl rfl rfl ?_
               refine lp rfl (p_neq rfl rfl) ?_
               refine lg false rfl rfl rfl ?_
               refine lp rfl (p_pkt rfl rfl) ?_
               refine lp rfl (p_pkf rfl rfl) ?_
               refine lp rfl (p_mv rfl) ?_
               refine lcase (i := 106) (a0.Cents != 0) rfl (fun hb => ?_) (fun hb => ?_)
               ·have hm := ifB_t hb hm
                refine ls false rfl rfl rfl rfl ?_
                refine ls false rfl rfl rfl rfl ?_
                refine ls false rfl rfl rfl rfl ?_
                refine ls false rfl rfl rfl rfl ?_
                refine lsu rfl rfl rfl rfl ?_
                refine lsu rfl rfl rfl rfl ?_
                refine ls false rfl rfl rfl rfl ?_
                refine lp rfl (p_pkt rfl rfl) ?_
                refine lp rfl (p_mv rfl) ?_
                refine ls false rfl rfl rfl rfl ?_
                refine ls false rfl rfl rfl rfl ?_
                refine ls false rfl rfl rfl rfl ?_
                refine ls false rfl rfl rfl rfl ?_
                refine lsu rfl rfl rfl rfl ?_
                refine lsu rfl rfl rfl rfl ?_
                refine lsu rfl rfl rfl rfl ?_
                refine lsu rfl rfl rfl rfl ?_
                refine lsu rfl rfl rfl rfl ?_
                refine lsu rfl rfl rfl rfl ?_
                refine lsu rfl rfl rfl rfl ?_
                refine lsu rfl rfl rfl rfl ?_
                refine ls false rfl rfl rfl rfl ?_
                refine lp rfl (p_pkt rfl rfl) ?_
                refine lp rfl (p_as rfl) ?_
                refine lj_nil ?_
                exact cnk32 _ _ true () (Option.some.inj hm).symm ⟨rfl, rfl, trivial⟩ (fun _ h => h.picks [] rfl)
               ·have hm := ifB_f hb hm
                refine lg false rfl rfl rfl ?_
                refine lp rfl (p_fab fl152_3 rfl) ?_
                refine lg false rfl rfl rfl ?_
                refine lp rfl (p_lbs ty4 rfl (j := 0) rfl rfl) ?_
                refine lg false rfl rfl rfl ?_
                refine lp rfl (p_not rfl) ?_
                refine lg false rfl rfl rfl ?_
                refine lp rfl (p_mv rfl) ?_
                refine lcase (i := 110) (!y9.yes) rfl (fun hb => ?_) (fun hb => ?_)
                ·have hm := ifB_t hb hm
                 refine lg true rfl rfl rfl ?_
                 refine lp rfl (p_fab fl33_7 rfl) ?_
                 refine lg true rfl rfl rfl ?_
                 refine lp rfl (p_lbs ty4 rfl (j := 1) rfl rfl) ?_
                 refine lg false rfl rfl rfl ?_
                 refine lp rfl (p_pkt rfl rfl) ?_
                 refine lp rfl (p_pkf rfl rfl) ?_
                 refine lp rfl (p_mv rfl) ?_
                 refine lcase (i := 115) a0.Yes rfl (fun hb => ?_) (fun hb => ?_)
                 ·have hm := ifB_t hb hm
                  refine ls false rfl rfl rfl rfl ?_
                  refine ls false rfl rfl rfl rfl ?_
                  refine ls false rfl rfl rfl rfl ?_
                  refine ls false rfl rfl rfl rfl ?_
                  refine lsu rfl rfl rfl rfl ?_
                  refine lsu rfl rfl rfl rfl ?_
                  refine lsu rfl rfl rfl rfl ?_
                  refine lsu rfl rfl rfl rfl ?_
                  refine lsu rfl rfl rfl rfl ?_
                  refine lsu rfl rfl rfl rfl ?_
                  refine lsu rfl rfl rfl rfl ?_
                  refine lsu rfl rfl rfl rfl ?_
                  refine ls false rfl rfl rfl rfl ?_
                  refine lp rfl (p_pkt rfl rfl) ?_
                  refine lp rfl (p_as rfl) ?_
                  refine lj_nil ?_
                  exact cnk32 _ _ true () (Option.some.inj hm).symm ⟨rfl, rfl, trivial⟩ (fun _ h => h.picks [] rfl)
                 ·have hm := ifB_f hb hm
                  refine lg false rfl rfl rfl ?_
                  refine lp rfl (p_fab fl152_4 rfl) ?_
                  refine lg false rfl rfl rfl ?_
                  refine lp rfl (p_lbs ty4 rfl (j := 0) rfl rfl) ?_
                  refine lg false rfl rfl rfl ?_
                  refine lp rfl (p_not rfl) ?_
                  refine lg false rfl rfl rfl ?_
                  refine lp rfl (p_mv rfl) ?_
                  refine lcase (i := 119) (!y9.undo) rfl (fun hb => ?_) (fun hb => ?_)
                  ·have hm := ifB_t hb hm
                   refine lg true rfl rfl rfl ?_
                   refine lp rfl (p_fab fl33_8 rfl) ?_
                   refine lg true rfl rfl rfl ?_
                   refine lp rfl (p_lbs ty9 rfl (j := 1) rfl rfl) ?_
                   refine lg true rfl rfl rfl ?_
                   refine lp rfl (p_nes rfl rfl) ?_
                   refine lg true rfl rfl rfl ?_
                   refine lp rfl (p_mv rfl) ?_
                   refine lcase (i := 123) (!(a0.Of.toList == ByteArray.empty.toList)) rfl (fun hb => ?_) (fun hb => ?_)
                   ·have hm := ifB_t hb hm
                    refine ls false rfl rfl rfl rfl ?_
                    refine ls false rfl rfl rfl rfl ?_
                    refine ls false rfl rfl rfl rfl ?_
                    refine lg true rfl rfl rfl ?_
                    refine lp rfl (p_pkt rfl rfl) ?_
                    refine lg false rfl rfl rfl ?_
                    refine lp rfl (p_pkt rfl rfl) ?_
                    refine lp rfl (p_pkf rfl rfl) ?_
                    refine lp rfl (p_as rfl) ?_
                    refine lj_nil ?_
                    exact cnk32 _ _ true () (Option.some.inj hm).symm ⟨rfl, rfl, trivial⟩ (fun _ h => h.picks [] rfl)
                   ·have hm := ifB_f hb hm
                    refine lg false rfl rfl rfl ?_
                    refine lp rfl (p_fab fl33_9 rfl) ?_
                    refine lg false rfl rfl rfl ?_
                    refine lp rfl (p_lbs ty3 rfl (j := 1) rfl rfl) ?_
                    refine lg false rfl rfl rfl ?_
                    refine lp rfl (p_neq rfl rfl) ?_
                    refine lg true rfl rfl rfl ?_
                    refine lp rfl (p_pkf rfl rfl) ?_
                    refine lg false rfl rfl rfl ?_
                    refine lp rfl (p_pkt rfl rfl) ?_
                    refine lp rfl (p_pkf rfl rfl) ?_
                    refine lp rfl (p_as rfl) ?_
                    refine lj_nil ?_
                    exact cnk32 _ _ (a0.Other != 0) () (Option.some.inj hm).symm ⟨rfl, rfl, trivial⟩ (fun _ h => h.picks [] rfl)
                  ·have hm := ifB_f hb hm
                   refine ls true rfl rfl rfl rfl ?_
                   refine ls true rfl rfl rfl rfl ?_
                   refine ls true rfl rfl rfl rfl ?_
                   refine ls true rfl rfl rfl rfl ?_
                   refine lsu rfl rfl rfl rfl ?_
                   refine lsu rfl rfl rfl rfl ?_
                   refine lsu rfl rfl rfl rfl ?_
                   refine ls true rfl rfl rfl rfl ?_
                   refine lg false rfl rfl rfl ?_
                   refine lp rfl (p_pkf rfl rfl) ?_
                   refine lp rfl (p_pkf rfl rfl) ?_
                   refine lp rfl (p_as rfl) ?_
                   refine lj_nil ?_
                   exact cnk32 _ _ false () (Option.some.inj hm).symm ⟨rfl, rfl, trivial⟩ (fun _ h => h.picks [] rfl)
                ·have hm := ifB_f hb hm
                 refine ls true rfl rfl rfl rfl ?_
                 refine ls true rfl rfl rfl rfl ?_
                 refine lg false rfl rfl rfl ?_
                 refine lp rfl (p_pkf rfl rfl) ?_
                 refine lp rfl (p_pkf rfl rfl) ?_
                 refine lp rfl (p_mv rfl) ?_
                 refine lg false rfl rfl rfl ?_
                 refine lp rfl (p_fab fl152_4 rfl) ?_
                 refine lg false rfl rfl rfl ?_
                 refine lp rfl (p_lbs ty4 rfl (j := 0) rfl rfl) ?_
                 refine lg false rfl rfl rfl ?_
                 refine lp rfl (p_not rfl) ?_
                 refine lg false rfl rfl rfl ?_
                 refine lp rfl (p_mv rfl) ?_
                 refine lcase (i := 119) (!y9.undo) rfl (fun hb => ?_) (fun hb => ?_)
                 ·have hm := ifB_t hb hm
                  refine lg true rfl rfl rfl ?_
                  refine lp rfl (p_fab fl33_8 rfl) ?_
                  refine lg true rfl rfl rfl ?_
                  refine lp rfl (p_lbs ty9 rfl (j := 1) rfl rfl) ?_
                  refine lg true rfl rfl rfl ?_
                  refine lp rfl (p_nes rfl rfl) ?_
                  refine lg true rfl rfl rfl ?_
                  refine lp rfl (p_mv rfl) ?_
                  refine lcase (i := 123) (!(a0.Of.toList == ByteArray.empty.toList)) rfl (fun hb => ?_) (fun hb => ?_)
                  ·have hm := ifB_t hb hm
                   refine ls false rfl rfl rfl rfl ?_
                   refine ls false rfl rfl rfl rfl ?_
                   refine ls false rfl rfl rfl rfl ?_
                   refine lg true rfl rfl rfl ?_
                   refine lp rfl (p_pkt rfl rfl) ?_
                   refine lg false rfl rfl rfl ?_
                   refine lp rfl (p_pkt rfl rfl) ?_
                   refine lp rfl (p_pkf rfl rfl) ?_
                   refine lp rfl (p_as rfl) ?_
                   refine lj_nil ?_
                   exact cnk32 _ _ true () (Option.some.inj hm).symm ⟨rfl, rfl, trivial⟩ (fun _ h => h.picks [] rfl)
                  ·have hm := ifB_f hb hm
                   refine lg false rfl rfl rfl ?_
                   refine lp rfl (p_fab fl33_9 rfl) ?_
                   refine lg false rfl rfl rfl ?_
                   refine lp rfl (p_lbs ty3 rfl (j := 1) rfl rfl) ?_
                   refine lg false rfl rfl rfl ?_
                   refine lp rfl (p_neq rfl rfl) ?_
                   refine lg true rfl rfl rfl ?_
                   refine lp rfl (p_pkf rfl rfl) ?_
                   refine lg false rfl rfl rfl ?_
                   refine lp rfl (p_pkt rfl rfl) ?_
                   refine lp rfl (p_pkf rfl rfl) ?_
                   refine lp rfl (p_as rfl) ?_
                   refine lj_nil ?_
                   exact cnk32 _ _ (a0.Other != 0) () (Option.some.inj hm).symm ⟨rfl, rfl, trivial⟩ (fun _ h => h.picks [] rfl)
                 ·have hm := ifB_f hb hm
                  refine ls true rfl rfl rfl rfl ?_
                  refine ls true rfl rfl rfl rfl ?_
                  refine ls true rfl rfl rfl rfl ?_
                  refine ls true rfl rfl rfl rfl ?_
                  refine lsu rfl rfl rfl rfl ?_
                  refine lsu rfl rfl rfl rfl ?_
                  refine lsu rfl rfl rfl rfl ?_
                  refine ls true rfl rfl rfl rfl ?_
                  refine lg false rfl rfl rfl ?_
                  refine lp rfl (p_pkf rfl rfl) ?_
                  refine lp rfl (p_pkf rfl rfl) ?_
                  refine lp rfl (p_as rfl) ?_
                  refine lj_nil ?_
                  exact cnk32 _ _ false () (Option.some.inj hm).symm ⟨rfl, rfl, trivial⟩ (fun _ h => h.picks [] rfl)
              ·have hm := ifB_f hb hm
               refine ls true rfl rfl rfl rfl ?_
               refine ls true rfl rfl rfl rfl ?_
               refine ls true rfl rfl rfl rfl ?_
               refine lg false rfl rfl rfl ?_
               refine lp rfl (p_pkf rfl rfl) ?_
               refine lp rfl (p_pkf rfl rfl) ?_
               refine lp rfl (p_mv rfl) ?_
               refine lg false rfl rfl rfl ?_
               refine lp rfl (p_fab fl152_3 rfl) ?_
               refine lg false rfl rfl rfl ?_
               refine lp rfl (p_lbs ty4 rfl (j := 0) rfl rfl) ?_
               refine lg false rfl rfl rfl ?_
               refine lp rfl (p_not rfl) ?_
               refine lg false rfl rfl rfl ?_
               refine lp rfl (p_mv rfl) ?_
               refine lcase (i := 110) (!y9.yes) rfl (fun hb => ?_) (fun hb => ?_)
               ·have hm := ifB_t hb hm
                refine lg true rfl rfl rfl ?_
                refine lp rfl (p_fab fl33_7 rfl) ?_
                refine lg true rfl rfl rfl ?_
                refine lp rfl (p_lbs ty4 rfl (j := 1) rfl rfl) ?_
                refine lg false rfl rfl rfl ?_
                refine lp rfl (p_pkt rfl rfl) ?_
                refine lp rfl (p_pkf rfl rfl) ?_
                refine lp rfl (p_mv rfl) ?_
                refine lcase (i := 115) a0.Yes rfl (fun hb => ?_) (fun hb => ?_)
                ·have hm := ifB_t hb hm
                 refine ls false rfl rfl rfl rfl ?_
                 refine ls false rfl rfl rfl rfl ?_
                 refine ls false rfl rfl rfl rfl ?_
                 refine ls false rfl rfl rfl rfl ?_
                 refine lsu rfl rfl rfl rfl ?_
                 refine lsu rfl rfl rfl rfl ?_
                 refine lsu rfl rfl rfl rfl ?_
                 refine lsu rfl rfl rfl rfl ?_
                 refine lsu rfl rfl rfl rfl ?_
                 refine lsu rfl rfl rfl rfl ?_
                 refine lsu rfl rfl rfl rfl ?_
                 refine lsu rfl rfl rfl rfl ?_
                 refine ls false rfl rfl rfl rfl ?_
                 refine lp rfl (p_pkt rfl rfl) ?_
                 refine lp rfl (p_as rfl) ?_
                 refine lj_nil ?_
                 exact cnk32 _ _ true () (Option.some.inj hm).symm ⟨rfl, rfl, trivial⟩ (fun _ h => h.picks [] rfl)
                ·have hm := ifB_f hb hm
                 refine lg false rfl rfl rfl ?_
                 refine lp rfl (p_fab fl152_4 rfl) ?_
                 refine lg false rfl rfl rfl ?_
                 refine lp rfl (p_lbs ty4 rfl (j := 0) rfl rfl) ?_
                 refine lg false rfl rfl rfl ?_
                 refine lp rfl (p_not rfl) ?_
                 refine lg false rfl rfl rfl ?_
                 refine lp rfl (p_mv rfl) ?_
                 refine lcase (i := 119) (!y9.undo) rfl (fun hb => ?_) (fun hb => ?_)
                 ·have hm := ifB_t hb hm
                  refine lg true rfl rfl rfl ?_
                  refine lp rfl (p_fab fl33_8 rfl) ?_
                  refine lg true rfl rfl rfl ?_
                  refine lp rfl (p_lbs ty9 rfl (j := 1) rfl rfl) ?_
                  refine lg true rfl rfl rfl ?_
                  refine lp rfl (p_nes rfl rfl) ?_
                  refine lg true rfl rfl rfl ?_
                  refine lp rfl (p_mv rfl) ?_
                  refine lcase (i := 123) (!(a0.Of.toList == ByteArray.empty.toList)) rfl (fun hb => ?_) (fun hb => ?_)
                  ·have hm := ifB_t hb hm
                   refine ls false rfl rfl rfl rfl ?_
                   refine ls false rfl rfl rfl rfl ?_
                   refine ls false rfl rfl rfl rfl ?_
                   refine lg true rfl rfl rfl ?_
                   refine lp rfl (p_pkt rfl rfl) ?_
                   refine lg false rfl rfl rfl ?_
                   refine lp rfl (p_pkt rfl rfl) ?_
                   refine lp rfl (p_pkf rfl rfl) ?_
                   refine lp rfl (p_as rfl) ?_
                   refine lj_nil ?_
                   exact cnk32 _ _ true () (Option.some.inj hm).symm ⟨rfl, rfl, trivial⟩ (fun _ h => h.picks [] rfl)
                  ·have hm := ifB_f hb hm
                   refine lg false rfl rfl rfl ?_
                   refine lp rfl (p_fab fl33_9 rfl) ?_
                   refine lg false rfl rfl rfl ?_
                   refine lp rfl (p_lbs ty3 rfl (j := 1) rfl rfl) ?_
                   refine lg false rfl rfl rfl ?_
                   refine lp rfl (p_neq rfl rfl) ?_
                   refine lg true rfl rfl rfl ?_
                   refine lp rfl (p_pkf rfl rfl) ?_
                   refine lg false rfl rfl rfl ?_
                   refine lp rfl (p_pkt rfl rfl) ?_
                   refine lp rfl (p_pkf rfl rfl) ?_
                   refine lp rfl (p_as rfl) ?_
                   refine lj_nil ?_
                   exact cnk32 _ _ (a0.Other != 0) () (Option.some.inj hm).symm ⟨rfl, rfl, trivial⟩ (fun _ h => h.picks [] rfl)
                 ·have hm := ifB_f hb hm
                  refine ls true rfl rfl rfl rfl ?_
                  refine ls true rfl rfl rfl rfl ?_
                  refine ls true rfl rfl rfl rfl ?_
                  refine ls true rfl rfl rfl rfl ?_
                  refine lsu rfl rfl rfl rfl ?_
                  refine lsu rfl rfl rfl rfl ?_
                  refine lsu rfl rfl rfl rfl ?_
                  refine ls true rfl rfl rfl rfl ?_
                  refine lg false rfl rfl rfl ?_
                  refine lp rfl (p_pkf rfl rfl) ?_
                  refine lp rfl (p_pkf rfl rfl) ?_
                  refine lp rfl (p_as rfl) ?_
                  refine lj_nil ?_
                  exact cnk32 _ _ false () (Option.some.inj hm).symm ⟨rfl, rfl, trivial⟩ (fun _ h => h.picks [] rfl)
               ·have hm := ifB_f hb hm
                refine ls true rfl rfl rfl rfl ?_
                refine ls true rfl rfl rfl rfl ?_
                refine lg false rfl rfl rfl ?_
                refine lp rfl (p_pkf rfl rfl) ?_
                refine lp rfl (p_pkf rfl rfl) ?_
                refine lp rfl (p_mv rfl) ?_
                refine lg false rfl rfl rfl ?_
                refine lp rfl (p_fab fl152_4 rfl) ?_
                refine lg false rfl rfl rfl ?_
                refine lp rfl (p_lbs ty4 rfl (j := 0) rfl rfl) ?_
                refine lg false rfl rfl rfl ?_
                refine lp rfl (p_not rfl) ?_
                refine lg false rfl rfl rfl ?_
                refine lp rfl (p_mv rfl) ?_
                refine lcase (i := 119) (!y9.undo) rfl (fun hb => ?_) (fun hb => ?_)
                ·have hm := ifB_t hb hm
                 refine lg true rfl rfl rfl ?_
                 refine lp rfl (p_fab fl33_8 rfl) ?_
                 refine lg true rfl rfl rfl ?_
                 refine lp rfl (p_lbs ty9 rfl (j := 1) rfl rfl) ?_
                 refine lg true rfl rfl rfl ?_
                 refine lp rfl (p_nes rfl rfl) ?_
                 refine lg true rfl rfl rfl ?_
                 refine lp rfl (p_mv rfl) ?_
                 refine lcase (i := 123) (!(a0.Of.toList == ByteArray.empty.toList)) rfl (fun hb => ?_) (fun hb => ?_)
                 ·have hm := ifB_t hb hm
                  refine ls false rfl rfl rfl rfl ?_
                  refine ls false rfl rfl rfl rfl ?_
                  refine ls false rfl rfl rfl rfl ?_
                  refine lg true rfl rfl rfl ?_
                  refine lp rfl (p_pkt rfl rfl) ?_
                  refine lg false rfl rfl rfl ?_
                  refine lp rfl (p_pkt rfl rfl) ?_
                  refine lp rfl (p_pkf rfl rfl) ?_
                  refine lp rfl (p_as rfl) ?_
                  refine lj_nil ?_
                  exact cnk32 _ _ true () (Option.some.inj hm).symm ⟨rfl, rfl, trivial⟩ (fun _ h => h.picks [] rfl)
                 ·have hm := ifB_f hb hm
                  refine lg false rfl rfl rfl ?_
                  refine lp rfl (p_fab fl33_9 rfl) ?_
                  refine lg false rfl rfl rfl ?_
                  refine lp rfl (p_lbs ty3 rfl (j := 1) rfl rfl) ?_
                  refine lg false rfl rfl rfl ?_
                  refine lp rfl (p_neq rfl rfl) ?_
                  refine lg true rfl rfl rfl ?_
                  refine lp rfl (p_pkf rfl rfl) ?_
                  refine lg false rfl rfl rfl ?_
                  refine lp rfl (p_pkt rfl rfl) ?_
                  refine lp rfl (p_pkf rfl rfl) ?_
                  refine lp rfl (p_as rfl) ?_
                  refine lj_nil ?_
                  exact cnk32 _ _ (a0.Other != 0) () (Option.some.inj hm).symm ⟨rfl, rfl, trivial⟩ (fun _ h => h.picks [] rfl)
                ·have hm := ifB_f hb hm
                 refine ls true rfl rfl rfl rfl ?_
                 refine ls true rfl rfl rfl rfl ?_
                 refine ls true rfl rfl rfl rfl ?_
                 refine ls true rfl rfl rfl rfl ?_
                 refine lsu rfl rfl rfl rfl ?_
                 refine lsu rfl rfl rfl rfl ?_
                 refine lsu rfl rfl rfl rfl ?_
                 refine ls true rfl rfl rfl rfl ?_
                 refine lg false rfl rfl rfl ?_
                 refine lp rfl (p_pkf rfl rfl) ?_
                 refine lp rfl (p_pkf rfl rfl) ?_
                 refine lp rfl (p_as rfl) ?_
                 refine lj_nil ?_
                 exact cnk32 _ _ false () (Option.some.inj hm).symm ⟨rfl, rfl, trivial⟩ (fun _ h => h.picks [] rfl)
            ·have hm := ifB_f hb hm
             refine ls true rfl rfl rfl rfl ?_
             refine ls true rfl rfl rfl rfl ?_
             refine ls true rfl rfl rfl rfl ?_
             refine lg false rfl rfl rfl ?_
             refine lp rfl (p_pkf rfl rfl) ?_
             refine lp rfl (p_pkf rfl rfl) ?_
             refine lp rfl (p_mv rfl) ?_
             refine lg false rfl rfl rfl ?_
             refine lp rfl (p_fab fl152_2 rfl) ?_
             refine lg false rfl rfl rfl ?_
             refine lp rfl (p_lbs ty4 rfl (j := 0) rfl rfl) ?_
             refine lg false rfl rfl rfl ?_
             refine lp rfl (p_not rfl) ?_
             refine lg false rfl rfl rfl ?_
             refine lp rfl (p_mv rfl) ?_
             refine lcase (i := 100) (!y9.cents) rfl (fun hb => ?_) (fun hb => ?_)
             ·have hm := ifB_t hb hm
              refine lg true rfl rfl rfl ?_
              refine lp rfl (p_fab fl33_6 rfl) ?_
              refine lg true rfl rfl rfl ?_
              refine lp rfl (p_lbs ty3 rfl (j := 1) rfl rfl) ?_
              refine lg true rfl rfl rfl ?_
              refine lp rfl (p_neq rfl rfl) ?_
              refine lg false rfl rfl rfl ?_
              refine lp rfl (p_pkt rfl rfl) ?_
              refine lp rfl (p_pkf rfl rfl) ?_
              refine lp rfl (p_mv rfl) ?_
              refine lcase (i := 106) (a0.Cents != 0) rfl (fun hb => ?_) (fun hb => ?_)
              ·have hm := ifB_t hb hm
               refine ls false rfl rfl rfl rfl ?_
               refine ls false rfl rfl rfl rfl ?_
               refine ls false rfl rfl rfl rfl ?_
               refine ls false rfl rfl rfl rfl ?_
               refine lsu rfl rfl rfl rfl ?_
               refine lsu rfl rfl rfl rfl ?_
               refine ls false rfl rfl rfl rfl ?_
               refine lp rfl (p_pkt rfl rfl) ?_
               refine lp rfl (p_mv rfl) ?_
               refine ls false rfl rfl rfl rfl ?_
               refine ls false rfl rfl rfl rfl ?_
               refine ls false rfl rfl rfl rfl ?_
               refine ls false rfl rfl rfl rfl ?_
               refine lsu rfl rfl rfl rfl ?_
               refine lsu rfl rfl rfl rfl ?_
               refine lsu rfl rfl rfl rfl ?_
               refine lsu rfl rfl rfl rfl ?_
               refine lsu rfl rfl rfl rfl ?_
               refine lsu rfl rfl rfl rfl ?_
               refine lsu rfl rfl rfl rfl ?_
               refine lsu rfl rfl rfl rfl ?_
               refine ls false rfl rfl rfl rfl ?_
               refine lp rfl (p_pkt rfl rfl) ?_
               refine lp rfl (p_as rfl) ?_
               refine lj_nil ?_
               exact cnk32 _ _ true () (Option.some.inj hm).symm ⟨rfl, rfl, trivial⟩ (fun _ h => h.picks [] rfl)
              ·have hm := ifB_f hb hm
               refine lg false rfl rfl rfl ?_
               refine lp rfl (p_fab fl152_3 rfl) ?_
               refine lg false rfl rfl rfl ?_
               refine lp rfl (p_lbs ty4 rfl (j := 0) rfl rfl) ?_
               refine lg false rfl rfl rfl ?_
               refine lp rfl (p_not rfl) ?_
               refine lg false rfl rfl rfl ?_
               refine lp rfl (p_mv rfl) ?_
               refine lcase (i := 110) (!y9.yes) rfl (fun hb => ?_) (fun hb => ?_)
               ·have hm := ifB_t hb hm
                refine lg true rfl rfl rfl ?_
                refine lp rfl (p_fab fl33_7 rfl) ?_
                refine lg true rfl rfl rfl ?_
                refine lp rfl (p_lbs ty4 rfl (j := 1) rfl rfl) ?_
                refine lg false rfl rfl rfl ?_
                refine lp rfl (p_pkt rfl rfl) ?_
                refine lp rfl (p_pkf rfl rfl) ?_
                refine lp rfl (p_mv rfl) ?_
                refine lcase (i := 115) a0.Yes rfl (fun hb => ?_) (fun hb => ?_)
                ·have hm := ifB_t hb hm
                 refine ls false rfl rfl rfl rfl ?_
                 refine ls false rfl rfl rfl rfl ?_
                 refine ls false rfl rfl rfl rfl ?_
                 refine ls false rfl rfl rfl rfl ?_
                 refine lsu rfl rfl rfl rfl ?_
                 refine lsu rfl rfl rfl rfl ?_
                 refine lsu rfl rfl rfl rfl ?_
                 refine lsu rfl rfl rfl rfl ?_
                 refine lsu rfl rfl rfl rfl ?_
                 refine lsu rfl rfl rfl rfl ?_
                 refine lsu rfl rfl rfl rfl ?_
                 refine lsu rfl rfl rfl rfl ?_
                 refine ls false rfl rfl rfl rfl ?_
                 refine lp rfl (p_pkt rfl rfl) ?_
                 refine lp rfl (p_as rfl) ?_
                 refine lj_nil ?_
                 exact cnk32 _ _ true () (Option.some.inj hm).symm ⟨rfl, rfl, trivial⟩ (fun _ h => h.picks [] rfl)
                ·have hm := ifB_f hb hm
                 refine lg false rfl rfl rfl ?_
                 refine lp rfl (p_fab fl152_4 rfl) ?_
                 refine lg false rfl rfl rfl ?_
                 refine lp rfl (p_lbs ty4 rfl (j := 0) rfl rfl) ?_
                 refine lg false rfl rfl rfl ?_
                 refine lp rfl (p_not rfl) ?_
                 refine lg false rfl rfl rfl ?_
                 refine lp rfl (p_mv rfl) ?_
                 refine lcase (i := 119) (!y9.undo) rfl (fun hb => ?_) (fun hb => ?_)
                 ·have hm := ifB_t hb hm
                  refine lg true rfl rfl rfl ?_
                  refine lp rfl (p_fab fl33_8 rfl) ?_
                  refine lg true rfl rfl rfl ?_
                  refine lp rfl (p_lbs ty9 rfl (j := 1) rfl rfl) ?_
                  refine lg true rfl rfl rfl ?_
                  refine lp rfl (p_nes rfl rfl) ?_
                  refine lg true rfl rfl rfl ?_
                  refine lp rfl (p_mv rfl) ?_
                  refine lcase (i := 123) (!(a0.Of.toList == ByteArray.empty.toList)) rfl (fun hb => ?_) (fun hb => ?_)
                  ·have hm := ifB_t hb hm
                   refine ls false rfl rfl rfl rfl ?_
                   refine ls false rfl rfl rfl rfl ?_
                   refine ls false rfl rfl rfl rfl ?_
                   refine lg true rfl rfl rfl ?_
                   refine lp rfl (p_pkt rfl rfl) ?_
                   refine lg false rfl rfl rfl ?_
                   refine lp rfl (p_pkt rfl rfl) ?_
                   refine lp rfl (p_pkf rfl rfl) ?_
                   refine lp rfl (p_as rfl) ?_
                   refine lj_nil ?_
                   exact cnk32 _ _ true () (Option.some.inj hm).symm ⟨rfl, rfl, trivial⟩ (fun _ h => h.picks [] rfl)
                  ·have hm := ifB_f hb hm
                   refine lg false rfl rfl rfl ?_
                   refine lp rfl (p_fab fl33_9 rfl) ?_
                   refine lg false rfl rfl rfl ?_
                   refine lp rfl (p_lbs ty3 rfl (j := 1) rfl rfl) ?_
                   refine lg false rfl rfl rfl ?_
                   refine lp rfl (p_neq rfl rfl) ?_
                   refine lg true rfl rfl rfl ?_
                   refine lp rfl (p_pkf rfl rfl) ?_
                   refine lg false rfl rfl rfl ?_
                   refine lp rfl (p_pkt rfl rfl) ?_
                   refine lp rfl (p_pkf rfl rfl) ?_
                   refine lp rfl (p_as rfl) ?_
                   refine lj_nil ?_
                   exact cnk32 _ _ (a0.Other != 0) () (Option.some.inj hm).symm ⟨rfl, rfl, trivial⟩ (fun _ h => h.picks [] rfl)
                 ·have hm := ifB_f hb hm
                  refine ls true rfl rfl rfl rfl ?_
                  refine ls true rfl rfl rfl rfl ?_
                  refine ls true rfl rfl rfl rfl ?_
                  refine ls true rfl rfl rfl rfl ?_
                  refine lsu rfl rfl rfl rfl ?_
                  refine lsu rfl rfl rfl rfl ?_
                  refine lsu rfl rfl rfl rfl ?_
                  refine ls true rfl rfl rfl rfl ?_
                  refine lg false rfl rfl rfl ?_
                  refine lp rfl (p_pkf rfl rfl) ?_
                  refine lp rfl (p_pkf rfl rfl) ?_
                  refine lp rfl (p_as rfl) ?_
                  refine lj_nil ?_
                  exact cnk32 _ _ false () (Option.some.inj hm).symm ⟨rfl, rfl, trivial⟩ (fun _ h => h.picks [] rfl)
               ·have hm := ifB_f hb hm
                refine ls true rfl rfl rfl rfl ?_
                refine ls true rfl rfl rfl rfl ?_
                refine lg false rfl rfl rfl ?_
                refine lp rfl (p_pkf rfl rfl) ?_
                refine lp rfl (p_pkf rfl rfl) ?_
                refine lp rfl (p_mv rfl) ?_
                refine lg false rfl rfl rfl ?_
                refine lp rfl (p_fab fl152_4 rfl) ?_
                refine lg false rfl rfl rfl ?_
                refine lp rfl (p_lbs ty4 rfl (j := 0) rfl rfl) ?_
                refine lg false rfl rfl rfl ?_
                refine lp rfl (p_not rfl) ?_
                refine lg false rfl rfl rfl ?_
                refine lp rfl (p_mv rfl) ?_
                refine lcase (i := 119) (!y9.undo) rfl (fun hb => ?_) (fun hb => ?_)
                ·have hm := ifB_t hb hm
                 refine lg true rfl rfl rfl ?_
                 refine lp rfl (p_fab fl33_8 rfl) ?_
                 refine lg true rfl rfl rfl ?_
                 refine lp rfl (p_lbs ty9 rfl (j := 1) rfl rfl) ?_
                 refine lg true rfl rfl rfl ?_
                 refine lp rfl (p_nes rfl rfl) ?_
                 refine lg true rfl rfl rfl ?_
                 refine lp rfl (p_mv rfl) ?_
                 refine lcase (i := 123) (!(a0.Of.toList == ByteArray.empty.toList)) rfl (fun hb => ?_) (fun hb => ?_)
                 ·have hm := ifB_t hb hm
                  refine ls false rfl rfl rfl rfl ?_
                  refine ls false rfl rfl rfl rfl ?_
                  refine ls false rfl rfl rfl rfl ?_
                  refine lg true rfl rfl rfl ?_
                  refine lp rfl (p_pkt rfl rfl) ?_
                  refine lg false rfl rfl rfl ?_
                  refine lp rfl (p_pkt rfl rfl) ?_
                  refine lp rfl (p_pkf rfl rfl) ?_
                  refine lp rfl (p_as rfl) ?_
                  refine lj_nil ?_
                  exact cnk32 _ _ true () (Option.some.inj hm).symm ⟨rfl, rfl, trivial⟩ (fun _ h => h.picks [] rfl)
                 ·have hm := ifB_f hb hm
                  refine lg false rfl rfl rfl ?_
                  refine lp rfl (p_fab fl33_9 rfl) ?_
                  refine lg false rfl rfl rfl ?_
                  refine lp rfl (p_lbs ty3 rfl (j := 1) rfl rfl) ?_
                  refine lg false rfl rfl rfl ?_
                  refine lp rfl (p_neq rfl rfl) ?_
                  refine lg true rfl rfl rfl ?_
                  refine lp rfl (p_pkf rfl rfl) ?_
                  refine lg false rfl rfl rfl ?_
                  refine lp rfl (p_pkt rfl rfl) ?_
                  refine lp rfl (p_pkf rfl rfl) ?_
                  refine lp rfl (p_as rfl) ?_
                  refine lj_nil ?_
                  exact cnk32 _ _ (a0.Other != 0) () (Option.some.inj hm).symm ⟨rfl, rfl, trivial⟩ (fun _ h => h.picks [] rfl)
                ·have hm := ifB_f hb hm
                 refine ls true rfl rfl rfl rfl ?_
                 refine ls true rfl rfl rfl rfl ?_
                 refine ls true rfl rfl rfl rfl ?_
                 refine ls true rfl rfl rfl rfl ?_
                 refine lsu rfl rfl rfl rfl ?_
                 refine lsu rfl rfl rfl rfl ?_
                 refine lsu rfl rfl rfl rfl ?_
                 refine ls true rfl rfl rfl rfl ?_
                 refine lg false rfl rfl rfl ?_
                 refine lp rfl (p_pkf rfl rfl) ?_
                 refine lp rfl (p_pkf rfl rfl) ?_
                 refine lp rfl (p_as rfl) ?_
                 refine lj_nil ?_
                 exact cnk32 _ _ false () (Option.some.inj hm).symm ⟨rfl, rfl, trivial⟩ (fun _ h => h.picks [] rfl)
             ·have hm := ifB_f hb hm
              refine ls true rfl rfl rfl rfl ?_
              refine ls true rfl rfl rfl rfl ?_
              refine ls true rfl rfl rfl rfl ?_
              refine lg false rfl rfl rfl ?_
              refine lp rfl (p_pkf rfl rfl) ?_
              refine lp rfl (p_pkf rfl rfl) ?_
              refine lp rfl (p_mv rfl) ?_
              refine lg false rfl rfl rfl ?_
              refine lp rfl (p_fab fl152_3 rfl) ?_
              refine lg false rfl rfl rfl ?_
              refine lp rfl (p_lbs ty4 rfl (j := 0) rfl rfl) ?_
              refine lg false rfl rfl rfl ?_
              refine lp rfl (p_not rfl) ?_
              refine lg false rfl rfl rfl ?_
              refine lp rfl (p_mv rfl) ?_
              refine lcase (i := 110) (!y9.yes) rfl (fun hb => ?_) (fun hb => ?_)
              ·have hm := ifB_t hb hm
               refine lg true rfl rfl rfl ?_
               refine lp rfl (p_fab fl33_7 rfl) ?_
               refine lg true rfl rfl rfl ?_
               refine lp rfl (p_lbs ty4 rfl (j := 1) rfl rfl) ?_
               refine lg false rfl rfl rfl ?_
               refine lp rfl (p_pkt rfl rfl) ?_
               refine lp rfl (p_pkf rfl rfl) ?_
               refine lp rfl (p_mv rfl) ?_
               refine lcase (i := 115) a0.Yes rfl (fun hb => ?_) (fun hb => ?_)
               ·have hm := ifB_t hb hm
                refine ls false rfl rfl rfl rfl ?_
                refine ls false rfl rfl rfl rfl ?_
                refine ls false rfl rfl rfl rfl ?_
                refine ls false rfl rfl rfl rfl ?_
                refine lsu rfl rfl rfl rfl ?_
                refine lsu rfl rfl rfl rfl ?_
                refine lsu rfl rfl rfl rfl ?_
                refine lsu rfl rfl rfl rfl ?_
                refine lsu rfl rfl rfl rfl ?_
                refine lsu rfl rfl rfl rfl ?_
                refine lsu rfl rfl rfl rfl ?_
                refine lsu rfl rfl rfl rfl ?_
                refine ls false rfl rfl rfl rfl ?_
                refine lp rfl (p_pkt rfl rfl) ?_
                refine lp rfl (p_as rfl) ?_
                refine lj_nil ?_
                exact cnk32 _ _ true () (Option.some.inj hm).symm ⟨rfl, rfl, trivial⟩ (fun _ h => h.picks [] rfl)
               ·have hm := ifB_f hb hm
                refine lg false rfl rfl rfl ?_
                refine lp rfl (p_fab fl152_4 rfl) ?_
                refine lg false rfl rfl rfl ?_
                refine lp rfl (p_lbs ty4 rfl (j := 0) rfl rfl) ?_
                refine lg false rfl rfl rfl ?_
                refine lp rfl (p_not rfl) ?_
                refine lg false rfl rfl rfl ?_
                refine lp rfl (p_mv rfl) ?_
                refine lcase (i := 119) (!y9.undo) rfl (fun hb => ?_) (fun hb => ?_)
                ·have hm := ifB_t hb hm
                 refine lg true rfl rfl rfl ?_
                 refine lp rfl (p_fab fl33_8 rfl) ?_
                 refine lg true rfl rfl rfl ?_
                 refine lp rfl (p_lbs ty9 rfl (j := 1) rfl rfl) ?_
                 refine lg true rfl rfl rfl ?_
                 refine lp rfl (p_nes rfl rfl) ?_
                 refine lg true rfl rfl rfl ?_
                 refine lp rfl (p_mv rfl) ?_
                 refine lcase (i := 123) (!(a0.Of.toList == ByteArray.empty.toList)) rfl (fun hb => ?_) (fun hb => ?_)
                 ·have hm := ifB_t hb hm
                  refine ls false rfl rfl rfl rfl ?_
                  refine ls false rfl rfl rfl rfl ?_
                  refine ls false rfl rfl rfl rfl ?_
                  refine lg true rfl rfl rfl ?_
                  refine lp rfl (p_pkt rfl rfl) ?_
                  refine lg false rfl rfl rfl ?_
                  refine lp rfl (p_pkt rfl rfl) ?_
                  refine lp rfl (p_pkf rfl rfl) ?_
                  refine lp rfl (p_as rfl) ?_
                  refine lj_nil ?_
                  exact cnk32 _ _ true () (Option.some.inj hm).symm ⟨rfl, rfl, trivial⟩ (fun _ h => h.picks [] rfl)
                 ·have hm := ifB_f hb hm
                  refine lg false rfl rfl rfl ?_
                  refine lp rfl (p_fab fl33_9 rfl) ?_
                  refine lg false rfl rfl rfl ?_
                  refine lp rfl (p_lbs ty3 rfl (j := 1) rfl rfl) ?_
                  refine lg false rfl rfl rfl ?_
                  refine lp rfl (p_neq rfl rfl) ?_
                  refine lg true rfl rfl rfl ?_
                  refine lp rfl (p_pkf rfl rfl) ?_
                  refine lg false rfl rfl rfl ?_
                  refine lp rfl (p_pkt rfl rfl) ?_
                  refine lp rfl (p_pkf rfl rfl) ?_
                  refine lp rfl (p_as rfl) ?_
                  refine lj_nil ?_
                  exact cnk32 _ _ (a0.Other != 0) () (Option.some.inj hm).symm ⟨rfl, rfl, trivial⟩ (fun _ h => h.picks [] rfl)
                ·have hm := ifB_f hb hm
                 refine ls true rfl rfl rfl rfl ?_
                 refine ls true rfl rfl rfl rfl ?_
                 refine ls true rfl rfl rfl rfl ?_
                 refine ls true rfl rfl rfl rfl ?_
                 refine lsu rfl rfl rfl rfl ?_
                 refine lsu rfl rfl rfl rfl ?_
                 refine lsu rfl rfl rfl rfl ?_
                 refine ls true rfl rfl rfl rfl ?_
                 refine lg false rfl rfl rfl ?_
                 refine lp rfl (p_pkf rfl rfl) ?_
                 refine lp rfl (p_pkf rfl rfl) ?_
                 refine lp rfl (p_as rfl) ?_
                 refine lj_nil ?_
                 exact cnk32 _ _ false () (Option.some.inj hm).symm ⟨rfl, rfl, trivial⟩ (fun _ h => h.picks [] rfl)
              ·have hm := ifB_f hb hm
               refine ls true rfl rfl rfl rfl ?_
               refine ls true rfl rfl rfl rfl ?_
               refine lg false rfl rfl rfl ?_
               refine lp rfl (p_pkf rfl rfl) ?_
               refine lp rfl (p_pkf rfl rfl) ?_
               refine lp rfl (p_mv rfl) ?_
               refine lg false rfl rfl rfl ?_
               refine lp rfl (p_fab fl152_4 rfl) ?_
               refine lg false rfl rfl rfl ?_
               refine lp rfl (p_lbs ty4 rfl (j := 0) rfl rfl) ?_
               refine lg false rfl rfl rfl ?_
               refine lp rfl (p_not rfl) ?_
               refine lg false rfl rfl rfl ?_
               refine lp rfl (p_mv rfl) ?_
               refine lcase (i := 119) (!y9.undo) rfl (fun hb => ?_) (fun hb => ?_)
               ·have hm := ifB_t hb hm
                refine lg true rfl rfl rfl ?_
                refine lp rfl (p_fab fl33_8 rfl) ?_
                refine lg true rfl rfl rfl ?_
                refine lp rfl (p_lbs ty9 rfl (j := 1) rfl rfl) ?_
                refine lg true rfl rfl rfl ?_
                refine lp rfl (p_nes rfl rfl) ?_
                refine lg true rfl rfl rfl ?_
                refine lp rfl (p_mv rfl) ?_
                refine lcase (i := 123) (!(a0.Of.toList == ByteArray.empty.toList)) rfl (fun hb => ?_) (fun hb => ?_)
                ·have hm := ifB_t hb hm
                 refine ls false rfl rfl rfl rfl ?_
                 refine ls false rfl rfl rfl rfl ?_
                 refine ls false rfl rfl rfl rfl ?_
                 refine lg true rfl rfl rfl ?_
                 refine lp rfl (p_pkt rfl rfl) ?_
                 refine lg false rfl rfl rfl ?_
                 refine lp rfl (p_pkt rfl rfl) ?_
                 refine lp rfl (p_pkf rfl rfl) ?_
                 refine lp rfl (p_as rfl) ?_
                 refine lj_nil ?_
                 exact cnk32 _ _ true () (Option.some.inj hm).symm ⟨rfl, rfl, trivial⟩ (fun _ h => h.picks [] rfl)
                ·have hm := ifB_f hb hm
                 refine lg false rfl rfl rfl ?_
                 refine lp rfl (p_fab fl33_9 rfl) ?_
                 refine lg false rfl rfl rfl ?_
                 refine lp rfl (p_lbs ty3 rfl (j := 1) rfl rfl) ?_
                 refine lg false rfl rfl rfl ?_
                 refine lp rfl (p_neq rfl rfl) ?_
                 refine lg true rfl rfl rfl ?_
                 refine lp rfl (p_pkf rfl rfl) ?_
                 refine lg false rfl rfl rfl ?_
                 refine lp rfl (p_pkt rfl rfl) ?_
                 refine lp rfl (p_pkf rfl rfl) ?_
                 refine lp rfl (p_as rfl) ?_
                 refine lj_nil ?_
                 exact cnk32 _ _ (a0.Other != 0) () (Option.some.inj hm).symm ⟨rfl, rfl, trivial⟩ (fun _ h => h.picks [] rfl)
               ·have hm := ifB_f hb hm
                refine ls true rfl rfl rfl rfl ?_
                refine ls true rfl rfl rfl rfl ?_
                refine ls true rfl rfl rfl rfl ?_
                refine ls true rfl rfl rfl rfl ?_
                refine lsu rfl rfl rfl rfl ?_
                refine lsu rfl rfl rfl rfl ?_
                refine lsu rfl rfl rfl rfl ?_
                refine ls true rfl rfl rfl rfl ?_
                refine lg false rfl rfl rfl ?_
                refine lp rfl (p_pkf rfl rfl) ?_
                refine lp rfl (p_pkf rfl rfl) ?_
                refine lp rfl (p_as rfl) ?_
                refine lj_nil ?_
                exact cnk32 _ _ false () (Option.some.inj hm).symm ⟨rfl, rfl, trivial⟩ (fun _ h => h.picks [] rfl)
        ·have hm := hk26
         refine lp rfl (p_fab fl152_2 rfl) ?_
         refine lp rfl (p_lbs ty4 rfl (j := 0) rfl rfl) ?_
         refine lp rfl (p_mv rfl) ?_
         refine lcase (i := 62) y9.cents rfl (fun hb => ?_) (fun hb => ?_)
         ·have hm := ifB_t hb hm
          refine lg true rfl rfl rfl ?_
          refine lp rfl (p_fab fl33_6 rfl) ?_
          refine lg true rfl rfl rfl ?_
          refine lp rfl (p_lbs ty3 rfl (j := 1) rfl rfl) ?_
          refine lg true rfl rfl rfl ?_
          refine lp rfl (p_mv rfl) ?_
          refine lg true rfl rfl rfl ?_
          obtain ⟨y27, hy27, hm⟩ := bindS hm
          refine r_call [] cf76 rfl rfl (ok_kit_Outside a0.Cents u11 1000000000 hy27) rfl rfl .nil (fun _ => rfl) rfl (fun _ => ?_)
          refine lp rfl (p_pkt rfl rfl) ?_
          refine lp rfl (p_mv rfl) ?_
          refine lcase (i := 68) y27 rfl (fun hb => ?_) (fun hb => ?_)
          ·have hm := ifB_t hb hm
           refine ls false rfl rfl rfl rfl ?_
           refine ls false rfl rfl rfl rfl ?_
           refine ls false rfl rfl rfl rfl ?_
           refine lsu rfl rfl rfl rfl ?_
           refine lsu rfl rfl rfl rfl ?_
           refine lsu rfl rfl rfl rfl ?_
           refine ls false rfl rfl rfl rfl ?_
           refine lp rfl (p_pkt rfl rfl) ?_
           refine lp rfl (p_as rfl) ?_
           refine lj_nil ?_
           exact cnk26 _ _ true () (Option.some.inj hm).symm ⟨rfl, rfl, rfl, rfl, trivial⟩ (fun _ h => h.picks [0, 0] rfl)
          ·have hm := ifB_f hb hm
           refine lg false rfl rfl rfl ?_
           refine lp rfl (p_fab fl152_4 rfl) ?_
           refine lg false rfl rfl rfl ?_
           refine lp rfl (p_lbs ty4 rfl (j := 0) rfl rfl) ?_
           refine lg false rfl rfl rfl ?_
           refine lp rfl (p_mv rfl) ?_
           refine lcase (i := 71) y9.undo rfl (fun hb => ?_) (fun hb => ?_)
           ·have hm := ifB_t hb hm
            refine lg true rfl rfl rfl ?_
            refine lp rfl (p_fab fl33_9 rfl) ?_
            refine lg true rfl rfl rfl ?_
            refine lp rfl (p_lbs ty3 rfl (j := 1) rfl rfl) ?_
            refine lg true rfl rfl rfl ?_
            obtain ⟨y28, hy28, hm⟩ := bindS hm
            refine r_call [] cf76 rfl rfl (ok_kit_Outside a0.Other 1 1000000 hy28) rfl rfl .nil (fun _ => rfl) rfl (fun _ => ?_)
            refine lg false rfl rfl rfl ?_
            refine lp rfl (p_pkt rfl rfl) ?_
            refine lp rfl (p_pkf rfl rfl) ?_
            refine lp rfl (p_as rfl) ?_
            refine lj_nil ?_
            exact cnk26 _ _ y28 () (Option.some.inj hm).symm ⟨rfl, rfl, rfl, rfl, trivial⟩ (fun _ h => h.picks [0, 0] rfl)
           ·have hm := ifB_f hb hm
            refine ls true rfl rfl rfl rfl ?_
            refine ls true rfl rfl rfl rfl ?_
            refine ls true rfl rfl rfl rfl ?_
            refine lg false rfl rfl rfl ?_
            refine lp rfl (p_pkf rfl rfl) ?_
            refine lp rfl (p_pkf rfl rfl) ?_
            refine lp rfl (p_as rfl) ?_
            refine lj_nil ?_
            exact cnk26 _ _ false () (Option.some.inj hm).symm ⟨rfl, rfl, rfl, rfl, trivial⟩ (fun _ h => h.picks [0, 0] rfl)
         ·have hm := ifB_f hb hm
          refine ls true rfl rfl rfl rfl ?_
          refine ls true rfl rfl rfl rfl ?_
          refine ls true rfl rfl rfl rfl ?_
          refine ls true rfl rfl rfl rfl ?_
          refine lp rfl (p_pkf rfl rfl) ?_
          refine lp rfl (p_mv rfl) ?_
          refine lg false rfl rfl rfl ?_
          refine lp rfl (p_fab fl152_4 rfl) ?_
          refine lg false rfl rfl rfl ?_
          refine lp rfl (p_lbs ty4 rfl (j := 0) rfl rfl) ?_
          refine lg false rfl rfl rfl ?_
          refine lp rfl (p_mv rfl) ?_
          refine lcase (i := 71) y9.undo rfl (fun hb => ?_) (fun hb => ?_)
          ·have hm := ifB_t hb hm
           refine lg true rfl rfl rfl ?_
           refine lp rfl (p_fab fl33_9 rfl) ?_
           refine lg true rfl rfl rfl ?_
           refine lp rfl (p_lbs ty3 rfl (j := 1) rfl rfl) ?_
           refine lg true rfl rfl rfl ?_
           obtain ⟨y29, hy29, hm⟩ := bindS hm
           refine r_call [] cf76 rfl rfl (ok_kit_Outside a0.Other 1 1000000 hy29) rfl rfl .nil (fun _ => rfl) rfl (fun _ => ?_)
           refine lg false rfl rfl rfl ?_
           refine lp rfl (p_pkt rfl rfl) ?_
           refine lp rfl (p_pkf rfl rfl) ?_
           refine lp rfl (p_as rfl) ?_
           refine lj_nil ?_
           exact cnk26 _ _ y29 () (Option.some.inj hm).symm ⟨rfl, rfl, rfl, rfl, trivial⟩ (fun _ h => h.picks [0, 0] rfl)
          ·have hm := ifB_f hb hm
           refine ls true rfl rfl rfl rfl ?_
           refine ls true rfl rfl rfl rfl ?_
           refine ls true rfl rfl rfl rfl ?_
           refine lg false rfl rfl rfl ?_
           refine lp rfl (p_pkf rfl rfl) ?_
           refine lp rfl (p_pkf rfl rfl) ?_
           refine lp rfl (p_as rfl) ?_
           refine lj_nil ?_
           exact cnk26 _ _ false () (Option.some.inj hm).symm ⟨rfl, rfl, rfl, rfl, trivial⟩ (fun _ h => h.picks [0, 0] rfl)
      ·have hm := hk16
       refine lp rfl (p_fab fl152_0 rfl) ?_
       refine lp rfl (p_lbs ty4 rfl (j := 0) rfl rfl) ?_
       refine lp rfl (p_mv rfl) ?_
       refine lcase (i := 33) y9.who rfl (fun hb => ?_) (fun hb => ?_)
       ·have hm := ifB_t hb hm
        refine lg true rfl rfl rfl ?_
        refine lp rfl (p_fab fl33_4 rfl) ?_
        refine lg true rfl rfl rfl ?_
        refine lp rfl (p_lbs ty9 rfl (j := 1) rfl rfl) ?_
        refine lg true rfl rfl rfl ?_
        obtain ⟨y17, hy17, hm⟩ := bindS hm
        refine r_call [] cf84 rfl rfl (ok_kit_IsKey a0.Who hy17) rfl rfl .nil (fun _ => rfl) rfl (fun _ => ?_)
        refine lg true rfl rfl rfl ?_
        refine lp rfl (p_not rfl) ?_
        refine lp rfl (p_pkt rfl rfl) ?_
        refine lp rfl (p_mv rfl) ?_
        refine lcase (i := 39) (!y17) rfl (fun hb => ?_) (fun hb => ?_)
        ·have hm := ifB_t hb hm
         refine ls false rfl rfl rfl rfl ?_
         refine ls false rfl rfl rfl rfl ?_
         refine ls false rfl rfl rfl rfl ?_
         refine lsu rfl rfl rfl rfl ?_
         refine lsu rfl rfl rfl rfl ?_
         refine lsu rfl rfl rfl rfl ?_
         refine lsu rfl rfl rfl rfl ?_
         refine ls false rfl rfl rfl rfl ?_
         refine lp rfl (p_pkt rfl rfl) ?_
         refine lp rfl (p_mv rfl) ?_
         refine ls false rfl rfl rfl rfl ?_
         refine ls false rfl rfl rfl rfl ?_
         refine ls false rfl rfl rfl rfl ?_
         refine lsu rfl rfl rfl rfl ?_
         refine lsu rfl rfl rfl rfl ?_
         refine lsu rfl rfl rfl rfl ?_
         refine lsu rfl rfl rfl rfl ?_
         refine ls false rfl rfl rfl rfl ?_
         refine lp rfl (p_pkt rfl rfl) ?_
         refine lp rfl (p_as rfl) ?_
         refine lj_nil ?_
         exact cnk16 _ _ true () (Option.some.inj hm).symm ⟨rfl, rfl, rfl, rfl, rfl, trivial⟩ (fun _ h => h.picks [0, 0] rfl)
        ·have hm := ifB_f hb hm
         refine lg false rfl rfl rfl ?_
         refine lp rfl (p_fab fl152_1 rfl) ?_
         refine lg false rfl rfl rfl ?_
         refine lp rfl (p_lbs ty4 rfl (j := 0) rfl rfl) ?_
         refine lg false rfl rfl rfl ?_
         refine lp rfl (p_mv rfl) ?_
         refine lcase (i := 42) y9.motion rfl (fun hb => ?_) (fun hb => ?_)
         ·have hm := ifB_t hb hm
          refine lg true rfl rfl rfl ?_
          refine lp rfl (p_fab fl33_5 rfl) ?_
          refine lg true rfl rfl rfl ?_
          refine lp rfl (p_lbs ty9 rfl (j := 1) rfl rfl) ?_
          refine lg true rfl rfl rfl ?_
          obtain ⟨y18, hy18, hm⟩ := bindS hm
          refine r_call [] cf84 rfl rfl (ok_kit_IsKey a0.Motion hy18) rfl rfl .nil (fun _ => rfl) rfl (fun _ => ?_)
          refine lg true rfl rfl rfl ?_
          refine lp rfl (p_not rfl) ?_
          refine lg false rfl rfl rfl ?_
          refine lp rfl (p_pkt rfl rfl) ?_
          refine lp rfl (p_pkf rfl rfl) ?_
          refine lp rfl (p_mv rfl) ?_
          refine lcase (i := 49) (!y18) rfl (fun hb => ?_) (fun hb => ?_)
          ·have hm := ifB_t hb hm
           refine ls false rfl rfl rfl rfl ?_
           refine ls false rfl rfl rfl rfl ?_
           refine ls false rfl rfl rfl rfl ?_
           refine lsu rfl rfl rfl rfl ?_
           refine lsu rfl rfl rfl rfl ?_
           refine lsu rfl rfl rfl rfl ?_
           refine lsu rfl rfl rfl rfl ?_
           refine ls false rfl rfl rfl rfl ?_
           refine lp rfl (p_pkt rfl rfl) ?_
           refine lp rfl (p_as rfl) ?_
           refine lj_nil ?_
           exact cnk16 _ _ true () (Option.some.inj hm).symm ⟨rfl, rfl, rfl, rfl, rfl, trivial⟩ (fun _ h => h.picks [0, 0] rfl)
          ·have hm := ifB_f hb hm
           refine lg false rfl rfl rfl ?_
           refine lp rfl (p_fab fl152_4 rfl) ?_
           refine lg false rfl rfl rfl ?_
           refine lp rfl (p_lbs ty4 rfl (j := 0) rfl rfl) ?_
           refine lg false rfl rfl rfl ?_
           refine lp rfl (p_mv rfl) ?_
           refine lcase (i := 52) y9.undo rfl (fun hb => ?_) (fun hb => ?_)
           ·have hm := ifB_t hb hm
            refine lg true rfl rfl rfl ?_
            refine lp rfl (p_fab fl33_8 rfl) ?_
            refine lg true rfl rfl rfl ?_
            refine lp rfl (p_lbs ty9 rfl (j := 1) rfl rfl) ?_
            refine lg true rfl rfl rfl ?_
            obtain ⟨y19, hy19, hm⟩ := bindS hm
            refine r_call [] cf84 rfl rfl (ok_kit_IsKey a0.Of hy19) rfl rfl .nil (fun _ => rfl) rfl (fun _ => ?_)
            refine lg true rfl rfl rfl ?_
            refine lp rfl (p_not rfl) ?_
            refine lg false rfl rfl rfl ?_
            refine lp rfl (p_pkt rfl rfl) ?_
            refine lp rfl (p_pkf rfl rfl) ?_
            refine lp rfl (p_as rfl) ?_
            refine lj_nil ?_
            exact cnk16 _ _ (!y19) () (Option.some.inj hm).symm ⟨rfl, rfl, rfl, rfl, rfl, trivial⟩ (fun _ h => h.picks [0, 0] rfl)
           ·have hm := ifB_f hb hm
            refine ls true rfl rfl rfl rfl ?_
            refine ls true rfl rfl rfl rfl ?_
            refine ls true rfl rfl rfl rfl ?_
            refine ls true rfl rfl rfl rfl ?_
            refine lg false rfl rfl rfl ?_
            refine lp rfl (p_pkf rfl rfl) ?_
            refine lp rfl (p_pkf rfl rfl) ?_
            refine lp rfl (p_as rfl) ?_
            refine lj_nil ?_
            exact cnk16 _ _ false () (Option.some.inj hm).symm ⟨rfl, rfl, rfl, rfl, rfl, trivial⟩ (fun _ h => h.picks [0, 0] rfl)
         ·have hm := ifB_f hb hm
          refine ls true rfl rfl rfl rfl ?_
          refine ls true rfl rfl rfl rfl ?_
          refine ls true rfl rfl rfl rfl ?_
          refine ls true rfl rfl rfl rfl ?_
          refine lg false rfl rfl rfl ?_
          refine lp rfl (p_pkf rfl rfl) ?_
          refine lp rfl (p_pkf rfl rfl) ?_
          refine lp rfl (p_mv rfl) ?_
          refine lg false rfl rfl rfl ?_
          refine lp rfl (p_fab fl152_4 rfl) ?_
          refine lg false rfl rfl rfl ?_
          refine lp rfl (p_lbs ty4 rfl (j := 0) rfl rfl) ?_
          refine lg false rfl rfl rfl ?_
          refine lp rfl (p_mv rfl) ?_
          refine lcase (i := 52) y9.undo rfl (fun hb => ?_) (fun hb => ?_)
          ·have hm := ifB_t hb hm
           refine lg true rfl rfl rfl ?_
           refine lp rfl (p_fab fl33_8 rfl) ?_
           refine lg true rfl rfl rfl ?_
           refine lp rfl (p_lbs ty9 rfl (j := 1) rfl rfl) ?_
           refine lg true rfl rfl rfl ?_
           obtain ⟨y20, hy20, hm⟩ := bindS hm
           refine r_call [] cf84 rfl rfl (ok_kit_IsKey a0.Of hy20) rfl rfl .nil (fun _ => rfl) rfl (fun _ => ?_)
           refine lg true rfl rfl rfl ?_
           refine lp rfl (p_not rfl) ?_
           refine lg false rfl rfl rfl ?_
           refine lp rfl (p_pkt rfl rfl) ?_
           refine lp rfl (p_pkf rfl rfl) ?_
           refine lp rfl (p_as rfl) ?_
           refine lj_nil ?_
           exact cnk16 _ _ (!y20) () (Option.some.inj hm).symm ⟨rfl, rfl, rfl, rfl, rfl, trivial⟩ (fun _ h => h.picks [0, 0] rfl)
          ·have hm := ifB_f hb hm
           refine ls true rfl rfl rfl rfl ?_
           refine ls true rfl rfl rfl rfl ?_
           refine ls true rfl rfl rfl rfl ?_
           refine ls true rfl rfl rfl rfl ?_
           refine lg false rfl rfl rfl ?_
           refine lp rfl (p_pkf rfl rfl) ?_
           refine lp rfl (p_pkf rfl rfl) ?_
           refine lp rfl (p_as rfl) ?_
           refine lj_nil ?_
           exact cnk16 _ _ false () (Option.some.inj hm).symm ⟨rfl, rfl, rfl, rfl, rfl, trivial⟩ (fun _ h => h.picks [0, 0] rfl)
       ·have hm := ifB_f hb hm
        refine ls true rfl rfl rfl rfl ?_
        refine ls true rfl rfl rfl rfl ?_
        refine ls true rfl rfl rfl rfl ?_
        refine ls true rfl rfl rfl rfl ?_
        refine lp rfl (p_pkf rfl rfl) ?_
        refine lp rfl (p_mv rfl) ?_
        refine lg false rfl rfl rfl ?_
        refine lp rfl (p_fab fl152_1 rfl) ?_
        refine lg false rfl rfl rfl ?_
        refine lp rfl (p_lbs ty4 rfl (j := 0) rfl rfl) ?_
        refine lg false rfl rfl rfl ?_
        refine lp rfl (p_mv rfl) ?_
        refine lcase (i := 42) y9.motion rfl (fun hb => ?_) (fun hb => ?_)
        ·have hm := ifB_t hb hm
         refine lg true rfl rfl rfl ?_
         refine lp rfl (p_fab fl33_5 rfl) ?_
         refine lg true rfl rfl rfl ?_
         refine lp rfl (p_lbs ty9 rfl (j := 1) rfl rfl) ?_
         refine lg true rfl rfl rfl ?_
         obtain ⟨y21, hy21, hm⟩ := bindS hm
         refine r_call [] cf84 rfl rfl (ok_kit_IsKey a0.Motion hy21) rfl rfl .nil (fun _ => rfl) rfl (fun _ => ?_)
         refine lg true rfl rfl rfl ?_
         refine lp rfl (p_not rfl) ?_
         refine lg false rfl rfl rfl ?_
         refine lp rfl (p_pkt rfl rfl) ?_
         refine lp rfl (p_pkf rfl rfl) ?_
         refine lp rfl (p_mv rfl) ?_
         refine lcase (i := 49) (!y21) rfl (fun hb => ?_) (fun hb => ?_)
         ·have hm := ifB_t hb hm
          refine ls false rfl rfl rfl rfl ?_
          refine ls false rfl rfl rfl rfl ?_
          refine ls false rfl rfl rfl rfl ?_
          refine lsu rfl rfl rfl rfl ?_
          refine lsu rfl rfl rfl rfl ?_
          refine lsu rfl rfl rfl rfl ?_
          refine lsu rfl rfl rfl rfl ?_
          refine ls false rfl rfl rfl rfl ?_
          refine lp rfl (p_pkt rfl rfl) ?_
          refine lp rfl (p_as rfl) ?_
          refine lj_nil ?_
          exact cnk16 _ _ true () (Option.some.inj hm).symm ⟨rfl, rfl, rfl, rfl, rfl, trivial⟩ (fun _ h => h.picks [0, 0] rfl)
         ·have hm := ifB_f hb hm
          refine lg false rfl rfl rfl ?_
          refine lp rfl (p_fab fl152_4 rfl) ?_
          refine lg false rfl rfl rfl ?_
          refine lp rfl (p_lbs ty4 rfl (j := 0) rfl rfl) ?_
          refine lg false rfl rfl rfl ?_
          refine lp rfl (p_mv rfl) ?_
          refine lcase (i := 52) y9.undo rfl (fun hb => ?_) (fun hb => ?_)
          ·have hm := ifB_t hb hm
           refine lg true rfl rfl rfl ?_
           refine lp rfl (p_fab fl33_8 rfl) ?_
           refine lg true rfl rfl rfl ?_
           refine lp rfl (p_lbs ty9 rfl (j := 1) rfl rfl) ?_
           refine lg true rfl rfl rfl ?_
           obtain ⟨y22, hy22, hm⟩ := bindS hm
           refine r_call [] cf84 rfl rfl (ok_kit_IsKey a0.Of hy22) rfl rfl .nil (fun _ => rfl) rfl (fun _ => ?_)
           refine lg true rfl rfl rfl ?_
           refine lp rfl (p_not rfl) ?_
           refine lg false rfl rfl rfl ?_
           refine lp rfl (p_pkt rfl rfl) ?_
           refine lp rfl (p_pkf rfl rfl) ?_
           refine lp rfl (p_as rfl) ?_
           refine lj_nil ?_
           exact cnk16 _ _ (!y22) () (Option.some.inj hm).symm ⟨rfl, rfl, rfl, rfl, rfl, trivial⟩ (fun _ h => h.picks [0, 0] rfl)
          ·have hm := ifB_f hb hm
           refine ls true rfl rfl rfl rfl ?_
           refine ls true rfl rfl rfl rfl ?_
           refine ls true rfl rfl rfl rfl ?_
           refine ls true rfl rfl rfl rfl ?_
           refine lg false rfl rfl rfl ?_
           refine lp rfl (p_pkf rfl rfl) ?_
           refine lp rfl (p_pkf rfl rfl) ?_
           refine lp rfl (p_as rfl) ?_
           refine lj_nil ?_
           exact cnk16 _ _ false () (Option.some.inj hm).symm ⟨rfl, rfl, rfl, rfl, rfl, trivial⟩ (fun _ h => h.picks [0, 0] rfl)
        ·have hm := ifB_f hb hm
         refine ls true rfl rfl rfl rfl ?_
         refine ls true rfl rfl rfl rfl ?_
         refine ls true rfl rfl rfl rfl ?_
         refine ls true rfl rfl rfl rfl ?_
         refine lg false rfl rfl rfl ?_
         refine lp rfl (p_pkf rfl rfl) ?_
         refine lp rfl (p_pkf rfl rfl) ?_
         refine lp rfl (p_mv rfl) ?_
         refine lg false rfl rfl rfl ?_
         refine lp rfl (p_fab fl152_4 rfl) ?_
         refine lg false rfl rfl rfl ?_
         refine lp rfl (p_lbs ty4 rfl (j := 0) rfl rfl) ?_
         refine lg false rfl rfl rfl ?_
         refine lp rfl (p_mv rfl) ?_
         refine lcase (i := 52) y9.undo rfl (fun hb => ?_) (fun hb => ?_)
         ·have hm := ifB_t hb hm
          refine lg true rfl rfl rfl ?_
          refine lp rfl (p_fab fl33_8 rfl) ?_
          refine lg true rfl rfl rfl ?_
          refine lp rfl (p_lbs ty9 rfl (j := 1) rfl rfl) ?_
          refine lg true rfl rfl rfl ?_
          obtain ⟨y23, hy23, hm⟩ := bindS hm
          refine r_call [] cf84 rfl rfl (ok_kit_IsKey a0.Of hy23) rfl rfl .nil (fun _ => rfl) rfl (fun _ => ?_)
          refine lg true rfl rfl rfl ?_
          refine lp rfl (p_not rfl) ?_
          refine lg false rfl rfl rfl ?_
          refine lp rfl (p_pkt rfl rfl) ?_
          refine lp rfl (p_pkf rfl rfl) ?_
          refine lp rfl (p_as rfl) ?_
          refine lj_nil ?_
          exact cnk16 _ _ (!y23) () (Option.some.inj hm).symm ⟨rfl, rfl, rfl, rfl, rfl, trivial⟩ (fun _ h => h.picks [0, 0] rfl)
         ·have hm := ifB_f hb hm
          refine ls true rfl rfl rfl rfl ?_
          refine ls true rfl rfl rfl rfl ?_
          refine ls true rfl rfl rfl rfl ?_
          refine ls true rfl rfl rfl rfl ?_
          refine lg false rfl rfl rfl ?_
          refine lp rfl (p_pkf rfl rfl) ?_
          refine lp rfl (p_pkf rfl rfl) ?_
          refine lp rfl (p_as rfl) ?_
          refine lj_nil ?_
          exact cnk16 _ _ false () (Option.some.inj hm).symm ⟨rfl, rfl, rfl, rfl, rfl, trivial⟩ (fun _ h => h.picks [0, 0] rfl)
     ·have hm := hk13
      refine cj_if (b := a0.Kind == 3) rfl (fun hb => ?_) (fun hb => ?_)
      ·have hm := ifB_t hb hm
       refine cj_reg ?_
       refine lp rfl (p_as rfl) ?_
       refine lj_nil ?_
       exact cnk13 _ _ 1 () (Option.some.inj hm).symm ⟨rfl, rfl, rfl, rfl, trivial⟩ (fun _ h => h.picks [0, 0] rfl)
      ·have hm := ifB_f hb hm
       refine cj_skip ?_
       exact cnk13 _ _ 0 () (Option.some.inj hm).symm ⟨rfl, rfl, rfl, rfl, trivial⟩ (fun _ h => h.picks [0, 0] rfl)
  ·have hm := hk5
   refine lp rfl (p_fab fl33_1 rfl) ?_
   refine lp rfl (p_lbs ty3 rfl (j := 0) rfl rfl) ?_
   obtain ⟨y6, hy6, hm⟩ := bindS hm
   refine r_call [] cf76 rfl rfl (ok_kit_Outside a0.No 1 1000000 hy6) rfl rfl .nil (fun _ => rfl) rfl (fun _ => ?_)
   refine lp rfl (p_mv rfl) ?_
   refine lcase (i := 14) y6 rfl (fun hb => ?_) (fun hb => ?_)
   ·have hm := ifB_t hb hm
    refine ls false rfl rfl rfl rfl ?_
    refine ls false rfl rfl rfl rfl ?_
    refine ls false rfl rfl rfl rfl ?_
    refine ls false rfl rfl rfl rfl ?_
    refine lp rfl (p_pkt rfl rfl) ?_
    refine lp rfl (p_as rfl) ?_
    refine lj_nil ?_
    exact cnk5 _ _ true () (Option.some.inj hm).symm ⟨rfl, rfl, rfl, trivial⟩ (fun _ h => h.picks [0] rfl)
   ·have hm := ifB_f hb hm
    refine lg false rfl rfl rfl ?_
    refine lp rfl (p_fab fl33_2 rfl) ?_
    refine lg false rfl rfl rfl ?_
    refine lp rfl (p_lbs ty3 rfl (j := 0) rfl rfl) ?_
    refine lg false rfl rfl rfl ?_
    obtain ⟨y7, hy7, hm⟩ := bindS hm
    refine r_call [] cf44 rfl rfl (ok_kit_IsMoment a0.At hy7) rfl rfl .nil (fun _ => rfl) rfl (fun _ => ?_)
    refine lg false rfl rfl rfl ?_
    refine lp rfl (p_not rfl) ?_
    refine lp rfl (p_pkf rfl rfl) ?_
    refine lp rfl (p_as rfl) ?_
    refine lj_nil ?_
    exact cnk5 _ _ (!y7) () (Option.some.inj hm).symm ⟨rfl, rfl, rfl, trivial⟩ (fun _ h => h.picks [0] rfl)
theorem ok_cmp_isNaN_int (a0 : Int) {r : Bool} (hm : m_cmp_isNaN_int a0 = some r) :
  Ctr Tryz.prog 124 [.int .i64 a0].toArray ([] : List Ent) [] (X := Unit) (fun _ => .bool r) (fun _ => []) := by
 unfold m_cmp_isNaN_int at hm
 refine ctr_mk (vs := [(0, .int .i64 a0)]) Tryz.func124 rfl Tryz.ntmps124 rfl ⟨rfl, trivial⟩ (fun w0 A => ?_)
 refine cj_seq ?_
 refine cj_reg ?_
 refine lp rfl (p_as rfl) ?_
 refine lj_seq ?_
 refine cj_seq ?_
 refine cj_reg ?_
 refine lp rfl (p_mv rfl) ?_
 refine lp rfl (p_mv rfl) ?_
 refine lp rfl (p_neq rfl rfl) ?_
 refine lp rfl (p_as rfl) ?_
 refine lj_seq ?_
 obtain rfl := Option.some.inj hm
 exact cj_rt () [] Tryz.results124 (.tmp rfl .nil) rfl rfl
theorem ok_cmp_Compare_int (a0 : Int) (a1 : Int) {r : Int} (hm : m_cmp_Compare_int a0 a1 = some r) :
  Ctr Tryz.prog 101 [.int .i64 a0, .int .i64 a1].toArray ([] : List Ent) [] (X := Unit) (fun _ => .int .i64 r) (fun _ => []) := by
 unfold m_cmp_Compare_int at hm
 refine ctr_mk (vs := [(0, .int .i64 a0), (1, .int .i64 a1)]) Tryz.func101 rfl Tryz.ntmps101 rfl ⟨rfl, rfl, trivial⟩ (fun w0 A => ?_)
 refine cj_seq ?_
 refine cj_reg ?_
 refine lp rfl (p_as rfl) ?_
 refine lj_seq ?_
 refine cj_seq ?_
 refine cj_reg ?_
 refine lp rfl (p_mv rfl) ?_
 obtain ⟨y1, hy1, hm⟩ := bindS hm
 refine r_call [] cf124 rfl rfl (ok_cmp_isNaN_int a0 hy1) rfl rfl .nil (fun _ => rfl) rfl (fun _ => ?_)
 refine lp rfl (p_as rfl) ?_
 refine lj_seq ?_
 refine cj_seq ?_
 refine cj_reg ?_
 refine lp rfl (p_mv rfl) ?_
 obtain ⟨y2, hy2, hm⟩ := bindS hm
 refine r_call [] cf124 rfl rfl (ok_cmp_isNaN_int a1 hy2) rfl rfl .nil (fun _ => rfl) rfl (fun _ => ?_)
 refine lp rfl (p_as rfl) ?_
 refine lj_seq ?_
 refine cj_seq ?_
 refine cj_seq ?_
 refine cj_reg ?_
 refine lp rfl (p_mv rfl) ?_
 refine lj_seq ?_
 refine cj_if (b := y1) rfl (fun hb => ?_) (fun hb => ?_)
 ·have hm := ifB_t hb hm
  refine cj_seq ?_
  refine cj_seq ?_
  refine cj_reg ?_
  refine lp rfl (p_mv rfl) ?_
  refine lj_seq ?_
  refine cj_if (b := y2) rfl (fun hb => ?_) (fun hb => ?_)
  ·have hm := ifB_t hb hm
   refine cj_seq ?_
   refine cj_reg ?_
   refine lp rfl (p_as rfl) ?_
   refine lj_seq ?_
   obtain rfl := Option.some.inj hm
   exact cj_rt () [] Tryz.results101 (.tmp rfl .nil) rfl rfl
  ·have hm := ifB_f hb hm
   refine cj_skip ?_
   refine nj_seq ?_
   refine cj_seq ?_
   refine cj_reg ?_
   refine lp rfl (p_as rfl) ?_
   refine lj_seq ?_
   obtain rfl := Option.some.inj hm
   exact cj_rt () [] Tryz.results101 (.tmp rfl .nil) rfl rfl
 ·have hm := ifB_f hb hm
  refine cj_skip ?_
  refine nj_seq ?_
  refine cj_seq ?_
  refine cj_seq ?_
  refine cj_reg ?_
  refine lp rfl (p_mv rfl) ?_
  refine lj_seq ?_
  refine cj_if (b := y2) rfl (fun hb => ?_) (fun hb => ?_)
  ·have hm := ifB_t hb hm
   refine cj_seq ?_
   refine cj_reg ?_
   refine lp rfl (p_as rfl) ?_
   refine lj_seq ?_
   obtain rfl := Option.some.inj hm
   exact cj_rt () [] Tryz.results101 (.tmp rfl .nil) rfl rfl
  ·have hm := ifB_f hb hm
   refine cj_skip ?_
   refine nj_seq ?_
   refine cj_seq ?_
   refine cj_seq ?_
   refine cj_reg ?_
   refine lp rfl (p_mv rfl) ?_
   refine lp rfl (p_mv rfl) ?_
   refine lp rfl (p_lss rfl rfl) ?_
   refine lj_seq ?_
   refine cj_if (b := decide (a0 < a1)) rfl (fun hb => ?_) (fun hb => ?_)
   ·have hm := ifB_t hb hm
    refine cj_seq ?_
    refine cj_reg ?_
    refine lp rfl (p_as rfl) ?_
    refine lj_seq ?_
    obtain rfl := Option.some.inj hm
    exact cj_rt () [] Tryz.results101 (.tmp rfl .nil) rfl rfl
   ·have hm := ifB_f hb hm
    refine cj_skip ?_
    refine nj_seq ?_
    refine cj_seq ?_
    refine cj_seq ?_
    refine cj_reg ?_
    refine lp rfl (p_mv rfl) ?_
    refine lp rfl (p_mv rfl) ?_
    refine lp rfl (p_gtr rfl rfl) ?_
    refine lj_seq ?_
    refine cj_if (b := decide (a0 > a1)) rfl (fun hb => ?_) (fun hb => ?_)
    ·have hm := ifB_t hb hm
     refine cj_seq ?_
     refine cj_reg ?_
     refine lp rfl (p_as rfl) ?_
     refine lj_seq ?_
     obtain rfl := Option.some.inj hm
     exact cj_rt () [] Tryz.results101 (.tmp rfl .nil) rfl rfl
    ·have hm := ifB_f hb hm
     refine cj_skip ?_
     refine nj_seq ?_
     refine cj_seq ?_
     refine cj_reg ?_
     refine lp rfl (p_as rfl) ?_
     refine lj_seq ?_
     obtain rfl := Option.some.inj hm
     exact cj_rt () [] Tryz.results101 (.tmp rfl .nil) rfl rfl
theorem ok_cmp_Or_int (s0_ : SV) (a0 : (List Int)) {r : Int} (hm : m_cmp_Or_int a0 = some r) :
  Ctr Tryz.prog 100 [s0_.v].toArray ([] : List Ent) [RdS R3 (SV.v s0_) a0] (X := Unit) (fun _ => .int .i64 r) (fun _ => []) := by
 unfold m_cmp_Or_int at hm
 refine ctr_mk (vs := [(0, s0_.v)]) Tryz.func100 rfl Tryz.ntmps100 rfl ⟨rfl, trivial⟩ (fun w0 A => ?_)
 refine cj_seq ?_
 refine cj_reg ?_
 refine lp rfl (p_as rfl) ?_
 refine lj_seq ?_
 refine cj_seq ?_
 refine cj_reg ?_
 refine lp rfl (p_as rfl) ?_
 refine lj_seq ?_
 refine cj_seq ?_
 refine cj_seq ?_
 refine cj_reg ?_
 refine lp rfl (p_mv rfl) ?_
 refine lp rfl (p_len Tryz.underlying22 rfl (.ro 0 rfl)) ?_
 refine lp rfl (p_mv rfl) ?_
 refine lj_seq ?_
 obtain ⟨f7, hf7, hm⟩ := bindS hm
 refine cj_range (γ := Unit) (m := (a0.length : Int)) hf7 () (fun u4 g5 => [(2, .int .i64 0), (3, .int .i64 0), (6, s0_.v)]) (fun u4 g5 => Sat w0 (keys ([] : List Ent)) A [.ro (RdS R3 (SV.v s0_) a0)]) ⟨rfl, rfl, rfl, rfl, rfl, trivial⟩ (fun _ h => h.picks [0] rfl) (nat_lt _) (fun _ h => (FactAt.get (F := RdS R3 (SV.v s0_) a0) (.ro 0 rfl) h).1) (fun _ _ => ⟨rfl, rfl, rfl, rfl⟩) ⟨rfl, rfl, rfl, rfl, rfl⟩ rfl rfl rfl (fun u4 g5 e => ?_) (fun aftk6 i1 x2 u4 g5 k6 hx3 hs J hJk6 hBk6 hX I cnk6 => ?_)
 ·have hm := Flow.fin_b e hm
  refine nj_seq ?_
  refine cj_seq ?_
  refine cj_reg ?_
  refine lp rfl (p_mv rfl) ?_
  refine lp rfl (p_as rfl) ?_
  refine lj_seq ?_
  obtain rfl := Option.some.inj hm
  exact cj_rt () [] Tryz.results100 (.tmp rfl .nil) rfl rfl
 ·have hRk6 : ∀ t, k6 = .ret t → some t = some r := fun t e => by rw [hX t e] at hm; exact hm
  have hm := hs
  refine cj_seq ?_
  refine cj_reg ?_
  refine lp rfl (p_idx Tryz.underlying22 ty3 rfl rfl (.ro 0 rfl) (getI_nat.trans hx3)) ?_
  refine lp rfl (p_lde (o := 0) ty3 rfl rfl (.ro 0 rfl) hx3 rfl) ?_
  refine lp rfl (p_as rfl) ?_
  refine lj_seq ?_
  refine cj_seq ?_
  refine cj_reg ?_
  refine lp rfl (p_mv rfl) ?_
  refine lp rfl (p_mv rfl) ?_
  refine lp rfl (p_neq rfl rfl) ?_
  refine lj_seq ?_
  refine cj_if (b := x2 != 0) rfl (fun hb => ?_) (fun hb => ?_)
  ·have hm := ifB_t hb hm
   refine cj_seq ?_
   refine cj_reg ?_
   refine lp rfl (p_mv rfl) ?_
   refine lp rfl (p_as rfl) ?_
   refine lj_seq ?_
   have hm := hRk6 _ (Option.some.inj hm).symm
   obtain rfl := Option.some.inj hm
   exact cj_rt () [] Tryz.results100 (.tmp rfl .nil) rfl rfl
  ·have hm := ifB_f hb hm
   refine cj_skip ?_
   refine nj_blk ?_
   exact cnk6 _ _ () () (hJk6 _ (Option.some.inj hm).symm) ⟨rfl, rfl, rfl, rfl, rfl, trivial⟩ (fun _ h => h.picks [0] rfl)
theorem ok_club_compare (a0 : TAct) (a1 : TAct) {r : Int} (hm : m_club_compare a0 a1 = some r) :
  Ctr Tryz.prog 75 [.agg (R33.enc a0).toArray, .agg (R33.enc a1).toArray].toArray ([] : List Ent) [] (X := Unit) (fun _ => .int .i64 r) (fun _ => []) := by
 unfold m_club_compare at hm
 refine ctr_mk (vs := [(0, .agg (R33.enc a0).toArray), (1, .agg (R33.enc a1).toArray)]) Tryz.func75 rfl Tryz.ntmps75 rfl ⟨rfl, rfl, trivial⟩ (fun w0 A => ?_)
 refine cj_seq ?_
 refine cj_reg ?_
 refine r_bx (cs := [.string a0.Site, .int .i64 a0.No, .int .i64 a0.At, .int .i64 a0.Kind, .string a0.Who, .string a0.Motion, .int .i64 a0.Cents, .bool a0.Yes, .string a0.Of, .int .i64 a0.Other]) rfl rfl rfl (fun b1 => ?_)
 refine r_bx (cs := [.string a1.Site, .int .i64 a1.No, .int .i64 a1.At, .int .i64 a1.Kind, .string a1.Who, .string a1.Motion, .int .i64 a1.Cents, .bool a1.Yes, .string a1.Of, .int .i64 a1.Other]) rfl rfl rfl (fun b2 => ?_)
 refine lp rfl (p_as rfl) ?_
 refine lj_seq ?_
 refine cj_seq ?_
 obtain ⟨y3, hy3, hm⟩ := bindS hm
 obtain ⟨y4, hy4, hm⟩ := bindS hm
 obtain ⟨y5, hy5, hm⟩ := bindS hm
 obtain ⟨y7, hy7, hm⟩ := bindS hm
 refine cj_anyT [0, 1, 2, 3, 5, 6, 7, 8, 10, 11, 12, 13, 17] [] (Sat w0 (keys ([] : List Ent)) A [.box b2 33 [.string a1.Site, .int .i64 a1.No, .int .i64 a1.At, .int .i64 a1.Kind, .string a1.Who, .string a1.Motion, .int .i64 a1.Cents, .bool a1.Yes, .string a1.Of, .int .i64 a1.Other], .box b1 33 [.string a0.Site, .int .i64 a0.No, .int .i64 a0.At, .int .i64 a0.Kind, .string a0.Who, .string a0.Motion, .int .i64 a0.Cents, .bool a0.Yes, .string a0.Of, .int .i64 a0.Other]]) (Sat w0 (keys ([] : List Ent)) A [.box b2 33 [.string a1.Site, .int .i64 a1.No, .int .i64 a1.At, .int .i64 a1.Kind, .string a1.Who, .string a1.Motion, .int .i64 a1.Cents, .bool a1.Yes, .string a1.Of, .int .i64 a1.Other], .box b1 33 [.string a0.Site, .int .i64 a0.No, .int .i64 a0.At, .int .i64 a0.Kind, .string a0.Who, .string a0.Motion, .int .i64 a0.Cents, .bool a0.Yes, .string a0.Of, .int .i64 a0.Other]]) (by kernel_rfl) ?_
 refine at_take2 0 rfl (by kernel_rfl) (by kernel_rfl) (by kernel_rfl) (fun _ h => h.picks [0, 0] rfl) rfl rfl (p_fab fl33_2 rfl) (fun _ h => h.picks [0, 0] rfl) ?_
 refine at_take2 1 rfl (by kernel_rfl) (by kernel_rfl) (by kernel_rfl) (fun _ h => h.picks [0, 0] rfl) rfl rfl (p_lbs ty3 rfl (j := 1) rfl rfl) (fun _ h => h.picks [0, 0] rfl) ?_
 refine at_take2 2 rfl (by kernel_rfl) (by kernel_rfl) (by kernel_rfl) (fun _ h => h.picks [0, 0] rfl) rfl rfl (p_fab fl33_2 rfl) (fun _ h => h.picks [0, 0] rfl) ?_
 refine at_take2 3 rfl (by kernel_rfl) (by kernel_rfl) (by kernel_rfl) (fun _ h => h.picks [0, 0] rfl) rfl rfl (p_lbs ty3 rfl (j := 0) rfl rfl) (fun _ h => h.picks [0, 0] rfl) ?_
 refine at_take2 5 rfl (by kernel_rfl) (by kernel_rfl) (by kernel_rfl) (fun _ h => h.picks [0, 0] rfl) rfl rfl (p_fab fl33_0 rfl) (fun _ h => h.picks [0, 0] rfl) ?_
 refine at_take2 6 rfl (by kernel_rfl) (by kernel_rfl) (by kernel_rfl) (fun _ h => h.picks [0, 0] rfl) rfl rfl (p_lbs ty9 rfl (j := 1) rfl rfl) (fun _ h => h.picks [0, 0] rfl) ?_
 refine at_take2 7 rfl (by kernel_rfl) (by kernel_rfl) (by kernel_rfl) (fun _ h => h.picks [0, 0] rfl) rfl rfl (p_fab fl33_0 rfl) (fun _ h => h.picks [0, 0] rfl) ?_
 refine at_take2 8 rfl (by kernel_rfl) (by kernel_rfl) (by kernel_rfl) (fun _ h => h.picks [0, 0] rfl) rfl rfl (p_lbs ty9 rfl (j := 0) rfl rfl) (fun _ h => h.picks [0, 0] rfl) ?_
 refine at_take2 10 rfl (by kernel_rfl) (by kernel_rfl) (by kernel_rfl) (fun _ h => h.picks [0, 0] rfl) rfl rfl (p_fab fl33_1 rfl) (fun _ h => h.picks [0, 0] rfl) ?_
 refine at_take2 11 rfl (by kernel_rfl) (by kernel_rfl) (by kernel_rfl) (fun _ h => h.picks [0, 0] rfl) rfl rfl (p_lbs ty3 rfl (j := 1) rfl rfl) (fun _ h => h.picks [0, 0] rfl) ?_
 refine at_take2 12 rfl (by kernel_rfl) (by kernel_rfl) (by kernel_rfl) (fun _ h => h.picks [0, 0] rfl) rfl rfl (p_fab fl33_1 rfl) (fun _ h => h.picks [0, 0] rfl) ?_
 refine at_take2 13 rfl (by kernel_rfl) (by kernel_rfl) (by kernel_rfl) (fun _ h => h.picks [0, 0] rfl) rfl rfl (p_lbs ty3 rfl (j := 0) rfl rfl) (fun _ h => h.picks [0, 0] rfl) ?_
 refine at_each (rs := [4]) (by kernel_rfl) (by decide) ?_
 refine (.cons rfl (fun I cnI => ?_) .nil)
 ·refine r_call [] cf101 rfl rfl (ok_cmp_Compare_int a0.At a1.At hy3) rfl rfl .nil (fun _ => rfl) rfl (fun _ => ?_)
  refine lj_nil ?_
  refine cnI _ _ (sof1 rfl rfl (fun _ h => h.picks [0, 0] rfl)) ?_
  refine at_each (rs := [9]) (by kernel_rfl) (by decide) ?_
  refine (.cons rfl (fun I cnI => ?_) .nil)
  ·refine r_call [] cf63 rfl rfl (ok_strings_Compare a0.Site a1.Site hy4) rfl rfl .nil (fun _ => rfl) rfl (fun _ => ?_)
   refine lj_nil ?_
   refine cnI _ _ (sof1 rfl rfl (fun _ h => h.picks [0, 0] rfl)) ?_
   refine at_each (rs := [14]) (by kernel_rfl) (by decide) ?_
   refine (.cons rfl (fun I cnI => ?_) .nil)
   ·refine r_call [] cf101 rfl rfl (ok_cmp_Compare_int a0.No a1.No hy5) rfl rfl .nil (fun _ => rfl) rfl (fun _ => ?_)
    refine lj_nil ?_
    refine cnI _ _ (sof1 rfl rfl (fun _ h => h.picks [0, 0] rfl)) ?_
    refine at_each (rs := [15]) (by kernel_rfl) (by decide) ?_
    refine (.cons rfl (fun I cnI => ?_) .nil)
    ·refine r_bs R3 [y3, y4, y5] rfl rfl rfl (fun _ => by kernel_rfl) rfl (fun s8 => ?_)
     refine lj_nil ?_
     refine cnI _ _ (sof1 rfl rfl (fun _ h => h.picks [1, 1] rfl)) ?_
     refine at_each (rs := [16]) (by kernel_rfl) (by decide) ?_
     refine (.cons rfl (fun I cnI => ?_) .nil)
     ·refine r_call [] cf100 rfl rfl (ok_cmp_Or_int s8 [y3, y4, y5] hy7) rfl rfl (.cons (.row 0 rfl) .nil) (fun _ => rfl) rfl (fun _ => ?_)
      refine lj_nil ?_
      refine cnI _ _ (sof1 rfl rfl (fun _ h => h.picks [1, 1] rfl)) ?_
      refine at_take2 17 rfl (by kernel_rfl) (by kernel_rfl) (by kernel_rfl) (fun _ h => h.picks [0, 0] rfl) rfl rfl (p_as rfl) (fun _ h => h.picks [1, 1] rfl) ?_
      refine at_done (by kernel_rfl) ?_
      refine nj_seq ?_
      obtain rfl := Option.some.inj hm
      exact cj_rt () [] Tryz.results75 (.tmp rfl .nil) rfl rfl
theorem ok_club_CheckActs (s0_ : SV) (a0 : (List TAct)) {r : Int} (hm : m_club_CheckActs a0 = some r) :
  Ctr Tryz.prog 43 [s0_.v].toArray ([] : List Ent) [RdS R33 (SV.v s0_) a0] (X := Unit) (fun _ => .int .i64 r) (fun _ => []) := by
 unfold m_club_CheckActs at hm
 refine ctr_mk (vs := [(0, s0_.v)]) Tryz.func43 rfl Tryz.ntmps43 rfl ⟨rfl, trivial⟩ (fun w0 A => ?_)
 refine cj_seq ?_
 refine cj_reg ?_
 refine lp rfl (p_as rfl) ?_
 refine lj_seq ?_
 refine cj_seq ?_
 refine cj_seq ?_
 refine cj_reg ?_
 refine lp rfl (p_mv rfl) ?_
 refine lp rfl (p_len Tryz.underlying26 rfl (.ro 0 rfl)) ?_
 refine lp rfl (p_gtr rfl rfl) ?_
 refine lj_seq ?_
 refine cj_if (b := decide ((a0.length : Int) > 2000)) rfl (fun hb => ?_) (fun hb => ?_)
 ·have hm := ifB_t hb hm
  refine cj_seq ?_
  refine cj_reg ?_
  refine lp rfl (p_as rfl) ?_
  refine lj_seq ?_
  obtain rfl := Option.some.inj hm
  exact cj_rt () [] Tryz.results43 (.tmp rfl .nil) rfl rfl
 ·have hm := ifB_f hb hm
  refine cj_skip ?_
  refine nj_seq ?_
  refine cj_seq ?_
  refine cj_seq ?_
  refine cj_reg ?_
  refine lp rfl (p_mv rfl) ?_
  refine lp rfl (p_len Tryz.underlying26 rfl (.ro 0 rfl)) ?_
  refine lp rfl (p_mv rfl) ?_
  refine lj_seq ?_
  obtain ⟨f7, hf7, hm⟩ := bindS hm
  refine cj_range (γ := Unit) (m := (a0.length : Int)) hf7 () (fun u4 g5 => [(0, s0_.v), (2, .int .i64 0), (13, s0_.v)]) (fun u4 g5 => Sat w0 (keys ([] : List Ent)) A [.ro (RdS R33 (SV.v s0_) a0)]) ⟨rfl, rfl, rfl, rfl, rfl, trivial⟩ (fun _ h => h.picks [0] rfl) (nat_lt _) (fun _ h => (FactAt.get (F := RdS R33 (SV.v s0_) a0) (.ro 0 rfl) h).1) (fun _ _ => ⟨rfl, rfl, rfl, rfl⟩) ⟨rfl, rfl, rfl, rfl, rfl⟩ rfl rfl rfl (fun u4 g5 e => ?_) (fun aftk6 i1 x2 u4 g5 k6 hx3 hs J hJk6 hBk6 hX I cnk6 => ?_)
  ·have hm := Flow.fin_b e hm
   refine nj_seq ?_
   refine cj_seq ?_
   refine cj_reg ?_
   refine r_mkmap kv100 vv4 rfl (fun b12 => ?_)
   refine lp rfl (p_as rfl) ?_
   refine lj_seq ?_
   refine cj_seq ?_
   refine cj_seq ?_
   refine cj_reg ?_
   refine lp rfl (p_mv rfl) ?_
   refine lp rfl (p_len Tryz.underlying26 rfl (.ro 1 rfl)) ?_
   refine lp rfl (p_mv rfl) ?_
   refine lj_seq ?_
   obtain ⟨f19, hf19, hm⟩ := bindS hm
   refine cj_range (γ := (Array MapEntry × Nat)) (m := (a0.length : Int)) hf19 (#[], 0) (fun u16 g17 => [(2, .int .i64 0), (6, .map (some b12)), (39, s0_.v)]) (fun u16 g17 => Sat w0 (keys ([] : List Ent)) A [.obj (mapO kv100 b12 (mpV vv4 u16) g17.1 g17.2), .ro (RdS R33 (SV.v s0_) a0)]) ⟨rfl, rfl, rfl, rfl, rfl, trivial⟩ (fun _ h => h.picks [0, 0] rfl) (nat_lt _) (fun _ h => (FactAt.get (F := RdS R33 (SV.v s0_) a0) (.ro 1 rfl) h).1) (fun _ _ => ⟨rfl, rfl, rfl, rfl⟩) ⟨rfl, rfl, rfl, rfl, rfl⟩ rfl rfl rfl (fun u16 g17 e => ?_) (fun aftk18 i13 x14 u16 g17 k18 hx15 hs J hJk18 hBk18 hX I cnk18 => ?_)
   ·have hm := Flow.fin_b e hm
    refine nj_seq ?_
    refine cj_seq ?_
    refine cj_reg ?_
    refine lp rfl (p_as rfl) ?_
    refine lj_seq ?_
    obtain rfl := Option.some.inj hm
    exact cj_rt () [] Tryz.results43 (.tmp rfl .nil) rfl rfl
   ·have hRk18 : ∀ t, k18 = .ret t → some t = some r := fun t e => by rw [hX t e] at hm; exact hm
    have hm := hs
    refine cj_seq ?_
    refine cj_reg ?_
    refine lp rfl (p_idx Tryz.underlying26 ty33 rfl rfl (.ro 1 rfl) (getI_nat.trans hx15)) ?_
    refine lp rfl (p_lea ty33 rfl (.ro 1 rfl) hx15) ?_
    refine r_al ty33 rfl (fun b20 => ?_)
    refine r_sb (vs := [.string x14.Site, .int .i64 x14.No, .int .i64 x14.At, .int .i64 x14.Kind, .string x14.Who, .string x14.Motion, .int .i64 x14.Cents, .bool x14.Yes, .string x14.Of, .int .i64 x14.Other]) (j := 0) ty33 rfl rfl rfl rfl rfl rfl rfl ?_
    refine lj_seq ?_
    refine cj_seq ?_
    refine cj_reg ?_
    refine lp rfl (p_fab fl33_0 rfl) ?_
    refine lp rfl (p_lbs ty9 rfl (j := 0) rfl rfl) ?_
    refine lp rfl (p_fab fl33_1 rfl) ?_
    refine lp rfl (p_lbs ty3 rfl (j := 0) rfl rfl) ?_
    refine lp rfl (p_bld [.string x14.Site, .int .i64 x14.No] rfl (fun _ => by kernel_rfl)) ?_
    refine r_al ty100 rfl (fun b21 => ?_)
    refine r_sb (vs := [.string x14.Site, .int .i64 x14.No]) (j := 0) ty100 rfl rfl rfl rfl rfl rfl rfl ?_
    refine lj_seq ?_
    refine cj_seq ?_
    refine cj_seq ?_
    refine cj_reg ?_
    refine lp rfl (p_mv rfl) ?_
    refine lp rfl (p_lbw ty100 rfl (j := 0) rfl rfl) ?_
    refine lp rfl (p_lkm (vv := vv4) (k := (Tclub_own.mk x14.Site x14.No)) (z := false) Tryz.underlying95 (keyF100) (fun _ => by kernel_rfl) (.map 2 rfl) rfl rfl) ?_
    refine lj_seq ?_
    refine cj_if (b := ((lkM u16 (Tclub_own.mk x14.Site x14.No)).getD false)) rfl (fun hb => ?_) (fun hb => ?_)
    ·have hm := ifB_t hb hm
     refine cj_seq ?_
     refine cj_reg ?_
     refine lp rfl (p_as rfl) ?_
     refine lj_seq ?_
     have hm := hRk18 _ (Option.some.inj hm).symm
     obtain rfl := Option.some.inj hm
     exact cj_rt () [] Tryz.results43 (.tmp rfl .nil) rfl rfl
    ·have hm := ifB_f hb hm
     refine cj_skip ?_
     refine nj_seq ?_
     refine cj_reg ?_
     refine lp rfl (p_mv rfl) ?_
     refine lp rfl (p_lbw ty100 rfl (j := 0) rfl rfl) ?_
     refine r_mpu (j := 2) (vv := vv4) (k := (Tclub_own.mk x14.Site x14.No)) (v := true) Tryz.underlying95 keyF100 rfl rfl rfl rfl (fun es22 cl23 => ?_)
     refine lj_nil ?_
     refine nj_blk ?_
     exact cnk18 _ _ (putM u16 (Tclub_own.mk x14.Site x14.No) true) (es22, cl23) (hJk18 _ (Option.some.inj hm).symm) ⟨rfl, rfl, rfl, rfl, rfl, trivial⟩ (fun _ h => h.picks [2, 2] rfl)
  ·have hRk6 : ∀ t, k6 = .ret t → some t = some r := fun t e => by rw [hX t e] at hm; exact hm
   have hm := hs
   refine cj_seq ?_
   refine cj_reg ?_
   refine lp rfl (p_mv rfl) ?_
   refine lp rfl (p_idx Tryz.underlying26 ty33 rfl rfl (.ro 0 rfl) (getI_nat.trans hx3)) ?_
   refine lp rfl (p_lea ty33 rfl (.ro 0 rfl) hx3) ?_
   refine r_al ty33 rfl (fun b8 => ?_)
   refine lp rfl (p_as rfl) ?_
   refine r_sb (vs := [.string x2.Site, .int .i64 x2.No, .int .i64 x2.At, .int .i64 x2.Kind, .string x2.Who, .string x2.Motion, .int .i64 x2.Cents, .bool x2.Yes, .string x2.Of, .int .i64 x2.Other]) (j := 0) ty33 rfl rfl rfl rfl rfl rfl rfl ?_
   refine lj_seq ?_
   refine cj_seq ?_
   refine cj_seq ?_
   refine cj_reg ?_
   refine lp rfl (p_lbw ty33 rfl (j := 0) rfl rfl) ?_
   obtain ⟨y9, hy9, hm⟩ := bindS hm
   refine r_call [] cf74 rfl rfl (ok_club_formed x2 hy9) rfl rfl .nil (fun _ => rfl) rfl (fun _ => ?_)
   refine lp rfl (p_as rfl) ?_
   refine lj_seq ?_
   refine cj_seq ?_
   refine cj_reg ?_
   refine lp rfl (p_mv rfl) ?_
   refine lp rfl (p_neq rfl rfl) ?_
   refine lj_seq ?_
   refine cj_if (b := y9 != 0) rfl (fun hb => ?_) (fun hb => ?_)
   ·have hm := ifB_t hb hm
    refine cj_seq ?_
    refine cj_reg ?_
    refine lp rfl (p_mv rfl) ?_
    refine lp rfl (p_as rfl) ?_
    refine lj_seq ?_
    have hm := hRk6 _ (Option.some.inj hm).symm
    obtain rfl := Option.some.inj hm
    exact cj_rt () [] Tryz.results43 (.tmp rfl .nil) rfl rfl
   ·have hm := ifB_f hb hm
    refine cj_skip ?_
    refine nj_seq ?_
    refine cj_seq ?_
    refine cj_quiet (by kernel_rfl) (by kernel_rfl) ?_
    refine q_p rfl (p_mv rfl) ?_
    refine q_p rfl (p_gtr rfl rfl) ?_
    refine q_p rfl (p_mv rfl) ?_
    refine q_case (i := 27) (decide ((i1 : Int) > 0)) rfl (fun hb => ?_) (fun hb => ?_)
    ·have hm := ifB_t hb hm
     refine q_g true rfl rfl rfl ?_
     refine q_p rfl (p_mv rfl) ?_
     refine q_g true rfl rfl rfl ?_
     refine q_p rfl (p_mv rfl) ?_
     refine q_g true rfl rfl rfl ?_
     refine q_p rfl (p_sub rfl rfl) ?_
     refine q_g true rfl rfl rfl ?_
     obtain ⟨e10, he10, hm⟩ := bindS hm
     refine q_p rfl (p_idx Tryz.underlying26 ty33 rfl rfl (.ro 1 rfl) he10) ?_
     refine q_g true rfl rfl rfl ?_
     refine q_p rfl (p_lea ty33 rfl (.ro 1 rfl) (getI_spec he10).2) ?_
     refine q_g true rfl rfl rfl ?_
     refine q_p rfl (p_lbw ty33 rfl (j := 0) rfl rfl) ?_
     refine q_g true rfl rfl rfl ?_
     obtain ⟨y11, hy11, hm⟩ := bindS hm
     refine q_call (.int .i64 y11) cf75 rfl rfl (ok_club_compare e10 x2 hy11) .nil (fun _ => rfl) (fun _ => rfl) rfl ?_
     refine q_g true rfl rfl rfl ?_
     refine q_p rfl (p_geq rfl rfl) ?_
     refine q_p rfl (p_pkt rfl rfl) ?_
     refine q_nil ?_
     refine nj_seq ?_
     refine cj_if (b := decide (y11 ≥ 0)) rfl (fun hb => ?_) (fun hb => ?_)
     ·have hm := ifB_t hb hm
      refine cj_seq ?_
      refine cj_reg ?_
      refine lp rfl (p_as rfl) ?_
      refine lj_seq ?_
      have hm := hRk6 _ (Option.some.inj hm).symm
      obtain rfl := Option.some.inj hm
      exact cj_rt () [] Tryz.results43 (.tmp rfl .nil) rfl rfl
     ·have hm := ifB_f hb hm
      refine cj_skip ?_
      refine nj_blk ?_
      exact cnk6 _ _ () () (hJk6 _ (Option.some.inj hm).symm) ⟨rfl, rfl, rfl, rfl, rfl, trivial⟩ (fun _ h => h.picks [1] rfl)
    ·have hm := ifB_f hb hm
     refine q_s true rfl rfl rfl rfl ?_
     refine q_s true rfl rfl rfl rfl ?_
     refine q_s true rfl rfl rfl rfl ?_
     refine q_s true rfl rfl rfl rfl ?_
     refine q_s true rfl rfl rfl rfl ?_
     refine q_s true rfl rfl rfl rfl ?_
     refine q_s true rfl rfl rfl rfl ?_
     refine q_s true rfl rfl rfl rfl ?_
     refine q_p rfl (p_pkf rfl rfl) ?_
     refine q_nil ?_
     refine nj_seq ?_
     refine cj_if_f rfl ?_
     refine cj_skip ?_
     refine nj_blk ?_
     exact cnk6 _ _ () () (hJk6 _ (Option.some.inj hm).symm) ⟨rfl, rfl, rfl, rfl, rfl, trivial⟩ (fun _ h => h.picks [1] rfl)
theorem ok_club_askedFault (s0_ : SV) (a0 : (List TAct)) (a1 : Int) {r : Int} (hm : m_club_askedFault a0 a1 = some r) :
  Ctr Tryz.prog 21 [s0_.v, .int .i64 a1].toArray ([] : List Ent) [RdS R33 (SV.v s0_) a0] (X := Unit) (fun _ => .int .i64 r) (fun _ => []) := by
 unfold m_club_askedFault at hm
 refine ctr_mk (vs := [(0, s0_.v), (1, .int .i64 a1)]) Tryz.func21 rfl Tryz.ntmps21 rfl ⟨rfl, rfl, trivial⟩ (fun w0 A => ?_)
 refine cj_seq ?_
 refine cj_reg ?_
 refine lp rfl (p_as rfl) ?_
 refine lj_seq ?_
 refine cj_seq ?_
 refine cj_seq ?_
 refine cj_reg ?_
 refine lp rfl (p_mv rfl) ?_
 obtain ⟨y1, hy1, hm⟩ := bindS hm
 refine r_call [] cf43 rfl rfl (ok_club_CheckActs s0_ a0 hy1) rfl rfl (.cons (.ro 0 rfl) .nil) (fun _ => rfl) rfl (fun _ => ?_)
 refine lp rfl (p_as rfl) ?_
 refine lj_seq ?_
 refine cj_seq ?_
 refine cj_reg ?_
 refine lp rfl (p_mv rfl) ?_
 refine lp rfl (p_neq rfl rfl) ?_
 refine lj_seq ?_
 refine cj_if (b := y1 != 0) rfl (fun hb => ?_) (fun hb => ?_)
 ·have hm := ifB_t hb hm
  refine cj_seq ?_
  refine cj_reg ?_
  refine lp rfl (p_mv rfl) ?_
  refine lp rfl (p_as rfl) ?_
  refine lj_seq ?_
  obtain rfl := Option.some.inj hm
  exact cj_rt () [] Tryz.results21 (.tmp rfl .nil) rfl rfl
 ·have hm := ifB_f hb hm
  refine cj_skip ?_
  refine nj_seq ?_
  refine cj_seq ?_
  refine cj_seq ?_
  refine cj_reg ?_
  refine lp rfl (p_mv rfl) ?_
  obtain ⟨y2, hy2, hm⟩ := bindS hm
  refine r_call [] cf44 rfl rfl (ok_kit_IsMoment a1 hy2) rfl rfl .nil (fun _ => rfl) rfl (fun _ => ?_)
  refine lp rfl (p_not rfl) ?_
  refine lj_seq ?_
  refine cj_if (b := !y2) rfl (fun hb => ?_) (fun hb => ?_)
  ·have hm := ifB_t hb hm
   refine cj_seq ?_
   refine cj_reg ?_
   refine lp rfl (p_as rfl) ?_
   refine lj_seq ?_
   obtain rfl := Option.some.inj hm
   exact cj_rt () [] Tryz.results21 (.tmp rfl .nil) rfl rfl
  ·have hm := ifB_f hb hm
   refine cj_skip ?_
   refine nj_seq ?_
   refine cj_seq ?_
   refine cj_reg ?_
   refine lp rfl (p_as rfl) ?_
   refine lj_seq ?_
   obtain rfl := Option.some.inj hm
   exact cj_rt () [] Tryz.results21 (.tmp rfl .nil) rfl rfl
theorem ok_slices_Backward_api_Act_api_Act (s : SV) : Ctr Tryz.prog 45 [s.v].toArray ([] : List Ent) [] (X := Nat) (fun b => .func (.func 77) #[] [.pointer (some ⟨b, 0, none⟩)].toArray) (fun b => [.box b 26 [s.v]]) := by
 refine ctr_mk (vs := [(0, s.v)]) Tryz.func45 rfl Tryz.ntmps45 rfl ⟨rfl, trivial⟩ (fun w0 A => ?_)
 refine cj_seq ?_
 refine cj_reg ?_
 refine r_bx (cs := [s.v]) rfl rfl rfl (fun b => ?_)
 refine lp rfl (p_as rfl) ?_
 refine lj_seq ?_
 refine cj_seq ?_
 refine cj_reg ?_
 refine lp rfl (p_fn (cv := [.pointer (some ⟨b, 0, none⟩)]) rfl) ?_
 refine lp rfl (p_as rfl) ?_
 refine lj_seq ?_
 exact cj_rt b [0] Tryz.results45 (.tmp rfl .nil) rfl rfl
theorem ok_slices_Reverse_int_int (s0_ : SV) (a0 : (List Int)) {r : (List Int)} (hm : m_slices_Reverse_int_int a0 = some r) :
  Ctr Tryz.prog 46 [s0_.v].toArray [.row R3 (SV.v s0_) a0] [] (X := Unit) (fun _ => .tuple [].toArray) (fun _ => [.row R3 (SV.v s0_) r]) := by
 unfold m_slices_Reverse_int_int at hm
 refine ctr_mk (vs := [(0, s0_.v)]) Tryz.func46 rfl Tryz.ntmps46 rfl ⟨rfl, trivial⟩ (fun w0 A => ?_)
 refine cj_seq ?_
 refine cj_reg ?_
 refine lp rfl (p_mv rfl) ?_
 refine lp rfl (p_len Tryz.underlying22 rfl (.row 0 rfl)) ?_
 refine lp rfl (p_sub rfl rfl) ?_
 refine lp rfl (p_as rfl) ?_
 refine lp rfl (p_as rfl) ?_
 refine lj_seq ?_
 obtain ⟨f4, hf4, hm⟩ := bindS hm
 refine cj_whileA (γ := Unit) hf4 () (fun u1 g2 => [(0, s0_.v), (2, .int .i64 u1.1), (3, .int .i64 u1.2.1)]) (fun u1 g2 => Sat w0 (keys [.row R3 (SV.v s0_) a0]) A [.row R3 (SV.v s0_) u1.2.2]) ⟨rfl, rfl, rfl, trivial⟩ (fun _ h => h.picks [0] rfl) (fun u1 g2 e => ?_) (fun aftk3 u1 g2 k3 hs J hJk3 hBk3 hX I cnk3 => ?_)
 ·have hm := Flow.fin_b e hm
  obtain rfl := Option.some.inj hm
  exact nj_rt () [0] Tryz.results46 .nil rfl rfl
 ·have hRk3 : ∀ t, k3 = .ret t → some t = some r := fun t e => by rw [hX t e] at hm; exact hm
  have hm := hs
  refine cj_seq ?_
  refine cj_seq ?_
  refine cj_reg ?_
  refine lp rfl (p_mv rfl) ?_
  refine lp rfl (p_mv rfl) ?_
  refine lp rfl (p_lss rfl rfl) ?_
  refine lj_seq ?_
  refine cj_if (b := decide (u1.1 < u1.2.1)) rfl (fun hb => ?_) (fun hb => ?_)
  ·have hm := ifB_t hb hm
   refine cj_skip ?_
   refine nj_seq ?_
   refine cj_seq ?_
   refine cj_blk ?_
   refine cj_pure (F := RdS R3 (SV.v s0_) u1.2.2) (.row 0 rfl) (fun _ h => h.pures) (fun hq9 => ?_)
   obtain ⟨e5, he5, hm⟩ := bindS hm
   obtain ⟨e6, he6, hm⟩ := bindS hm
   obtain ⟨e7, he7, hm⟩ := bindS hm
   obtain ⟨e8, he8, hm⟩ := bindS hm
   refine cj_anyT [0, 1, 2, 3, 4, 5, 6, 7, 8, 9, 11, 12] [13, 14, 15] (Sat w0 (keys [.row R3 (SV.v s0_) a0]) A [.row R3 (SV.v s0_) u1.2.2]) (Sat w0 (keys [.row R3 (SV.v s0_) a0]) A []) (by kernel_rfl) ?_
   refine at_take2 0 rfl (by kernel_rfl) (by kernel_rfl) (by kernel_rfl) (fun _ h => h.picks [] rfl) rfl rfl (p_mv rfl) (fun _ h => h.picks [] rfl) ?_
   refine at_take2 1 rfl (by kernel_rfl) (by kernel_rfl) (by kernel_rfl) (fun _ h => h.picks [] rfl) rfl rfl (p_mv rfl) (fun _ h => h.picks [] rfl) ?_
   refine at_take2 2 rfl (by kernel_rfl) (by kernel_rfl) (by kernel_rfl) (fun _ h => h.picks [] rfl) rfl rfl (p_mv rfl) (fun _ h => h.picks [] rfl) ?_
   refine at_take2 3 rfl (by kernel_rfl) (by kernel_rfl) (by kernel_rfl) (fun _ h => h.picks [] rfl) rfl rfl (p_mv rfl) (fun _ h => h.picks [] rfl) ?_
   refine at_take2 4 rfl (by kernel_rfl) (by kernel_rfl) (by kernel_rfl) (fun _ h => h.picks [] rfl) rfl rfl (p_mv rfl) (fun _ h => h.picks [] rfl) ?_
   refine at_take2 5 rfl (by kernel_rfl) (by kernel_rfl) (by kernel_rfl) (fun _ h => h.picks [] rfl) rfl rfl (p_mv rfl) (fun _ h => h.picks [] rfl) ?_
   refine at_take1 6 rfl (by kernel_rfl) (by kernel_rfl) (by kernel_rfl) (by kernel_rfl) rfl rfl (p_idxP (R := R3) Tryz.underlying22 ty3 rfl rfl hq9 he5) (fun _ h => h.picks [0] rfl) ?_
   refine at_take1 7 rfl (by kernel_rfl) (by kernel_rfl) (by kernel_rfl) (by kernel_rfl) rfl rfl (p_lde (o := 0) ty3 rfl rfl (.row 0 rfl) (getI_spec he5).2 rfl) (fun _ h => h.picks [0] rfl) ?_
   refine at_take2 8 rfl (by kernel_rfl) (by kernel_rfl) (by kernel_rfl) (fun _ h => h.picks [] rfl) rfl rfl (p_mv rfl) (fun _ h => h.picks [] rfl) ?_
   refine at_take2 9 rfl (by kernel_rfl) (by kernel_rfl) (by kernel_rfl) (fun _ h => h.picks [] rfl) rfl rfl (p_mv rfl) (fun _ h => h.picks [] rfl) ?_
   refine at_each (rs := [10]) (by kernel_rfl) (by decide) ?_
   refine (.cons rfl (fun I cnI => ?_) .nil)
   ·refine lp rfl (p_idxP (R := R3) Tryz.underlying22 ty3 rfl rfl hq9 he6) ?_
    refine lj_nil ?_
    refine cnI _ _ (sof1 rfl rfl (fun _ h => h.picks [0] rfl)) ?_
    refine at_take1 11 rfl (by kernel_rfl) (by kernel_rfl) (by kernel_rfl) (by kernel_rfl) rfl rfl (p_lde (o := 0) ty3 rfl rfl (.row 0 rfl) (getI_spec he6).2 rfl) (fun _ h => h.picks [0] rfl) ?_
    refine at_take1 12 rfl (by kernel_rfl) (by kernel_rfl) (by kernel_rfl) (by kernel_rfl) rfl rfl (p_idxP (R := R3) Tryz.underlying22 ty3 rfl rfl hq9 he7) (fun _ h => h.picks [0] rfl) ?_
    refine at_each (rs := [13]) (by kernel_rfl) (by decide) ?_
    refine (.cons rfl (fun I cnI => ?_) .nil)
    ·refine r_ste (k := 0) (o := 0) (vs := [.int .i64 e5]) ty3 rfl rfl rfl rfl rfl rfl rfl (getI_spec he7).2 e5 rfl rfl ?_
     refine lj_nil ?_
     refine cnI _ _ (sof2 rfl rfl (fun _ h => h.picks [] rfl)) ?_
     refine at_each (rs := [14]) (by kernel_rfl) (by decide) ?_
     refine (.cons rfl (fun I cnI => ?_) .nil)
     ·refine lp rfl (p_idx Tryz.underlying22 ty3 rfl rfl (.row 0 rfl) he8) ?_
      refine lj_nil ?_
      refine cnI _ _ (sof2 rfl rfl (fun _ h => h.picks [] rfl)) ?_
      refine at_each (rs := [15]) (by kernel_rfl) (by decide) ?_
      refine (.cons rfl (fun I cnI => ?_) .nil)
      ·refine r_ste (k := 0) (o := 0) (vs := [.int .i64 e6]) ty3 rfl rfl rfl rfl rfl rfl rfl (getI_spec he8).2 e6 rfl rfl ?_
       refine lj_nil ?_
       refine cnI _ _ (sof2 rfl rfl (fun _ h => h.picks [] rfl)) ?_
       refine at_done (by kernel_rfl) ?_
       refine nj_blk ?_
       refine nj_seq ?_
       refine cj_reg ?_
       refine lp rfl (p_mv rfl) ?_
       refine lp rfl (p_add rfl rfl) ?_
       refine lp rfl (p_mv rfl) ?_
       refine lp rfl (p_sub rfl rfl) ?_
       refine lp rfl (p_as rfl) ?_
       refine lp rfl (p_as rfl) ?_
       refine lj_nil ?_
       exact cnk3 _ _ (w64 (u1.1 + 1), w64 (u1.2.1 - 1), ((u1.2.2.set u1.1.toNat e5).set u1.2.1.toNat e6)) () (hJk3 _ (Option.some.inj hm).symm) ⟨rfl, rfl, rfl, trivial⟩ (fun _ h => h.picks [0] rfl)
  ·have hm := ifB_f hb hm
   refine cj_exit rfl ?_
   exact (aftk3 (u1.1, u1.2.1, u1.2.2) () (hBk3 _ (Option.some.inj hm).symm)).sub ⟨rfl, rfl, rfl, trivial⟩ (fun _ h => h.picks [0] rfl)
theorem ok_club_counting (s0_ : SV) (a0 : (List TAct)) (a1 : Int) {r : (List Int)} (hm : m_club_counting a0 a1 = some r) :
  Ctr Tryz.prog 22 [s0_.v, .int .i64 a1].toArray ([] : List Ent) [RdS R33 (SV.v s0_) a0] (X := SV) (fun s => s.v) (fun s => [.row R3 (SV.v s) r]) := by
 unfold m_club_counting at hm
 refine ctr_mkM (vs := [(0, s0_.v), (1, .int .i64 a1)]) Tryz.func22 rfl Tryz.ntmps22 rfl ⟨rfl, rfl, trivial⟩ (fun w0 A => ?_)
 refine cj_seq ?_
 refine cj_reg ?_
 refine r_bx (cs := [.int .i64 a1]) rfl rfl rfl (fun b1 => ?_)
 refine lp rfl (p_as rfl) ?_
 refine lj_seq ?_
 refine cj_seq ?_
 refine cj_reg ?_
 refine r_mkmap kv100 vv4 rfl (fun b2 => ?_)
 refine r_al ty95 rfl (fun b3 => ?_)
 refine r_sb (vs := [.map (some b2)]) (j := 0) ty95 rfl rfl rfl rfl rfl rfl rfl ?_
 refine lj_seq ?_
 refine cj_seq ?_
 refine cj_reg ?_
 refine r_al ty22 rfl (fun b4 => ?_)
 refine lj_seq ?_
 refine cj_seq ?_
 refine cj_seq ?_
 refine cj_reg ?_
 refine lp rfl (p_mv rfl) ?_
 refine r_call [] cf45 rfl rfl (ok_slices_Backward_api_Act_api_Act s0_) rfl rfl .nil (fun _ => rfl) rfl (fun b5 => ?_)
 refine r_fzb 0 rfl ?_
 refine lj_seq ?_
 refine cj_nil R3 ?_
 obtain ⟨f16, hf16, hm⟩ := bindS hm
 refine cj_backward (γ := (Array MapEntry × Nat × SV)) (fn := Tryz.f77) Tryz.func77 rfl rfl rfl Tryz.underlying26 ty33 ty26 cf77 rfl rfl rfl (by kernel_rfl) (by kernel_rfl) hf16 (fun u13 g14 => [.ro (BoxS b5 26 [s0_.v]), .box b4 22 [g14.2.2.v], .box b3 95 [.map (some b2)], .obj (mapO kv100 b2 (mpV vv4 u13.1) g14.1 g14.2.1), .box b1 3 [.int .i64 a1], .ro (RdS R33 (SV.v s0_) a0), .row R3 (SV.v g14.2.2) u13.2]) (#[], 0, nilS) (fun _ h => h.picks [1, 1, 1, 1, 1, 1, 0] rfl) (fun _ _ => (.ro 0 rfl)) (fun _ _ => (.ro 5 rfl)) (fun u13 g14 D28 aftk15 => ?_) (fun i6 x7 u13 g14 k15 hx8 hs o9 o10 o11 I I0 hendk15 hmidk15 => ?_)
 ·have hm := Flow.fin_b aftk15 hm
  refine nj_seq ?_
  refine cj_seq ?_
  refine cj_reg ?_
  refine lp rfl (p_lbs ty22 rfl (j := 2) rfl rfl) ?_
  obtain ⟨y29, hy29, hm⟩ := bindS hm
  refine r_call [7] cf46 rfl rfl (ok_slices_Reverse_int_int g14.2.2 u13.2 hy29) rfl rfl .nil (fun _ => rfl) rfl (fun _ => ?_)
  refine lj_seq ?_
  refine cj_seq ?_
  refine cj_reg ?_
  refine lp rfl (p_lbs ty22 rfl (j := 3) rfl rfl) ?_
  refine lp rfl (p_as rfl) ?_
  refine lj_seq ?_
  obtain rfl := Option.some.inj hm
  exact cj_rtM 1 g14.2.2 [0] Tryz.results22 rfl (.tmp rfl .nil) rfl rfl
 ·have hm := hs
  refine cj_seq ?_
  refine cj_reg ?_
  refine lp rfl (p_as rfl) ?_
  refine lj_seq ?_
  refine cj_reg ?_
  refine r_al ty33 rfl (fun b18 => ?_)
  refine r_sb (vs := [.string x7.Site, .int .i64 x7.No, .int .i64 x7.At, .int .i64 x7.Kind, .string x7.Who, .string x7.Motion, .int .i64 x7.Cents, .bool x7.Yes, .string x7.Of, .int .i64 x7.Other]) (j := 0) ty33 rfl rfl rfl rfl rfl rfl rfl ?_
  refine lj_nil ?_
  refine hmidk15 _ _ [.box b18 33 [.string x7.Site, .int .i64 x7.No, .int .i64 x7.At, .int .i64 x7.Kind, .string x7.Who, .string x7.Motion, .int .i64 x7.Cents, .bool x7.Yes, .string x7.Of, .int .i64 x7.Other], .ro (BoxS b5 26 [s0_.v]), .box b4 22 [g14.2.2.v], .box b3 95 [.map (some b2)], .obj (mapO kv100 b2 (mpV vv4 u13.1) g14.1 g14.2.1), .box b1 3 [.int .i64 a1], .ro (RdS R33 (SV.v s0_) a0), .row R3 (SV.v g14.2.2) u13.2] (fun _ h => h.picks [1, 1, 0, 0, 0, 0, 0, 0, 0, 0] rfl) ?_
  refine cj_blk ?_
  refine cj_seq ?_
  refine cj_seq ?_
  refine cj_reg ?_
  obtain ⟨k21, hk21, hm⟩ := bindS hm
  have hRk21 : ∀ t, k21 = .inr t → some t = some k15 := fun t e => by rw [e] at hm; exact hm
  refine lj_join (σ := Bool) (γ := Unit) (fun u19 => k21 = .inl u19) (fun u19 g20 => [(3, .pointer (some ⟨b1, 0, none⟩)), (4, .slice none 0 0), (5, .pointer (some ⟨b3, 0, none⟩)), (6, .pointer (some ⟨b4, 0, none⟩)), (7, .int .i64 (i6 : Int)), (8, .pointer (some ⟨b18, 0, none⟩)), (11, .func (.func 77) #[] [.pointer (some ⟨b5, 0, none⟩)].toArray), (26, .bool u19)]) (fun u19 g20 => Sat w0 (keys ([] : List Ent)) A [.obj o9, .obj o11, .box b18 33 [.string x7.Site, .int .i64 x7.No, .int .i64 x7.At, .int .i64 x7.Kind, .string x7.Who, .string x7.Motion, .int .i64 x7.Cents, .bool x7.Yes, .string x7.Of, .int .i64 x7.Other], .ro (BoxS b5 26 [s0_.v]), .box b4 22 [g14.2.2.v], .box b3 95 [.map (some b2)], .obj (mapO kv100 b2 (mpV vv4 u13.1) g14.1 g14.2.1), .box b1 3 [.int .i64 a1], .ro (RdS R33 (SV.v s0_) a0), .row R3 (SV.v g14.2.2) u13.2]) (fun u19 g20 hq => ?_) (fun J cnk21 => ?_)
  ·have hm := Sum.fin_l hq hm
   refine cj_if (b := u19) rfl (fun hb => ?_) (fun hb => ?_)
   ·have hm := ifB_t hb hm
    refine cj_exit rfl ?_
    exact hendk15 _ _ (u13.1, u13.2) (g14.1, g14.2.1, g14.2.2) (Option.some.inj hm).symm (fun _ h => h.picks [0, 0, 1, 1, 1, 1, 1, 1, 1] rfl)
   ·have hm := ifB_f hb hm
    refine cj_skip ?_
    refine nj_seq ?_
    refine cj_seq ?_
    refine cj_reg ?_
    refine lp rfl (p_lbs ty22 rfl (j := 4) rfl rfl) ?_
    refine lp rfl (p_mv rfl) ?_
    refine r_bs R3 [(i6 : Int)] rfl rfl rfl (fun _ => by kernel_rfl) rfl (fun s22 => ?_)
    obtain ⟨q23, hq23, hm⟩ := bindS hm
    refine r_app (k := 10) Tryz.underlying22 ty3 rfl rfl rfl rfl (.row 0 rfl) hq23 rfl (fun s24 => ?_)
    refine r_sb (vs := [s24.v]) (j := 5) ty22 rfl rfl rfl rfl rfl rfl rfl ?_
    refine lj_seq ?_
    refine cj_seq ?_
    refine cj_reg ?_
    refine lp rfl (p_fab fl33_3 rfl) ?_
    refine lp rfl (p_lbs ty3 rfl (j := 3) rfl rfl) ?_
    refine lp rfl (p_eql rfl rfl) ?_
    refine lj_seq ?_
    refine cj_if (b := x7.Kind == 7) rfl (fun hb => ?_) (fun hb => ?_)
    ·have hm := ifB_t hb hm
     refine cj_reg ?_
     refine lp rfl (p_lbs ty95 rfl (j := 6) rfl rfl) ?_
     refine lp rfl (p_fab fl33_8 rfl) ?_
     refine lp rfl (p_lbs ty9 rfl (j := 3) rfl rfl) ?_
     refine lp rfl (p_fab fl33_9 rfl) ?_
     refine lp rfl (p_lbs ty3 rfl (j := 3) rfl rfl) ?_
     refine lp rfl (p_bld [.string x7.Of, .int .i64 x7.Other] rfl (fun _ => by kernel_rfl)) ?_
     refine r_mpu (j := 7) (vv := vv4) (k := (Tclub_own.mk x7.Of x7.Other)) (v := true) Tryz.underlying95 keyF100 rfl rfl rfl rfl (fun es25 cl26 => ?_)
     refine lj_nil ?_
     refine nj_blk ?_
     exact hendk15 _ _ (putM u13.1 (Tclub_own.mk x7.Of x7.Other) true, q23) (es25, cl26, s24) (Option.some.inj hm).symm (fun _ h => h.picks [1, 1, 2, 2, 2, 2, 2, 2, 2] rfl)
    ·have hm := ifB_f hb hm
     refine cj_skip ?_
     refine nj_blk ?_
     exact hendk15 _ _ (u13.1, q23) (g14.1, g14.2.1, s24) (Option.some.inj hm).symm (fun _ h => h.picks [1, 1, 2, 2, 2, 2, 2, 2, 2] rfl)
  ·have hm := hk21
   refine lp rfl (p_fab fl33_2 rfl) ?_
   refine lp rfl (p_lbs ty3 rfl (j := 2) rfl rfl) ?_
   refine lp rfl (p_lbs ty3 rfl (j := 7) rfl rfl) ?_
   refine lp rfl (p_gtr rfl rfl) ?_
   refine lp rfl (p_mv rfl) ?_
   refine lcase (i := 18) (decide (x7.At > a1)) rfl (fun hb => ?_) (fun hb => ?_)
   ·have hm := ifB_t hb hm
    refine ls false rfl rfl rfl rfl ?_
    refine ls false rfl rfl rfl rfl ?_
    refine ls false rfl rfl rfl rfl ?_
    refine ls false rfl rfl rfl rfl ?_
    refine ls false rfl rfl rfl rfl ?_
    refine ls false rfl rfl rfl rfl ?_
    refine ls false rfl rfl rfl rfl ?_
    refine lp rfl (p_pkt rfl rfl) ?_
    refine lj_nil ?_
    exact cnk21 _ _ true () (Option.some.inj hm).symm ⟨rfl, rfl, rfl, rfl, rfl, rfl, rfl, rfl, trivial⟩ (fun _ h => h.picks [0, 0, 0, 0, 0, 0, 0, 0, 0, 0] rfl)
   ·have hm := ifB_f hb hm
    refine lg false rfl rfl rfl ?_
    refine lp rfl (p_lbs ty95 rfl (j := 5) rfl rfl) ?_
    refine lg false rfl rfl rfl ?_
    refine lp rfl (p_fab fl33_0 rfl) ?_
    refine lg false rfl rfl rfl ?_
    refine lp rfl (p_lbs ty9 rfl (j := 2) rfl rfl) ?_
    refine lg false rfl rfl rfl ?_
    refine lp rfl (p_fab fl33_1 rfl) ?_
    refine lg false rfl rfl rfl ?_
    refine lp rfl (p_lbs ty3 rfl (j := 2) rfl rfl) ?_
    refine lg false rfl rfl rfl ?_
    refine lp rfl (p_bld [.string x7.Site, .int .i64 x7.No] rfl (fun _ => by kernel_rfl)) ?_
    refine lg false rfl rfl rfl ?_
    refine lp rfl (p_lkm (vv := vv4) (k := (Tclub_own.mk x7.Site x7.No)) (z := false) Tryz.underlying95 (keyF100) (fun _ => by kernel_rfl) (.map 6 rfl) rfl rfl) ?_
    refine lp rfl (p_pkf rfl rfl) ?_
    refine lj_nil ?_
    exact cnk21 _ _ ((lkM u13.1 (Tclub_own.mk x7.Site x7.No)).getD false) () (Option.some.inj hm).symm ⟨rfl, rfl, rfl, rfl, rfl, rfl, rfl, rfl, trivial⟩ (fun _ h => h.picks [0, 0, 0, 0, 0, 0, 0, 0, 0, 0] rfl)
theorem ok_club_books_isMember (b0_ : Nat) (a0_0 : Int) (b0_1_ : Nat) (Z0_1_ : List (ByteArray × SV)) (es0_1_ : Array MapEntry) (cl0_1_ : Nat) (a0_1 : (List (ByteArray × (List Tclub_stay)))) (b0_2_ : Nat) (es0_2_ : Array MapEntry) (cl0_2_ : Nat) (a0_2 : (List (ByteArray × Int))) (b0_3_ : Nat) (Z0_3_ : List (ByteArray × Option (Nat × Nat × Array MapEntry × Nat × SV))) (es0_3_ : Array MapEntry) (cl0_3_ : Nat) (a0_3 : (List (ByteArray × (Bool × (List (ByteArray × Bool)) × (List ByteArray))))) (s0_4_ : SV) (a0_4 : (List Int)) (a1 : ByteArray) {r : Bool} (hm : m_club_books_isMember a0_0 a0_1 a0_2 a0_3 a0_4 a1 = some r) :
  Ctr Tryz.prog 42 [.pointer (some ⟨b0_, 0, none⟩), .string a1].toArray [.box b0_ 54 [.int .i64 a0_0, .map (some b0_1_), .map (some b0_2_), .map (some b0_3_), s0_4_.v]] [FamAt kv9 SV.v (rowE R128) b0_1_ a0_1 Z0_1_ none es0_1_ cl0_1_, MapAt kv9 b0_2_ (mpV vv3 a0_2) es0_2_ cl0_2_, FamAt kv9 (vvP Fh144) (entsP Fe144) b0_3_ a0_3 Z0_3_ none es0_3_ cl0_3_, RdS R3 (SV.v s0_4_) a0_4] (X := Unit) (fun _ => .bool r) (fun _ => [.box b0_ 54 [.int .i64 a0_0, .map (some b0_1_), .map (some b0_2_), .map (some b0_3_), s0_4_.v]]) := by
 unfold m_club_books_isMember at hm
 refine ctr_mk (vs := [(0, .pointer (some ⟨b0_, 0, none⟩)), (1, .string a1)]) Tryz.func42 rfl Tryz.ntmps42 rfl ⟨rfl, rfl, trivial⟩ (fun w0 A => ?_)
 refine cj_seq ?_
 refine cj_reg ?_
 refine lp rfl (p_as rfl) ?_
 refine lj_seq ?_
 refine cj_seq ?_
 refine cj_reg ?_
 refine lp rfl (p_mv rfl) ?_
 refine lp rfl (p_nc rfl) ?_
 refine lp rfl (p_fab fl54_1 rfl) ?_
 refine lp rfl (p_lbs ty50 rfl (j := 0) rfl rfl) ?_
 refine lp rfl (p_mv rfl) ?_
 refine lp rfl (p_lkm (vv := SV.v) (k := a1) (z := nilS) Tryz.underlying50 (keyF9) (fun _ => by kernel_rfl) (.imp (.ro 1 rfl) (fun _ h => h.map)) rfl rfl) ?_
 refine lp rfl (p_as rfl) ?_
 refine lj_seq ?_
 refine cj_seq ?_
 refine cj_reg ?_
 refine lp rfl (p_mv rfl) ?_
 refine lp rfl (p_len Tryz.underlying93 rfl (.imp (.ro 1 rfl) (fun _ h => h.look a1))) ?_
 refine lp rfl (p_gtr rfl rfl) ?_
 refine lp rfl (p_mv rfl) ?_
 refine lcase (i := 15) (decide ((((lkM a0_1 a1).getD []).length : Int) > 0)) rfl (fun hb => ?_) (fun hb => ?_)
 ·have hm := ifB_t hb hm
  refine lg true rfl rfl rfl ?_
  refine lp rfl (p_mv rfl) ?_
  refine lg true rfl rfl rfl ?_
  refine lp rfl (p_mv rfl) ?_
  refine lg true rfl rfl rfl ?_
  refine lp rfl (p_len Tryz.underlying93 rfl (.imp (.ro 1 rfl) (fun _ h => h.look a1))) ?_
  refine lg true rfl rfl rfl ?_
  refine lp rfl (p_sub rfl rfl) ?_
  refine lg true rfl rfl rfl ?_
  obtain ⟨e1, he1, hm⟩ := bindS hm
  refine lp rfl (p_idx Tryz.underlying93 ty128 rfl rfl (.imp (.ro 1 rfl) (fun _ h => h.look a1)) he1) ?_
  refine lg true rfl rfl rfl ?_
  refine lp rfl (p_fae fl128_1 rfl (.imp (.ro 1 rfl) (fun _ h => h.look a1)) (getI_spec he1).2) ?_
  refine lg true rfl rfl rfl ?_
  refine lp rfl (p_lde (o := 1) ty3 rfl rfl (.imp (.ro 1 rfl) (fun _ h => h.look a1)) (getI_spec he1).2 rfl) ?_
  refine lg true rfl rfl rfl ?_
  refine lp rfl (p_lss rfl rfl) ?_
  refine lp rfl (p_pkt rfl rfl) ?_
  refine lp rfl (p_as rfl) ?_
  refine lj_seq ?_
  obtain rfl := Option.some.inj hm
  exact cj_rt () [0] Tryz.results42 (.tmp rfl .nil) rfl rfl
 ·have hm := ifB_f hb hm
  refine ls true rfl rfl rfl rfl ?_
  refine ls true rfl rfl rfl rfl ?_
  refine ls true rfl rfl rfl rfl ?_
  refine ls true rfl rfl rfl rfl ?_
  refine ls true rfl rfl rfl rfl ?_
  refine ls true rfl rfl rfl rfl ?_
  refine ls true rfl rfl rfl rfl ?_
  refine ls true rfl rfl rfl rfl ?_
  refine lp rfl (p_pkf rfl rfl) ?_
  refine lp rfl (p_as rfl) ?_
  refine lj_seq ?_
  obtain rfl := Option.some.inj hm
  exact cj_rt () [0] Tryz.results42 (.tmp rfl .nil) rfl rfl
theorem ok_club_books_isOpen (b0_ : Nat) (a0_0 : Int) (b0_1_ : Nat) (Z0_1_ : List (ByteArray × SV)) (es0_1_ : Array MapEntry) (cl0_1_ : Nat) (a0_1 : (List (ByteArray × (List Tclub_stay)))) (b0_2_ : Nat) (es0_2_ : Array MapEntry) (cl0_2_ : Nat) (a0_2 : (List (ByteArray × Int))) (b0_3_ : Nat) (Z0_3_ : List (ByteArray × Option (Nat × Nat × Array MapEntry × Nat × SV))) (es0_3_ : Array MapEntry) (cl0_3_ : Nat) (a0_3 : (List (ByteArray × (Bool × (List (ByteArray × Bool)) × (List ByteArray))))) (s0_4_ : SV) (a0_4 : (List Int)) (a1 : ByteArray) {r : Bool} (hm : m_club_books_isOpen a0_0 a0_1 a0_2 a0_3 a0_4 a1 = some r) :
  Ctr Tryz.prog 95 [.pointer (some ⟨b0_, 0, none⟩), .string a1].toArray [.box b0_ 54 [.int .i64 a0_0, .map (some b0_1_), .map (some b0_2_), .map (some b0_3_), s0_4_.v], .obj (famO kv9 (vvP Fh144) (entsP Fe144) b0_3_ a0_3 Z0_3_ none es0_3_ cl0_3_)] [FamAt kv9 SV.v (rowE R128) b0_1_ a0_1 Z0_1_ none es0_1_ cl0_1_, MapAt kv9 b0_2_ (mpV vv3 a0_2) es0_2_ cl0_2_, RdS R3 (SV.v s0_4_) a0_4] (X := Unit) (fun _ => .bool r) (fun _ => [.box b0_ 54 [.int .i64 a0_0, .map (some b0_1_), .map (some b0_2_), .map (some b0_3_), s0_4_.v], .obj (famO kv9 (vvP Fh144) (entsP Fe144) b0_3_ a0_3 Z0_3_ none es0_3_ cl0_3_)]) := by
 unfold m_club_books_isOpen at hm
 refine ctr_mk (vs := [(0, .pointer (some ⟨b0_, 0, none⟩)), (1, .string a1)]) Tryz.func95 rfl Tryz.ntmps95 rfl ⟨rfl, rfl, trivial⟩ (fun w0 A => ?_)
 refine cj_seq ?_
 refine cj_reg ?_
 refine lp rfl (p_as rfl) ?_
 refine lj_seq ?_
 refine cj_seq ?_
 refine cj_reg ?_
 refine lp rfl (p_mv rfl) ?_
 refine lp rfl (p_nc rfl) ?_
 refine lp rfl (p_fab fl54_3 rfl) ?_
 refine lp rfl (p_lbs ty52 rfl (j := 0) rfl rfl) ?_
 refine lp rfl (p_mv rfl) ?_
 refine r_takeP 1 rfl a1 fro144 (fun hx1 hz2 => ?_) (fun t4 q5 hx1 hq3 => ?_)
 ·have hm := optB_n hx1 hm
  refine lp rfl (p_lkPN (k := a1) Tryz.underlying52 (keyF9) (fun _ => by kernel_rfl) (.fam 1 rfl) hz2 rfl rfl) ?_
  refine lp rfl (p_as rfl) ?_
  refine lj_seq ?_
  refine cj_seq ?_
  refine cj_reg ?_
  refine lp rfl (p_mv rfl) ?_
  refine lp rfl (p_nepn Tryz.underlying144 rfl rfl) ?_
  refine lp rfl (p_mv rfl) ?_
  refine ls true rfl rfl rfl rfl ?_
  refine ls true rfl rfl rfl rfl ?_
  refine ls true rfl rfl rfl rfl ?_
  refine ls true rfl rfl rfl rfl ?_
  refine ls true rfl rfl rfl rfl ?_
  refine lp rfl (p_pkf rfl rfl) ?_
  refine lp rfl (p_as rfl) ?_
  refine lj_seq ?_
  obtain rfl := Option.some.inj hm
  exact cj_rt () [0, 0] Tryz.results95 (.tmp rfl .nil) rfl rfl
 ·have hm := optB_s hx1 hm
  refine lp rfl (p_lkP (k := a1) Tryz.underlying52 (keyF9) (fun _ => by kernel_rfl) (.fam 3 rfl) hq3 rfl rfl) ?_
  refine lp rfl (p_as rfl) ?_
  refine LJ.sat (fun _ h => h.giveP0 [3, 0, 0, 0] rfl hx1 hq3) ?_
  refine lj_seq ?_
  refine cj_seq ?_
  refine cj_reg ?_
  refine lp rfl (p_mv rfl) ?_
  refine lp rfl (p_nepn Tryz.underlying144 rfl rfl) ?_
  refine lp rfl (p_mv rfl) ?_
  refine lg true rfl rfl rfl ?_
  refine lp rfl (p_mv rfl) ?_
  refine lg true rfl rfl rfl ?_
  refine LJ.sat (fun _ h => h.takeK 0 rfl fro144 hx1 hq3) ?_
  refine lp rfl (p_nc rfl) ?_
  refine lg true rfl rfl rfl ?_
  refine lp rfl (p_fab fl146_0 rfl) ?_
  refine lg true rfl rfl rfl ?_
  refine lp rfl (p_lbs ty4 rfl (j := 0) rfl rfl) ?_
  refine lg true rfl rfl rfl ?_
  refine lp rfl (p_not rfl) ?_
  refine lp rfl (p_pkt rfl rfl) ?_
  refine lp rfl (p_as rfl) ?_
  refine LJ.sat (fun _ h => h.giveP0 [3, 0, 0, 0] rfl hx1 hq3) ?_
  refine lj_seq ?_
  obtain rfl := Option.some.inj hm
  exact cj_rt () [1, 0] Tryz.results95 (.tmp rfl .nil) rfl rfl
theorem ok_club_books_permits (b0_ : Nat) (a0_0 : Int) (b0_1_ : Nat) (Z0_1_ : List (ByteArray × SV)) (es0_1_ : Array MapEntry) (cl0_1_ : Nat) (a0_1 : (List (ByteArray × (List Tclub_stay)))) (b0_2_ : Nat) (es0_2_ : Array MapEntry) (cl0_2_ : Nat) (a0_2 : (List (ByteArray × Int))) (b0_3_ : Nat) (Z0_3_ : List (ByteArray × Option (Nat × Nat × Array MapEntry × Nat × SV))) (es0_3_ : Array MapEntry) (cl0_3_ : Nat) (a0_3 : (List (ByteArray × (Bool × (List (ByteArray × Bool)) × (List ByteArray))))) (s0_4_ : SV) (a0_4 : (List Int)) (a1 : TAct) {r : Bool} (hm : m_club_books_permits a0_0 a0_1 a0_2 a0_3 a0_4 a1 = some r) :
  Ctr Tryz.prog 69 [.pointer (some ⟨b0_, 0, none⟩), .agg (R33.enc a1).toArray].toArray [.box b0_ 54 [.int .i64 a0_0, .map (some b0_1_), .map (some b0_2_), .map (some b0_3_), s0_4_.v], .obj (famO kv9 (vvP Fh144) (entsP Fe144) b0_3_ a0_3 Z0_3_ none es0_3_ cl0_3_)] [FamAt kv9 SV.v (rowE R128) b0_1_ a0_1 Z0_1_ none es0_1_ cl0_1_, MapAt kv9 b0_2_ (mpV vv3 a0_2) es0_2_ cl0_2_, RdS R3 (SV.v s0_4_) a0_4] (X := Unit) (fun _ => .bool r) (fun _ => [.box b0_ 54 [.int .i64 a0_0, .map (some b0_1_), .map (some b0_2_), .map (some b0_3_), s0_4_.v], .obj (famO kv9 (vvP Fh144) (entsP Fe144) b0_3_ a0_3 Z0_3_ none es0_3_ cl0_3_)]) := by
 unfold m_club_books_permits at hm
 refine ctr_mk (vs := [(0, .pointer (some ⟨b0_, 0, none⟩)), (1, .agg (R33.enc a1).toArray)]) Tryz.func69 rfl Tryz.ntmps69 rfl ⟨rfl, rfl, trivial⟩ (fun w0 A => ?_)
 refine cj_seq ?_
 refine cj_reg ?_
 refine r_bx (cs := [.string a1.Site, .int .i64 a1.No, .int .i64 a1.At, .int .i64 a1.Kind, .string a1.Who, .string a1.Motion, .int .i64 a1.Cents, .bool a1.Yes, .string a1.Of, .int .i64 a1.Other]) rfl rfl rfl (fun b1 => ?_)
 refine lp rfl (p_as rfl) ?_
 refine lj_seq ?_
 refine cj_seq ?_
 refine cj_seq ?_
 refine cj_reg ?_
 refine lp rfl (p_fab fl33_3 rfl) ?_
 refine lp rfl (p_lbs ty3 rfl (j := 0) rfl rfl) ?_
 refine lj_seq ?_
 refine cj_blk ?_
 refine cj_seq ?_
 refine cj_reg ?_
 refine lp rfl (p_eql rfl rfl) ?_
 refine lp rfl (p_as rfl) ?_
 refine lj_seq ?_
 refine cj_if (b := a1.Kind == 1) rfl (fun hb => ?_) (fun hb => ?_)
 ·have hm := ifB_t hb hm
  refine cj_seq ?_
  refine cj_reg ?_
  refine lp rfl (p_mv rfl) ?_
  refine lp rfl (p_fab fl33_4 rfl) ?_
  refine lp rfl (p_lbs ty9 rfl (j := 0) rfl rfl) ?_
  obtain ⟨y2, hy2, hm⟩ := bindS hm
  refine r_call [1] cf42 rfl rfl (ok_club_books_isMember b0_ a0_0 b0_1_ Z0_1_ es0_1_ cl0_1_ a0_1 b0_2_ es0_2_ cl0_2_ a0_2 b0_3_ Z0_3_ es0_3_ cl0_3_ a0_3 s0_4_ a0_4 a1.Who hy2) rfl rfl (.cons (.ro 2 rfl) (.cons (.ro 3 rfl) (.cons (.fam 1 rfl) (.cons (.ro 4 rfl) .nil)))) (fun _ => rfl) rfl (fun _ => ?_)
  refine lp rfl (p_not rfl) ?_
  refine lp rfl (p_as rfl) ?_
  refine lj_seq ?_
  obtain rfl := Option.some.inj hm
  exact cj_rt () [0, 1] Tryz.results69 (.tmp rfl .nil) rfl rfl
 ·have hm := ifB_f hb hm
  refine cj_seq ?_
  refine cj_reg ?_
  refine lp rfl (p_eql rfl rfl) ?_
  refine lp rfl (p_as rfl) ?_
  refine lj_seq ?_
  refine cj_if (b := a1.Kind == 2) rfl (fun hb => ?_) (fun hb => ?_)
  ·have hm := ifB_t hb hm
   refine cj_seq ?_
   refine cj_reg ?_
   refine lp rfl (p_mv rfl) ?_
   refine lp rfl (p_fab fl33_4 rfl) ?_
   refine lp rfl (p_lbs ty9 rfl (j := 0) rfl rfl) ?_
   obtain ⟨y3, hy3, hm⟩ := bindS hm
   refine r_call [1] cf42 rfl rfl (ok_club_books_isMember b0_ a0_0 b0_1_ Z0_1_ es0_1_ cl0_1_ a0_1 b0_2_ es0_2_ cl0_2_ a0_2 b0_3_ Z0_3_ es0_3_ cl0_3_ a0_3 s0_4_ a0_4 a1.Who hy3) rfl rfl (.cons (.ro 2 rfl) (.cons (.ro 3 rfl) (.cons (.fam 1 rfl) (.cons (.ro 4 rfl) .nil)))) (fun _ => rfl) rfl (fun _ => ?_)
   refine lp rfl (p_as rfl) ?_
   refine lj_seq ?_
   obtain rfl := Option.some.inj hm
   exact cj_rt () [0, 1] Tryz.results69 (.tmp rfl .nil) rfl rfl
  ·have hm := ifB_f hb hm
   refine cj_seq ?_
   refine cj_reg ?_
   refine lp rfl (p_eql rfl rfl) ?_
   refine lp rfl (p_as rfl) ?_
   refine lj_seq ?_
   refine cj_if (b := a1.Kind == 4) rfl (fun hb => ?_) (fun hb => ?_)
   ·have hm := ifB_t hb hm
    refine cj_seq ?_
    refine cj_takeP 2 rfl a1.Motion fro144 (fun hx4 hz5 => ?_) (fun t7 q8 hx4 hq6 => ?_)
    ·have hm := optB_n hx4 hm
     refine cj_quiet (by kernel_rfl) (by kernel_rfl) ?_
     refine q_p rfl (p_mv rfl) ?_
     refine q_p rfl (p_nc rfl) ?_
     refine q_p rfl (p_fab fl54_3 rfl) ?_
     refine q_p rfl (p_lbs ty52 rfl (j := 1) rfl rfl) ?_
     refine q_p rfl (p_fab fl33_5 rfl) ?_
     refine q_p rfl (p_lbs ty9 rfl (j := 0) rfl rfl) ?_
     refine q_p rfl (p_lkPN (k := a1.Motion) Tryz.underlying52 (keyF9) (fun _ => by kernel_rfl) (.fam 2 rfl) hz5 rfl rfl) ?_
     refine q_p rfl (p_eqpn Tryz.underlying144 rfl rfl) ?_
     refine q_p rfl (p_as rfl) ?_
     refine q_nil ?_
     refine nj_seq ?_
     obtain rfl := Option.some.inj hm
     exact cj_rt () [1, 1] Tryz.results69 (.tmp rfl .nil) rfl rfl
    ·have hm := optB_s hx4 hm
     refine cj_quiet (by kernel_rfl) (by kernel_rfl) ?_
     refine q_p rfl (p_mv rfl) ?_
     refine q_p rfl (p_nc rfl) ?_
     refine q_p rfl (p_fab fl54_3 rfl) ?_
     refine q_p rfl (p_lbs ty52 rfl (j := 5) rfl rfl) ?_
     refine q_p rfl (p_fab fl33_5 rfl) ?_
     refine q_p rfl (p_lbs ty9 rfl (j := 4) rfl rfl) ?_
     refine q_p rfl (p_lkP (k := a1.Motion) Tryz.underlying52 (keyF9) (fun _ => by kernel_rfl) (.fam 3 rfl) hq6 rfl rfl) ?_
     refine q_p rfl (p_eqpn Tryz.underlying144 rfl rfl) ?_
     refine q_p rfl (p_as rfl) ?_
     refine q_nil ?_
     refine NJ.sat (fun _ h => h.giveP0 [3, 0, 0, 0] rfl hx4 hq6) ?_
     refine nj_seq ?_
     obtain rfl := Option.some.inj hm
     exact cj_rt () [2, 0] Tryz.results69 (.tmp rfl .nil) rfl rfl
   ·have hm := ifB_f hb hm
    refine cj_seq ?_
    refine cj_reg ?_
    refine lp rfl (p_eql rfl rfl) ?_
    refine lp rfl (p_as rfl) ?_
    refine lj_seq ?_
    refine cj_if (b := a1.Kind == 5) rfl (fun hb => ?_) (fun hb => ?_)
    ·have hm := ifB_t hb hm
     refine cj_seq ?_
     refine cj_reg ?_
     refine lp rfl (p_mv rfl) ?_
     refine lp rfl (p_fab fl33_4 rfl) ?_
     refine lp rfl (p_lbs ty9 rfl (j := 0) rfl rfl) ?_
     obtain ⟨y15, hy15, hm⟩ := bindS hm
     refine r_call [1] cf42 rfl rfl (ok_club_books_isMember b0_ a0_0 b0_1_ Z0_1_ es0_1_ cl0_1_ a0_1 b0_2_ es0_2_ cl0_2_ a0_2 b0_3_ Z0_3_ es0_3_ cl0_3_ a0_3 s0_4_ a0_4 a1.Who hy15) rfl rfl (.cons (.ro 2 rfl) (.cons (.ro 3 rfl) (.cons (.fam 1 rfl) (.cons (.ro 4 rfl) .nil)))) (fun _ => rfl) rfl (fun _ => ?_)
     refine lp rfl (p_mv rfl) ?_
     refine lcase (i := 36) y15 rfl (fun hb => ?_) (fun hb => ?_)
     ·have hm := ifB_t hb hm
      refine lg true rfl rfl rfl ?_
      refine lp rfl (p_mv rfl) ?_
      refine lg true rfl rfl rfl ?_
      refine lp rfl (p_fab fl33_5 rfl) ?_
      refine lg true rfl rfl rfl ?_
      refine lp rfl (p_lbs ty9 rfl (j := 1) rfl rfl) ?_
      refine lg true rfl rfl rfl ?_
      obtain ⟨y16, hy16, hm⟩ := bindS hm
      refine r_call [0, 1] cf95 rfl rfl (ok_club_books_isOpen b0_ a0_0 b0_1_ Z0_1_ es0_1_ cl0_1_ a0_1 b0_2_ es0_2_ cl0_2_ a0_2 b0_3_ Z0_3_ es0_3_ cl0_3_ a0_3 s0_4_ a0_4 a1.Motion hy16) rfl rfl (.cons (.ro 1 rfl) (.cons (.ro 2 rfl) (.cons (.ro 3 rfl) .nil))) (fun _ => rfl) rfl (fun _ => ?_)
      refine lp rfl (p_pkt rfl rfl) ?_
      refine lp rfl (p_as rfl) ?_
      refine lj_seq ?_
      obtain rfl := Option.some.inj hm
      exact cj_rt () [0, 0] Tryz.results69 (.tmp rfl .nil) rfl rfl
     ·have hm := ifB_f hb hm
      refine ls true rfl rfl rfl rfl ?_
      refine ls true rfl rfl rfl rfl ?_
      refine ls true rfl rfl rfl rfl ?_
      refine ls true rfl rfl rfl rfl ?_
      refine lp rfl (p_pkf rfl rfl) ?_
      refine lp rfl (p_as rfl) ?_
      refine lj_seq ?_
      obtain rfl := Option.some.inj hm
      exact cj_rt () [0, 1] Tryz.results69 (.tmp rfl .nil) rfl rfl
    ·have hm := ifB_f hb hm
     refine cj_seq ?_
     refine cj_reg ?_
     refine lp rfl (p_eql rfl rfl) ?_
     refine lp rfl (p_as rfl) ?_
     refine lj_seq ?_
     refine cj_if (b := a1.Kind == 6) rfl (fun hb => ?_) (fun hb => ?_)
     ·have hm := ifB_t hb hm
      refine cj_seq ?_
      refine cj_reg ?_
      refine lp rfl (p_mv rfl) ?_
      refine lp rfl (p_fab fl33_5 rfl) ?_
      refine lp rfl (p_lbs ty9 rfl (j := 0) rfl rfl) ?_
      obtain ⟨y17, hy17, hm⟩ := bindS hm
      refine r_call [1, 1] cf95 rfl rfl (ok_club_books_isOpen b0_ a0_0 b0_1_ Z0_1_ es0_1_ cl0_1_ a0_1 b0_2_ es0_2_ cl0_2_ a0_2 b0_3_ Z0_3_ es0_3_ cl0_3_ a0_3 s0_4_ a0_4 a1.Motion hy17) rfl rfl (.cons (.ro 1 rfl) (.cons (.ro 2 rfl) (.cons (.ro 3 rfl) .nil))) (fun _ => rfl) rfl (fun _ => ?_)
      refine lp rfl (p_as rfl) ?_
      refine lj_seq ?_
      obtain rfl := Option.some.inj hm
      exact cj_rt () [0, 0] Tryz.results69 (.tmp rfl .nil) rfl rfl
     ·have hm := ifB_f hb hm
      refine cj_skip ?_
      refine nj_blk ?_
      refine nj_seq ?_
      refine cj_seq ?_
      refine cj_reg ?_
      refine lp rfl (p_as rfl) ?_
      refine lj_seq ?_
      obtain rfl := Option.some.inj hm
      exact cj_rt () [1, 1] Tryz.results69 (.tmp rfl .nil) rfl rfl
theorem ok_maps_Keys_map_string_club_stay_string_club_stay (m : Nat) : Ctr Tryz.prog 41 [.map (some m)].toArray ([] : List Ent) [] (X := Nat) (fun b => .func (.func 73) #[] [.pointer (some ⟨b, 0, none⟩)].toArray) (fun b => [.box b 50 [.map (some m)]]) := by
 refine ctr_mk (vs := [(0, .map (some m))]) Tryz.func41 rfl Tryz.ntmps41 rfl ⟨rfl, trivial⟩ (fun w0 A => ?_)
 refine cj_seq ?_
 refine cj_reg ?_
 refine r_bx (cs := [.map (some m)]) rfl rfl rfl (fun b => ?_)
 refine lp rfl (p_as rfl) ?_
 refine lj_seq ?_
 refine cj_seq ?_
 refine cj_reg ?_
 refine lp rfl (p_fn (cv := [.pointer (some ⟨b, 0, none⟩)]) rfl) ?_
 refine lp rfl (p_as rfl) ?_
 refine lj_seq ?_
 exact cj_rt b [0] Tryz.results41 (.tmp rfl .nil) rfl rfl
theorem ok_slices_Sorted_string__maps_Keys_map_string_club_stay_string_club_stay_1_A (bx mb : Nat) (mes : Array MapEntry) (mcl : Nat) (L : List (ByteArray × SV)) (hl : L.length ≤ 1000000000) :
  Ctr Tryz.prog 96 [SV.v nilS, .func (.func 73) #[] [.pointer (some ⟨bx, 0, none⟩)].toArray].toArray [.row R9 (SV.v nilS) []] [BoxS bx 50 [.map (some mb)], MapAt kv9 mb (mpV SV.v L) mes mcl] (X := SV × {q : List ByteArray // q.Perm (L.map Prod.fst)}) (fun s => s.1.v) (fun s => [.row R9 (SV.v s.1) s.2.1]) := by
 refine ctr_mkM (vs := [(0, SV.v nilS), (1, .func (.func 73) #[] [.pointer (some ⟨bx, 0, none⟩)].toArray)]) Tryz.func96 rfl Tryz.ntmps96 rfl ⟨rfl, rfl, trivial⟩ (fun w0 A => ?_)
 refine cj_seq ?_
 refine cj_reg ?_
 refine r_bx (cs := [SV.v nilS]) rfl rfl rfl (fun b1 => ?_)
 refine lp rfl (p_as rfl) ?_
 refine lj_seq ?_
 refine cj_seq ?_
 refine cj_seq ?_
 refine cj_reg ?_
 refine lp rfl (p_mv rfl) ?_
 refine lj_seq ?_
 refine cj_keys (γ := SV) (fn := Tryz.f73) (vv := SV.v) (ρ := List ByteArray) Tryz.func73 rfl rfl rfl Tryz.underlying50 ty50 cf73 rfl rfl (by kernel_rfl) (by kernel_rfl) (appStep_all (by_ := 16) (by decide) (by rw [List.length_map]; omega)) (fun u g => [.box b1 37 [g.v], .ro (BoxS bx 50 [.map (some mb)]), .ro (MapAt kv9 mb (mpV SV.v L) mes mcl), .row R9 (SV.v g) u]) nilS (fun _ h => h.picks [0, 1, 1, 0] rfl) (fun _ _ => (.ro 1 rfl)) (fun _ _ => (.ro 2 rfl)) (fun u g D aft => ?_) (fun i x u g k hs o1 o2 o3 oi I I0 hend hmid => ?_)
 ·refine nj_seq ?_
  refine cj_seq ?_
  refine cj_reg ?_
  refine lp rfl (p_lbs ty37 rfl (j := 1) rfl rfl) ?_
  refine lp rfl (p_as rfl) ?_
  refine lj_seq ?_
  exact cj_rtM 0 (g, ⟨u, KfP_brk aft⟩) [4] Tryz.results96 rfl (.tmp rfl .nil) rfl rfl
 ·have hm := hs
  refine cj_reg ?_
  refine lp rfl (p_as rfl) ?_
  refine lj_nil ?_
  refine hmid _ _ [.obj oi, .box b1 37 [g.v], .ro (BoxS bx 50 [.map (some mb)]), .ro (MapAt kv9 mb (mpV SV.v L) mes mcl), .row R9 (SV.v g) u] (fun _ h => h.picks [0, 0, 0, 0, 0, 0, 0] rfl) ?_
  refine cj_blk ?_
  refine cj_reg ?_
  refine lp rfl (p_lbs ty37 rfl (j := 3) rfl rfl) ?_
  refine lp rfl (p_mv rfl) ?_
  refine r_bs R9 [x] rfl rfl rfl (fun _ => by kernel_rfl) rfl (fun s13 => ?_)
  obtain ⟨q, hq, hm⟩ := bindS hm
  refine r_app (k := 7) Tryz.underlying37 ty9 rfl rfl rfl rfl (.row 0 rfl) hq rfl (fun s15 => ?_)
  refine r_sb (vs := [s15.v]) (j := 4) ty37 rfl rfl rfl rfl rfl rfl rfl ?_
  refine lj_nil ?_
  refine nj_blk ?_
  exact hend _ _ q s15 (Option.some.inj hm).symm (fun _ h => h.picks [1, 1, 1, 1, 1, 1, 1] rfl)
theorem ok_slices_Sorted_string__maps_Keys_map_string_club_stay_string_club_stay_1_C (bx mb : Nat) (mes : Array MapEntry) (mcl : Nat) (L : List (ByteArray × SV)) (hl : L.length ≤ 1000000000) :
  Ctr Tryz.prog 71 [.func (.func 73) #[] [.pointer (some ⟨bx, 0, none⟩)].toArray].toArray ([] : List Ent) [BoxS bx 50 [.map (some mb)], MapAt kv9 mb (mpV SV.v L) mes mcl] (X := SV × {q : List ByteArray // q.Perm (L.map Prod.fst)}) (fun s => s.1.v) (fun s => [.row R9 (SV.v s.1) s.2.1]) := by
 refine ctr_mk (vs := [(0, .func (.func 73) #[] [.pointer (some ⟨bx, 0, none⟩)].toArray)]) Tryz.func71 rfl Tryz.ntmps71 rfl ⟨rfl, trivial⟩ (fun w0 A => ?_)
 refine cj_seq ?_
 refine cj_reg ?_
 refine lp rfl (p_as rfl) ?_
 refine lj_seq ?_
 refine cj_seq ?_
 refine cj_reg ?_
 refine lp rfl (p_mv rfl) ?_
 refine r_nil R9 ?_
 refine r_call [0] cf96 rfl rfl (ok_slices_Sorted_string__maps_Keys_map_string_club_stay_string_club_stay_1_A bx mb mes mcl L hl) rfl rfl (.cons (.ro 0 rfl) (.cons (.ro 1 rfl) .nil)) (fun _ => rfl) rfl (fun s3 => ?_)
 refine lp rfl (p_as rfl) ?_
 refine lj_seq ?_
 exact cj_rt s3 [0] Tryz.results71 (.tmp rfl .nil) rfl rfl
theorem ok_slices_Sorted_string__maps_Keys_map_string_club_stay_string_club_stay_1 (bx mb : Nat) (Z : List (ByteArray × (SV))) (mes : Array MapEntry) (mcl : Nat) (L : List (ByteArray × (List Tclub_stay))) {r : List ByteArray} (hm : m_slices_Sorted_string__maps_Keys_map_string_club_stay_string_club_stay_1 L = some r) :
  Ctr Tryz.prog 40 [.func (.func 73) #[] [.pointer (some ⟨bx, 0, none⟩)].toArray].toArray ([] : List Ent) [BoxS bx 50 [.map (some mb)], FamAt kv9 SV.v (rowE R128) mb L Z none mes mcl] (X := SV) (fun s => s.v) (fun s => [.row R9 (SV.v s) r]) := by
 unfold m_slices_Sorted_string__maps_Keys_map_string_club_stay_string_club_stay_1 at hm
 split at hm
 case isFalse => cases hm
 rename_i hl
 refine ctr_mk (vs := [(0, .func (.func 73) #[] [.pointer (some ⟨bx, 0, none⟩)].toArray)]) Tryz.func40 rfl Tryz.ntmps40 rfl ⟨rfl, trivial⟩ (fun w0 A => ?_)
 refine cj_pure (F := FamAt kv9 SV.v (rowE R128) mb L Z none mes mcl) (.ro 1 rfl) (fun _ h => h.kys) (fun hky => ?_)
 rw [hky] at hm
 have hl : Z.length ≤ 1000000000 := by have := congrArg List.length hky; simp at this; omega
 refine cj_seq ?_
 refine cj_reg ?_
 refine lp rfl (p_as rfl) ?_
 refine lj_seq ?_
 refine cj_seq ?_
 refine cj_reg ?_
 refine lp rfl (p_mv rfl) ?_
 refine r_call [] cf71 rfl rfl (ok_slices_Sorted_string__maps_Keys_map_string_club_stay_string_club_stay_1_C bx mb mes mcl Z hl) rfl rfl (.cons (.ro 0 rfl) (.cons (.imp (.ro 1 rfl) (fun _ h => h.map)) .nil)) (fun _ => rfl) rfl (fun s2 => ?_)
 obtain ⟨s2, q, hq⟩ := s2
 have hm := (m_Sort_perm hq).trans hm
 refine lp rfl (p_as rfl) ?_
 refine lj_seq ?_
 refine cj_seq ?_
 refine cj_reg ?_
 refine lp rfl (p_mv rfl) ?_
 refine r_call [0] cf72 rfl rfl (ok_slices_Sort_string_string s2 q hm) rfl rfl .nil (fun _ => rfl) rfl (fun _ => ?_)
 refine lj_seq ?_
 refine cj_seq ?_
 refine cj_reg ?_
 refine lp rfl (p_mv rfl) ?_
 refine lp rfl (p_as rfl) ?_
 refine lj_seq ?_
 exact cj_rt s2 [0] Tryz.results40 (.tmp rfl .nil) rfl rfl
end Go.Proofs.YtgfbgcdnnkehbaaGreatDoor
