/- The walks. Written by program. -/
import Derived.Test.YtgfbgcdnnkehbaaGreatDoorD
import Derived.Test.YtgfbgcdnnkehbaaGreatDoorXV
namespace Go.Proofs.YtgfbgcdnnkehbaaGreatDoor
open Go Go.J Go.G
set_option maxRecDepth 100000
set_option linter.unusedVariables false
set_option linter.unusedSimpArgs false
theorem ok_gleemake_Below (a0 : Int) (a1 : Int) {r : Int} (hm : m_gleemake_Below a0 a1 = some r) :
  Ctr Tryz.prog 38 [.int .i64 a0, .int .i64 a1].toArray ([] : List Ent) [] (X := Unit) (fun _ => .int .i64 r) (fun _ => []) := by
 unfold m_gleemake_Below at hm
 refine ctr_mk (vs := [(0, .int .i64 a0), (1, .int .i64 a1)]) Tryz.func38 rfl Tryz.ntmps38 rfl ⟨rfl, rfl, trivial⟩ (fun w0 A => ?_)
 refine cj_seq ?_
 refine cj_reg ?_
 refine lp rfl (p_as rfl) ?_
 refine lj_seq ?_
 refine cj_seq ?_
 refine cj_seq ?_
 refine cj_reg ?_
 refine lp rfl (p_mv rfl) ?_
 refine lp rfl (p_lss rfl rfl) ?_
 refine lj_seq ?_
 refine cj_if (b := decide (a1 < 1)) rfl (fun hb => ?_) (fun hb => ?_)
 ·have hm := ifB_t hb hm
  refine cj_seq ?_
  refine cj_reg ?_
  refine lp rfl (p_as rfl) ?_
  refine lj_seq ?_
  obtain rfl := Option.some.inj hm
  exact cj_rt () [] Tryz.results38 (.tmp rfl .nil) rfl rfl
 ·have hm := ifB_f hb hm
  refine cj_skip ?_
  refine nj_seq ?_
  refine cj_seq ?_
  refine cj_reg ?_
  refine lp rfl (p_mv rfl) ?_
  refine lp rfl (p_mv rfl) ?_
  obtain ⟨z1, hz1, hm⟩ := bindS hm
  refine lp rfl (p_remM hz1 rfl rfl) ?_
  refine lp rfl (p_as rfl) ?_
  refine lj_seq ?_
  refine cj_seq ?_
  refine cj_seq ?_
  refine cj_reg ?_
  refine lp rfl (p_mv rfl) ?_
  refine lp rfl (p_lss rfl rfl) ?_
  refine lj_seq ?_
  refine cj_if (b := decide (z1 < 0)) rfl (fun hb => ?_) (fun hb => ?_)
  ·have hm := ifB_t hb hm
   refine cj_reg ?_
   refine lp rfl (p_mv rfl) ?_
   refine lp rfl (p_mv rfl) ?_
   refine lp rfl (p_add rfl rfl) ?_
   refine lp rfl (p_as rfl) ?_
   refine lj_seq ?_
   refine cj_seq ?_
   refine cj_reg ?_
   refine lp rfl (p_mv rfl) ?_
   refine lp rfl (p_as rfl) ?_
   refine lj_seq ?_
   obtain rfl := Option.some.inj hm
   exact cj_rt () [] Tryz.results38 (.tmp rfl .nil) rfl rfl
  ·have hm := ifB_f hb hm
   refine cj_skip ?_
   refine nj_seq ?_
   refine cj_seq ?_
   refine cj_reg ?_
   refine lp rfl (p_mv rfl) ?_
   refine lp rfl (p_as rfl) ?_
   refine lj_seq ?_
   obtain rfl := Option.some.inj hm
   exact cj_rt () [] Tryz.results38 (.tmp rfl .nil) rfl rfl
theorem ok_gleemake_Stream_Next (b0_ : Nat) (s0_0_ : SV) (a0_0 : (List Int)) (a0_1 : Int) (a1 : Int) {r : Int × Int} (hm : m_gleemake_Stream_Next a0_0 a0_1 a1 = some r) :
  Ctr Tryz.prog 17 [.pointer (some ⟨b0_, 0, none⟩), .int .i64 a1].toArray [.box b0_ 25 [s0_0_.v, .int .i64 a0_1]] [RdS R3 (SV.v s0_0_) a0_0] (X := Unit) (fun _ => .int .i64 r.1) (fun _ => [.box b0_ 25 [s0_0_.v, .int .i64 r.2]]) := by
 unfold m_gleemake_Stream_Next at hm
 refine ctr_mk (vs := [(0, .pointer (some ⟨b0_, 0, none⟩)), (1, .int .i64 a1)]) Tryz.func17 rfl Tryz.ntmps17 rfl ⟨rfl, rfl, trivial⟩ (fun w0 A => ?_)
 refine cj_seq ?_
 refine cj_reg ?_
 refine lp rfl (p_as rfl) ?_
 refine lj_seq ?_
 refine cj_seq ?_
 refine cj_reg ?_
 refine lp rfl (p_mv rfl) ?_
 refine lp rfl (p_nc rfl) ?_
 refine lp rfl (p_fab fl25_1 rfl) ?_
 refine lp rfl (p_lbs ty3 rfl (j := 0) rfl rfl) ?_
 refine lp rfl (p_add rfl rfl) ?_
 refine lp rfl (p_nc rfl) ?_
 refine lp rfl (p_fab fl25_1 rfl) ?_
 refine r_sb (vs := [.int .i64 (w64 (a0_1 + 1))]) (j := 0) ty3 rfl rfl rfl rfl rfl rfl rfl ?_
 refine lj_seq ?_
 refine cj_seq ?_
 refine cj_seq ?_
 refine cj_reg ?_
 refine lp rfl (p_mv rfl) ?_
 refine lp rfl (p_nc rfl) ?_
 refine lp rfl (p_fab fl25_0 rfl) ?_
 refine lp rfl (p_lbs ty22 rfl (j := 0) rfl rfl) ?_
 refine lp rfl (p_len Tryz.underlying22 rfl (.ro 1 rfl)) ?_
 refine lp rfl (p_eql rfl rfl) ?_
 refine lj_seq ?_
 refine cj_if (b := (a0_0.length : Int) == 0) rfl (fun hb => ?_) (fun hb => ?_)
 ·have hm := ifB_t hb hm
  refine cj_seq ?_
  refine cj_reg ?_
  refine lp rfl (p_mv rfl) ?_
  refine lp rfl (p_nc rfl) ?_
  refine lp rfl (p_fab fl25_1 rfl) ?_
  refine lp rfl (p_lbs ty3 rfl (j := 0) rfl rfl) ?_
  refine lp rfl (p_mul rfl rfl) ?_
  refine lp rfl (p_mv rfl) ?_
  obtain ⟨y1, hy1, hm⟩ := bindS hm
  refine r_call [] cf38 rfl rfl (ok_gleemake_Below (w64 ((w64 (a0_1 + 1)) * 7919)) a1 hy1) rfl rfl .nil (fun _ => rfl) rfl (fun _ => ?_)
  refine lp rfl (p_as rfl) ?_
  refine lj_seq ?_
  obtain rfl := Option.some.inj hm
  exact cj_rt () [0] Tryz.results17 (.tmp rfl .nil) rfl rfl
 ·have hm := ifB_f hb hm
  refine cj_skip ?_
  refine nj_seq ?_
  refine cj_seq ?_
  refine cj_quiet (by kernel_rfl) (by kernel_rfl) ?_
  refine q_p rfl (p_mv rfl) ?_
  refine q_p rfl (p_nc rfl) ?_
  refine q_p rfl (p_fab fl25_1 rfl) ?_
  refine q_p rfl (p_lbs ty3 rfl (j := 0) rfl rfl) ?_
  refine q_p rfl (p_sub rfl rfl) ?_
  refine q_p rfl (p_mv rfl) ?_
  refine q_p rfl (p_nc rfl) ?_
  refine q_p rfl (p_fab fl25_0 rfl) ?_
  refine q_p rfl (p_lbs ty22 rfl (j := 0) rfl rfl) ?_
  refine q_p rfl (p_len Tryz.underlying22 rfl (.ro 1 rfl)) ?_
  obtain ⟨z2, hz2, hm⟩ := bindS hm
  refine q_p rfl (p_remM hz2 rfl rfl) ?_
  refine q_p rfl (p_as rfl) ?_
  refine q_nil ?_
  refine nj_seq ?_
  refine cj_seq ?_
  refine cj_quiet (by kernel_rfl) (by kernel_rfl) ?_
  refine q_p rfl (p_mv rfl) ?_
  refine q_p rfl (p_nc rfl) ?_
  refine q_p rfl (p_fab fl25_1 rfl) ?_
  refine q_p rfl (p_lbs ty3 rfl (j := 0) rfl rfl) ?_
  refine q_p rfl (p_sub rfl rfl) ?_
  refine q_p rfl (p_mv rfl) ?_
  refine q_p rfl (p_nc rfl) ?_
  refine q_p rfl (p_fab fl25_0 rfl) ?_
  refine q_p rfl (p_lbs ty22 rfl (j := 0) rfl rfl) ?_
  refine q_p rfl (p_len Tryz.underlying22 rfl (.ro 1 rfl)) ?_
  obtain ⟨z3, hz3, hm⟩ := bindS hm
  refine q_p rfl (p_quoM hz3 rfl rfl) ?_
  refine q_p rfl (p_as rfl) ?_
  refine q_nil ?_
  refine nj_seq ?_
  refine cj_seq ?_
  refine cj_reg ?_
  refine lp rfl (p_mv rfl) ?_
  refine lp rfl (p_nc rfl) ?_
  refine lp rfl (p_fab fl25_0 rfl) ?_
  refine lp rfl (p_lbs ty22 rfl (j := 0) rfl rfl) ?_
  refine lp rfl (p_mv rfl) ?_
  obtain ⟨e4, he4, hm⟩ := bindS hm
  refine lp rfl (p_idx Tryz.underlying22 ty3 rfl rfl (.ro 1 rfl) he4) ?_
  refine lp rfl (p_lde (o := 0) ty3 rfl rfl (.ro 1 rfl) (getI_spec he4).2 rfl) ?_
  obtain ⟨y5, hy5, hm⟩ := bindS hm
  refine r_call [] cf38 rfl rfl (ok_gleemake_Below e4 1073741824 hy5) rfl rfl .nil (fun _ => rfl) rfl (fun _ => ?_)
  refine lp rfl (p_mv rfl) ?_
  refine lp rfl (p_mv rfl) ?_
  refine lp rfl (p_add rfl rfl) ?_
  refine lp rfl (p_mul rfl rfl) ?_
  refine lp rfl (p_add rfl rfl) ?_
  refine lp rfl (p_mv rfl) ?_
  obtain ⟨y6, hy6, hm⟩ := bindS hm
  refine r_call [] cf38 rfl rfl (ok_gleemake_Below (w64 (y5 + (w64 (z3 * (w64 (7919 + z2)))))) a1 hy6) rfl rfl .nil (fun _ => rfl) rfl (fun _ => ?_)
  refine lp rfl (p_as rfl) ?_
  refine lj_seq ?_
  obtain rfl := Option.some.inj hm
  exact cj_rt () [0] Tryz.results17 (.tmp rfl .nil) rfl rfl
theorem ok_gleemake_Stream_Range (b0_ : Nat) (s0_0_ : SV) (a0_0 : (List Int)) (a0_1 : Int) (a1 : Int) (a2 : Int) {r : Int × Int} (hm : m_gleemake_Stream_Range a0_0 a0_1 a1 a2 = some r) :
  Ctr Tryz.prog 5 [.pointer (some ⟨b0_, 0, none⟩), .int .i64 a1, .int .i64 a2].toArray [.box b0_ 25 [s0_0_.v, .int .i64 a0_1]] [RdS R3 (SV.v s0_0_) a0_0] (X := Unit) (fun _ => .int .i64 r.1) (fun _ => [.box b0_ 25 [s0_0_.v, .int .i64 r.2]]) := by
 unfold m_gleemake_Stream_Range at hm
 refine ctr_mk (vs := [(0, .pointer (some ⟨b0_, 0, none⟩)), (1, .int .i64 a1), (2, .int .i64 a2)]) Tryz.func5 rfl Tryz.ntmps5 rfl ⟨rfl, rfl, rfl, trivial⟩ (fun w0 A => ?_)
 refine cj_seq ?_
 refine cj_reg ?_
 refine lp rfl (p_as rfl) ?_
 refine lj_seq ?_
 refine cj_seq ?_
 refine cj_seq ?_
 refine cj_reg ?_
 refine lp rfl (p_mv rfl) ?_
 refine lp rfl (p_mv rfl) ?_
 refine lp rfl (p_lss rfl rfl) ?_
 refine lj_seq ?_
 refine cj_if (b := decide (a2 < a1)) rfl (fun hb => ?_) (fun hb => ?_)
 ·have hm := ifB_t hb hm
  refine cj_seq ?_
  refine cj_reg ?_
  refine lp rfl (p_mv rfl) ?_
  refine lp rfl (p_as rfl) ?_
  refine lj_seq ?_
  obtain rfl := Option.some.inj hm
  exact cj_rt () [0] Tryz.results5 (.tmp rfl .nil) rfl rfl
 ·have hm := ifB_f hb hm
  refine cj_skip ?_
  refine nj_seq ?_
  refine cj_seq ?_
  refine cj_reg ?_
  refine lp rfl (p_mv rfl) ?_
  refine lp rfl (p_mv rfl) ?_
  refine lp rfl (p_mv rfl) ?_
  refine lp rfl (p_mv rfl) ?_
  refine lp rfl (p_sub rfl rfl) ?_
  refine lp rfl (p_add rfl rfl) ?_
  obtain ⟨y1, hy1, hm⟩ := bindS hm
  refine r_call [0] cf17 rfl rfl (ok_gleemake_Stream_Next b0_ s0_0_ a0_0 a0_1 (w64 ((w64 (a2 - a1)) + 1)) hy1) rfl rfl (.cons (.ro 0 rfl) .nil) (fun _ => rfl) rfl (fun _ => ?_)
  refine lp rfl (p_add rfl rfl) ?_
  refine lp rfl (p_as rfl) ?_
  refine lj_seq ?_
  obtain rfl := Option.some.inj hm
  exact cj_rt () [0] Tryz.results5 (.tmp rfl .nil) rfl rfl
theorem ok_gleemake_Stream_Pick (b0_ : Nat) (s0_0_ : SV) (a0_0 : (List Int)) (a0_1 : Int) (s1_ : SV) (a1 : (List Int)) {r : Int × Int} (hm : m_gleemake_Stream_Pick a0_0 a0_1 a1 = some r) :
  Ctr Tryz.prog 28 [.pointer (some ⟨b0_, 0, none⟩), s1_.v].toArray [.box b0_ 25 [s0_0_.v, .int .i64 a0_1]] [RdS R3 (SV.v s0_0_) a0_0, RdS R3 (SV.v s1_) a1] (X := Unit) (fun _ => .int .i64 r.1) (fun _ => [.box b0_ 25 [s0_0_.v, .int .i64 r.2]]) := by
 unfold m_gleemake_Stream_Pick at hm
 refine ctr_mk (vs := [(0, .pointer (some ⟨b0_, 0, none⟩)), (1, s1_.v)]) Tryz.func28 rfl Tryz.ntmps28 rfl ⟨rfl, rfl, trivial⟩ (fun w0 A => ?_)
 refine cj_seq ?_
 refine cj_reg ?_
 refine lp rfl (p_as rfl) ?_
 refine lj_seq ?_
 refine cj_seq ?_
 refine cj_reg ?_
 refine lp rfl (p_mv rfl) ?_
 refine lp rfl (p_mv rfl) ?_
 refine lp rfl (p_mv rfl) ?_
 refine lp rfl (p_len Tryz.underlying22 rfl (.ro 2 rfl)) ?_
 obtain ⟨y1, hy1, hm⟩ := bindS hm
 refine r_call [0] cf17 rfl rfl (ok_gleemake_Stream_Next b0_ s0_0_ a0_0 a0_1 (a1.length : Int) hy1) rfl rfl (.cons (.ro 0 rfl) .nil) (fun _ => rfl) rfl (fun _ => ?_)
 obtain ⟨e2, he2, hm⟩ := bindS hm
 refine lp rfl (p_idx Tryz.underlying22 ty3 rfl rfl (.ro 2 rfl) he2) ?_
 refine lp rfl (p_lde (o := 0) ty3 rfl rfl (.ro 2 rfl) (getI_spec he2).2 rfl) ?_
 refine lp rfl (p_as rfl) ?_
 refine lj_seq ?_
 obtain rfl := Option.some.inj hm
 exact cj_rt () [0] Tryz.results28 (.tmp rfl .nil) rfl rfl
theorem ok_gleemake_Stream_Some (b0_ : Nat) (s0_0_ : SV) (a0_0 : (List Int)) (a0_1 : Int) (s1_ : SV) (a1 : (List ByteArray)) {r : ByteArray × Int} (hm : m_gleemake_Stream_Some a0_0 a0_1 a1 = some r) :
  Ctr Tryz.prog 29 [.pointer (some ⟨b0_, 0, none⟩), s1_.v].toArray [.box b0_ 25 [s0_0_.v, .int .i64 a0_1]] [RdS R3 (SV.v s0_0_) a0_0, RdS R9 (SV.v s1_) a1] (X := Unit) (fun _ => .string r.1) (fun _ => [.box b0_ 25 [s0_0_.v, .int .i64 r.2]]) := by
 unfold m_gleemake_Stream_Some at hm
 refine ctr_mk (vs := [(0, .pointer (some ⟨b0_, 0, none⟩)), (1, s1_.v)]) Tryz.func29 rfl Tryz.ntmps29 rfl ⟨rfl, rfl, trivial⟩ (fun w0 A => ?_)
 refine cj_seq ?_
 refine cj_reg ?_
 refine lp rfl (p_as rfl) ?_
 refine lj_seq ?_
 refine cj_seq ?_
 refine cj_reg ?_
 refine lp rfl (p_mv rfl) ?_
 refine lp rfl (p_mv rfl) ?_
 refine lp rfl (p_mv rfl) ?_
 refine lp rfl (p_len Tryz.underlying37 rfl (.ro 2 rfl)) ?_
 obtain ⟨y1, hy1, hm⟩ := bindS hm
 refine r_call [0] cf17 rfl rfl (ok_gleemake_Stream_Next b0_ s0_0_ a0_0 a0_1 (a1.length : Int) hy1) rfl rfl (.cons (.ro 0 rfl) .nil) (fun _ => rfl) rfl (fun _ => ?_)
 obtain ⟨e2, he2, hm⟩ := bindS hm
 refine lp rfl (p_idx Tryz.underlying37 ty9 rfl rfl (.ro 2 rfl) he2) ?_
 refine lp rfl (p_lde (o := 0) ty9 rfl rfl (.ro 2 rfl) (getI_spec he2).2 rfl) ?_
 refine lp rfl (p_as rfl) ?_
 refine lj_seq ?_
 obtain rfl := Option.some.inj hm
 exact cj_rt () [0] Tryz.results29 (.tmp rfl .nil) rfl rfl
theorem ok_gleemake_Stream_Flip (b0_ : Nat) (s0_0_ : SV) (a0_0 : (List Int)) (a0_1 : Int) (a1 : Int) {r : Bool × Int} (hm : m_gleemake_Stream_Flip a0_0 a0_1 a1 = some r) :
  Ctr Tryz.prog 30 [.pointer (some ⟨b0_, 0, none⟩), .int .i64 a1].toArray [.box b0_ 25 [s0_0_.v, .int .i64 a0_1]] [RdS R3 (SV.v s0_0_) a0_0] (X := Unit) (fun _ => .bool r.1) (fun _ => [.box b0_ 25 [s0_0_.v, .int .i64 r.2]]) := by
 unfold m_gleemake_Stream_Flip at hm
 refine ctr_mk (vs := [(0, .pointer (some ⟨b0_, 0, none⟩)), (1, .int .i64 a1)]) Tryz.func30 rfl Tryz.ntmps30 rfl ⟨rfl, rfl, trivial⟩ (fun w0 A => ?_)
 refine cj_seq ?_
 refine cj_reg ?_
 refine lp rfl (p_as rfl) ?_
 refine lj_seq ?_
 refine cj_seq ?_
 refine cj_reg ?_
 refine lp rfl (p_mv rfl) ?_
 refine lp rfl (p_mv rfl) ?_
 obtain ⟨y1, hy1, hm⟩ := bindS hm
 refine r_call [0] cf17 rfl rfl (ok_gleemake_Stream_Next b0_ s0_0_ a0_0 a0_1 a1 hy1) rfl rfl (.cons (.ro 0 rfl) .nil) (fun _ => rfl) rfl (fun _ => ?_)
 refine lp rfl (p_eql rfl rfl) ?_
 refine lp rfl (p_as rfl) ?_
 refine lj_seq ?_
 obtain rfl := Option.some.inj hm
 exact cj_rt () [0] Tryz.results30 (.tmp rfl .nil) rfl rfl
theorem ok_gleemake_Stream_Odd (b0_ : Nat) (s0_0_ : SV) (a0_0 : (List Int)) (a0_1 : Int) (a1 : Int) (a2 : Int) {r : Int × Int} (hm : m_gleemake_Stream_Odd a0_0 a0_1 a1 a2 = some r) :
  Ctr Tryz.prog 31 [.pointer (some ⟨b0_, 0, none⟩), .int .i64 a1, .int .i64 a2].toArray [.box b0_ 25 [s0_0_.v, .int .i64 a0_1]] [RdS R3 (SV.v s0_0_) a0_0] (X := Unit) (fun _ => .int .i64 r.1) (fun _ => [.box b0_ 25 [s0_0_.v, .int .i64 r.2]]) := by
 unfold m_gleemake_Stream_Odd at hm
 refine ctr_mk (vs := [(0, .pointer (some ⟨b0_, 0, none⟩)), (1, .int .i64 a1), (2, .int .i64 a2)]) Tryz.func31 rfl Tryz.ntmps31 rfl ⟨rfl, rfl, rfl, trivial⟩ (fun w0 A => ?_)
 refine cj_seq ?_
 refine cj_reg ?_
 refine lp rfl (p_as rfl) ?_
 refine lj_seq ?_
 refine cj_seq ?_
 refine cj_seq ?_
 refine cj_reg ?_
 refine lp rfl (p_mv rfl) ?_
 obtain ⟨y1, hy1, hm⟩ := bindS hm
 refine r_call [0] cf30 rfl rfl (ok_gleemake_Stream_Flip b0_ s0_0_ a0_0 a0_1 12 hy1) rfl rfl (.cons (.ro 0 rfl) .nil) (fun _ => rfl) rfl (fun _ => ?_)
 refine lj_seq ?_
 refine cj_if (b := y1.1) rfl (fun hb => ?_) (fun hb => ?_)
 ·have hm := ifB_t hb hm
  refine cj_seq ?_
  refine cj_reg ?_
  refine lp rfl (p_mv rfl) ?_
  refine lp rfl (p_mv rfl) ?_
  refine lp rfl (p_sub rfl rfl) ?_
  refine lp rfl (p_mv rfl) ?_
  refine lp rfl (p_add rfl rfl) ?_
  refine lp rfl (p_mv rfl) ?_
  refine lp rfl (p_mv rfl) ?_
  refine r_bs R3 [w64 (a1 - 1), w64 (a2 + 1), a1, a2, (-1099511627776), 1099511627776] rfl rfl rfl (fun _ => by kernel_rfl) rfl (fun s2 => ?_)
  obtain ⟨y3, hy3, hm⟩ := bindS hm
  refine r_call [1] cf28 rfl rfl (ok_gleemake_Stream_Pick b0_ s0_0_ a0_0 y1.2 s2 [w64 (a1 - 1), w64 (a2 + 1), a1, a2, (-1099511627776), 1099511627776] hy3) rfl rfl (.cons (.ro 1 rfl) (.cons (.row 0 rfl) .nil)) (fun _ => rfl) rfl (fun _ => ?_)
  refine lp rfl (p_as rfl) ?_
  refine lj_seq ?_
  obtain rfl := Option.some.inj hm
  exact cj_rt () [0] Tryz.results31 (.tmp rfl .nil) rfl rfl
 ·have hm := ifB_f hb hm
  refine cj_skip ?_
  refine nj_seq ?_
  refine cj_seq ?_
  refine cj_reg ?_
  refine lp rfl (p_mv rfl) ?_
  refine lp rfl (p_mv rfl) ?_
  refine lp rfl (p_mv rfl) ?_
  obtain ⟨y4, hy4, hm⟩ := bindS hm
  refine r_call [0] cf5 rfl rfl (ok_gleemake_Stream_Range b0_ s0_0_ a0_0 y1.2 a1 a2 hy4) rfl rfl (.cons (.ro 0 rfl) .nil) (fun _ => rfl) rfl (fun _ => ?_)
  refine lp rfl (p_as rfl) ?_
  refine lj_seq ?_
  obtain rfl := Option.some.inj hm
  exact cj_rt () [0] Tryz.results31 (.tmp rfl .nil) rfl rfl
theorem ok_gleeref2_sign (a0 : Int) {r : Int} (hm : m_gleeref2_sign a0 = some r) :
  Ctr Tryz.prog 62 [.int .i64 a0].toArray ([] : List Ent) [] (X := Unit) (fun _ => .int .i64 r) (fun _ => []) := by
 unfold m_gleeref2_sign at hm
 refine ctr_mk (vs := [(0, .int .i64 a0)]) Tryz.func62 rfl Tryz.ntmps62 rfl ⟨rfl, trivial⟩ (fun w0 A => ?_)
 refine cj_seq ?_
 refine cj_reg ?_
 refine lp rfl (p_as rfl) ?_
 refine lj_seq ?_
 refine cj_seq ?_
 refine cj_blk ?_
 refine cj_seq ?_
 refine cj_reg ?_
 refine lp rfl (p_mv rfl) ?_
 refine lp rfl (p_lss rfl rfl) ?_
 refine lp rfl (p_as rfl) ?_
 refine lj_seq ?_
 refine cj_if (b := decide (a0 < 0)) rfl (fun hb => ?_) (fun hb => ?_)
 ·have hm := ifB_t hb hm
  refine cj_seq ?_
  refine cj_reg ?_
  refine lp rfl (p_as rfl) ?_
  refine lj_seq ?_
  obtain rfl := Option.some.inj hm
  exact cj_rt () [] Tryz.results62 (.tmp rfl .nil) rfl rfl
 ·have hm := ifB_f hb hm
  refine cj_seq ?_
  refine cj_reg ?_
  refine lp rfl (p_mv rfl) ?_
  refine lp rfl (p_gtr rfl rfl) ?_
  refine lp rfl (p_as rfl) ?_
  refine lj_seq ?_
  refine cj_if (b := decide (a0 > 0)) rfl (fun hb => ?_) (fun hb => ?_)
  ·have hm := ifB_t hb hm
   refine cj_seq ?_
   refine cj_reg ?_
   refine lp rfl (p_as rfl) ?_
   refine lj_seq ?_
   obtain rfl := Option.some.inj hm
   exact cj_rt () [] Tryz.results62 (.tmp rfl .nil) rfl rfl
  ·have hm := ifB_f hb hm
   refine cj_skip ?_
   refine nj_blk ?_
   refine nj_seq ?_
   refine cj_seq ?_
   refine cj_reg ?_
   refine lp rfl (p_as rfl) ?_
   refine lj_seq ?_
   obtain rfl := Option.some.inj hm
   exact cj_rt () [] Tryz.results62 (.tmp rfl .nil) rfl rfl
theorem ok_gleeref2_ActOrder (a0 : TAct) (a1 : TAct) {r : Int} (hm : m_gleeref2_ActOrder a0 a1 = some r) :
  Ctr Tryz.prog 33 [.agg (R33.enc a0).toArray, .agg (R33.enc a1).toArray].toArray ([] : List Ent) [] (X := Unit) (fun _ => .int .i64 r) (fun _ => []) := by
 unfold m_gleeref2_ActOrder at hm
 refine ctr_mk (vs := [(0, .agg (R33.enc a0).toArray), (1, .agg (R33.enc a1).toArray)]) Tryz.func33 rfl Tryz.ntmps33 rfl ⟨rfl, rfl, trivial⟩ (fun w0 A => ?_)
 refine cj_seq ?_
 refine cj_reg ?_
 refine r_bx (cs := [.string a0.Site, .int .i64 a0.No, .int .i64 a0.At, .int .i64 a0.Kind, .string a0.Who, .string a0.Motion, .int .i64 a0.Cents, .bool a0.Yes, .string a0.Of, .int .i64 a0.Other]) rfl rfl rfl (fun b1 => ?_)
 refine r_bx (cs := [.string a1.Site, .int .i64 a1.No, .int .i64 a1.At, .int .i64 a1.Kind, .string a1.Who, .string a1.Motion, .int .i64 a1.Cents, .bool a1.Yes, .string a1.Of, .int .i64 a1.Other]) rfl rfl rfl (fun b2 => ?_)
 refine lp rfl (p_as rfl) ?_
 refine lj_seq ?_
 refine cj_seq ?_
 refine cj_blk ?_
 refine cj_seq ?_
 refine cj_reg ?_
 refine lp rfl (p_fab fl33_2 rfl) ?_
 refine lp rfl (p_lbs ty3 rfl (j := 1) rfl rfl) ?_
 refine lp rfl (p_fab fl33_2 rfl) ?_
 refine lp rfl (p_lbs ty3 rfl (j := 0) rfl rfl) ?_
 refine lp rfl (p_neq rfl rfl) ?_
 refine lp rfl (p_as rfl) ?_
 refine lj_seq ?_
 refine cj_if (b := a0.At != a1.At) rfl (fun hb => ?_) (fun hb => ?_)
 ·have hm := ifB_t hb hm
  refine cj_seq ?_
  refine cj_reg ?_
  refine lp rfl (p_fab fl33_2 rfl) ?_
  refine lp rfl (p_lbs ty3 rfl (j := 1) rfl rfl) ?_
  refine lp rfl (p_fab fl33_2 rfl) ?_
  refine lp rfl (p_lbs ty3 rfl (j := 0) rfl rfl) ?_
  refine lp rfl (p_sub rfl rfl) ?_
  obtain ⟨y3, hy3, hm⟩ := bindS hm
  refine r_call [] cf62 rfl rfl (ok_gleeref2_sign (w64 (a0.At - a1.At)) hy3) rfl rfl .nil (fun _ => rfl) rfl (fun _ => ?_)
  refine lp rfl (p_as rfl) ?_
  refine lj_seq ?_
  obtain rfl := Option.some.inj hm
  exact cj_rt () [] Tryz.results33 (.tmp rfl .nil) rfl rfl
 ·have hm := ifB_f hb hm
  refine cj_seq ?_
  refine cj_reg ?_
  refine lp rfl (p_fab fl33_0 rfl) ?_
  refine lp rfl (p_lbs ty9 rfl (j := 1) rfl rfl) ?_
  refine lp rfl (p_fab fl33_0 rfl) ?_
  refine lp rfl (p_lbs ty9 rfl (j := 0) rfl rfl) ?_
  refine lp rfl (p_nes rfl rfl) ?_
  refine lp rfl (p_as rfl) ?_
  refine lj_seq ?_
  refine cj_if (b := !(a0.Site.toList == a1.Site.toList)) rfl (fun hb => ?_) (fun hb => ?_)
  ·have hm := ifB_t hb hm
   refine cj_seq ?_
   refine cj_reg ?_
   refine lp rfl (p_fab fl33_0 rfl) ?_
   refine lp rfl (p_lbs ty9 rfl (j := 1) rfl rfl) ?_
   refine lp rfl (p_fab fl33_0 rfl) ?_
   refine lp rfl (p_lbs ty9 rfl (j := 0) rfl rfl) ?_
   obtain ⟨y4, hy4, hm⟩ := bindS hm
   refine r_call [] cf63 rfl rfl (ok_strings_Compare a0.Site a1.Site hy4) rfl rfl .nil (fun _ => rfl) rfl (fun _ => ?_)
   refine lp rfl (p_as rfl) ?_
   refine lj_seq ?_
   obtain rfl := Option.some.inj hm
   exact cj_rt () [] Tryz.results33 (.tmp rfl .nil) rfl rfl
  ·have hm := ifB_f hb hm
   refine cj_skip ?_
   refine nj_blk ?_
   refine nj_seq ?_
   refine cj_seq ?_
   refine cj_reg ?_
   refine lp rfl (p_fab fl33_1 rfl) ?_
   refine lp rfl (p_lbs ty3 rfl (j := 1) rfl rfl) ?_
   refine lp rfl (p_fab fl33_1 rfl) ?_
   refine lp rfl (p_lbs ty3 rfl (j := 0) rfl rfl) ?_
   refine lp rfl (p_sub rfl rfl) ?_
   obtain ⟨y5, hy5, hm⟩ := bindS hm
   refine r_call [] cf62 rfl rfl (ok_gleeref2_sign (w64 (a0.No - a1.No)) hy5) rfl rfl .nil (fun _ => rfl) rfl (fun _ => ?_)
   refine lp rfl (p_as rfl) ?_
   refine lj_seq ?_
   obtain rfl := Option.some.inj hm
   exact cj_rt () [] Tryz.results33 (.tmp rfl .nil) rfl rfl
theorem ok_slices_insertionSortCmpFunc_api_Act__gleeref2_ActOrder (s0_ : SV) (a0 : (List TAct)) (a1 : Int) (a2 : Int) {r : (List TAct)} (hm : m_slices_insertionSortCmpFunc_api_Act__gleeref2_ActOrder a0 a1 a2 = some r) :
  Ctr Tryz.prog 91 [s0_.v, .int .i64 a1, .int .i64 a2, .func (.func 33) #[] [].toArray].toArray [.row R33 (SV.v s0_) a0] [] (X := Unit) (fun _ => .tuple [].toArray) (fun _ => [.row R33 (SV.v s0_) r]) := by
 unfold m_slices_insertionSortCmpFunc_api_Act__gleeref2_ActOrder at hm
 refine ctr_mk (vs := [(0, s0_.v), (1, .int .i64 a1), (2, .int .i64 a2), (3, .func (.func 33) #[] [].toArray)]) Tryz.func91 rfl Tryz.ntmps91 rfl ⟨rfl, rfl, rfl, rfl, trivial⟩ (fun w0 A => ?_)
 refine cj_seq ?_
 refine cj_reg ?_
 refine lp rfl (p_mv rfl) ?_
 refine lp rfl (p_add rfl rfl) ?_
 refine lp rfl (p_as rfl) ?_
 refine lj_seq ?_
 obtain ⟨f4, hf4, hm⟩ := bindS hm
 refine cj_whileA (γ := Unit) hf4 () (fun u1 g2 => [(0, s0_.v), (1, .int .i64 a1), (2, .int .i64 a2), (3, .func (.func 33) #[] [].toArray), (8, .int .i64 u1.1)]) (fun u1 g2 => Sat w0 (keys [.row R33 (SV.v s0_) a0]) A [.row R33 (SV.v s0_) u1.2]) ⟨rfl, rfl, rfl, rfl, rfl, trivial⟩ (fun _ h => h.picks [0] rfl) (fun u1 g2 e => ?_) (fun aftk3 u1 g2 k3 hs J hJk3 hBk3 hX I cnk3 => ?_)
 ·have hm := Flow.fin_b e hm
  obtain rfl := Option.some.inj hm
  exact nj_rt () [0] Tryz.results91 .nil rfl rfl
 ·have hRk3 : ∀ t, k3 = .ret t → some t = some r := fun t e => by rw [hX t e] at hm; exact hm
  have hm := hs
  refine cj_seq ?_
  refine cj_seq ?_
  refine cj_reg ?_
  refine lp rfl (p_mv rfl) ?_
  refine lp rfl (p_mv rfl) ?_
  refine lp rfl (p_lss rfl rfl) ?_
  refine lj_seq ?_
  refine cj_if (b := decide (u1.1 < a2)) rfl (fun hb => ?_) (fun hb => ?_)
  ·have hm := ifB_t hb hm
   refine cj_skip ?_
   refine nj_seq ?_
   refine cj_seq ?_
   refine cj_blk ?_
   refine cj_seq ?_
   refine cj_reg ?_
   refine lp rfl (p_mv rfl) ?_
   refine lp rfl (p_as rfl) ?_
   refine lj_seq ?_
   obtain ⟨f8, hf8, hm⟩ := bindS hm
   refine cj_whileA (γ := Unit) hf8 () (fun u5 g6 => [(0, s0_.v), (1, .int .i64 a1), (2, .int .i64 a2), (3, .func (.func 33) #[] [].toArray), (8, .int .i64 u1.1), (9, .int .i64 u5.1)]) (fun u5 g6 => Sat w0 (keys [.row R33 (SV.v s0_) a0]) A [.row R33 (SV.v s0_) u5.2]) ⟨rfl, rfl, rfl, rfl, rfl, rfl, trivial⟩ (fun _ h => h.picks [0] rfl) (fun u5 g6 e => ?_) (fun aftk7 u5 g6 k7 hs J hJk7 hBk7 hX I cnk7 => ?_)
   ·have hm := Flow.fin_b e hm
    refine nj_blk ?_
    refine nj_seq ?_
    refine cj_reg ?_
    refine lp rfl (p_mv rfl) ?_
    refine lp rfl (p_add rfl rfl) ?_
    refine lp rfl (p_as rfl) ?_
    refine lj_nil ?_
    exact cnk3 _ _ (w64 (u1.1 + 1), u5.2) () (hJk3 _ (Option.some.inj hm).symm) ⟨rfl, rfl, rfl, rfl, rfl, trivial⟩ (fun _ h => h.picks [0] rfl)
   ·have hRk7 : ∀ t, k7 = .ret t → some t = some k3 := fun t e => by rw [hX t e] at hm; exact hm
    have hm := hs
    refine cj_seq ?_
    refine cj_seq ?_
    refine cj_quiet (by kernel_rfl) (by kernel_rfl) ?_
    refine q_p rfl (p_mv rfl) ?_
    refine q_p rfl (p_mv rfl) ?_
    refine q_p rfl (p_gtr rfl rfl) ?_
    refine q_p rfl (p_mv rfl) ?_
    refine q_case (i := 21) (decide (u5.1 > a1)) rfl (fun hb => ?_) (fun hb => ?_)
    ·have hm := ifB_t hb hm
     refine q_g true rfl rfl rfl ?_
     refine q_p rfl (p_mv rfl) ?_
     refine q_g true rfl rfl rfl ?_
     refine q_p rfl (p_mv rfl) ?_
     refine q_g true rfl rfl rfl ?_
     refine q_p rfl (p_mv rfl) ?_
     refine q_g true rfl rfl rfl ?_
     obtain ⟨e9, he9, hm⟩ := bindS hm
     refine q_p rfl (p_idx Tryz.underlying26 ty33 rfl rfl (.row 0 rfl) he9) ?_
     refine q_g true rfl rfl rfl ?_
     refine q_p rfl (p_lea ty33 rfl (.row 0 rfl) (getI_spec he9).2) ?_
     refine q_g true rfl rfl rfl ?_
     refine q_p rfl (p_mv rfl) ?_
     refine q_g true rfl rfl rfl ?_
     refine q_p rfl (p_mv rfl) ?_
     refine q_g true rfl rfl rfl ?_
     refine q_p rfl (p_sub rfl rfl) ?_
     refine q_g true rfl rfl rfl ?_
     obtain ⟨e10, he10, hm⟩ := bindS hm
     refine q_p rfl (p_idx Tryz.underlying26 ty33 rfl rfl (.row 0 rfl) he10) ?_
     refine q_g true rfl rfl rfl ?_
     refine q_p rfl (p_lea ty33 rfl (.row 0 rfl) (getI_spec he10).2) ?_
     refine q_g true rfl rfl rfl ?_
     obtain ⟨y11, hy11, hm⟩ := bindS hm
     refine q_call (.int .i64 y11) cf33 rfl rfl (ok_gleeref2_ActOrder e9 e10 hy11) .nil (fun _ => rfl) (fun _ => rfl) rfl ?_
     refine q_g true rfl rfl rfl ?_
     refine q_p rfl (p_lss rfl rfl) ?_
     refine q_p rfl (p_pkt rfl rfl) ?_
     refine q_nil ?_
     refine nj_seq ?_
     refine cj_if (b := decide (y11 < 0)) rfl (fun hb => ?_) (fun hb => ?_)
     ·have hm := ifB_t hb hm
      refine cj_skip ?_
      refine nj_seq ?_
      refine cj_seq ?_
      refine cj_blk ?_
      refine cj_pure (F := RdS R33 (SV.v s0_) u5.2) (.row 0 rfl) (fun _ h => h.some_of (getI_spec he9).2) (fun hp16 => ?_)
      refine cj_pure (F := RdS R33 (SV.v s0_) u5.2) (.row 0 rfl) (fun _ h => h.pures) (fun hq17 => ?_)
      obtain ⟨e12, he12, hm⟩ := bindS hm
      obtain ⟨e13, he13, hm⟩ := bindS hm
      obtain ⟨e14, he14, hm⟩ := bindS hm
      obtain ⟨e15, he15, hm⟩ := bindS hm
      refine cj_anyT [0, 1, 2, 3, 4, 5, 6, 7, 8, 9, 10, 11, 13, 14] [15, 16, 17] (Sat w0 (keys [.row R33 (SV.v s0_) a0]) A [.row R33 (SV.v s0_) u5.2]) (Sat w0 (keys [.row R33 (SV.v s0_) a0]) A []) (by kernel_rfl) ?_
      refine at_take2 0 rfl (by kernel_rfl) (by kernel_rfl) (by kernel_rfl) (fun _ h => h.picks [] rfl) rfl rfl (p_mv rfl) (fun _ h => h.picks [] rfl) ?_
      refine at_take2 1 rfl (by kernel_rfl) (by kernel_rfl) (by kernel_rfl) (fun _ h => h.picks [] rfl) rfl rfl (p_mv rfl) (fun _ h => h.picks [] rfl) ?_
      refine at_take2 2 rfl (by kernel_rfl) (by kernel_rfl) (by kernel_rfl) (fun _ h => h.picks [] rfl) rfl rfl (p_mv rfl) (fun _ h => h.picks [] rfl) ?_
      refine at_take2 3 rfl (by kernel_rfl) (by kernel_rfl) (by kernel_rfl) (fun _ h => h.picks [] rfl) rfl rfl (p_mv rfl) (fun _ h => h.picks [] rfl) ?_
      refine at_take2 4 rfl (by kernel_rfl) (by kernel_rfl) (by kernel_rfl) (fun _ h => h.picks [] rfl) rfl rfl (p_sub rfl rfl) (fun _ h => h.picks [] rfl) ?_
      refine at_take2 5 rfl (by kernel_rfl) (by kernel_rfl) (by kernel_rfl) (fun _ h => h.picks [] rfl) rfl rfl (p_mv rfl) (fun _ h => h.picks [] rfl) ?_
      refine at_take2 6 rfl (by kernel_rfl) (by kernel_rfl) (by kernel_rfl) (fun _ h => h.picks [] rfl) rfl rfl (p_mv rfl) (fun _ h => h.picks [] rfl) ?_
      refine at_take2 7 rfl (by kernel_rfl) (by kernel_rfl) (by kernel_rfl) (fun _ h => h.picks [] rfl) rfl rfl (p_sub rfl rfl) (fun _ h => h.picks [] rfl) ?_
      refine at_take1 8 rfl (by kernel_rfl) (by kernel_rfl) (by kernel_rfl) (by kernel_rfl) rfl rfl (p_idxP (R := R33) Tryz.underlying26 ty33 rfl rfl hq17 he12) (fun _ h => h.picks [0] rfl) ?_
      refine at_take1 9 rfl (by kernel_rfl) (by kernel_rfl) (by kernel_rfl) (by kernel_rfl) rfl rfl (p_lea ty33 rfl (.row 0 rfl) (getI_spec he12).2) (fun _ h => h.picks [0] rfl) ?_
      refine at_take2 10 rfl (by kernel_rfl) (by kernel_rfl) (by kernel_rfl) (fun _ h => h.picks [] rfl) rfl rfl (p_mv rfl) (fun _ h => h.picks [] rfl) ?_
      refine at_take2 11 rfl (by kernel_rfl) (by kernel_rfl) (by kernel_rfl) (fun _ h => h.picks [] rfl) rfl rfl (p_mv rfl) (fun _ h => h.picks [] rfl) ?_
      refine at_each (rs := [12]) (by kernel_rfl) (by decide) ?_
      refine (.cons rfl (fun I cnI => ?_) .nil)
      ·refine lp rfl (p_idxP (R := R33) Tryz.underlying26 ty33 rfl rfl hq17 he13) ?_
       refine lj_nil ?_
       refine cnI _ _ (sof1 rfl rfl (fun _ h => h.picks [0] rfl)) ?_
       refine at_take1 13 rfl (by kernel_rfl) (by kernel_rfl) (by kernel_rfl) (by kernel_rfl) rfl rfl (p_lea ty33 rfl (.row 0 rfl) (getI_spec he13).2) (fun _ h => h.picks [0] rfl) ?_
       refine at_take1 14 rfl (by kernel_rfl) (by kernel_rfl) (by kernel_rfl) (by kernel_rfl) rfl rfl (p_idxP (R := R33) Tryz.underlying26 ty33 rfl rfl hq17 he14) (fun _ h => h.picks [0] rfl) ?_
       refine at_each (rs := [15]) (by kernel_rfl) (by decide) ?_
       refine (.cons rfl (fun I cnI => ?_) .nil)
       ·refine r_ste (k := 0) (o := 0) (vs := [.string e12.Site, .int .i64 e12.No, .int .i64 e12.At, .int .i64 e12.Kind, .string e12.Who, .string e12.Motion, .int .i64 e12.Cents, .bool e12.Yes, .string e12.Of, .int .i64 e12.Other]) ty33 rfl rfl rfl rfl rfl rfl rfl (getI_spec he14).2 e12 rfl rfl ?_
        refine lj_nil ?_
        refine cnI _ _ (sof2 rfl rfl (fun _ h => h.picks [] rfl)) ?_
        refine at_each (rs := [16]) (by kernel_rfl) (by decide) ?_
        refine (.cons rfl (fun I cnI => ?_) .nil)
        ·refine lp rfl (p_idx Tryz.underlying26 ty33 rfl rfl (.row 0 rfl) he15) ?_
         refine lj_nil ?_
         refine cnI _ _ (sof2 rfl rfl (fun _ h => h.picks [] rfl)) ?_
         refine at_each (rs := [17]) (by kernel_rfl) (by decide) ?_
         refine (.cons rfl (fun I cnI => ?_) .nil)
         ·refine r_ste (k := 0) (o := 0) (vs := [.string e13.Site, .int .i64 e13.No, .int .i64 e13.At, .int .i64 e13.Kind, .string e13.Who, .string e13.Motion, .int .i64 e13.Cents, .bool e13.Yes, .string e13.Of, .int .i64 e13.Other]) ty33 rfl rfl rfl rfl rfl rfl rfl (getI_spec he15).2 e13 rfl rfl ?_
          refine lj_nil ?_
          refine cnI _ _ (sof2 rfl rfl (fun _ h => h.picks [] rfl)) ?_
          refine at_done (by kernel_rfl) ?_
          refine nj_blk ?_
          refine nj_seq ?_
          refine cj_reg ?_
          refine lp rfl (p_mv rfl) ?_
          refine lp rfl (p_sub rfl rfl) ?_
          refine lp rfl (p_as rfl) ?_
          refine lj_nil ?_
          exact cnk7 _ _ (w64 (u5.1 - 1), ((u5.2.set u5.1.toNat e12).set ((w64 (u5.1 - 1)).toNat) e13)) () (hJk7 _ (Option.some.inj hm).symm) ⟨rfl, rfl, rfl, rfl, rfl, rfl, trivial⟩ (fun _ h => h.picks [0] rfl)
     ·have hm := ifB_f hb hm
      refine cj_exit rfl ?_
      exact (aftk7 (u5.1, u5.2) () (hBk7 _ (Option.some.inj hm).symm)).sub ⟨rfl, rfl, rfl, rfl, rfl, rfl, trivial⟩ (fun _ h => h.picks [0] rfl)
    ·have hm := ifB_f hb hm
     refine q_s true rfl rfl rfl rfl ?_
     refine q_s true rfl rfl rfl rfl ?_
     refine q_s true rfl rfl rfl rfl ?_
     refine q_s true rfl rfl rfl rfl ?_
     refine q_s true rfl rfl rfl rfl ?_
     refine q_s true rfl rfl rfl rfl ?_
     refine q_s true rfl rfl rfl rfl ?_
     refine q_s true rfl rfl rfl rfl ?_
     refine q_s true rfl rfl rfl rfl ?_
     refine q_s true rfl rfl rfl rfl ?_
     refine q_s true rfl rfl rfl rfl ?_
     refine q_s true rfl rfl rfl rfl ?_
     refine q_p rfl (p_pkf rfl rfl) ?_
     refine q_nil ?_
     refine nj_seq ?_
     refine cj_if_f rfl ?_
     refine cj_exit rfl ?_
     exact (aftk7 (u5.1, u5.2) () (hBk7 _ (Option.some.inj hm).symm)).sub ⟨rfl, rfl, rfl, rfl, rfl, rfl, trivial⟩ (fun _ h => h.picks [0] rfl)
  ·have hm := ifB_f hb hm
   refine cj_exit rfl ?_
   exact (aftk3 (u1.1, u1.2) () (hBk3 _ (Option.some.inj hm).symm)).sub ⟨rfl, rfl, rfl, rfl, rfl, trivial⟩ (fun _ h => h.picks [0] rfl)
theorem ok_slices_stableCmpFunc_api_Act__gleeref2_ActOrder (s0_ : SV) (a0 : (List TAct)) (a1 : Int) {r : (List TAct)} (hm : m_slices_stableCmpFunc_api_Act__gleeref2_ActOrder a0 a1 = some r) :
  Ctr Tryz.prog 61 [s0_.v, .int .i64 a1, .func (.func 33) #[] [].toArray].toArray [.row R33 (SV.v s0_) a0] [] (X := Unit) (fun _ => .tuple [].toArray) (fun _ => [.row R33 (SV.v s0_) r]) := by
 unfold m_slices_stableCmpFunc_api_Act__gleeref2_ActOrder at hm
 refine ctr_mk (vs := [(0, s0_.v), (1, .int .i64 a1), (2, .func (.func 33) #[] [].toArray)]) Tryz.func61 rfl Tryz.ntmps61 rfl ⟨rfl, rfl, rfl, trivial⟩ (fun w0 A => ?_)
 refine cj_seq ?_
 refine cj_reg ?_
 refine lp rfl (p_as rfl) ?_
 refine lj_seq ?_
 refine cj_seq ?_
 refine cj_reg ?_
 refine lp rfl (p_mv rfl) ?_
 refine lp rfl (p_as rfl) ?_
 refine lp rfl (p_as rfl) ?_
 refine lj_seq ?_
 refine cj_seq ?_
 obtain ⟨f4, hf4, hm⟩ := bindS hm
 refine cj_whileA (γ := Unit) hf4 () (fun u1 g2 => [(0, s0_.v), (1, .int .i64 a1), (2, .func (.func 33) #[] [].toArray), (6, .int .i64 20), (7, .int .i64 u1.1), (8, .int .i64 u1.2.1)]) (fun u1 g2 => Sat w0 (keys [.row R33 (SV.v s0_) a0]) A [.row R33 (SV.v s0_) u1.2.2]) ⟨rfl, rfl, rfl, rfl, rfl, rfl, trivial⟩ (fun _ h => h.picks [0] rfl) (fun u1 g2 e => ?_) (fun aftk3 u1 g2 k3 hs J hJk3 hBk3 hX I cnk3 => ?_)
 ·have hm := Flow.fin_b e hm
  refine nj_seq ?_
  refine cj_seq ?_
  refine cj_reg ?_
  refine lp rfl (p_mv rfl) ?_
  refine lp rfl (p_mv rfl) ?_
  refine lp rfl (p_mv rfl) ?_
  refine lp rfl (p_mv rfl) ?_
  obtain ⟨y6, hy6, hm⟩ := bindS hm
  refine r_call [0] cf91 rfl rfl (ok_slices_insertionSortCmpFunc_api_Act__gleeref2_ActOrder s0_ u1.2.2 u1.1 a1 hy6) rfl rfl .nil (fun _ => rfl) rfl (fun _ => ?_)
  refine lj_seq ?_
  obtain ⟨f10, hf10, hm⟩ := bindS hm
  refine cj_whileA (γ := Unit) hf10 () (fun u7 g8 => [(0, s0_.v), (1, .int .i64 a1), (2, .func (.func 33) #[] [].toArray), (6, .int .i64 u7.1), (7, .int .i64 u7.2.1), (8, .int .i64 u7.2.2)]) (fun u7 g8 => Sat w0 (keys [.row R33 (SV.v s0_) a0]) A [.row R33 (SV.v s0_) y6]) ⟨rfl, rfl, rfl, rfl, rfl, rfl, trivial⟩ (fun _ h => h.picks [0] rfl) (fun u7 g8 e => ?_) (fun aftk9 u7 g8 k9 hs J hJk9 hBk9 hX I cnk9 => ?_)
  ·have hm := Flow.fin_b e hm
   obtain rfl := Option.some.inj hm
   exact nj_rt () [0] Tryz.results61 .nil rfl rfl
  ·have hRk9 : ∀ t, k9 = .ret t → some t = some r := fun t e => by rw [hX t e] at hm; exact hm
   have hm := hs
   refine cj_seq ?_
   refine cj_seq ?_
   refine cj_reg ?_
   refine lp rfl (p_mv rfl) ?_
   refine lp rfl (p_mv rfl) ?_
   refine lp rfl (p_lss rfl rfl) ?_
   refine lj_seq ?_
   refine cj_if (b := decide (u7.1 < a1)) rfl (fun hb => ?_) (fun hb => ?_)
   ·have hm := ifB_t hb hm
    refine cj_skip ?_
    refine nj_seq ?_
    refine cj_blk ?_
    refine cj_seq ?_
    refine cj_reg ?_
    refine lp rfl (p_mv rfl) ?_
    refine lp rfl (p_mul rfl rfl) ?_
    refine lp rfl (p_as rfl) ?_
    refine lp rfl (p_as rfl) ?_
    refine lj_seq ?_
    refine cj_seq ?_
    obtain ⟨f14, hf14, hm⟩ := bindS hm
    refine cj_whileA (γ := Unit) hf14 () (fun u11 g12 => [(0, s0_.v), (1, .int .i64 a1), (2, .func (.func 33) #[] [].toArray), (6, .int .i64 u7.1), (7, .int .i64 0), (8, .int .i64 (w64 (2 * u7.1)))]) (fun u11 g12 => Sat w0 (keys [.row R33 (SV.v s0_) a0]) A [.row R33 (SV.v s0_) y6]) ⟨rfl, rfl, rfl, rfl, rfl, rfl, trivial⟩ (fun _ h => h.picks [0] rfl) (fun u11 g12 e => ?_) (fun aftk13 u11 g12 k13 hs J hJk13 hBk13 hX I cnk13 => ?_)
    ·have hm := Flow.fin_b e hm
     refine nj_seq ?_
     refine cj_seq ?_
     refine cj_seq ?_
     refine cj_reg ?_
     refine lp rfl (p_mv rfl) ?_
     refine lp rfl (p_mv rfl) ?_
     refine lp rfl (p_add rfl rfl) ?_
     refine lp rfl (p_as rfl) ?_
     refine lj_seq ?_
     refine cj_seq ?_
     refine cj_reg ?_
     refine lp rfl (p_mv rfl) ?_
     refine lp rfl (p_mv rfl) ?_
     refine lp rfl (p_lss rfl rfl) ?_
     refine lj_seq ?_
     refine cj_if (b := decide ((w64 (0 + u7.1)) < a1)) rfl (fun hb => ?_) (fun hb => ?_)
     ·have hm := ifB_t hb hm
      refine cj_reg ?_
      refine lp rfl (p_mv rfl) ?_
      refine lp rfl (p_mv rfl) ?_
      refine lp rfl (p_mv rfl) ?_
      refine lp rfl (p_mv rfl) ?_
      refine lp rfl (p_mv rfl) ?_
      cases hm
     ·have hm := ifB_f hb hm
      refine cj_skip ?_
      refine nj_seq ?_
      refine cj_reg ?_
      refine lp rfl (p_mv rfl) ?_
      refine lp rfl (p_mul rfl rfl) ?_
      refine lp rfl (p_as rfl) ?_
      refine lj_nil ?_
      refine nj_blk ?_
      exact cnk9 _ _ (w64 (u7.1 * 2), 0, w64 (2 * u7.1)) () (hJk9 _ (Option.some.inj hm).symm) ⟨rfl, rfl, rfl, rfl, rfl, rfl, trivial⟩ (fun _ h => h.picks [0] rfl)
    ·have hRk13 : ∀ t, k13 = .ret t → some t = some k9 := fun t e => by rw [hX t e] at hm; exact hm
     have hm := hs
     refine cj_seq ?_
     refine cj_seq ?_
     refine cj_reg ?_
     refine lp rfl (p_mv rfl) ?_
     refine lp rfl (p_mv rfl) ?_
     refine lp rfl (p_leq rfl rfl) ?_
     refine lj_seq ?_
     refine cj_if (b := decide ((w64 (2 * u7.1)) ≤ a1)) rfl (fun hb => ?_) (fun hb => ?_)
     ·have hm := ifB_t hb hm
      refine cj_skip ?_
      refine nj_seq ?_
      refine cj_blk ?_
      refine cj_seq ?_
      refine cj_reg ?_
      refine lp rfl (p_mv rfl) ?_
      refine lp rfl (p_mv rfl) ?_
      refine lp rfl (p_mv rfl) ?_
      refine lp rfl (p_mv rfl) ?_
      refine lp rfl (p_add rfl rfl) ?_
      refine lp rfl (p_mv rfl) ?_
      refine lp rfl (p_mv rfl) ?_
      cases hm
     ·have hm := ifB_f hb hm
      refine cj_exit rfl ?_
      exact (aftk13 () () (hBk13 _ (Option.some.inj hm).symm)).sub ⟨rfl, rfl, rfl, rfl, rfl, rfl, trivial⟩ (fun _ h => h.picks [0] rfl)
   ·have hm := ifB_f hb hm
    refine cj_exit rfl ?_
    exact (aftk9 (u7.1, u7.2.1, u7.2.2) () (hBk9 _ (Option.some.inj hm).symm)).sub ⟨rfl, rfl, rfl, rfl, rfl, rfl, trivial⟩ (fun _ h => h.picks [0] rfl)
 ·have hRk3 : ∀ t, k3 = .ret t → some t = some r := fun t e => by rw [hX t e] at hm; exact hm
  have hm := hs
  refine cj_seq ?_
  refine cj_seq ?_
  refine cj_reg ?_
  refine lp rfl (p_mv rfl) ?_
  refine lp rfl (p_mv rfl) ?_
  refine lp rfl (p_leq rfl rfl) ?_
  refine lj_seq ?_
  refine cj_if (b := decide (u1.2.1 ≤ a1)) rfl (fun hb => ?_) (fun hb => ?_)
  ·have hm := ifB_t hb hm
   refine cj_skip ?_
   refine nj_seq ?_
   refine cj_blk ?_
   refine cj_seq ?_
   refine cj_reg ?_
   refine lp rfl (p_mv rfl) ?_
   refine lp rfl (p_mv rfl) ?_
   refine lp rfl (p_mv rfl) ?_
   refine lp rfl (p_mv rfl) ?_
   obtain ⟨y5, hy5, hm⟩ := bindS hm
   refine r_call [0] cf91 rfl rfl (ok_slices_insertionSortCmpFunc_api_Act__gleeref2_ActOrder s0_ u1.2.2 u1.1 u1.2.1 hy5) rfl rfl .nil (fun _ => rfl) rfl (fun _ => ?_)
   refine lj_seq ?_
   refine cj_seq ?_
   refine cj_reg ?_
   refine lp rfl (p_mv rfl) ?_
   refine lp rfl (p_as rfl) ?_
   refine lj_seq ?_
   refine cj_reg ?_
   refine lp rfl (p_mv rfl) ?_
   refine lp rfl (p_mv rfl) ?_
   refine lp rfl (p_add rfl rfl) ?_
   refine lp rfl (p_as rfl) ?_
   refine lj_nil ?_
   refine nj_blk ?_
   exact cnk3 _ _ (u1.2.1, w64 (u1.2.1 + 20), y5) () (hJk3 _ (Option.some.inj hm).symm) ⟨rfl, rfl, rfl, rfl, rfl, rfl, trivial⟩ (fun _ h => h.picks [0] rfl)
  ·have hm := ifB_f hb hm
   refine cj_exit rfl ?_
   exact (aftk3 (u1.1, u1.2.1, u1.2.2) () (hBk3 _ (Option.some.inj hm).symm)).sub ⟨rfl, rfl, rfl, rfl, rfl, rfl, trivial⟩ (fun _ h => h.picks [0] rfl)
theorem ok_slices_SortStableFunc_api_Act_api_Act__gleeref2_ActOrder (s0_ : SV) (a0 : (List TAct)) {r : (List TAct)} (hm : m_slices_SortStableFunc_api_Act_api_Act__gleeref2_ActOrder a0 = some r) :
  Ctr Tryz.prog 32 [s0_.v, .func (.func 33) #[] [].toArray].toArray [.row R33 (SV.v s0_) a0] [] (X := Unit) (fun _ => .tuple [].toArray) (fun _ => [.row R33 (SV.v s0_) r]) := by
 unfold m_slices_SortStableFunc_api_Act_api_Act__gleeref2_ActOrder at hm
 refine ctr_mk (vs := [(0, s0_.v), (1, .func (.func 33) #[] [].toArray)]) Tryz.func32 rfl Tryz.ntmps32 rfl ⟨rfl, rfl, trivial⟩ (fun w0 A => ?_)
 refine cj_reg ?_
 refine lp rfl (p_mv rfl) ?_
 refine lp rfl (p_mv rfl) ?_
 refine lp rfl (p_len Tryz.underlying26 rfl (.row 0 rfl)) ?_
 refine lp rfl (p_mv rfl) ?_
 obtain ⟨y1, hy1, hm⟩ := bindS hm
 refine r_call [0] cf61 rfl rfl (ok_slices_stableCmpFunc_api_Act__gleeref2_ActOrder s0_ a0 (a0.length : Int) hy1) rfl rfl .nil (fun _ => rfl) rfl (fun _ => ?_)
 refine lj_nil ?_
 obtain rfl := Option.some.inj hm
 exact nj_rt () [0] Tryz.results32 .nil rfl rfl
set_option maxHeartbeats 8000000 in
theorem ok_gleemake_Stream_Acts (b0_ : Nat) (s0_0_ : SV) (a0_0 : (List Int)) (a0_1 : Int) (a1 : Int) {r : (List TAct) × Int} (hm : m_gleemake_Stream_Acts a0_0 a0_1 a1 = some r) :
  Ctr Tryz.prog 15 [.pointer (some ⟨b0_, 0, none⟩), .int .i64 a1].toArray [.box b0_ 25 [s0_0_.v, .int .i64 a0_1]] [RdS R3 (SV.v s0_0_) a0_0] (X := SV) (fun s => s.v) (fun s => [.row R33 (SV.v s) r.1, .box b0_ 25 [s0_0_.v, .int .i64 r.2]]) := by
 unfold m_gleemake_Stream_Acts at hm
 refine ctr_mk (vs := [(0, .pointer (some ⟨b0_, 0, none⟩)), (1, .int .i64 a1)]) Tryz.func15 rfl Tryz.ntmps15 rfl ⟨rfl, rfl, trivial⟩ (fun w0 A => ?_)
 refine cj_seq ?_
 refine cj_reg ?_
 refine lp rfl (p_as rfl) ?_
 refine lj_seq ?_
 refine cj_seq ?_
 refine cj_reg ?_
 refine lp rfl (p_as rfl) ?_
 refine lj_seq ?_
 refine cj_seq ?_
 refine cj_reg ?_
 refine lp rfl (p_as rfl) ?_
 refine lj_seq ?_
 refine cj_seq ?_
 refine cj_reg ?_
 refine r_mkmap kv9 vv3 rfl (fun b1 => ?_)
 refine lp rfl (p_as rfl) ?_
 refine lj_seq ?_
 refine cj_seq ?_
 refine cj_seq ?_
 refine cj_reg ?_
 refine lp rfl (p_mv rfl) ?_
 refine lp rfl (p_mv rfl) ?_
 refine lj_seq ?_
 refine cj_nil R33 ?_
 obtain ⟨L87, hL87, hm⟩ := bindS hm
 obtain ⟨f9, hf9, hm⟩ := bindS hm
 refine cj_range (γ := (Array MapEntry × Nat × SV)) (m := a1) hf9 (#[], 0, nilS) (fun u6 g7 => [(0, .pointer (some ⟨b0_, 0, none⟩)), (4, .slice none 0 0), (5, g7.2.2.v), (6, .int .i64 u6.1), (7, .map (some b1))]) (fun u6 g7 => Sat w0 (keys [.box b0_ 25 [s0_0_.v, .int .i64 a0_1]]) A [.obj (mapO kv9 b1 (mpV vv3 u6.2.2.1) g7.1 g7.2.1), .box b0_ 25 [s0_0_.v, .int .i64 u6.2.1], .ro (RdS R3 (SV.v s0_0_) a0_0), .row R33 (SV.v g7.2.2) u6.2.2.2]) ⟨rfl, rfl, rfl, rfl, rfl, rfl, rfl, trivial⟩ (fun _ h => h.picks [1, 1, 1, 0] rfl) (rangeI_spec hL87).1 (fun _ _ => (rangeI_spec hL87).2) (fun _ _ => ⟨rfl, rfl, rfl, rfl⟩) ⟨rfl, rfl, rfl, rfl, rfl⟩ rfl rfl rfl (fun u6 g7 e => ?_) (fun aftk8 i2 x3 u6 g7 k8 hx4 hs J hJk8 hBk8 hX I cnk8 => ?_)
 ·have hm := Flow.fin_b e hm
  refine nj_seq ?_
  refine cj_seq ?_
  refine cj_reg ?_
  refine lp rfl (p_mv rfl) ?_
  obtain ⟨y86, hy86, hm⟩ := bindS hm
  refine r_call [3] cf32 rfl rfl (ok_slices_SortStableFunc_api_Act_api_Act__gleeref2_ActOrder g7.2.2 u6.2.2.2 hy86) rfl rfl .nil (fun _ => rfl) rfl (fun _ => ?_)
  refine lj_seq ?_
  refine cj_seq ?_
  refine cj_reg ?_
  refine lp rfl (p_mv rfl) ?_
  refine lp rfl (p_as rfl) ?_
  refine lj_seq ?_
  obtain rfl := Option.some.inj hm
  exact cj_rt g7.2.2 [0, 1] Tryz.results15 (.tmp rfl .nil) rfl rfl
 ·have hRk8 : ∀ t, k8 = .ret t → some t = some r := fun t e => by rw [hX t e] at hm; exact hm
  have hm := hs
  refine cj_seq ?_
  refine cj_reg ?_
  refine lp rfl (p_mv rfl) ?_
  refine lp rfl (p_mv rfl) ?_
  refine r_bs R3 [0, 1, 5, 5, 2592000000] rfl rfl rfl (fun _ => by kernel_rfl) rfl (fun s11 => ?_)
  obtain ⟨y12, hy12, hm⟩ := bindS hm
  refine r_call [2] cf28 rfl rfl (ok_gleemake_Stream_Pick b0_ s0_0_ a0_0 u6.2.1 s11 [0, 1, 5, 5, 2592000000] hy12) rfl rfl (.cons (.ro 2 rfl) (.cons (.row 0 rfl) .nil)) (fun _ => rfl) rfl (fun _ => ?_)
  refine lp rfl (p_add rfl rfl) ?_
  refine lp rfl (p_as rfl) ?_
  refine lj_seq ?_
  refine cj_seq ?_
  refine cj_reg ?_
  refine lp rfl (p_mv rfl) ?_
  refine r_bs R9 [(ByteArray.mk [115, 97].toArray), (ByteArray.mk [115, 97].toArray), (ByteArray.mk [115, 98].toArray), (ByteArray.mk [115, 99].toArray)] rfl rfl rfl (fun _ => by kernel_rfl) rfl (fun s13 => ?_)
  obtain ⟨y14, hy14, hm⟩ := bindS hm
  refine r_call [1] cf29 rfl rfl (ok_gleemake_Stream_Some b0_ s0_0_ a0_0 y12.2 s13 [(ByteArray.mk [115, 97].toArray), (ByteArray.mk [115, 97].toArray), (ByteArray.mk [115, 98].toArray), (ByteArray.mk [115, 99].toArray)] hy14) rfl rfl (.cons (.ro 3 rfl) (.cons (.row 0 rfl) .nil)) (fun _ => rfl) rfl (fun _ => ?_)
  refine lp rfl (p_mv rfl) ?_
  refine lp rfl (p_mv rfl) ?_
  refine r_bs R3 [1, 1, 1, 2, 3, 3, 4, 5, 5, 5, 6, 7] rfl rfl rfl (fun _ => by kernel_rfl) rfl (fun s15 => ?_)
  obtain ⟨y16, hy16, hm⟩ := bindS hm
  refine r_call [1] cf28 rfl rfl (ok_gleemake_Stream_Pick b0_ s0_0_ a0_0 y14.2 s15 [1, 1, 1, 2, 3, 3, 4, 5, 5, 5, 6, 7] hy16) rfl rfl (.cons (.ro 4 rfl) (.cons (.row 0 rfl) .nil)) (fun _ => rfl) rfl (fun _ => ?_)
  refine lp rfl (p_bld [.string y14.1, .int .i64 0, .int .i64 (w64 (u6.1 + y12.1)), .int .i64 y16.1, .string ByteArray.empty, .string ByteArray.empty, .int .i64 0, .bool false, .string ByteArray.empty, .int .i64 0] rfl (fun _ => by kernel_rfl)) ?_
  refine r_al ty33 rfl (fun b17 => ?_)
  refine r_sb (vs := [.string y14.1, .int .i64 0, .int .i64 (w64 (u6.1 + y12.1)), .int .i64 y16.1, .string ByteArray.empty, .string ByteArray.empty, .int .i64 0, .bool false, .string ByteArray.empty, .int .i64 0]) (j := 0) ty33 rfl rfl rfl rfl rfl rfl rfl ?_
  refine lj_seq ?_
  refine cj_seq ?_
  refine cj_reg ?_
  refine lp rfl (p_mv rfl) ?_
  refine lp rfl (p_fab fl33_0 rfl) ?_
  refine lp rfl (p_lbs ty9 rfl (j := 0) rfl rfl) ?_
  refine lp rfl (p_lkm (vv := vv3) (k := y14.1) (z := 0) Tryz.underlying51 (keyF9) (fun _ => by kernel_rfl) (.map 5 rfl) rfl rfl) ?_
  refine lp rfl (p_add rfl rfl) ?_
  refine r_mpu (j := 5) (vv := vv3) (k := y14.1) (v := (w64 (((lkM u6.2.2.1 y14.1).getD 0) + 1))) Tryz.underlying51 keyF9 rfl rfl rfl rfl (fun es18 cl19 => ?_)
  refine lj_seq ?_
  refine cj_seq ?_
  refine cj_reg ?_
  refine lp rfl (p_mv rfl) ?_
  refine lp rfl (p_fab fl33_0 rfl) ?_
  refine lp rfl (p_lbs ty9 rfl (j := 0) rfl rfl) ?_
  refine lp rfl (p_lkm (vv := vv3) (k := y14.1) (z := 0) Tryz.underlying51 (keyF9) (fun _ => by kernel_rfl) (.map 5 rfl) rfl rfl) ?_
  refine lp rfl (p_fab fl33_1 rfl) ?_
  refine r_sb (vs := [.int .i64 ((lkM (putM u6.2.2.1 y14.1 (w64 (((lkM u6.2.2.1 y14.1).getD 0) + 1))) y14.1).getD 0)]) (j := 0) ty3 rfl rfl rfl rfl rfl rfl rfl ?_
  refine lj_seq ?_
  refine cj_seq ?_
  refine cj_reg ?_
  refine lp rfl (p_mv rfl) ?_
  refine r_bs R9 [(ByteArray.mk [97, 110, 110].toArray), (ByteArray.mk [98, 111, 98].toArray), (ByteArray.mk [99, 105, 100].toArray), (ByteArray.mk [97, 110, 110].toArray)] rfl rfl rfl (fun _ => by kernel_rfl) rfl (fun s20 => ?_)
  obtain ⟨y21, hy21, hm⟩ := bindS hm
  refine r_call [2] cf29 rfl rfl (ok_gleemake_Stream_Some b0_ s0_0_ a0_0 y16.2 s20 [(ByteArray.mk [97, 110, 110].toArray), (ByteArray.mk [98, 111, 98].toArray), (ByteArray.mk [99, 105, 100].toArray), (ByteArray.mk [97, 110, 110].toArray)] hy21) rfl rfl (.cons (.ro 6 rfl) (.cons (.row 0 rfl) .nil)) (fun _ => rfl) rfl (fun _ => ?_)
  refine lp rfl (p_mv rfl) ?_
  refine r_bs R9 [(ByteArray.mk [104, 97, 116, 115].toArray), (ByteArray.mk [104, 97, 116, 115].toArray), (ByteArray.mk [116, 111, 117, 114].toArray)] rfl rfl rfl (fun _ => by kernel_rfl) rfl (fun s22 => ?_)
  obtain ⟨y23, hy23, hm⟩ := bindS hm
  refine r_call [1] cf29 rfl rfl (ok_gleemake_Stream_Some b0_ s0_0_ a0_0 y21.2 s22 [(ByteArray.mk [104, 97, 116, 115].toArray), (ByteArray.mk [104, 97, 116, 115].toArray), (ByteArray.mk [116, 111, 117, 114].toArray)] hy23) rfl rfl (.cons (.ro 7 rfl) (.cons (.row 0 rfl) .nil)) (fun _ => rfl) rfl (fun _ => ?_)
  refine lp rfl (p_as rfl) ?_
  refine lp rfl (p_as rfl) ?_
  refine lj_seq ?_
  refine cj_seq ?_
  refine cj_seq ?_
  refine cj_reg ?_
  refine lp rfl (p_fab fl33_3 rfl) ?_
  refine lp rfl (p_lbs ty3 rfl (j := 3) rfl rfl) ?_
  refine lj_seq ?_
  obtain ⟨k26, hk26, hm⟩ := bindS hm
  have hRk26 : ∀ t, k26 = .inr t → some t = some k8 := fun t e => by rw [e] at hm; exact hm
  refine cj_joinK (σ := (Int × ByteArray × ByteArray × Int × Bool × ByteArray × Int)) (γ := Unit) (fun u24 => k26 = .inl u24) (fun u24 g25 => [(0, .pointer (some ⟨b0_, 0, none⟩)), (4, .slice none 0 0), (5, g7.2.2.v), (6, .int .i64 (w64 (u6.1 + y12.1))), (7, .map (some b1)), (8, .pointer (some ⟨b17, 0, none⟩)), (12, .int .i64 a1), (13, .int .i64 (i2 : Int))]) (fun u24 g25 => Sat w0 (keys [.box b0_ 25 [s0_0_.v, .int .i64 a0_1]]) A [.box b0_ 25 [s0_0_.v, .int .i64 u24.1], .box b17 33 [.string y14.1, .int .i64 ((lkM (putM u6.2.2.1 y14.1 (w64 (((lkM u6.2.2.1 y14.1).getD 0) + 1))) y14.1).getD 0), .int .i64 (w64 (u6.1 + y12.1)), .int .i64 y16.1, .string u24.2.1, .string u24.2.2.1, .int .i64 u24.2.2.2.1, .bool u24.2.2.2.2.1, .string u24.2.2.2.2.2.1, .int .i64 u24.2.2.2.2.2.2], .obj (mapO kv9 b1 (mpV vv3 (putM u6.2.2.1 y14.1 (w64 (((lkM u6.2.2.1 y14.1).getD 0) + 1)))) es18 cl19), .ro (RdS R3 (SV.v s0_0_) a0_0), .row R33 (SV.v g7.2.2) u6.2.2.2]) (fun u24 g25 hq => ?_) (fun J cnk26 => ?_)
  ·have hm := Sum.fin_l hq hm
   refine cj_seq ?_
   refine cj_seq ?_
   refine cj_reg ?_
   refine lp rfl (p_mv rfl) ?_
   obtain ⟨y39, hy39, hm⟩ := bindS hm
   refine r_call [0] cf30 rfl rfl (ok_gleemake_Stream_Flip b0_ s0_0_ a0_0 u24.1 100 hy39) rfl rfl (.cons (.ro 2 rfl) .nil) (fun _ => rfl) rfl (fun _ => ?_)
   refine lj_seq ?_
   obtain ⟨k42, hk42, hm⟩ := bindS hm
   have hRk42 : ∀ t, k42 = .inr t → some t = some k8 := fun t e => by rw [e] at hm; exact hm
   refine cj_joinK (σ := (Int × ByteArray × Int × Int × ByteArray × ByteArray × Int × Bool × ByteArray × Int)) (γ := Unit) (fun u40 => k42 = .inl u40) (fun u40 g41 => [(0, .pointer (some ⟨b0_, 0, none⟩)), (4, .slice none 0 0), (5, g7.2.2.v), (6, .int .i64 (w64 (u6.1 + y12.1))), (7, .map (some b1)), (8, .pointer (some ⟨b17, 0, none⟩)), (12, .int .i64 a1), (13, .int .i64 (i2 : Int))]) (fun u40 g41 => Sat w0 (keys [.box b0_ 25 [s0_0_.v, .int .i64 a0_1]]) A [.box b0_ 25 [s0_0_.v, .int .i64 u40.1], .box b17 33 [.string u40.2.1, .int .i64 u40.2.2.1, .int .i64 (w64 (u6.1 + y12.1)), .int .i64 u40.2.2.2.1, .string u40.2.2.2.2.1, .string u40.2.2.2.2.2.1, .int .i64 u40.2.2.2.2.2.2.1, .bool u40.2.2.2.2.2.2.2.1, .string u40.2.2.2.2.2.2.2.2.1, .int .i64 u40.2.2.2.2.2.2.2.2.2], .obj (mapO kv9 b1 (mpV vv3 (putM u6.2.2.1 y14.1 (w64 (((lkM u6.2.2.1 y14.1).getD 0) + 1)))) es18 cl19), .ro (RdS R3 (SV.v s0_0_) a0_0), .row R33 (SV.v g7.2.2) u6.2.2.2]) (fun u40 g41 hq => ?_) (fun J cnk42 => ?_)
   ·have hm := Sum.fin_l hq hm
    refine cj_reg ?_
    refine lp rfl (p_mv rfl) ?_
    refine lp rfl (p_lbw ty33 rfl (j := 1) rfl rfl) ?_
    refine r_bs R33 [(TAct.mk u40.2.1 u40.2.2.1 (w64 (u6.1 + y12.1)) u40.2.2.2.1 u40.2.2.2.2.1 u40.2.2.2.2.2.1 u40.2.2.2.2.2.2.1 u40.2.2.2.2.2.2.2.1 u40.2.2.2.2.2.2.2.2.1 u40.2.2.2.2.2.2.2.2.2)] rfl rfl rfl (fun _ => by kernel_rfl) rfl (fun s82 => ?_)
    obtain ⟨q83, hq83, hm⟩ := bindS hm
    refine r_app (k := 5) Tryz.underlying26 ty33 rfl rfl rfl rfl (.row 0 rfl) hq83 rfl (fun s84 => ?_)
    refine lp rfl (p_as rfl) ?_
    refine lj_nil ?_
    refine nj_blk ?_
    exact cnk8 _ _ (w64 (u6.1 + y12.1), u40.1, putM u6.2.2.1 y14.1 (w64 (((lkM u6.2.2.1 y14.1).getD 0) + 1)), q83) (es18, cl19, s84) (hJk8 _ (Option.some.inj hm).symm) ⟨rfl, rfl, rfl, rfl, rfl, rfl, rfl, trivial⟩ (fun _ h => h.picks [3, 1, 2, 2] rfl)
   ·have hm := hk42
    refine cj_if (b := y39.1) rfl (fun hb => ?_) (fun hb => ?_)
    ·have hm := ifB_t hb hm
     refine cj_seq ?_
     refine cj_reg ?_
     refine lp rfl (p_mv rfl) ?_
     obtain ⟨y43, hy43, hm⟩ := bindS hm
     refine r_call [0] cf17 rfl rfl (ok_gleemake_Stream_Next b0_ s0_0_ a0_0 y39.2 4 hy43) rfl rfl (.cons (.ro 2 rfl) .nil) (fun _ => rfl) rfl (fun _ => ?_)
     refine lj_seq ?_
     refine cj_blk ?_
     refine cj_seq ?_
     refine cj_reg ?_
     refine lp rfl (p_eql rfl rfl) ?_
     refine lp rfl (p_as rfl) ?_
     refine lj_seq ?_
     refine cj_if (b := y43.1 == 0) rfl (fun hb => ?_) (fun hb => ?_)
     ·have hm := ifB_t hb hm
      refine cj_reg ?_
      refine lp rfl (p_mv rfl) ?_
      refine r_bs R9 [ByteArray.empty, (ByteArray.mk [115, 97].toArray)] rfl rfl rfl (fun _ => by kernel_rfl) rfl (fun s44 => ?_)
      obtain ⟨y45, hy45, hm⟩ := bindS hm
      refine r_call [1] cf29 rfl rfl (ok_gleemake_Stream_Some b0_ s0_0_ a0_0 y43.2 s44 [ByteArray.empty, (ByteArray.mk [115, 97].toArray)] hy45) rfl rfl (.cons (.ro 3 rfl) (.cons (.row 0 rfl) .nil)) (fun _ => rfl) rfl (fun _ => ?_)
      refine lp rfl (p_mv rfl) ?_
      obtain ⟨y46, hy46, hm⟩ := bindS hm
      refine r_call [0] cf31 rfl rfl (ok_gleemake_Stream_Odd b0_ s0_0_ a0_0 y45.2 1 9 hy46) rfl rfl (.cons (.ro 3 rfl) .nil) (fun _ => rfl) rfl (fun _ => ?_)
      refine lp rfl (p_fab fl33_0 rfl) ?_
      refine r_sb (vs := [.string y45.1]) (j := 2) ty9 rfl rfl rfl rfl rfl rfl rfl ?_
      refine lp rfl (p_fab fl33_1 rfl) ?_
      refine r_sb (vs := [.int .i64 y46.1]) (j := 2) ty3 rfl rfl rfl rfl rfl rfl rfl ?_
      refine lj_nil ?_
      refine nj_blk ?_
      exact cnk42 _ _ (y46.2, y45.1, y46.1, y16.1, u24.2.1, u24.2.2.1, u24.2.2.2.1, u24.2.2.2.2.1, u24.2.2.2.2.2.1, u24.2.2.2.2.2.2) () (Option.some.inj hm).symm ⟨rfl, rfl, rfl, rfl, rfl, rfl, rfl, rfl, trivial⟩ (fun _ h => h.picks [0, 1, 1, 1, 1] rfl)
     ·have hm := ifB_f hb hm
      refine cj_seq ?_
      refine cj_reg ?_
      refine lp rfl (p_eql rfl rfl) ?_
      refine lp rfl (p_as rfl) ?_
      refine lj_seq ?_
      refine cj_if (b := y43.1 == 1) rfl (fun hb => ?_) (fun hb => ?_)
      ·have hm := ifB_t hb hm
       refine cj_reg ?_
       refine lp rfl (p_mv rfl) ?_
       obtain ⟨y47, hy47, hm⟩ := bindS hm
       refine r_call [0] cf31 rfl rfl (ok_gleemake_Stream_Odd b0_ s0_0_ a0_0 y43.2 1 7 hy47) rfl rfl (.cons (.ro 2 rfl) .nil) (fun _ => rfl) rfl (fun _ => ?_)
       refine lp rfl (p_fab fl33_3 rfl) ?_
       refine r_sb (vs := [.int .i64 y47.1]) (j := 1) ty3 rfl rfl rfl rfl rfl rfl rfl ?_
       refine lj_nil ?_
       refine nj_blk ?_
       exact cnk42 _ _ (y47.2, y14.1, ((lkM (putM u6.2.2.1 y14.1 (w64 (((lkM u6.2.2.1 y14.1).getD 0) + 1))) y14.1).getD 0), y47.1, u24.2.1, u24.2.2.1, u24.2.2.2.1, u24.2.2.2.2.1, u24.2.2.2.2.2.1, u24.2.2.2.2.2.2) () (Option.some.inj hm).symm ⟨rfl, rfl, rfl, rfl, rfl, rfl, rfl, rfl, trivial⟩ (fun _ h => h.picks [0, 0, 0, 0, 0] rfl)
      ·have hm := ifB_f hb hm
       refine cj_seq ?_
       refine cj_reg ?_
       refine lp rfl (p_eql rfl rfl) ?_
       refine lp rfl (p_as rfl) ?_
       refine lj_seq ?_
       refine cj_if (b := y43.1 == 2) rfl (fun hb => ?_) (fun hb => ?_)
       ·have hm := ifB_t hb hm
        obtain ⟨y49, hy49, hm⟩ := bindS hm
        obtain ⟨y51, hy51, hm⟩ := bindS hm
        obtain ⟨y53, hy53, hm⟩ := bindS hm
        refine cj_anyT [0, 1, 2, 5, 6, 7, 10, 11, 12, 15, 17, 19] [16, 17, 18, 19, 20] (Sat w0 (keys [.box b0_ 25 [s0_0_.v, .int .i64 a0_1]]) A [.box b17 33 [.string y14.1, .int .i64 ((lkM (putM u6.2.2.1 y14.1 (w64 (((lkM u6.2.2.1 y14.1).getD 0) + 1))) y14.1).getD 0), .int .i64 (w64 (u6.1 + y12.1)), .int .i64 y16.1, .string u24.2.1, .string u24.2.2.1, .int .i64 u24.2.2.2.1, .bool u24.2.2.2.2.1, .string u24.2.2.2.2.2.1, .int .i64 u24.2.2.2.2.2.2], .obj (mapO kv9 b1 (mpV vv3 (putM u6.2.2.1 y14.1 (w64 (((lkM u6.2.2.1 y14.1).getD 0) + 1)))) es18 cl19), .ro (RdS R3 (SV.v s0_0_) a0_0), .row R33 (SV.v g7.2.2) u6.2.2.2]) (Sat w0 (keys [.box b0_ 25 [s0_0_.v, .int .i64 a0_1]]) A [.obj (mapO kv9 b1 (mpV vv3 (putM u6.2.2.1 y14.1 (w64 (((lkM u6.2.2.1 y14.1).getD 0) + 1)))) es18 cl19), .ro (RdS R3 (SV.v s0_0_) a0_0), .row R33 (SV.v g7.2.2) u6.2.2.2]) (by kernel_rfl) ?_
        refine at_take2 0 rfl (by kernel_rfl) (by kernel_rfl) (by kernel_rfl) (fun _ h => h.picks [1, 1, 1] rfl) rfl rfl (p_mv rfl) (fun _ h => h.picks [2, 2, 2] rfl) ?_
        refine at_take2 1 rfl (by kernel_rfl) (by kernel_rfl) (by kernel_rfl) (fun _ h => h.picks [1, 1, 1] rfl) rfl rfl (p_fab fl33_4 rfl) (fun _ h => h.picks [2, 2, 2] rfl) ?_
        refine at_take1 2 rfl (by kernel_rfl) (by kernel_rfl) (by kernel_rfl) (by kernel_rfl) rfl rfl (p_lbs ty9 rfl (j := 0) rfl rfl) (fun _ h => h.picks [1, 1, 1, 1] rfl) ?_
        refine at_take2 5 rfl (by kernel_rfl) (by kernel_rfl) (by kernel_rfl) (fun _ h => h.picks [1, 1, 1] rfl) rfl rfl (p_mv rfl) (fun _ h => h.picks [2, 2, 2] rfl) ?_
        refine at_take2 6 rfl (by kernel_rfl) (by kernel_rfl) (by kernel_rfl) (fun _ h => h.picks [1, 1, 1] rfl) rfl rfl (p_fab fl33_5 rfl) (fun _ h => h.picks [2, 2, 2] rfl) ?_
        refine at_take1 7 rfl (by kernel_rfl) (by kernel_rfl) (by kernel_rfl) (by kernel_rfl) rfl rfl (p_lbs ty9 rfl (j := 0) rfl rfl) (fun _ h => h.picks [1, 1, 1, 1] rfl) ?_
        refine at_take2 10 rfl (by kernel_rfl) (by kernel_rfl) (by kernel_rfl) (fun _ h => h.picks [1, 1, 1] rfl) rfl rfl (p_mv rfl) (fun _ h => h.picks [2, 2, 2] rfl) ?_
        refine at_take2 11 rfl (by kernel_rfl) (by kernel_rfl) (by kernel_rfl) (fun _ h => h.picks [1, 1, 1] rfl) rfl rfl (p_fab fl33_8 rfl) (fun _ h => h.picks [2, 2, 2] rfl) ?_
        refine at_take1 12 rfl (by kernel_rfl) (by kernel_rfl) (by kernel_rfl) (by kernel_rfl) rfl rfl (p_lbs ty9 rfl (j := 0) rfl rfl) (fun _ h => h.picks [1, 1, 1, 1] rfl) ?_
        refine at_each (rs := [3, 8, 13]) (by kernel_rfl) (by decide) ?_
        refine (.cons rfl (fun I cnI => ?_) (.cons rfl (fun I cnI => ?_) (.cons rfl (fun I cnI => ?_) .nil)))
        ·refine r_bs R9 [ByteArray.empty, u24.2.1] rfl rfl rfl (fun _ => by kernel_rfl) rfl (fun s54 => ?_)
         refine lj_nil ?_
         refine cnI _ _ (sof1 rfl rfl (fun _ h => h.picks [2, 2, 2, 2] rfl)) ?_
         refine at_each (rs := [4, 8, 13]) (by kernel_rfl) (by decide) ?_
         refine (.cons rfl (fun I cnI => ?_) (.cons rfl (fun I cnI => ?_) (.cons rfl (fun I cnI => ?_) .nil)))
         ·refine r_call [1] cf29 rfl rfl (ok_gleemake_Stream_Some b0_ s0_0_ a0_0 y43.2 s54 [ByteArray.empty, u24.2.1] hy49) rfl rfl (.cons (.ro 3 rfl) (.cons (.row 0 rfl) .nil)) (fun _ => rfl) rfl (fun _ => ?_)
          refine lj_nil ?_
          refine cnI _ _ (sof1 rfl rfl (fun _ h => h.picks [2, 2, 2, 2] rfl)) ?_
          refine at_take2 15 rfl (by kernel_rfl) (by kernel_rfl) (by kernel_rfl) (fun _ h => h.picks [1, 1, 1] rfl) rfl rfl (p_fab fl33_4 rfl) (fun _ h => h.picks [3, 3, 3] rfl) ?_
          refine at_each (rs := [8, 13]) (by kernel_rfl) (by decide) ?_
          refine (.cons rfl (fun I cnI => ?_) (.cons rfl (fun I cnI => ?_) .nil))
          ·refine r_bs R9 [(ByteArray.mk [65].toArray), u24.2.2.1] rfl rfl rfl (fun _ => by kernel_rfl) rfl (fun s55 => ?_)
           refine lj_nil ?_
           refine cnI _ _ (sof1 rfl rfl (fun _ h => h.picks [3, 3, 3, 3] rfl)) ?_
           refine at_each (rs := [9, 13]) (by kernel_rfl) (by decide) ?_
           refine (.cons rfl (fun I cnI => ?_) (.cons rfl (fun I cnI => ?_) .nil))
           ·refine r_call [1] cf29 rfl rfl (ok_gleemake_Stream_Some b0_ s0_0_ a0_0 y49.2 s55 [(ByteArray.mk [65].toArray), u24.2.2.1] hy51) rfl rfl (.cons (.ro 4 rfl) (.cons (.row 0 rfl) .nil)) (fun _ => rfl) rfl (fun _ => ?_)
            refine lj_nil ?_
            refine cnI _ _ (sof1 rfl rfl (fun _ h => h.picks [3, 3, 3, 3] rfl)) ?_
            refine at_each (rs := [13]) (by kernel_rfl) (by decide) ?_
            refine (.cons rfl (fun I cnI => ?_) .nil)
            ·refine r_bs R9 [ByteArray.empty, u24.2.2.2.2.2.1] rfl rfl rfl (fun _ => by kernel_rfl) rfl (fun s56 => ?_)
             refine lj_nil ?_
             refine cnI _ _ (sof1 rfl rfl (fun _ h => h.picks [4, 4, 4, 4] rfl)) ?_
             refine at_each (rs := [14]) (by kernel_rfl) (by decide) ?_
             refine (.cons rfl (fun I cnI => ?_) .nil)
             ·refine r_call [1] cf29 rfl rfl (ok_gleemake_Stream_Some b0_ s0_0_ a0_0 y51.2 s56 [ByteArray.empty, u24.2.2.2.2.2.1] hy53) rfl rfl (.cons (.ro 5 rfl) (.cons (.row 0 rfl) .nil)) (fun _ => rfl) rfl (fun _ => ?_)
              refine lj_nil ?_
              refine cnI _ _ (sof1 rfl rfl (fun _ h => h.picks [4, 4, 4, 4] rfl)) ?_
              refine at_each (rs := [16]) (by kernel_rfl) (by decide) ?_
              refine (.cons rfl (fun I cnI => ?_) .nil)
              ·refine r_sb (vs := [.string y49.1]) (j := 4) ty9 rfl rfl rfl rfl rfl rfl rfl ?_
               refine lj_nil ?_
               refine cnI _ _ (sof2 rfl rfl (fun _ h => h.picks [5, 5, 5] rfl)) ?_
               refine at_take2 17 rfl (by kernel_rfl) (by kernel_rfl) (by kernel_rfl) (fun _ h => h.picks [1, 1, 1] rfl) rfl rfl (p_fab fl33_5 rfl) (fun _ h => h.picks [5, 5, 5] rfl) ?_
               refine at_each (rs := [18]) (by kernel_rfl) (by decide) ?_
               refine (.cons rfl (fun I cnI => ?_) .nil)
               ·refine r_sb (vs := [.string y51.1]) (j := 4) ty9 rfl rfl rfl rfl rfl rfl rfl ?_
                refine lj_nil ?_
                refine cnI _ _ (sof2 rfl rfl (fun _ h => h.picks [5, 5, 5] rfl)) ?_
                refine at_take2 19 rfl (by kernel_rfl) (by kernel_rfl) (by kernel_rfl) (fun _ h => h.picks [1, 1, 1] rfl) rfl rfl (p_fab fl33_8 rfl) (fun _ h => h.picks [5, 5, 5] rfl) ?_
                refine at_each (rs := [20]) (by kernel_rfl) (by decide) ?_
                refine (.cons rfl (fun I cnI => ?_) .nil)
                ·refine r_sb (vs := [.string y53.1]) (j := 4) ty9 rfl rfl rfl rfl rfl rfl rfl ?_
                 refine lj_nil ?_
                 refine cnI _ _ (sof2 rfl rfl (fun _ h => h.picks [5, 5, 5] rfl)) ?_
                 refine at_done (by kernel_rfl) ?_
                 refine nj_blk ?_
                 exact cnk42 _ _ (y53.2, y14.1, ((lkM (putM u6.2.2.1 y14.1 (w64 (((lkM u6.2.2.1 y14.1).getD 0) + 1))) y14.1).getD 0), y16.1, y49.1, y51.1, u24.2.2.2.1, u24.2.2.2.2.1, y53.1, u24.2.2.2.2.2.2) () (Option.some.inj hm).symm ⟨rfl, rfl, rfl, rfl, rfl, rfl, rfl, rfl, trivial⟩ (fun _ h => h.picks [0, 3, 3, 3, 3] rfl)
           ·refine r_bs R9 [ByteArray.empty, u24.2.2.2.2.2.1] rfl rfl rfl (fun _ => by kernel_rfl) rfl (fun s57 => ?_)
            refine lj_nil ?_
            refine cnI _ _ (sof1 rfl rfl (fun _ h => h.picks [4, 4, 4, 4] rfl)) ?_
            refine at_each (rs := [9]) (by kernel_rfl) (by decide) ?_
            refine (.cons rfl (fun I cnI => ?_) .nil)
            ·refine r_call [2] cf29 rfl rfl (ok_gleemake_Stream_Some b0_ s0_0_ a0_0 y49.2 s55 [(ByteArray.mk [65].toArray), u24.2.2.1] hy51) rfl rfl (.cons (.ro 5 rfl) (.cons (.row 1 rfl) .nil)) (fun _ => rfl) rfl (fun _ => ?_)
             refine lj_nil ?_
             refine cnI _ _ (sof1 rfl rfl (fun _ h => h.picks [4, 4, 4, 4] rfl)) ?_
             refine at_each (rs := [14]) (by kernel_rfl) (by decide) ?_
             refine (.cons rfl (fun I cnI => ?_) .nil)
             ·refine r_call [0] cf29 rfl rfl (ok_gleemake_Stream_Some b0_ s0_0_ a0_0 y51.2 s57 [ByteArray.empty, u24.2.2.2.2.2.1] hy53) rfl rfl (.cons (.ro 5 rfl) (.cons (.row 0 rfl) .nil)) (fun _ => rfl) rfl (fun _ => ?_)
              refine lj_nil ?_
              refine cnI _ _ (sof1 rfl rfl (fun _ h => h.picks [4, 4, 4, 4] rfl)) ?_
              refine at_each (rs := [16]) (by kernel_rfl) (by decide) ?_
              refine (.cons rfl (fun I cnI => ?_) .nil)
              ·refine r_sb (vs := [.string y49.1]) (j := 4) ty9 rfl rfl rfl rfl rfl rfl rfl ?_
               refine lj_nil ?_
               refine cnI _ _ (sof2 rfl rfl (fun _ h => h.picks [5, 5, 5] rfl)) ?_
               refine at_take2 17 rfl (by kernel_rfl) (by kernel_rfl) (by kernel_rfl) (fun _ h => h.picks [1, 1, 1] rfl) rfl rfl (p_fab fl33_5 rfl) (fun _ h => h.picks [5, 5, 5] rfl) ?_
               refine at_each (rs := [18]) (by kernel_rfl) (by decide) ?_
               refine (.cons rfl (fun I cnI => ?_) .nil)
               ·refine r_sb (vs := [.string y51.1]) (j := 4) ty9 rfl rfl rfl rfl rfl rfl rfl ?_
                refine lj_nil ?_
                refine cnI _ _ (sof2 rfl rfl (fun _ h => h.picks [5, 5, 5] rfl)) ?_
                refine at_take2 19 rfl (by kernel_rfl) (by kernel_rfl) (by kernel_rfl) (fun _ h => h.picks [1, 1, 1] rfl) rfl rfl (p_fab fl33_8 rfl) (fun _ h => h.picks [5, 5, 5] rfl) ?_
                refine at_each (rs := [20]) (by kernel_rfl) (by decide) ?_
                refine (.cons rfl (fun I cnI => ?_) .nil)
                ·refine r_sb (vs := [.string y53.1]) (j := 4) ty9 rfl rfl rfl rfl rfl rfl rfl ?_
                 refine lj_nil ?_
                 refine cnI _ _ (sof2 rfl rfl (fun _ h => h.picks [5, 5, 5] rfl)) ?_
                 refine at_done (by kernel_rfl) ?_
                 refine nj_blk ?_
                 exact cnk42 _ _ (y53.2, y14.1, ((lkM (putM u6.2.2.1 y14.1 (w64 (((lkM u6.2.2.1 y14.1).getD 0) + 1))) y14.1).getD 0), y16.1, y49.1, y51.1, u24.2.2.2.1, u24.2.2.2.2.1, y53.1, u24.2.2.2.2.2.2) () (Option.some.inj hm).symm ⟨rfl, rfl, rfl, rfl, rfl, rfl, rfl, rfl, trivial⟩ (fun _ h => h.picks [0, 3, 3, 3, 3] rfl)
          ·refine r_bs R9 [ByteArray.empty, u24.2.2.2.2.2.1] rfl rfl rfl (fun _ => by kernel_rfl) rfl (fun s58 => ?_)
           refine lj_nil ?_
           refine cnI _ _ (sof1 rfl rfl (fun _ h => h.picks [3, 3, 3, 3] rfl)) ?_
           refine at_each (rs := [8]) (by kernel_rfl) (by decide) ?_
           refine (.cons rfl (fun I cnI => ?_) .nil)
           ·refine r_bs R9 [(ByteArray.mk [65].toArray), u24.2.2.1] rfl rfl rfl (fun _ => by kernel_rfl) rfl (fun s59 => ?_)
            refine lj_nil ?_
            refine cnI _ _ (sof1 rfl rfl (fun _ h => h.picks [4, 4, 4, 4] rfl)) ?_
            refine at_each (rs := [9]) (by kernel_rfl) (by decide) ?_
            refine (.cons rfl (fun I cnI => ?_) .nil)
            ·refine r_call [2] cf29 rfl rfl (ok_gleemake_Stream_Some b0_ s0_0_ a0_0 y49.2 s59 [(ByteArray.mk [65].toArray), u24.2.2.1] hy51) rfl rfl (.cons (.ro 5 rfl) (.cons (.row 0 rfl) .nil)) (fun _ => rfl) rfl (fun _ => ?_)
             refine lj_nil ?_
             refine cnI _ _ (sof1 rfl rfl (fun _ h => h.picks [4, 4, 4, 4] rfl)) ?_
             refine at_each (rs := [14]) (by kernel_rfl) (by decide) ?_
             refine (.cons rfl (fun I cnI => ?_) .nil)
             ·refine r_call [0] cf29 rfl rfl (ok_gleemake_Stream_Some b0_ s0_0_ a0_0 y51.2 s58 [ByteArray.empty, u24.2.2.2.2.2.1] hy53) rfl rfl (.cons (.ro 5 rfl) (.cons (.row 1 rfl) .nil)) (fun _ => rfl) rfl (fun _ => ?_)
              refine lj_nil ?_
              refine cnI _ _ (sof1 rfl rfl (fun _ h => h.picks [4, 4, 4, 4] rfl)) ?_
              refine at_each (rs := [16]) (by kernel_rfl) (by decide) ?_
              refine (.cons rfl (fun I cnI => ?_) .nil)
              ·refine r_sb (vs := [.string y49.1]) (j := 4) ty9 rfl rfl rfl rfl rfl rfl rfl ?_
               refine lj_nil ?_
               refine cnI _ _ (sof2 rfl rfl (fun _ h => h.picks [5, 5, 5] rfl)) ?_
               refine at_take2 17 rfl (by kernel_rfl) (by kernel_rfl) (by kernel_rfl) (fun _ h => h.picks [1, 1, 1] rfl) rfl rfl (p_fab fl33_5 rfl) (fun _ h => h.picks [5, 5, 5] rfl) ?_
               refine at_each (rs := [18]) (by kernel_rfl) (by decide) ?_
               refine (.cons rfl (fun I cnI => ?_) .nil)
               ·refine r_sb (vs := [.string y51.1]) (j := 4) ty9 rfl rfl rfl rfl rfl rfl rfl ?_
                refine lj_nil ?_
                refine cnI _ _ (sof2 rfl rfl (fun _ h => h.picks [5, 5, 5] rfl)) ?_
                refine at_take2 19 rfl (by kernel_rfl) (by kernel_rfl) (by kernel_rfl) (fun _ h => h.picks [1, 1, 1] rfl) rfl rfl (p_fab fl33_8 rfl) (fun _ h => h.picks [5, 5, 5] rfl) ?_
                refine at_each (rs := [20]) (by kernel_rfl) (by decide) ?_
                refine (.cons rfl (fun I cnI => ?_) .nil)
                ·refine r_sb (vs := [.string y53.1]) (j := 4) ty9 rfl rfl rfl rfl rfl rfl rfl ?_
                 refine lj_nil ?_
                 refine cnI _ _ (sof2 rfl rfl (fun _ h => h.picks [5, 5, 5] rfl)) ?_
                 refine at_done (by kernel_rfl) ?_
                 refine nj_blk ?_
                 exact cnk42 _ _ (y53.2, y14.1, ((lkM (putM u6.2.2.1 y14.1 (w64 (((lkM u6.2.2.1 y14.1).getD 0) + 1))) y14.1).getD 0), y16.1, y49.1, y51.1, u24.2.2.2.1, u24.2.2.2.2.1, y53.1, u24.2.2.2.2.2.2) () (Option.some.inj hm).symm ⟨rfl, rfl, rfl, rfl, rfl, rfl, rfl, rfl, trivial⟩ (fun _ h => h.picks [0, 3, 3, 3, 3] rfl)
         ·refine r_bs R9 [(ByteArray.mk [65].toArray), u24.2.2.1] rfl rfl rfl (fun _ => by kernel_rfl) rfl (fun s60 => ?_)
          refine lj_nil ?_
          refine cnI _ _ (sof1 rfl rfl (fun _ h => h.picks [3, 3, 3, 3] rfl)) ?_
          refine at_each (rs := [4, 13]) (by kernel_rfl) (by decide) ?_
          refine (.cons rfl (fun I cnI => ?_) (.cons rfl (fun I cnI => ?_) .nil))
          ·refine r_call [2] cf29 rfl rfl (ok_gleemake_Stream_Some b0_ s0_0_ a0_0 y43.2 s54 [ByteArray.empty, u24.2.1] hy49) rfl rfl (.cons (.ro 4 rfl) (.cons (.row 1 rfl) .nil)) (fun _ => rfl) rfl (fun _ => ?_)
           refine lj_nil ?_
           refine cnI _ _ (sof1 rfl rfl (fun _ h => h.picks [3, 3, 3, 3] rfl)) ?_
           refine at_take2 15 rfl (by kernel_rfl) (by kernel_rfl) (by kernel_rfl) (fun _ h => h.picks [1, 1, 1] rfl) rfl rfl (p_fab fl33_4 rfl) (fun _ h => h.picks [4, 4, 4] rfl) ?_
           refine at_each (rs := [9, 13]) (by kernel_rfl) (by decide) ?_
           refine (.cons rfl (fun I cnI => ?_) (.cons rfl (fun I cnI => ?_) .nil))
           ·refine r_call [0] cf29 rfl rfl (ok_gleemake_Stream_Some b0_ s0_0_ a0_0 y49.2 s60 [(ByteArray.mk [65].toArray), u24.2.2.1] hy51) rfl rfl (.cons (.ro 4 rfl) (.cons (.row 0 rfl) .nil)) (fun _ => rfl) rfl (fun _ => ?_)
            refine lj_nil ?_
            refine cnI _ _ (sof1 rfl rfl (fun _ h => h.picks [3, 3, 3, 3] rfl)) ?_
            refine at_each (rs := [13]) (by kernel_rfl) (by decide) ?_
            refine (.cons rfl (fun I cnI => ?_) .nil)
            ·refine r_bs R9 [ByteArray.empty, u24.2.2.2.2.2.1] rfl rfl rfl (fun _ => by kernel_rfl) rfl (fun s61 => ?_)
             refine lj_nil ?_
             refine cnI _ _ (sof1 rfl rfl (fun _ h => h.picks [4, 4, 4, 4] rfl)) ?_
             refine at_each (rs := [14]) (by kernel_rfl) (by decide) ?_
             refine (.cons rfl (fun I cnI => ?_) .nil)
             ·refine r_call [1] cf29 rfl rfl (ok_gleemake_Stream_Some b0_ s0_0_ a0_0 y51.2 s61 [ByteArray.empty, u24.2.2.2.2.2.1] hy53) rfl rfl (.cons (.ro 5 rfl) (.cons (.row 0 rfl) .nil)) (fun _ => rfl) rfl (fun _ => ?_)
              refine lj_nil ?_
              refine cnI _ _ (sof1 rfl rfl (fun _ h => h.picks [4, 4, 4, 4] rfl)) ?_
              refine at_each (rs := [16]) (by kernel_rfl) (by decide) ?_
              refine (.cons rfl (fun I cnI => ?_) .nil)
              ·refine r_sb (vs := [.string y49.1]) (j := 4) ty9 rfl rfl rfl rfl rfl rfl rfl ?_
               refine lj_nil ?_
               refine cnI _ _ (sof2 rfl rfl (fun _ h => h.picks [5, 5, 5] rfl)) ?_
               refine at_take2 17 rfl (by kernel_rfl) (by kernel_rfl) (by kernel_rfl) (fun _ h => h.picks [1, 1, 1] rfl) rfl rfl (p_fab fl33_5 rfl) (fun _ h => h.picks [5, 5, 5] rfl) ?_
               refine at_each (rs := [18]) (by kernel_rfl) (by decide) ?_
               refine (.cons rfl (fun I cnI => ?_) .nil)
               ·refine r_sb (vs := [.string y51.1]) (j := 4) ty9 rfl rfl rfl rfl rfl rfl rfl ?_
                refine lj_nil ?_
                refine cnI _ _ (sof2 rfl rfl (fun _ h => h.picks [5, 5, 5] rfl)) ?_
                refine at_take2 19 rfl (by kernel_rfl) (by kernel_rfl) (by kernel_rfl) (fun _ h => h.picks [1, 1, 1] rfl) rfl rfl (p_fab fl33_8 rfl) (fun _ h => h.picks [5, 5, 5] rfl) ?_
                refine at_each (rs := [20]) (by kernel_rfl) (by decide) ?_
                refine (.cons rfl (fun I cnI => ?_) .nil)
                ·refine r_sb (vs := [.string y53.1]) (j := 4) ty9 rfl rfl rfl rfl rfl rfl rfl ?_
                 refine lj_nil ?_
                 refine cnI _ _ (sof2 rfl rfl (fun _ h => h.picks [5, 5, 5] rfl)) ?_
                 refine at_done (by kernel_rfl) ?_
                 refine nj_blk ?_
                 exact cnk42 _ _ (y53.2, y14.1, ((lkM (putM u6.2.2.1 y14.1 (w64 (((lkM u6.2.2.1 y14.1).getD 0) + 1))) y14.1).getD 0), y16.1, y49.1, y51.1, u24.2.2.2.1, u24.2.2.2.2.1, y53.1, u24.2.2.2.2.2.2) () (Option.some.inj hm).symm ⟨rfl, rfl, rfl, rfl, rfl, rfl, rfl, rfl, trivial⟩ (fun _ h => h.picks [0, 3, 3, 3, 3] rfl)
           ·refine r_bs R9 [ByteArray.empty, u24.2.2.2.2.2.1] rfl rfl rfl (fun _ => by kernel_rfl) rfl (fun s62 => ?_)
            refine lj_nil ?_
            refine cnI _ _ (sof1 rfl rfl (fun _ h => h.picks [4, 4, 4, 4] rfl)) ?_
            refine at_each (rs := [9]) (by kernel_rfl) (by decide) ?_
            refine (.cons rfl (fun I cnI => ?_) .nil)
            ·refine r_call [1] cf29 rfl rfl (ok_gleemake_Stream_Some b0_ s0_0_ a0_0 y49.2 s60 [(ByteArray.mk [65].toArray), u24.2.2.1] hy51) rfl rfl (.cons (.ro 5 rfl) (.cons (.row 1 rfl) .nil)) (fun _ => rfl) rfl (fun _ => ?_)
             refine lj_nil ?_
             refine cnI _ _ (sof1 rfl rfl (fun _ h => h.picks [4, 4, 4, 4] rfl)) ?_
             refine at_each (rs := [14]) (by kernel_rfl) (by decide) ?_
             refine (.cons rfl (fun I cnI => ?_) .nil)
             ·refine r_call [0] cf29 rfl rfl (ok_gleemake_Stream_Some b0_ s0_0_ a0_0 y51.2 s62 [ByteArray.empty, u24.2.2.2.2.2.1] hy53) rfl rfl (.cons (.ro 5 rfl) (.cons (.row 0 rfl) .nil)) (fun _ => rfl) rfl (fun _ => ?_)
              refine lj_nil ?_
              refine cnI _ _ (sof1 rfl rfl (fun _ h => h.picks [4, 4, 4, 4] rfl)) ?_
              refine at_each (rs := [16]) (by kernel_rfl) (by decide) ?_
              refine (.cons rfl (fun I cnI => ?_) .nil)
              ·refine r_sb (vs := [.string y49.1]) (j := 4) ty9 rfl rfl rfl rfl rfl rfl rfl ?_
               refine lj_nil ?_
               refine cnI _ _ (sof2 rfl rfl (fun _ h => h.picks [5, 5, 5] rfl)) ?_
               refine at_take2 17 rfl (by kernel_rfl) (by kernel_rfl) (by kernel_rfl) (fun _ h => h.picks [1, 1, 1] rfl) rfl rfl (p_fab fl33_5 rfl) (fun _ h => h.picks [5, 5, 5] rfl) ?_
               refine at_each (rs := [18]) (by kernel_rfl) (by decide) ?_
               refine (.cons rfl (fun I cnI => ?_) .nil)
               ·refine r_sb (vs := [.string y51.1]) (j := 4) ty9 rfl rfl rfl rfl rfl rfl rfl ?_
                refine lj_nil ?_
                refine cnI _ _ (sof2 rfl rfl (fun _ h => h.picks [5, 5, 5] rfl)) ?_
                refine at_take2 19 rfl (by kernel_rfl) (by kernel_rfl) (by kernel_rfl) (fun _ h => h.picks [1, 1, 1] rfl) rfl rfl (p_fab fl33_8 rfl) (fun _ h => h.picks [5, 5, 5] rfl) ?_
                refine at_each (rs := [20]) (by kernel_rfl) (by decide) ?_
                refine (.cons rfl (fun I cnI => ?_) .nil)
                ·refine r_sb (vs := [.string y53.1]) (j := 4) ty9 rfl rfl rfl rfl rfl rfl rfl ?_
                 refine lj_nil ?_
                 refine cnI _ _ (sof2 rfl rfl (fun _ h => h.picks [5, 5, 5] rfl)) ?_
                 refine at_done (by kernel_rfl) ?_
                 refine nj_blk ?_
                 exact cnk42 _ _ (y53.2, y14.1, ((lkM (putM u6.2.2.1 y14.1 (w64 (((lkM u6.2.2.1 y14.1).getD 0) + 1))) y14.1).getD 0), y16.1, y49.1, y51.1, u24.2.2.2.1, u24.2.2.2.2.1, y53.1, u24.2.2.2.2.2.2) () (Option.some.inj hm).symm ⟨rfl, rfl, rfl, rfl, rfl, rfl, rfl, rfl, trivial⟩ (fun _ h => h.picks [0, 3, 3, 3, 3] rfl)
          ·refine r_bs R9 [ByteArray.empty, u24.2.2.2.2.2.1] rfl rfl rfl (fun _ => by kernel_rfl) rfl (fun s63 => ?_)
           refine lj_nil ?_
           refine cnI _ _ (sof1 rfl rfl (fun _ h => h.picks [4, 4, 4, 4] rfl)) ?_
           refine at_each (rs := [4]) (by kernel_rfl) (by decide) ?_
           refine (.cons rfl (fun I cnI => ?_) .nil)
           ·refine r_call [3] cf29 rfl rfl (ok_gleemake_Stream_Some b0_ s0_0_ a0_0 y43.2 s54 [ByteArray.empty, u24.2.1] hy49) rfl rfl (.cons (.ro 5 rfl) (.cons (.row 2 rfl) .nil)) (fun _ => rfl) rfl (fun _ => ?_)
            refine lj_nil ?_
            refine cnI _ _ (sof1 rfl rfl (fun _ h => h.picks [4, 4, 4, 4] rfl)) ?_
            refine at_take2 15 rfl (by kernel_rfl) (by kernel_rfl) (by kernel_rfl) (fun _ h => h.picks [1, 1, 1] rfl) rfl rfl (p_fab fl33_4 rfl) (fun _ h => h.picks [5, 5, 5] rfl) ?_
            refine at_each (rs := [9]) (by kernel_rfl) (by decide) ?_
            refine (.cons rfl (fun I cnI => ?_) .nil)
            ·refine r_call [0] cf29 rfl rfl (ok_gleemake_Stream_Some b0_ s0_0_ a0_0 y49.2 s60 [(ByteArray.mk [65].toArray), u24.2.2.1] hy51) rfl rfl (.cons (.ro 5 rfl) (.cons (.row 1 rfl) .nil)) (fun _ => rfl) rfl (fun _ => ?_)
             refine lj_nil ?_
             refine cnI _ _ (sof1 rfl rfl (fun _ h => h.picks [4, 4, 4, 4] rfl)) ?_
             refine at_each (rs := [14]) (by kernel_rfl) (by decide) ?_
             refine (.cons rfl (fun I cnI => ?_) .nil)
             ·refine r_call [0] cf29 rfl rfl (ok_gleemake_Stream_Some b0_ s0_0_ a0_0 y51.2 s63 [ByteArray.empty, u24.2.2.2.2.2.1] hy53) rfl rfl (.cons (.ro 5 rfl) (.cons (.row 0 rfl) .nil)) (fun _ => rfl) rfl (fun _ => ?_)
              refine lj_nil ?_
              refine cnI _ _ (sof1 rfl rfl (fun _ h => h.picks [4, 4, 4, 4] rfl)) ?_
              refine at_each (rs := [16]) (by kernel_rfl) (by decide) ?_
              refine (.cons rfl (fun I cnI => ?_) .nil)
              ·refine r_sb (vs := [.string y49.1]) (j := 4) ty9 rfl rfl rfl rfl rfl rfl rfl ?_
               refine lj_nil ?_
               refine cnI _ _ (sof2 rfl rfl (fun _ h => h.picks [5, 5, 5] rfl)) ?_
               refine at_take2 17 rfl (by kernel_rfl) (by kernel_rfl) (by kernel_rfl) (fun _ h => h.picks [1, 1, 1] rfl) rfl rfl (p_fab fl33_5 rfl) (fun _ h => h.picks [5, 5, 5] rfl) ?_
               refine at_each (rs := [18]) (by kernel_rfl) (by decide) ?_
               refine (.cons rfl (fun I cnI => ?_) .nil)
               ·refine r_sb (vs := [.string y51.1]) (j := 4) ty9 rfl rfl rfl rfl rfl rfl rfl ?_
                refine lj_nil ?_
                refine cnI _ _ (sof2 rfl rfl (fun _ h => h.picks [5, 5, 5] rfl)) ?_
                refine at_take2 19 rfl (by kernel_rfl) (by kernel_rfl) (by kernel_rfl) (fun _ h => h.picks [1, 1, 1] rfl) rfl rfl (p_fab fl33_8 rfl) (fun _ h => h.picks [5, 5, 5] rfl) ?_
                refine at_each (rs := [20]) (by kernel_rfl) (by decide) ?_
                refine (.cons rfl (fun I cnI => ?_) .nil)
                ·refine r_sb (vs := [.string y53.1]) (j := 4) ty9 rfl rfl rfl rfl rfl rfl rfl ?_
                 refine lj_nil ?_
                 refine cnI _ _ (sof2 rfl rfl (fun _ h => h.picks [5, 5, 5] rfl)) ?_
                 refine at_done (by kernel_rfl) ?_
                 refine nj_blk ?_
                 exact cnk42 _ _ (y53.2, y14.1, ((lkM (putM u6.2.2.1 y14.1 (w64 (((lkM u6.2.2.1 y14.1).getD 0) + 1))) y14.1).getD 0), y16.1, y49.1, y51.1, u24.2.2.2.1, u24.2.2.2.2.1, y53.1, u24.2.2.2.2.2.2) () (Option.some.inj hm).symm ⟨rfl, rfl, rfl, rfl, rfl, rfl, rfl, rfl, trivial⟩ (fun _ h => h.picks [0, 3, 3, 3, 3] rfl)
         ·refine r_bs R9 [ByteArray.empty, u24.2.2.2.2.2.1] rfl rfl rfl (fun _ => by kernel_rfl) rfl (fun s64 => ?_)
          refine lj_nil ?_
          refine cnI _ _ (sof1 rfl rfl (fun _ h => h.picks [3, 3, 3, 3] rfl)) ?_
          refine at_each (rs := [4, 8]) (by kernel_rfl) (by decide) ?_
          refine (.cons rfl (fun I cnI => ?_) (.cons rfl (fun I cnI => ?_) .nil))
          ·refine r_call [2] cf29 rfl rfl (ok_gleemake_Stream_Some b0_ s0_0_ a0_0 y43.2 s54 [ByteArray.empty, u24.2.1] hy49) rfl rfl (.cons (.ro 4 rfl) (.cons (.row 1 rfl) .nil)) (fun _ => rfl) rfl (fun _ => ?_)
           refine lj_nil ?_
           refine cnI _ _ (sof1 rfl rfl (fun _ h => h.picks [3, 3, 3, 3] rfl)) ?_
           refine at_take2 15 rfl (by kernel_rfl) (by kernel_rfl) (by kernel_rfl) (fun _ h => h.picks [1, 1, 1] rfl) rfl rfl (p_fab fl33_4 rfl) (fun _ h => h.picks [4, 4, 4] rfl) ?_
           refine at_each (rs := [8]) (by kernel_rfl) (by decide) ?_
           refine (.cons rfl (fun I cnI => ?_) .nil)
           ·refine r_bs R9 [(ByteArray.mk [65].toArray), u24.2.2.1] rfl rfl rfl (fun _ => by kernel_rfl) rfl (fun s65 => ?_)
            refine lj_nil ?_
            refine cnI _ _ (sof1 rfl rfl (fun _ h => h.picks [4, 4, 4, 4] rfl)) ?_
            refine at_each (rs := [9]) (by kernel_rfl) (by decide) ?_
            refine (.cons rfl (fun I cnI => ?_) .nil)
            ·refine r_call [1] cf29 rfl rfl (ok_gleemake_Stream_Some b0_ s0_0_ a0_0 y49.2 s65 [(ByteArray.mk [65].toArray), u24.2.2.1] hy51) rfl rfl (.cons (.ro 5 rfl) (.cons (.row 0 rfl) .nil)) (fun _ => rfl) rfl (fun _ => ?_)
             refine lj_nil ?_
             refine cnI _ _ (sof1 rfl rfl (fun _ h => h.picks [4, 4, 4, 4] rfl)) ?_
             refine at_each (rs := [14]) (by kernel_rfl) (by decide) ?_
             refine (.cons rfl (fun I cnI => ?_) .nil)
             ·refine r_call [0] cf29 rfl rfl (ok_gleemake_Stream_Some b0_ s0_0_ a0_0 y51.2 s64 [ByteArray.empty, u24.2.2.2.2.2.1] hy53) rfl rfl (.cons (.ro 5 rfl) (.cons (.row 1 rfl) .nil)) (fun _ => rfl) rfl (fun _ => ?_)
              refine lj_nil ?_
              refine cnI _ _ (sof1 rfl rfl (fun _ h => h.picks [4, 4, 4, 4] rfl)) ?_
              refine at_each (rs := [16]) (by kernel_rfl) (by decide) ?_
              refine (.cons rfl (fun I cnI => ?_) .nil)
              ·refine r_sb (vs := [.string y49.1]) (j := 4) ty9 rfl rfl rfl rfl rfl rfl rfl ?_
               refine lj_nil ?_
               refine cnI _ _ (sof2 rfl rfl (fun _ h => h.picks [5, 5, 5] rfl)) ?_
               refine at_take2 17 rfl (by kernel_rfl) (by kernel_rfl) (by kernel_rfl) (fun _ h => h.picks [1, 1, 1] rfl) rfl rfl (p_fab fl33_5 rfl) (fun _ h => h.picks [5, 5, 5] rfl) ?_
               refine at_each (rs := [18]) (by kernel_rfl) (by decide) ?_
               refine (.cons rfl (fun I cnI => ?_) .nil)
               ·refine r_sb (vs := [.string y51.1]) (j := 4) ty9 rfl rfl rfl rfl rfl rfl rfl ?_
                refine lj_nil ?_
                refine cnI _ _ (sof2 rfl rfl (fun _ h => h.picks [5, 5, 5] rfl)) ?_
                refine at_take2 19 rfl (by kernel_rfl) (by kernel_rfl) (by kernel_rfl) (fun _ h => h.picks [1, 1, 1] rfl) rfl rfl (p_fab fl33_8 rfl) (fun _ h => h.picks [5, 5, 5] rfl) ?_
                refine at_each (rs := [20]) (by kernel_rfl) (by decide) ?_
                refine (.cons rfl (fun I cnI => ?_) .nil)
                ·refine r_sb (vs := [.string y53.1]) (j := 4) ty9 rfl rfl rfl rfl rfl rfl rfl ?_
                 refine lj_nil ?_
                 refine cnI _ _ (sof2 rfl rfl (fun _ h => h.picks [5, 5, 5] rfl)) ?_
                 refine at_done (by kernel_rfl) ?_
                 refine nj_blk ?_
                 exact cnk42 _ _ (y53.2, y14.1, ((lkM (putM u6.2.2.1 y14.1 (w64 (((lkM u6.2.2.1 y14.1).getD 0) + 1))) y14.1).getD 0), y16.1, y49.1, y51.1, u24.2.2.2.1, u24.2.2.2.2.1, y53.1, u24.2.2.2.2.2.2) () (Option.some.inj hm).symm ⟨rfl, rfl, rfl, rfl, rfl, rfl, rfl, rfl, trivial⟩ (fun _ h => h.picks [0, 3, 3, 3, 3] rfl)
          ·refine r_bs R9 [(ByteArray.mk [65].toArray), u24.2.2.1] rfl rfl rfl (fun _ => by kernel_rfl) rfl (fun s66 => ?_)
           refine lj_nil ?_
           refine cnI _ _ (sof1 rfl rfl (fun _ h => h.picks [4, 4, 4, 4] rfl)) ?_
           refine at_each (rs := [4]) (by kernel_rfl) (by decide) ?_
           refine (.cons rfl (fun I cnI => ?_) .nil)
           ·refine r_call [3] cf29 rfl rfl (ok_gleemake_Stream_Some b0_ s0_0_ a0_0 y43.2 s54 [ByteArray.empty, u24.2.1] hy49) rfl rfl (.cons (.ro 5 rfl) (.cons (.row 2 rfl) .nil)) (fun _ => rfl) rfl (fun _ => ?_)
            refine lj_nil ?_
            refine cnI _ _ (sof1 rfl rfl (fun _ h => h.picks [4, 4, 4, 4] rfl)) ?_
            refine at_take2 15 rfl (by kernel_rfl) (by kernel_rfl) (by kernel_rfl) (fun _ h => h.picks [1, 1, 1] rfl) rfl rfl (p_fab fl33_4 rfl) (fun _ h => h.picks [5, 5, 5] rfl) ?_
            refine at_each (rs := [9]) (by kernel_rfl) (by decide) ?_
            refine (.cons rfl (fun I cnI => ?_) .nil)
            ·refine r_call [0] cf29 rfl rfl (ok_gleemake_Stream_Some b0_ s0_0_ a0_0 y49.2 s66 [(ByteArray.mk [65].toArray), u24.2.2.1] hy51) rfl rfl (.cons (.ro 5 rfl) (.cons (.row 0 rfl) .nil)) (fun _ => rfl) rfl (fun _ => ?_)
             refine lj_nil ?_
             refine cnI _ _ (sof1 rfl rfl (fun _ h => h.picks [4, 4, 4, 4] rfl)) ?_
             refine at_each (rs := [14]) (by kernel_rfl) (by decide) ?_
             refine (.cons rfl (fun I cnI => ?_) .nil)
             ·refine r_call [0] cf29 rfl rfl (ok_gleemake_Stream_Some b0_ s0_0_ a0_0 y51.2 s64 [ByteArray.empty, u24.2.2.2.2.2.1] hy53) rfl rfl (.cons (.ro 5 rfl) (.cons (.row 1 rfl) .nil)) (fun _ => rfl) rfl (fun _ => ?_)
              refine lj_nil ?_
              refine cnI _ _ (sof1 rfl rfl (fun _ h => h.picks [4, 4, 4, 4] rfl)) ?_
              refine at_each (rs := [16]) (by kernel_rfl) (by decide) ?_
              refine (.cons rfl (fun I cnI => ?_) .nil)
              ·refine r_sb (vs := [.string y49.1]) (j := 4) ty9 rfl rfl rfl rfl rfl rfl rfl ?_
               refine lj_nil ?_
               refine cnI _ _ (sof2 rfl rfl (fun _ h => h.picks [5, 5, 5] rfl)) ?_
               refine at_take2 17 rfl (by kernel_rfl) (by kernel_rfl) (by kernel_rfl) (fun _ h => h.picks [1, 1, 1] rfl) rfl rfl (p_fab fl33_5 rfl) (fun _ h => h.picks [5, 5, 5] rfl) ?_
               refine at_each (rs := [18]) (by kernel_rfl) (by decide) ?_
               refine (.cons rfl (fun I cnI => ?_) .nil)
               ·refine r_sb (vs := [.string y51.1]) (j := 4) ty9 rfl rfl rfl rfl rfl rfl rfl ?_
                refine lj_nil ?_
                refine cnI _ _ (sof2 rfl rfl (fun _ h => h.picks [5, 5, 5] rfl)) ?_
                refine at_take2 19 rfl (by kernel_rfl) (by kernel_rfl) (by kernel_rfl) (fun _ h => h.picks [1, 1, 1] rfl) rfl rfl (p_fab fl33_8 rfl) (fun _ h => h.picks [5, 5, 5] rfl) ?_
                refine at_each (rs := [20]) (by kernel_rfl) (by decide) ?_
                refine (.cons rfl (fun I cnI => ?_) .nil)
                ·refine r_sb (vs := [.string y53.1]) (j := 4) ty9 rfl rfl rfl rfl rfl rfl rfl ?_
                 refine lj_nil ?_
                 refine cnI _ _ (sof2 rfl rfl (fun _ h => h.picks [5, 5, 5] rfl)) ?_
                 refine at_done (by kernel_rfl) ?_
                 refine nj_blk ?_
                 exact cnk42 _ _ (y53.2, y14.1, ((lkM (putM u6.2.2.1 y14.1 (w64 (((lkM u6.2.2.1 y14.1).getD 0) + 1))) y14.1).getD 0), y16.1, y49.1, y51.1, u24.2.2.2.1, u24.2.2.2.2.1, y53.1, u24.2.2.2.2.2.2) () (Option.some.inj hm).symm ⟨rfl, rfl, rfl, rfl, rfl, rfl, rfl, rfl, trivial⟩ (fun _ h => h.picks [0, 3, 3, 3, 3] rfl)
        ·refine r_bs R9 [(ByteArray.mk [65].toArray), u24.2.2.1] rfl rfl rfl (fun _ => by kernel_rfl) rfl (fun s67 => ?_)
         refine lj_nil ?_
         refine cnI _ _ (sof1 rfl rfl (fun _ h => h.picks [2, 2, 2, 2] rfl)) ?_
         refine at_each (rs := [3, 13]) (by kernel_rfl) (by decide) ?_
         refine (.cons rfl (fun I cnI => ?_) (.cons rfl (fun I cnI => ?_) .nil))
         ·refine r_bs R9 [ByteArray.empty, u24.2.1] rfl rfl rfl (fun _ => by kernel_rfl) rfl (fun s68 => ?_)
          refine lj_nil ?_
          refine cnI _ _ (sof1 rfl rfl (fun _ h => h.picks [3, 3, 3, 3] rfl)) ?_
          refine at_each (rs := [4, 13]) (by kernel_rfl) (by decide) ?_
          refine (.cons rfl (fun I cnI => ?_) (.cons rfl (fun I cnI => ?_) .nil))
          ·refine r_call [2] cf29 rfl rfl (ok_gleemake_Stream_Some b0_ s0_0_ a0_0 y43.2 s68 [ByteArray.empty, u24.2.1] hy49) rfl rfl (.cons (.ro 4 rfl) (.cons (.row 0 rfl) .nil)) (fun _ => rfl) rfl (fun _ => ?_)
           refine lj_nil ?_
           refine cnI _ _ (sof1 rfl rfl (fun _ h => h.picks [3, 3, 3, 3] rfl)) ?_
           refine at_take2 15 rfl (by kernel_rfl) (by kernel_rfl) (by kernel_rfl) (fun _ h => h.picks [1, 1, 1] rfl) rfl rfl (p_fab fl33_4 rfl) (fun _ h => h.picks [4, 4, 4] rfl) ?_
           refine at_each (rs := [9, 13]) (by kernel_rfl) (by decide) ?_
           refine (.cons rfl (fun I cnI => ?_) (.cons rfl (fun I cnI => ?_) .nil))
           ·refine r_call [0] cf29 rfl rfl (ok_gleemake_Stream_Some b0_ s0_0_ a0_0 y49.2 s67 [(ByteArray.mk [65].toArray), u24.2.2.1] hy51) rfl rfl (.cons (.ro 4 rfl) (.cons (.row 1 rfl) .nil)) (fun _ => rfl) rfl (fun _ => ?_)
            refine lj_nil ?_
            refine cnI _ _ (sof1 rfl rfl (fun _ h => h.picks [3, 3, 3, 3] rfl)) ?_
            refine at_each (rs := [13]) (by kernel_rfl) (by decide) ?_
            refine (.cons rfl (fun I cnI => ?_) .nil)
            ·refine r_bs R9 [ByteArray.empty, u24.2.2.2.2.2.1] rfl rfl rfl (fun _ => by kernel_rfl) rfl (fun s69 => ?_)
             refine lj_nil ?_
             refine cnI _ _ (sof1 rfl rfl (fun _ h => h.picks [4, 4, 4, 4] rfl)) ?_
             refine at_each (rs := [14]) (by kernel_rfl) (by decide) ?_
             refine (.cons rfl (fun I cnI => ?_) .nil)
             ·refine r_call [1] cf29 rfl rfl (ok_gleemake_Stream_Some b0_ s0_0_ a0_0 y51.2 s69 [ByteArray.empty, u24.2.2.2.2.2.1] hy53) rfl rfl (.cons (.ro 5 rfl) (.cons (.row 0 rfl) .nil)) (fun _ => rfl) rfl (fun _ => ?_)
              refine lj_nil ?_
              refine cnI _ _ (sof1 rfl rfl (fun _ h => h.picks [4, 4, 4, 4] rfl)) ?_
              refine at_each (rs := [16]) (by kernel_rfl) (by decide) ?_
              refine (.cons rfl (fun I cnI => ?_) .nil)
              ·refine r_sb (vs := [.string y49.1]) (j := 4) ty9 rfl rfl rfl rfl rfl rfl rfl ?_
               refine lj_nil ?_
               refine cnI _ _ (sof2 rfl rfl (fun _ h => h.picks [5, 5, 5] rfl)) ?_
               refine at_take2 17 rfl (by kernel_rfl) (by kernel_rfl) (by kernel_rfl) (fun _ h => h.picks [1, 1, 1] rfl) rfl rfl (p_fab fl33_5 rfl) (fun _ h => h.picks [5, 5, 5] rfl) ?_
               refine at_each (rs := [18]) (by kernel_rfl) (by decide) ?_
               refine (.cons rfl (fun I cnI => ?_) .nil)
               ·refine r_sb (vs := [.string y51.1]) (j := 4) ty9 rfl rfl rfl rfl rfl rfl rfl ?_
                refine lj_nil ?_
                refine cnI _ _ (sof2 rfl rfl (fun _ h => h.picks [5, 5, 5] rfl)) ?_
                refine at_take2 19 rfl (by kernel_rfl) (by kernel_rfl) (by kernel_rfl) (fun _ h => h.picks [1, 1, 1] rfl) rfl rfl (p_fab fl33_8 rfl) (fun _ h => h.picks [5, 5, 5] rfl) ?_
                refine at_each (rs := [20]) (by kernel_rfl) (by decide) ?_
                refine (.cons rfl (fun I cnI => ?_) .nil)
                ·refine r_sb (vs := [.string y53.1]) (j := 4) ty9 rfl rfl rfl rfl rfl rfl rfl ?_
                 refine lj_nil ?_
                 refine cnI _ _ (sof2 rfl rfl (fun _ h => h.picks [5, 5, 5] rfl)) ?_
                 refine at_done (by kernel_rfl) ?_
                 refine nj_blk ?_
                 exact cnk42 _ _ (y53.2, y14.1, ((lkM (putM u6.2.2.1 y14.1 (w64 (((lkM u6.2.2.1 y14.1).getD 0) + 1))) y14.1).getD 0), y16.1, y49.1, y51.1, u24.2.2.2.1, u24.2.2.2.2.1, y53.1, u24.2.2.2.2.2.2) () (Option.some.inj hm).symm ⟨rfl, rfl, rfl, rfl, rfl, rfl, rfl, rfl, trivial⟩ (fun _ h => h.picks [0, 3, 3, 3, 3] rfl)
           ·refine r_bs R9 [ByteArray.empty, u24.2.2.2.2.2.1] rfl rfl rfl (fun _ => by kernel_rfl) rfl (fun s70 => ?_)
            refine lj_nil ?_
            refine cnI _ _ (sof1 rfl rfl (fun _ h => h.picks [4, 4, 4, 4] rfl)) ?_
            refine at_each (rs := [9]) (by kernel_rfl) (by decide) ?_
            refine (.cons rfl (fun I cnI => ?_) .nil)
            ·refine r_call [1] cf29 rfl rfl (ok_gleemake_Stream_Some b0_ s0_0_ a0_0 y49.2 s67 [(ByteArray.mk [65].toArray), u24.2.2.1] hy51) rfl rfl (.cons (.ro 5 rfl) (.cons (.row 2 rfl) .nil)) (fun _ => rfl) rfl (fun _ => ?_)
             refine lj_nil ?_
             refine cnI _ _ (sof1 rfl rfl (fun _ h => h.picks [4, 4, 4, 4] rfl)) ?_
             refine at_each (rs := [14]) (by kernel_rfl) (by decide) ?_
             refine (.cons rfl (fun I cnI => ?_) .nil)
             ·refine r_call [0] cf29 rfl rfl (ok_gleemake_Stream_Some b0_ s0_0_ a0_0 y51.2 s70 [ByteArray.empty, u24.2.2.2.2.2.1] hy53) rfl rfl (.cons (.ro 5 rfl) (.cons (.row 0 rfl) .nil)) (fun _ => rfl) rfl (fun _ => ?_)
              refine lj_nil ?_
              refine cnI _ _ (sof1 rfl rfl (fun _ h => h.picks [4, 4, 4, 4] rfl)) ?_
              refine at_each (rs := [16]) (by kernel_rfl) (by decide) ?_
              refine (.cons rfl (fun I cnI => ?_) .nil)
              ·refine r_sb (vs := [.string y49.1]) (j := 4) ty9 rfl rfl rfl rfl rfl rfl rfl ?_
               refine lj_nil ?_
               refine cnI _ _ (sof2 rfl rfl (fun _ h => h.picks [5, 5, 5] rfl)) ?_
               refine at_take2 17 rfl (by kernel_rfl) (by kernel_rfl) (by kernel_rfl) (fun _ h => h.picks [1, 1, 1] rfl) rfl rfl (p_fab fl33_5 rfl) (fun _ h => h.picks [5, 5, 5] rfl) ?_
               refine at_each (rs := [18]) (by kernel_rfl) (by decide) ?_
               refine (.cons rfl (fun I cnI => ?_) .nil)
               ·refine r_sb (vs := [.string y51.1]) (j := 4) ty9 rfl rfl rfl rfl rfl rfl rfl ?_
                refine lj_nil ?_
                refine cnI _ _ (sof2 rfl rfl (fun _ h => h.picks [5, 5, 5] rfl)) ?_
                refine at_take2 19 rfl (by kernel_rfl) (by kernel_rfl) (by kernel_rfl) (fun _ h => h.picks [1, 1, 1] rfl) rfl rfl (p_fab fl33_8 rfl) (fun _ h => h.picks [5, 5, 5] rfl) ?_
                refine at_each (rs := [20]) (by kernel_rfl) (by decide) ?_
                refine (.cons rfl (fun I cnI => ?_) .nil)
                ·refine r_sb (vs := [.string y53.1]) (j := 4) ty9 rfl rfl rfl rfl rfl rfl rfl ?_
                 refine lj_nil ?_
                 refine cnI _ _ (sof2 rfl rfl (fun _ h => h.picks [5, 5, 5] rfl)) ?_
                 refine at_done (by kernel_rfl) ?_
                 refine nj_blk ?_
                 exact cnk42 _ _ (y53.2, y14.1, ((lkM (putM u6.2.2.1 y14.1 (w64 (((lkM u6.2.2.1 y14.1).getD 0) + 1))) y14.1).getD 0), y16.1, y49.1, y51.1, u24.2.2.2.1, u24.2.2.2.2.1, y53.1, u24.2.2.2.2.2.2) () (Option.some.inj hm).symm ⟨rfl, rfl, rfl, rfl, rfl, rfl, rfl, rfl, trivial⟩ (fun _ h => h.picks [0, 3, 3, 3, 3] rfl)
          ·refine r_bs R9 [ByteArray.empty, u24.2.2.2.2.2.1] rfl rfl rfl (fun _ => by kernel_rfl) rfl (fun s71 => ?_)
           refine lj_nil ?_
           refine cnI _ _ (sof1 rfl rfl (fun _ h => h.picks [4, 4, 4, 4] rfl)) ?_
           refine at_each (rs := [4]) (by kernel_rfl) (by decide) ?_
           refine (.cons rfl (fun I cnI => ?_) .nil)
           ·refine r_call [3] cf29 rfl rfl (ok_gleemake_Stream_Some b0_ s0_0_ a0_0 y43.2 s68 [ByteArray.empty, u24.2.1] hy49) rfl rfl (.cons (.ro 5 rfl) (.cons (.row 1 rfl) .nil)) (fun _ => rfl) rfl (fun _ => ?_)
            refine lj_nil ?_
            refine cnI _ _ (sof1 rfl rfl (fun _ h => h.picks [4, 4, 4, 4] rfl)) ?_
            refine at_take2 15 rfl (by kernel_rfl) (by kernel_rfl) (by kernel_rfl) (fun _ h => h.picks [1, 1, 1] rfl) rfl rfl (p_fab fl33_4 rfl) (fun _ h => h.picks [5, 5, 5] rfl) ?_
            refine at_each (rs := [9]) (by kernel_rfl) (by decide) ?_
            refine (.cons rfl (fun I cnI => ?_) .nil)
            ·refine r_call [0] cf29 rfl rfl (ok_gleemake_Stream_Some b0_ s0_0_ a0_0 y49.2 s67 [(ByteArray.mk [65].toArray), u24.2.2.1] hy51) rfl rfl (.cons (.ro 5 rfl) (.cons (.row 2 rfl) .nil)) (fun _ => rfl) rfl (fun _ => ?_)
             refine lj_nil ?_
             refine cnI _ _ (sof1 rfl rfl (fun _ h => h.picks [4, 4, 4, 4] rfl)) ?_
             refine at_each (rs := [14]) (by kernel_rfl) (by decide) ?_
             refine (.cons rfl (fun I cnI => ?_) .nil)
             ·refine r_call [0] cf29 rfl rfl (ok_gleemake_Stream_Some b0_ s0_0_ a0_0 y51.2 s71 [ByteArray.empty, u24.2.2.2.2.2.1] hy53) rfl rfl (.cons (.ro 5 rfl) (.cons (.row 0 rfl) .nil)) (fun _ => rfl) rfl (fun _ => ?_)
              refine lj_nil ?_
              refine cnI _ _ (sof1 rfl rfl (fun _ h => h.picks [4, 4, 4, 4] rfl)) ?_
              refine at_each (rs := [16]) (by kernel_rfl) (by decide) ?_
              refine (.cons rfl (fun I cnI => ?_) .nil)
              ·refine r_sb (vs := [.string y49.1]) (j := 4) ty9 rfl rfl rfl rfl rfl rfl rfl ?_
               refine lj_nil ?_
               refine cnI _ _ (sof2 rfl rfl (fun _ h => h.picks [5, 5, 5] rfl)) ?_
               refine at_take2 17 rfl (by kernel_rfl) (by kernel_rfl) (by kernel_rfl) (fun _ h => h.picks [1, 1, 1] rfl) rfl rfl (p_fab fl33_5 rfl) (fun _ h => h.picks [5, 5, 5] rfl) ?_
               refine at_each (rs := [18]) (by kernel_rfl) (by decide) ?_
               refine (.cons rfl (fun I cnI => ?_) .nil)
               ·refine r_sb (vs := [.string y51.1]) (j := 4) ty9 rfl rfl rfl rfl rfl rfl rfl ?_
                refine lj_nil ?_
                refine cnI _ _ (sof2 rfl rfl (fun _ h => h.picks [5, 5, 5] rfl)) ?_
                refine at_take2 19 rfl (by kernel_rfl) (by kernel_rfl) (by kernel_rfl) (fun _ h => h.picks [1, 1, 1] rfl) rfl rfl (p_fab fl33_8 rfl) (fun _ h => h.picks [5, 5, 5] rfl) ?_
                refine at_each (rs := [20]) (by kernel_rfl) (by decide) ?_
                refine (.cons rfl (fun I cnI => ?_) .nil)
                ·refine r_sb (vs := [.string y53.1]) (j := 4) ty9 rfl rfl rfl rfl rfl rfl rfl ?_
                 refine lj_nil ?_
                 refine cnI _ _ (sof2 rfl rfl (fun _ h => h.picks [5, 5, 5] rfl)) ?_
                 refine at_done (by kernel_rfl) ?_
                 refine nj_blk ?_
                 exact cnk42 _ _ (y53.2, y14.1, ((lkM (putM u6.2.2.1 y14.1 (w64 (((lkM u6.2.2.1 y14.1).getD 0) + 1))) y14.1).getD 0), y16.1, y49.1, y51.1, u24.2.2.2.1, u24.2.2.2.2.1, y53.1, u24.2.2.2.2.2.2) () (Option.some.inj hm).symm ⟨rfl, rfl, rfl, rfl, rfl, rfl, rfl, rfl, trivial⟩ (fun _ h => h.picks [0, 3, 3, 3, 3] rfl)
         ·refine r_bs R9 [ByteArray.empty, u24.2.2.2.2.2.1] rfl rfl rfl (fun _ => by kernel_rfl) rfl (fun s72 => ?_)
          refine lj_nil ?_
          refine cnI _ _ (sof1 rfl rfl (fun _ h => h.picks [3, 3, 3, 3] rfl)) ?_
          refine at_each (rs := [3]) (by kernel_rfl) (by decide) ?_
          refine (.cons rfl (fun I cnI => ?_) .nil)
          ·refine r_bs R9 [ByteArray.empty, u24.2.1] rfl rfl rfl (fun _ => by kernel_rfl) rfl (fun s73 => ?_)
           refine lj_nil ?_
           refine cnI _ _ (sof1 rfl rfl (fun _ h => h.picks [4, 4, 4, 4] rfl)) ?_
           refine at_each (rs := [4]) (by kernel_rfl) (by decide) ?_
           refine (.cons rfl (fun I cnI => ?_) .nil)
           ·refine r_call [3] cf29 rfl rfl (ok_gleemake_Stream_Some b0_ s0_0_ a0_0 y43.2 s73 [ByteArray.empty, u24.2.1] hy49) rfl rfl (.cons (.ro 5 rfl) (.cons (.row 0 rfl) .nil)) (fun _ => rfl) rfl (fun _ => ?_)
            refine lj_nil ?_
            refine cnI _ _ (sof1 rfl rfl (fun _ h => h.picks [4, 4, 4, 4] rfl)) ?_
            refine at_take2 15 rfl (by kernel_rfl) (by kernel_rfl) (by kernel_rfl) (fun _ h => h.picks [1, 1, 1] rfl) rfl rfl (p_fab fl33_4 rfl) (fun _ h => h.picks [5, 5, 5] rfl) ?_
            refine at_each (rs := [9]) (by kernel_rfl) (by decide) ?_
            refine (.cons rfl (fun I cnI => ?_) .nil)
            ·refine r_call [0] cf29 rfl rfl (ok_gleemake_Stream_Some b0_ s0_0_ a0_0 y49.2 s67 [(ByteArray.mk [65].toArray), u24.2.2.1] hy51) rfl rfl (.cons (.ro 5 rfl) (.cons (.row 2 rfl) .nil)) (fun _ => rfl) rfl (fun _ => ?_)
             refine lj_nil ?_
             refine cnI _ _ (sof1 rfl rfl (fun _ h => h.picks [4, 4, 4, 4] rfl)) ?_
             refine at_each (rs := [14]) (by kernel_rfl) (by decide) ?_
             refine (.cons rfl (fun I cnI => ?_) .nil)
             ·refine r_call [0] cf29 rfl rfl (ok_gleemake_Stream_Some b0_ s0_0_ a0_0 y51.2 s72 [ByteArray.empty, u24.2.2.2.2.2.1] hy53) rfl rfl (.cons (.ro 5 rfl) (.cons (.row 1 rfl) .nil)) (fun _ => rfl) rfl (fun _ => ?_)
              refine lj_nil ?_
              refine cnI _ _ (sof1 rfl rfl (fun _ h => h.picks [4, 4, 4, 4] rfl)) ?_
              refine at_each (rs := [16]) (by kernel_rfl) (by decide) ?_
              refine (.cons rfl (fun I cnI => ?_) .nil)
              ·refine r_sb (vs := [.string y49.1]) (j := 4) ty9 rfl rfl rfl rfl rfl rfl rfl ?_
               refine lj_nil ?_
               refine cnI _ _ (sof2 rfl rfl (fun _ h => h.picks [5, 5, 5] rfl)) ?_
               refine at_take2 17 rfl (by kernel_rfl) (by kernel_rfl) (by kernel_rfl) (fun _ h => h.picks [1, 1, 1] rfl) rfl rfl (p_fab fl33_5 rfl) (fun _ h => h.picks [5, 5, 5] rfl) ?_
               refine at_each (rs := [18]) (by kernel_rfl) (by decide) ?_
               refine (.cons rfl (fun I cnI => ?_) .nil)
               ·refine r_sb (vs := [.string y51.1]) (j := 4) ty9 rfl rfl rfl rfl rfl rfl rfl ?_
                refine lj_nil ?_
                refine cnI _ _ (sof2 rfl rfl (fun _ h => h.picks [5, 5, 5] rfl)) ?_
                refine at_take2 19 rfl (by kernel_rfl) (by kernel_rfl) (by kernel_rfl) (fun _ h => h.picks [1, 1, 1] rfl) rfl rfl (p_fab fl33_8 rfl) (fun _ h => h.picks [5, 5, 5] rfl) ?_
                refine at_each (rs := [20]) (by kernel_rfl) (by decide) ?_
                refine (.cons rfl (fun I cnI => ?_) .nil)
                ·refine r_sb (vs := [.string y53.1]) (j := 4) ty9 rfl rfl rfl rfl rfl rfl rfl ?_
                 refine lj_nil ?_
                 refine cnI _ _ (sof2 rfl rfl (fun _ h => h.picks [5, 5, 5] rfl)) ?_
                 refine at_done (by kernel_rfl) ?_
                 refine nj_blk ?_
                 exact cnk42 _ _ (y53.2, y14.1, ((lkM (putM u6.2.2.1 y14.1 (w64 (((lkM u6.2.2.1 y14.1).getD 0) + 1))) y14.1).getD 0), y16.1, y49.1, y51.1, u24.2.2.2.1, u24.2.2.2.2.1, y53.1, u24.2.2.2.2.2.2) () (Option.some.inj hm).symm ⟨rfl, rfl, rfl, rfl, rfl, rfl, rfl, rfl, trivial⟩ (fun _ h => h.picks [0, 3, 3, 3, 3] rfl)
        ·refine r_bs R9 [ByteArray.empty, u24.2.2.2.2.2.1] rfl rfl rfl (fun _ => by kernel_rfl) rfl (fun s74 => ?_)
         refine lj_nil ?_
         refine cnI _ _ (sof1 rfl rfl (fun _ h => h.picks [2, 2, 2, 2] rfl)) ?_
         refine at_each (rs := [3, 8]) (by kernel_rfl) (by decide) ?_
         refine (.cons rfl (fun I cnI => ?_) (.cons rfl (fun I cnI => ?_) .nil))
         ·refine r_bs R9 [ByteArray.empty, u24.2.1] rfl rfl rfl (fun _ => by kernel_rfl) rfl (fun s75 => ?_)
          refine lj_nil ?_
          refine cnI _ _ (sof1 rfl rfl (fun _ h => h.picks [3, 3, 3, 3] rfl)) ?_
          refine at_each (rs := [4, 8]) (by kernel_rfl) (by decide) ?_
          refine (.cons rfl (fun I cnI => ?_) (.cons rfl (fun I cnI => ?_) .nil))
          ·refine r_call [2] cf29 rfl rfl (ok_gleemake_Stream_Some b0_ s0_0_ a0_0 y43.2 s75 [ByteArray.empty, u24.2.1] hy49) rfl rfl (.cons (.ro 4 rfl) (.cons (.row 0 rfl) .nil)) (fun _ => rfl) rfl (fun _ => ?_)
           refine lj_nil ?_
           refine cnI _ _ (sof1 rfl rfl (fun _ h => h.picks [3, 3, 3, 3] rfl)) ?_
           refine at_take2 15 rfl (by kernel_rfl) (by kernel_rfl) (by kernel_rfl) (fun _ h => h.picks [1, 1, 1] rfl) rfl rfl (p_fab fl33_4 rfl) (fun _ h => h.picks [4, 4, 4] rfl) ?_
           refine at_each (rs := [8]) (by kernel_rfl) (by decide) ?_
           refine (.cons rfl (fun I cnI => ?_) .nil)
           ·refine r_bs R9 [(ByteArray.mk [65].toArray), u24.2.2.1] rfl rfl rfl (fun _ => by kernel_rfl) rfl (fun s76 => ?_)
            refine lj_nil ?_
            refine cnI _ _ (sof1 rfl rfl (fun _ h => h.picks [4, 4, 4, 4] rfl)) ?_
            refine at_each (rs := [9]) (by kernel_rfl) (by decide) ?_
            refine (.cons rfl (fun I cnI => ?_) .nil)
            ·refine r_call [1] cf29 rfl rfl (ok_gleemake_Stream_Some b0_ s0_0_ a0_0 y49.2 s76 [(ByteArray.mk [65].toArray), u24.2.2.1] hy51) rfl rfl (.cons (.ro 5 rfl) (.cons (.row 0 rfl) .nil)) (fun _ => rfl) rfl (fun _ => ?_)
             refine lj_nil ?_
             refine cnI _ _ (sof1 rfl rfl (fun _ h => h.picks [4, 4, 4, 4] rfl)) ?_
             refine at_each (rs := [14]) (by kernel_rfl) (by decide) ?_
             refine (.cons rfl (fun I cnI => ?_) .nil)
             ·refine r_call [0] cf29 rfl rfl (ok_gleemake_Stream_Some b0_ s0_0_ a0_0 y51.2 s74 [ByteArray.empty, u24.2.2.2.2.2.1] hy53) rfl rfl (.cons (.ro 5 rfl) (.cons (.row 2 rfl) .nil)) (fun _ => rfl) rfl (fun _ => ?_)
              refine lj_nil ?_
              refine cnI _ _ (sof1 rfl rfl (fun _ h => h.picks [4, 4, 4, 4] rfl)) ?_
              refine at_each (rs := [16]) (by kernel_rfl) (by decide) ?_
              refine (.cons rfl (fun I cnI => ?_) .nil)
              ·refine r_sb (vs := [.string y49.1]) (j := 4) ty9 rfl rfl rfl rfl rfl rfl rfl ?_
               refine lj_nil ?_
               refine cnI _ _ (sof2 rfl rfl (fun _ h => h.picks [5, 5, 5] rfl)) ?_
               refine at_take2 17 rfl (by kernel_rfl) (by kernel_rfl) (by kernel_rfl) (fun _ h => h.picks [1, 1, 1] rfl) rfl rfl (p_fab fl33_5 rfl) (fun _ h => h.picks [5, 5, 5] rfl) ?_
               refine at_each (rs := [18]) (by kernel_rfl) (by decide) ?_
               refine (.cons rfl (fun I cnI => ?_) .nil)
               ·refine r_sb (vs := [.string y51.1]) (j := 4) ty9 rfl rfl rfl rfl rfl rfl rfl ?_
                refine lj_nil ?_
                refine cnI _ _ (sof2 rfl rfl (fun _ h => h.picks [5, 5, 5] rfl)) ?_
                refine at_take2 19 rfl (by kernel_rfl) (by kernel_rfl) (by kernel_rfl) (fun _ h => h.picks [1, 1, 1] rfl) rfl rfl (p_fab fl33_8 rfl) (fun _ h => h.picks [5, 5, 5] rfl) ?_
                refine at_each (rs := [20]) (by kernel_rfl) (by decide) ?_
                refine (.cons rfl (fun I cnI => ?_) .nil)
                ·refine r_sb (vs := [.string y53.1]) (j := 4) ty9 rfl rfl rfl rfl rfl rfl rfl ?_
                 refine lj_nil ?_
                 refine cnI _ _ (sof2 rfl rfl (fun _ h => h.picks [5, 5, 5] rfl)) ?_
                 refine at_done (by kernel_rfl) ?_
                 refine nj_blk ?_
                 exact cnk42 _ _ (y53.2, y14.1, ((lkM (putM u6.2.2.1 y14.1 (w64 (((lkM u6.2.2.1 y14.1).getD 0) + 1))) y14.1).getD 0), y16.1, y49.1, y51.1, u24.2.2.2.1, u24.2.2.2.2.1, y53.1, u24.2.2.2.2.2.2) () (Option.some.inj hm).symm ⟨rfl, rfl, rfl, rfl, rfl, rfl, rfl, rfl, trivial⟩ (fun _ h => h.picks [0, 3, 3, 3, 3] rfl)
          ·refine r_bs R9 [(ByteArray.mk [65].toArray), u24.2.2.1] rfl rfl rfl (fun _ => by kernel_rfl) rfl (fun s77 => ?_)
           refine lj_nil ?_
           refine cnI _ _ (sof1 rfl rfl (fun _ h => h.picks [4, 4, 4, 4] rfl)) ?_
           refine at_each (rs := [4]) (by kernel_rfl) (by decide) ?_
           refine (.cons rfl (fun I cnI => ?_) .nil)
           ·refine r_call [3] cf29 rfl rfl (ok_gleemake_Stream_Some b0_ s0_0_ a0_0 y43.2 s75 [ByteArray.empty, u24.2.1] hy49) rfl rfl (.cons (.ro 5 rfl) (.cons (.row 1 rfl) .nil)) (fun _ => rfl) rfl (fun _ => ?_)
            refine lj_nil ?_
            refine cnI _ _ (sof1 rfl rfl (fun _ h => h.picks [4, 4, 4, 4] rfl)) ?_
            refine at_take2 15 rfl (by kernel_rfl) (by kernel_rfl) (by kernel_rfl) (fun _ h => h.picks [1, 1, 1] rfl) rfl rfl (p_fab fl33_4 rfl) (fun _ h => h.picks [5, 5, 5] rfl) ?_
            refine at_each (rs := [9]) (by kernel_rfl) (by decide) ?_
            refine (.cons rfl (fun I cnI => ?_) .nil)
            ·refine r_call [0] cf29 rfl rfl (ok_gleemake_Stream_Some b0_ s0_0_ a0_0 y49.2 s77 [(ByteArray.mk [65].toArray), u24.2.2.1] hy51) rfl rfl (.cons (.ro 5 rfl) (.cons (.row 0 rfl) .nil)) (fun _ => rfl) rfl (fun _ => ?_)
             refine lj_nil ?_
             refine cnI _ _ (sof1 rfl rfl (fun _ h => h.picks [4, 4, 4, 4] rfl)) ?_
             refine at_each (rs := [14]) (by kernel_rfl) (by decide) ?_
             refine (.cons rfl (fun I cnI => ?_) .nil)
             ·refine r_call [0] cf29 rfl rfl (ok_gleemake_Stream_Some b0_ s0_0_ a0_0 y51.2 s74 [ByteArray.empty, u24.2.2.2.2.2.1] hy53) rfl rfl (.cons (.ro 5 rfl) (.cons (.row 2 rfl) .nil)) (fun _ => rfl) rfl (fun _ => ?_)
              refine lj_nil ?_
              refine cnI _ _ (sof1 rfl rfl (fun _ h => h.picks [4, 4, 4, 4] rfl)) ?_
              refine at_each (rs := [16]) (by kernel_rfl) (by decide) ?_
              refine (.cons rfl (fun I cnI => ?_) .nil)
              ·refine r_sb (vs := [.string y49.1]) (j := 4) ty9 rfl rfl rfl rfl rfl rfl rfl ?_
               refine lj_nil ?_
               refine cnI _ _ (sof2 rfl rfl (fun _ h => h.picks [5, 5, 5] rfl)) ?_
               refine at_take2 17 rfl (by kernel_rfl) (by kernel_rfl) (by kernel_rfl) (fun _ h => h.picks [1, 1, 1] rfl) rfl rfl (p_fab fl33_5 rfl) (fun _ h => h.picks [5, 5, 5] rfl) ?_
               refine at_each (rs := [18]) (by kernel_rfl) (by decide) ?_
               refine (.cons rfl (fun I cnI => ?_) .nil)
               ·refine r_sb (vs := [.string y51.1]) (j := 4) ty9 rfl rfl rfl rfl rfl rfl rfl ?_
                refine lj_nil ?_
                refine cnI _ _ (sof2 rfl rfl (fun _ h => h.picks [5, 5, 5] rfl)) ?_
                refine at_take2 19 rfl (by kernel_rfl) (by kernel_rfl) (by kernel_rfl) (fun _ h => h.picks [1, 1, 1] rfl) rfl rfl (p_fab fl33_8 rfl) (fun _ h => h.picks [5, 5, 5] rfl) ?_
                refine at_each (rs := [20]) (by kernel_rfl) (by decide) ?_
                refine (.cons rfl (fun I cnI => ?_) .nil)
                ·refine r_sb (vs := [.string y53.1]) (j := 4) ty9 rfl rfl rfl rfl rfl rfl rfl ?_
                 refine lj_nil ?_
                 refine cnI _ _ (sof2 rfl rfl (fun _ h => h.picks [5, 5, 5] rfl)) ?_
                 refine at_done (by kernel_rfl) ?_
                 refine nj_blk ?_
                 exact cnk42 _ _ (y53.2, y14.1, ((lkM (putM u6.2.2.1 y14.1 (w64 (((lkM u6.2.2.1 y14.1).getD 0) + 1))) y14.1).getD 0), y16.1, y49.1, y51.1, u24.2.2.2.1, u24.2.2.2.2.1, y53.1, u24.2.2.2.2.2.2) () (Option.some.inj hm).symm ⟨rfl, rfl, rfl, rfl, rfl, rfl, rfl, rfl, trivial⟩ (fun _ h => h.picks [0, 3, 3, 3, 3] rfl)
         ·refine r_bs R9 [(ByteArray.mk [65].toArray), u24.2.2.1] rfl rfl rfl (fun _ => by kernel_rfl) rfl (fun s78 => ?_)
          refine lj_nil ?_
          refine cnI _ _ (sof1 rfl rfl (fun _ h => h.picks [3, 3, 3, 3] rfl)) ?_
          refine at_each (rs := [3]) (by kernel_rfl) (by decide) ?_
          refine (.cons rfl (fun I cnI => ?_) .nil)
          ·refine r_bs R9 [ByteArray.empty, u24.2.1] rfl rfl rfl (fun _ => by kernel_rfl) rfl (fun s79 => ?_)
           refine lj_nil ?_
           refine cnI _ _ (sof1 rfl rfl (fun _ h => h.picks [4, 4, 4, 4] rfl)) ?_
           refine at_each (rs := [4]) (by kernel_rfl) (by decide) ?_
           refine (.cons rfl (fun I cnI => ?_) .nil)
           ·refine r_call [3] cf29 rfl rfl (ok_gleemake_Stream_Some b0_ s0_0_ a0_0 y43.2 s79 [ByteArray.empty, u24.2.1] hy49) rfl rfl (.cons (.ro 5 rfl) (.cons (.row 0 rfl) .nil)) (fun _ => rfl) rfl (fun _ => ?_)
            refine lj_nil ?_
            refine cnI _ _ (sof1 rfl rfl (fun _ h => h.picks [4, 4, 4, 4] rfl)) ?_
            refine at_take2 15 rfl (by kernel_rfl) (by kernel_rfl) (by kernel_rfl) (fun _ h => h.picks [1, 1, 1] rfl) rfl rfl (p_fab fl33_4 rfl) (fun _ h => h.picks [5, 5, 5] rfl) ?_
            refine at_each (rs := [9]) (by kernel_rfl) (by decide) ?_
            refine (.cons rfl (fun I cnI => ?_) .nil)
            ·refine r_call [0] cf29 rfl rfl (ok_gleemake_Stream_Some b0_ s0_0_ a0_0 y49.2 s78 [(ByteArray.mk [65].toArray), u24.2.2.1] hy51) rfl rfl (.cons (.ro 5 rfl) (.cons (.row 1 rfl) .nil)) (fun _ => rfl) rfl (fun _ => ?_)
             refine lj_nil ?_
             refine cnI _ _ (sof1 rfl rfl (fun _ h => h.picks [4, 4, 4, 4] rfl)) ?_
             refine at_each (rs := [14]) (by kernel_rfl) (by decide) ?_
             refine (.cons rfl (fun I cnI => ?_) .nil)
             ·refine r_call [0] cf29 rfl rfl (ok_gleemake_Stream_Some b0_ s0_0_ a0_0 y51.2 s74 [ByteArray.empty, u24.2.2.2.2.2.1] hy53) rfl rfl (.cons (.ro 5 rfl) (.cons (.row 2 rfl) .nil)) (fun _ => rfl) rfl (fun _ => ?_)
              refine lj_nil ?_
              refine cnI _ _ (sof1 rfl rfl (fun _ h => h.picks [4, 4, 4, 4] rfl)) ?_
              refine at_each (rs := [16]) (by kernel_rfl) (by decide) ?_
              refine (.cons rfl (fun I cnI => ?_) .nil)
              ·refine r_sb (vs := [.string y49.1]) (j := 4) ty9 rfl rfl rfl rfl rfl rfl rfl ?_
               refine lj_nil ?_
               refine cnI _ _ (sof2 rfl rfl (fun _ h => h.picks [5, 5, 5] rfl)) ?_
               refine at_take2 17 rfl (by kernel_rfl) (by kernel_rfl) (by kernel_rfl) (fun _ h => h.picks [1, 1, 1] rfl) rfl rfl (p_fab fl33_5 rfl) (fun _ h => h.picks [5, 5, 5] rfl) ?_
               refine at_each (rs := [18]) (by kernel_rfl) (by decide) ?_
               refine (.cons rfl (fun I cnI => ?_) .nil)
               ·refine r_sb (vs := [.string y51.1]) (j := 4) ty9 rfl rfl rfl rfl rfl rfl rfl ?_
                refine lj_nil ?_
                refine cnI _ _ (sof2 rfl rfl (fun _ h => h.picks [5, 5, 5] rfl)) ?_
                refine at_take2 19 rfl (by kernel_rfl) (by kernel_rfl) (by kernel_rfl) (fun _ h => h.picks [1, 1, 1] rfl) rfl rfl (p_fab fl33_8 rfl) (fun _ h => h.picks [5, 5, 5] rfl) ?_
                refine at_each (rs := [20]) (by kernel_rfl) (by decide) ?_
                refine (.cons rfl (fun I cnI => ?_) .nil)
                ·refine r_sb (vs := [.string y53.1]) (j := 4) ty9 rfl rfl rfl rfl rfl rfl rfl ?_
                 refine lj_nil ?_
                 refine cnI _ _ (sof2 rfl rfl (fun _ h => h.picks [5, 5, 5] rfl)) ?_
                 refine at_done (by kernel_rfl) ?_
                 refine nj_blk ?_
                 exact cnk42 _ _ (y53.2, y14.1, ((lkM (putM u6.2.2.1 y14.1 (w64 (((lkM u6.2.2.1 y14.1).getD 0) + 1))) y14.1).getD 0), y16.1, y49.1, y51.1, u24.2.2.2.1, u24.2.2.2.2.1, y53.1, u24.2.2.2.2.2.2) () (Option.some.inj hm).symm ⟨rfl, rfl, rfl, rfl, rfl, rfl, rfl, rfl, trivial⟩ (fun _ h => h.picks [0, 3, 3, 3, 3] rfl)
       ·have hm := ifB_f hb hm
        obtain ⟨y80, hy80, hm⟩ := bindS hm
        obtain ⟨y81, hy81, hm⟩ := bindS hm
        refine cj_anyT [0, 2, 4, 5, 6, 7, 9, 11] [8, 9, 10, 11, 12] (Sat w0 (keys [.box b0_ 25 [s0_0_.v, .int .i64 a0_1]]) A [.box b17 33 [.string y14.1, .int .i64 ((lkM (putM u6.2.2.1 y14.1 (w64 (((lkM u6.2.2.1 y14.1).getD 0) + 1))) y14.1).getD 0), .int .i64 (w64 (u6.1 + y12.1)), .int .i64 y16.1, .string u24.2.1, .string u24.2.2.1, .int .i64 u24.2.2.2.1, .bool u24.2.2.2.2.1, .string u24.2.2.2.2.2.1, .int .i64 u24.2.2.2.2.2.2], .obj (mapO kv9 b1 (mpV vv3 (putM u6.2.2.1 y14.1 (w64 (((lkM u6.2.2.1 y14.1).getD 0) + 1)))) es18 cl19), .ro (RdS R3 (SV.v s0_0_) a0_0), .row R33 (SV.v g7.2.2) u6.2.2.2]) (Sat w0 (keys [.box b0_ 25 [s0_0_.v, .int .i64 a0_1]]) A [.obj (mapO kv9 b1 (mpV vv3 (putM u6.2.2.1 y14.1 (w64 (((lkM u6.2.2.1 y14.1).getD 0) + 1)))) es18 cl19), .ro (RdS R3 (SV.v s0_0_) a0_0), .row R33 (SV.v g7.2.2) u6.2.2.2]) (by kernel_rfl) ?_
        refine at_take2 0 rfl (by kernel_rfl) (by kernel_rfl) (by kernel_rfl) (fun _ h => h.picks [1, 1, 1] rfl) rfl rfl (p_mv rfl) (fun _ h => h.picks [2, 2, 2] rfl) ?_
        refine at_take2 2 rfl (by kernel_rfl) (by kernel_rfl) (by kernel_rfl) (fun _ h => h.picks [1, 1, 1] rfl) rfl rfl (p_mv rfl) (fun _ h => h.picks [2, 2, 2] rfl) ?_
        refine at_take2 4 rfl (by kernel_rfl) (by kernel_rfl) (by kernel_rfl) (fun _ h => h.picks [1, 1, 1] rfl) rfl rfl (p_fab fl33_7 rfl) (fun _ h => h.picks [2, 2, 2] rfl) ?_
        refine at_take1 5 rfl (by kernel_rfl) (by kernel_rfl) (by kernel_rfl) (by kernel_rfl) rfl rfl (p_lbs ty4 rfl (j := 0) rfl rfl) (fun _ h => h.picks [1, 1, 1, 1] rfl) ?_
        refine at_take2 6 rfl (by kernel_rfl) (by kernel_rfl) (by kernel_rfl) (fun _ h => h.picks [1, 1, 1] rfl) rfl rfl (p_not rfl) (fun _ h => h.picks [2, 2, 2] rfl) ?_
        refine at_each (rs := [1]) (by kernel_rfl) (by decide) ?_
        refine (.cons rfl (fun I cnI => ?_) .nil)
        ·refine r_call [0] cf31 rfl rfl (ok_gleemake_Stream_Odd b0_ s0_0_ a0_0 y43.2 0 1000000000 hy80) rfl rfl (.cons (.ro 2 rfl) .nil) (fun _ => rfl) rfl (fun _ => ?_)
         refine lj_nil ?_
         refine cnI _ _ (sof1 rfl rfl (fun _ h => h.picks [1, 1, 1, 1] rfl)) ?_
         refine at_take2 7 rfl (by kernel_rfl) (by kernel_rfl) (by kernel_rfl) (fun _ h => h.picks [1, 1, 1] rfl) rfl rfl (p_fab fl33_6 rfl) (fun _ h => h.picks [2, 2, 2] rfl) ?_
         refine at_each (rs := [3]) (by kernel_rfl) (by decide) ?_
         refine (.cons rfl (fun I cnI => ?_) .nil)
         ·refine r_call [0] cf31 rfl rfl (ok_gleemake_Stream_Odd b0_ s0_0_ a0_0 y80.2 0 5 hy81) rfl rfl (.cons (.ro 2 rfl) .nil) (fun _ => rfl) rfl (fun _ => ?_)
          refine lj_nil ?_
          refine cnI _ _ (sof1 rfl rfl (fun _ h => h.picks [1, 1, 1, 1] rfl)) ?_
          refine at_each (rs := [8]) (by kernel_rfl) (by decide) ?_
          refine (.cons rfl (fun I cnI => ?_) .nil)
          ·refine r_sb (vs := [.int .i64 y80.1]) (j := 1) ty3 rfl rfl rfl rfl rfl rfl rfl ?_
           refine lj_nil ?_
           refine cnI _ _ (sof2 rfl rfl (fun _ h => h.picks [2, 2, 2] rfl)) ?_
           refine at_take2 9 rfl (by kernel_rfl) (by kernel_rfl) (by kernel_rfl) (fun _ h => h.picks [1, 1, 1] rfl) rfl rfl (p_fab fl33_9 rfl) (fun _ h => h.picks [2, 2, 2] rfl) ?_
           refine at_each (rs := [10]) (by kernel_rfl) (by decide) ?_
           refine (.cons rfl (fun I cnI => ?_) .nil)
           ·refine r_sb (vs := [.int .i64 y81.1]) (j := 1) ty3 rfl rfl rfl rfl rfl rfl rfl ?_
            refine lj_nil ?_
            refine cnI _ _ (sof2 rfl rfl (fun _ h => h.picks [2, 2, 2] rfl)) ?_
            refine at_take2 11 rfl (by kernel_rfl) (by kernel_rfl) (by kernel_rfl) (fun _ h => h.picks [1, 1, 1] rfl) rfl rfl (p_fab fl33_7 rfl) (fun _ h => h.picks [2, 2, 2] rfl) ?_
            refine at_each (rs := [12]) (by kernel_rfl) (by decide) ?_
            refine (.cons rfl (fun I cnI => ?_) .nil)
            ·refine r_sb (vs := [.bool (!u24.2.2.2.2.1)]) (j := 1) ty4 rfl rfl rfl rfl rfl rfl rfl ?_
             refine lj_nil ?_
             refine cnI _ _ (sof2 rfl rfl (fun _ h => h.picks [2, 2, 2] rfl)) ?_
             refine at_done (by kernel_rfl) ?_
             refine nj_blk ?_
             exact cnk42 _ _ (y81.2, y14.1, ((lkM (putM u6.2.2.1 y14.1 (w64 (((lkM u6.2.2.1 y14.1).getD 0) + 1))) y14.1).getD 0), y16.1, u24.2.1, u24.2.2.1, y80.1, !u24.2.2.2.2.1, u24.2.2.2.2.2.1, y81.1) () (Option.some.inj hm).symm ⟨rfl, rfl, rfl, rfl, rfl, rfl, rfl, rfl, trivial⟩ (fun _ h => h.picks [0, 0, 0, 0, 0] rfl)
    ·have hm := ifB_f hb hm
     refine cj_skip ?_
     exact cnk42 _ _ (y39.2, y14.1, ((lkM (putM u6.2.2.1 y14.1 (w64 (((lkM u6.2.2.1 y14.1).getD 0) + 1))) y14.1).getD 0), y16.1, u24.2.1, u24.2.2.1, u24.2.2.2.1, u24.2.2.2.2.1, u24.2.2.2.2.2.1, u24.2.2.2.2.2.2) () (Option.some.inj hm).symm ⟨rfl, rfl, rfl, rfl, rfl, rfl, rfl, rfl, trivial⟩ (fun _ h => h.picks [0, 0, 0, 0, 0] rfl)
  ·have hm := hk26
   refine cj_blk ?_
   refine cj_seq ?_
   refine cj_reg ?_
   refine lp rfl (p_eql rfl rfl) ?_
   refine lp rfl (p_as rfl) ?_
   refine lj_seq ?_
   refine cj_if (b := y16.1 == 1) rfl (fun hb => ?_) (fun hb => ?_)
   ·have hm := ifB_t hb hm
    refine cj_reg ?_
    refine lp rfl (p_mv rfl) ?_
    refine lp rfl (p_mv rfl) ?_
    refine r_bs R3 [0, 500, 700] rfl rfl rfl (fun _ => by kernel_rfl) rfl (fun s27 => ?_)
    obtain ⟨y28, hy28, hm⟩ := bindS hm
    refine r_call [1] cf28 rfl rfl (ok_gleemake_Stream_Pick b0_ s0_0_ a0_0 y23.2 s27 [0, 500, 700] hy28) rfl rfl (.cons (.ro 8 rfl) (.cons (.row 0 rfl) .nil)) (fun _ => rfl) rfl (fun _ => ?_)
    refine lp rfl (p_fab fl33_4 rfl) ?_
    refine r_sb (vs := [.string y21.1]) (j := 4) ty9 rfl rfl rfl rfl rfl rfl rfl ?_
    refine lp rfl (p_fab fl33_6 rfl) ?_
    refine r_sb (vs := [.int .i64 y28.1]) (j := 4) ty3 rfl rfl rfl rfl rfl rfl rfl ?_
    refine lj_nil ?_
    refine nj_blk ?_
    exact cnk26 _ _ (y28.2, y21.1, ByteArray.empty, y28.1, false, ByteArray.empty, 0) () (Option.some.inj hm).symm ⟨rfl, rfl, rfl, rfl, rfl, rfl, rfl, rfl, trivial⟩ (fun _ h => h.picks [0, 3, 6, 6, 6] rfl)
   ·have hm := ifB_f hb hm
    refine cj_seq ?_
    refine cj_reg ?_
    refine lp rfl (p_eql rfl rfl) ?_
    refine lp rfl (p_as rfl) ?_
    refine lj_seq ?_
    refine cj_if (b := y16.1 == 2) rfl (fun hb => ?_) (fun hb => ?_)
    ·have hm := ifB_t hb hm
     refine cj_reg ?_
     refine lp rfl (p_mv rfl) ?_
     refine lp rfl (p_fab fl33_4 rfl) ?_
     refine r_sb (vs := [.string y21.1]) (j := 3) ty9 rfl rfl rfl rfl rfl rfl rfl ?_
     refine lj_nil ?_
     refine nj_blk ?_
     exact cnk26 _ _ (y23.2, y21.1, ByteArray.empty, 0, false, ByteArray.empty, 0) () (Option.some.inj hm).symm ⟨rfl, rfl, rfl, rfl, rfl, rfl, rfl, rfl, trivial⟩ (fun _ h => h.picks [0, 2, 5, 5, 5] rfl)
    ·have hm := ifB_f hb hm
     refine cj_seq ?_
     refine cj_reg ?_
     refine lp rfl (p_eql rfl rfl) ?_
     refine lp rfl (p_as rfl) ?_
     refine lj_seq ?_
     refine cj_if (b := y16.1 == 3) rfl (fun hb => ?_) (fun hb => ?_)
     ·have hm := ifB_t hb hm
      refine cj_reg ?_
      refine lp rfl (p_mv rfl) ?_
      refine lp rfl (p_mv rfl) ?_
      refine r_bs R3 [1, 500, 1200] rfl rfl rfl (fun _ => by kernel_rfl) rfl (fun s29 => ?_)
      obtain ⟨y30, hy30, hm⟩ := bindS hm
      refine r_call [1] cf28 rfl rfl (ok_gleemake_Stream_Pick b0_ s0_0_ a0_0 y23.2 s29 [1, 500, 1200] hy30) rfl rfl (.cons (.ro 8 rfl) (.cons (.row 0 rfl) .nil)) (fun _ => rfl) rfl (fun _ => ?_)
      refine lp rfl (p_fab fl33_4 rfl) ?_
      refine r_sb (vs := [.string y21.1]) (j := 4) ty9 rfl rfl rfl rfl rfl rfl rfl ?_
      refine lp rfl (p_fab fl33_6 rfl) ?_
      refine r_sb (vs := [.int .i64 y30.1]) (j := 4) ty3 rfl rfl rfl rfl rfl rfl rfl ?_
      refine lj_nil ?_
      refine nj_blk ?_
      exact cnk26 _ _ (y30.2, y21.1, ByteArray.empty, y30.1, false, ByteArray.empty, 0) () (Option.some.inj hm).symm ⟨rfl, rfl, rfl, rfl, rfl, rfl, rfl, rfl, trivial⟩ (fun _ h => h.picks [0, 3, 6, 6, 6] rfl)
     ·have hm := ifB_f hb hm
      refine cj_seq ?_
      refine cj_seq ?_
      refine cj_reg ?_
      refine lp rfl (p_eql rfl rfl) ?_
      refine lp rfl (p_as rfl) ?_
      refine lj_seq ?_
      obtain ⟨k33, hk33, hm⟩ := bindS hm
      have hRk33 : ∀ t, k33 = .inr t → some t = some k26 := fun t e => by rw [e] at hm; exact hm
      refine cj_joinK (σ := Bool) (γ := Unit) (fun u31 => k33 = .inl u31) (fun u31 g32 => [(0, .pointer (some ⟨b0_, 0, none⟩)), (4, .slice none 0 0), (5, g7.2.2.v), (6, .int .i64 (w64 (u6.1 + y12.1))), (7, .map (some b1)), (8, .pointer (some ⟨b17, 0, none⟩)), (9, .string y21.1), (10, .string y23.1), (12, .int .i64 a1), (13, .int .i64 (i2 : Int)), (45, .int .i64 y16.1), (76, .bool u31)]) (fun u31 g32 => Sat w0 (keys [.box b0_ 25 [s0_0_.v, .int .i64 a0_1]]) A [.box b0_ 25 [s0_0_.v, .int .i64 y23.2], .box b17 33 [.string y14.1, .int .i64 ((lkM (putM u6.2.2.1 y14.1 (w64 (((lkM u6.2.2.1 y14.1).getD 0) + 1))) y14.1).getD 0), .int .i64 (w64 (u6.1 + y12.1)), .int .i64 y16.1, .string ByteArray.empty, .string ByteArray.empty, .int .i64 0, .bool false, .string ByteArray.empty, .int .i64 0], .obj (mapO kv9 b1 (mpV vv3 (putM u6.2.2.1 y14.1 (w64 (((lkM u6.2.2.1 y14.1).getD 0) + 1)))) es18 cl19), .ro (RdS R3 (SV.v s0_0_) a0_0), .row R33 (SV.v g7.2.2) u6.2.2.2]) (fun u31 g32 hq => ?_) (fun J cnk33 => ?_)
      ·have hm := Sum.fin_l hq hm
       refine cj_if (b := u31) rfl (fun hb => ?_) (fun hb => ?_)
       ·have hm := ifB_t hb hm
        refine cj_reg ?_
        refine lp rfl (p_mv rfl) ?_
        refine lp rfl (p_fab fl33_5 rfl) ?_
        refine r_sb (vs := [.string y23.1]) (j := 1) ty9 rfl rfl rfl rfl rfl rfl rfl ?_
        refine lj_nil ?_
        refine nj_blk ?_
        exact cnk26 _ _ (y23.2, ByteArray.empty, y23.1, 0, false, ByteArray.empty, 0) () (Option.some.inj hm).symm ⟨rfl, rfl, rfl, rfl, rfl, rfl, rfl, rfl, trivial⟩ (fun _ h => h.picks [0, 0, 0, 0, 0] rfl)
       ·have hm := ifB_f hb hm
        refine cj_seq ?_
        refine cj_reg ?_
        refine lp rfl (p_eql rfl rfl) ?_
        refine lp rfl (p_as rfl) ?_
        refine lj_seq ?_
        refine cj_if (b := y16.1 == 5) rfl (fun hb => ?_) (fun hb => ?_)
        ·have hm := ifB_t hb hm
         refine cj_reg ?_
         refine lp rfl (p_mv rfl) ?_
         refine lp rfl (p_mv rfl) ?_
         refine lp rfl (p_mv rfl) ?_
         obtain ⟨y34, hy34, hm⟩ := bindS hm
         refine r_call [0] cf30 rfl rfl (ok_gleemake_Stream_Flip b0_ s0_0_ a0_0 y23.2 2 hy34) rfl rfl (.cons (.ro 2 rfl) .nil) (fun _ => rfl) rfl (fun _ => ?_)
         refine lp rfl (p_fab fl33_4 rfl) ?_
         refine r_sb (vs := [.string y21.1]) (j := 1) ty9 rfl rfl rfl rfl rfl rfl rfl ?_
         refine lp rfl (p_fab fl33_5 rfl) ?_
         refine r_sb (vs := [.string y23.1]) (j := 1) ty9 rfl rfl rfl rfl rfl rfl rfl ?_
         refine lp rfl (p_fab fl33_7 rfl) ?_
         refine r_sb (vs := [.bool y34.1]) (j := 1) ty4 rfl rfl rfl rfl rfl rfl rfl ?_
         refine lj_nil ?_
         refine nj_blk ?_
         exact cnk26 _ _ (y34.2, y21.1, y23.1, 0, y34.1, ByteArray.empty, 0) () (Option.some.inj hm).symm ⟨rfl, rfl, rfl, rfl, rfl, rfl, rfl, rfl, trivial⟩ (fun _ h => h.picks [0, 0, 0, 0, 0] rfl)
        ·have hm := ifB_f hb hm
         obtain ⟨y36, hy36, hm⟩ := bindS hm
         obtain ⟨y37, hy37, hm⟩ := bindS hm
         refine cj_anyT [0, 3, 4, 5, 6, 8, 10] [9, 10, 11] (Sat w0 (keys [.box b0_ 25 [s0_0_.v, .int .i64 a0_1]]) A [.box b17 33 [.string y14.1, .int .i64 ((lkM (putM u6.2.2.1 y14.1 (w64 (((lkM u6.2.2.1 y14.1).getD 0) + 1))) y14.1).getD 0), .int .i64 (w64 (u6.1 + y12.1)), .int .i64 y16.1, .string ByteArray.empty, .string ByteArray.empty, .int .i64 0, .bool false, .string ByteArray.empty, .int .i64 0], .obj (mapO kv9 b1 (mpV vv3 (putM u6.2.2.1 y14.1 (w64 (((lkM u6.2.2.1 y14.1).getD 0) + 1)))) es18 cl19), .ro (RdS R3 (SV.v s0_0_) a0_0), .row R33 (SV.v g7.2.2) u6.2.2.2]) (Sat w0 (keys [.box b0_ 25 [s0_0_.v, .int .i64 a0_1]]) A [.obj (mapO kv9 b1 (mpV vv3 (putM u6.2.2.1 y14.1 (w64 (((lkM u6.2.2.1 y14.1).getD 0) + 1)))) es18 cl19), .ro (RdS R3 (SV.v s0_0_) a0_0), .row R33 (SV.v g7.2.2) u6.2.2.2]) (by kernel_rfl) ?_
         refine at_take2 0 rfl (by kernel_rfl) (by kernel_rfl) (by kernel_rfl) (fun _ h => h.picks [1, 1, 1] rfl) rfl rfl (p_mv rfl) (fun _ h => h.picks [2, 2, 2] rfl) ?_
         refine at_take2 3 rfl (by kernel_rfl) (by kernel_rfl) (by kernel_rfl) (fun _ h => h.picks [1, 1, 1] rfl) rfl rfl (p_mv rfl) (fun _ h => h.picks [2, 2, 2] rfl) ?_
         refine at_take2 4 rfl (by kernel_rfl) (by kernel_rfl) (by kernel_rfl) (fun _ h => h.picks [1, 1, 1] rfl) rfl rfl (p_mv rfl) (fun _ h => h.picks [2, 2, 2] rfl) ?_
         refine at_take2 5 rfl (by kernel_rfl) (by kernel_rfl) (by kernel_rfl) (fun _ h => h.picks [1, 1, 1] rfl) rfl rfl (p_lkm (vv := vv3) (k := (ByteArray.mk [115, 97].toArray)) (z := 0) Tryz.underlying51 (keyF9) (fun _ => by kernel_rfl) (.map 0 rfl) rfl rfl) (fun _ h => h.picks [2, 2, 2] rfl) ?_
         refine at_take2 6 rfl (by kernel_rfl) (by kernel_rfl) (by kernel_rfl) (fun _ h => h.picks [1, 1, 1] rfl) rfl rfl (p_max rfl rfl) (fun _ h => h.picks [2, 2, 2] rfl) ?_
         refine at_each (rs := [1]) (by kernel_rfl) (by decide) ?_
         refine (.cons rfl (fun I cnI => ?_) .nil)
         ·refine r_bs R9 [(ByteArray.mk [115, 97].toArray), (ByteArray.mk [115, 97].toArray), (ByteArray.mk [115, 98].toArray)] rfl rfl rfl (fun _ => by kernel_rfl) rfl (fun s38 => ?_)
          refine lj_nil ?_
          refine cnI _ _ (sof1 rfl rfl (fun _ h => h.picks [2, 2, 2, 2] rfl)) ?_
          refine at_each (rs := [2]) (by kernel_rfl) (by decide) ?_
          refine (.cons rfl (fun I cnI => ?_) .nil)
          ·refine r_call [1] cf29 rfl rfl (ok_gleemake_Stream_Some b0_ s0_0_ a0_0 y23.2 s38 [(ByteArray.mk [115, 97].toArray), (ByteArray.mk [115, 97].toArray), (ByteArray.mk [115, 98].toArray)] hy36) rfl rfl (.cons (.ro 3 rfl) (.cons (.row 0 rfl) .nil)) (fun _ => rfl) rfl (fun _ => ?_)
           refine lj_nil ?_
           refine cnI _ _ (sof1 rfl rfl (fun _ h => h.picks [2, 2, 2, 2] rfl)) ?_
           refine at_take2 8 rfl (by kernel_rfl) (by kernel_rfl) (by kernel_rfl) (fun _ h => h.picks [1, 1, 1] rfl) rfl rfl (p_fab fl33_8 rfl) (fun _ h => h.picks [3, 3, 3] rfl) ?_
           refine at_each (rs := [7]) (by kernel_rfl) (by decide) ?_
           refine (.cons rfl (fun I cnI => ?_) .nil)
           ·refine r_call [0] cf5 rfl rfl (ok_gleemake_Stream_Range b0_ s0_0_ a0_0 y36.2 1 (max 1 ((lkM (putM u6.2.2.1 y14.1 (w64 (((lkM u6.2.2.1 y14.1).getD 0) + 1))) (ByteArray.mk [115, 97].toArray)).getD 0)) hy37) rfl rfl (.cons (.ro 3 rfl) .nil) (fun _ => rfl) rfl (fun _ => ?_)
            refine lj_nil ?_
            refine cnI _ _ (sof1 rfl rfl (fun _ h => h.picks [2, 2, 2, 2] rfl)) ?_
            refine at_each (rs := [9]) (by kernel_rfl) (by decide) ?_
            refine (.cons rfl (fun I cnI => ?_) .nil)
            ·refine r_sb (vs := [.string y36.1]) (j := 2) ty9 rfl rfl rfl rfl rfl rfl rfl ?_
             refine lj_nil ?_
             refine cnI _ _ (sof2 rfl rfl (fun _ h => h.picks [3, 3, 3] rfl)) ?_
             refine at_take2 10 rfl (by kernel_rfl) (by kernel_rfl) (by kernel_rfl) (fun _ h => h.picks [1, 1, 1] rfl) rfl rfl (p_fab fl33_9 rfl) (fun _ h => h.picks [3, 3, 3] rfl) ?_
             refine at_each (rs := [11]) (by kernel_rfl) (by decide) ?_
             refine (.cons rfl (fun I cnI => ?_) .nil)
             ·refine r_sb (vs := [.int .i64 y37.1]) (j := 2) ty3 rfl rfl rfl rfl rfl rfl rfl ?_
              refine lj_nil ?_
              refine cnI _ _ (sof2 rfl rfl (fun _ h => h.picks [3, 3, 3] rfl)) ?_
              refine at_done (by kernel_rfl) ?_
              refine nj_blk ?_
              exact cnk26 _ _ (y37.2, ByteArray.empty, ByteArray.empty, 0, false, y36.1, y37.1) () (Option.some.inj hm).symm ⟨rfl, rfl, rfl, rfl, rfl, rfl, rfl, rfl, trivial⟩ (fun _ h => h.picks [0, 1, 1, 1, 1] rfl)
      ·have hm := hk33
       refine cj_if (b := y16.1 == 4) rfl (fun hb => ?_) (fun hb => ?_)
       ·have hm := ifB_t hb hm
        refine cj_skip ?_
        exact cnk33 _ _ (y16.1 == 4) () (Option.some.inj hm).symm ⟨rfl, rfl, rfl, rfl, rfl, rfl, rfl, rfl, rfl, rfl, rfl, rfl, trivial⟩ (fun _ h => h.picks [0, 2, 5, 5, 5] rfl)
       ·have hm := ifB_f hb hm
        refine cj_reg ?_
        refine lp rfl (p_eql rfl rfl) ?_
        refine lp rfl (p_as rfl) ?_
        refine lj_nil ?_
        exact cnk33 _ _ (y16.1 == 6) () (Option.some.inj hm).symm ⟨rfl, rfl, rfl, rfl, rfl, rfl, rfl, rfl, rfl, rfl, rfl, rfl, trivial⟩ (fun _ h => h.picks [0, 2, 5, 5, 5] rfl)
theorem ok_gleeref2_in (a0 : Int) (a1 : Int) (a2 : Int) {r : Bool} (hm : m_gleeref2_in a0 a1 a2 = some r) :
  Ctr Tryz.prog 65 [.int .i64 a0, .int .i64 a1, .int .i64 a2].toArray ([] : List Ent) [] (X := Unit) (fun _ => .bool r) (fun _ => []) := by
 unfold m_gleeref2_in at hm
 refine ctr_mk (vs := [(0, .int .i64 a0), (1, .int .i64 a1), (2, .int .i64 a2)]) Tryz.func65 rfl Tryz.ntmps65 rfl ⟨rfl, rfl, rfl, trivial⟩ (fun w0 A => ?_)
 refine cj_seq ?_
 refine cj_reg ?_
 refine lp rfl (p_as rfl) ?_
 refine lj_seq ?_
 refine cj_seq ?_
 refine cj_reg ?_
 refine lp rfl (p_mv rfl) ?_
 refine lp rfl (p_mv rfl) ?_
 refine lp rfl (p_leq rfl rfl) ?_
 refine lp rfl (p_mv rfl) ?_
 refine lcase (i := 10) (decide (a1 ≤ a0)) rfl (fun hb => ?_) (fun hb => ?_)
 ·have hm := ifB_t hb hm
  refine lg true rfl rfl rfl ?_
  refine lp rfl (p_mv rfl) ?_
  refine lg true rfl rfl rfl ?_
  refine lp rfl (p_mv rfl) ?_
  refine lg true rfl rfl rfl ?_
  refine lp rfl (p_leq rfl rfl) ?_
  refine lp rfl (p_pkt rfl rfl) ?_
  refine lp rfl (p_as rfl) ?_
  refine lj_seq ?_
  obtain rfl := Option.some.inj hm
  exact cj_rt () [] Tryz.results65 (.tmp rfl .nil) rfl rfl
 ·have hm := ifB_f hb hm
  refine ls true rfl rfl rfl rfl ?_
  refine ls true rfl rfl rfl rfl ?_
  refine ls true rfl rfl rfl rfl ?_
  refine lp rfl (p_pkf rfl rfl) ?_
  refine lp rfl (p_as rfl) ?_
  refine lj_seq ?_
  obtain rfl := Option.some.inj hm
  exact cj_rt () [] Tryz.results65 (.tmp rfl .nil) rfl rfl
theorem ok_gleeref2_only (a0 : ByteArray) (a1 : ByteArray) {r : Bool} (hm : m_gleeref2_only a0 a1 = some r) :
  Ctr Tryz.prog 94 [.string a0, .string a1].toArray ([] : List Ent) [] (X := Unit) (fun _ => .bool r) (fun _ => []) := by
 unfold m_gleeref2_only at hm
 refine ctr_mk (vs := [(0, .string a0), (1, .string a1)]) Tryz.func94 rfl Tryz.ntmps94 rfl ⟨rfl, rfl, trivial⟩ (fun w0 A => ?_)
 refine cj_seq ?_
 refine cj_reg ?_
 refine lp rfl (p_as rfl) ?_
 refine lj_seq ?_
 refine cj_seq ?_
 refine cj_seq ?_
 refine cj_reg ?_
 refine lp rfl (p_mv rfl) ?_
 refine lp rfl (p_lens Tryz.underlying9 rfl) ?_
 refine lp rfl (p_mv rfl) ?_
 refine lj_seq ?_
 obtain ⟨L10, hL10, hm⟩ := bindS hm
 obtain ⟨f7, hf7, hm⟩ := bindS hm
 refine cj_range (γ := Unit) (m := (a0.size : Int)) hf7 () (fun u4 g5 => [(0, .string a0), (1, .string a1), (4, .bool false)]) (fun u4 g5 => Sat w0 (keys ([] : List Ent)) A []) ⟨rfl, rfl, rfl, rfl, rfl, trivial⟩ (fun _ h => h.picks [] rfl) (rangeI_spec hL10).1 (fun _ _ => (rangeI_spec hL10).2) (fun _ _ => ⟨rfl, rfl, rfl, rfl⟩) ⟨rfl, rfl, rfl, rfl, rfl⟩ rfl rfl rfl (fun u4 g5 e => ?_) (fun aftk6 i1 x2 u4 g5 k6 hx3 hs J hJk6 hBk6 hX I cnk6 => ?_)
 ·have hm := Flow.fin_b e hm
  refine nj_seq ?_
  refine cj_seq ?_
  refine cj_reg ?_
  refine lp rfl (p_as rfl) ?_
  refine lj_seq ?_
  obtain rfl := Option.some.inj hm
  exact cj_rt () [] Tryz.results94 (.tmp rfl .nil) rfl rfl
 ·have hRk6 : ∀ t, k6 = .ret t → some t = some r := fun t e => by rw [hX t e] at hm; exact hm
  have hm := hs
  refine cj_seq ?_
  refine cj_reg ?_
  refine lp rfl (p_mv rfl) ?_
  refine lp rfl (p_as rfl) ?_
  refine lj_seq ?_
  refine cj_seq ?_
  refine cj_reg ?_
  refine lp rfl (p_mv rfl) ?_
  refine lp rfl (p_mv rfl) ?_
  refine lp rfl (p_mv rfl) ?_
  obtain ⟨c8, hc8, hm⟩ := bindS hm
  refine lp rfl (p_stri Tryz.underlying9 rfl rfl hc8) ?_
  obtain ⟨y9, hy9, hm⟩ := bindS hm
  refine r_call [] cf104 rfl rfl (ok_strings_IndexByte a1 c8 hy9) rfl rfl .nil (fun _ => rfl) rfl (fun _ => ?_)
  refine lp rfl (p_lss rfl rfl) ?_
  refine lj_seq ?_
  refine cj_if (b := decide (y9 < 0)) rfl (fun hb => ?_) (fun hb => ?_)
  ·have hm := ifB_t hb hm
   refine cj_seq ?_
   refine cj_reg ?_
   refine lp rfl (p_as rfl) ?_
   refine lj_seq ?_
   have hm := hRk6 _ (Option.some.inj hm).symm
   obtain rfl := Option.some.inj hm
   exact cj_rt () [] Tryz.results94 (.tmp rfl .nil) rfl rfl
  ·have hm := ifB_f hb hm
   refine cj_skip ?_
   refine nj_blk ?_
   exact cnk6 _ _ () () (hJk6 _ (Option.some.inj hm).symm) ⟨rfl, rfl, rfl, rfl, rfl, trivial⟩ (fun _ h => h.picks [] rfl)
theorem ok_gleeref2_Key (a0 : ByteArray) {r : Bool} (hm : m_gleeref2_Key a0 = some r) :
  Ctr Tryz.prog 64 [.string a0].toArray ([] : List Ent) [] (X := Unit) (fun _ => .bool r) (fun _ => []) := by
 unfold m_gleeref2_Key at hm
 refine ctr_mk (vs := [(0, .string a0)]) Tryz.func64 rfl Tryz.ntmps64 rfl ⟨rfl, trivial⟩ (fun w0 A => ?_)
 refine cj_seq ?_
 refine cj_reg ?_
 refine lp rfl (p_as rfl) ?_
 refine lj_seq ?_
 refine cj_seq ?_
 refine cj_reg ?_
 refine lp rfl (p_mv rfl) ?_
 refine lp rfl (p_lens Tryz.underlying9 rfl) ?_
 obtain ⟨y1, hy1, hm⟩ := bindS hm
 refine r_call [] cf65 rfl rfl (ok_gleeref2_in (a0.size : Int) 1 40 hy1) rfl rfl .nil (fun _ => rfl) rfl (fun _ => ?_)
 refine lp rfl (p_mv rfl) ?_
 refine lcase (i := 6) y1 rfl (fun hb => ?_) (fun hb => ?_)
 ·have hm := ifB_t hb hm
  refine lg true rfl rfl rfl ?_
  refine lp rfl (p_mv rfl) ?_
  refine lg true rfl rfl rfl ?_
  obtain ⟨c2, hc2, hm⟩ := bindS hm
  refine lp rfl (p_strs Tryz.underlying9 rfl rfl rfl rfl rfl rfl rfl hc2) ?_
  refine lg true rfl rfl rfl ?_
  obtain ⟨y3, hy3, hm⟩ := bindS hm
  refine r_call [] cf94 rfl rfl (ok_gleeref2_only c2 (ByteArray.mk [97, 98, 99, 100, 101, 102, 103, 104, 105, 106, 107, 108, 109, 110, 111, 112, 113, 114, 115, 116, 117, 118, 119, 120, 121, 122].toArray) hy3) rfl rfl .nil (fun _ => rfl) rfl (fun _ => ?_)
  refine lp rfl (p_pkt rfl rfl) ?_
  refine lp rfl (p_mv rfl) ?_
  refine lcase (i := 11) y3 rfl (fun hb => ?_) (fun hb => ?_)
  ·have hm := ifB_t hb hm
   refine lg true rfl rfl rfl ?_
   refine lp rfl (p_mv rfl) ?_
   refine lg true rfl rfl rfl ?_
   obtain ⟨y4, hy4, hm⟩ := bindS hm
   refine r_call [] cf94 rfl rfl (ok_gleeref2_only a0 (ByteArray.mk [97, 98, 99, 100, 101, 102, 103, 104, 105, 106, 107, 108, 109, 110, 111, 112, 113, 114, 115, 116, 117, 118, 119, 120, 121, 122, 48, 49, 50, 51, 52, 53, 54, 55, 56, 57, 45, 95].toArray) hy4) rfl rfl .nil (fun _ => rfl) rfl (fun _ => ?_)
   refine lp rfl (p_pkt rfl rfl) ?_
   refine lp rfl (p_as rfl) ?_
   refine lj_seq ?_
   obtain rfl := Option.some.inj hm
   exact cj_rt () [] Tryz.results64 (.tmp rfl .nil) rfl rfl
  ·have hm := ifB_f hb hm
   refine ls true rfl rfl rfl rfl ?_
   refine ls true rfl rfl rfl rfl ?_
   refine lp rfl (p_pkf rfl rfl) ?_
   refine lp rfl (p_as rfl) ?_
   refine lj_seq ?_
   obtain rfl := Option.some.inj hm
   exact cj_rt () [] Tryz.results64 (.tmp rfl .nil) rfl rfl
 ·have hm := ifB_f hb hm
  refine ls true rfl rfl rfl rfl ?_
  refine ls true rfl rfl rfl rfl ?_
  refine ls true rfl rfl rfl rfl ?_
  refine lp rfl (p_pkf rfl rfl) ?_
  refine lp rfl (p_mv rfl) ?_
  refine ls true rfl rfl rfl rfl ?_
  refine ls true rfl rfl rfl rfl ?_
  refine lp rfl (p_pkf rfl rfl) ?_
  refine lp rfl (p_as rfl) ?_
  refine lj_seq ?_
  obtain rfl := Option.some.inj hm
  exact cj_rt () [] Tryz.results64 (.tmp rfl .nil) rfl rfl
theorem ok_gleeref2_Moment (a0 : Int) {r : Bool} (hm : m_gleeref2_Moment a0 = some r) :
  Ctr Tryz.prog 66 [.int .i64 a0].toArray ([] : List Ent) [] (X := Unit) (fun _ => .bool r) (fun _ => []) := by
 unfold m_gleeref2_Moment at hm
 refine ctr_mk (vs := [(0, .int .i64 a0)]) Tryz.func66 rfl Tryz.ntmps66 rfl ⟨rfl, trivial⟩ (fun w0 A => ?_)
 refine cj_seq ?_
 refine cj_reg ?_
 refine lp rfl (p_as rfl) ?_
 refine lj_seq ?_
 refine cj_seq ?_
 refine cj_reg ?_
 refine lp rfl (p_mv rfl) ?_
 obtain ⟨y1, hy1, hm⟩ := bindS hm
 refine r_call [] cf65 rfl rfl (ok_gleeref2_in a0 0 345686399999 hy1) rfl rfl .nil (fun _ => rfl) rfl (fun _ => ?_)
 refine lp rfl (p_as rfl) ?_
 refine lj_seq ?_
 obtain rfl := Option.some.inj hm
 exact cj_rt () [] Tryz.results66 (.tmp rfl .nil) rfl rfl
theorem ok_slices_Index_int_int (s0_ : SV) (a0 : (List Int)) (a1 : Int) {r : Int} (hm : m_slices_Index_int_int a0 a1 = some r) :
  Ctr Tryz.prog 23 [s0_.v, .int .i64 a1].toArray ([] : List Ent) [RdS R3 (SV.v s0_) a0] (X := Unit) (fun _ => .int .i64 r) (fun _ => []) := by
 unfold m_slices_Index_int_int at hm
 refine ctr_mk (vs := [(0, s0_.v), (1, .int .i64 a1)]) Tryz.func23 rfl Tryz.ntmps23 rfl ⟨rfl, rfl, trivial⟩ (fun w0 A => ?_)
 refine cj_seq ?_
 refine cj_reg ?_
 refine lp rfl (p_as rfl) ?_
 refine lj_seq ?_
 refine cj_seq ?_
 refine cj_seq ?_
 refine cj_reg ?_
 refine lp rfl (p_mv rfl) ?_
 refine lp rfl (p_len Tryz.underlying22 rfl (.ro 0 rfl)) ?_
 refine lp rfl (p_mv rfl) ?_
 refine lj_seq ?_
 obtain ⟨f7, hf7, hm⟩ := bindS hm
 refine cj_range (γ := Unit) (m := (a0.length : Int)) hf7 () (fun u4 g5 => [(0, s0_.v), (1, .int .i64 a1), (4, .int .i64 0)]) (fun u4 g5 => Sat w0 (keys ([] : List Ent)) A [.ro (RdS R3 (SV.v s0_) a0)]) ⟨rfl, rfl, rfl, rfl, rfl, trivial⟩ (fun _ h => h.picks [0] rfl) (nat_lt _) (fun _ h => (FactAt.get (F := RdS R3 (SV.v s0_) a0) (.ro 0 rfl) h).1) (fun _ _ => ⟨rfl, rfl, rfl, rfl⟩) ⟨rfl, rfl, rfl, rfl, rfl⟩ rfl rfl rfl (fun u4 g5 e => ?_) (fun aftk6 i1 x2 u4 g5 k6 hx3 hs J hJk6 hBk6 hX I cnk6 => ?_)
 ·have hm := Flow.fin_b e hm
  refine nj_seq ?_
  refine cj_seq ?_
  refine cj_reg ?_
  refine lp rfl (p_as rfl) ?_
  refine lj_seq ?_
  obtain rfl := Option.some.inj hm
  exact cj_rt () [] Tryz.results23 (.tmp rfl .nil) rfl rfl
 ·have hRk6 : ∀ t, k6 = .ret t → some t = some r := fun t e => by rw [hX t e] at hm; exact hm
  have hm := hs
  refine cj_seq ?_
  refine cj_reg ?_
  refine lp rfl (p_mv rfl) ?_
  refine lp rfl (p_as rfl) ?_
  refine lj_seq ?_
  refine cj_seq ?_
  refine cj_reg ?_
  refine lp rfl (p_mv rfl) ?_
  refine lp rfl (p_mv rfl) ?_
  refine lp rfl (p_mv rfl) ?_
  refine lp rfl (p_idx Tryz.underlying22 ty3 rfl rfl (.ro 0 rfl) (getI_nat.trans hx3)) ?_
  refine lp rfl (p_lde (o := 0) ty3 rfl rfl (.ro 0 rfl) hx3 rfl) ?_
  refine lp rfl (p_eql rfl rfl) ?_
  refine lj_seq ?_
  refine cj_if (b := a1 == x2) rfl (fun hb => ?_) (fun hb => ?_)
  ·have hm := ifB_t hb hm
   refine cj_seq ?_
   refine cj_reg ?_
   refine lp rfl (p_mv rfl) ?_
   refine lp rfl (p_as rfl) ?_
   refine lj_seq ?_
   have hm := hRk6 _ (Option.some.inj hm).symm
   obtain rfl := Option.some.inj hm
   exact cj_rt () [] Tryz.results23 (.tmp rfl .nil) rfl rfl
  ·have hm := ifB_f hb hm
   refine cj_skip ?_
   refine nj_blk ?_
   exact cnk6 _ _ () () (hJk6 _ (Option.some.inj hm).symm) ⟨rfl, rfl, rfl, rfl, rfl, trivial⟩ (fun _ h => h.picks [0] rfl)
theorem ok_slices_Contains_int_int (s0_ : SV) (a0 : (List Int)) (a1 : Int) {r : Bool} (hm : m_slices_Contains_int_int a0 a1 = some r) :
  Ctr Tryz.prog 13 [s0_.v, .int .i64 a1].toArray ([] : List Ent) [RdS R3 (SV.v s0_) a0] (X := Unit) (fun _ => .bool r) (fun _ => []) := by
 unfold m_slices_Contains_int_int at hm
 refine ctr_mk (vs := [(0, s0_.v), (1, .int .i64 a1)]) Tryz.func13 rfl Tryz.ntmps13 rfl ⟨rfl, rfl, trivial⟩ (fun w0 A => ?_)
 refine cj_seq ?_
 refine cj_reg ?_
 refine lp rfl (p_as rfl) ?_
 refine lj_seq ?_
 refine cj_seq ?_
 refine cj_reg ?_
 refine lp rfl (p_mv rfl) ?_
 refine lp rfl (p_mv rfl) ?_
 obtain ⟨y1, hy1, hm⟩ := bindS hm
 refine r_call [] cf23 rfl rfl (ok_slices_Index_int_int s0_ a0 a1 hy1) rfl rfl (.cons (.ro 0 rfl) .nil) (fun _ => rfl) rfl (fun _ => ?_)
 refine lp rfl (p_geq rfl rfl) ?_
 refine lp rfl (p_as rfl) ?_
 refine lj_seq ?_
 obtain rfl := Option.some.inj hm
 exact cj_rt () [] Tryz.results13 (.tmp rfl .nil) rfl rfl
theorem ok_gleeref2_ActFault_1 (s0_ : SV) (a0 : (List Int)) (b1_ : Nat) (a1_0 : ByteArray) (a1_1 : Int) (a1_2 : Int) (a1_3 : Int) (a1_4 : ByteArray) (a1_5 : ByteArray) (a1_6 : Int) (a1_7 : Bool) (a1_8 : ByteArray) (a1_9 : Int) {r : Bool} (hm : m_gleeref2_ActFault_1 a0 a1_0 a1_1 a1_2 a1_3 a1_4 a1_5 a1_6 a1_7 a1_8 a1_9 = some r) :
  Ctr Tryz.prog 67 [s0_.v, .pointer (some ⟨b1_, 0, none⟩)].toArray ([] : List Ent) [RdS R3 (SV.v s0_) a0, BoxS b1_ 33 [.string a1_0, .int .i64 a1_1, .int .i64 a1_2, .int .i64 a1_3, .string a1_4, .string a1_5, .int .i64 a1_6, .bool a1_7, .string a1_8, .int .i64 a1_9]] (X := Unit) (fun _ => .bool r) (fun _ => []) := by
 unfold m_gleeref2_ActFault_1 at hm
 refine ctr_mk (vs := [(0, s0_.v), (1, .pointer (some ⟨b1_, 0, none⟩))]) Tryz.func67 rfl Tryz.ntmps67 rfl ⟨rfl, rfl, trivial⟩ (fun w0 A => ?_)
 refine cj_seq ?_
 refine cj_reg ?_
 refine lp rfl (p_as rfl) ?_
 refine lj_seq ?_
 refine cj_seq ?_
 refine cj_reg ?_
 refine lp rfl (p_mv rfl) ?_
 refine lp rfl (p_fab fl33_3 rfl) ?_
 refine lp rfl (p_rbs ty3 rfl (.ro 1 rfl) rfl) ?_
 obtain ⟨y1, hy1, hm⟩ := bindS hm
 refine r_call [] cf13 rfl rfl (ok_slices_Contains_int_int s0_ a0 a1_3 hy1) rfl rfl (.cons (.ro 0 rfl) .nil) (fun _ => rfl) rfl (fun _ => ?_)
 refine lp rfl (p_as rfl) ?_
 refine lj_seq ?_
 obtain rfl := Option.some.inj hm
 exact cj_rt () [] Tryz.results67 (.tmp rfl .nil) rfl rfl
theorem ok_gleeref2_ActFault (a0 : TAct) {r : Int} (hm : m_gleeref2_ActFault a0 = some r) :
  Ctr Tryz.prog 34 [.agg (R33.enc a0).toArray].toArray ([] : List Ent) [] (X := Unit) (fun _ => .int .i64 r) (fun _ => []) := by
 unfold m_gleeref2_ActFault at hm
 refine ctr_mk (vs := [(0, .agg (R33.enc a0).toArray)]) Tryz.func34 rfl Tryz.ntmps34 rfl ⟨rfl, trivial⟩ (fun w0 A => ?_)
 refine cj_seq ?_
 refine cj_reg ?_
 refine r_bx (cs := [.string a0.Site, .int .i64 a0.No, .int .i64 a0.At, .int .i64 a0.Kind, .string a0.Who, .string a0.Motion, .int .i64 a0.Cents, .bool a0.Yes, .string a0.Of, .int .i64 a0.Other]) rfl rfl rfl (fun b1 => ?_)
 refine lp rfl (p_as rfl) ?_
 refine lj_seq ?_
 refine cj_seq ?_
 refine cj_blk ?_
 refine cj_seq ?_
 refine cj_reg ?_
 refine lp rfl (p_fab fl33_0 rfl) ?_
 refine lp rfl (p_lbs ty9 rfl (j := 0) rfl rfl) ?_
 obtain ⟨y2, hy2, hm⟩ := bindS hm
 refine r_call [] cf64 rfl rfl (ok_gleeref2_Key a0.Site hy2) rfl rfl .nil (fun _ => rfl) rfl (fun _ => ?_)
 refine lp rfl (p_not rfl) ?_
 refine lp rfl (p_as rfl) ?_
 refine lj_seq ?_
 refine cj_if (b := !y2) rfl (fun hb => ?_) (fun hb => ?_)
 ·have hm := ifB_t hb hm
  refine cj_seq ?_
  refine cj_reg ?_
  refine lp rfl (p_as rfl) ?_
  refine lj_seq ?_
  obtain rfl := Option.some.inj hm
  exact cj_rt () [] Tryz.results34 (.tmp rfl .nil) rfl rfl
 ·have hm := ifB_f hb hm
  refine cj_seq ?_
  refine cj_reg ?_
  obtain ⟨k5, hk5, hm⟩ := bindS hm
  have hRk5 : ∀ t, k5 = .inr t → some t = some r := fun t e => by rw [e] at hm; exact hm
  refine lj_join (σ := Bool) (γ := Unit) (fun u3 => k5 = .inl u3) (fun u3 g4 => [(1, .pointer (some ⟨b1, 0, none⟩)), (2, .int .i64 0), (11, .bool u3)]) (fun u3 g4 => Sat w0 (keys ([] : List Ent)) A [.box b1 33 [.string a0.Site, .int .i64 a0.No, .int .i64 a0.At, .int .i64 a0.Kind, .string a0.Who, .string a0.Motion, .int .i64 a0.Cents, .bool a0.Yes, .string a0.Of, .int .i64 a0.Other]]) (fun u3 g4 hq => ?_) (fun J cnk5 => ?_)
  ·have hm := Sum.fin_l hq hm
   refine cj_if (b := u3) rfl (fun hb => ?_) (fun hb => ?_)
   ·have hm := ifB_t hb hm
    refine cj_seq ?_
    refine cj_reg ?_
    refine lp rfl (p_as rfl) ?_
    refine lj_seq ?_
    obtain rfl := Option.some.inj hm
    exact cj_rt () [] Tryz.results34 (.tmp rfl .nil) rfl rfl
   ·have hm := ifB_f hb hm
    refine cj_seq ?_
    refine cj_reg ?_
    refine lp rfl (p_fab fl33_3 rfl) ?_
    refine lp rfl (p_lbs ty3 rfl (j := 0) rfl rfl) ?_
    obtain ⟨y8, hy8, hm⟩ := bindS hm
    refine r_call [] cf65 rfl rfl (ok_gleeref2_in a0.Kind 1 7 hy8) rfl rfl .nil (fun _ => rfl) rfl (fun _ => ?_)
    refine lp rfl (p_not rfl) ?_
    refine lp rfl (p_as rfl) ?_
    refine lj_seq ?_
    refine cj_if (b := !y8) rfl (fun hb => ?_) (fun hb => ?_)
    ·have hm := ifB_t hb hm
     refine cj_seq ?_
     refine cj_reg ?_
     refine lp rfl (p_as rfl) ?_
     refine lj_seq ?_
     obtain rfl := Option.some.inj hm
     exact cj_rt () [] Tryz.results34 (.tmp rfl .nil) rfl rfl
    ·have hm := ifB_f hb hm
     refine cj_skip ?_
     refine nj_blk ?_
     refine nj_seq ?_
     refine cj_seq ?_
     refine cj_reg ?_
     refine lp rfl (p_fab fl33_0 rfl) ?_
     refine lp rfl (p_lbs ty9 rfl (j := 0) rfl rfl) ?_
     refine lp rfl (p_fab fl33_1 rfl) ?_
     refine lp rfl (p_lbs ty3 rfl (j := 0) rfl rfl) ?_
     refine lp rfl (p_fab fl33_2 rfl) ?_
     refine lp rfl (p_lbs ty3 rfl (j := 0) rfl rfl) ?_
     refine lp rfl (p_fab fl33_3 rfl) ?_
     refine lp rfl (p_lbs ty3 rfl (j := 0) rfl rfl) ?_
     refine lp rfl (p_bld [.string a0.Site, .int .i64 a0.No, .int .i64 a0.At, .int .i64 a0.Kind, .string ByteArray.empty, .string ByteArray.empty, .int .i64 0, .bool false, .string ByteArray.empty, .int .i64 0] rfl (fun _ => by kernel_rfl)) ?_
     refine r_al ty33 rfl (fun b9 => ?_)
     refine r_sb (vs := [.string a0.Site, .int .i64 a0.No, .int .i64 a0.At, .int .i64 a0.Kind, .string ByteArray.empty, .string ByteArray.empty, .int .i64 0, .bool false, .string ByteArray.empty, .int .i64 0]) (j := 0) ty33 rfl rfl rfl rfl rfl rfl rfl ?_
     refine lj_seq ?_
     refine cj_seq ?_
     refine cj_reg ?_
     refine lp rfl (p_fn (cv := [.pointer (some ⟨b1, 0, none⟩)]) rfl) ?_
     refine lp rfl (p_as rfl) ?_
     refine lj_seq ?_
     refine cj_seq ?_
     refine cj_reg ?_
     refine lp rfl (p_as rfl) ?_
     refine lj_seq ?_
     refine cj_seq ?_
     refine cj_seq ?_
     refine cj_reg ?_
     refine lp rfl (p_mv rfl) ?_
     refine r_bs R3 [1, 2, 3, 5] rfl rfl rfl (fun _ => by kernel_rfl) rfl (fun s10 => ?_)
     obtain ⟨y11, hy11, hm⟩ := bindS hm
     refine r_call [] cf67 rfl rfl (ok_gleeref2_ActFault_1 s10 [1, 2, 3, 5] b1 a0.Site a0.No a0.At a0.Kind a0.Who a0.Motion a0.Cents a0.Yes a0.Of a0.Other hy11) rfl rfl (.cons (.row 0 rfl) (.cons (.imp (.box 2 rfl) (fun _ h => h)) .nil)) (fun _ => rfl) rfl (fun _ => ?_)
     refine lj_seq ?_
     obtain ⟨k14, hk14, hm⟩ := bindS hm
     have hRk14 : ∀ t, k14 = .inr t → some t = some r := fun t e => by rw [e] at hm; exact hm
     refine cj_joinK (σ := (Bool × ByteArray)) (γ := Unit) (fun u12 => k14 = .inl u12) (fun u12 g13 => [(1, .pointer (some ⟨b1, 0, none⟩)), (2, .int .i64 0), (3, .pointer (some ⟨b9, 0, none⟩)), (4, .func (.func 67) #[] [.pointer (some ⟨b1, 0, none⟩)].toArray), (5, .bool u12.1)]) (fun u12 g13 => Sat w0 (keys ([] : List Ent)) A [.box b9 33 [.string a0.Site, .int .i64 a0.No, .int .i64 a0.At, .int .i64 a0.Kind, .string u12.2, .string ByteArray.empty, .int .i64 0, .bool false, .string ByteArray.empty, .int .i64 0], .box b1 33 [.string a0.Site, .int .i64 a0.No, .int .i64 a0.At, .int .i64 a0.Kind, .string a0.Who, .string a0.Motion, .int .i64 a0.Cents, .bool a0.Yes, .string a0.Of, .int .i64 a0.Other]]) (fun u12 g13 hq => ?_) (fun J cnk14 => ?_)
     ·have hm := Sum.fin_l hq hm
      refine cj_seq ?_
      refine cj_seq ?_
      refine cj_reg ?_
      refine lp rfl (p_mv rfl) ?_
      refine r_bs R3 [4, 5, 6] rfl rfl rfl (fun _ => by kernel_rfl) rfl (fun s16 => ?_)
      obtain ⟨y17, hy17, hm⟩ := bindS hm
      refine r_call [] cf67 rfl rfl (ok_gleeref2_ActFault_1 s16 [4, 5, 6] b1 a0.Site a0.No a0.At a0.Kind a0.Who a0.Motion a0.Cents a0.Yes a0.Of a0.Other hy17) rfl rfl (.cons (.row 0 rfl) (.cons (.imp (.box 2 rfl) (fun _ h => h)) .nil)) (fun _ => rfl) rfl (fun _ => ?_)
      refine lj_seq ?_
      obtain ⟨k20, hk20, hm⟩ := bindS hm
      have hRk20 : ∀ t, k20 = .inr t → some t = some r := fun t e => by rw [e] at hm; exact hm
      refine cj_joinK (σ := (Bool × ByteArray)) (γ := Unit) (fun u18 => k20 = .inl u18) (fun u18 g19 => [(1, .pointer (some ⟨b1, 0, none⟩)), (2, .int .i64 0), (3, .pointer (some ⟨b9, 0, none⟩)), (4, .func (.func 67) #[] [.pointer (some ⟨b1, 0, none⟩)].toArray), (5, .bool u18.1)]) (fun u18 g19 => Sat w0 (keys ([] : List Ent)) A [.box b9 33 [.string a0.Site, .int .i64 a0.No, .int .i64 a0.At, .int .i64 a0.Kind, .string u12.2, .string u18.2, .int .i64 0, .bool false, .string ByteArray.empty, .int .i64 0], .box b1 33 [.string a0.Site, .int .i64 a0.No, .int .i64 a0.At, .int .i64 a0.Kind, .string a0.Who, .string a0.Motion, .int .i64 a0.Cents, .bool a0.Yes, .string a0.Of, .int .i64 a0.Other]]) (fun u18 g19 hq => ?_) (fun J cnk20 => ?_)
      ·have hm := Sum.fin_l hq hm
       refine cj_seq ?_
       refine cj_seq ?_
       refine cj_reg ?_
       refine lp rfl (p_mv rfl) ?_
       refine r_bs R3 [7] rfl rfl rfl (fun _ => by kernel_rfl) rfl (fun s22 => ?_)
       obtain ⟨y23, hy23, hm⟩ := bindS hm
       refine r_call [] cf67 rfl rfl (ok_gleeref2_ActFault_1 s22 [7] b1 a0.Site a0.No a0.At a0.Kind a0.Who a0.Motion a0.Cents a0.Yes a0.Of a0.Other hy23) rfl rfl (.cons (.row 0 rfl) (.cons (.imp (.box 2 rfl) (fun _ h => h)) .nil)) (fun _ => rfl) rfl (fun _ => ?_)
       refine lj_seq ?_
       obtain ⟨k26, hk26, hm⟩ := bindS hm
       have hRk26 : ∀ t, k26 = .inr t → some t = some r := fun t e => by rw [e] at hm; exact hm
       refine cj_joinK (σ := (Bool × ByteArray × Int)) (γ := Unit) (fun u24 => k26 = .inl u24) (fun u24 g25 => [(1, .pointer (some ⟨b1, 0, none⟩)), (2, .int .i64 0), (3, .pointer (some ⟨b9, 0, none⟩)), (4, .func (.func 67) #[] [.pointer (some ⟨b1, 0, none⟩)].toArray), (5, .bool u24.1)]) (fun u24 g25 => Sat w0 (keys ([] : List Ent)) A [.box b9 33 [.string a0.Site, .int .i64 a0.No, .int .i64 a0.At, .int .i64 a0.Kind, .string u12.2, .string u18.2, .int .i64 0, .bool false, .string u24.2.1, .int .i64 u24.2.2], .box b1 33 [.string a0.Site, .int .i64 a0.No, .int .i64 a0.At, .int .i64 a0.Kind, .string a0.Who, .string a0.Motion, .int .i64 a0.Cents, .bool a0.Yes, .string a0.Of, .int .i64 a0.Other]]) (fun u24 g25 hq => ?_) (fun J cnk26 => ?_)
       ·have hm := Sum.fin_l hq hm
        refine cj_seq ?_
        refine cj_seq ?_
        refine cj_reg ?_
        refine lp rfl (p_mv rfl) ?_
        refine lj_seq ?_
        refine cj_if (b := u24.1) rfl (fun hb => ?_) (fun hb => ?_)
        ·have hm := ifB_t hb hm
         refine cj_seq ?_
         refine cj_reg ?_
         refine lp rfl (p_as rfl) ?_
         refine lj_seq ?_
         obtain rfl := Option.some.inj hm
         exact cj_rt () [] Tryz.results34 (.tmp rfl .nil) rfl rfl
        ·have hm := ifB_f hb hm
         refine cj_skip ?_
         refine nj_seq ?_
         refine cj_seq ?_
         refine cj_seq ?_
         refine cj_reg ?_
         refine lp rfl (p_mv rfl) ?_
         refine r_bs R3 [1, 3] rfl rfl rfl (fun _ => by kernel_rfl) rfl (fun s28 => ?_)
         obtain ⟨y29, hy29, hm⟩ := bindS hm
         refine r_call [] cf67 rfl rfl (ok_gleeref2_ActFault_1 s28 [1, 3] b1 a0.Site a0.No a0.At a0.Kind a0.Who a0.Motion a0.Cents a0.Yes a0.Of a0.Other hy29) rfl rfl (.cons (.row 0 rfl) (.cons (.imp (.box 2 rfl) (fun _ h => h)) .nil)) (fun _ => rfl) rfl (fun _ => ?_)
         refine lj_seq ?_
         obtain ⟨k32, hk32, hm⟩ := bindS hm
         have hRk32 : ∀ t, k32 = .inr t → some t = some r := fun t e => by rw [e] at hm; exact hm
         refine cj_joinK (σ := Int) (γ := Unit) (fun u30 => k32 = .inl u30) (fun u30 g31 => [(1, .pointer (some ⟨b1, 0, none⟩)), (2, .int .i64 0), (3, .pointer (some ⟨b9, 0, none⟩)), (4, .func (.func 67) #[] [.pointer (some ⟨b1, 0, none⟩)].toArray)]) (fun u30 g31 => Sat w0 (keys ([] : List Ent)) A [.box b9 33 [.string a0.Site, .int .i64 a0.No, .int .i64 a0.At, .int .i64 a0.Kind, .string u12.2, .string u18.2, .int .i64 u30, .bool false, .string u24.2.1, .int .i64 u24.2.2], .box b1 33 [.string a0.Site, .int .i64 a0.No, .int .i64 a0.At, .int .i64 a0.Kind, .string a0.Who, .string a0.Motion, .int .i64 a0.Cents, .bool a0.Yes, .string a0.Of, .int .i64 a0.Other]]) (fun u30 g31 hq => ?_) (fun J cnk32 => ?_)
         ·have hm := Sum.fin_l hq hm
          refine cj_seq ?_
          refine cj_seq ?_
          refine cj_reg ?_
          obtain ⟨k41, hk41, hm⟩ := bindS hm
          have hRk41 : ∀ t, k41 = .inr t → some t = some r := fun t e => by rw [e] at hm; exact hm
          refine lj_join (σ := Bool) (γ := Unit) (fun u39 => k41 = .inl u39) (fun u39 g40 => [(1, .pointer (some ⟨b1, 0, none⟩)), (2, .int .i64 0), (3, .pointer (some ⟨b9, 0, none⟩)), (4, .func (.func 67) #[] [.pointer (some ⟨b1, 0, none⟩)].toArray), (108, .bool u39)]) (fun u39 g40 => Sat w0 (keys ([] : List Ent)) A [.box b9 33 [.string a0.Site, .int .i64 a0.No, .int .i64 a0.At, .int .i64 a0.Kind, .string u12.2, .string u18.2, .int .i64 u30, .bool false, .string u24.2.1, .int .i64 u24.2.2], .box b1 33 [.string a0.Site, .int .i64 a0.No, .int .i64 a0.At, .int .i64 a0.Kind, .string a0.Who, .string a0.Motion, .int .i64 a0.Cents, .bool a0.Yes, .string a0.Of, .int .i64 a0.Other]]) (fun u39 g40 hq => ?_) (fun J cnk41 => ?_)
          ·have hm := Sum.fin_l hq hm
           refine cj_if (b := u39) rfl (fun hb => ?_) (fun hb => ?_)
           ·have hm := ifB_t hb hm
            refine cj_seq ?_
            refine cj_reg ?_
            refine lp rfl (p_as rfl) ?_
            refine lj_seq ?_
            obtain rfl := Option.some.inj hm
            exact cj_rt () [] Tryz.results34 (.tmp rfl .nil) rfl rfl
           ·have hm := ifB_f hb hm
            refine cj_skip ?_
            refine nj_seq ?_
            refine cj_seq ?_
            refine cj_seq ?_
            refine cj_reg ?_
            refine lp rfl (p_mv rfl) ?_
            refine r_bs R3 [5] rfl rfl rfl (fun _ => by kernel_rfl) rfl (fun s45 => ?_)
            obtain ⟨y46, hy46, hm⟩ := bindS hm
            refine r_call [] cf67 rfl rfl (ok_gleeref2_ActFault_1 s45 [5] b1 a0.Site a0.No a0.At a0.Kind a0.Who a0.Motion a0.Cents a0.Yes a0.Of a0.Other hy46) rfl rfl (.cons (.row 0 rfl) (.cons (.imp (.box 2 rfl) (fun _ h => h)) .nil)) (fun _ => rfl) rfl (fun _ => ?_)
            refine lj_seq ?_
            obtain ⟨k49, hk49, hm⟩ := bindS hm
            have hRk49 : ∀ t, k49 = .inr t → some t = some r := fun t e => by rw [e] at hm; exact hm
            refine cj_joinK (σ := Bool) (γ := Unit) (fun u47 => k49 = .inl u47) (fun u47 g48 => [(1, .pointer (some ⟨b1, 0, none⟩)), (2, .int .i64 0), (3, .pointer (some ⟨b9, 0, none⟩))]) (fun u47 g48 => Sat w0 (keys ([] : List Ent)) A [.box b9 33 [.string a0.Site, .int .i64 a0.No, .int .i64 a0.At, .int .i64 a0.Kind, .string u12.2, .string u18.2, .int .i64 u30, .bool u47, .string u24.2.1, .int .i64 u24.2.2], .box b1 33 [.string a0.Site, .int .i64 a0.No, .int .i64 a0.At, .int .i64 a0.Kind, .string a0.Who, .string a0.Motion, .int .i64 a0.Cents, .bool a0.Yes, .string a0.Of, .int .i64 a0.Other]]) (fun u47 g48 hq => ?_) (fun J cnk49 => ?_)
            ·have hm := Sum.fin_l hq hm
             refine cj_seq ?_
             refine cj_seq ?_
             refine cj_reg ?_
             refine lp rfl (p_lbw ty33 rfl (j := 1) rfl rfl) ?_
             refine lp rfl (p_lbw ty33 rfl (j := 0) rfl rfl) ?_
             refine lp rfl (p_nest (by kernel_rfl) rfl rfl (eqst33 a0 (TAct.mk a0.Site a0.No a0.At a0.Kind u12.2 u18.2 u30 u47 u24.2.1 u24.2.2))) ?_
             refine lj_seq ?_
             refine cj_if (b := !(decide (a0 = (TAct.mk a0.Site a0.No a0.At a0.Kind u12.2 u18.2 u30 u47 u24.2.1 u24.2.2)))) rfl (fun hb => ?_) (fun hb => ?_)
             ·have hm := ifB_t hb hm
              refine cj_seq ?_
              refine cj_reg ?_
              refine lp rfl (p_as rfl) ?_
              refine lj_seq ?_
              obtain rfl := Option.some.inj hm
              exact cj_rt () [] Tryz.results34 (.tmp rfl .nil) rfl rfl
             ·have hm := ifB_f hb hm
              refine cj_skip ?_
              refine nj_seq ?_
              refine cj_seq ?_
              refine cj_reg ?_
              refine lp rfl (p_as rfl) ?_
              refine lj_seq ?_
              obtain rfl := Option.some.inj hm
              exact cj_rt () [] Tryz.results34 (.tmp rfl .nil) rfl rfl
            ·have hm := hk49
             refine cj_if (b := y46) rfl (fun hb => ?_) (fun hb => ?_)
             ·have hm := ifB_t hb hm
              refine cj_reg ?_
              refine lp rfl (p_fab fl33_7 rfl) ?_
              refine lp rfl (p_lbs ty4 rfl (j := 2) rfl rfl) ?_
              refine lp rfl (p_fab fl33_7 rfl) ?_
              refine r_sb (vs := [.bool a0.Yes]) (j := 1) ty4 rfl rfl rfl rfl rfl rfl rfl ?_
              refine lj_nil ?_
              exact cnk49 _ _ a0.Yes () (Option.some.inj hm).symm ⟨rfl, rfl, rfl, trivial⟩ (fun _ h => h.picks [1, 1] rfl)
             ·have hm := ifB_f hb hm
              refine cj_skip ?_
              exact cnk49 _ _ false () (Option.some.inj hm).symm ⟨rfl, rfl, rfl, trivial⟩ (fun _ h => h.picks [1, 1] rfl)
          ·have hm := hk41
           refine lp rfl (p_mv rfl) ?_
           refine r_bs R3 [7] rfl rfl rfl (fun _ => by kernel_rfl) rfl (fun s42 => ?_)
           obtain ⟨y43, hy43, hm⟩ := bindS hm
           refine r_call [] cf67 rfl rfl (ok_gleeref2_ActFault_1 s42 [7] b1 a0.Site a0.No a0.At a0.Kind a0.Who a0.Motion a0.Cents a0.Yes a0.Of a0.Other hy43) rfl rfl (.cons (.row 0 rfl) (.cons (.imp (.box 2 rfl) (fun _ h => h)) .nil)) (fun _ => rfl) rfl (fun _ => ?_)
           refine lp rfl (p_mv rfl) ?_
           refine lcase (i := 103) y43 rfl (fun hb => ?_) (fun hb => ?_)
           ·have hm := ifB_t hb hm
            refine lg true rfl rfl rfl ?_
            refine lp rfl (p_fab fl33_9 rfl) ?_
            refine lg true rfl rfl rfl ?_
            refine lp rfl (p_lbs ty3 rfl (j := 2) rfl rfl) ?_
            refine lg true rfl rfl rfl ?_
            obtain ⟨y44, hy44, hm⟩ := bindS hm
            refine r_call [] cf65 rfl rfl (ok_gleeref2_in a0.Other 1 1000000 hy44) rfl rfl .nil (fun _ => rfl) rfl (fun _ => ?_)
            refine lg true rfl rfl rfl ?_
            refine lp rfl (p_not rfl) ?_
            refine lp rfl (p_pkt rfl rfl) ?_
            refine lj_nil ?_
            exact cnk41 _ _ (!y44) () (Option.some.inj hm).symm ⟨rfl, rfl, rfl, rfl, rfl, trivial⟩ (fun _ h => h.picks [1, 1] rfl)
           ·have hm := ifB_f hb hm
            refine ls true rfl rfl rfl rfl ?_
            refine ls true rfl rfl rfl rfl ?_
            refine ls true rfl rfl rfl rfl ?_
            refine ls true rfl rfl rfl rfl ?_
            refine lp rfl (p_pkf rfl rfl) ?_
            refine lj_nil ?_
            exact cnk41 _ _ false () (Option.some.inj hm).symm ⟨rfl, rfl, rfl, rfl, rfl, trivial⟩ (fun _ h => h.picks [1, 1] rfl)
         ·have hm := hk32
          refine cj_if (b := y29) rfl (fun hb => ?_) (fun hb => ?_)
          ·have hm := ifB_t hb hm
           refine cj_seq ?_
           refine cj_reg ?_
           refine lp rfl (p_fab fl33_6 rfl) ?_
           refine lp rfl (p_lbs ty3 rfl (j := 2) rfl rfl) ?_
           refine lp rfl (p_fab fl33_6 rfl) ?_
           refine r_sb (vs := [.int .i64 a0.Cents]) (j := 1) ty3 rfl rfl rfl rfl rfl rfl rfl ?_
           refine lj_seq ?_
           refine cj_seq ?_
           refine cj_reg ?_
           obtain ⟨k35, hk35, hm⟩ := bindS hm
           have hRk35 : ∀ t, k35 = .inr t → some t = some k32 := fun t e => by rw [e] at hm; exact hm
           refine lj_join (σ := Bool) (γ := Unit) (fun u33 => k35 = .inl u33) (fun u33 g34 => [(1, .pointer (some ⟨b1, 0, none⟩)), (2, .int .i64 0), (3, .pointer (some ⟨b9, 0, none⟩)), (4, .func (.func 67) #[] [.pointer (some ⟨b1, 0, none⟩)].toArray), (99, .bool u33)]) (fun u33 g34 => Sat w0 (keys ([] : List Ent)) A [.box b9 33 [.string a0.Site, .int .i64 a0.No, .int .i64 a0.At, .int .i64 a0.Kind, .string u12.2, .string u18.2, .int .i64 a0.Cents, .bool false, .string u24.2.1, .int .i64 u24.2.2], .box b1 33 [.string a0.Site, .int .i64 a0.No, .int .i64 a0.At, .int .i64 a0.Kind, .string a0.Who, .string a0.Motion, .int .i64 a0.Cents, .bool a0.Yes, .string a0.Of, .int .i64 a0.Other]]) (fun u33 g34 hq => ?_) (fun J cnk35 => ?_)
           ·have hm := Sum.fin_l hq hm
            refine cj_if (b := u33) rfl (fun hb => ?_) (fun hb => ?_)
            ·have hm := ifB_t hb hm
             refine cj_seq ?_
             refine cj_reg ?_
             refine lp rfl (p_as rfl) ?_
             refine lj_seq ?_
             have hm := hRk32 _ (Option.some.inj hm).symm
             obtain rfl := Option.some.inj hm
             exact cj_rt () [] Tryz.results34 (.tmp rfl .nil) rfl rfl
            ·have hm := ifB_f hb hm
             refine cj_skip ?_
             exact cnk32 _ _ a0.Cents () (Option.some.inj hm).symm ⟨rfl, rfl, rfl, rfl, trivial⟩ (fun _ h => h.picks [0, 0] rfl)
           ·have hm := hk35
            refine lp rfl (p_fab fl33_6 rfl) ?_
            refine lp rfl (p_lbs ty3 rfl (j := 2) rfl rfl) ?_
            obtain ⟨y36, hy36, hm⟩ := bindS hm
            refine r_call [] cf65 rfl rfl (ok_gleeref2_in a0.Cents 0 1000000000 hy36) rfl rfl .nil (fun _ => rfl) rfl (fun _ => ?_)
            refine lp rfl (p_not rfl) ?_
            refine lp rfl (p_mv rfl) ?_
            refine lcase (i := 90) (!y36) rfl (fun hb => ?_) (fun hb => ?_)
            ·have hm := ifB_t hb hm
             refine ls false rfl rfl rfl rfl ?_
             refine ls false rfl rfl rfl rfl ?_
             refine ls false rfl rfl rfl rfl ?_
             refine ls false rfl rfl rfl rfl ?_
             refine lsu rfl rfl rfl rfl ?_
             refine lsu rfl rfl rfl rfl ?_
             refine lsu rfl rfl rfl rfl ?_
             refine ls false rfl rfl rfl rfl ?_
             refine lp rfl (p_pkt rfl rfl) ?_
             refine lj_nil ?_
             exact cnk35 _ _ true () (Option.some.inj hm).symm ⟨rfl, rfl, rfl, rfl, rfl, trivial⟩ (fun _ h => h.picks [1, 1] rfl)
            ·have hm := ifB_f hb hm
             refine lg false rfl rfl rfl ?_
             refine lp rfl (p_mv rfl) ?_
             refine lg false rfl rfl rfl ?_
             refine r_bs R3 [3] rfl rfl rfl (fun _ => by kernel_rfl) rfl (fun s37 => ?_)
             refine lg false rfl rfl rfl ?_
             obtain ⟨y38, hy38, hm⟩ := bindS hm
             refine r_call [] cf67 rfl rfl (ok_gleeref2_ActFault_1 s37 [3] b1 a0.Site a0.No a0.At a0.Kind a0.Who a0.Motion a0.Cents a0.Yes a0.Of a0.Other hy38) rfl rfl (.cons (.row 0 rfl) (.cons (.imp (.box 3 rfl) (fun _ h => h)) .nil)) (fun _ => rfl) rfl (fun _ => ?_)
             refine lg false rfl rfl rfl ?_
             refine lp rfl (p_mv rfl) ?_
             refine lcase (i := 94) y38 rfl (fun hb => ?_) (fun hb => ?_)
             ·have hm := ifB_t hb hm
              refine lg true rfl rfl rfl ?_
              refine lp rfl (p_fab fl33_6 rfl) ?_
              refine lg true rfl rfl rfl ?_
              refine lp rfl (p_lbs ty3 rfl (j := 3) rfl rfl) ?_
              refine lg true rfl rfl rfl ?_
              refine lp rfl (p_eql rfl rfl) ?_
              refine lg false rfl rfl rfl ?_
              refine lp rfl (p_pkt rfl rfl) ?_
              refine lp rfl (p_pkf rfl rfl) ?_
              refine lj_nil ?_
              exact cnk35 _ _ (a0.Cents == 0) () (Option.some.inj hm).symm ⟨rfl, rfl, rfl, rfl, rfl, trivial⟩ (fun _ h => h.picks [2, 2] rfl)
             ·have hm := ifB_f hb hm
              refine ls true rfl rfl rfl rfl ?_
              refine ls true rfl rfl rfl rfl ?_
              refine ls true rfl rfl rfl rfl ?_
              refine lg false rfl rfl rfl ?_
              refine lp rfl (p_pkf rfl rfl) ?_
              refine lp rfl (p_pkf rfl rfl) ?_
              refine lj_nil ?_
              exact cnk35 _ _ false () (Option.some.inj hm).symm ⟨rfl, rfl, rfl, rfl, rfl, trivial⟩ (fun _ h => h.picks [2, 2] rfl)
          ·have hm := ifB_f hb hm
           refine cj_skip ?_
           exact cnk32 _ _ 0 () (Option.some.inj hm).symm ⟨rfl, rfl, rfl, rfl, trivial⟩ (fun _ h => h.picks [1, 1] rfl)
       ·have hm := hk26
        refine cj_if (b := y23) rfl (fun hb => ?_) (fun hb => ?_)
        ·have hm := ifB_t hb hm
         refine cj_anyT [0, 1, 2, 3, 4, 5, 6, 7, 9, 10, 11, 13, 15] [12, 13, 14, 15] (Sat w0 (keys ([] : List Ent)) A [.row R3 (SV.v s22) [7], .box b9 33 [.string a0.Site, .int .i64 a0.No, .int .i64 a0.At, .int .i64 a0.Kind, .string u12.2, .string u18.2, .int .i64 0, .bool false, .string ByteArray.empty, .int .i64 0], .box b1 33 [.string a0.Site, .int .i64 a0.No, .int .i64 a0.At, .int .i64 a0.Kind, .string a0.Who, .string a0.Motion, .int .i64 a0.Cents, .bool a0.Yes, .string a0.Of, .int .i64 a0.Other]]) (Sat w0 (keys ([] : List Ent)) A [.row R3 (SV.v s22) [7], .box b1 33 [.string a0.Site, .int .i64 a0.No, .int .i64 a0.At, .int .i64 a0.Kind, .string a0.Who, .string a0.Motion, .int .i64 a0.Cents, .bool a0.Yes, .string a0.Of, .int .i64 a0.Other]]) (by kernel_rfl) ?_
         refine at_take2 0 rfl (by kernel_rfl) (by kernel_rfl) (by kernel_rfl) (fun _ h => h.picks [0, 1] rfl) rfl rfl (p_fab fl33_8 rfl) (fun _ h => h.picks [0, 1] rfl) ?_
         refine at_take2 1 rfl (by kernel_rfl) (by kernel_rfl) (by kernel_rfl) (fun _ h => h.picks [0, 1] rfl) rfl rfl (p_lbs ty9 rfl (j := 1) rfl rfl) (fun _ h => h.picks [0, 1] rfl) ?_
         refine at_take2 2 rfl (by kernel_rfl) (by kernel_rfl) (by kernel_rfl) (fun _ h => h.picks [0, 1] rfl) rfl rfl (p_fab fl33_9 rfl) (fun _ h => h.picks [0, 1] rfl) ?_
         refine at_take2 3 rfl (by kernel_rfl) (by kernel_rfl) (by kernel_rfl) (fun _ h => h.picks [0, 1] rfl) rfl rfl (p_lbs ty3 rfl (j := 1) rfl rfl) (fun _ h => h.picks [0, 1] rfl) ?_
         refine at_take2 4 rfl (by kernel_rfl) (by kernel_rfl) (by kernel_rfl) (fun _ h => h.picks [0, 1] rfl) rfl rfl (p_mv rfl) (fun _ h => h.picks [0, 1] rfl) ?_
         refine at_take2 5 rfl (by kernel_rfl) (by kernel_rfl) (by kernel_rfl) (fun _ h => h.picks [0, 1] rfl) rfl rfl (p_mv rfl) (fun _ h => h.picks [0, 1] rfl) ?_
         refine at_case (i := 71) u18.1 rfl (fun hb => ?_) (fun hb => ?_)
         ·have hm := ifB_t hb hm
          refine at_skip 6 rfl rfl rfl rfl (by kernel_rfl) (by kernel_rfl) (by kernel_rfl) rfl rfl ?_
          refine at_skip 7 rfl rfl rfl rfl (by kernel_rfl) (by kernel_rfl) (by kernel_rfl) rfl rfl ?_
          refine at_take2 11 rfl (by kernel_rfl) (by kernel_rfl) (by kernel_rfl) (fun _ h => h.picks [0, 1] rfl) rfl rfl (p_fab fl33_8 rfl) (fun _ h => h.picks [0, 1] rfl) ?_
          refine at_each (rs := [8]) (by kernel_rfl) (by decide) ?_
          refine (.cons rfl (fun I cnI => ?_) .nil)
          ·refine ls false rfl rfl rfl rfl ?_
           refine lj_nil ?_
           refine cnI _ _ (sof1 rfl rfl (fun _ h => h.picks [0, 0, 0] rfl)) ?_
           refine at_skip 9 rfl rfl rfl rfl (by kernel_rfl) (by kernel_rfl) (by kernel_rfl) rfl rfl ?_
           refine at_take2 10 rfl (by kernel_rfl) (by kernel_rfl) (by kernel_rfl) (fun _ h => h.picks [0, 1] rfl) rfl rfl (p_pkt rfl rfl) (fun _ h => h.picks [0, 1] rfl) ?_
           refine at_each (rs := [12]) (by kernel_rfl) (by decide) ?_
           refine (.cons rfl (fun I cnI => ?_) .nil)
           ·refine r_sb (vs := [.string a0.Of]) (j := 1) ty9 rfl rfl rfl rfl rfl rfl rfl ?_
            refine lj_nil ?_
            refine cnI _ _ (sof2 rfl rfl (fun _ h => h.picks [0, 1] rfl)) ?_
            refine at_take2 13 rfl (by kernel_rfl) (by kernel_rfl) (by kernel_rfl) (fun _ h => h.picks [0, 1] rfl) rfl rfl (p_fab fl33_9 rfl) (fun _ h => h.picks [0, 1] rfl) ?_
            refine at_each (rs := [14]) (by kernel_rfl) (by decide) ?_
            refine (.cons rfl (fun I cnI => ?_) .nil)
            ·refine r_sb (vs := [.int .i64 a0.Other]) (j := 1) ty3 rfl rfl rfl rfl rfl rfl rfl ?_
             refine lj_nil ?_
             refine cnI _ _ (sof2 rfl rfl (fun _ h => h.picks [0, 1] rfl)) ?_
             refine at_take2 15 rfl (by kernel_rfl) (by kernel_rfl) (by kernel_rfl) (fun _ h => h.picks [0, 1] rfl) rfl rfl (p_as rfl) (fun _ h => h.picks [0, 1] rfl) ?_
             refine at_done (by kernel_rfl) ?_
             exact cnk26 _ _ (true, a0.Of, a0.Other) () (Option.some.inj hm).symm ⟨rfl, rfl, rfl, rfl, rfl, trivial⟩ (fun _ h => h.picks [1, 1] rfl)
         ·have hm := ifB_f hb hm
          obtain ⟨y27, hy27, hm⟩ := bindS hm
          refine at_take2g 6 rfl rfl rfl rfl (by kernel_rfl) (by kernel_rfl) (by kernel_rfl) (fun _ h => h.picks [0, 1] rfl) rfl rfl (p_fab fl33_8 rfl) (fun _ h => h.picks [0, 1] rfl) ?_
          refine at_take2g 7 rfl rfl rfl rfl (by kernel_rfl) (by kernel_rfl) (by kernel_rfl) (fun _ h => h.picks [0, 1] rfl) rfl rfl (p_lbs ty9 rfl (j := 1) rfl rfl) (fun _ h => h.picks [0, 1] rfl) ?_
          refine at_take2 11 rfl (by kernel_rfl) (by kernel_rfl) (by kernel_rfl) (fun _ h => h.picks [0, 1] rfl) rfl rfl (p_fab fl33_8 rfl) (fun _ h => h.picks [0, 1] rfl) ?_
          refine at_each (rs := [8]) (by kernel_rfl) (by decide) ?_
          refine (.cons rfl (fun I cnI => ?_) .nil)
          ·refine lg false rfl rfl rfl ?_
           refine r_call [] cf64 rfl rfl (ok_gleeref2_Key a0.Of hy27) rfl rfl .nil (fun _ => rfl) rfl (fun _ => ?_)
           refine lj_nil ?_
           refine cnI _ _ (sof1 rfl rfl (fun _ h => h.picks [0, 0, 0] rfl)) ?_
           refine at_take2g 9 rfl rfl rfl rfl (by kernel_rfl) (by kernel_rfl) (by kernel_rfl) (fun _ h => h.picks [0, 1] rfl) rfl rfl (p_not rfl) (fun _ h => h.picks [0, 1] rfl) ?_
           refine at_take2 10 rfl (by kernel_rfl) (by kernel_rfl) (by kernel_rfl) (fun _ h => h.picks [0, 1] rfl) rfl rfl (p_pkf rfl rfl) (fun _ h => h.picks [0, 1] rfl) ?_
           refine at_each (rs := [12]) (by kernel_rfl) (by decide) ?_
           refine (.cons rfl (fun I cnI => ?_) .nil)
           ·refine r_sb (vs := [.string a0.Of]) (j := 1) ty9 rfl rfl rfl rfl rfl rfl rfl ?_
            refine lj_nil ?_
            refine cnI _ _ (sof2 rfl rfl (fun _ h => h.picks [0, 1] rfl)) ?_
            refine at_take2 13 rfl (by kernel_rfl) (by kernel_rfl) (by kernel_rfl) (fun _ h => h.picks [0, 1] rfl) rfl rfl (p_fab fl33_9 rfl) (fun _ h => h.picks [0, 1] rfl) ?_
            refine at_each (rs := [14]) (by kernel_rfl) (by decide) ?_
            refine (.cons rfl (fun I cnI => ?_) .nil)
            ·refine r_sb (vs := [.int .i64 a0.Other]) (j := 1) ty3 rfl rfl rfl rfl rfl rfl rfl ?_
             refine lj_nil ?_
             refine cnI _ _ (sof2 rfl rfl (fun _ h => h.picks [0, 1] rfl)) ?_
             refine at_take2 15 rfl (by kernel_rfl) (by kernel_rfl) (by kernel_rfl) (fun _ h => h.picks [0, 1] rfl) rfl rfl (p_as rfl) (fun _ h => h.picks [0, 1] rfl) ?_
             refine at_done (by kernel_rfl) ?_
             exact cnk26 _ _ (!y27, a0.Of, a0.Other) () (Option.some.inj hm).symm ⟨rfl, rfl, rfl, rfl, rfl, trivial⟩ (fun _ h => h.picks [1, 1] rfl)
        ·have hm := ifB_f hb hm
         refine cj_skip ?_
         exact cnk26 _ _ (u18.1, ByteArray.empty, 0) () (Option.some.inj hm).symm ⟨rfl, rfl, rfl, rfl, rfl, trivial⟩ (fun _ h => h.picks [1, 1] rfl)
      ·have hm := hk20
       refine cj_if (b := y17) rfl (fun hb => ?_) (fun hb => ?_)
       ·have hm := ifB_t hb hm
        refine cj_anyT [0, 1, 2, 3, 4, 5, 7, 8, 9, 11] [10, 11] (Sat w0 (keys ([] : List Ent)) A [.row R3 (SV.v s16) [4, 5, 6], .box b9 33 [.string a0.Site, .int .i64 a0.No, .int .i64 a0.At, .int .i64 a0.Kind, .string u12.2, .string ByteArray.empty, .int .i64 0, .bool false, .string ByteArray.empty, .int .i64 0], .box b1 33 [.string a0.Site, .int .i64 a0.No, .int .i64 a0.At, .int .i64 a0.Kind, .string a0.Who, .string a0.Motion, .int .i64 a0.Cents, .bool a0.Yes, .string a0.Of, .int .i64 a0.Other]]) (Sat w0 (keys ([] : List Ent)) A [.row R3 (SV.v s16) [4, 5, 6], .box b1 33 [.string a0.Site, .int .i64 a0.No, .int .i64 a0.At, .int .i64 a0.Kind, .string a0.Who, .string a0.Motion, .int .i64 a0.Cents, .bool a0.Yes, .string a0.Of, .int .i64 a0.Other]]) (by kernel_rfl) ?_
        refine at_take2 0 rfl (by kernel_rfl) (by kernel_rfl) (by kernel_rfl) (fun _ h => h.picks [0, 1] rfl) rfl rfl (p_fab fl33_5 rfl) (fun _ h => h.picks [0, 1] rfl) ?_
        refine at_take2 1 rfl (by kernel_rfl) (by kernel_rfl) (by kernel_rfl) (fun _ h => h.picks [0, 1] rfl) rfl rfl (p_lbs ty9 rfl (j := 1) rfl rfl) (fun _ h => h.picks [0, 1] rfl) ?_
        refine at_take2 2 rfl (by kernel_rfl) (by kernel_rfl) (by kernel_rfl) (fun _ h => h.picks [0, 1] rfl) rfl rfl (p_mv rfl) (fun _ h => h.picks [0, 1] rfl) ?_
        refine at_take2 3 rfl (by kernel_rfl) (by kernel_rfl) (by kernel_rfl) (fun _ h => h.picks [0, 1] rfl) rfl rfl (p_mv rfl) (fun _ h => h.picks [0, 1] rfl) ?_
        refine at_case (i := 56) u12.1 rfl (fun hb => ?_) (fun hb => ?_)
        ·have hm := ifB_t hb hm
         refine at_skip 4 rfl rfl rfl rfl (by kernel_rfl) (by kernel_rfl) (by kernel_rfl) rfl rfl ?_
         refine at_skip 5 rfl rfl rfl rfl (by kernel_rfl) (by kernel_rfl) (by kernel_rfl) rfl rfl ?_
         refine at_take2 9 rfl (by kernel_rfl) (by kernel_rfl) (by kernel_rfl) (fun _ h => h.picks [0, 1] rfl) rfl rfl (p_fab fl33_5 rfl) (fun _ h => h.picks [0, 1] rfl) ?_
         refine at_each (rs := [6]) (by kernel_rfl) (by decide) ?_
         refine (.cons rfl (fun I cnI => ?_) .nil)
         ·refine ls false rfl rfl rfl rfl ?_
          refine lj_nil ?_
          refine cnI _ _ (sof1 rfl rfl (fun _ h => h.picks [0, 0, 0] rfl)) ?_
          refine at_skip 7 rfl rfl rfl rfl (by kernel_rfl) (by kernel_rfl) (by kernel_rfl) rfl rfl ?_
          refine at_take2 8 rfl (by kernel_rfl) (by kernel_rfl) (by kernel_rfl) (fun _ h => h.picks [0, 1] rfl) rfl rfl (p_pkt rfl rfl) (fun _ h => h.picks [0, 1] rfl) ?_
          refine at_each (rs := [10]) (by kernel_rfl) (by decide) ?_
          refine (.cons rfl (fun I cnI => ?_) .nil)
          ·refine r_sb (vs := [.string a0.Motion]) (j := 1) ty9 rfl rfl rfl rfl rfl rfl rfl ?_
           refine lj_nil ?_
           refine cnI _ _ (sof2 rfl rfl (fun _ h => h.picks [0, 1] rfl)) ?_
           refine at_take2 11 rfl (by kernel_rfl) (by kernel_rfl) (by kernel_rfl) (fun _ h => h.picks [0, 1] rfl) rfl rfl (p_as rfl) (fun _ h => h.picks [0, 1] rfl) ?_
           refine at_done (by kernel_rfl) ?_
           exact cnk20 _ _ (true, a0.Motion) () (Option.some.inj hm).symm ⟨rfl, rfl, rfl, rfl, rfl, trivial⟩ (fun _ h => h.picks [1, 1] rfl)
        ·have hm := ifB_f hb hm
         obtain ⟨y21, hy21, hm⟩ := bindS hm
         refine at_take2g 4 rfl rfl rfl rfl (by kernel_rfl) (by kernel_rfl) (by kernel_rfl) (fun _ h => h.picks [0, 1] rfl) rfl rfl (p_fab fl33_5 rfl) (fun _ h => h.picks [0, 1] rfl) ?_
         refine at_take2g 5 rfl rfl rfl rfl (by kernel_rfl) (by kernel_rfl) (by kernel_rfl) (fun _ h => h.picks [0, 1] rfl) rfl rfl (p_lbs ty9 rfl (j := 1) rfl rfl) (fun _ h => h.picks [0, 1] rfl) ?_
         refine at_take2 9 rfl (by kernel_rfl) (by kernel_rfl) (by kernel_rfl) (fun _ h => h.picks [0, 1] rfl) rfl rfl (p_fab fl33_5 rfl) (fun _ h => h.picks [0, 1] rfl) ?_
         refine at_each (rs := [6]) (by kernel_rfl) (by decide) ?_
         refine (.cons rfl (fun I cnI => ?_) .nil)
         ·refine lg false rfl rfl rfl ?_
          refine r_call [] cf64 rfl rfl (ok_gleeref2_Key a0.Motion hy21) rfl rfl .nil (fun _ => rfl) rfl (fun _ => ?_)
          refine lj_nil ?_
          refine cnI _ _ (sof1 rfl rfl (fun _ h => h.picks [0, 0, 0] rfl)) ?_
          refine at_take2g 7 rfl rfl rfl rfl (by kernel_rfl) (by kernel_rfl) (by kernel_rfl) (fun _ h => h.picks [0, 1] rfl) rfl rfl (p_not rfl) (fun _ h => h.picks [0, 1] rfl) ?_
          refine at_take2 8 rfl (by kernel_rfl) (by kernel_rfl) (by kernel_rfl) (fun _ h => h.picks [0, 1] rfl) rfl rfl (p_pkf rfl rfl) (fun _ h => h.picks [0, 1] rfl) ?_
          refine at_each (rs := [10]) (by kernel_rfl) (by decide) ?_
          refine (.cons rfl (fun I cnI => ?_) .nil)
          ·refine r_sb (vs := [.string a0.Motion]) (j := 1) ty9 rfl rfl rfl rfl rfl rfl rfl ?_
           refine lj_nil ?_
           refine cnI _ _ (sof2 rfl rfl (fun _ h => h.picks [0, 1] rfl)) ?_
           refine at_take2 11 rfl (by kernel_rfl) (by kernel_rfl) (by kernel_rfl) (fun _ h => h.picks [0, 1] rfl) rfl rfl (p_as rfl) (fun _ h => h.picks [0, 1] rfl) ?_
           refine at_done (by kernel_rfl) ?_
           exact cnk20 _ _ (!y21, a0.Motion) () (Option.some.inj hm).symm ⟨rfl, rfl, rfl, rfl, rfl, trivial⟩ (fun _ h => h.picks [1, 1] rfl)
       ·have hm := ifB_f hb hm
        refine cj_skip ?_
        exact cnk20 _ _ (u12.1, ByteArray.empty) () (Option.some.inj hm).symm ⟨rfl, rfl, rfl, rfl, rfl, trivial⟩ (fun _ h => h.picks [1, 1] rfl)
     ·have hm := hk14
      refine cj_if (b := y11) rfl (fun hb => ?_) (fun hb => ?_)
      ·have hm := ifB_t hb hm
       obtain ⟨y15, hy15, hm⟩ := bindS hm
       refine cj_anyT [0, 1, 2, 3, 4, 5, 7, 8, 9, 11] [10, 11] (Sat w0 (keys ([] : List Ent)) A [.row R3 (SV.v s10) [1, 2, 3, 5], .box b9 33 [.string a0.Site, .int .i64 a0.No, .int .i64 a0.At, .int .i64 a0.Kind, .string ByteArray.empty, .string ByteArray.empty, .int .i64 0, .bool false, .string ByteArray.empty, .int .i64 0], .box b1 33 [.string a0.Site, .int .i64 a0.No, .int .i64 a0.At, .int .i64 a0.Kind, .string a0.Who, .string a0.Motion, .int .i64 a0.Cents, .bool a0.Yes, .string a0.Of, .int .i64 a0.Other]]) (Sat w0 (keys ([] : List Ent)) A [.row R3 (SV.v s10) [1, 2, 3, 5], .box b1 33 [.string a0.Site, .int .i64 a0.No, .int .i64 a0.At, .int .i64 a0.Kind, .string a0.Who, .string a0.Motion, .int .i64 a0.Cents, .bool a0.Yes, .string a0.Of, .int .i64 a0.Other]]) (by kernel_rfl) ?_
       refine at_take2 0 rfl (by kernel_rfl) (by kernel_rfl) (by kernel_rfl) (fun _ h => h.picks [0, 1] rfl) rfl rfl (p_fab fl33_4 rfl) (fun _ h => h.picks [0, 1] rfl) ?_
       refine at_take2 1 rfl (by kernel_rfl) (by kernel_rfl) (by kernel_rfl) (fun _ h => h.picks [0, 1] rfl) rfl rfl (p_lbs ty9 rfl (j := 1) rfl rfl) (fun _ h => h.picks [0, 1] rfl) ?_
       refine at_take2 2 rfl (by kernel_rfl) (by kernel_rfl) (by kernel_rfl) (fun _ h => h.picks [0, 1] rfl) rfl rfl (p_mv rfl) (fun _ h => h.picks [0, 1] rfl) ?_
       refine at_take2 3 rfl (by kernel_rfl) (by kernel_rfl) (by kernel_rfl) (fun _ h => h.picks [0, 1] rfl) rfl rfl (p_mv rfl) (fun _ h => h.picks [0, 1] rfl) ?_
       refine at_take2g 4 rfl rfl rfl rfl (by kernel_rfl) (by kernel_rfl) (by kernel_rfl) (fun _ h => h.picks [0, 1] rfl) rfl rfl (p_fab fl33_4 rfl) (fun _ h => h.picks [0, 1] rfl) ?_
       refine at_take2g 5 rfl rfl rfl rfl (by kernel_rfl) (by kernel_rfl) (by kernel_rfl) (fun _ h => h.picks [0, 1] rfl) rfl rfl (p_lbs ty9 rfl (j := 1) rfl rfl) (fun _ h => h.picks [0, 1] rfl) ?_
       refine at_take2 9 rfl (by kernel_rfl) (by kernel_rfl) (by kernel_rfl) (fun _ h => h.picks [0, 1] rfl) rfl rfl (p_fab fl33_4 rfl) (fun _ h => h.picks [0, 1] rfl) ?_
       refine at_each (rs := [6]) (by kernel_rfl) (by decide) ?_
       refine (.cons rfl (fun I cnI => ?_) .nil)
       ·refine lg false rfl rfl rfl ?_
        refine r_call [] cf64 rfl rfl (ok_gleeref2_Key a0.Who hy15) rfl rfl .nil (fun _ => rfl) rfl (fun _ => ?_)
        refine lj_nil ?_
        refine cnI _ _ (sof1 rfl rfl (fun _ h => h.picks [0, 0, 0] rfl)) ?_
        refine at_take2g 7 rfl rfl rfl rfl (by kernel_rfl) (by kernel_rfl) (by kernel_rfl) (fun _ h => h.picks [0, 1] rfl) rfl rfl (p_not rfl) (fun _ h => h.picks [0, 1] rfl) ?_
        refine at_take2 8 rfl (by kernel_rfl) (by kernel_rfl) (by kernel_rfl) (fun _ h => h.picks [0, 1] rfl) rfl rfl (p_pkf rfl rfl) (fun _ h => h.picks [0, 1] rfl) ?_
        refine at_each (rs := [10]) (by kernel_rfl) (by decide) ?_
        refine (.cons rfl (fun I cnI => ?_) .nil)
        ·refine r_sb (vs := [.string a0.Who]) (j := 1) ty9 rfl rfl rfl rfl rfl rfl rfl ?_
         refine lj_nil ?_
         refine cnI _ _ (sof2 rfl rfl (fun _ h => h.picks [0, 1] rfl)) ?_
         refine at_take2 11 rfl (by kernel_rfl) (by kernel_rfl) (by kernel_rfl) (fun _ h => h.picks [0, 1] rfl) rfl rfl (p_as rfl) (fun _ h => h.picks [0, 1] rfl) ?_
         refine at_done (by kernel_rfl) ?_
         exact cnk14 _ _ (!y15, a0.Who) () (Option.some.inj hm).symm ⟨rfl, rfl, rfl, rfl, rfl, trivial⟩ (fun _ h => h.picks [1, 1] rfl)
      ·have hm := ifB_f hb hm
       refine cj_skip ?_
       exact cnk14 _ _ (false, ByteArray.empty) () (Option.some.inj hm).symm ⟨rfl, rfl, rfl, rfl, rfl, trivial⟩ (fun _ h => h.picks [1, 1] rfl)
  ·have hm := hk5
   refine lp rfl (p_fab fl33_1 rfl) ?_
   refine lp rfl (p_lbs ty3 rfl (j := 0) rfl rfl) ?_
   obtain ⟨y6, hy6, hm⟩ := bindS hm
   refine r_call [] cf65 rfl rfl (ok_gleeref2_in a0.No 1 1000000 hy6) rfl rfl .nil (fun _ => rfl) rfl (fun _ => ?_)
   refine lp rfl (p_not rfl) ?_
   refine lp rfl (p_mv rfl) ?_
   refine lcase (i := 16) (!y6) rfl (fun hb => ?_) (fun hb => ?_)
   ·have hm := ifB_t hb hm
    refine ls false rfl rfl rfl rfl ?_
    refine ls false rfl rfl rfl rfl ?_
    refine ls false rfl rfl rfl rfl ?_
    refine ls false rfl rfl rfl rfl ?_
    refine lp rfl (p_pkt rfl rfl) ?_
    refine lp rfl (p_as rfl) ?_
    refine lj_nil ?_
    exact cnk5 _ _ true () (Option.some.inj hm).symm ⟨rfl, rfl, rfl, trivial⟩ (fun _ h => h.picks [0] rfl)
   ·have hm := ifB_f hb hm
    refine lg false rfl rfl rfl ?_
    refine lp rfl (p_fab fl33_2 rfl) ?_
    refine lg false rfl rfl rfl ?_
    refine lp rfl (p_lbs ty3 rfl (j := 0) rfl rfl) ?_
    refine lg false rfl rfl rfl ?_
    obtain ⟨y7, hy7, hm⟩ := bindS hm
    refine r_call [] cf66 rfl rfl (ok_gleeref2_Moment a0.At hy7) rfl rfl .nil (fun _ => rfl) rfl (fun _ => ?_)
    refine lg false rfl rfl rfl ?_
    refine lp rfl (p_not rfl) ?_
    refine lp rfl (p_pkf rfl rfl) ?_
    refine lp rfl (p_as rfl) ?_
    refine lj_nil ?_
    exact cnk5 _ _ (!y7) () (Option.some.inj hm).symm ⟨rfl, rfl, rfl, trivial⟩ (fun _ h => h.picks [0] rfl)
theorem ok_gleeref2_oneAct (a0 : TAct) (a1 : TAct) {r : Bool} (hm : m_gleeref2_oneAct a0 a1 = some r) :
  Ctr Tryz.prog 37 [.agg (R33.enc a0).toArray, .agg (R33.enc a1).toArray].toArray ([] : List Ent) [] (X := Unit) (fun _ => .bool r) (fun _ => []) := by
 unfold m_gleeref2_oneAct at hm
 refine ctr_mk (vs := [(0, .agg (R33.enc a0).toArray), (1, .agg (R33.enc a1).toArray)]) Tryz.func37 rfl Tryz.ntmps37 rfl ⟨rfl, rfl, trivial⟩ (fun w0 A => ?_)
 refine cj_seq ?_
 refine cj_reg ?_
 refine r_bx (cs := [.string a0.Site, .int .i64 a0.No, .int .i64 a0.At, .int .i64 a0.Kind, .string a0.Who, .string a0.Motion, .int .i64 a0.Cents, .bool a0.Yes, .string a0.Of, .int .i64 a0.Other]) rfl rfl rfl (fun b1 => ?_)
 refine r_bx (cs := [.string a1.Site, .int .i64 a1.No, .int .i64 a1.At, .int .i64 a1.Kind, .string a1.Who, .string a1.Motion, .int .i64 a1.Cents, .bool a1.Yes, .string a1.Of, .int .i64 a1.Other]) rfl rfl rfl (fun b2 => ?_)
 refine lp rfl (p_as rfl) ?_
 refine lj_seq ?_
 refine cj_seq ?_
 refine cj_reg ?_
 refine lp rfl (p_fab fl33_0 rfl) ?_
 refine lp rfl (p_lbs ty9 rfl (j := 1) rfl rfl) ?_
 refine lp rfl (p_fab fl33_0 rfl) ?_
 refine lp rfl (p_lbs ty9 rfl (j := 0) rfl rfl) ?_
 refine lp rfl (p_eqs rfl rfl) ?_
 refine lp rfl (p_mv rfl) ?_
 refine lcase (i := 10) (a0.Site.toList == a1.Site.toList) rfl (fun hb => ?_) (fun hb => ?_)
 ·have hm := ifB_t hb hm
  refine lg true rfl rfl rfl ?_
  refine lp rfl (p_fab fl33_1 rfl) ?_
  refine lg true rfl rfl rfl ?_
  refine lp rfl (p_lbs ty3 rfl (j := 1) rfl rfl) ?_
  refine lg true rfl rfl rfl ?_
  refine lp rfl (p_fab fl33_1 rfl) ?_
  refine lg true rfl rfl rfl ?_
  refine lp rfl (p_lbs ty3 rfl (j := 0) rfl rfl) ?_
  refine lg true rfl rfl rfl ?_
  refine lp rfl (p_eql rfl rfl) ?_
  refine lp rfl (p_pkt rfl rfl) ?_
  refine lp rfl (p_as rfl) ?_
  refine lj_seq ?_
  obtain rfl := Option.some.inj hm
  exact cj_rt () [] Tryz.results37 (.tmp rfl .nil) rfl rfl
 ·have hm := ifB_f hb hm
  refine ls true rfl rfl rfl rfl ?_
  refine ls true rfl rfl rfl rfl ?_
  refine ls true rfl rfl rfl rfl ?_
  refine ls true rfl rfl rfl rfl ?_
  refine ls true rfl rfl rfl rfl ?_
  refine lp rfl (p_pkf rfl rfl) ?_
  refine lp rfl (p_as rfl) ?_
  refine lj_seq ?_
  obtain rfl := Option.some.inj hm
  exact cj_rt () [] Tryz.results37 (.tmp rfl .nil) rfl rfl
theorem ok_gleeref2_ActsFault_1 (a0 : TAct) (b1_ : Nat) (a1_0 : ByteArray) (a1_1 : Int) (a1_2 : Int) (a1_3 : Int) (a1_4 : ByteArray) (a1_5 : ByteArray) (a1_6 : Int) (a1_7 : Bool) (a1_8 : ByteArray) (a1_9 : Int) {r : Bool} (hm : m_gleeref2_ActsFault_1 a0 a1_0 a1_1 a1_2 a1_3 a1_4 a1_5 a1_6 a1_7 a1_8 a1_9 = some r) :
  Ctr Tryz.prog 36 [.agg (R33.enc a0).toArray, .pointer (some ⟨b1_, 0, none⟩)].toArray ([] : List Ent) [BoxS b1_ 33 [.string a1_0, .int .i64 a1_1, .int .i64 a1_2, .int .i64 a1_3, .string a1_4, .string a1_5, .int .i64 a1_6, .bool a1_7, .string a1_8, .int .i64 a1_9]] (X := Unit) (fun _ => .bool r) (fun _ => []) := by
 unfold m_gleeref2_ActsFault_1 at hm
 refine ctr_mk (vs := [(0, .agg (R33.enc a0).toArray), (1, .pointer (some ⟨b1_, 0, none⟩))]) Tryz.func36 rfl Tryz.ntmps36 rfl ⟨rfl, rfl, trivial⟩ (fun w0 A => ?_)
 refine cj_seq ?_
 refine cj_reg ?_
 refine r_bx (cs := [.string a0.Site, .int .i64 a0.No, .int .i64 a0.At, .int .i64 a0.Kind, .string a0.Who, .string a0.Motion, .int .i64 a0.Cents, .bool a0.Yes, .string a0.Of, .int .i64 a0.Other]) rfl rfl rfl (fun b1 => ?_)
 refine lp rfl (p_as rfl) ?_
 refine lj_seq ?_
 refine cj_seq ?_
 refine cj_reg ?_
 refine lp rfl (p_lbw ty33 rfl (j := 0) rfl rfl) ?_
 refine lp rfl (p_rba ty33 rfl (.ro 1 rfl) rfl) ?_
 obtain ⟨y2, hy2, hm⟩ := bindS hm
 refine r_call [] cf37 rfl rfl (ok_gleeref2_oneAct a0 (TAct.mk a1_0 a1_1 a1_2 a1_3 a1_4 a1_5 a1_6 a1_7 a1_8 a1_9) hy2) rfl rfl .nil (fun _ => rfl) rfl (fun _ => ?_)
 refine lp rfl (p_as rfl) ?_
 refine lj_seq ?_
 obtain rfl := Option.some.inj hm
 exact cj_rt () [] Tryz.results36 (.tmp rfl .nil) rfl rfl
theorem ok_slices_IndexFunc_api_Act_api_Act__gleeref2_ActsFault_1 (s0_ : SV) (a0 : (List TAct)) (b1_c0_ : Nat) (a1_c0_0 : ByteArray) (a1_c0_1 : Int) (a1_c0_2 : Int) (a1_c0_3 : Int) (a1_c0_4 : ByteArray) (a1_c0_5 : ByteArray) (a1_c0_6 : Int) (a1_c0_7 : Bool) (a1_c0_8 : ByteArray) (a1_c0_9 : Int) {r : Int} (hm : m_slices_IndexFunc_api_Act_api_Act__gleeref2_ActsFault_1 a0 a1_c0_0 a1_c0_1 a1_c0_2 a1_c0_3 a1_c0_4 a1_c0_5 a1_c0_6 a1_c0_7 a1_c0_8 a1_c0_9 = some r) :
  Ctr Tryz.prog 68 [s0_.v, .func (.func 36) #[] [.pointer (some ⟨b1_c0_, 0, none⟩)].toArray].toArray ([] : List Ent) [RdS R33 (SV.v s0_) a0, BoxS b1_c0_ 33 [.string a1_c0_0, .int .i64 a1_c0_1, .int .i64 a1_c0_2, .int .i64 a1_c0_3, .string a1_c0_4, .string a1_c0_5, .int .i64 a1_c0_6, .bool a1_c0_7, .string a1_c0_8, .int .i64 a1_c0_9]] (X := Unit) (fun _ => .int .i64 r) (fun _ => []) := by
 unfold m_slices_IndexFunc_api_Act_api_Act__gleeref2_ActsFault_1 at hm
 refine ctr_mk (vs := [(0, s0_.v), (1, .func (.func 36) #[] [.pointer (some ⟨b1_c0_, 0, none⟩)].toArray)]) Tryz.func68 rfl Tryz.ntmps68 rfl ⟨rfl, rfl, trivial⟩ (fun w0 A => ?_)
 refine cj_seq ?_
 refine cj_reg ?_
 refine lp rfl (p_as rfl) ?_
 refine lj_seq ?_
 refine cj_seq ?_
 refine cj_seq ?_
 refine cj_reg ?_
 refine lp rfl (p_mv rfl) ?_
 refine lp rfl (p_len Tryz.underlying26 rfl (.ro 0 rfl)) ?_
 refine lp rfl (p_mv rfl) ?_
 refine lj_seq ?_
 obtain ⟨f7, hf7, hm⟩ := bindS hm
 refine cj_range (γ := Unit) (m := (a0.length : Int)) hf7 () (fun u4 g5 => [(0, s0_.v), (1, .func (.func 36) #[] [.pointer (some ⟨b1_c0_, 0, none⟩)].toArray), (4, .int .i64 0)]) (fun u4 g5 => Sat w0 (keys ([] : List Ent)) A [.ro (RdS R33 (SV.v s0_) a0), .ro (BoxS b1_c0_ 33 [.string a1_c0_0, .int .i64 a1_c0_1, .int .i64 a1_c0_2, .int .i64 a1_c0_3, .string a1_c0_4, .string a1_c0_5, .int .i64 a1_c0_6, .bool a1_c0_7, .string a1_c0_8, .int .i64 a1_c0_9])]) ⟨rfl, rfl, rfl, rfl, rfl, trivial⟩ (fun _ h => h.picks [0, 0] rfl) (nat_lt _) (fun _ h => (FactAt.get (F := RdS R33 (SV.v s0_) a0) (.ro 0 rfl) h).1) (fun _ _ => ⟨rfl, rfl, rfl, rfl⟩) ⟨rfl, rfl, rfl, rfl, rfl⟩ rfl rfl rfl (fun u4 g5 e => ?_) (fun aftk6 i1 x2 u4 g5 k6 hx3 hs J hJk6 hBk6 hX I cnk6 => ?_)
 ·have hm := Flow.fin_b e hm
  refine nj_seq ?_
  refine cj_seq ?_
  refine cj_reg ?_
  refine lp rfl (p_as rfl) ?_
  refine lj_seq ?_
  obtain rfl := Option.some.inj hm
  exact cj_rt () [] Tryz.results68 (.tmp rfl .nil) rfl rfl
 ·have hRk6 : ∀ t, k6 = .ret t → some t = some r := fun t e => by rw [hX t e] at hm; exact hm
  have hm := hs
  refine cj_seq ?_
  refine cj_reg ?_
  refine lp rfl (p_mv rfl) ?_
  refine lp rfl (p_as rfl) ?_
  refine lj_seq ?_
  refine cj_seq ?_
  refine cj_reg ?_
  refine lp rfl (p_mv rfl) ?_
  refine lp rfl (p_mv rfl) ?_
  refine lp rfl (p_mv rfl) ?_
  refine lp rfl (p_idx Tryz.underlying26 ty33 rfl rfl (.ro 0 rfl) (getI_nat.trans hx3)) ?_
  refine lp rfl (p_lea ty33 rfl (.ro 0 rfl) hx3) ?_
  obtain ⟨y8, hy8, hm⟩ := bindS hm
  refine r_call [] cf36 rfl rfl (ok_gleeref2_ActsFault_1 x2 b1_c0_ a1_c0_0 a1_c0_1 a1_c0_2 a1_c0_3 a1_c0_4 a1_c0_5 a1_c0_6 a1_c0_7 a1_c0_8 a1_c0_9 hy8) rfl rfl (.cons (.ro 1 rfl) .nil) (fun _ => rfl) rfl (fun _ => ?_)
  refine lj_seq ?_
  refine cj_if (b := y8) rfl (fun hb => ?_) (fun hb => ?_)
  ·have hm := ifB_t hb hm
   refine cj_seq ?_
   refine cj_reg ?_
   refine lp rfl (p_mv rfl) ?_
   refine lp rfl (p_as rfl) ?_
   refine lj_seq ?_
   have hm := hRk6 _ (Option.some.inj hm).symm
   obtain rfl := Option.some.inj hm
   exact cj_rt () [] Tryz.results68 (.tmp rfl .nil) rfl rfl
  ·have hm := ifB_f hb hm
   refine cj_skip ?_
   refine nj_blk ?_
   exact cnk6 _ _ () () (hJk6 _ (Option.some.inj hm).symm) ⟨rfl, rfl, rfl, rfl, rfl, trivial⟩ (fun _ h => h.picks [0, 0] rfl)
theorem ok_slices_ContainsFunc_api_Act_api_Act__gleeref2_ActsFault_1 (s0_ : SV) (a0 : (List TAct)) (b1_c0_ : Nat) (a1_c0_0 : ByteArray) (a1_c0_1 : Int) (a1_c0_2 : Int) (a1_c0_3 : Int) (a1_c0_4 : ByteArray) (a1_c0_5 : ByteArray) (a1_c0_6 : Int) (a1_c0_7 : Bool) (a1_c0_8 : ByteArray) (a1_c0_9 : Int) {r : Bool} (hm : m_slices_ContainsFunc_api_Act_api_Act__gleeref2_ActsFault_1 a0 a1_c0_0 a1_c0_1 a1_c0_2 a1_c0_3 a1_c0_4 a1_c0_5 a1_c0_6 a1_c0_7 a1_c0_8 a1_c0_9 = some r) :
  Ctr Tryz.prog 35 [s0_.v, .func (.func 36) #[] [.pointer (some ⟨b1_c0_, 0, none⟩)].toArray].toArray ([] : List Ent) [RdS R33 (SV.v s0_) a0, BoxS b1_c0_ 33 [.string a1_c0_0, .int .i64 a1_c0_1, .int .i64 a1_c0_2, .int .i64 a1_c0_3, .string a1_c0_4, .string a1_c0_5, .int .i64 a1_c0_6, .bool a1_c0_7, .string a1_c0_8, .int .i64 a1_c0_9]] (X := Unit) (fun _ => .bool r) (fun _ => []) := by
 unfold m_slices_ContainsFunc_api_Act_api_Act__gleeref2_ActsFault_1 at hm
 refine ctr_mk (vs := [(0, s0_.v), (1, .func (.func 36) #[] [.pointer (some ⟨b1_c0_, 0, none⟩)].toArray)]) Tryz.func35 rfl Tryz.ntmps35 rfl ⟨rfl, rfl, trivial⟩ (fun w0 A => ?_)
 refine cj_seq ?_
 refine cj_reg ?_
 refine lp rfl (p_as rfl) ?_
 refine lj_seq ?_
 refine cj_seq ?_
 refine cj_reg ?_
 refine lp rfl (p_mv rfl) ?_
 refine lp rfl (p_mv rfl) ?_
 obtain ⟨y1, hy1, hm⟩ := bindS hm
 refine r_call [] cf68 rfl rfl (ok_slices_IndexFunc_api_Act_api_Act__gleeref2_ActsFault_1 s0_ a0 b1_c0_ a1_c0_0 a1_c0_1 a1_c0_2 a1_c0_3 a1_c0_4 a1_c0_5 a1_c0_6 a1_c0_7 a1_c0_8 a1_c0_9 hy1) rfl rfl (.cons (.ro 0 rfl) (.cons (.ro 1 rfl) .nil)) (fun _ => rfl) rfl (fun _ => ?_)
 refine lp rfl (p_geq rfl rfl) ?_
 refine lp rfl (p_as rfl) ?_
 refine lj_seq ?_
 obtain rfl := Option.some.inj hm
 exact cj_rt () [] Tryz.results35 (.tmp rfl .nil) rfl rfl
theorem ok_gleeref2_ActsFault (s0_ : SV) (a0 : (List TAct)) {r : Int} (hm : m_gleeref2_ActsFault a0 = some r) :
  Ctr Tryz.prog 16 [s0_.v].toArray ([] : List Ent) [RdS R33 (SV.v s0_) a0] (X := Unit) (fun _ => .int .i64 r) (fun _ => []) := by
 unfold m_gleeref2_ActsFault at hm
 refine ctr_mk (vs := [(0, s0_.v)]) Tryz.func16 rfl Tryz.ntmps16 rfl ⟨rfl, trivial⟩ (fun w0 A => ?_)
 refine cj_seq ?_
 refine cj_reg ?_
 refine lp rfl (p_as rfl) ?_
 refine lj_seq ?_
 refine cj_seq ?_
 refine cj_seq ?_
 refine cj_reg ?_
 refine lp rfl (p_mv rfl) ?_
 refine lp rfl (p_len Tryz.underlying26 rfl (.ro 0 rfl)) ?_
 refine lp rfl (p_gtr rfl rfl) ?_
 refine lj_seq ?_
 refine cj_if (b := decide ((a0.length : Int) > 2000)) rfl (fun hb => ?_) (fun hb => ?_)
 ·have hm := ifB_t hb hm
  refine cj_seq ?_
  refine cj_reg ?_
  refine lp rfl (p_as rfl) ?_
  refine lj_seq ?_
  obtain rfl := Option.some.inj hm
  exact cj_rt () [] Tryz.results16 (.tmp rfl .nil) rfl rfl
 ·have hm := ifB_f hb hm
  refine cj_skip ?_
  refine nj_seq ?_
  refine cj_seq ?_
  refine cj_seq ?_
  refine cj_reg ?_
  refine lp rfl (p_mv rfl) ?_
  refine lp rfl (p_len Tryz.underlying26 rfl (.ro 0 rfl)) ?_
  refine lp rfl (p_mv rfl) ?_
  refine lj_seq ?_
  obtain ⟨f7, hf7, hm⟩ := bindS hm
  refine cj_range (γ := Unit) (m := (a0.length : Int)) hf7 () (fun u4 g5 => [(0, s0_.v), (2, .int .i64 0), (11, s0_.v)]) (fun u4 g5 => Sat w0 (keys ([] : List Ent)) A [.ro (RdS R33 (SV.v s0_) a0)]) ⟨rfl, rfl, rfl, rfl, rfl, trivial⟩ (fun _ h => h.picks [0] rfl) (nat_lt _) (fun _ h => (FactAt.get (F := RdS R33 (SV.v s0_) a0) (.ro 0 rfl) h).1) (fun _ _ => ⟨rfl, rfl, rfl, rfl⟩) ⟨rfl, rfl, rfl, rfl, rfl⟩ rfl rfl rfl (fun u4 g5 e => ?_) (fun aftk6 i1 x2 u4 g5 k6 hx3 hs J hJk6 hBk6 hX I cnk6 => ?_)
  ·have hm := Flow.fin_b e hm
   refine nj_seq ?_
   refine cj_seq ?_
   refine cj_seq ?_
   refine cj_reg ?_
   refine lp rfl (p_mv rfl) ?_
   refine lp rfl (p_len Tryz.underlying26 rfl (.ro 0 rfl)) ?_
   refine lp rfl (p_mv rfl) ?_
   refine lj_seq ?_
   obtain ⟨f18, hf18, hm⟩ := bindS hm
   refine cj_range (γ := Unit) (m := (a0.length : Int)) hf18 () (fun u15 g16 => [(0, s0_.v), (2, .int .i64 0), (36, s0_.v)]) (fun u15 g16 => Sat w0 (keys ([] : List Ent)) A [.ro (RdS R33 (SV.v s0_) a0)]) ⟨rfl, rfl, rfl, rfl, rfl, trivial⟩ (fun _ h => h.picks [0] rfl) (nat_lt _) (fun _ h => (FactAt.get (F := RdS R33 (SV.v s0_) a0) (.ro 0 rfl) h).1) (fun _ _ => ⟨rfl, rfl, rfl, rfl⟩) ⟨rfl, rfl, rfl, rfl, rfl⟩ rfl rfl rfl (fun u15 g16 e => ?_) (fun aftk17 i12 x13 u15 g16 k17 hx14 hs J hJk17 hBk17 hX I cnk17 => ?_)
   ·have hm := Flow.fin_b e hm
    refine nj_seq ?_
    refine cj_seq ?_
    refine cj_reg ?_
    refine lp rfl (p_as rfl) ?_
    refine lj_seq ?_
    obtain rfl := Option.some.inj hm
    exact cj_rt () [] Tryz.results16 (.tmp rfl .nil) rfl rfl
   ·have hRk17 : ∀ t, k17 = .ret t → some t = some r := fun t e => by rw [hX t e] at hm; exact hm
    have hm := hs
    refine cj_seq ?_
    refine cj_reg ?_
    refine lp rfl (p_mv rfl) ?_
    refine lp rfl (p_idx Tryz.underlying26 ty33 rfl rfl (.ro 0 rfl) (getI_nat.trans hx14)) ?_
    refine lp rfl (p_lea ty33 rfl (.ro 0 rfl) hx14) ?_
    refine r_al ty33 rfl (fun b19 => ?_)
    refine lp rfl (p_as rfl) ?_
    refine r_sb (vs := [.string x13.Site, .int .i64 x13.No, .int .i64 x13.At, .int .i64 x13.Kind, .string x13.Who, .string x13.Motion, .int .i64 x13.Cents, .bool x13.Yes, .string x13.Of, .int .i64 x13.Other]) (j := 0) ty33 rfl rfl rfl rfl rfl rfl rfl ?_
    refine lj_seq ?_
    refine cj_seq ?_
    refine cj_reg ?_
    refine lp rfl (p_mv rfl) ?_
    refine lp rfl (p_mv rfl) ?_
    obtain ⟨q20, hq20, hm⟩ := bindS hm
    refine lp rfl (p_cut Tryz.underlying26 ty33 rfl rfl rfl rfl rfl (.ro 1 rfl) rfl rfl hq20) ?_
    refine lp rfl (p_fn (cv := [.pointer (some ⟨b19, 0, none⟩)]) rfl) ?_
    obtain ⟨y21, hy21, hm⟩ := bindS hm
    refine r_call [] cf35 rfl rfl (ok_slices_ContainsFunc_api_Act_api_Act__gleeref2_ActsFault_1 (s0_.sub R33.sz (0 : Int).toNat (i12 : Int).toNat) q20 b19 x13.Site x13.No x13.At x13.Kind x13.Who x13.Motion x13.Cents x13.Yes x13.Of x13.Other hy21) rfl rfl (.cons (.imp (.ro 1 rfl) (fun _ h => h.cut hq20)) (.cons (.imp (.box 0 rfl) (fun _ h => h)) .nil)) (fun _ => rfl) rfl (fun _ => ?_)
    refine lj_seq ?_
    refine cj_if (b := y21) rfl (fun hb => ?_) (fun hb => ?_)
    ·have hm := ifB_t hb hm
     refine cj_seq ?_
     refine cj_reg ?_
     refine lp rfl (p_as rfl) ?_
     refine lj_seq ?_
     have hm := hRk17 _ (Option.some.inj hm).symm
     obtain rfl := Option.some.inj hm
     exact cj_rt () [] Tryz.results16 (.tmp rfl .nil) rfl rfl
    ·have hm := ifB_f hb hm
     refine cj_skip ?_
     refine nj_blk ?_
     exact cnk17 _ _ () () (hJk17 _ (Option.some.inj hm).symm) ⟨rfl, rfl, rfl, rfl, rfl, trivial⟩ (fun _ h => h.picks [1] rfl)
  ·have hRk6 : ∀ t, k6 = .ret t → some t = some r := fun t e => by rw [hX t e] at hm; exact hm
   have hm := hs
   refine cj_seq ?_
   refine cj_reg ?_
   refine lp rfl (p_mv rfl) ?_
   refine lp rfl (p_idx Tryz.underlying26 ty33 rfl rfl (.ro 0 rfl) (getI_nat.trans hx3)) ?_
   refine lp rfl (p_lea ty33 rfl (.ro 0 rfl) hx3) ?_
   refine r_al ty33 rfl (fun b8 => ?_)
   refine lp rfl (p_as rfl) ?_
   refine r_sb (vs := [.string x2.Site, .int .i64 x2.No, .int .i64 x2.At, .int .i64 x2.Kind, .string x2.Who, .string x2.Motion, .int .i64 x2.Cents, .bool x2.Yes, .string x2.Of, .int .i64 x2.Other]) (j := 0) ty33 rfl rfl rfl rfl rfl rfl rfl ?_
   refine lj_seq ?_
   refine cj_seq ?_
   refine cj_seq ?_
   refine cj_reg ?_
   refine lp rfl (p_lbw ty33 rfl (j := 0) rfl rfl) ?_
   obtain ⟨y9, hy9, hm⟩ := bindS hm
   refine r_call [] cf34 rfl rfl (ok_gleeref2_ActFault x2 hy9) rfl rfl .nil (fun _ => rfl) rfl (fun _ => ?_)
   refine lp rfl (p_as rfl) ?_
   refine lj_seq ?_
   refine cj_seq ?_
   refine cj_reg ?_
   refine lp rfl (p_mv rfl) ?_
   refine lp rfl (p_neq rfl rfl) ?_
   refine lj_seq ?_
   refine cj_if (b := y9 != 0) rfl (fun hb => ?_) (fun hb => ?_)
   ·have hm := ifB_t hb hm
    refine cj_seq ?_
    refine cj_reg ?_
    refine lp rfl (p_mv rfl) ?_
    refine lp rfl (p_as rfl) ?_
    refine lj_seq ?_
    have hm := hRk6 _ (Option.some.inj hm).symm
    obtain rfl := Option.some.inj hm
    exact cj_rt () [] Tryz.results16 (.tmp rfl .nil) rfl rfl
   ·have hm := ifB_f hb hm
    refine cj_skip ?_
    refine nj_seq ?_
    refine cj_seq ?_
    refine cj_quiet (by kernel_rfl) (by kernel_rfl) ?_
    refine q_p rfl (p_mv rfl) ?_
    refine q_p rfl (p_gtr rfl rfl) ?_
    refine q_p rfl (p_mv rfl) ?_
    refine q_case (i := 25) (decide ((i1 : Int) > 0)) rfl (fun hb => ?_) (fun hb => ?_)
    ·have hm := ifB_t hb hm
     refine q_g true rfl rfl rfl ?_
     refine q_p rfl (p_mv rfl) ?_
     refine q_g true rfl rfl rfl ?_
     refine q_p rfl (p_mv rfl) ?_
     refine q_g true rfl rfl rfl ?_
     refine q_p rfl (p_sub rfl rfl) ?_
     refine q_g true rfl rfl rfl ?_
     obtain ⟨e10, he10, hm⟩ := bindS hm
     refine q_p rfl (p_idx Tryz.underlying26 ty33 rfl rfl (.ro 1 rfl) he10) ?_
     refine q_g true rfl rfl rfl ?_
     refine q_p rfl (p_lea ty33 rfl (.ro 1 rfl) (getI_spec he10).2) ?_
     refine q_g true rfl rfl rfl ?_
     refine q_p rfl (p_lbw ty33 rfl (j := 0) rfl rfl) ?_
     refine q_g true rfl rfl rfl ?_
     obtain ⟨y11, hy11, hm⟩ := bindS hm
     refine q_call (.int .i64 y11) cf33 rfl rfl (ok_gleeref2_ActOrder e10 x2 hy11) .nil (fun _ => rfl) (fun _ => rfl) rfl ?_
     refine q_g true rfl rfl rfl ?_
     refine q_p rfl (p_geq rfl rfl) ?_
     refine q_p rfl (p_pkt rfl rfl) ?_
     refine q_nil ?_
     refine nj_seq ?_
     refine cj_if (b := decide (y11 ≥ 0)) rfl (fun hb => ?_) (fun hb => ?_)
     ·have hm := ifB_t hb hm
      refine cj_seq ?_
      refine cj_reg ?_
      refine lp rfl (p_as rfl) ?_
      refine lj_seq ?_
      have hm := hRk6 _ (Option.some.inj hm).symm
      obtain rfl := Option.some.inj hm
      exact cj_rt () [] Tryz.results16 (.tmp rfl .nil) rfl rfl
     ·have hm := ifB_f hb hm
      refine cj_skip ?_
      refine nj_blk ?_
      exact cnk6 _ _ () () (hJk6 _ (Option.some.inj hm).symm) ⟨rfl, rfl, rfl, rfl, rfl, trivial⟩ (fun _ h => h.picks [1] rfl)
    ·have hm := ifB_f hb hm
     refine q_s true rfl rfl rfl rfl ?_
     refine q_s true rfl rfl rfl rfl ?_
     refine q_s true rfl rfl rfl rfl ?_
     refine q_s true rfl rfl rfl rfl ?_
     refine q_s true rfl rfl rfl rfl ?_
     refine q_s true rfl rfl rfl rfl ?_
     refine q_s true rfl rfl rfl rfl ?_
     refine q_s true rfl rfl rfl rfl ?_
     refine q_p rfl (p_pkf rfl rfl) ?_
     refine q_nil ?_
     refine nj_seq ?_
     refine cj_if_f rfl ?_
     refine cj_skip ?_
     refine nj_blk ?_
     exact cnk6 _ _ () () (hJk6 _ (Option.some.inj hm).symm) ⟨rfl, rfl, rfl, rfl, rfl, trivial⟩ (fun _ h => h.picks [1] rfl)
theorem ok_gleemake_Stream_RightActs (b0_ : Nat) (s0_0_ : SV) (a0_0 : (List Int)) (a0_1 : Int) (a1 : Int) {r : (List TAct) × Int} (hm : m_gleemake_Stream_RightActs a0_0 a0_1 a1 = some r) :
  Ctr Tryz.prog 4 [.pointer (some ⟨b0_, 0, none⟩), .int .i64 a1].toArray [.box b0_ 25 [s0_0_.v, .int .i64 a0_1]] [RdS R3 (SV.v s0_0_) a0_0] (X := SV) (fun s => s.v) (fun s => [.row R33 (SV.v s) r.1, .box b0_ 25 [s0_0_.v, .int .i64 r.2]]) := by
 unfold m_gleemake_Stream_RightActs at hm
 refine ctr_mk (vs := [(0, .pointer (some ⟨b0_, 0, none⟩)), (1, .int .i64 a1)]) Tryz.func4 rfl Tryz.ntmps4 rfl ⟨rfl, rfl, trivial⟩ (fun w0 A => ?_)
 refine cj_seq ?_
 refine cj_reg ?_
 refine lp rfl (p_as rfl) ?_
 refine lj_seq ?_
 refine cj_seq ?_
 refine cj_seq ?_
 refine cj_reg ?_
 refine lp rfl (p_mv rfl) ?_
 refine lj_seq ?_
 obtain ⟨L12, hL12, hm⟩ := bindS hm
 obtain ⟨f7, hf7, hm⟩ := bindS hm
 refine cj_rangeC (γ := Unit) (m := 5) hf7 () (fun u4 g5 => [(0, .pointer (some ⟨b0_, 0, none⟩)), (1, .int .i64 a1), (4, .slice none 0 0)]) (fun u4 g5 => Sat w0 (keys [.box b0_ 25 [s0_0_.v, .int .i64 a0_1]]) A [.box b0_ 25 [s0_0_.v, .int .i64 u4], .ro (RdS R3 (SV.v s0_0_) a0_0)]) ⟨rfl, rfl, rfl, rfl, trivial⟩ (fun _ h => h.picks [0, 0] rfl) (rangeI_spec hL12).1 (fun _ _ => (rangeI_spec hL12).2) (fun _ _ => ⟨rfl, rfl, rfl⟩) ⟨rfl, rfl⟩ rfl rfl rfl (fun u4 g5 e => ?_) (fun aftk6 i1 x2 u4 g5 k6 hx3 hs J hJk6 hBk6 hX I cnk6 => ?_)
 ·have hm := Flow.fin_b e hm
  refine nj_seq ?_
  refine cj_seq ?_
  refine cj_reg ?_
  refine lp rfl (p_as rfl) ?_
  refine lj_seq ?_
  obtain rfl := Option.some.inj hm
  refine cj_nil R33 ?_
  exact cj_rt nilS [0, 0] Tryz.results4 (.tmp rfl .nil) rfl rfl
 ·have hRk6 : ∀ t, k6 = .ret t → some t = some r := fun t e => by rw [hX t e] at hm; exact hm
  have hm := hs
  refine cj_seq ?_
  refine cj_reg ?_
  refine lp rfl (p_mv rfl) ?_
  refine lp rfl (p_mv rfl) ?_
  obtain ⟨y8, hy8, hm⟩ := bindS hm
  refine r_call [0] cf15 rfl rfl (ok_gleemake_Stream_Acts b0_ s0_0_ a0_0 u4 a1 hy8) rfl rfl (.cons (.ro 0 rfl) .nil) (fun _ => rfl) rfl (fun s9 => ?_)
  refine lp rfl (p_as rfl) ?_
  refine lj_seq ?_
  refine cj_seq ?_
  refine cj_reg ?_
  refine lp rfl (p_mv rfl) ?_
  obtain ⟨y10, hy10, hm⟩ := bindS hm
  refine r_call [] cf16 rfl rfl (ok_gleeref2_ActsFault s9 y8.1 hy10) rfl rfl (.cons (.row 0 rfl) .nil) (fun _ => rfl) rfl (fun _ => ?_)
  refine lp rfl (p_eql rfl rfl) ?_
  refine lj_seq ?_
  refine cj_if (b := y10 == 0) rfl (fun hb => ?_) (fun hb => ?_)
  ·have hm := ifB_t hb hm
   refine cj_seq ?_
   refine cj_reg ?_
   refine lp rfl (p_mv rfl) ?_
   refine lp rfl (p_as rfl) ?_
   refine lj_seq ?_
   have hm := hRk6 _ (Option.some.inj hm).symm
   obtain rfl := Option.some.inj hm
   exact cj_rt s9 [0, 0] Tryz.results4 (.tmp rfl .nil) rfl rfl
  ·have hm := ifB_f hb hm
   refine cj_skip ?_
   refine nj_blk ?_
   exact cnk6 _ _ y8.2 () (hJk6 _ (Option.some.inj hm).symm) ⟨rfl, rfl, rfl, rfl, trivial⟩ (fun _ h => h.picks [1, 1] rfl)
theorem ok_kit_IsKey (a0 : ByteArray) {r : Bool} (hm : m_kit_IsKey a0 = some r) :
  Ctr Tryz.prog 84 [.string a0].toArray ([] : List Ent) [] (X := Unit) (fun _ => .bool r) (fun _ => []) := by
 unfold m_kit_IsKey at hm
 refine ctr_mk (vs := [(0, .string a0)]) Tryz.func84 rfl Tryz.ntmps84 rfl ⟨rfl, trivial⟩ (fun w0 A => ?_)
 refine cj_seq ?_
 refine cj_reg ?_
 refine lp rfl (p_as rfl) ?_
 refine lj_seq ?_
 refine cj_seq ?_
 refine cj_reg ?_
 refine lp rfl (p_mv rfl) ?_
 refine lp rfl (p_nes rfl rfl) ?_
 refine lp rfl (p_mv rfl) ?_
 refine lcase (i := 5) (!(a0.toList == ByteArray.empty.toList)) rfl (fun hb => ?_) (fun hb => ?_)
 ·have hm := ifB_t hb hm
  refine lg true rfl rfl rfl ?_
  refine lp rfl (p_mv rfl) ?_
  refine lg true rfl rfl rfl ?_
  refine lp rfl (p_lens Tryz.underlying9 rfl) ?_
  refine lg true rfl rfl rfl ?_
  refine lp rfl (p_leq rfl rfl) ?_
  refine lp rfl (p_pkt rfl rfl) ?_
  refine lp rfl (p_mv rfl) ?_
  refine lcase (i := 10) (decide ((a0.size : Int) ≤ 40)) rfl (fun hb => ?_) (fun hb => ?_)
  ·have hm := ifB_t hb hm
   refine lg true rfl rfl rfl ?_
   refine lp rfl (p_mv rfl) ?_
   refine lg true rfl rfl rfl ?_
   obtain ⟨c1, hc1, hm⟩ := bindS hm
   refine lp rfl (p_stri Tryz.underlying9 rfl rfl hc1) ?_
   refine lg true rfl rfl rfl ?_
   obtain ⟨y2, hy2, hm⟩ := bindS hm
   refine r_call [] cf104 rfl rfl (ok_strings_IndexByte (ByteArray.mk [97, 98, 99, 100, 101, 102, 103, 104, 105, 106, 107, 108, 109, 110, 111, 112, 113, 114, 115, 116, 117, 118, 119, 120, 121, 122].toArray) c1 hy2) rfl rfl .nil (fun _ => rfl) rfl (fun _ => ?_)
   refine lg true rfl rfl rfl ?_
   refine lp rfl (p_geq rfl rfl) ?_
   refine lp rfl (p_pkt rfl rfl) ?_
   refine lp rfl (p_mv rfl) ?_
   refine lcase (i := 16) (decide (y2 ≥ 0)) rfl (fun hb => ?_) (fun hb => ?_)
   ·have hm := ifB_t hb hm
    refine lg true rfl rfl rfl ?_
    refine lp rfl (p_mv rfl) ?_
    refine lg true rfl rfl rfl ?_
    obtain ⟨y3, hy3, hm⟩ := bindS hm
    refine r_call [] cf105 rfl rfl (ok_strings_Trim a0 (ByteArray.mk [97, 98, 99, 100, 101, 102, 103, 104, 105, 106, 107, 108, 109, 110, 111, 112, 113, 114, 115, 116, 117, 118, 119, 120, 121, 122, 48, 49, 50, 51, 52, 53, 54, 55, 56, 57, 45, 95].toArray) hy3) rfl rfl .nil (fun _ => rfl) rfl (fun _ => ?_)
    refine lg true rfl rfl rfl ?_
    refine lp rfl (p_eqs rfl rfl) ?_
    refine lp rfl (p_pkt rfl rfl) ?_
    refine lp rfl (p_as rfl) ?_
    refine lj_seq ?_
    obtain rfl := Option.some.inj hm
    exact cj_rt () [] Tryz.results84 (.tmp rfl .nil) rfl rfl
   ·have hm := ifB_f hb hm
    refine ls true rfl rfl rfl rfl ?_
    refine ls true rfl rfl rfl rfl ?_
    refine ls true rfl rfl rfl rfl ?_
    refine lp rfl (p_pkf rfl rfl) ?_
    refine lp rfl (p_as rfl) ?_
    refine lj_seq ?_
    obtain rfl := Option.some.inj hm
    exact cj_rt () [] Tryz.results84 (.tmp rfl .nil) rfl rfl
  ·have hm := ifB_f hb hm
   refine ls true rfl rfl rfl rfl ?_
   refine ls true rfl rfl rfl rfl ?_
   refine ls true rfl rfl rfl rfl ?_
   refine ls true rfl rfl rfl rfl ?_
   refine lp rfl (p_pkf rfl rfl) ?_
   refine lp rfl (p_mv rfl) ?_
   refine ls true rfl rfl rfl rfl ?_
   refine ls true rfl rfl rfl rfl ?_
   refine ls true rfl rfl rfl rfl ?_
   refine lp rfl (p_pkf rfl rfl) ?_
   refine lp rfl (p_as rfl) ?_
   refine lj_seq ?_
   obtain rfl := Option.some.inj hm
   exact cj_rt () [] Tryz.results84 (.tmp rfl .nil) rfl rfl
 ·have hm := ifB_f hb hm
  refine ls true rfl rfl rfl rfl ?_
  refine ls true rfl rfl rfl rfl ?_
  refine ls true rfl rfl rfl rfl ?_
  refine lp rfl (p_pkf rfl rfl) ?_
  refine lp rfl (p_mv rfl) ?_
  refine ls true rfl rfl rfl rfl ?_
  refine ls true rfl rfl rfl rfl ?_
  refine ls true rfl rfl rfl rfl ?_
  refine ls true rfl rfl rfl rfl ?_
  refine lp rfl (p_pkf rfl rfl) ?_
  refine lp rfl (p_mv rfl) ?_
  refine ls true rfl rfl rfl rfl ?_
  refine ls true rfl rfl rfl rfl ?_
  refine ls true rfl rfl rfl rfl ?_
  refine lp rfl (p_pkf rfl rfl) ?_
  refine lp rfl (p_as rfl) ?_
  refine lj_seq ?_
  obtain rfl := Option.some.inj hm
  exact cj_rt () [] Tryz.results84 (.tmp rfl .nil) rfl rfl
theorem ok_kit_Outside (a0 : Int) (a1 : Int) (a2 : Int) {r : Bool} (hm : m_kit_Outside a0 a1 a2 = some r) :
  Ctr Tryz.prog 76 [.int .i64 a0, .int .i64 a1, .int .i64 a2].toArray ([] : List Ent) [] (X := Unit) (fun _ => .bool r) (fun _ => []) := by
 unfold m_kit_Outside at hm
 refine ctr_mk (vs := [(0, .int .i64 a0), (1, .int .i64 a1), (2, .int .i64 a2)]) Tryz.func76 rfl Tryz.ntmps76 rfl ⟨rfl, rfl, rfl, trivial⟩ (fun w0 A => ?_)
 refine cj_seq ?_
 refine cj_reg ?_
 refine lp rfl (p_as rfl) ?_
 refine lj_seq ?_
 refine cj_seq ?_
 refine cj_reg ?_
 refine lp rfl (p_mv rfl) ?_
 refine lp rfl (p_mv rfl) ?_
 refine lp rfl (p_lss rfl rfl) ?_
 refine lp rfl (p_mv rfl) ?_
 refine lcase (i := 10) (decide (a0 < a1)) rfl (fun hb => ?_) (fun hb => ?_)
 ·have hm := ifB_t hb hm
  refine ls false rfl rfl rfl rfl ?_
  refine ls false rfl rfl rfl rfl ?_
  refine ls false rfl rfl rfl rfl ?_
  refine lp rfl (p_pkt rfl rfl) ?_
  refine lp rfl (p_as rfl) ?_
  refine lj_seq ?_
  obtain rfl := Option.some.inj hm
  exact cj_rt () [] Tryz.results76 (.tmp rfl .nil) rfl rfl
 ·have hm := ifB_f hb hm
  refine lg false rfl rfl rfl ?_
  refine lp rfl (p_mv rfl) ?_
  refine lg false rfl rfl rfl ?_
  refine lp rfl (p_mv rfl) ?_
  refine lg false rfl rfl rfl ?_
  refine lp rfl (p_gtr rfl rfl) ?_
  refine lp rfl (p_pkf rfl rfl) ?_
  refine lp rfl (p_as rfl) ?_
  refine lj_seq ?_
  obtain rfl := Option.some.inj hm
  exact cj_rt () [] Tryz.results76 (.tmp rfl .nil) rfl rfl
theorem ok_kit_IsMoment (a0 : Int) {r : Bool} (hm : m_kit_IsMoment a0 = some r) :
  Ctr Tryz.prog 44 [.int .i64 a0].toArray ([] : List Ent) [] (X := Unit) (fun _ => .bool r) (fun _ => []) := by
 unfold m_kit_IsMoment at hm
 refine ctr_mk (vs := [(0, .int .i64 a0)]) Tryz.func44 rfl Tryz.ntmps44 rfl ⟨rfl, trivial⟩ (fun w0 A => ?_)
 refine cj_seq ?_
 refine cj_reg ?_
 refine lp rfl (p_as rfl) ?_
 refine lj_seq ?_
 refine cj_seq ?_
 refine cj_reg ?_
 refine lp rfl (p_mv rfl) ?_
 obtain ⟨y1, hy1, hm⟩ := bindS hm
 refine r_call [] cf76 rfl rfl (ok_kit_Outside a0 0 345686399999 hy1) rfl rfl .nil (fun _ => rfl) rfl (fun _ => ?_)
 refine lp rfl (p_not rfl) ?_
 refine lp rfl (p_as rfl) ?_
 refine lj_seq ?_
 obtain rfl := Option.some.inj hm
 exact cj_rt () [] Tryz.results44 (.tmp rfl .nil) rfl rfl
end Go.Proofs.YtgfbgcdnnkehbaaGreatDoor
