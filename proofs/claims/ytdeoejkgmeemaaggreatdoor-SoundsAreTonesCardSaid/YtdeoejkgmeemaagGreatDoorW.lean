/- The walks. Written by program. -/
import Derived.Test.YtdeoejkgmeemaagGreatDoorD
import Derived.Test.YtdeoejkgmeemaagGreatDoorXG
namespace Go.Proofs.YtdeoejkgmeemaagGreatDoor
open Go Go.J Go.G
set_option maxRecDepth 100000
set_option linter.unusedVariables false
set_option linter.unusedSimpArgs false
theorem ok_gleemake_Below (a0 : Int) (a1 : Int) {r : Int} (hm : m_gleemake_Below a0 a1 = some r) :
  Ctr Tryz.prog 73 [.int .i64 a0, .int .i64 a1].toArray ([] : List Ent) [] (X := Unit) (fun _ => .int .i64 r) (fun _ => []) := by
 unfold m_gleemake_Below at hm
 refine ctr_mk (vs := [(0, .int .i64 a0), (1, .int .i64 a1)]) Tryz.func73 rfl Tryz.ntmps73 rfl ⟨rfl, rfl, trivial⟩ (fun w0 A => ?_)
 refine cj_seq ?_
 refine cj_reg ?_
 refine lp rfl (p_as rfl) ?_
 refine lj_seq ?_
 refine cj_seq ?_
 refine cj_seq ?_
 refine cj_reg ?_
 refine lp rfl (p_mv rfl) ?_
 refine lp rfl (p_lss rfl rfl) ?_
 refine lj_seq ?_
 refine cj_if (b := decide (a1 < 1)) rfl (fun hb => ?_) (fun hb => ?_)
 ·have hm := ifB_t hb hm
  refine cj_seq ?_
  refine cj_reg ?_
  refine lp rfl (p_as rfl) ?_
  refine lj_seq ?_
  obtain rfl := Option.some.inj hm
  exact cj_rt () [] Tryz.results73 (.tmp rfl .nil) rfl rfl
 ·have hm := ifB_f hb hm
  refine cj_skip ?_
  refine nj_seq ?_
  refine cj_seq ?_
  refine cj_reg ?_
  refine lp rfl (p_mv rfl) ?_
  refine lp rfl (p_mv rfl) ?_
  obtain ⟨z1, hz1, hm⟩ := bindS hm
  refine lp rfl (p_remM hz1 rfl rfl) ?_
  refine lp rfl (p_as rfl) ?_
  refine lj_seq ?_
  refine cj_seq ?_
  refine cj_seq ?_
  refine cj_reg ?_
  refine lp rfl (p_mv rfl) ?_
  refine lp rfl (p_lss rfl rfl) ?_
  refine lj_seq ?_
  refine cj_if (b := decide (z1 < 0)) rfl (fun hb => ?_) (fun hb => ?_)
  ·have hm := ifB_t hb hm
   refine cj_reg ?_
   refine lp rfl (p_mv rfl) ?_
   refine lp rfl (p_mv rfl) ?_
   refine lp rfl (p_add rfl rfl) ?_
   refine lp rfl (p_as rfl) ?_
   refine lj_seq ?_
   refine cj_seq ?_
   refine cj_reg ?_
   refine lp rfl (p_mv rfl) ?_
   refine lp rfl (p_as rfl) ?_
   refine lj_seq ?_
   obtain rfl := Option.some.inj hm
   exact cj_rt () [] Tryz.results73 (.tmp rfl .nil) rfl rfl
  ·have hm := ifB_f hb hm
   refine cj_skip ?_
   refine nj_seq ?_
   refine cj_seq ?_
   refine cj_reg ?_
   refine lp rfl (p_mv rfl) ?_
   refine lp rfl (p_as rfl) ?_
   refine lj_seq ?_
   obtain rfl := Option.some.inj hm
   exact cj_rt () [] Tryz.results73 (.tmp rfl .nil) rfl rfl
theorem ok_gleemake_Stream_Next (b0_ : Nat) (s0_0_ : SV) (a0_0 : (List Int)) (a0_1 : Int) (a1 : Int) {r : Int × Int} (hm : m_gleemake_Stream_Next a0_0 a0_1 a1 = some r) :
  Ctr Tryz.prog 40 [.pointer (some ⟨b0_, 0, none⟩), .int .i64 a1].toArray [.box b0_ 25 [s0_0_.v, .int .i64 a0_1]] [RdS R3 (SV.v s0_0_) a0_0] (X := Unit) (fun _ => .int .i64 r.1) (fun _ => [.box b0_ 25 [s0_0_.v, .int .i64 r.2]]) := by
 unfold m_gleemake_Stream_Next at hm
 refine ctr_mk (vs := [(0, .pointer (some ⟨b0_, 0, none⟩)), (1, .int .i64 a1)]) Tryz.func40 rfl Tryz.ntmps40 rfl ⟨rfl, rfl, trivial⟩ (fun w0 A => ?_)
 refine cj_seq ?_
 refine cj_reg ?_
 refine lp rfl (p_as rfl) ?_
 refine lj_seq ?_
 refine cj_seq ?_
 refine cj_reg ?_
 refine lp rfl (p_mv rfl) ?_
 refine lp rfl (p_nc rfl) ?_
 refine lp rfl (p_fab fl25_1 rfl) ?_
 refine lp rfl (p_lbs ty3 rfl (j := 0) rfl rfl) ?_
 refine lp rfl (p_add rfl rfl) ?_
 refine lp rfl (p_nc rfl) ?_
 refine lp rfl (p_fab fl25_1 rfl) ?_
 refine r_sb (vs := [.int .i64 (w64 (a0_1 + 1))]) (j := 0) ty3 rfl rfl rfl rfl rfl rfl rfl ?_
 refine lj_seq ?_
 refine cj_seq ?_
 refine cj_seq ?_
 refine cj_reg ?_
 refine lp rfl (p_mv rfl) ?_
 refine lp rfl (p_nc rfl) ?_
 refine lp rfl (p_fab fl25_0 rfl) ?_
 refine lp rfl (p_lbs ty22 rfl (j := 0) rfl rfl) ?_
 refine lp rfl (p_len Tryz.underlying22 rfl (.ro 1 rfl)) ?_
 refine lp rfl (p_eql rfl rfl) ?_
 refine lj_seq ?_
 refine cj_if (b := (a0_0.length : Int) == 0) rfl (fun hb => ?_) (fun hb => ?_)
 ·have hm := ifB_t hb hm
  refine cj_seq ?_
  refine cj_reg ?_
  refine lp rfl (p_mv rfl) ?_
  refine lp rfl (p_nc rfl) ?_
  refine lp rfl (p_fab fl25_1 rfl) ?_
  refine lp rfl (p_lbs ty3 rfl (j := 0) rfl rfl) ?_
  refine lp rfl (p_mul rfl rfl) ?_
  refine lp rfl (p_mv rfl) ?_
  obtain ⟨y1, hy1, hm⟩ := bindS hm
  refine r_call [] cf73 rfl rfl (ok_gleemake_Below (w64 ((w64 (a0_1 + 1)) * 7919)) a1 hy1) rfl rfl .nil (fun _ => rfl) rfl (fun _ => ?_)
  refine lp rfl (p_as rfl) ?_
  refine lj_seq ?_
  obtain rfl := Option.some.inj hm
  exact cj_rt () [0] Tryz.results40 (.tmp rfl .nil) rfl rfl
 ·have hm := ifB_f hb hm
  refine cj_skip ?_
  refine nj_seq ?_
  refine cj_seq ?_
  refine cj_quiet (by kernel_rfl) (by kernel_rfl) ?_
  refine q_p rfl (p_mv rfl) ?_
  refine q_p rfl (p_nc rfl) ?_
  refine q_p rfl (p_fab fl25_1 rfl) ?_
  refine q_p rfl (p_lbs ty3 rfl (j := 0) rfl rfl) ?_
  refine q_p rfl (p_sub rfl rfl) ?_
  refine q_p rfl (p_mv rfl) ?_
  refine q_p rfl (p_nc rfl) ?_
  refine q_p rfl (p_fab fl25_0 rfl) ?_
  refine q_p rfl (p_lbs ty22 rfl (j := 0) rfl rfl) ?_
  refine q_p rfl (p_len Tryz.underlying22 rfl (.ro 1 rfl)) ?_
  obtain ⟨z2, hz2, hm⟩ := bindS hm
  refine q_p rfl (p_remM hz2 rfl rfl) ?_
  refine q_p rfl (p_as rfl) ?_
  refine q_nil ?_
  refine nj_seq ?_
  refine cj_seq ?_
  refine cj_quiet (by kernel_rfl) (by kernel_rfl) ?_
  refine q_p rfl (p_mv rfl) ?_
  refine q_p rfl (p_nc rfl) ?_
  refine q_p rfl (p_fab fl25_1 rfl) ?_
  refine q_p rfl (p_lbs ty3 rfl (j := 0) rfl rfl) ?_
  refine q_p rfl (p_sub rfl rfl) ?_
  refine q_p rfl (p_mv rfl) ?_
  refine q_p rfl (p_nc rfl) ?_
  refine q_p rfl (p_fab fl25_0 rfl) ?_
  refine q_p rfl (p_lbs ty22 rfl (j := 0) rfl rfl) ?_
  refine q_p rfl (p_len Tryz.underlying22 rfl (.ro 1 rfl)) ?_
  obtain ⟨z3, hz3, hm⟩ := bindS hm
  refine q_p rfl (p_quoM hz3 rfl rfl) ?_
  refine q_p rfl (p_as rfl) ?_
  refine q_nil ?_
  refine nj_seq ?_
  refine cj_seq ?_
  refine cj_reg ?_
  refine lp rfl (p_mv rfl) ?_
  refine lp rfl (p_nc rfl) ?_
  refine lp rfl (p_fab fl25_0 rfl) ?_
  refine lp rfl (p_lbs ty22 rfl (j := 0) rfl rfl) ?_
  refine lp rfl (p_mv rfl) ?_
  obtain ⟨e4, he4, hm⟩ := bindS hm
  refine lp rfl (p_idx Tryz.underlying22 ty3 rfl rfl (.ro 1 rfl) he4) ?_
  refine lp rfl (p_lde (o := 0) ty3 rfl rfl (.ro 1 rfl) (getI_spec he4).2 rfl) ?_
  obtain ⟨y5, hy5, hm⟩ := bindS hm
  refine r_call [] cf73 rfl rfl (ok_gleemake_Below e4 1073741824 hy5) rfl rfl .nil (fun _ => rfl) rfl (fun _ => ?_)
  refine lp rfl (p_mv rfl) ?_
  refine lp rfl (p_mv rfl) ?_
  refine lp rfl (p_add rfl rfl) ?_
  refine lp rfl (p_mul rfl rfl) ?_
  refine lp rfl (p_add rfl rfl) ?_
  refine lp rfl (p_mv rfl) ?_
  obtain ⟨y6, hy6, hm⟩ := bindS hm
  refine r_call [] cf73 rfl rfl (ok_gleemake_Below (w64 (y5 + (w64 (z3 * (w64 (7919 + z2)))))) a1 hy6) rfl rfl .nil (fun _ => rfl) rfl (fun _ => ?_)
  refine lp rfl (p_as rfl) ?_
  refine lj_seq ?_
  obtain rfl := Option.some.inj hm
  exact cj_rt () [0] Tryz.results40 (.tmp rfl .nil) rfl rfl
theorem ok_gleemake_Stream_Range (b0_ : Nat) (s0_0_ : SV) (a0_0 : (List Int)) (a0_1 : Int) (a1 : Int) (a2 : Int) {r : Int × Int} (hm : m_gleemake_Stream_Range a0_0 a0_1 a1 a2 = some r) :
  Ctr Tryz.prog 17 [.pointer (some ⟨b0_, 0, none⟩), .int .i64 a1, .int .i64 a2].toArray [.box b0_ 25 [s0_0_.v, .int .i64 a0_1]] [RdS R3 (SV.v s0_0_) a0_0] (X := Unit) (fun _ => .int .i64 r.1) (fun _ => [.box b0_ 25 [s0_0_.v, .int .i64 r.2]]) := by
 unfold m_gleemake_Stream_Range at hm
 refine ctr_mk (vs := [(0, .pointer (some ⟨b0_, 0, none⟩)), (1, .int .i64 a1), (2, .int .i64 a2)]) Tryz.func17 rfl Tryz.ntmps17 rfl ⟨rfl, rfl, rfl, trivial⟩ (fun w0 A => ?_)
 refine cj_seq ?_
 refine cj_reg ?_
 refine lp rfl (p_as rfl) ?_
 refine lj_seq ?_
 refine cj_seq ?_
 refine cj_seq ?_
 refine cj_reg ?_
 refine lp rfl (p_mv rfl) ?_
 refine lp rfl (p_mv rfl) ?_
 refine lp rfl (p_lss rfl rfl) ?_
 refine lj_seq ?_
 refine cj_if (b := decide (a2 < a1)) rfl (fun hb => ?_) (fun hb => ?_)
 ·have hm := ifB_t hb hm
  refine cj_seq ?_
  refine cj_reg ?_
  refine lp rfl (p_mv rfl) ?_
  refine lp rfl (p_as rfl) ?_
  refine lj_seq ?_
  obtain rfl := Option.some.inj hm
  exact cj_rt () [0] Tryz.results17 (.tmp rfl .nil) rfl rfl
 ·have hm := ifB_f hb hm
  refine cj_skip ?_
  refine nj_seq ?_
  refine cj_seq ?_
  refine cj_reg ?_
  refine lp rfl (p_mv rfl) ?_
  refine lp rfl (p_mv rfl) ?_
  refine lp rfl (p_mv rfl) ?_
  refine lp rfl (p_mv rfl) ?_
  refine lp rfl (p_sub rfl rfl) ?_
  refine lp rfl (p_add rfl rfl) ?_
  obtain ⟨y1, hy1, hm⟩ := bindS hm
  refine r_call [0] cf40 rfl rfl (ok_gleemake_Stream_Next b0_ s0_0_ a0_0 a0_1 (w64 ((w64 (a2 - a1)) + 1)) hy1) rfl rfl (.cons (.ro 0 rfl) .nil) (fun _ => rfl) rfl (fun _ => ?_)
  refine lp rfl (p_add rfl rfl) ?_
  refine lp rfl (p_as rfl) ?_
  refine lj_seq ?_
  obtain rfl := Option.some.inj hm
  exact cj_rt () [0] Tryz.results17 (.tmp rfl .nil) rfl rfl
theorem ok_gleemake_Stream_Flip (b0_ : Nat) (s0_0_ : SV) (a0_0 : (List Int)) (a0_1 : Int) (a1 : Int) {r : Bool × Int} (hm : m_gleemake_Stream_Flip a0_0 a0_1 a1 = some r) :
  Ctr Tryz.prog 18 [.pointer (some ⟨b0_, 0, none⟩), .int .i64 a1].toArray [.box b0_ 25 [s0_0_.v, .int .i64 a0_1]] [RdS R3 (SV.v s0_0_) a0_0] (X := Unit) (fun _ => .bool r.1) (fun _ => [.box b0_ 25 [s0_0_.v, .int .i64 r.2]]) := by
 unfold m_gleemake_Stream_Flip at hm
 refine ctr_mk (vs := [(0, .pointer (some ⟨b0_, 0, none⟩)), (1, .int .i64 a1)]) Tryz.func18 rfl Tryz.ntmps18 rfl ⟨rfl, rfl, trivial⟩ (fun w0 A => ?_)
 refine cj_seq ?_
 refine cj_reg ?_
 refine lp rfl (p_as rfl) ?_
 refine lj_seq ?_
 refine cj_seq ?_
 refine cj_reg ?_
 refine lp rfl (p_mv rfl) ?_
 refine lp rfl (p_mv rfl) ?_
 obtain ⟨y1, hy1, hm⟩ := bindS hm
 refine r_call [0] cf40 rfl rfl (ok_gleemake_Stream_Next b0_ s0_0_ a0_0 a0_1 a1 hy1) rfl rfl (.cons (.ro 0 rfl) .nil) (fun _ => rfl) rfl (fun _ => ?_)
 refine lp rfl (p_eql rfl rfl) ?_
 refine lp rfl (p_as rfl) ?_
 refine lj_seq ?_
 obtain rfl := Option.some.inj hm
 exact cj_rt () [0] Tryz.results18 (.tmp rfl .nil) rfl rfl
theorem ok_gleemake_Stream_Pick (b0_ : Nat) (s0_0_ : SV) (a0_0 : (List Int)) (a0_1 : Int) (s1_ : SV) (a1 : (List Int)) {r : Int × Int} (hm : m_gleemake_Stream_Pick a0_0 a0_1 a1 = some r) :
  Ctr Tryz.prog 16 [.pointer (some ⟨b0_, 0, none⟩), s1_.v].toArray [.box b0_ 25 [s0_0_.v, .int .i64 a0_1]] [RdS R3 (SV.v s0_0_) a0_0, RdS R3 (SV.v s1_) a1] (X := Unit) (fun _ => .int .i64 r.1) (fun _ => [.box b0_ 25 [s0_0_.v, .int .i64 r.2]]) := by
 unfold m_gleemake_Stream_Pick at hm
 refine ctr_mk (vs := [(0, .pointer (some ⟨b0_, 0, none⟩)), (1, s1_.v)]) Tryz.func16 rfl Tryz.ntmps16 rfl ⟨rfl, rfl, trivial⟩ (fun w0 A => ?_)
 refine cj_seq ?_
 refine cj_reg ?_
 refine lp rfl (p_as rfl) ?_
 refine lj_seq ?_
 refine cj_seq ?_
 refine cj_reg ?_
 refine lp rfl (p_mv rfl) ?_
 refine lp rfl (p_mv rfl) ?_
 refine lp rfl (p_mv rfl) ?_
 refine lp rfl (p_len Tryz.underlying22 rfl (.ro 2 rfl)) ?_
 obtain ⟨y1, hy1, hm⟩ := bindS hm
 refine r_call [0] cf40 rfl rfl (ok_gleemake_Stream_Next b0_ s0_0_ a0_0 a0_1 (a1.length : Int) hy1) rfl rfl (.cons (.ro 0 rfl) .nil) (fun _ => rfl) rfl (fun _ => ?_)
 obtain ⟨e2, he2, hm⟩ := bindS hm
 refine lp rfl (p_idx Tryz.underlying22 ty3 rfl rfl (.ro 2 rfl) he2) ?_
 refine lp rfl (p_lde (o := 0) ty3 rfl rfl (.ro 2 rfl) (getI_spec he2).2 rfl) ?_
 refine lp rfl (p_as rfl) ?_
 refine lj_seq ?_
 obtain rfl := Option.some.inj hm
 exact cj_rt () [0] Tryz.results16 (.tmp rfl .nil) rfl rfl
theorem ok_gleemake_Stream_RightBars_1 (b0_ : Nat) (b0_0_ : Nat) (s0_0_0_ : SV) (a0_0_0 : (List Int)) (a0_0_1 : Int) {r : TBar × Int} (hm : m_gleemake_Stream_RightBars_1 a0_0_0 a0_0_1 = some r) :
  Ctr Tryz.prog 15 [.pointer (some ⟨b0_, 0, none⟩)].toArray [.box b0_0_ 25 [s0_0_0_.v, .int .i64 a0_0_1]] [BoxS b0_ 23 [.pointer (some ⟨b0_0_, 0, none⟩)], RdS R3 (SV.v s0_0_0_) a0_0_0] (X := Unit) (fun _ => .agg (R53.enc r.1).toArray) (fun _ => [.box b0_0_ 25 [s0_0_0_.v, .int .i64 r.2]]) := by
 unfold m_gleemake_Stream_RightBars_1 at hm
 refine ctr_mk (vs := [(0, .pointer (some ⟨b0_, 0, none⟩))]) Tryz.func15 rfl Tryz.ntmps15 rfl ⟨rfl, trivial⟩ (fun w0 A => ?_)
 refine cj_seq ?_
 refine cj_reg ?_
 refine r_al ty53 rfl (fun b1 => ?_)
 refine lj_seq ?_
 refine cj_seq ?_
 obtain ⟨k4, hk4, hm⟩ := bindS hm
 have hRk4 : ∀ t, k4 = .inr t → some t = some r := fun t e => by rw [e] at hm; exact hm
 refine cj_joinK (σ := (Int × Int × Int)) (γ := Unit) (fun u2 => k4 = .inl u2) (fun u2 g3 => [(1, .pointer (some ⟨b1, 0, none⟩))]) (fun u2 g3 => Sat w0 (keys [.box b0_0_ 25 [s0_0_0_.v, .int .i64 a0_0_1]]) A [.box b1 53 [.int .i64 u2.2.1, .int .i64 u2.2.2, .int .i64 0, .int .i64 0, .bool false], .box b0_0_ 25 [s0_0_0_.v, .int .i64 u2.1], .ro (RdS R3 (SV.v s0_0_0_) a0_0_0)]) (fun u2 g3 hq => ?_) (fun J cnk4 => ?_)
 ·have hm := Sum.fin_l hq hm
  obtain rfl := Option.some.inj hm
  exact cj_rt () [1] Tryz.results15 (.agg (k := 0) ty53 rfl rfl rfl .nil) rfl rfl
 ·have hm := hk4
  obtain ⟨y6, hy6, hm⟩ := bindS hm
  obtain ⟨y8, hy8, hm⟩ := bindS hm
  refine cj_anyT [0, 3, 6] [7] (Sat w0 (keys [.box b0_0_ 25 [s0_0_0_.v, .int .i64 a0_0_1]]) A [.box b1 53 [.int .i64 0, .int .i64 0, .int .i64 0, .int .i64 0, .bool false], .ro (BoxS b0_ 23 [.pointer (some ⟨b0_0_, 0, none⟩)]), .ro (RdS R3 (SV.v s0_0_0_) a0_0_0)]) (Sat w0 (keys [.box b0_0_ 25 [s0_0_0_.v, .int .i64 a0_0_1]]) A [.ro (BoxS b0_ 23 [.pointer (some ⟨b0_0_, 0, none⟩)]), .ro (RdS R3 (SV.v s0_0_0_) a0_0_0)]) (by kernel_rfl) ?_
  refine at_take2 0 rfl (by kernel_rfl) (by kernel_rfl) (by kernel_rfl) (fun _ h => h.picks [1, 1] rfl) rfl rfl (p_rbs ty23 rfl (.ro 0 rfl) rfl) (fun _ h => h.picks [2, 2] rfl) ?_
  refine at_take2 3 rfl (by kernel_rfl) (by kernel_rfl) (by kernel_rfl) (fun _ h => h.picks [1, 1] rfl) rfl rfl (p_rbs ty23 rfl (.ro 0 rfl) rfl) (fun _ h => h.picks [2, 2] rfl) ?_
  refine at_each (rs := [1, 4]) (by kernel_rfl) (by decide) ?_
  refine (.cons rfl (fun I cnI => ?_) (.cons rfl (fun I cnI => ?_) .nil))
  ·refine r_bs R3 [1, 2, 3, 4] rfl rfl rfl (fun _ => by kernel_rfl) rfl (fun s9 => ?_)
   refine lj_nil ?_
   refine cnI _ _ (sof1 rfl rfl (fun _ h => h.picks [1, 2, 2] rfl)) ?_
   refine at_each (rs := [2, 4]) (by kernel_rfl) (by decide) ?_
   refine (.cons rfl (fun I cnI => ?_) (.cons rfl (fun I cnI => ?_) .nil))
   ·refine r_call [2] cf16 rfl rfl (ok_gleemake_Stream_Pick b0_0_ s0_0_0_ a0_0_0 a0_0_1 s9 [1, 2, 3, 4] hy6) rfl rfl (.cons (.ro 3 rfl) (.cons (.row 0 rfl) .nil)) (fun _ => rfl) rfl (fun _ => ?_)
    refine lj_nil ?_
    refine cnI _ _ (sof1 rfl rfl (fun _ h => h.picks [2, 2, 2] rfl)) ?_
    refine at_each (rs := [4]) (by kernel_rfl) (by decide) ?_
    refine (.cons rfl (fun I cnI => ?_) .nil)
    ·refine r_bs R3 [4, 4, 2, 8] rfl rfl rfl (fun _ => by kernel_rfl) rfl (fun s10 => ?_)
     refine lj_nil ?_
     refine cnI _ _ (sof1 rfl rfl (fun _ h => h.picks [3, 3, 3] rfl)) ?_
     refine at_each (rs := [5]) (by kernel_rfl) (by decide) ?_
     refine (.cons rfl (fun I cnI => ?_) .nil)
     ·refine r_call [1] cf16 rfl rfl (ok_gleemake_Stream_Pick b0_0_ s0_0_0_ a0_0_0 y6.2 s10 [4, 4, 2, 8] hy8) rfl rfl (.cons (.ro 4 rfl) (.cons (.row 0 rfl) .nil)) (fun _ => rfl) rfl (fun _ => ?_)
      refine lj_nil ?_
      refine cnI _ _ (sof1 rfl rfl (fun _ h => h.picks [3, 3, 3] rfl)) ?_
      refine at_take2 6 rfl (by kernel_rfl) (by kernel_rfl) (by kernel_rfl) (fun _ h => h.picks [1, 1] rfl) rfl rfl (p_bld [.int .i64 y6.1, .int .i64 y8.1, .int .i64 0, .int .i64 0, .bool false] rfl (fun _ => by kernel_rfl)) (fun _ h => h.picks [4, 4] rfl) ?_
      refine at_each (rs := [7]) (by kernel_rfl) (by decide) ?_
      refine (.cons rfl (fun I cnI => ?_) .nil)
      ·refine r_sb (vs := [.int .i64 y6.1, .int .i64 y8.1, .int .i64 0, .int .i64 0, .bool false]) (j := 3) ty53 rfl rfl rfl rfl rfl rfl rfl ?_
       refine lj_nil ?_
       refine cnI _ _ (sof2 rfl rfl (fun _ h => h.picks [4, 4] rfl)) ?_
       refine at_done (by kernel_rfl) ?_
       exact cnk4 _ _ (y8.2, y6.1, y8.1) () (Option.some.inj hm).symm ⟨rfl, trivial⟩ (fun _ h => h.picks [3, 0, 3] rfl)
   ·refine r_bs R3 [4, 4, 2, 8] rfl rfl rfl (fun _ => by kernel_rfl) rfl (fun s11 => ?_)
    refine lj_nil ?_
    refine cnI _ _ (sof1 rfl rfl (fun _ h => h.picks [2, 3, 3] rfl)) ?_
    refine at_each (rs := [2]) (by kernel_rfl) (by decide) ?_
    refine (.cons rfl (fun I cnI => ?_) .nil)
    ·refine r_call [3] cf16 rfl rfl (ok_gleemake_Stream_Pick b0_0_ s0_0_0_ a0_0_0 a0_0_1 s9 [1, 2, 3, 4] hy6) rfl rfl (.cons (.ro 4 rfl) (.cons (.row 1 rfl) .nil)) (fun _ => rfl) rfl (fun _ => ?_)
     refine lj_nil ?_
     refine cnI _ _ (sof1 rfl rfl (fun _ h => h.picks [3, 3, 3] rfl)) ?_
     refine at_each (rs := [5]) (by kernel_rfl) (by decide) ?_
     refine (.cons rfl (fun I cnI => ?_) .nil)
     ·refine r_call [0] cf16 rfl rfl (ok_gleemake_Stream_Pick b0_0_ s0_0_0_ a0_0_0 y6.2 s11 [4, 4, 2, 8] hy8) rfl rfl (.cons (.ro 4 rfl) (.cons (.row 0 rfl) .nil)) (fun _ => rfl) rfl (fun _ => ?_)
      refine lj_nil ?_
      refine cnI _ _ (sof1 rfl rfl (fun _ h => h.picks [3, 3, 3] rfl)) ?_
      refine at_take2 6 rfl (by kernel_rfl) (by kernel_rfl) (by kernel_rfl) (fun _ h => h.picks [1, 1] rfl) rfl rfl (p_bld [.int .i64 y6.1, .int .i64 y8.1, .int .i64 0, .int .i64 0, .bool false] rfl (fun _ => by kernel_rfl)) (fun _ h => h.picks [4, 4] rfl) ?_
      refine at_each (rs := [7]) (by kernel_rfl) (by decide) ?_
      refine (.cons rfl (fun I cnI => ?_) .nil)
      ·refine r_sb (vs := [.int .i64 y6.1, .int .i64 y8.1, .int .i64 0, .int .i64 0, .bool false]) (j := 3) ty53 rfl rfl rfl rfl rfl rfl rfl ?_
       refine lj_nil ?_
       refine cnI _ _ (sof2 rfl rfl (fun _ h => h.picks [4, 4] rfl)) ?_
       refine at_done (by kernel_rfl) ?_
       exact cnk4 _ _ (y8.2, y6.1, y8.1) () (Option.some.inj hm).symm ⟨rfl, trivial⟩ (fun _ h => h.picks [3, 0, 3] rfl)
  ·refine r_bs R3 [4, 4, 2, 8] rfl rfl rfl (fun _ => by kernel_rfl) rfl (fun s12 => ?_)
   refine lj_nil ?_
   refine cnI _ _ (sof1 rfl rfl (fun _ h => h.picks [1, 2, 2] rfl)) ?_
   refine at_each (rs := [1]) (by kernel_rfl) (by decide) ?_
   refine (.cons rfl (fun I cnI => ?_) .nil)
   ·refine r_bs R3 [1, 2, 3, 4] rfl rfl rfl (fun _ => by kernel_rfl) rfl (fun s13 => ?_)
    refine lj_nil ?_
    refine cnI _ _ (sof1 rfl rfl (fun _ h => h.picks [2, 3, 3] rfl)) ?_
    refine at_each (rs := [2]) (by kernel_rfl) (by decide) ?_
    refine (.cons rfl (fun I cnI => ?_) .nil)
    ·refine r_call [3] cf16 rfl rfl (ok_gleemake_Stream_Pick b0_0_ s0_0_0_ a0_0_0 a0_0_1 s13 [1, 2, 3, 4] hy6) rfl rfl (.cons (.ro 4 rfl) (.cons (.row 0 rfl) .nil)) (fun _ => rfl) rfl (fun _ => ?_)
     refine lj_nil ?_
     refine cnI _ _ (sof1 rfl rfl (fun _ h => h.picks [3, 3, 3] rfl)) ?_
     refine at_each (rs := [5]) (by kernel_rfl) (by decide) ?_
     refine (.cons rfl (fun I cnI => ?_) .nil)
     ·refine r_call [0] cf16 rfl rfl (ok_gleemake_Stream_Pick b0_0_ s0_0_0_ a0_0_0 y6.2 s12 [4, 4, 2, 8] hy8) rfl rfl (.cons (.ro 4 rfl) (.cons (.row 1 rfl) .nil)) (fun _ => rfl) rfl (fun _ => ?_)
      refine lj_nil ?_
      refine cnI _ _ (sof1 rfl rfl (fun _ h => h.picks [3, 3, 3] rfl)) ?_
      refine at_take2 6 rfl (by kernel_rfl) (by kernel_rfl) (by kernel_rfl) (fun _ h => h.picks [1, 1] rfl) rfl rfl (p_bld [.int .i64 y6.1, .int .i64 y8.1, .int .i64 0, .int .i64 0, .bool false] rfl (fun _ => by kernel_rfl)) (fun _ h => h.picks [4, 4] rfl) ?_
      refine at_each (rs := [7]) (by kernel_rfl) (by decide) ?_
      refine (.cons rfl (fun I cnI => ?_) .nil)
      ·refine r_sb (vs := [.int .i64 y6.1, .int .i64 y8.1, .int .i64 0, .int .i64 0, .bool false]) (j := 3) ty53 rfl rfl rfl rfl rfl rfl rfl ?_
       refine lj_nil ?_
       refine cnI _ _ (sof2 rfl rfl (fun _ h => h.picks [4, 4] rfl)) ?_
       refine at_done (by kernel_rfl) ?_
       exact cnk4 _ _ (y8.2, y6.1, y8.1) () (Option.some.inj hm).symm ⟨rfl, trivial⟩ (fun _ h => h.picks [3, 0, 3] rfl)
theorem ok_gleemake_Stream_RightBars (b0_ : Nat) (s0_0_ : SV) (a0_0 : (List Int)) (a0_1 : Int) {r : (List TBar) × Int} (hm : m_gleemake_Stream_RightBars a0_0 a0_1 = some r) :
  Ctr Tryz.prog 4 [.pointer (some ⟨b0_, 0, none⟩)].toArray [.box b0_ 25 [s0_0_.v, .int .i64 a0_1]] [RdS R3 (SV.v s0_0_) a0_0] (X := SV) (fun s => s.v) (fun s => [.row R53 (SV.v s) r.1, .box b0_ 25 [s0_0_.v, .int .i64 r.2]]) := by
 unfold m_gleemake_Stream_RightBars at hm
 refine ctr_mk (vs := [(0, .pointer (some ⟨b0_, 0, none⟩))]) Tryz.func4 rfl Tryz.ntmps4 rfl ⟨rfl, trivial⟩ (fun w0 A => ?_)
 refine cj_seq ?_
 refine cj_reg ?_
 refine r_bx (cs := [.pointer (some ⟨b0_, 0, none⟩)]) rfl rfl rfl (fun b1 => ?_)
 refine lp rfl (p_as rfl) ?_
 refine lj_seq ?_
 refine cj_seq ?_
 refine cj_reg ?_
 refine lp rfl (p_as rfl) ?_
 refine lj_seq ?_
 refine cj_seq ?_
 refine cj_reg ?_
 refine lp rfl (p_fn (cv := [.pointer (some ⟨b1, 0, none⟩)]) rfl) ?_
 refine lp rfl (p_as rfl) ?_
 refine lj_seq ?_
 refine cj_seq ?_
 refine cj_seq ?_
 refine cj_reg ?_
 refine lp rfl (p_lbs ty23 rfl (j := 0) rfl rfl) ?_
 obtain ⟨y2, hy2, hm⟩ := bindS hm
 refine r_call [1] cf17 rfl rfl (ok_gleemake_Stream_Range b0_ s0_0_ a0_0 a0_1 1 4 hy2) rfl rfl (.cons (.ro 1 rfl) .nil) (fun _ => rfl) rfl (fun _ => ?_)
 refine lp rfl (p_mv rfl) ?_
 refine lj_seq ?_
 refine cj_nil R53 ?_
 obtain ⟨L45, hL45, hm⟩ := bindS hm
 obtain ⟨f10, hf10, hm⟩ := bindS hm
 refine cj_range (γ := SV) (m := y2.1) hf10 nilS (fun u7 g8 => [(1, .pointer (some ⟨b1, 0, none⟩)), (2, .slice none 0 0), (3, g8.v), (4, .func (.func 15) #[] [.pointer (some ⟨b1, 0, none⟩)].toArray)]) (fun u7 g8 => Sat w0 (keys [.box b0_ 25 [s0_0_.v, .int .i64 a0_1]]) A [.box b0_ 25 [s0_0_.v, .int .i64 u7.1], .box b1 23 [.pointer (some ⟨b0_, 0, none⟩)], .ro (RdS R3 (SV.v s0_0_) a0_0), .row R53 (SV.v g8) u7.2]) ⟨rfl, rfl, rfl, rfl, rfl, rfl, trivial⟩ (fun _ h => h.picks [1, 1, 1, 0] rfl) (rangeI_spec hL45).1 (fun _ _ => (rangeI_spec hL45).2) (fun _ _ => ⟨rfl, rfl, rfl, rfl⟩) ⟨rfl, rfl, rfl, rfl, rfl⟩ rfl rfl rfl (fun u7 g8 e => ?_) (fun aftk9 i3 x4 u7 g8 k9 hx5 hs J hJk9 hBk9 hX I cnk9 => ?_)
 ·have hm := Flow.fin_b e hm
  refine nj_seq ?_
  refine cj_seq ?_
  refine cj_reg ?_
  refine lp rfl (p_mv rfl) ?_
  refine lp rfl (p_as rfl) ?_
  refine lj_seq ?_
  obtain rfl := Option.some.inj hm
  exact cj_rt g8 [3, 0] Tryz.results4 (.tmp rfl .nil) rfl rfl
 ·have hRk9 : ∀ t, k9 = .ret t → some t = some r := fun t e => by rw [hX t e] at hm; exact hm
  have hm := hs
  refine cj_seq ?_
  refine cj_seq ?_
  refine cj_reg ?_
  refine lp rfl (p_lbs ty23 rfl (j := 1) rfl rfl) ?_
  obtain ⟨y12, hy12, hm⟩ := bindS hm
  refine r_call [0] cf18 rfl rfl (ok_gleemake_Stream_Flip b0_ s0_0_ a0_0 u7.1 2 hy12) rfl rfl (.cons (.ro 1 rfl) .nil) (fun _ => rfl) rfl (fun _ => ?_)
  refine lp rfl (p_not rfl) ?_
  refine lj_seq ?_
  refine cj_if (b := !y12.1) rfl (fun hb => ?_) (fun hb => ?_)
  ·have hm := ifB_t hb hm
   refine cj_seq ?_
   refine cj_reg ?_
   refine lp rfl (p_mv rfl) ?_
   refine lp rfl (p_mv rfl) ?_
   obtain ⟨y13, hy13, hm⟩ := bindS hm
   refine r_call [0] cf15 rfl rfl (ok_gleemake_Stream_RightBars_1 b1 b0_ s0_0_ a0_0 y12.2 hy13) rfl rfl (.cons (.imp (.box 0 rfl) (fun _ h => h)) (.cons (.ro 1 rfl) .nil)) (fun _ => rfl) rfl (fun _ => ?_)
   refine r_bs R53 [y13.1] rfl rfl rfl (fun _ => by kernel_rfl) rfl (fun s14 => ?_)
   obtain ⟨q15, hq15, hm⟩ := bindS hm
   refine r_app (k := 4) Tryz.underlying26 ty53 rfl rfl rfl rfl (.row 0 rfl) hq15 rfl (fun s16 => ?_)
   refine lp rfl (p_as rfl) ?_
   refine lj_seq ?_
   refine cj_exit rfl ?_
   exact cnk9 _ _ (y13.2, q15) s16 (hJk9 _ (Option.some.inj hm).symm) ⟨rfl, rfl, rfl, rfl, rfl, rfl, trivial⟩ (fun _ h => h.picks [1, 1, 1, 1] rfl)
  ·have hm := ifB_f hb hm
   refine cj_skip ?_
   refine nj_seq ?_
   refine cj_seq ?_
   refine cj_reg ?_
   refine lp rfl (p_lbs ty23 rfl (j := 1) rfl rfl) ?_
   obtain ⟨y17, hy17, hm⟩ := bindS hm
   refine r_call [0] cf17 rfl rfl (ok_gleemake_Stream_Range b0_ s0_0_ a0_0 y12.2 1 3 hy17) rfl rfl (.cons (.ro 1 rfl) .nil) (fun _ => rfl) rfl (fun _ => ?_)
   refine lp rfl (p_as rfl) ?_
   refine lj_seq ?_
   refine cj_seq ?_
   refine cj_reg ?_
   refine lp rfl (p_lbs ty23 rfl (j := 1) rfl rfl) ?_
   obtain ⟨y18, hy18, hm⟩ := bindS hm
   refine r_call [0] cf17 rfl rfl (ok_gleemake_Stream_Range b0_ s0_0_ a0_0 y17.2 2 3 hy18) rfl rfl (.cons (.ro 1 rfl) .nil) (fun _ => rfl) rfl (fun _ => ?_)
   refine lp rfl (p_as rfl) ?_
   refine lj_seq ?_
   refine cj_seq ?_
   refine cj_reg ?_
   refine lp rfl (p_as rfl) ?_
   refine lj_seq ?_
   refine cj_seq ?_
   refine cj_reg ?_
   refine lp rfl (p_mv rfl) ?_
   refine lp rfl (p_mv rfl) ?_
   refine lj_seq ?_
   obtain ⟨L43, hL43, hm⟩ := bindS hm
   obtain ⟨f25, hf25, hm⟩ := bindS hm
   refine cj_range (γ := SV) (m := y17.1) hf25 g8 (fun u22 g23 => [(1, .pointer (some ⟨b1, 0, none⟩)), (2, .slice none 0 0), (3, g23.v), (4, .func (.func 15) #[] [.pointer (some ⟨b1, 0, none⟩)].toArray), (5, .int .i64 y17.1), (6, .int .i64 y18.1), (7, .int .i64 u22.1), (12, .int .i64 y2.1), (13, .int .i64 (i3 : Int))]) (fun u22 g23 => Sat w0 (keys [.box b0_ 25 [s0_0_.v, .int .i64 a0_1]]) A [.box b0_ 25 [s0_0_.v, .int .i64 u22.2.1], .box b1 23 [.pointer (some ⟨b0_, 0, none⟩)], .ro (RdS R3 (SV.v s0_0_) a0_0), .row R53 (SV.v g23) u22.2.2]) ⟨rfl, rfl, rfl, rfl, rfl, rfl, rfl, rfl, rfl, rfl, rfl, trivial⟩ (fun _ h => h.picks [0, 0, 0, 0] rfl) (rangeI_spec hL43).1 (fun _ _ => (rangeI_spec hL43).2) (fun _ _ => ⟨rfl, rfl, rfl, rfl⟩) ⟨rfl, rfl, rfl, rfl, rfl⟩ rfl rfl rfl (fun u22 g23 e => ?_) (fun aftk24 i19 x20 u22 g23 k24 hx21 hs J hJk24 hBk24 hX I cnk24 => ?_)
   ·have hm := Flow.fin_b e hm
    refine nj_blk ?_
    exact cnk9 _ _ (u22.2.1, u22.2.2) g23 (hJk9 _ (Option.some.inj hm).symm) ⟨rfl, rfl, rfl, rfl, rfl, rfl, trivial⟩ (fun _ h => h.picks [0, 0, 0, 0] rfl)
   ·have hRk24 : ∀ t, k24 = .ret t → some t = some k9 := fun t e => by rw [hX t e] at hm; exact hm
    have hm := hs
    refine cj_seq ?_
    refine cj_reg ?_
    refine lp rfl (p_mv rfl) ?_
    refine lp rfl (p_as rfl) ?_
    refine lj_seq ?_
    refine cj_seq ?_
    refine cj_reg ?_
    refine lp rfl (p_mv rfl) ?_
    obtain ⟨y27, hy27, hm⟩ := bindS hm
    refine r_call [0] cf15 rfl rfl (ok_gleemake_Stream_RightBars_1 b1 b0_ s0_0_ a0_0 u22.2.1 hy27) rfl rfl (.cons (.imp (.box 0 rfl) (fun _ h => h)) (.cons (.ro 1 rfl) .nil)) (fun _ => rfl) rfl (fun _ => ?_)
    refine r_al ty53 rfl (fun b28 => ?_)
    refine r_sb (vs := [.int .i64 y27.1.Beats, .int .i64 y27.1.Unit, .int .i64 y27.1.Close, .int .i64 y27.1.Ending, .bool y27.1.Open]) (j := 0) ty53 rfl rfl rfl rfl rfl rfl rfl ?_
    refine lj_seq ?_
    refine cj_seq ?_
    refine cj_reg ?_
    refine lp rfl (p_mv rfl) ?_
    refine lp rfl (p_eql rfl rfl) ?_
    refine lp rfl (p_fab fl53_4 rfl) ?_
    refine r_sb (vs := [.bool ((i19 : Int) == 0)]) (j := 0) ty4 rfl rfl rfl rfl rfl rfl rfl ?_
    refine lj_seq ?_
    refine cj_seq ?_
    refine cj_seq ?_
    refine cj_reg ?_
    obtain ⟨k31, hk31, hm⟩ := bindS hm
    have hRk31 : ∀ t, k31 = .inr t → some t = some k24 := fun t e => by rw [e] at hm; exact hm
    refine lj_join (σ := (Bool × Int)) (γ := Unit) (fun u29 => k31 = .inl u29) (fun u29 g30 => [(1, .pointer (some ⟨b1, 0, none⟩)), (2, .slice none 0 0), (3, g23.v), (4, .func (.func 15) #[] [.pointer (some ⟨b1, 0, none⟩)].toArray), (5, .int .i64 y17.1), (6, .int .i64 y18.1), (7, .int .i64 u22.1), (8, .int .i64 (i19 : Int)), (9, .pointer (some ⟨b28, 0, none⟩)), (12, .int .i64 y2.1), (13, .int .i64 (i3 : Int)), (27, .int .i64 y17.1), (28, .int .i64 (i19 : Int)), (41, .bool u29.1)]) (fun u29 g30 => Sat w0 (keys [.box b0_ 25 [s0_0_.v, .int .i64 a0_1]]) A [.box b28 53 [.int .i64 y27.1.Beats, .int .i64 y27.1.Unit, .int .i64 y27.1.Close, .int .i64 y27.1.Ending, .bool ((i19 : Int) == 0)], .box b0_ 25 [s0_0_.v, .int .i64 u29.2], .box b1 23 [.pointer (some ⟨b0_, 0, none⟩)], .ro (RdS R3 (SV.v s0_0_) a0_0), .row R53 (SV.v g23) u22.2.2]) (fun u29 g30 hq => ?_) (fun J cnk31 => ?_)
    ·have hm := Sum.fin_l hq hm
     obtain ⟨k35, hk35, hm⟩ := bindS hm
     have hRk35 : ∀ t, k35 = .inr t → some t = some k24 := fun t e => by rw [e] at hm; exact hm
     refine cj_joinK (σ := Int) (γ := Unit) (fun u33 => k35 = .inl u33) (fun u33 g34 => [(1, .pointer (some ⟨b1, 0, none⟩)), (2, .slice none 0 0), (3, g23.v), (4, .func (.func 15) #[] [.pointer (some ⟨b1, 0, none⟩)].toArray), (5, .int .i64 y17.1), (6, .int .i64 y18.1), (7, .int .i64 u33), (8, .int .i64 (i19 : Int)), (9, .pointer (some ⟨b28, 0, none⟩)), (12, .int .i64 y2.1), (13, .int .i64 (i3 : Int)), (27, .int .i64 y17.1), (28, .int .i64 (i19 : Int))]) (fun u33 g34 => Sat w0 (keys [.box b0_ 25 [s0_0_.v, .int .i64 a0_1]]) A [.box b28 53 [.int .i64 y27.1.Beats, .int .i64 y27.1.Unit, .int .i64 y27.1.Close, .int .i64 y27.1.Ending, .bool ((i19 : Int) == 0)], .box b0_ 25 [s0_0_.v, .int .i64 u29.2], .box b1 23 [.pointer (some ⟨b0_, 0, none⟩)], .ro (RdS R3 (SV.v s0_0_) a0_0), .row R53 (SV.v g23) u22.2.2]) (fun u33 g34 hq => ?_) (fun J cnk35 => ?_)
     ·have hm := Sum.fin_l hq hm
      refine cj_seq ?_
      refine cj_reg ?_
      refine lp rfl (p_mv rfl) ?_
      refine lp rfl (p_fab fl53_3 rfl) ?_
      refine r_sb (vs := [.int .i64 u33]) (j := 0) ty3 rfl rfl rfl rfl rfl rfl rfl ?_
      refine lj_seq ?_
      refine cj_seq ?_
      refine cj_seq ?_
      refine cj_reg ?_
      refine lp rfl (p_mv rfl) ?_
      refine lp rfl (p_mv rfl) ?_
      refine lp rfl (p_sub rfl rfl) ?_
      refine lp rfl (p_eql rfl rfl) ?_
      refine lj_seq ?_
      obtain ⟨k38, hk38, hm⟩ := bindS hm
      have hRk38 : ∀ t, k38 = .inr t → some t = some k24 := fun t e => by rw [e] at hm; exact hm
      refine cj_joinK (σ := Int) (γ := Unit) (fun u36 => k38 = .inl u36) (fun u36 g37 => [(1, .pointer (some ⟨b1, 0, none⟩)), (2, .slice none 0 0), (3, g23.v), (4, .func (.func 15) #[] [.pointer (some ⟨b1, 0, none⟩)].toArray), (5, .int .i64 y17.1), (6, .int .i64 y18.1), (7, .int .i64 u33), (9, .pointer (some ⟨b28, 0, none⟩)), (12, .int .i64 y2.1), (13, .int .i64 (i3 : Int)), (27, .int .i64 y17.1), (28, .int .i64 (i19 : Int))]) (fun u36 g37 => Sat w0 (keys [.box b0_ 25 [s0_0_.v, .int .i64 a0_1]]) A [.box b28 53 [.int .i64 y27.1.Beats, .int .i64 y27.1.Unit, .int .i64 u36, .int .i64 u33, .bool ((i19 : Int) == 0)], .box b0_ 25 [s0_0_.v, .int .i64 u29.2], .box b1 23 [.pointer (some ⟨b0_, 0, none⟩)], .ro (RdS R3 (SV.v s0_0_) a0_0), .row R53 (SV.v g23) u22.2.2]) (fun u36 g37 hq => ?_) (fun J cnk38 => ?_)
      ·have hm := Sum.fin_l hq hm
       refine cj_reg ?_
       refine lp rfl (p_mv rfl) ?_
       refine lp rfl (p_lbw ty53 rfl (j := 0) rfl rfl) ?_
       refine r_bs R53 [(TBar.mk y27.1.Beats y27.1.Unit u36 u33 ((i19 : Int) == 0))] rfl rfl rfl (fun _ => by kernel_rfl) rfl (fun s39 => ?_)
       obtain ⟨q40, hq40, hm⟩ := bindS hm
       refine r_app (k := 5) Tryz.underlying26 ty53 rfl rfl rfl rfl (.row 0 rfl) hq40 rfl (fun s41 => ?_)
       refine lp rfl (p_as rfl) ?_
       refine lj_nil ?_
       refine nj_blk ?_
       exact cnk24 _ _ (u33, u29.2, q40) s41 (hJk24 _ (Option.some.inj hm).symm) ⟨rfl, rfl, rfl, rfl, rfl, rfl, rfl, rfl, rfl, rfl, rfl, trivial⟩ (fun _ h => h.picks [2, 2, 2, 2] rfl)
      ·have hm := hk38
       refine cj_if (b := (i19 : Int) == (w64 (y17.1 - 1))) rfl (fun hb => ?_) (fun hb => ?_)
       ·have hm := ifB_t hb hm
        refine cj_reg ?_
        refine lp rfl (p_mv rfl) ?_
        refine lp rfl (p_fab fl53_2 rfl) ?_
        refine r_sb (vs := [.int .i64 y18.1]) (j := 0) ty3 rfl rfl rfl rfl rfl rfl rfl ?_
        refine lj_nil ?_
        exact cnk38 _ _ y18.1 () (Option.some.inj hm).symm ⟨rfl, rfl, rfl, rfl, rfl, rfl, rfl, rfl, rfl, rfl, rfl, rfl, trivial⟩ (fun _ h => h.picks [0, 0, 0, 0, 0] rfl)
       ·have hm := ifB_f hb hm
        refine cj_skip ?_
        exact cnk38 _ _ y27.1.Close () (Option.some.inj hm).symm ⟨rfl, rfl, rfl, rfl, rfl, rfl, rfl, rfl, rfl, rfl, rfl, rfl, trivial⟩ (fun _ h => h.picks [0, 0, 0, 0, 0] rfl)
     ·have hm := hk35
      refine cj_if (b := u29.1) rfl (fun hb => ?_) (fun hb => ?_)
      ·have hm := ifB_t hb hm
       refine cj_reg ?_
       refine lp rfl (p_mv rfl) ?_
       refine lp rfl (p_mv rfl) ?_
       refine lp rfl (p_add rfl rfl) ?_
       refine lp rfl (p_min rfl rfl) ?_
       refine lp rfl (p_as rfl) ?_
       refine lj_nil ?_
       exact cnk35 _ _ (min y18.1 (w64 (u22.1 + 1))) () (Option.some.inj hm).symm ⟨rfl, rfl, rfl, rfl, rfl, rfl, rfl, rfl, rfl, rfl, rfl, rfl, rfl, trivial⟩ (fun _ h => h.picks [0, 0, 0, 0, 0] rfl)
      ·have hm := ifB_f hb hm
       refine cj_skip ?_
       exact cnk35 _ _ u22.1 () (Option.some.inj hm).symm ⟨rfl, rfl, rfl, rfl, rfl, rfl, rfl, rfl, rfl, rfl, rfl, rfl, rfl, trivial⟩ (fun _ h => h.picks [0, 0, 0, 0, 0] rfl)
    ·have hm := hk31
     refine lp rfl (p_mv rfl) ?_
     refine lp rfl (p_gtr rfl rfl) ?_
     refine lp rfl (p_mv rfl) ?_
     refine lcase (i := 38) (decide ((i19 : Int) > 0)) rfl (fun hb => ?_) (fun hb => ?_)
     ·have hm := ifB_t hb hm
      refine lg true rfl rfl rfl ?_
      refine lp rfl (p_lbs ty23 rfl (j := 2) rfl rfl) ?_
      refine lg true rfl rfl rfl ?_
      obtain ⟨y32, hy32, hm⟩ := bindS hm
      refine r_call [1] cf18 rfl rfl (ok_gleemake_Stream_Flip b0_ s0_0_ a0_0 y27.2 2 hy32) rfl rfl (.cons (.ro 2 rfl) .nil) (fun _ => rfl) rfl (fun _ => ?_)
      refine lp rfl (p_pkt rfl rfl) ?_
      refine lj_nil ?_
      exact cnk31 _ _ (y32.1, y32.2) () (Option.some.inj hm).symm ⟨rfl, rfl, rfl, rfl, rfl, rfl, rfl, rfl, rfl, rfl, rfl, rfl, rfl, rfl, trivial⟩ (fun _ h => h.picks [1, 0, 0, 0, 0] rfl)
     ·have hm := ifB_f hb hm
      refine ls true rfl rfl rfl rfl ?_
      refine ls true rfl rfl rfl rfl ?_
      refine lp rfl (p_pkf rfl rfl) ?_
      refine lj_nil ?_
      exact cnk31 _ _ (false, y27.2) () (Option.some.inj hm).symm ⟨rfl, rfl, rfl, rfl, rfl, rfl, rfl, rfl, rfl, rfl, rfl, rfl, rfl, rfl, trivial⟩ (fun _ h => h.picks [0, 0, 0, 0, 0] rfl)
theorem ok_gleeref2_divisor (a0 : Int) (a1 : Int) {r : Int} (hm : m_gleeref2_divisor a0 a1 = some r) :
  Ctr Tryz.prog 41 [.int .i64 a0, .int .i64 a1].toArray ([] : List Ent) [] (X := Unit) (fun _ => .int .i64 r) (fun _ => []) := by
 unfold m_gleeref2_divisor at hm
 refine ctr_mk (vs := [(0, .int .i64 a0), (1, .int .i64 a1)]) Tryz.func41 rfl Tryz.ntmps41 rfl ⟨rfl, rfl, trivial⟩ (fun w0 A => ?_)
 refine cj_seq ?_
 refine cj_reg ?_
 refine lp rfl (p_as rfl) ?_
 refine lj_seq ?_
 refine cj_seq ?_
 obtain ⟨f4, hf4, hm⟩ := bindS hm
 refine cj_whileA (γ := Unit) hf4 () (fun u1 g2 => [(0, .int .i64 u1.1), (1, .int .i64 u1.2), (4, .int .i64 0)]) (fun u1 g2 => Sat w0 (keys ([] : List Ent)) A []) ⟨rfl, rfl, rfl, trivial⟩ (fun _ h => h.picks [] rfl) (fun u1 g2 e => ?_) (fun aftk3 u1 g2 k3 hs J hJk3 hBk3 hX I cnk3 => ?_)
 ·have hm := Flow.fin_b e hm
  refine nj_seq ?_
  refine cj_seq ?_
  refine cj_reg ?_
  refine lp rfl (p_mv rfl) ?_
  refine lp rfl (p_mv rfl) ?_
  refine lp rfl (p_neg rfl) ?_
  refine lp rfl (p_max rfl rfl) ?_
  refine lp rfl (p_as rfl) ?_
  refine lj_seq ?_
  obtain rfl := Option.some.inj hm
  exact cj_rt () [] Tryz.results41 (.tmp rfl .nil) rfl rfl
 ·have hRk3 : ∀ t, k3 = .ret t → some t = some r := fun t e => by rw [hX t e] at hm; exact hm
  have hm := hs
  refine cj_seq ?_
  refine cj_seq ?_
  refine cj_reg ?_
  refine lp rfl (p_mv rfl) ?_
  refine lp rfl (p_neq rfl rfl) ?_
  refine lj_seq ?_
  refine cj_if (b := u1.2 != 0) rfl (fun hb => ?_) (fun hb => ?_)
  ·have hm := ifB_t hb hm
   refine cj_skip ?_
   refine nj_seq ?_
   refine cj_blk ?_
   refine cj_quiet (by kernel_rfl) (by kernel_rfl) ?_
   refine q_p rfl (p_mv rfl) ?_
   refine q_p rfl (p_mv rfl) ?_
   refine q_p rfl (p_mv rfl) ?_
   obtain ⟨z5, hz5, hm⟩ := bindS hm
   refine q_p rfl (p_remM hz5 rfl rfl) ?_
   refine q_p rfl (p_as rfl) ?_
   refine q_p rfl (p_as rfl) ?_
   refine q_nil ?_
   refine nj_blk ?_
   exact cnk3 _ _ (u1.2, z5) () (hJk3 _ (Option.some.inj hm).symm) ⟨rfl, rfl, rfl, trivial⟩ (fun _ h => h.picks [] rfl)
  ·have hm := ifB_f hb hm
   refine cj_exit rfl ?_
   exact (aftk3 (u1.1, u1.2) () (hBk3 _ (Option.some.inj hm).symm)).sub ⟨rfl, rfl, rfl, trivial⟩ (fun _ h => h.picks [] rfl)
theorem ok_gleeref2_Lowest (a0 : Int) (a1 : Int) {r : TFraction} (hm : m_gleeref2_Lowest a0 a1 = some r) :
  Ctr Tryz.prog 19 [.int .i64 a0, .int .i64 a1].toArray ([] : List Ent) [] (X := Unit) (fun _ => .agg (R42.enc r).toArray) (fun _ => []) := by
 unfold m_gleeref2_Lowest at hm
 refine ctr_mk (vs := [(0, .int .i64 a0), (1, .int .i64 a1)]) Tryz.func19 rfl Tryz.ntmps19 rfl ⟨rfl, rfl, trivial⟩ (fun w0 A => ?_)
 refine cj_seq ?_
 refine cj_reg ?_
 refine r_al ty42 rfl (fun b1 => ?_)
 refine lj_seq ?_
 refine cj_seq ?_
 refine cj_reg ?_
 refine lp rfl (p_mv rfl) ?_
 refine lp rfl (p_mv rfl) ?_
 obtain ⟨y2, hy2, hm⟩ := bindS hm
 refine r_call [] cf41 rfl rfl (ok_gleeref2_divisor a0 a1 hy2) rfl rfl .nil (fun _ => rfl) rfl (fun _ => ?_)
 refine lp rfl (p_as rfl) ?_
 refine lj_seq ?_
 refine cj_seq ?_
 refine cj_tail 7 (by kernel_rfl) (by kernel_rfl) ?_
 refine s_p rfl (p_mv rfl) ?_
 refine s_p rfl (p_mv rfl) ?_
 obtain ⟨z3, hz3, hm⟩ := bindS hm
 refine s_p rfl (p_quoM hz3 rfl rfl) ?_
 refine s_p rfl (p_mv rfl) ?_
 refine s_p rfl (p_mv rfl) ?_
 obtain ⟨z4, hz4, hm⟩ := bindS hm
 refine s_p rfl (p_quoM hz4 rfl rfl) ?_
 refine s_p rfl (p_bld [.int .i64 z3, .int .i64 z4] rfl (fun _ => by kernel_rfl)) ?_
 refine s_nil ?_
 refine r_sb (vs := [.int .i64 z3, .int .i64 z4]) (j := 0) ty42 rfl rfl rfl rfl rfl rfl rfl ?_
 refine lj_seq ?_
 obtain rfl := Option.some.inj hm
 exact cj_rt () [] Tryz.results19 (.agg (k := 0) ty42 rfl rfl rfl .nil) rfl rfl
theorem ok_gleemake_Stream_Some (b0_ : Nat) (s0_0_ : SV) (a0_0 : (List Int)) (a0_1 : Int) (s1_ : SV) (a1 : (List ByteArray)) {r : ByteArray × Int} (hm : m_gleemake_Stream_Some a0_0 a0_1 a1 = some r) :
  Ctr Tryz.prog 20 [.pointer (some ⟨b0_, 0, none⟩), s1_.v].toArray [.box b0_ 25 [s0_0_.v, .int .i64 a0_1]] [RdS R3 (SV.v s0_0_) a0_0, RdS R9 (SV.v s1_) a1] (X := Unit) (fun _ => .string r.1) (fun _ => [.box b0_ 25 [s0_0_.v, .int .i64 r.2]]) := by
 unfold m_gleemake_Stream_Some at hm
 refine ctr_mk (vs := [(0, .pointer (some ⟨b0_, 0, none⟩)), (1, s1_.v)]) Tryz.func20 rfl Tryz.ntmps20 rfl ⟨rfl, rfl, trivial⟩ (fun w0 A => ?_)
 refine cj_seq ?_
 refine cj_reg ?_
 refine lp rfl (p_as rfl) ?_
 refine lj_seq ?_
 refine cj_seq ?_
 refine cj_reg ?_
 refine lp rfl (p_mv rfl) ?_
 refine lp rfl (p_mv rfl) ?_
 refine lp rfl (p_mv rfl) ?_
 refine lp rfl (p_len Tryz.underlying87 rfl (.ro 2 rfl)) ?_
 obtain ⟨y1, hy1, hm⟩ := bindS hm
 refine r_call [0] cf40 rfl rfl (ok_gleemake_Stream_Next b0_ s0_0_ a0_0 a0_1 (a1.length : Int) hy1) rfl rfl (.cons (.ro 0 rfl) .nil) (fun _ => rfl) rfl (fun _ => ?_)
 obtain ⟨e2, he2, hm⟩ := bindS hm
 refine lp rfl (p_idx Tryz.underlying87 ty9 rfl rfl (.ro 2 rfl) he2) ?_
 refine lp rfl (p_lde (o := 0) ty9 rfl rfl (.ro 2 rfl) (getI_spec he2).2 rfl) ?_
 refine lp rfl (p_as rfl) ?_
 refine lj_seq ?_
 obtain rfl := Option.some.inj hm
 exact cj_rt () [0] Tryz.results20 (.tmp rfl .nil) rfl rfl
theorem ok_gleemake_Stream_TonesFor (b0_ : Nat) (s0_0_ : SV) (a0_0 : (List Int)) (a0_1 : Int) (s1_ : SV) (a1 : (List TBar)) {r : (List TTone) × Int} (hm : m_gleemake_Stream_TonesFor a0_0 a0_1 a1 = some r) :
  Ctr Tryz.prog 5 [.pointer (some ⟨b0_, 0, none⟩), s1_.v].toArray [.box b0_ 25 [s0_0_.v, .int .i64 a0_1]] [RdS R3 (SV.v s0_0_) a0_0, RdS R53 (SV.v s1_) a1] (X := SV) (fun s => s.v) (fun s => [.row R44 (SV.v s) r.1, .box b0_ 25 [s0_0_.v, .int .i64 r.2]]) := by
 unfold m_gleemake_Stream_TonesFor at hm
 refine ctr_mk (vs := [(0, .pointer (some ⟨b0_, 0, none⟩)), (1, s1_.v)]) Tryz.func5 rfl Tryz.ntmps5 rfl ⟨rfl, rfl, trivial⟩ (fun w0 A => ?_)
 refine cj_seq ?_
 refine cj_reg ?_
 refine lp rfl (p_as rfl) ?_
 refine lj_seq ?_
 refine cj_seq ?_
 refine cj_reg ?_
 refine lp rfl (p_as rfl) ?_
 refine lj_seq ?_
 refine cj_seq ?_
 refine cj_seq ?_
 refine cj_reg ?_
 refine lp rfl (p_mv rfl) ?_
 refine lp rfl (p_len Tryz.underlying26 rfl (.ro 2 rfl)) ?_
 refine lp rfl (p_mv rfl) ?_
 refine lj_seq ?_
 refine cj_nil R44 ?_
 obtain ⟨f8, hf8, hm⟩ := bindS hm
 refine cj_range (γ := SV) (m := (a1.length : Int)) hf8 nilS (fun u5 g6 => [(0, .pointer (some ⟨b0_, 0, none⟩)), (4, .slice none 0 0), (5, g6.v), (12, s1_.v)]) (fun u5 g6 => Sat w0 (keys [.box b0_ 25 [s0_0_.v, .int .i64 a0_1]]) A [.box b0_ 25 [s0_0_.v, .int .i64 u5.1], .ro (RdS R3 (SV.v s0_0_) a0_0), .ro (RdS R53 (SV.v s1_) a1), .row R44 (SV.v g6) u5.2]) ⟨rfl, rfl, rfl, rfl, rfl, rfl, trivial⟩ (fun _ h => h.picks [1, 1, 1, 0] rfl) (nat_lt _) (fun _ h => (FactAt.get (F := RdS R53 (SV.v s1_) a1) (.ro 3 rfl) h).1) (fun _ _ => ⟨rfl, rfl, rfl, rfl⟩) ⟨rfl, rfl, rfl, rfl, rfl⟩ rfl rfl rfl (fun u5 g6 e => ?_) (fun aftk7 i1 x2 u5 g6 k7 hx3 hs J hJk7 hBk7 hX I cnk7 => ?_)
 ·have hm := Flow.fin_b e hm
  refine nj_seq ?_
  refine cj_seq ?_
  refine cj_reg ?_
  refine lp rfl (p_mv rfl) ?_
  refine lp rfl (p_as rfl) ?_
  refine lj_seq ?_
  obtain rfl := Option.some.inj hm
  exact cj_rt g6 [3, 0] Tryz.results5 (.tmp rfl .nil) rfl rfl
 ·have hRk7 : ∀ t, k7 = .ret t → some t = some r := fun t e => by rw [hX t e] at hm; exact hm
  have hm := hs
  refine cj_seq ?_
  refine cj_reg ?_
  refine lp rfl (p_idx Tryz.underlying26 ty53 rfl rfl (.ro 2 rfl) (getI_nat.trans hx3)) ?_
  refine lp rfl (p_lea ty53 rfl (.ro 2 rfl) hx3) ?_
  refine r_al ty53 rfl (fun b10 => ?_)
  refine r_sb (vs := [.int .i64 x2.Beats, .int .i64 x2.Unit, .int .i64 x2.Close, .int .i64 x2.Ending, .bool x2.Open]) (j := 0) ty53 rfl rfl rfl rfl rfl rfl rfl ?_
  refine lj_seq ?_
  refine cj_seq ?_
  refine cj_reg ?_
  refine lp rfl (p_fab fl53_0 rfl) ?_
  refine lp rfl (p_lbs ty3 rfl (j := 0) rfl rfl) ?_
  refine lp rfl (p_min rfl rfl) ?_
  refine lp rfl (p_max rfl rfl) ?_
  refine lp rfl (p_mul rfl rfl) ?_
  refine lp rfl (p_fab fl53_1 rfl) ?_
  refine lp rfl (p_lbs ty3 rfl (j := 0) rfl rfl) ?_
  refine lp rfl (p_min rfl rfl) ?_
  refine lp rfl (p_max rfl rfl) ?_
  obtain ⟨z11, hz11, hm⟩ := bindS hm
  refine lp rfl (p_quoM hz11 rfl rfl) ?_
  refine lp rfl (p_as rfl) ?_
  refine lj_seq ?_
  obtain ⟨f15, hf15, hm⟩ := bindS hm
  refine cj_whileA (γ := SV) hf15 g6 (fun u12 g13 => [(0, .pointer (some ⟨b0_, 0, none⟩)), (4, .slice none 0 0), (5, g13.v), (8, .int .i64 u12.1), (12, s1_.v), (13, .int .i64 (a1.length : Int)), (14, .int .i64 (i1 : Int))]) (fun u12 g13 => Sat w0 (keys [.box b0_ 25 [s0_0_.v, .int .i64 a0_1]]) A [.box b0_ 25 [s0_0_.v, .int .i64 u12.2.1], .ro (RdS R3 (SV.v s0_0_) a0_0), .ro (RdS R53 (SV.v s1_) a1), .row R44 (SV.v g13) u12.2.2]) ⟨rfl, rfl, rfl, rfl, rfl, rfl, rfl, trivial⟩ (fun _ h => h.picks [1, 1, 1, 1] rfl) (fun u12 g13 e => ?_) (fun aftk14 u12 g13 k14 hs J hJk14 hBk14 hX I cnk14 => ?_)
  ·have hm := Flow.fin_b e hm
   refine nj_blk ?_
   exact cnk7 _ _ (u12.2.1, u12.2.2) g13 (hJk7 _ (Option.some.inj hm).symm) ⟨rfl, rfl, rfl, rfl, rfl, rfl, trivial⟩ (fun _ h => h.picks [0, 0, 0, 0] rfl)
  ·have hRk14 : ∀ t, k14 = .ret t → some t = some k7 := fun t e => by rw [hX t e] at hm; exact hm
   have hm := hs
   refine cj_seq ?_
   refine cj_seq ?_
   refine cj_reg ?_
   refine lp rfl (p_mv rfl) ?_
   refine lp rfl (p_gtr rfl rfl) ?_
   refine lj_seq ?_
   refine cj_if (b := decide (u12.1 > 0)) rfl (fun hb => ?_) (fun hb => ?_)
   ·have hm := ifB_t hb hm
    refine cj_skip ?_
    refine nj_seq ?_
    refine cj_blk ?_
    refine cj_seq ?_
    refine cj_reg ?_
    refine lp rfl (p_mv rfl) ?_
    refine lp rfl (p_mv rfl) ?_
    refine r_bs R3 [24, 48, 48, 64, 96, 192] rfl rfl rfl (fun _ => by kernel_rfl) rfl (fun s17 => ?_)
    obtain ⟨y18, hy18, hm⟩ := bindS hm
    refine r_call [1] cf16 rfl rfl (ok_gleemake_Stream_Pick b0_ s0_0_ a0_0 u12.2.1 s17 [24, 48, 48, 64, 96, 192] hy18) rfl rfl (.cons (.ro 1 rfl) (.cons (.row 0 rfl) .nil)) (fun _ => rfl) rfl (fun _ => ?_)
    refine lp rfl (p_min rfl rfl) ?_
    refine lp rfl (p_as rfl) ?_
    refine lj_seq ?_
    refine cj_seq ?_
    refine cj_reg ?_
    refine lp rfl (p_mv rfl) ?_
    refine lp rfl (p_mv rfl) ?_
    refine lp rfl (p_sub rfl rfl) ?_
    refine lp rfl (p_as rfl) ?_
    refine lj_seq ?_
    refine cj_seq ?_
    refine cj_reg ?_
    refine lp rfl (p_mv rfl) ?_
    refine r_bs R3 [60, 60, 62, 64, 67, 48, (-1)] rfl rfl rfl (fun _ => by kernel_rfl) rfl (fun s19 => ?_)
    obtain ⟨y20, hy20, hm⟩ := bindS hm
    refine r_call [1] cf16 rfl rfl (ok_gleemake_Stream_Pick b0_ s0_0_ a0_0 y18.2 s19 [60, 60, 62, 64, 67, 48, (-1)] hy20) rfl rfl (.cons (.ro 2 rfl) (.cons (.row 0 rfl) .nil)) (fun _ => rfl) rfl (fun _ => ?_)
    refine lp rfl (p_mv rfl) ?_
    obtain ⟨y21, hy21, hm⟩ := bindS hm
    refine r_call [] cf19 rfl rfl (ok_gleeref2_Lowest (min u12.1 y18.1) 192 hy21) rfl rfl .nil (fun _ => rfl) rfl (fun _ => ?_)
    refine lp rfl (p_bld [.int .i64 y20.1, .int .i64 y21.Num, .int .i64 y21.Den, .string ByteArray.empty, .bool false] rfl (fun _ => by kernel_rfl)) ?_
    refine r_al ty44 rfl (fun b22 => ?_)
    refine r_sb (vs := [.int .i64 y20.1, .int .i64 y21.Num, .int .i64 y21.Den, .string ByteArray.empty, .bool false]) (j := 0) ty44 rfl rfl rfl rfl rfl rfl rfl ?_
    refine lj_seq ?_
    refine cj_seq ?_
    refine cj_seq ?_
    refine cj_reg ?_
    refine lp rfl (p_fab fl44_0 rfl) ?_
    refine lp rfl (p_lbs ty3 rfl (j := 0) rfl rfl) ?_
    refine lp rfl (p_neq rfl rfl) ?_
    refine lj_seq ?_
    obtain ⟨k25, hk25, hm⟩ := bindS hm
    have hRk25 : ∀ t, k25 = .inr t → some t = some k14 := fun t e => by rw [e] at hm; exact hm
    refine cj_joinK (σ := (Int × ByteArray)) (γ := Unit) (fun u23 => k25 = .inl u23) (fun u23 g24 => [(0, .pointer (some ⟨b0_, 0, none⟩)), (4, .slice none 0 0), (5, g13.v), (8, .int .i64 (w64 (u12.1 - (min u12.1 y18.1)))), (10, .pointer (some ⟨b22, 0, none⟩)), (12, s1_.v), (13, .int .i64 (a1.length : Int)), (14, .int .i64 (i1 : Int))]) (fun u23 g24 => Sat w0 (keys [.box b0_ 25 [s0_0_.v, .int .i64 a0_1]]) A [.box b22 44 [.int .i64 y20.1, .int .i64 y21.Num, .int .i64 y21.Den, .string u23.2, .bool false], .box b0_ 25 [s0_0_.v, .int .i64 u23.1], .ro (RdS R3 (SV.v s0_0_) a0_0), .ro (RdS R53 (SV.v s1_) a1), .row R44 (SV.v g13) u12.2.2]) (fun u23 g24 hq => ?_) (fun J cnk25 => ?_)
    ·have hm := Sum.fin_l hq hm
     refine cj_seq ?_
     refine cj_seq ?_
     refine cj_reg ?_
     refine lp rfl (p_mv rfl) ?_
     refine lp rfl (p_len Tryz.underlying28 rfl (.row 4 rfl)) ?_
     refine lp rfl (p_sub rfl rfl) ?_
     refine lp rfl (p_as rfl) ?_
     refine lj_seq ?_
     refine cj_seq ?_
     obtain ⟨k30, hk30, hm⟩ := bindS hm
     have hRk30 : ∀ t, k30 = .inr t → some t = some k14 := fun t e => by rw [e] at hm; exact hm
     refine cj_joinK (σ := (Bool × Int)) (γ := Unit) (fun u28 => k30 = .inl u28) (fun u28 g29 => [(0, .pointer (some ⟨b0_, 0, none⟩)), (4, .slice none 0 0), (5, g13.v), (8, .int .i64 (w64 (u12.1 - (min u12.1 y18.1)))), (10, .pointer (some ⟨b22, 0, none⟩)), (11, .int .i64 (w64 ((u12.2.2.length : Int) - 1))), (12, s1_.v), (13, .int .i64 (a1.length : Int)), (14, .int .i64 (i1 : Int)), (74, .bool u28.1)]) (fun u28 g29 => Sat w0 (keys [.box b0_ 25 [s0_0_.v, .int .i64 a0_1]]) A [.box b22 44 [.int .i64 y20.1, .int .i64 y21.Num, .int .i64 y21.Den, .string u23.2, .bool false], .box b0_ 25 [s0_0_.v, .int .i64 u28.2], .ro (RdS R3 (SV.v s0_0_) a0_0), .ro (RdS R53 (SV.v s1_) a1), .row R44 (SV.v g13) u12.2.2]) (fun u28 g29 hq => ?_) (fun J cnk30 => ?_)
     ·have hm := Sum.fin_l hq hm
      obtain ⟨k36, hk36, hm⟩ := bindS hm
      have hRk36 : ∀ t, k36 = .inr t → some t = some k14 := fun t e => by rw [e] at hm; exact hm
      refine cj_joinK (σ := (ByteArray × (List TTone))) (γ := SV) (fun u33 => k36 = .inl u33) (fun u33 g34 => [(0, .pointer (some ⟨b0_, 0, none⟩)), (4, .slice none 0 0), (5, g34.v), (8, .int .i64 (w64 (u12.1 - (min u12.1 y18.1)))), (10, .pointer (some ⟨b22, 0, none⟩)), (12, s1_.v), (13, .int .i64 (a1.length : Int)), (14, .int .i64 (i1 : Int))]) (fun u33 g34 => Sat w0 (keys [.box b0_ 25 [s0_0_.v, .int .i64 a0_1]]) A [.box b22 44 [.int .i64 y20.1, .int .i64 y21.Num, .int .i64 y21.Den, .string u33.1, .bool false], .box b0_ 25 [s0_0_.v, .int .i64 u28.2], .ro (RdS R3 (SV.v s0_0_) a0_0), .ro (RdS R53 (SV.v s1_) a1), .row R44 (SV.v g34) u33.2]) (fun u33 g34 hq => ?_) (fun J cnk36 => ?_)
      ·have hm := Sum.fin_l hq hm
       refine cj_reg ?_
       refine lp rfl (p_mv rfl) ?_
       refine lp rfl (p_lbw ty44 rfl (j := 0) rfl rfl) ?_
       refine r_bs R44 [(TTone.mk y20.1 y21 u33.1 false)] rfl rfl rfl (fun _ => by kernel_rfl) rfl (fun s38 => ?_)
       obtain ⟨q39, hq39, hm⟩ := bindS hm
       refine r_app (k := 5) Tryz.underlying28 ty44 rfl rfl rfl rfl (.row 0 rfl) hq39 rfl (fun s40 => ?_)
       refine lp rfl (p_as rfl) ?_
       refine lj_nil ?_
       refine nj_blk ?_
       exact cnk14 _ _ (w64 (u12.1 - (min u12.1 y18.1)), u28.2, q39) s40 (hJk14 _ (Option.some.inj hm).symm) ⟨rfl, rfl, rfl, rfl, rfl, rfl, rfl, trivial⟩ (fun _ h => h.picks [2, 2, 2, 2] rfl)
      ·have hm := hk36
       refine cj_if (b := u28.1) rfl (fun hb => ?_) (fun hb => ?_)
       ·have hm := ifB_t hb hm
        refine cj_reg ?_
        refine lp rfl (p_mv rfl) ?_
        refine lp rfl (p_mv rfl) ?_
        obtain ⟨e37, he37, hm⟩ := bindS hm
        refine lp rfl (p_idx Tryz.underlying28 ty44 rfl rfl (.row 4 rfl) he37) ?_
        refine lp rfl (p_fae fl44_3 rfl (.row 4 rfl) (getI_spec he37).2) ?_
        refine r_ste (k := 4) (o := 4) (vs := [.bool true]) ty4 rfl rfl rfl rfl rfl rfl rfl (getI_spec he37).2 (TTone.mk e37.Note e37.Long e37.Text true) rfl rfl ?_
        refine lp rfl (p_fab fl44_2 rfl) ?_
        refine r_sb (vs := [.string ByteArray.empty]) (j := 0) ty9 rfl rfl rfl rfl rfl rfl rfl ?_
        refine lj_nil ?_
        exact cnk36 _ _ (ByteArray.empty, (u12.2.2.set ((w64 ((u12.2.2.length : Int) - 1)).toNat) (TTone.mk e37.Note e37.Long e37.Text true))) g13 (Option.some.inj hm).symm ⟨rfl, rfl, rfl, rfl, rfl, rfl, rfl, rfl, trivial⟩ (fun _ h => h.picks [0, 0, 0, 0, 0] rfl)
       ·have hm := ifB_f hb hm
        refine cj_skip ?_
        exact cnk36 _ _ (u23.2, u12.2.2) g13 (Option.some.inj hm).symm ⟨rfl, rfl, rfl, rfl, rfl, rfl, rfl, rfl, trivial⟩ (fun _ h => h.picks [0, 0, 0, 0, 0] rfl)
     ·have hm := hk30
      refine cj_anyT [0, 1, 2, 3, 4, 5, 6, 7, 8, 9, 10, 12, 13, 14, 15, 17, 18] [] (Sat w0 (keys [.box b0_ 25 [s0_0_.v, .int .i64 a0_1]]) A [.box b22 44 [.int .i64 y20.1, .int .i64 y21.Num, .int .i64 y21.Den, .string u23.2, .bool false], .ro (RdS R3 (SV.v s0_0_) a0_0), .ro (RdS R53 (SV.v s1_) a1), .row R44 (SV.v g13) u12.2.2]) (Sat w0 (keys [.box b0_ 25 [s0_0_.v, .int .i64 a0_1]]) A [.box b22 44 [.int .i64 y20.1, .int .i64 y21.Num, .int .i64 y21.Den, .string u23.2, .bool false], .ro (RdS R3 (SV.v s0_0_) a0_0), .ro (RdS R53 (SV.v s1_) a1), .row R44 (SV.v g13) u12.2.2]) (by kernel_rfl) ?_
      refine at_take2 0 rfl (by kernel_rfl) (by kernel_rfl) (by kernel_rfl) (fun _ h => h.picks [0, 0, 0, 0] rfl) rfl rfl (p_mv rfl) (fun _ h => h.picks [0, 1, 1, 1] rfl) ?_
      refine at_take2 1 rfl (by kernel_rfl) (by kernel_rfl) (by kernel_rfl) (fun _ h => h.picks [0, 0, 0, 0] rfl) rfl rfl (p_geq rfl rfl) (fun _ h => h.picks [0, 1, 1, 1] rfl) ?_
      refine at_take2 2 rfl (by kernel_rfl) (by kernel_rfl) (by kernel_rfl) (fun _ h => h.picks [0, 0, 0, 0] rfl) rfl rfl (p_mv rfl) (fun _ h => h.picks [0, 1, 1, 1] rfl) ?_
      refine at_case (i := 56) (decide ((w64 ((u12.2.2.length : Int) - 1)) ≥ 0)) rfl (fun hb => ?_) (fun hb => ?_)
      ·have hm := ifB_t hb hm
       obtain ⟨e31, he31, hm⟩ := bindS hm
       refine at_take2g 3 rfl rfl rfl rfl (by kernel_rfl) (by kernel_rfl) (by kernel_rfl) (fun _ h => h.picks [0, 0, 0, 0] rfl) rfl rfl (p_mv rfl) (fun _ h => h.picks [0, 1, 1, 1] rfl) ?_
       refine at_take2g 4 rfl rfl rfl rfl (by kernel_rfl) (by kernel_rfl) (by kernel_rfl) (fun _ h => h.picks [0, 0, 0, 0] rfl) rfl rfl (p_mv rfl) (fun _ h => h.picks [0, 1, 1, 1] rfl) ?_
       refine at_take2g 5 rfl rfl rfl rfl (by kernel_rfl) (by kernel_rfl) (by kernel_rfl) (fun _ h => h.picks [0, 0, 0, 0] rfl) rfl rfl (p_idx Tryz.underlying28 ty44 rfl rfl (.row 3 rfl) he31) (fun _ h => h.picks [0, 1, 1, 1] rfl) ?_
       refine at_take2g 6 rfl rfl rfl rfl (by kernel_rfl) (by kernel_rfl) (by kernel_rfl) (fun _ h => h.picks [0, 0, 0, 0] rfl) rfl rfl (p_fae fl44_0 rfl (.row 3 rfl) (getI_spec he31).2) (fun _ h => h.picks [0, 1, 1, 1] rfl) ?_
       refine at_take2g 7 rfl rfl rfl rfl (by kernel_rfl) (by kernel_rfl) (by kernel_rfl) (fun _ h => h.picks [0, 0, 0, 0] rfl) rfl rfl (p_lde (o := 0) ty3 rfl rfl (.row 3 rfl) (getI_spec he31).2 rfl) (fun _ h => h.picks [0, 1, 1, 1] rfl) ?_
       refine at_take2g 8 rfl rfl rfl rfl (by kernel_rfl) (by kernel_rfl) (by kernel_rfl) (fun _ h => h.picks [0, 0, 0, 0] rfl) rfl rfl (p_fab fl44_0 rfl) (fun _ h => h.picks [0, 1, 1, 1] rfl) ?_
       refine at_take2g 9 rfl rfl rfl rfl (by kernel_rfl) (by kernel_rfl) (by kernel_rfl) (fun _ h => h.picks [0, 0, 0, 0] rfl) rfl rfl (p_lbs ty3 rfl (j := 0) rfl rfl) (fun _ h => h.picks [0, 1, 1, 1] rfl) ?_
       refine at_take2g 10 rfl rfl rfl rfl (by kernel_rfl) (by kernel_rfl) (by kernel_rfl) (fun _ h => h.picks [0, 0, 0, 0] rfl) rfl rfl (p_eql rfl rfl) (fun _ h => h.picks [0, 1, 1, 1] rfl) ?_
       refine at_each (rs := [11]) (by kernel_rfl) (by decide) ?_
       refine (.cons rfl (fun I cnI => ?_) .nil)
       ·refine lp rfl (p_pkt rfl rfl) ?_
        refine lj_nil ?_
        refine cnI _ _ (sof1 rfl rfl (fun _ h => h.picks [0, 1, 1, 1] rfl)) ?_
        refine at_take2 12 rfl (by kernel_rfl) (by kernel_rfl) (by kernel_rfl) (fun _ h => h.picks [0, 0, 0, 0] rfl) rfl rfl (p_mv rfl) (fun _ h => h.picks [0, 1, 1, 1] rfl) ?_
        refine at_case (i := 66) (e31.Note == y20.1) rfl (fun hb => ?_) (fun hb => ?_)
        ·have hm := ifB_t hb hm
         refine at_take2g 13 rfl rfl rfl rfl (by kernel_rfl) (by kernel_rfl) (by kernel_rfl) (fun _ h => h.picks [0, 0, 0, 0] rfl) rfl rfl (p_fab fl44_0 rfl) (fun _ h => h.picks [0, 1, 1, 1] rfl) ?_
         refine at_take2g 14 rfl rfl rfl rfl (by kernel_rfl) (by kernel_rfl) (by kernel_rfl) (fun _ h => h.picks [0, 0, 0, 0] rfl) rfl rfl (p_lbs ty3 rfl (j := 0) rfl rfl) (fun _ h => h.picks [0, 1, 1, 1] rfl) ?_
         refine at_take2g 15 rfl rfl rfl rfl (by kernel_rfl) (by kernel_rfl) (by kernel_rfl) (fun _ h => h.picks [0, 0, 0, 0] rfl) rfl rfl (p_neq rfl rfl) (fun _ h => h.picks [0, 1, 1, 1] rfl) ?_
         refine at_each (rs := [16]) (by kernel_rfl) (by decide) ?_
         refine (.cons rfl (fun I cnI => ?_) .nil)
         ·refine lp rfl (p_pkt rfl rfl) ?_
          refine lj_nil ?_
          refine cnI _ _ (sof1 rfl rfl (fun _ h => h.picks [0, 1, 1, 1] rfl)) ?_
          refine at_take2 17 rfl (by kernel_rfl) (by kernel_rfl) (by kernel_rfl) (fun _ h => h.picks [0, 0, 0, 0] rfl) rfl rfl (p_mv rfl) (fun _ h => h.picks [0, 1, 1, 1] rfl) ?_
          refine at_case (i := 71) (y20.1 != (-1)) rfl (fun hb => ?_) (fun hb => ?_)
          ·have hm := ifB_t hb hm
           obtain ⟨y32, hy32, hm⟩ := bindS hm
           refine at_take2g 18 rfl rfl rfl rfl (by kernel_rfl) (by kernel_rfl) (by kernel_rfl) (fun _ h => h.picks [0, 0, 0, 0] rfl) rfl rfl (p_mv rfl) (fun _ h => h.picks [0, 1, 1, 1] rfl) ?_
           refine at_each (rs := [19]) (by kernel_rfl) (by decide) ?_
           refine (.cons rfl (fun I cnI => ?_) .nil)
           ·refine lg true rfl rfl rfl ?_
            refine r_call [1] cf18 rfl rfl (ok_gleemake_Stream_Flip b0_ s0_0_ a0_0 u23.1 2 hy32) rfl rfl (.cons (.ro 1 rfl) .nil) (fun _ => rfl) rfl (fun _ => ?_)
            refine lj_nil ?_
            refine cnI _ _ (sof1 rfl rfl (fun _ h => h.picks [1, 1, 1, 1] rfl)) ?_
            refine at_each (rs := [20]) (by kernel_rfl) (by decide) ?_
            refine (.cons rfl (fun I cnI => ?_) .nil)
            ·refine lp rfl (p_pkt rfl rfl) ?_
             refine lj_nil ?_
             refine cnI _ _ (sof1 rfl rfl (fun _ h => h.picks [1, 1, 1, 1] rfl)) ?_
             refine at_done (by kernel_rfl) ?_
             exact cnk30 _ _ (y32.1, y32.2) () (Option.some.inj hm).symm ⟨rfl, rfl, rfl, rfl, rfl, rfl, rfl, rfl, rfl, rfl, trivial⟩ (fun _ h => h.picks [1, 0, 0, 0, 0] rfl)
          ·have hm := ifB_f hb hm
           refine at_skip 18 rfl rfl rfl rfl (by kernel_rfl) (by kernel_rfl) (by kernel_rfl) rfl rfl ?_
           refine at_each (rs := [19]) (by kernel_rfl) (by decide) ?_
           refine (.cons rfl (fun I cnI => ?_) .nil)
           ·refine ls true rfl rfl rfl rfl ?_
            refine lj_nil ?_
            refine cnI _ _ (sof1 rfl rfl (fun _ h => h.picks [0, 1, 1, 1] rfl)) ?_
            refine at_each (rs := [20]) (by kernel_rfl) (by decide) ?_
            refine (.cons rfl (fun I cnI => ?_) .nil)
            ·refine lp rfl (p_pkf rfl rfl) ?_
             refine lj_nil ?_
             refine cnI _ _ (sof1 rfl rfl (fun _ h => h.picks [0, 1, 1, 1] rfl)) ?_
             refine at_done (by kernel_rfl) ?_
             exact cnk30 _ _ (false, u23.1) () (Option.some.inj hm).symm ⟨rfl, rfl, rfl, rfl, rfl, rfl, rfl, rfl, rfl, rfl, trivial⟩ (fun _ h => h.picks [0, 0, 0, 0, 0] rfl)
        ·have hm := ifB_f hb hm
         refine at_skip 13 rfl rfl rfl rfl (by kernel_rfl) (by kernel_rfl) (by kernel_rfl) rfl rfl ?_
         refine at_skip 14 rfl rfl rfl rfl (by kernel_rfl) (by kernel_rfl) (by kernel_rfl) rfl rfl ?_
         refine at_skip 15 rfl rfl rfl rfl (by kernel_rfl) (by kernel_rfl) (by kernel_rfl) rfl rfl ?_
         refine at_each (rs := [16]) (by kernel_rfl) (by decide) ?_
         refine (.cons rfl (fun I cnI => ?_) .nil)
         ·refine lp rfl (p_pkf rfl rfl) ?_
          refine lj_nil ?_
          refine cnI _ _ (sof1 rfl rfl (fun _ h => h.picks [0, 1, 1, 1] rfl)) ?_
          refine at_take2 17 rfl (by kernel_rfl) (by kernel_rfl) (by kernel_rfl) (fun _ h => h.picks [0, 0, 0, 0] rfl) rfl rfl (p_mv rfl) (fun _ h => h.picks [0, 1, 1, 1] rfl) ?_
          refine at_skip 18 rfl rfl rfl rfl (by kernel_rfl) (by kernel_rfl) (by kernel_rfl) rfl rfl ?_
          refine at_each (rs := [19]) (by kernel_rfl) (by decide) ?_
          refine (.cons rfl (fun I cnI => ?_) .nil)
          ·refine ls true rfl rfl rfl rfl ?_
           refine lj_nil ?_
           refine cnI _ _ (sof1 rfl rfl (fun _ h => h.picks [0, 1, 1, 1] rfl)) ?_
           refine at_each (rs := [20]) (by kernel_rfl) (by decide) ?_
           refine (.cons rfl (fun I cnI => ?_) .nil)
           ·refine lp rfl (p_pkf rfl rfl) ?_
            refine lj_nil ?_
            refine cnI _ _ (sof1 rfl rfl (fun _ h => h.picks [0, 1, 1, 1] rfl)) ?_
            refine at_done (by kernel_rfl) ?_
            exact cnk30 _ _ (false, u23.1) () (Option.some.inj hm).symm ⟨rfl, rfl, rfl, rfl, rfl, rfl, rfl, rfl, rfl, rfl, trivial⟩ (fun _ h => h.picks [0, 0, 0, 0, 0] rfl)
      ·have hm := ifB_f hb hm
       refine at_skip 3 rfl rfl rfl rfl (by kernel_rfl) (by kernel_rfl) (by kernel_rfl) rfl rfl ?_
       refine at_skip 4 rfl rfl rfl rfl (by kernel_rfl) (by kernel_rfl) (by kernel_rfl) rfl rfl ?_
       refine at_skip 5 rfl rfl rfl rfl (by kernel_rfl) (by kernel_rfl) (by kernel_rfl) rfl rfl ?_
       refine at_skip 6 rfl rfl rfl rfl (by kernel_rfl) (by kernel_rfl) (by kernel_rfl) rfl rfl ?_
       refine at_skip 7 rfl rfl rfl rfl (by kernel_rfl) (by kernel_rfl) (by kernel_rfl) rfl rfl ?_
       refine at_skip 8 rfl rfl rfl rfl (by kernel_rfl) (by kernel_rfl) (by kernel_rfl) rfl rfl ?_
       refine at_skip 9 rfl rfl rfl rfl (by kernel_rfl) (by kernel_rfl) (by kernel_rfl) rfl rfl ?_
       refine at_skip 10 rfl rfl rfl rfl (by kernel_rfl) (by kernel_rfl) (by kernel_rfl) rfl rfl ?_
       refine at_each (rs := [11]) (by kernel_rfl) (by decide) ?_
       refine (.cons rfl (fun I cnI => ?_) .nil)
       ·refine lp rfl (p_pkf rfl rfl) ?_
        refine lj_nil ?_
        refine cnI _ _ (sof1 rfl rfl (fun _ h => h.picks [0, 1, 1, 1] rfl)) ?_
        refine at_take2 12 rfl (by kernel_rfl) (by kernel_rfl) (by kernel_rfl) (fun _ h => h.picks [0, 0, 0, 0] rfl) rfl rfl (p_mv rfl) (fun _ h => h.picks [0, 1, 1, 1] rfl) ?_
        refine at_skip 13 rfl rfl rfl rfl (by kernel_rfl) (by kernel_rfl) (by kernel_rfl) rfl rfl ?_
        refine at_skip 14 rfl rfl rfl rfl (by kernel_rfl) (by kernel_rfl) (by kernel_rfl) rfl rfl ?_
        refine at_skip 15 rfl rfl rfl rfl (by kernel_rfl) (by kernel_rfl) (by kernel_rfl) rfl rfl ?_
        refine at_each (rs := [16]) (by kernel_rfl) (by decide) ?_
        refine (.cons rfl (fun I cnI => ?_) .nil)
        ·refine lp rfl (p_pkf rfl rfl) ?_
         refine lj_nil ?_
         refine cnI _ _ (sof1 rfl rfl (fun _ h => h.picks [0, 1, 1, 1] rfl)) ?_
         refine at_take2 17 rfl (by kernel_rfl) (by kernel_rfl) (by kernel_rfl) (fun _ h => h.picks [0, 0, 0, 0] rfl) rfl rfl (p_mv rfl) (fun _ h => h.picks [0, 1, 1, 1] rfl) ?_
         refine at_skip 18 rfl rfl rfl rfl (by kernel_rfl) (by kernel_rfl) (by kernel_rfl) rfl rfl ?_
         refine at_each (rs := [19]) (by kernel_rfl) (by decide) ?_
         refine (.cons rfl (fun I cnI => ?_) .nil)
         ·refine ls true rfl rfl rfl rfl ?_
          refine lj_nil ?_
          refine cnI _ _ (sof1 rfl rfl (fun _ h => h.picks [0, 1, 1, 1] rfl)) ?_
          refine at_each (rs := [20]) (by kernel_rfl) (by decide) ?_
          refine (.cons rfl (fun I cnI => ?_) .nil)
          ·refine lp rfl (p_pkf rfl rfl) ?_
           refine lj_nil ?_
           refine cnI _ _ (sof1 rfl rfl (fun _ h => h.picks [0, 1, 1, 1] rfl)) ?_
           refine at_done (by kernel_rfl) ?_
           exact cnk30 _ _ (false, u23.1) () (Option.some.inj hm).symm ⟨rfl, rfl, rfl, rfl, rfl, rfl, rfl, rfl, rfl, rfl, trivial⟩ (fun _ h => h.picks [0, 0, 0, 0, 0] rfl)
    ·have hm := hk25
     refine cj_if (b := y20.1 != (-1)) rfl (fun hb => ?_) (fun hb => ?_)
     ·have hm := ifB_t hb hm
      refine cj_reg ?_
      refine lp rfl (p_mv rfl) ?_
      refine r_bs R9 [ByteArray.empty, ByteArray.empty, (ByteArray.mk [97].toArray), (ByteArray.mk [71, 108, 111, 45].toArray), (ByteArray.mk [114, 105, 45].toArray), (ByteArray.mk [195, 169].toArray), (ByteArray.mk [45].toArray)] rfl rfl rfl (fun _ => by kernel_rfl) rfl (fun s26 => ?_)
      obtain ⟨y27, hy27, hm⟩ := bindS hm
      refine r_call [2] cf20 rfl rfl (ok_gleemake_Stream_Some b0_ s0_0_ a0_0 y20.2 s26 [ByteArray.empty, ByteArray.empty, (ByteArray.mk [97].toArray), (ByteArray.mk [71, 108, 111, 45].toArray), (ByteArray.mk [114, 105, 45].toArray), (ByteArray.mk [195, 169].toArray), (ByteArray.mk [45].toArray)] hy27) rfl rfl (.cons (.ro 4 rfl) (.cons (.row 0 rfl) .nil)) (fun _ => rfl) rfl (fun _ => ?_)
      refine lp rfl (p_fab fl44_2 rfl) ?_
      refine r_sb (vs := [.string y27.1]) (j := 2) ty9 rfl rfl rfl rfl rfl rfl rfl ?_
      refine lj_nil ?_
      exact cnk25 _ _ (y27.2, y27.1) () (Option.some.inj hm).symm ⟨rfl, rfl, rfl, rfl, rfl, rfl, rfl, rfl, trivial⟩ (fun _ h => h.picks [2, 0, 3, 3, 3] rfl)
     ·have hm := ifB_f hb hm
      refine cj_skip ?_
      exact cnk25 _ _ (y20.2, ByteArray.empty) () (Option.some.inj hm).symm ⟨rfl, rfl, rfl, rfl, rfl, rfl, rfl, rfl, trivial⟩ (fun _ h => h.picks [0, 0, 2, 2, 2] rfl)
   ·have hm := ifB_f hb hm
    refine cj_exit rfl ?_
    exact (aftk14 (u12.1, u12.2.1, u12.2.2) g13 (hBk14 _ (Option.some.inj hm).symm)).sub ⟨rfl, rfl, rfl, rfl, rfl, rfl, rfl, trivial⟩ (fun _ h => h.picks [0, 0, 0, 0] rfl)
theorem ok_kit_Outside (a0 : Int) (a1 : Int) (a2 : Int) {r : Bool} (hm : m_kit_Outside a0 a1 a2 = some r) :
  Ctr Tryz.prog 83 [.int .i64 a0, .int .i64 a1, .int .i64 a2].toArray ([] : List Ent) [] (X := Unit) (fun _ => .bool r) (fun _ => []) := by
 unfold m_kit_Outside at hm
 refine ctr_mk (vs := [(0, .int .i64 a0), (1, .int .i64 a1), (2, .int .i64 a2)]) Tryz.func83 rfl Tryz.ntmps83 rfl ⟨rfl, rfl, rfl, trivial⟩ (fun w0 A => ?_)
 refine cj_seq ?_
 refine cj_reg ?_
 refine lp rfl (p_as rfl) ?_
 refine lj_seq ?_
 refine cj_seq ?_
 refine cj_reg ?_
 refine lp rfl (p_mv rfl) ?_
 refine lp rfl (p_mv rfl) ?_
 refine lp rfl (p_lss rfl rfl) ?_
 refine lp rfl (p_mv rfl) ?_
 refine lcase (i := 10) (decide (a0 < a1)) rfl (fun hb => ?_) (fun hb => ?_)
 ·have hm := ifB_t hb hm
  refine ls false rfl rfl rfl rfl ?_
  refine ls false rfl rfl rfl rfl ?_
  refine ls false rfl rfl rfl rfl ?_
  refine lp rfl (p_pkt rfl rfl) ?_
  refine lp rfl (p_as rfl) ?_
  refine lj_seq ?_
  obtain rfl := Option.some.inj hm
  exact cj_rt () [] Tryz.results83 (.tmp rfl .nil) rfl rfl
 ·have hm := ifB_f hb hm
  refine lg false rfl rfl rfl ?_
  refine lp rfl (p_mv rfl) ?_
  refine lg false rfl rfl rfl ?_
  refine lp rfl (p_mv rfl) ?_
  refine lg false rfl rfl rfl ?_
  refine lp rfl (p_gtr rfl rfl) ?_
  refine lp rfl (p_pkf rfl rfl) ?_
  refine lp rfl (p_as rfl) ?_
  refine lj_seq ?_
  obtain rfl := Option.some.inj hm
  exact cj_rt () [] Tryz.results83 (.tmp rfl .nil) rfl rfl
theorem ok_slices_Index_int_int (s0_ : SV) (a0 : (List Int)) (a1 : Int) {r : Int} (hm : m_slices_Index_int_int a0 a1 = some r) :
  Ctr Tryz.prog 160 [s0_.v, .int .i64 a1].toArray ([] : List Ent) [RdS R3 (SV.v s0_) a0] (X := Unit) (fun _ => .int .i64 r) (fun _ => []) := by
 unfold m_slices_Index_int_int at hm
 refine ctr_mk (vs := [(0, s0_.v), (1, .int .i64 a1)]) Tryz.func160 rfl Tryz.ntmps160 rfl ⟨rfl, rfl, trivial⟩ (fun w0 A => ?_)
 refine cj_seq ?_
 refine cj_reg ?_
 refine lp rfl (p_as rfl) ?_
 refine lj_seq ?_
 refine cj_seq ?_
 refine cj_seq ?_
 refine cj_reg ?_
 refine lp rfl (p_mv rfl) ?_
 refine lp rfl (p_len Tryz.underlying22 rfl (.ro 0 rfl)) ?_
 refine lp rfl (p_mv rfl) ?_
 refine lj_seq ?_
 obtain ⟨f7, hf7, hm⟩ := bindS hm
 refine cj_range (γ := Unit) (m := (a0.length : Int)) hf7 () (fun u4 g5 => [(0, s0_.v), (1, .int .i64 a1), (4, .int .i64 0)]) (fun u4 g5 => Sat w0 (keys ([] : List Ent)) A [.ro (RdS R3 (SV.v s0_) a0)]) ⟨rfl, rfl, rfl, rfl, rfl, trivial⟩ (fun _ h => h.picks [0] rfl) (nat_lt _) (fun _ h => (FactAt.get (F := RdS R3 (SV.v s0_) a0) (.ro 0 rfl) h).1) (fun _ _ => ⟨rfl, rfl, rfl, rfl⟩) ⟨rfl, rfl, rfl, rfl, rfl⟩ rfl rfl rfl (fun u4 g5 e => ?_) (fun aftk6 i1 x2 u4 g5 k6 hx3 hs J hJk6 hBk6 hX I cnk6 => ?_)
 ·have hm := Flow.fin_b e hm
  refine nj_seq ?_
  refine cj_seq ?_
  refine cj_reg ?_
  refine lp rfl (p_as rfl) ?_
  refine lj_seq ?_
  obtain rfl := Option.some.inj hm
  exact cj_rt () [] Tryz.results160 (.tmp rfl .nil) rfl rfl
 ·have hRk6 : ∀ t, k6 = .ret t → some t = some r := fun t e => by rw [hX t e] at hm; exact hm
  have hm := hs
  refine cj_seq ?_
  refine cj_reg ?_
  refine lp rfl (p_mv rfl) ?_
  refine lp rfl (p_as rfl) ?_
  refine lj_seq ?_
  refine cj_seq ?_
  refine cj_reg ?_
  refine lp rfl (p_mv rfl) ?_
  refine lp rfl (p_mv rfl) ?_
  refine lp rfl (p_mv rfl) ?_
  refine lp rfl (p_idx Tryz.underlying22 ty3 rfl rfl (.ro 0 rfl) (getI_nat.trans hx3)) ?_
  refine lp rfl (p_lde (o := 0) ty3 rfl rfl (.ro 0 rfl) hx3 rfl) ?_
  refine lp rfl (p_eql rfl rfl) ?_
  refine lj_seq ?_
  refine cj_if (b := a1 == x2) rfl (fun hb => ?_) (fun hb => ?_)
  ·have hm := ifB_t hb hm
   refine cj_seq ?_
   refine cj_reg ?_
   refine lp rfl (p_mv rfl) ?_
   refine lp rfl (p_as rfl) ?_
   refine lj_seq ?_
   have hm := hRk6 _ (Option.some.inj hm).symm
   obtain rfl := Option.some.inj hm
   exact cj_rt () [] Tryz.results160 (.tmp rfl .nil) rfl rfl
  ·have hm := ifB_f hb hm
   refine cj_skip ?_
   refine nj_blk ?_
   exact cnk6 _ _ () () (hJk6 _ (Option.some.inj hm).symm) ⟨rfl, rfl, rfl, rfl, rfl, trivial⟩ (fun _ h => h.picks [0] rfl)
theorem ok_slices_Contains_int_int (s0_ : SV) (a0 : (List Int)) (a1 : Int) {r : Bool} (hm : m_slices_Contains_int_int a0 a1 = some r) :
  Ctr Tryz.prog 126 [s0_.v, .int .i64 a1].toArray ([] : List Ent) [RdS R3 (SV.v s0_) a0] (X := Unit) (fun _ => .bool r) (fun _ => []) := by
 unfold m_slices_Contains_int_int at hm
 refine ctr_mk (vs := [(0, s0_.v), (1, .int .i64 a1)]) Tryz.func126 rfl Tryz.ntmps126 rfl ⟨rfl, rfl, trivial⟩ (fun w0 A => ?_)
 refine cj_seq ?_
 refine cj_reg ?_
 refine lp rfl (p_as rfl) ?_
 refine lj_seq ?_
 refine cj_seq ?_
 refine cj_reg ?_
 refine lp rfl (p_mv rfl) ?_
 refine lp rfl (p_mv rfl) ?_
 obtain ⟨y1, hy1, hm⟩ := bindS hm
 refine r_call [] cf160 rfl rfl (ok_slices_Index_int_int s0_ a0 a1 hy1) rfl rfl (.cons (.ro 0 rfl) .nil) (fun _ => rfl) rfl (fun _ => ?_)
 refine lp rfl (p_geq rfl rfl) ?_
 refine lp rfl (p_as rfl) ?_
 refine lj_seq ?_
 obtain rfl := Option.some.inj hm
 exact cj_rt () [] Tryz.results126 (.tmp rfl .nil) rfl rfl
theorem ok_piece_isUnit (a0 : Int) {r : Bool} (hm : m_piece_isUnit a0 = some r) :
  Ctr Tryz.prog 100 [.int .i64 a0].toArray ([] : List Ent) [] (X := Unit) (fun _ => .bool r) (fun _ => []) := by
 unfold m_piece_isUnit at hm
 refine ctr_mk (vs := [(0, .int .i64 a0)]) Tryz.func100 rfl Tryz.ntmps100 rfl ⟨rfl, trivial⟩ (fun w0 A => ?_)
 refine cj_seq ?_
 refine cj_reg ?_
 refine lp rfl (p_as rfl) ?_
 refine lj_seq ?_
 refine cj_seq ?_
 refine cj_reg ?_
 refine r_bs R3 [1, 2, 4, 8, 16] rfl rfl rfl (fun _ => by kernel_rfl) rfl (fun s1 => ?_)
 refine lp rfl (p_mv rfl) ?_
 obtain ⟨y2, hy2, hm⟩ := bindS hm
 refine r_call [] cf126 rfl rfl (ok_slices_Contains_int_int s1 [1, 2, 4, 8, 16] a0 hy2) rfl rfl (.cons (.row 0 rfl) .nil) (fun _ => rfl) rfl (fun _ => ?_)
 refine lp rfl (p_as rfl) ?_
 refine lj_seq ?_
 obtain rfl := Option.some.inj hm
 exact cj_rt () [] Tryz.results100 (.tmp rfl .nil) rfl rfl
theorem ok_piece_barFault (a0 : TBar) {r : Int} (hm : m_piece_barFault a0 = some r) :
  Ctr Tryz.prog 74 [.agg (R53.enc a0).toArray].toArray ([] : List Ent) [] (X := Unit) (fun _ => .int .i64 r) (fun _ => []) := by
 unfold m_piece_barFault at hm
 refine ctr_mk (vs := [(0, .agg (R53.enc a0).toArray)]) Tryz.func74 rfl Tryz.ntmps74 rfl ⟨rfl, trivial⟩ (fun w0 A => ?_)
 refine cj_seq ?_
 refine cj_reg ?_
 refine r_bx (cs := [.int .i64 a0.Beats, .int .i64 a0.Unit, .int .i64 a0.Close, .int .i64 a0.Ending, .bool a0.Open]) rfl rfl rfl (fun b1 => ?_)
 refine lp rfl (p_as rfl) ?_
 refine lj_seq ?_
 refine cj_seq ?_
 refine cj_seq ?_
 refine cj_reg ?_
 obtain ⟨k4, hk4, hm⟩ := bindS hm
 have hRk4 : ∀ t, k4 = .inr t → some t = some r := fun t e => by rw [e] at hm; exact hm
 refine lj_join (σ := Bool) (γ := Unit) (fun u2 => k4 = .inl u2) (fun u2 g3 => [(2, .int .i64 0), (26, .bool u2)]) (fun u2 g3 => Sat w0 (keys ([] : List Ent)) A []) (fun u2 g3 hq => ?_) (fun J cnk4 => ?_)
 ·have hm := Sum.fin_l hq hm
  refine cj_if (b := u2) rfl (fun hb => ?_) (fun hb => ?_)
  ·have hm := ifB_t hb hm
   refine cj_seq ?_
   refine cj_reg ?_
   refine lp rfl (p_as rfl) ?_
   refine lj_seq ?_
   obtain rfl := Option.some.inj hm
   exact cj_rt () [] Tryz.results74 (.tmp rfl .nil) rfl rfl
  ·have hm := ifB_f hb hm
   refine cj_skip ?_
   refine nj_seq ?_
   refine cj_seq ?_
   refine cj_reg ?_
   refine lp rfl (p_as rfl) ?_
   refine lj_seq ?_
   obtain rfl := Option.some.inj hm
   exact cj_rt () [] Tryz.results74 (.tmp rfl .nil) rfl rfl
 ·have hm := hk4
  refine lp rfl (p_fab fl53_0 rfl) ?_
  refine lp rfl (p_lbs ty3 rfl (j := 0) rfl rfl) ?_
  obtain ⟨y5, hy5, hm⟩ := bindS hm
  refine r_call [] cf83 rfl rfl (ok_kit_Outside a0.Beats 1 16 hy5) rfl rfl .nil (fun _ => rfl) rfl (fun _ => ?_)
  refine lp rfl (p_mv rfl) ?_
  refine lcase (i := 6) y5 rfl (fun hb => ?_) (fun hb => ?_)
  ·have hm := ifB_t hb hm
   refine ls false rfl rfl rfl rfl ?_
   refine ls false rfl rfl rfl rfl ?_
   refine ls false rfl rfl rfl rfl ?_
   refine ls false rfl rfl rfl rfl ?_
   refine lp rfl (p_pkt rfl rfl) ?_
   refine lp rfl (p_mv rfl) ?_
   refine ls false rfl rfl rfl rfl ?_
   refine ls false rfl rfl rfl rfl ?_
   refine ls false rfl rfl rfl rfl ?_
   refine ls false rfl rfl rfl rfl ?_
   refine lsu rfl rfl rfl rfl ?_
   refine lsu rfl rfl rfl rfl ?_
   refine lsu rfl rfl rfl rfl ?_
   refine ls false rfl rfl rfl rfl ?_
   refine lp rfl (p_pkt rfl rfl) ?_
   refine lp rfl (p_mv rfl) ?_
   refine ls false rfl rfl rfl rfl ?_
   refine ls false rfl rfl rfl rfl ?_
   refine ls false rfl rfl rfl rfl ?_
   refine lp rfl (p_pkt rfl rfl) ?_
   refine lj_nil ?_
   exact cnk4 _ _ true () (Option.some.inj hm).symm ⟨rfl, rfl, trivial⟩ (fun _ h => h.picks [] rfl)
  ·have hm := ifB_f hb hm
   refine lg false rfl rfl rfl ?_
   refine lp rfl (p_fab fl53_1 rfl) ?_
   refine lg false rfl rfl rfl ?_
   refine lp rfl (p_lbs ty3 rfl (j := 0) rfl rfl) ?_
   refine lg false rfl rfl rfl ?_
   obtain ⟨y6, hy6, hm⟩ := bindS hm
   refine r_call [] cf100 rfl rfl (ok_piece_isUnit a0.Unit hy6) rfl rfl .nil (fun _ => rfl) rfl (fun _ => ?_)
   refine lg false rfl rfl rfl ?_
   refine lp rfl (p_not rfl) ?_
   refine lp rfl (p_pkf rfl rfl) ?_
   refine lp rfl (p_mv rfl) ?_
   refine lcase (i := 12) (!y6) rfl (fun hb => ?_) (fun hb => ?_)
   ·have hm := ifB_t hb hm
    refine ls false rfl rfl rfl rfl ?_
    refine ls false rfl rfl rfl rfl ?_
    refine ls false rfl rfl rfl rfl ?_
    refine ls false rfl rfl rfl rfl ?_
    refine lsu rfl rfl rfl rfl ?_
    refine lsu rfl rfl rfl rfl ?_
    refine lsu rfl rfl rfl rfl ?_
    refine ls false rfl rfl rfl rfl ?_
    refine lp rfl (p_pkt rfl rfl) ?_
    refine lp rfl (p_mv rfl) ?_
    refine ls false rfl rfl rfl rfl ?_
    refine ls false rfl rfl rfl rfl ?_
    refine ls false rfl rfl rfl rfl ?_
    refine lp rfl (p_pkt rfl rfl) ?_
    refine lj_nil ?_
    exact cnk4 _ _ true () (Option.some.inj hm).symm ⟨rfl, rfl, trivial⟩ (fun _ h => h.picks [] rfl)
   ·have hm := ifB_f hb hm
    refine lg false rfl rfl rfl ?_
    refine lp rfl (p_fab fl53_2 rfl) ?_
    refine lg false rfl rfl rfl ?_
    refine lp rfl (p_lbs ty3 rfl (j := 0) rfl rfl) ?_
    refine lg false rfl rfl rfl ?_
    refine lp rfl (p_neq rfl rfl) ?_
    refine lg false rfl rfl rfl ?_
    refine lp rfl (p_mv rfl) ?_
    refine lcase (i := 16) (a0.Close != 0) rfl (fun hb => ?_) (fun hb => ?_)
    ·have hm := ifB_t hb hm
     refine lg true rfl rfl rfl ?_
     refine lp rfl (p_fab fl53_2 rfl) ?_
     refine lg true rfl rfl rfl ?_
     refine lp rfl (p_lbs ty3 rfl (j := 0) rfl rfl) ?_
     refine lg true rfl rfl rfl ?_
     obtain ⟨y7, hy7, hm⟩ := bindS hm
     refine r_call [] cf83 rfl rfl (ok_kit_Outside a0.Close 2 9 hy7) rfl rfl .nil (fun _ => rfl) rfl (fun _ => ?_)
     refine lg false rfl rfl rfl ?_
     refine lp rfl (p_pkt rfl rfl) ?_
     refine lp rfl (p_pkf rfl rfl) ?_
     refine lp rfl (p_mv rfl) ?_
     refine lcase (i := 22) y7 rfl (fun hb => ?_) (fun hb => ?_)
     ·have hm := ifB_t hb hm
      refine ls false rfl rfl rfl rfl ?_
      refine ls false rfl rfl rfl rfl ?_
      refine ls false rfl rfl rfl rfl ?_
      refine lp rfl (p_pkt rfl rfl) ?_
      refine lj_nil ?_
      exact cnk4 _ _ true () (Option.some.inj hm).symm ⟨rfl, rfl, trivial⟩ (fun _ h => h.picks [] rfl)
     ·have hm := ifB_f hb hm
      refine lg false rfl rfl rfl ?_
      refine lp rfl (p_fab fl53_3 rfl) ?_
      refine lg false rfl rfl rfl ?_
      refine lp rfl (p_lbs ty3 rfl (j := 0) rfl rfl) ?_
      refine lg false rfl rfl rfl ?_
      obtain ⟨y8, hy8, hm⟩ := bindS hm
      refine r_call [] cf83 rfl rfl (ok_kit_Outside a0.Ending 0 9 hy8) rfl rfl .nil (fun _ => rfl) rfl (fun _ => ?_)
      refine lp rfl (p_pkf rfl rfl) ?_
      refine lj_nil ?_
      exact cnk4 _ _ y8 () (Option.some.inj hm).symm ⟨rfl, rfl, trivial⟩ (fun _ h => h.picks [] rfl)
    ·have hm := ifB_f hb hm
     refine ls true rfl rfl rfl rfl ?_
     refine ls true rfl rfl rfl rfl ?_
     refine ls true rfl rfl rfl rfl ?_
     refine lg false rfl rfl rfl ?_
     refine lp rfl (p_pkf rfl rfl) ?_
     refine lp rfl (p_pkf rfl rfl) ?_
     refine lp rfl (p_mv rfl) ?_
     refine lg false rfl rfl rfl ?_
     refine lp rfl (p_fab fl53_3 rfl) ?_
     refine lg false rfl rfl rfl ?_
     refine lp rfl (p_lbs ty3 rfl (j := 0) rfl rfl) ?_
     refine lg false rfl rfl rfl ?_
     obtain ⟨y9, hy9, hm⟩ := bindS hm
     refine r_call [] cf83 rfl rfl (ok_kit_Outside a0.Ending 0 9 hy9) rfl rfl .nil (fun _ => rfl) rfl (fun _ => ?_)
     refine lp rfl (p_pkf rfl rfl) ?_
     refine lj_nil ?_
     exact cnk4 _ _ y9 () (Option.some.inj hm).symm ⟨rfl, rfl, trivial⟩ (fun _ h => h.picks [] rfl)
theorem ok_piece_rulesFault (s0_ : SV) (a0 : (List TBar)) {r : Int} (hm : m_piece_rulesFault a0 = some r) :
  Ctr Tryz.prog 42 [s0_.v].toArray ([] : List Ent) [RdS R53 (SV.v s0_) a0] (X := Unit) (fun _ => .int .i64 r) (fun _ => []) := by
 unfold m_piece_rulesFault at hm
 refine ctr_mk (vs := [(0, s0_.v)]) Tryz.func42 rfl Tryz.ntmps42 rfl ⟨rfl, trivial⟩ (fun w0 A => ?_)
 refine cj_seq ?_
 refine cj_reg ?_
 refine lp rfl (p_as rfl) ?_
 refine lj_seq ?_
 refine cj_seq ?_
 refine cj_reg ?_
 refine lp rfl (p_as rfl) ?_
 refine lj_seq ?_
 refine cj_seq ?_
 refine cj_seq ?_
 refine cj_reg ?_
 refine lp rfl (p_mv rfl) ?_
 refine lp rfl (p_len Tryz.underlying26 rfl (.ro 0 rfl)) ?_
 refine lp rfl (p_mv rfl) ?_
 refine lj_seq ?_
 obtain ⟨f7, hf7, hm⟩ := bindS hm
 refine cj_range (γ := Unit) (m := (a0.length : Int)) hf7 () (fun u4 g5 => [(0, s0_.v), (2, .int .i64 0), (3, .bool u4), (7, s0_.v)]) (fun u4 g5 => Sat w0 (keys ([] : List Ent)) A [.ro (RdS R53 (SV.v s0_) a0)]) ⟨rfl, rfl, rfl, rfl, rfl, rfl, trivial⟩ (fun _ h => h.picks [0] rfl) (nat_lt _) (fun _ h => (FactAt.get (F := RdS R53 (SV.v s0_) a0) (.ro 0 rfl) h).1) (fun _ _ => ⟨rfl, rfl, rfl, rfl⟩) ⟨rfl, rfl, rfl, rfl, rfl⟩ rfl rfl rfl (fun u4 g5 e => ?_) (fun aftk6 i1 x2 u4 g5 k6 hx3 hs J hJk6 hBk6 hX I cnk6 => ?_)
 ·have hm := Flow.fin_b e hm
  refine nj_seq ?_
  refine cj_seq ?_
  refine cj_reg ?_
  refine lp rfl (p_as rfl) ?_
  refine lj_seq ?_
  obtain rfl := Option.some.inj hm
  exact cj_rt () [] Tryz.results42 (.tmp rfl .nil) rfl rfl
 ·have hRk6 : ∀ t, k6 = .ret t → some t = some r := fun t e => by rw [hX t e] at hm; exact hm
  have hm := hs
  refine cj_seq ?_
  refine cj_reg ?_
  refine lp rfl (p_mv rfl) ?_
  refine lp rfl (p_idx Tryz.underlying26 ty53 rfl rfl (.ro 0 rfl) (getI_nat.trans hx3)) ?_
  refine lp rfl (p_lea ty53 rfl (.ro 0 rfl) hx3) ?_
  refine r_al ty53 rfl (fun b8 => ?_)
  refine lp rfl (p_as rfl) ?_
  refine r_sb (vs := [.int .i64 x2.Beats, .int .i64 x2.Unit, .int .i64 x2.Close, .int .i64 x2.Ending, .bool x2.Open]) (j := 0) ty53 rfl rfl rfl rfl rfl rfl rfl ?_
  refine lj_seq ?_
  refine cj_seq ?_
  refine cj_seq ?_
  refine cj_reg ?_
  refine lp rfl (p_lbw ty53 rfl (j := 0) rfl rfl) ?_
  obtain ⟨y9, hy9, hm⟩ := bindS hm
  refine r_call [] cf74 rfl rfl (ok_piece_barFault x2 hy9) rfl rfl .nil (fun _ => rfl) rfl (fun _ => ?_)
  refine lp rfl (p_as rfl) ?_
  refine lj_seq ?_
  refine cj_seq ?_
  refine cj_reg ?_
  refine lp rfl (p_mv rfl) ?_
  refine lp rfl (p_neq rfl rfl) ?_
  refine lj_seq ?_
  refine cj_if (b := y9 != 0) rfl (fun hb => ?_) (fun hb => ?_)
  ·have hm := ifB_t hb hm
   refine cj_seq ?_
   refine cj_reg ?_
   refine lp rfl (p_mv rfl) ?_
   refine lp rfl (p_as rfl) ?_
   refine lj_seq ?_
   have hm := hRk6 _ (Option.some.inj hm).symm
   obtain rfl := Option.some.inj hm
   exact cj_rt () [] Tryz.results42 (.tmp rfl .nil) rfl rfl
  ·have hm := ifB_f hb hm
   refine cj_skip ?_
   refine nj_seq ?_
   refine cj_seq ?_
   refine cj_blk ?_
   refine cj_seq ?_
   refine cj_reg ?_
   obtain ⟨k12, hk12, hm⟩ := bindS hm
   have hRk12 : ∀ t, k12 = .inr t → some t = some k6 := fun t e => by rw [e] at hm; exact hm
   refine lj_join (σ := Bool) (γ := Unit) (fun u10 => k12 = .inl u10) (fun u10 g11 => [(0, s0_.v), (2, .int .i64 0), (3, .bool u4), (4, .int .i64 (i1 : Int)), (5, .pointer (some ⟨b8, 0, none⟩)), (7, s0_.v), (8, .int .i64 (a0.length : Int)), (9, .int .i64 (i1 : Int)), (19, .bool u10)]) (fun u10 g11 => Sat w0 (keys ([] : List Ent)) A [.box b8 53 [.int .i64 x2.Beats, .int .i64 x2.Unit, .int .i64 x2.Close, .int .i64 x2.Ending, .bool x2.Open], .ro (RdS R53 (SV.v s0_) a0)]) (fun u10 g11 hq => ?_) (fun J cnk12 => ?_)
   ·have hm := Sum.fin_l hq hm
    refine cj_if (b := u10) rfl (fun hb => ?_) (fun hb => ?_)
    ·have hm := ifB_t hb hm
     refine cj_seq ?_
     refine cj_reg ?_
     refine lp rfl (p_as rfl) ?_
     refine lj_seq ?_
     have hm := hRk6 _ (Option.some.inj hm).symm
     obtain rfl := Option.some.inj hm
     exact cj_rt () [] Tryz.results42 (.tmp rfl .nil) rfl rfl
    ·have hm := ifB_f hb hm
     refine cj_seq ?_
     refine cj_reg ?_
     obtain ⟨k15, hk15, hm⟩ := bindS hm
     have hRk15 : ∀ t, k15 = .inr t → some t = some k6 := fun t e => by rw [e] at hm; exact hm
     refine lj_join (σ := Bool) (γ := Unit) (fun u13 => k15 = .inl u13) (fun u13 g14 => [(0, s0_.v), (2, .int .i64 0), (3, .bool u4), (4, .int .i64 (i1 : Int)), (5, .pointer (some ⟨b8, 0, none⟩)), (7, s0_.v), (8, .int .i64 (a0.length : Int)), (9, .int .i64 (i1 : Int)), (25, .bool u13)]) (fun u13 g14 => Sat w0 (keys ([] : List Ent)) A [.box b8 53 [.int .i64 x2.Beats, .int .i64 x2.Unit, .int .i64 x2.Close, .int .i64 x2.Ending, .bool x2.Open], .ro (RdS R53 (SV.v s0_) a0)]) (fun u13 g14 hq => ?_) (fun J cnk15 => ?_)
     ·have hm := Sum.fin_l hq hm
      refine cj_if (b := u13) rfl (fun hb => ?_) (fun hb => ?_)
      ·have hm := ifB_t hb hm
       refine cj_seq ?_
       refine cj_reg ?_
       refine lp rfl (p_as rfl) ?_
       refine lj_seq ?_
       have hm := hRk6 _ (Option.some.inj hm).symm
       obtain rfl := Option.some.inj hm
       exact cj_rt () [] Tryz.results42 (.tmp rfl .nil) rfl rfl
      ·have hm := ifB_f hb hm
       refine cj_seq ?_
       refine cj_quiet (by kernel_rfl) (by kernel_rfl) ?_
       refine q_p rfl (p_mv rfl) ?_
       refine q_p rfl (p_mv rfl) ?_
       refine q_case (i := 45) u4 rfl (fun hb => ?_) (fun hb => ?_)
       ·have hm := ifB_t hb hm
        refine q_g true rfl rfl rfl ?_
        refine q_p rfl (p_fab fl53_3 rfl) ?_
        refine q_g true rfl rfl rfl ?_
        refine q_p rfl (p_lbs ty3 rfl (j := 0) rfl rfl) ?_
        refine q_g true rfl rfl rfl ?_
        refine q_p rfl (p_mv rfl) ?_
        refine q_g true rfl rfl rfl ?_
        refine q_p rfl (p_mv rfl) ?_
        refine q_g true rfl rfl rfl ?_
        refine q_p rfl (p_sub rfl rfl) ?_
        refine q_g true rfl rfl rfl ?_
        obtain ⟨e16, he16, hm⟩ := bindS hm
        refine q_p rfl (p_idx Tryz.underlying26 ty53 rfl rfl (.ro 1 rfl) he16) ?_
        refine q_g true rfl rfl rfl ?_
        refine q_p rfl (p_fae fl53_3 rfl (.ro 1 rfl) (getI_spec he16).2) ?_
        refine q_g true rfl rfl rfl ?_
        refine q_p rfl (p_lde (o := 3) ty3 rfl rfl (.ro 1 rfl) (getI_spec he16).2 rfl) ?_
        refine q_g true rfl rfl rfl ?_
        refine q_p rfl (p_lss rfl rfl) ?_
        refine q_p rfl (p_pkt rfl rfl) ?_
        refine q_p rfl (p_as rfl) ?_
        refine q_nil ?_
        refine nj_seq ?_
        refine cj_if (b := decide (x2.Ending < e16.Ending)) rfl (fun hb => ?_) (fun hb => ?_)
        ·have hm := ifB_t hb hm
         refine cj_seq ?_
         refine cj_reg ?_
         refine lp rfl (p_as rfl) ?_
         refine lj_seq ?_
         have hm := hRk6 _ (Option.some.inj hm).symm
         obtain rfl := Option.some.inj hm
         exact cj_rt () [] Tryz.results42 (.tmp rfl .nil) rfl rfl
        ·have hm := ifB_f hb hm
         refine cj_skip ?_
         refine nj_blk ?_
         refine nj_seq ?_
         refine cj_reg ?_
         refine lp rfl (p_mv rfl) ?_
         refine lp rfl (p_mv rfl) ?_
         refine lcase (i := 57) u4 rfl (fun hb => ?_) (fun hb => ?_)
         ·have hm := ifB_t hb hm
          refine ls false rfl rfl rfl rfl ?_
          refine ls false rfl rfl rfl rfl ?_
          refine lp rfl (p_pkt rfl rfl) ?_
          refine lp rfl (p_mv rfl) ?_
          refine lg true rfl rfl rfl ?_
          refine lp rfl (p_fab fl53_2 rfl) ?_
          refine lg true rfl rfl rfl ?_
          refine lp rfl (p_lbs ty3 rfl (j := 0) rfl rfl) ?_
          refine lg true rfl rfl rfl ?_
          refine lp rfl (p_eql rfl rfl) ?_
          refine lp rfl (p_pkt rfl rfl) ?_
          refine lp rfl (p_as rfl) ?_
          refine lj_nil ?_
          refine nj_blk ?_
          exact cnk6 _ _ (x2.Close == 0) () (hJk6 _ (Option.some.inj hm).symm) ⟨rfl, rfl, rfl, rfl, rfl, rfl, trivial⟩ (fun _ h => h.picks [1] rfl)
         ·have hm := ifB_f hb hm
          refine lg false rfl rfl rfl ?_
          refine lp rfl (p_fab fl53_4 rfl) ?_
          refine lg false rfl rfl rfl ?_
          refine lp rfl (p_lbs ty4 rfl (j := 0) rfl rfl) ?_
          refine lp rfl (p_pkf rfl rfl) ?_
          refine lp rfl (p_mv rfl) ?_
          refine lcase (i := 61) x2.Open rfl (fun hb => ?_) (fun hb => ?_)
          ·have hm := ifB_t hb hm
           refine lg true rfl rfl rfl ?_
           refine lp rfl (p_fab fl53_2 rfl) ?_
           refine lg true rfl rfl rfl ?_
           refine lp rfl (p_lbs ty3 rfl (j := 0) rfl rfl) ?_
           refine lg true rfl rfl rfl ?_
           refine lp rfl (p_eql rfl rfl) ?_
           refine lp rfl (p_pkt rfl rfl) ?_
           refine lp rfl (p_as rfl) ?_
           refine lj_nil ?_
           refine nj_blk ?_
           exact cnk6 _ _ (x2.Close == 0) () (hJk6 _ (Option.some.inj hm).symm) ⟨rfl, rfl, rfl, rfl, rfl, rfl, trivial⟩ (fun _ h => h.picks [1] rfl)
          ·have hm := ifB_f hb hm
           refine ls true rfl rfl rfl rfl ?_
           refine ls true rfl rfl rfl rfl ?_
           refine ls true rfl rfl rfl rfl ?_
           refine lp rfl (p_pkf rfl rfl) ?_
           refine lp rfl (p_as rfl) ?_
           refine lj_nil ?_
           refine nj_blk ?_
           exact cnk6 _ _ false () (hJk6 _ (Option.some.inj hm).symm) ⟨rfl, rfl, rfl, rfl, rfl, rfl, trivial⟩ (fun _ h => h.picks [1] rfl)
       ·have hm := ifB_f hb hm
        refine q_s true rfl rfl rfl rfl ?_
        refine q_s true rfl rfl rfl rfl ?_
        refine q_s true rfl rfl rfl rfl ?_
        refine q_s true rfl rfl rfl rfl ?_
        refine q_s true rfl rfl rfl rfl ?_
        refine q_s true rfl rfl rfl rfl ?_
        refine q_s true rfl rfl rfl rfl ?_
        refine q_s true rfl rfl rfl rfl ?_
        refine q_s true rfl rfl rfl rfl ?_
        refine q_p rfl (p_pkf rfl rfl) ?_
        refine q_p rfl (p_as rfl) ?_
        refine q_nil ?_
        refine nj_seq ?_
        refine cj_if_f rfl ?_
        refine cj_skip ?_
        refine nj_blk ?_
        refine nj_seq ?_
        refine cj_reg ?_
        refine lp rfl (p_mv rfl) ?_
        refine lp rfl (p_mv rfl) ?_
        refine lcase (i := 57) u4 rfl (fun hb => ?_) (fun hb => ?_)
        ·have hm := ifB_t hb hm
         refine ls false rfl rfl rfl rfl ?_
         refine ls false rfl rfl rfl rfl ?_
         refine lp rfl (p_pkt rfl rfl) ?_
         refine lp rfl (p_mv rfl) ?_
         refine lg true rfl rfl rfl ?_
         refine lp rfl (p_fab fl53_2 rfl) ?_
         refine lg true rfl rfl rfl ?_
         refine lp rfl (p_lbs ty3 rfl (j := 0) rfl rfl) ?_
         refine lg true rfl rfl rfl ?_
         refine lp rfl (p_eql rfl rfl) ?_
         refine lp rfl (p_pkt rfl rfl) ?_
         refine lp rfl (p_as rfl) ?_
         refine lj_nil ?_
         refine nj_blk ?_
         exact cnk6 _ _ (x2.Close == 0) () (hJk6 _ (Option.some.inj hm).symm) ⟨rfl, rfl, rfl, rfl, rfl, rfl, trivial⟩ (fun _ h => h.picks [1] rfl)
        ·have hm := ifB_f hb hm
         refine lg false rfl rfl rfl ?_
         refine lp rfl (p_fab fl53_4 rfl) ?_
         refine lg false rfl rfl rfl ?_
         refine lp rfl (p_lbs ty4 rfl (j := 0) rfl rfl) ?_
         refine lp rfl (p_pkf rfl rfl) ?_
         refine lp rfl (p_mv rfl) ?_
         refine lcase (i := 61) x2.Open rfl (fun hb => ?_) (fun hb => ?_)
         ·have hm := ifB_t hb hm
          refine lg true rfl rfl rfl ?_
          refine lp rfl (p_fab fl53_2 rfl) ?_
          refine lg true rfl rfl rfl ?_
          refine lp rfl (p_lbs ty3 rfl (j := 0) rfl rfl) ?_
          refine lg true rfl rfl rfl ?_
          refine lp rfl (p_eql rfl rfl) ?_
          refine lp rfl (p_pkt rfl rfl) ?_
          refine lp rfl (p_as rfl) ?_
          refine lj_nil ?_
          refine nj_blk ?_
          exact cnk6 _ _ (x2.Close == 0) () (hJk6 _ (Option.some.inj hm).symm) ⟨rfl, rfl, rfl, rfl, rfl, rfl, trivial⟩ (fun _ h => h.picks [1] rfl)
         ·have hm := ifB_f hb hm
          refine ls true rfl rfl rfl rfl ?_
          refine ls true rfl rfl rfl rfl ?_
          refine ls true rfl rfl rfl rfl ?_
          refine lp rfl (p_pkf rfl rfl) ?_
          refine lp rfl (p_as rfl) ?_
          refine lj_nil ?_
          refine nj_blk ?_
          exact cnk6 _ _ false () (hJk6 _ (Option.some.inj hm).symm) ⟨rfl, rfl, rfl, rfl, rfl, rfl, trivial⟩ (fun _ h => h.picks [1] rfl)
     ·have hm := hk15
      refine lp rfl (p_fab fl53_4 rfl) ?_
      refine lp rfl (p_lbs ty4 rfl (j := 0) rfl rfl) ?_
      refine lp rfl (p_not rfl) ?_
      refine lp rfl (p_mv rfl) ?_
      refine lcase (i := 29) (!x2.Open) rfl (fun hb => ?_) (fun hb => ?_)
      ·have hm := ifB_t hb hm
       refine lg true rfl rfl rfl ?_
       refine lp rfl (p_mv rfl) ?_
       refine lg true rfl rfl rfl ?_
       refine lp rfl (p_not rfl) ?_
       refine lp rfl (p_pkt rfl rfl) ?_
       refine lp rfl (p_mv rfl) ?_
       refine lcase (i := 33) (!u4) rfl (fun hb => ?_) (fun hb => ?_)
       ·have hm := ifB_t hb hm
        refine lg true rfl rfl rfl ?_
        refine lp rfl (p_fab fl53_2 rfl) ?_
        refine lg true rfl rfl rfl ?_
        refine lp rfl (p_lbs ty3 rfl (j := 0) rfl rfl) ?_
        refine lg true rfl rfl rfl ?_
        refine lp rfl (p_neq rfl rfl) ?_
        refine lg true rfl rfl rfl ?_
        refine lp rfl (p_mv rfl) ?_
        refine lcase (i := 37) (x2.Close != 0) rfl (fun hb => ?_) (fun hb => ?_)
        ·have hm := ifB_t hb hm
         refine ls false rfl rfl rfl rfl ?_
         refine ls false rfl rfl rfl rfl ?_
         refine ls false rfl rfl rfl rfl ?_
         refine lg true rfl rfl rfl ?_
         refine lp rfl (p_pkt rfl rfl) ?_
         refine lp rfl (p_pkt rfl rfl) ?_
         refine lp rfl (p_as rfl) ?_
         refine lj_nil ?_
         exact cnk15 _ _ true () (Option.some.inj hm).symm ⟨rfl, rfl, rfl, rfl, rfl, rfl, rfl, rfl, rfl, trivial⟩ (fun _ h => h.picks [0, 0] rfl)
        ·have hm := ifB_f hb hm
         refine lg false rfl rfl rfl ?_
         refine lp rfl (p_fab fl53_3 rfl) ?_
         refine lg false rfl rfl rfl ?_
         refine lp rfl (p_lbs ty3 rfl (j := 0) rfl rfl) ?_
         refine lg false rfl rfl rfl ?_
         refine lp rfl (p_neq rfl rfl) ?_
         refine lg true rfl rfl rfl ?_
         refine lp rfl (p_pkf rfl rfl) ?_
         refine lp rfl (p_pkt rfl rfl) ?_
         refine lp rfl (p_as rfl) ?_
         refine lj_nil ?_
         exact cnk15 _ _ (x2.Ending != 0) () (Option.some.inj hm).symm ⟨rfl, rfl, rfl, rfl, rfl, rfl, rfl, rfl, rfl, trivial⟩ (fun _ h => h.picks [0, 0] rfl)
       ·have hm := ifB_f hb hm
        refine ls true rfl rfl rfl rfl ?_
        refine ls true rfl rfl rfl rfl ?_
        refine ls true rfl rfl rfl rfl ?_
        refine ls true rfl rfl rfl rfl ?_
        refine lsu rfl rfl rfl rfl ?_
        refine lsu rfl rfl rfl rfl ?_
        refine lsu rfl rfl rfl rfl ?_
        refine ls true rfl rfl rfl rfl ?_
        refine lp rfl (p_pkf rfl rfl) ?_
        refine lp rfl (p_as rfl) ?_
        refine lj_nil ?_
        exact cnk15 _ _ false () (Option.some.inj hm).symm ⟨rfl, rfl, rfl, rfl, rfl, rfl, rfl, rfl, rfl, trivial⟩ (fun _ h => h.picks [0, 0] rfl)
      ·have hm := ifB_f hb hm
       refine ls true rfl rfl rfl rfl ?_
       refine ls true rfl rfl rfl rfl ?_
       refine lp rfl (p_pkf rfl rfl) ?_
       refine lp rfl (p_mv rfl) ?_
       refine ls true rfl rfl rfl rfl ?_
       refine ls true rfl rfl rfl rfl ?_
       refine ls true rfl rfl rfl rfl ?_
       refine ls true rfl rfl rfl rfl ?_
       refine lsu rfl rfl rfl rfl ?_
       refine lsu rfl rfl rfl rfl ?_
       refine lsu rfl rfl rfl rfl ?_
       refine ls true rfl rfl rfl rfl ?_
       refine lp rfl (p_pkf rfl rfl) ?_
       refine lp rfl (p_as rfl) ?_
       refine lj_nil ?_
       exact cnk15 _ _ false () (Option.some.inj hm).symm ⟨rfl, rfl, rfl, rfl, rfl, rfl, rfl, rfl, rfl, trivial⟩ (fun _ h => h.picks [0, 0] rfl)
   ·have hm := hk12
    refine lp rfl (p_fab fl53_4 rfl) ?_
    refine lp rfl (p_lbs ty4 rfl (j := 0) rfl rfl) ?_
    refine lp rfl (p_mv rfl) ?_
    refine lcase (i := 22) x2.Open rfl (fun hb => ?_) (fun hb => ?_)
    ·have hm := ifB_t hb hm
     refine lg true rfl rfl rfl ?_
     refine lp rfl (p_mv rfl) ?_
     refine lp rfl (p_pkt rfl rfl) ?_
     refine lp rfl (p_as rfl) ?_
     refine lj_nil ?_
     exact cnk12 _ _ u4 () (Option.some.inj hm).symm ⟨rfl, rfl, rfl, rfl, rfl, rfl, rfl, rfl, rfl, trivial⟩ (fun _ h => h.picks [0, 0] rfl)
    ·have hm := ifB_f hb hm
     refine ls true rfl rfl rfl rfl ?_
     refine lp rfl (p_pkf rfl rfl) ?_
     refine lp rfl (p_as rfl) ?_
     refine lj_nil ?_
     exact cnk12 _ _ false () (Option.some.inj hm).symm ⟨rfl, rfl, rfl, rfl, rfl, rfl, rfl, rfl, rfl, trivial⟩ (fun _ h => h.picks [0, 0] rfl)
theorem ok_piece_repeats (s0_ : SV) (a0 : (List TBar)) {r : (List Tpiece_repeat) × Bool} (hm : m_piece_repeats a0 = some r) :
  Ctr Tryz.prog 43 [s0_.v].toArray ([] : List Ent) [RdS R53 (SV.v s0_) a0] (X := SV) (fun s => .tuple [s.v, .bool r.2].toArray) (fun s => [.row R143 (SV.v s) r.1]) := by
 unfold m_piece_repeats at hm
 refine ctr_mk (vs := [(0, s0_.v)]) Tryz.func43 rfl Tryz.ntmps43 rfl ⟨rfl, trivial⟩ (fun w0 A => ?_)
 refine cj_seq ?_
 refine cj_reg ?_
 refine lp rfl (p_as rfl) ?_
 refine lp rfl (p_as rfl) ?_
 refine lj_seq ?_
 refine cj_seq ?_
 refine cj_reg ?_
 refine lp rfl (p_as rfl) ?_
 refine lj_seq ?_
 refine cj_seq ?_
 refine cj_reg ?_
 refine lp rfl (p_as rfl) ?_
 refine lj_seq ?_
 refine cj_seq ?_
 refine cj_seq ?_
 refine cj_reg ?_
 refine lp rfl (p_mv rfl) ?_
 refine lp rfl (p_len Tryz.underlying26 rfl (.ro 0 rfl)) ?_
 refine lp rfl (p_mv rfl) ?_
 refine lj_seq ?_
 refine cj_nil R143 ?_
 obtain ⟨f8, hf8, hm⟩ := bindS hm
 refine cj_range (γ := SV) (m := (a0.length : Int)) hf8 nilS (fun u5 g6 => [(0, s0_.v), (2, .slice none 0 0), (3, .bool false), (4, g6.v), (5, .int .i64 u5.1), (12, s0_.v)]) (fun u5 g6 => Sat w0 (keys ([] : List Ent)) A [.ro (RdS R53 (SV.v s0_) a0), .row R143 (SV.v g6) u5.2]) ⟨rfl, rfl, rfl, rfl, rfl, rfl, rfl, rfl, trivial⟩ (fun _ h => h.picks [1, 0] rfl) (nat_lt _) (fun _ h => (FactAt.get (F := RdS R53 (SV.v s0_) a0) (.ro 1 rfl) h).1) (fun _ _ => ⟨rfl, rfl, rfl, rfl⟩) ⟨rfl, rfl, rfl, rfl, rfl⟩ rfl rfl rfl (fun u5 g6 e => ?_) (fun aftk7 i1 x2 u5 g6 k7 hx3 hs J hJk7 hBk7 hX I cnk7 => ?_)
 ·have hm := Flow.fin_b e hm
  refine nj_seq ?_
  refine cj_seq ?_
  refine cj_seq ?_
  refine cj_reg ?_
  refine lp rfl (p_mv rfl) ?_
  refine lp rfl (p_len Tryz.underlying105 rfl (.row 1 rfl)) ?_
  refine lp rfl (p_mv rfl) ?_
  refine lj_seq ?_
  obtain ⟨f27, hf27, hm⟩ := bindS hm
  refine cj_range (γ := Unit) (m := (u5.2.length : Int)) hf27 () (fun u24 g25 => [(0, s0_.v), (2, .slice none 0 0), (3, .bool false), (4, g6.v), (5, .int .i64 u5.1), (44, g6.v)]) (fun u24 g25 => Sat w0 (keys ([] : List Ent)) A [.ro (RdS R53 (SV.v s0_) a0), .row R143 (SV.v g6) u5.2]) ⟨rfl, rfl, rfl, rfl, rfl, rfl, rfl, rfl, trivial⟩ (fun _ h => h.picks [0, 0] rfl) (nat_lt _) (fun _ h => (FactAt.get (F := RdS R143 (SV.v g6) u5.2) (.row 1 rfl) h).1) (fun _ _ => ⟨rfl, rfl, rfl, rfl⟩) ⟨rfl, rfl, rfl, rfl, rfl⟩ rfl rfl rfl (fun u24 g25 e => ?_) (fun aftk26 i21 x22 u24 g25 k26 hx23 hs J hJk26 hBk26 hX I cnk26 => ?_)
  ·have hm := Flow.fin_b e hm
   refine nj_seq ?_
   refine cj_seq ?_
   refine cj_reg ?_
   refine lp rfl (p_mv rfl) ?_
   refine lp rfl (p_mv rfl) ?_
   refine lp rfl (p_lss rfl rfl) ?_
   refine lp rfl (p_as rfl) ?_
   refine lp rfl (p_as rfl) ?_
   refine lj_seq ?_
   obtain rfl := Option.some.inj hm
   exact cj_rt g6 [1] Tryz.results43 (.tmp rfl (.tmp rfl .nil)) rfl rfl
  ·have hRk26 : ∀ t, k26 = .ret t → some t = some r := fun t e => by rw [hX t e] at hm; exact hm
   have hm := hs
   refine cj_seq ?_
   refine cj_reg ?_
   refine lp rfl (p_idx Tryz.underlying105 ty143 rfl rfl (.row 1 rfl) (getI_nat.trans hx23)) ?_
   refine lp rfl (p_lea ty143 rfl (.row 1 rfl) hx23) ?_
   refine r_al ty143 rfl (fun b28 => ?_)
   refine r_sb (vs := [.int .i64 x22.from_, .int .i64 x22.to_, .int .i64 x22.times]) (j := 0) ty143 rfl rfl rfl rfl rfl rfl rfl ?_
   refine lj_seq ?_
   refine cj_seq ?_
   refine cj_reg ?_
   refine lp rfl (p_mv rfl) ?_
   refine lp rfl (p_fab fl143_0 rfl) ?_
   refine lp rfl (p_lbs ty3 rfl (j := 0) rfl rfl) ?_
   refine lp rfl (p_fab fl143_1 rfl) ?_
   refine lp rfl (p_lbs ty3 rfl (j := 0) rfl rfl) ?_
   obtain ⟨q29, hq29, hm⟩ := bindS hm
   refine lp rfl (p_cut Tryz.underlying26 ty53 rfl rfl rfl rfl rfl (.ro 1 rfl) rfl rfl hq29) ?_
   refine lp rfl (p_len Tryz.underlying26 rfl (.imp (.ro 1 rfl) (fun _ h => h.cut hq29))) ?_
   refine lp rfl (p_mv rfl) ?_
   refine lj_seq ?_
   obtain ⟨f36, hf36, hm⟩ := bindS hm
   refine cj_range (γ := Unit) (m := (q29.length : Int)) hf36 () (fun u33 g34 => [(0, s0_.v), (2, .slice none 0 0), (3, .bool false), (4, g6.v), (5, .int .i64 u5.1), (9, .pointer (some ⟨b28, 0, none⟩)), (44, g6.v), (45, .int .i64 (u5.2.length : Int)), (46, .int .i64 (i21 : Int)), (55, (s0_.sub R53.sz x22.from_.toNat x22.to_.toNat).v)]) (fun u33 g34 => Sat w0 (keys ([] : List Ent)) A [.box b28 143 [.int .i64 x22.from_, .int .i64 x22.to_, .int .i64 x22.times], .ro (RdS R53 (SV.v s0_) a0), .row R143 (SV.v g6) u5.2]) ⟨rfl, rfl, rfl, rfl, rfl, rfl, rfl, rfl, rfl, rfl, rfl, rfl, trivial⟩ (fun _ h => h.picks [0, 0, 0] rfl) (nat_lt _) (fun _ h => (FactAt.get (F := RdS R53 (SV.v (s0_.sub R53.sz x22.from_.toNat x22.to_.toNat)) q29) (.imp (.ro 1 rfl) (fun _ h => h.cut hq29)) h).1) (fun _ _ => ⟨rfl, rfl, rfl, rfl⟩) ⟨rfl, rfl, rfl, rfl, rfl⟩ rfl rfl rfl (fun u33 g34 e => ?_) (fun aftk35 i30 x31 u33 g34 k35 hx32 hs J hJk35 hBk35 hX I cnk35 => ?_)
   ·have hm := Flow.fin_b e hm
    refine nj_blk ?_
    exact cnk26 _ _ () () (hJk26 _ (Option.some.inj hm).symm) ⟨rfl, rfl, rfl, rfl, rfl, rfl, rfl, rfl, trivial⟩ (fun _ h => h.picks [1, 1] rfl)
   ·have hRk35 : ∀ t, k35 = .ret t → some t = some k26 := fun t e => by rw [hX t e] at hm; exact hm
    have hm := hs
    refine cj_seq ?_
    refine cj_reg ?_
    refine lp rfl (p_idx Tryz.underlying26 ty53 rfl rfl (.imp (.ro 1 rfl) (fun _ h => h.cut hq29)) (getI_nat.trans hx32)) ?_
    refine lp rfl (p_lea ty53 rfl (.imp (.ro 1 rfl) (fun _ h => h.cut hq29)) hx32) ?_
    refine r_al ty53 rfl (fun b37 => ?_)
    refine r_sb (vs := [.int .i64 x31.Beats, .int .i64 x31.Unit, .int .i64 x31.Close, .int .i64 x31.Ending, .bool x31.Open]) (j := 0) ty53 rfl rfl rfl rfl rfl rfl rfl ?_
    refine lj_seq ?_
    refine cj_seq ?_
    refine cj_reg ?_
    obtain ⟨k40, hk40, hm⟩ := bindS hm
    have hRk40 : ∀ t, k40 = .inr t → some t = some k35 := fun t e => by rw [e] at hm; exact hm
    refine lj_join (σ := Bool) (γ := Unit) (fun u38 => k40 = .inl u38) (fun u38 g39 => [(0, s0_.v), (2, .slice none 0 0), (3, .bool false), (4, g6.v), (5, .int .i64 u5.1), (9, .pointer (some ⟨b28, 0, none⟩)), (44, g6.v), (45, .int .i64 (u5.2.length : Int)), (46, .int .i64 (i21 : Int)), (55, (s0_.sub R53.sz x22.from_.toNat x22.to_.toNat).v), (56, .int .i64 (q29.length : Int)), (57, .int .i64 (i30 : Int)), (70, .bool u38)]) (fun u38 g39 => Sat w0 (keys ([] : List Ent)) A [.box b28 143 [.int .i64 x22.from_, .int .i64 x22.to_, .int .i64 x22.times], .ro (RdS R53 (SV.v s0_) a0), .row R143 (SV.v g6) u5.2]) (fun u38 g39 hq => ?_) (fun J cnk40 => ?_)
    ·have hm := Sum.fin_l hq hm
     refine cj_if (b := u38) rfl (fun hb => ?_) (fun hb => ?_)
     ·have hm := ifB_t hb hm
      refine cj_seq ?_
      refine cj_reg ?_
      refine lp rfl (p_as rfl) ?_
      refine lp rfl (p_as rfl) ?_
      refine lj_seq ?_
      have hm := hRk35 _ (Option.some.inj hm).symm
      have hm := hRk26 _ (Option.some.inj hm).symm
      obtain rfl := Option.some.inj hm
      refine cj_nil R143 ?_
      exact cj_rt nilS [0] Tryz.results43 (.tmp rfl (.tmp rfl .nil)) rfl rfl
     ·have hm := ifB_f hb hm
      refine cj_skip ?_
      refine nj_blk ?_
      exact cnk35 _ _ () () (hJk35 _ (Option.some.inj hm).symm) ⟨rfl, rfl, rfl, rfl, rfl, rfl, rfl, rfl, rfl, rfl, rfl, rfl, trivial⟩ (fun _ h => h.picks [0, 0, 0] rfl)
    ·have hm := hk40
     refine lp rfl (p_fab fl143_2 rfl) ?_
     refine lp rfl (p_lbs ty3 rfl (j := 1) rfl rfl) ?_
     refine lp rfl (p_gtr rfl rfl) ?_
     refine lp rfl (p_mv rfl) ?_
     refine lcase (i := 64) (decide (x22.times > 1)) rfl (fun hb => ?_) (fun hb => ?_)
     ·have hm := ifB_t hb hm
      refine lg true rfl rfl rfl ?_
      refine lp rfl (p_fab fl53_3 rfl) ?_
      refine lg true rfl rfl rfl ?_
      refine lp rfl (p_lbs ty3 rfl (j := 0) rfl rfl) ?_
      refine lg true rfl rfl rfl ?_
      refine lp rfl (p_fab fl143_2 rfl) ?_
      refine lg true rfl rfl rfl ?_
      refine lp rfl (p_lbs ty3 rfl (j := 1) rfl rfl) ?_
      refine lg true rfl rfl rfl ?_
      refine lp rfl (p_gtr rfl rfl) ?_
      refine lp rfl (p_pkt rfl rfl) ?_
      refine lj_nil ?_
      exact cnk40 _ _ (decide (x31.Ending > x22.times)) () (Option.some.inj hm).symm ⟨rfl, rfl, rfl, rfl, rfl, rfl, rfl, rfl, rfl, rfl, rfl, rfl, rfl, trivial⟩ (fun _ h => h.picks [1, 1, 1] rfl)
     ·have hm := ifB_f hb hm
      refine ls true rfl rfl rfl rfl ?_
      refine ls true rfl rfl rfl rfl ?_
      refine ls true rfl rfl rfl rfl ?_
      refine ls true rfl rfl rfl rfl ?_
      refine ls true rfl rfl rfl rfl ?_
      refine lp rfl (p_pkf rfl rfl) ?_
      refine lj_nil ?_
      exact cnk40 _ _ false () (Option.some.inj hm).symm ⟨rfl, rfl, rfl, rfl, rfl, rfl, rfl, rfl, rfl, rfl, rfl, rfl, rfl, trivial⟩ (fun _ h => h.picks [1, 1, 1] rfl)
 ·have hRk7 : ∀ t, k7 = .ret t → some t = some r := fun t e => by rw [hX t e] at hm; exact hm
  have hm := hs
  refine cj_seq ?_
  refine cj_reg ?_
  refine lp rfl (p_mv rfl) ?_
  refine lp rfl (p_idx Tryz.underlying26 ty53 rfl rfl (.ro 0 rfl) (getI_nat.trans hx3)) ?_
  refine lp rfl (p_lea ty53 rfl (.ro 0 rfl) hx3) ?_
  refine r_al ty53 rfl (fun b10 => ?_)
  refine lp rfl (p_as rfl) ?_
  refine r_sb (vs := [.int .i64 x2.Beats, .int .i64 x2.Unit, .int .i64 x2.Close, .int .i64 x2.Ending, .bool x2.Open]) (j := 0) ty53 rfl rfl rfl rfl rfl rfl rfl ?_
  refine lj_seq ?_
  refine cj_seq ?_
  refine cj_seq ?_
  refine cj_reg ?_
  refine lp rfl (p_fab fl53_4 rfl) ?_
  refine lp rfl (p_lbs ty4 rfl (j := 0) rfl rfl) ?_
  refine lj_seq ?_
  obtain ⟨k13, hk13, hm⟩ := bindS hm
  have hRk13 : ∀ t, k13 = .inr t → some t = some k7 := fun t e => by rw [e] at hm; exact hm
  refine cj_joinK (σ := Int) (γ := Unit) (fun u11 => k13 = .inl u11) (fun u11 g12 => [(0, s0_.v), (2, .slice none 0 0), (3, .bool false), (4, g6.v), (5, .int .i64 u11), (6, .int .i64 (i1 : Int)), (7, .pointer (some ⟨b10, 0, none⟩)), (12, s0_.v), (13, .int .i64 (a0.length : Int)), (14, .int .i64 (i1 : Int))]) (fun u11 g12 => Sat w0 (keys ([] : List Ent)) A [.box b10 53 [.int .i64 x2.Beats, .int .i64 x2.Unit, .int .i64 x2.Close, .int .i64 x2.Ending, .bool x2.Open], .ro (RdS R53 (SV.v s0_) a0), .row R143 (SV.v g6) u5.2]) (fun u11 g12 hq => ?_) (fun J cnk13 => ?_)
  ·have hm := Sum.fin_l hq hm
   refine cj_seq ?_
   refine cj_reg ?_
   refine lp rfl (p_mv rfl) ?_
   refine lp rfl (p_lss rfl rfl) ?_
   refine lj_seq ?_
   refine cj_if (b := decide (u11 < 0)) rfl (fun hb => ?_) (fun hb => ?_)
   ·have hm := ifB_t hb hm
    refine cj_reg ?_
    refine lp rfl (p_mv rfl) ?_
    refine lp rfl (p_mv rfl) ?_
    refine lp rfl (p_mv rfl) ?_
    refine lp rfl (p_add rfl rfl) ?_
    refine lp rfl (p_bld [.int .i64 (i1 : Int), .int .i64 (w64 ((i1 : Int) + 1)), .int .i64 1] rfl (fun _ => by kernel_rfl)) ?_
    refine r_bs R143 [(Tpiece_repeat.mk (i1 : Int) (w64 ((i1 : Int) + 1)) 1)] rfl rfl rfl (fun _ => by kernel_rfl) rfl (fun s14 => ?_)
    obtain ⟨q15, hq15, hm⟩ := bindS hm
    refine r_app (k := 3) Tryz.underlying105 ty143 rfl rfl rfl rfl (.row 0 rfl) hq15 rfl (fun s16 => ?_)
    refine lp rfl (p_as rfl) ?_
    refine lj_nil ?_
    refine nj_blk ?_
    exact cnk7 _ _ (u11, q15) s16 (hJk7 _ (Option.some.inj hm).symm) ⟨rfl, rfl, rfl, rfl, rfl, rfl, rfl, rfl, trivial⟩ (fun _ h => h.picks [2, 2] rfl)
   ·have hm := ifB_f hb hm
    refine cj_seq ?_
    refine cj_reg ?_
    refine lp rfl (p_fab fl53_2 rfl) ?_
    refine lp rfl (p_lbs ty3 rfl (j := 0) rfl rfl) ?_
    refine lp rfl (p_gtr rfl rfl) ?_
    refine lj_seq ?_
    refine cj_if (b := decide (x2.Close > 0)) rfl (fun hb => ?_) (fun hb => ?_)
    ·have hm := ifB_t hb hm
     refine cj_seq ?_
     refine cj_reg ?_
     refine lp rfl (p_mv rfl) ?_
     refine lp rfl (p_mv rfl) ?_
     refine lp rfl (p_mv rfl) ?_
     refine lp rfl (p_add rfl rfl) ?_
     refine lp rfl (p_fab fl53_2 rfl) ?_
     refine lp rfl (p_lbs ty3 rfl (j := 0) rfl rfl) ?_
     refine lp rfl (p_bld [.int .i64 u11, .int .i64 (w64 ((i1 : Int) + 1)), .int .i64 x2.Close] rfl (fun _ => by kernel_rfl)) ?_
     refine r_bs R143 [(Tpiece_repeat.mk u11 (w64 ((i1 : Int) + 1)) x2.Close)] rfl rfl rfl (fun _ => by kernel_rfl) rfl (fun s17 => ?_)
     obtain ⟨q18, hq18, hm⟩ := bindS hm
     refine r_app (k := 3) Tryz.underlying105 ty143 rfl rfl rfl rfl (.row 0 rfl) hq18 rfl (fun s19 => ?_)
     refine lp rfl (p_as rfl) ?_
     refine lj_seq ?_
     refine cj_reg ?_
     refine lp rfl (p_as rfl) ?_
     refine lj_nil ?_
     refine nj_blk ?_
     exact cnk7 _ _ ((-1), q18) s19 (hJk7 _ (Option.some.inj hm).symm) ⟨rfl, rfl, rfl, rfl, rfl, rfl, rfl, rfl, trivial⟩ (fun _ h => h.picks [2, 2] rfl)
    ·have hm := ifB_f hb hm
     refine cj_skip ?_
     refine nj_blk ?_
     exact cnk7 _ _ (u11, u5.2) g6 (hJk7 _ (Option.some.inj hm).symm) ⟨rfl, rfl, rfl, rfl, rfl, rfl, rfl, rfl, trivial⟩ (fun _ h => h.picks [1, 1] rfl)
  ·have hm := hk13
   refine cj_if (b := x2.Open) rfl (fun hb => ?_) (fun hb => ?_)
   ·have hm := ifB_t hb hm
    refine cj_reg ?_
    refine lp rfl (p_mv rfl) ?_
    refine lp rfl (p_as rfl) ?_
    refine lj_nil ?_
    exact cnk13 _ _ (i1 : Int) () (Option.some.inj hm).symm ⟨rfl, rfl, rfl, rfl, rfl, rfl, rfl, rfl, rfl, rfl, trivial⟩ (fun _ h => h.picks [0, 0, 0] rfl)
   ·have hm := ifB_f hb hm
    refine cj_skip ?_
    exact cnk13 _ _ u5.1 () (Option.some.inj hm).symm ⟨rfl, rfl, rfl, rfl, rfl, rfl, rfl, rfl, rfl, rfl, trivial⟩ (fun _ h => h.picks [0, 0, 0] rfl)
theorem ok_piece_order (s0_ : SV) (a0 : (List TBar)) (s1_ : SV) (a1 : (List Tpiece_repeat)) (a2 : Int) {r : (List Int)} (hm : m_piece_order a0 a1 a2 = some r) :
  Ctr Tryz.prog 44 [s0_.v, s1_.v, .int .i64 a2].toArray ([] : List Ent) [RdS R53 (SV.v s0_) a0, RdS R143 (SV.v s1_) a1] (X := SV) (fun s => s.v) (fun s => [.row R3 (SV.v s) r]) := by
 unfold m_piece_order at hm
 refine ctr_mk (vs := [(0, s0_.v), (1, s1_.v), (2, .int .i64 a2)]) Tryz.func44 rfl Tryz.ntmps44 rfl ⟨rfl, rfl, rfl, trivial⟩ (fun w0 A => ?_)
 refine cj_seq ?_
 refine cj_reg ?_
 refine lp rfl (p_as rfl) ?_
 refine lj_seq ?_
 refine cj_seq ?_
 refine cj_reg ?_
 refine lp rfl (p_as rfl) ?_
 refine lj_seq ?_
 refine cj_seq ?_
 refine cj_seq ?_
 refine cj_reg ?_
 refine lp rfl (p_mv rfl) ?_
 refine lp rfl (p_len Tryz.underlying105 rfl (.ro 1 rfl)) ?_
 refine lp rfl (p_mv rfl) ?_
 refine lj_seq ?_
 refine cj_nil R3 ?_
 obtain ⟨f8, hf8, hm⟩ := bindS hm
 refine cj_range (γ := SV) (m := (a1.length : Int)) hf8 nilS (fun u5 g6 => [(0, s0_.v), (2, .int .i64 a2), (6, .slice none 0 0), (7, g6.v), (12, s1_.v)]) (fun u5 g6 => Sat w0 (keys ([] : List Ent)) A [.ro (RdS R53 (SV.v s0_) a0), .ro (RdS R143 (SV.v s1_) a1), .row R3 (SV.v g6) u5]) ⟨rfl, rfl, rfl, rfl, rfl, rfl, rfl, trivial⟩ (fun _ h => h.picks [1, 1, 0] rfl) (nat_lt _) (fun _ h => (FactAt.get (F := RdS R143 (SV.v s1_) a1) (.ro 2 rfl) h).1) (fun _ _ => ⟨rfl, rfl, rfl, rfl⟩) ⟨rfl, rfl, rfl, rfl, rfl⟩ rfl rfl rfl (fun u5 g6 e => ?_) (fun aftk7 i1 x2 u5 g6 k7 hx3 hs J hJk7 hBk7 hX I cnk7 => ?_)
 ·have hm := Flow.fin_b e hm
  refine nj_seq ?_
  refine cj_seq ?_
  refine cj_reg ?_
  refine lp rfl (p_mv rfl) ?_
  refine lp rfl (p_as rfl) ?_
  refine lj_seq ?_
  obtain rfl := Option.some.inj hm
  exact cj_rt g6 [2] Tryz.results44 (.tmp rfl .nil) rfl rfl
 ·have hRk7 : ∀ t, k7 = .ret t → some t = some r := fun t e => by rw [hX t e] at hm; exact hm
  have hm := hs
  refine cj_seq ?_
  refine cj_reg ?_
  refine lp rfl (p_idx Tryz.underlying105 ty143 rfl rfl (.ro 1 rfl) (getI_nat.trans hx3)) ?_
  refine lp rfl (p_lea ty143 rfl (.ro 1 rfl) hx3) ?_
  refine r_al ty143 rfl (fun b10 => ?_)
  refine r_sb (vs := [.int .i64 x2.from_, .int .i64 x2.to_, .int .i64 x2.times]) (j := 0) ty143 rfl rfl rfl rfl rfl rfl rfl ?_
  refine lj_seq ?_
  refine cj_seq ?_
  refine cj_reg ?_
  refine lp rfl (p_as rfl) ?_
  refine lj_seq ?_
  obtain ⟨f14, hf14, hm⟩ := bindS hm
  refine cj_whileA (γ := SV) hf14 g6 (fun u11 g12 => [(0, s0_.v), (2, .int .i64 a2), (6, .slice none 0 0), (7, g12.v), (9, .pointer (some ⟨b10, 0, none⟩)), (10, .int .i64 u11.1), (12, s1_.v), (13, .int .i64 (a1.length : Int)), (14, .int .i64 (i1 : Int))]) (fun u11 g12 => Sat w0 (keys ([] : List Ent)) A [.box b10 143 [.int .i64 x2.from_, .int .i64 x2.to_, .int .i64 x2.times], .ro (RdS R53 (SV.v s0_) a0), .ro (RdS R143 (SV.v s1_) a1), .row R3 (SV.v g12) u11.2]) ⟨rfl, rfl, rfl, rfl, rfl, rfl, rfl, rfl, rfl, trivial⟩ (fun _ h => h.picks [0, 0, 0, 0] rfl) (fun u11 g12 e => ?_) (fun aftk13 u11 g12 k13 hs J hJk13 hBk13 hX I cnk13 => ?_)
  ·have hm := Flow.fin_b e hm
   refine nj_blk ?_
   exact cnk7 _ _ u11.2 g12 (hJk7 _ (Option.some.inj hm).symm) ⟨rfl, rfl, rfl, rfl, rfl, rfl, rfl, trivial⟩ (fun _ h => h.picks [1, 1, 1] rfl)
  ·have hRk13 : ∀ t, k13 = .ret t → some t = some k7 := fun t e => by rw [hX t e] at hm; exact hm
   have hm := hs
   refine cj_seq ?_
   refine cj_seq ?_
   refine cj_reg ?_
   refine lp rfl (p_mv rfl) ?_
   refine lp rfl (p_fab fl143_2 rfl) ?_
   refine lp rfl (p_lbs ty3 rfl (j := 0) rfl rfl) ?_
   refine lp rfl (p_leq rfl rfl) ?_
   refine lj_seq ?_
   refine cj_if (b := decide (u11.1 ≤ x2.times)) rfl (fun hb => ?_) (fun hb => ?_)
   ·have hm := ifB_t hb hm
    refine cj_skip ?_
    refine nj_seq ?_
    refine cj_seq ?_
    refine cj_blk ?_
    refine cj_seq ?_
    refine cj_reg ?_
    refine lp rfl (p_fab fl143_0 rfl) ?_
    refine lp rfl (p_lbs ty3 rfl (j := 0) rfl rfl) ?_
    refine lp rfl (p_as rfl) ?_
    refine lj_seq ?_
    obtain ⟨f19, hf19, hm⟩ := bindS hm
    refine cj_whileA (γ := SV) hf19 g12 (fun u16 g17 => [(0, s0_.v), (2, .int .i64 a2), (6, .slice none 0 0), (7, g17.v), (9, .pointer (some ⟨b10, 0, none⟩)), (10, .int .i64 u11.1), (11, .int .i64 u16.1), (12, s1_.v), (13, .int .i64 (a1.length : Int)), (14, .int .i64 (i1 : Int))]) (fun u16 g17 => Sat w0 (keys ([] : List Ent)) A [.box b10 143 [.int .i64 x2.from_, .int .i64 x2.to_, .int .i64 x2.times], .ro (RdS R53 (SV.v s0_) a0), .ro (RdS R143 (SV.v s1_) a1), .row R3 (SV.v g17) u16.2]) ⟨rfl, rfl, rfl, rfl, rfl, rfl, rfl, rfl, rfl, rfl, trivial⟩ (fun _ h => h.picks [0, 0, 0, 0] rfl) (fun u16 g17 e => ?_) (fun aftk18 u16 g17 k18 hs J hJk18 hBk18 hX I cnk18 => ?_)
    ·have hm := Flow.fin_b e hm
     refine nj_blk ?_
     refine nj_seq ?_
     refine cj_reg ?_
     refine lp rfl (p_mv rfl) ?_
     refine lp rfl (p_add rfl rfl) ?_
     refine lp rfl (p_as rfl) ?_
     refine lj_nil ?_
     exact cnk13 _ _ (w64 (u11.1 + 1), u16.2) g17 (hJk13 _ (Option.some.inj hm).symm) ⟨rfl, rfl, rfl, rfl, rfl, rfl, rfl, rfl, rfl, trivial⟩ (fun _ h => h.picks [0, 0, 0, 0] rfl)
    ·have hRk18 : ∀ t, k18 = .ret t → some t = some k13 := fun t e => by rw [hX t e] at hm; exact hm
     have hm := hs
     refine cj_seq ?_
     refine cj_seq ?_
     refine cj_reg ?_
     obtain ⟨k23, hk23, hm⟩ := bindS hm
     have hRk23 : ∀ t, k23 = .inr t → some t = some k18 := fun t e => by rw [e] at hm; exact hm
     refine lj_join (σ := Bool) (γ := Unit) (fun u21 => k23 = .inl u21) (fun u21 g22 => [(0, s0_.v), (2, .int .i64 a2), (6, .slice none 0 0), (7, g17.v), (9, .pointer (some ⟨b10, 0, none⟩)), (10, .int .i64 u11.1), (11, .int .i64 u16.1), (12, s1_.v), (13, .int .i64 (a1.length : Int)), (14, .int .i64 (i1 : Int)), (35, .bool u21)]) (fun u21 g22 => Sat w0 (keys ([] : List Ent)) A [.box b10 143 [.int .i64 x2.from_, .int .i64 x2.to_, .int .i64 x2.times], .ro (RdS R53 (SV.v s0_) a0), .ro (RdS R143 (SV.v s1_) a1), .row R3 (SV.v g17) u16.2]) (fun u21 g22 hq => ?_) (fun J cnk23 => ?_)
     ·have hm := Sum.fin_l hq hm
      refine cj_if (b := u21) rfl (fun hb => ?_) (fun hb => ?_)
      ·have hm := ifB_t hb hm
       refine cj_skip ?_
       refine nj_seq ?_
       refine cj_seq ?_
       refine cj_blk ?_
       refine cj_seq ?_
       refine cj_reg ?_
       obtain ⟨k26, hk26, hm⟩ := bindS hm
       have hRk26 : ∀ t, k26 = .inr t → some t = some k18 := fun t e => by rw [e] at hm; exact hm
       refine lj_join (σ := Bool) (γ := Unit) (fun u24 => k26 = .inl u24) (fun u24 g25 => [(0, s0_.v), (2, .int .i64 a2), (6, .slice none 0 0), (7, g17.v), (9, .pointer (some ⟨b10, 0, none⟩)), (10, .int .i64 u11.1), (11, .int .i64 u16.1), (12, s1_.v), (13, .int .i64 (a1.length : Int)), (14, .int .i64 (i1 : Int)), (52, .bool u24)]) (fun u24 g25 => Sat w0 (keys ([] : List Ent)) A [.box b10 143 [.int .i64 x2.from_, .int .i64 x2.to_, .int .i64 x2.times], .ro (RdS R53 (SV.v s0_) a0), .ro (RdS R143 (SV.v s1_) a1), .row R3 (SV.v g17) u16.2]) (fun u24 g25 hq => ?_) (fun J cnk26 => ?_)
       ·have hm := Sum.fin_l hq hm
        refine cj_if (b := u24) rfl (fun hb => ?_) (fun hb => ?_)
        ·have hm := ifB_t hb hm
         refine cj_reg ?_
         refine lp rfl (p_mv rfl) ?_
         refine lp rfl (p_mv rfl) ?_
         refine r_bs R3 [u16.1] rfl rfl rfl (fun _ => by kernel_rfl) rfl (fun s29 => ?_)
         obtain ⟨q30, hq30, hm⟩ := bindS hm
         refine r_app (k := 4) Tryz.underlying22 ty3 rfl rfl rfl rfl (.row 0 rfl) hq30 rfl (fun s31 => ?_)
         refine lp rfl (p_as rfl) ?_
         refine lj_nil ?_
         refine nj_blk ?_
         refine nj_seq ?_
         refine cj_reg ?_
         refine lp rfl (p_mv rfl) ?_
         refine lp rfl (p_add rfl rfl) ?_
         refine lp rfl (p_as rfl) ?_
         refine lj_nil ?_
         exact cnk18 _ _ (w64 (u16.1 + 1), q30) s31 (hJk18 _ (Option.some.inj hm).symm) ⟨rfl, rfl, rfl, rfl, rfl, rfl, rfl, rfl, rfl, rfl, trivial⟩ (fun _ h => h.picks [1, 1, 1, 1] rfl)
        ·have hm := ifB_f hb hm
         refine cj_skip ?_
         refine nj_blk ?_
         refine nj_seq ?_
         refine cj_reg ?_
         refine lp rfl (p_mv rfl) ?_
         refine lp rfl (p_add rfl rfl) ?_
         refine lp rfl (p_as rfl) ?_
         refine lj_nil ?_
         exact cnk18 _ _ (w64 (u16.1 + 1), u16.2) g17 (hJk18 _ (Option.some.inj hm).symm) ⟨rfl, rfl, rfl, rfl, rfl, rfl, rfl, rfl, rfl, rfl, trivial⟩ (fun _ h => h.picks [0, 0, 0, 0] rfl)
       ·have hm := hk26
        refine lp rfl (p_mv rfl) ?_
        refine lp rfl (p_mv rfl) ?_
        obtain ⟨e27, he27, hm⟩ := bindS hm
        refine lp rfl (p_idx Tryz.underlying26 ty53 rfl rfl (.ro 1 rfl) he27) ?_
        refine lp rfl (p_fae fl53_3 rfl (.ro 1 rfl) (getI_spec he27).2) ?_
        refine lp rfl (p_lde (o := 3) ty3 rfl rfl (.ro 1 rfl) (getI_spec he27).2 rfl) ?_
        refine lp rfl (p_eql rfl rfl) ?_
        refine lp rfl (p_mv rfl) ?_
        refine lcase (i := 44) (e27.Ending == 0) rfl (fun hb => ?_) (fun hb => ?_)
        ·have hm := ifB_t hb hm
         refine ls false rfl rfl rfl rfl ?_
         refine ls false rfl rfl rfl rfl ?_
         refine ls false rfl rfl rfl rfl ?_
         refine ls false rfl rfl rfl rfl ?_
         refine ls false rfl rfl rfl rfl ?_
         refine ls false rfl rfl rfl rfl ?_
         refine ls false rfl rfl rfl rfl ?_
         refine lp rfl (p_pkt rfl rfl) ?_
         refine lj_nil ?_
         exact cnk26 _ _ true () (Option.some.inj hm).symm ⟨rfl, rfl, rfl, rfl, rfl, rfl, rfl, rfl, rfl, rfl, rfl, trivial⟩ (fun _ h => h.picks [0, 0, 0, 0] rfl)
        ·have hm := ifB_f hb hm
         refine lg false rfl rfl rfl ?_
         refine lp rfl (p_mv rfl) ?_
         refine lg false rfl rfl rfl ?_
         refine lp rfl (p_mv rfl) ?_
         refine lg false rfl rfl rfl ?_
         obtain ⟨e28, he28, hm⟩ := bindS hm
         refine lp rfl (p_idx Tryz.underlying26 ty53 rfl rfl (.ro 1 rfl) he28) ?_
         refine lg false rfl rfl rfl ?_
         refine lp rfl (p_fae fl53_3 rfl (.ro 1 rfl) (getI_spec he28).2) ?_
         refine lg false rfl rfl rfl ?_
         refine lp rfl (p_lde (o := 3) ty3 rfl rfl (.ro 1 rfl) (getI_spec he28).2 rfl) ?_
         refine lg false rfl rfl rfl ?_
         refine lp rfl (p_mv rfl) ?_
         refine lg false rfl rfl rfl ?_
         refine lp rfl (p_eql rfl rfl) ?_
         refine lp rfl (p_pkf rfl rfl) ?_
         refine lj_nil ?_
         exact cnk26 _ _ (e28.Ending == u11.1) () (Option.some.inj hm).symm ⟨rfl, rfl, rfl, rfl, rfl, rfl, rfl, rfl, rfl, rfl, rfl, trivial⟩ (fun _ h => h.picks [0, 0, 0, 0] rfl)
      ·have hm := ifB_f hb hm
       refine cj_exit rfl ?_
       exact (aftk18 (u16.1, u16.2) g17 (hBk18 _ (Option.some.inj hm).symm)).sub ⟨rfl, rfl, rfl, rfl, rfl, rfl, rfl, rfl, rfl, rfl, trivial⟩ (fun _ h => h.picks [0, 0, 0, 0] rfl)
     ·have hm := hk23
      refine lp rfl (p_mv rfl) ?_
      refine lp rfl (p_fab fl143_1 rfl) ?_
      refine lp rfl (p_lbs ty3 rfl (j := 0) rfl rfl) ?_
      refine lp rfl (p_lss rfl rfl) ?_
      refine lp rfl (p_mv rfl) ?_
      refine lcase (i := 30) (decide (u16.1 < x2.to_)) rfl (fun hb => ?_) (fun hb => ?_)
      ·have hm := ifB_t hb hm
       refine lg true rfl rfl rfl ?_
       refine lp rfl (p_mv rfl) ?_
       refine lg true rfl rfl rfl ?_
       refine lp rfl (p_len Tryz.underlying22 rfl (.row 3 rfl)) ?_
       refine lg true rfl rfl rfl ?_
       refine lp rfl (p_mv rfl) ?_
       refine lg true rfl rfl rfl ?_
       refine lp rfl (p_leq rfl rfl) ?_
       refine lp rfl (p_pkt rfl rfl) ?_
       refine lj_nil ?_
       exact cnk23 _ _ (decide ((u16.2.length : Int) ≤ a2)) () (Option.some.inj hm).symm ⟨rfl, rfl, rfl, rfl, rfl, rfl, rfl, rfl, rfl, rfl, rfl, trivial⟩ (fun _ h => h.picks [0, 0, 0, 0] rfl)
      ·have hm := ifB_f hb hm
       refine ls true rfl rfl rfl rfl ?_
       refine ls true rfl rfl rfl rfl ?_
       refine ls true rfl rfl rfl rfl ?_
       refine ls true rfl rfl rfl rfl ?_
       refine lp rfl (p_pkf rfl rfl) ?_
       refine lj_nil ?_
       exact cnk23 _ _ false () (Option.some.inj hm).symm ⟨rfl, rfl, rfl, rfl, rfl, rfl, rfl, rfl, rfl, rfl, rfl, trivial⟩ (fun _ h => h.picks [0, 0, 0, 0] rfl)
   ·have hm := ifB_f hb hm
    refine cj_exit rfl ?_
    exact (aftk13 (u11.1, u11.2) g12 (hBk13 _ (Option.some.inj hm).symm)).sub ⟨rfl, rfl, rfl, rfl, rfl, rfl, rfl, rfl, rfl, trivial⟩ (fun _ h => h.picks [0, 0, 0, 0] rfl)
theorem ok_piece_CheckBars (s0_ : SV) (a0 : (List TBar)) {r : Int} (hm : m_piece_CheckBars a0 = some r) :
  Ctr Tryz.prog 21 [s0_.v].toArray ([] : List Ent) [RdS R53 (SV.v s0_) a0] (X := Unit) (fun _ => .int .i64 r) (fun _ => []) := by
 unfold m_piece_CheckBars at hm
 refine ctr_mk (vs := [(0, s0_.v)]) Tryz.func21 rfl Tryz.ntmps21 rfl ⟨rfl, trivial⟩ (fun w0 A => ?_)
 refine cj_seq ?_
 refine cj_reg ?_
 refine lp rfl (p_as rfl) ?_
 refine lj_seq ?_
 refine cj_seq ?_
 refine cj_seq ?_
 refine cj_reg ?_
 refine lp rfl (p_mv rfl) ?_
 refine lp rfl (p_len Tryz.underlying26 rfl (.ro 0 rfl)) ?_
 refine lp rfl (p_eql rfl rfl) ?_
 refine lj_seq ?_
 refine cj_if (b := (a0.length : Int) == 0) rfl (fun hb => ?_) (fun hb => ?_)
 ·have hm := ifB_t hb hm
  refine cj_seq ?_
  refine cj_reg ?_
  refine lp rfl (p_as rfl) ?_
  refine lj_seq ?_
  obtain rfl := Option.some.inj hm
  exact cj_rt () [] Tryz.results21 (.tmp rfl .nil) rfl rfl
 ·have hm := ifB_f hb hm
  refine cj_skip ?_
  refine nj_seq ?_
  refine cj_seq ?_
  refine cj_seq ?_
  refine cj_reg ?_
  refine lp rfl (p_mv rfl) ?_
  refine lp rfl (p_len Tryz.underlying26 rfl (.ro 0 rfl)) ?_
  refine lp rfl (p_gtr rfl rfl) ?_
  refine lj_seq ?_
  refine cj_if (b := decide ((a0.length : Int) > 300)) rfl (fun hb => ?_) (fun hb => ?_)
  ·have hm := ifB_t hb hm
   refine cj_seq ?_
   refine cj_reg ?_
   refine lp rfl (p_as rfl) ?_
   refine lj_seq ?_
   obtain rfl := Option.some.inj hm
   exact cj_rt () [] Tryz.results21 (.tmp rfl .nil) rfl rfl
  ·have hm := ifB_f hb hm
   refine cj_skip ?_
   refine nj_seq ?_
   refine cj_seq ?_
   refine cj_seq ?_
   refine cj_reg ?_
   refine lp rfl (p_mv rfl) ?_
   obtain ⟨y1, hy1, hm⟩ := bindS hm
   refine r_call [] cf42 rfl rfl (ok_piece_rulesFault s0_ a0 hy1) rfl rfl (.cons (.ro 0 rfl) .nil) (fun _ => rfl) rfl (fun _ => ?_)
   refine lp rfl (p_as rfl) ?_
   refine lj_seq ?_
   refine cj_seq ?_
   refine cj_reg ?_
   refine lp rfl (p_mv rfl) ?_
   refine lp rfl (p_neq rfl rfl) ?_
   refine lj_seq ?_
   refine cj_if (b := y1 != 0) rfl (fun hb => ?_) (fun hb => ?_)
   ·have hm := ifB_t hb hm
    refine cj_seq ?_
    refine cj_reg ?_
    refine lp rfl (p_mv rfl) ?_
    refine lp rfl (p_as rfl) ?_
    refine lj_seq ?_
    obtain rfl := Option.some.inj hm
    exact cj_rt () [] Tryz.results21 (.tmp rfl .nil) rfl rfl
   ·have hm := ifB_f hb hm
    refine cj_skip ?_
    refine nj_seq ?_
    refine cj_seq ?_
    refine cj_reg ?_
    refine lp rfl (p_mv rfl) ?_
    obtain ⟨y2, hy2, hm⟩ := bindS hm
    refine r_call [] cf43 rfl rfl (ok_piece_repeats s0_ a0 hy2) rfl rfl (.cons (.ro 0 rfl) .nil) (fun _ => rfl) rfl (fun s3 => ?_)
    refine lp rfl (p_mv rfl) ?_
    refine lp rfl (p_ext rfl rfl) ?_
    refine lp rfl (p_ext rfl rfl) ?_
    refine lp rfl (p_as rfl) ?_
    refine lp rfl (p_as rfl) ?_
    refine lj_seq ?_
    refine cj_seq ?_
    refine cj_seq ?_
    refine cj_reg ?_
    refine lp rfl (p_mv rfl) ?_
    refine lp rfl (p_not rfl) ?_
    refine lj_seq ?_
    refine cj_if (b := !y2.2) rfl (fun hb => ?_) (fun hb => ?_)
    ·have hm := ifB_t hb hm
     refine cj_seq ?_
     refine cj_reg ?_
     refine lp rfl (p_as rfl) ?_
     refine lj_seq ?_
     obtain rfl := Option.some.inj hm
     exact cj_rt () [] Tryz.results21 (.tmp rfl .nil) rfl rfl
    ·have hm := ifB_f hb hm
     refine cj_skip ?_
     refine nj_seq ?_
     refine cj_seq ?_
     refine cj_seq ?_
     refine cj_reg ?_
     refine lp rfl (p_mv rfl) ?_
     refine lp rfl (p_mv rfl) ?_
     obtain ⟨y4, hy4, hm⟩ := bindS hm
     refine r_call [] cf44 rfl rfl (ok_piece_order s0_ a0 s3 y2.1 2000 hy4) rfl rfl (.cons (.ro 1 rfl) (.cons (.row 0 rfl) .nil)) (fun _ => rfl) rfl (fun s5 => ?_)
     refine lp rfl (p_len Tryz.underlying22 rfl (.row 0 rfl)) ?_
     refine lp rfl (p_gtr rfl rfl) ?_
     refine lj_seq ?_
     refine cj_if (b := decide ((y4.length : Int) > 2000)) rfl (fun hb => ?_) (fun hb => ?_)
     ·have hm := ifB_t hb hm
      refine cj_seq ?_
      refine cj_reg ?_
      refine lp rfl (p_as rfl) ?_
      refine lj_seq ?_
      obtain rfl := Option.some.inj hm
      exact cj_rt () [] Tryz.results21 (.tmp rfl .nil) rfl rfl
     ·have hm := ifB_f hb hm
      refine cj_skip ?_
      refine nj_seq ?_
      refine cj_seq ?_
      refine cj_reg ?_
      refine lp rfl (p_as rfl) ?_
      refine lj_seq ?_
      obtain rfl := Option.some.inj hm
      exact cj_rt () [] Tryz.results21 (.tmp rfl .nil) rfl rfl
theorem ok_kit_Lowest (a0 : Int) (a1 : Int) {r : TFraction} (hm : m_kit_Lowest a0 a1 = some r) :
  Ctr Tryz.prog 45 [.int .i64 a0, .int .i64 a1].toArray ([] : List Ent) [] (X := Unit) (fun _ => .agg (R42.enc r).toArray) (fun _ => []) := by
 unfold m_kit_Lowest at hm
 refine ctr_mk (vs := [(0, .int .i64 a0), (1, .int .i64 a1)]) Tryz.func45 rfl Tryz.ntmps45 rfl ⟨rfl, rfl, trivial⟩ (fun w0 A => ?_)
 refine cj_seq ?_
 refine cj_reg ?_
 refine r_al ty42 rfl (fun b1 => ?_)
 refine lj_seq ?_
 refine cj_seq ?_
 refine cj_reg ?_
 refine lp rfl (p_mv rfl) ?_
 refine lp rfl (p_mv rfl) ?_
 refine lp rfl (p_as rfl) ?_
 refine lp rfl (p_as rfl) ?_
 refine lj_seq ?_
 refine cj_seq ?_
 obtain ⟨f5, hf5, hm⟩ := bindS hm
 refine cj_whileA (γ := Unit) hf5 () (fun u2 g3 => [(0, .int .i64 a0), (1, .int .i64 a1), (4, .pointer (some ⟨b1, 0, none⟩)), (5, .int .i64 u2.1), (6, .int .i64 u2.2)]) (fun u2 g3 => Sat w0 (keys ([] : List Ent)) A [.box b1 42 [.int .i64 0, .int .i64 0]]) ⟨rfl, rfl, rfl, rfl, rfl, trivial⟩ (fun _ h => h.picks [0] rfl) (fun u2 g3 e => ?_) (fun aftk4 u2 g3 k4 hs J hJk4 hBk4 hX I cnk4 => ?_)
 ·have hm := Flow.fin_b e hm
  refine nj_seq ?_
  refine cj_seq ?_
  refine cj_tail 7 (by kernel_rfl) (by kernel_rfl) ?_
  refine s_p rfl (p_mv rfl) ?_
  refine s_p rfl (p_mv rfl) ?_
  obtain ⟨z7, hz7, hm⟩ := bindS hm
  refine s_p rfl (p_quoM hz7 rfl rfl) ?_
  refine s_p rfl (p_mv rfl) ?_
  refine s_p rfl (p_mv rfl) ?_
  obtain ⟨z8, hz8, hm⟩ := bindS hm
  refine s_p rfl (p_quoM hz8 rfl rfl) ?_
  refine s_p rfl (p_bld [.int .i64 z7, .int .i64 z8] rfl (fun _ => by kernel_rfl)) ?_
  refine s_nil ?_
  refine r_sb (vs := [.int .i64 z7, .int .i64 z8]) (j := 0) ty42 rfl rfl rfl rfl rfl rfl rfl ?_
  refine lj_seq ?_
  obtain rfl := Option.some.inj hm
  exact cj_rt () [] Tryz.results45 (.agg (k := 0) ty42 rfl rfl rfl .nil) rfl rfl
 ·have hRk4 : ∀ t, k4 = .ret t → some t = some r := fun t e => by rw [hX t e] at hm; exact hm
  have hm := hs
  refine cj_seq ?_
  refine cj_seq ?_
  refine cj_reg ?_
  refine lp rfl (p_mv rfl) ?_
  refine lp rfl (p_neq rfl rfl) ?_
  refine lj_seq ?_
  refine cj_if (b := u2.2 != 0) rfl (fun hb => ?_) (fun hb => ?_)
  ·have hm := ifB_t hb hm
   refine cj_skip ?_
   refine nj_seq ?_
   refine cj_blk ?_
   refine cj_quiet (by kernel_rfl) (by kernel_rfl) ?_
   refine q_p rfl (p_mv rfl) ?_
   refine q_p rfl (p_mv rfl) ?_
   refine q_p rfl (p_mv rfl) ?_
   obtain ⟨z6, hz6, hm⟩ := bindS hm
   refine q_p rfl (p_remM hz6 rfl rfl) ?_
   refine q_p rfl (p_as rfl) ?_
   refine q_p rfl (p_as rfl) ?_
   refine q_nil ?_
   refine nj_blk ?_
   exact cnk4 _ _ (u2.2, z6) () (hJk4 _ (Option.some.inj hm).symm) ⟨rfl, rfl, rfl, rfl, rfl, trivial⟩ (fun _ h => h.picks [0] rfl)
  ·have hm := ifB_f hb hm
   refine cj_exit rfl ?_
   exact (aftk4 (u2.1, u2.2) () (hBk4 _ (Option.some.inj hm).symm)).sub ⟨rfl, rfl, rfl, rfl, rfl, trivial⟩ (fun _ h => h.picks [0] rfl)
theorem ok_piece_fraction (a0 : Int) {r : TFraction} (hm : m_piece_fraction a0 = some r) :
  Ctr Tryz.prog 22 [.int .i64 a0].toArray ([] : List Ent) [] (X := Unit) (fun _ => .agg (R42.enc r).toArray) (fun _ => []) := by
 unfold m_piece_fraction at hm
 refine ctr_mk (vs := [(0, .int .i64 a0)]) Tryz.func22 rfl Tryz.ntmps22 rfl ⟨rfl, trivial⟩ (fun w0 A => ?_)
 refine cj_seq ?_
 refine cj_reg ?_
 refine r_al ty42 rfl (fun b1 => ?_)
 refine lj_seq ?_
 refine cj_seq ?_
 refine cj_reg ?_
 refine lp rfl (p_mv rfl) ?_
 obtain ⟨y2, hy2, hm⟩ := bindS hm
 refine r_call [] cf45 rfl rfl (ok_kit_Lowest a0 192 hy2) rfl rfl .nil (fun _ => rfl) rfl (fun _ => ?_)
 refine r_sb (vs := [.int .i64 y2.Num, .int .i64 y2.Den]) (j := 0) ty42 rfl rfl rfl rfl rfl rfl rfl ?_
 refine lj_seq ?_
 obtain rfl := Option.some.inj hm
 exact cj_rt () [] Tryz.results22 (.agg (k := 0) ty42 rfl rfl rfl .nil) rfl rfl
theorem ok_piece_long (a0 : TBar) {r : Int} (hm : m_piece_long a0 = some r) :
  Ctr Tryz.prog 23 [.agg (R53.enc a0).toArray].toArray ([] : List Ent) [] (X := Unit) (fun _ => .int .i64 r) (fun _ => []) := by
 unfold m_piece_long at hm
 refine ctr_mk (vs := [(0, .agg (R53.enc a0).toArray)]) Tryz.func23 rfl Tryz.ntmps23 rfl ⟨rfl, trivial⟩ (fun w0 A => ?_)
 refine cj_seq ?_
 refine cj_reg ?_
 refine r_bx (cs := [.int .i64 a0.Beats, .int .i64 a0.Unit, .int .i64 a0.Close, .int .i64 a0.Ending, .bool a0.Open]) rfl rfl rfl (fun b1 => ?_)
 refine lp rfl (p_as rfl) ?_
 refine lj_seq ?_
 refine cj_seq ?_
 refine cj_quiet (by kernel_rfl) (by kernel_rfl) ?_
 refine q_p rfl (p_fab fl53_0 rfl) ?_
 refine q_p rfl (p_lbs ty3 rfl (j := 0) rfl rfl) ?_
 refine q_p rfl (p_fab fl53_1 rfl) ?_
 refine q_p rfl (p_lbs ty3 rfl (j := 0) rfl rfl) ?_
 obtain ⟨z2, hz2, hm⟩ := bindS hm
 refine q_p rfl (p_quoM hz2 rfl rfl) ?_
 refine q_p rfl (p_mul rfl rfl) ?_
 refine q_p rfl (p_as rfl) ?_
 refine q_nil ?_
 refine nj_seq ?_
 obtain rfl := Option.some.inj hm
 exact cj_rt () [] Tryz.results23 (.tmp rfl .nil) rfl rfl
theorem ok_piece_Begins (s0_ : SV) (a0 : (List TBar)) {r : (List TFraction) × Int} (hm : m_piece_Begins a0 = some r) :
  Ctr Tryz.prog 6 [s0_.v].toArray ([] : List Ent) [RdS R53 (SV.v s0_) a0] (X := SV) (fun s => .tuple [s.v, .int .i64 r.2].toArray) (fun s => [.row R42 (SV.v s) r.1]) := by
 unfold m_piece_Begins at hm
 refine ctr_mk (vs := [(0, s0_.v)]) Tryz.func6 rfl Tryz.ntmps6 rfl ⟨rfl, trivial⟩ (fun w0 A => ?_)
 refine cj_seq ?_
 refine cj_reg ?_
 refine lp rfl (p_as rfl) ?_
 refine lp rfl (p_as rfl) ?_
 refine lj_seq ?_
 refine cj_seq ?_
 refine cj_seq ?_
 refine cj_reg ?_
 refine lp rfl (p_mv rfl) ?_
 obtain ⟨y1, hy1, hm⟩ := bindS hm
 refine r_call [] cf21 rfl rfl (ok_piece_CheckBars s0_ a0 hy1) rfl rfl (.cons (.ro 0 rfl) .nil) (fun _ => rfl) rfl (fun _ => ?_)
 refine lp rfl (p_as rfl) ?_
 refine lj_seq ?_
 refine cj_seq ?_
 refine cj_reg ?_
 refine lp rfl (p_mv rfl) ?_
 refine lp rfl (p_neq rfl rfl) ?_
 refine lj_seq ?_
 refine cj_if (b := y1 != 0) rfl (fun hb => ?_) (fun hb => ?_)
 ·have hm := ifB_t hb hm
  refine cj_seq ?_
  refine cj_reg ?_
  refine lp rfl (p_mv rfl) ?_
  refine lp rfl (p_as rfl) ?_
  refine lp rfl (p_as rfl) ?_
  refine lj_seq ?_
  obtain rfl := Option.some.inj hm
  refine cj_nil R42 ?_
  exact cj_rt nilS [0] Tryz.results6 (.tmp rfl (.tmp rfl .nil)) rfl rfl
 ·have hm := ifB_f hb hm
  refine cj_skip ?_
  refine nj_seq ?_
  refine cj_seq ?_
  refine cj_reg ?_
  refine lp rfl (p_as rfl) ?_
  refine lj_seq ?_
  refine cj_seq ?_
  refine cj_reg ?_
  refine lp rfl (p_as rfl) ?_
  refine lj_seq ?_
  refine cj_seq ?_
  refine cj_seq ?_
  refine cj_reg ?_
  refine lp rfl (p_mv rfl) ?_
  refine lp rfl (p_len Tryz.underlying26 rfl (.ro 0 rfl)) ?_
  refine lp rfl (p_mv rfl) ?_
  refine lj_seq ?_
  refine cj_nil R42 ?_
  obtain ⟨f10, hf10, hm⟩ := bindS hm
  refine cj_range (γ := SV) (m := (a0.length : Int)) hf10 nilS (fun u7 g8 => [(2, .slice none 0 0), (3, .int .i64 0), (5, g8.v), (6, .int .i64 u7.1), (14, s0_.v)]) (fun u7 g8 => Sat w0 (keys ([] : List Ent)) A [.ro (RdS R53 (SV.v s0_) a0), .row R42 (SV.v g8) u7.2]) ⟨rfl, rfl, rfl, rfl, rfl, rfl, rfl, trivial⟩ (fun _ h => h.picks [1, 0] rfl) (nat_lt _) (fun _ h => (FactAt.get (F := RdS R53 (SV.v s0_) a0) (.ro 1 rfl) h).1) (fun _ _ => ⟨rfl, rfl, rfl, rfl⟩) ⟨rfl, rfl, rfl, rfl, rfl⟩ rfl rfl rfl (fun u7 g8 e => ?_) (fun aftk9 i3 x4 u7 g8 k9 hx5 hs J hJk9 hBk9 hX I cnk9 => ?_)
  ·have hm := Flow.fin_b e hm
   refine nj_seq ?_
   refine cj_seq ?_
   refine cj_reg ?_
   refine lp rfl (p_mv rfl) ?_
   refine lp rfl (p_as rfl) ?_
   refine lp rfl (p_as rfl) ?_
   refine lj_seq ?_
   obtain rfl := Option.some.inj hm
   exact cj_rt g8 [1] Tryz.results6 (.tmp rfl (.tmp rfl .nil)) rfl rfl
  ·have hRk9 : ∀ t, k9 = .ret t → some t = some r := fun t e => by rw [hX t e] at hm; exact hm
   have hm := hs
   refine cj_seq ?_
   refine cj_reg ?_
   refine lp rfl (p_idx Tryz.underlying26 ty53 rfl rfl (.ro 0 rfl) (getI_nat.trans hx5)) ?_
   refine lp rfl (p_lea ty53 rfl (.ro 0 rfl) hx5) ?_
   refine r_al ty53 rfl (fun b12 => ?_)
   refine r_sb (vs := [.int .i64 x4.Beats, .int .i64 x4.Unit, .int .i64 x4.Close, .int .i64 x4.Ending, .bool x4.Open]) (j := 0) ty53 rfl rfl rfl rfl rfl rfl rfl ?_
   refine lj_seq ?_
   refine cj_seq ?_
   refine cj_reg ?_
   refine lp rfl (p_mv rfl) ?_
   refine lp rfl (p_mv rfl) ?_
   obtain ⟨y13, hy13, hm⟩ := bindS hm
   refine r_call [] cf22 rfl rfl (ok_piece_fraction u7.1 hy13) rfl rfl .nil (fun _ => rfl) rfl (fun _ => ?_)
   refine r_bs R42 [y13] rfl rfl rfl (fun _ => by kernel_rfl) rfl (fun s14 => ?_)
   obtain ⟨q15, hq15, hm⟩ := bindS hm
   refine r_app (k := 3) Tryz.underlying30 ty42 rfl rfl rfl rfl (.row 0 rfl) hq15 rfl (fun s16 => ?_)
   refine lp rfl (p_as rfl) ?_
   refine lj_seq ?_
   refine cj_reg ?_
   refine lp rfl (p_mv rfl) ?_
   refine lp rfl (p_lbw ty53 rfl (j := 1) rfl rfl) ?_
   obtain ⟨y17, hy17, hm⟩ := bindS hm
   refine r_call [] cf23 rfl rfl (ok_piece_long x4 hy17) rfl rfl .nil (fun _ => rfl) rfl (fun _ => ?_)
   refine lp rfl (p_add rfl rfl) ?_
   refine lp rfl (p_as rfl) ?_
   refine lj_nil ?_
   refine nj_blk ?_
   exact cnk9 _ _ (w64 (u7.1 + y17), q15) s16 (hJk9 _ (Option.some.inj hm).symm) ⟨rfl, rfl, rfl, rfl, rfl, rfl, rfl, trivial⟩ (fun _ h => h.picks [2, 2] rfl)
theorem ok_piece_isLowest (a0 : TFraction) {r : Bool} (hm : m_piece_isLowest a0 = some r) :
  Ctr Tryz.prog 33 [.agg (R42.enc a0).toArray].toArray ([] : List Ent) [] (X := Unit) (fun _ => .bool r) (fun _ => []) := by
 unfold m_piece_isLowest at hm
 refine ctr_mk (vs := [(0, .agg (R42.enc a0).toArray)]) Tryz.func33 rfl Tryz.ntmps33 rfl ⟨rfl, trivial⟩ (fun w0 A => ?_)
 refine cj_seq ?_
 refine cj_reg ?_
 refine r_bx (cs := [.int .i64 a0.Num, .int .i64 a0.Den]) rfl rfl rfl (fun b1 => ?_)
 refine lp rfl (p_as rfl) ?_
 refine lj_seq ?_
 refine cj_seq ?_
 refine cj_quiet (by kernel_rfl) (by kernel_rfl) ?_
 refine q_p rfl (p_fab fl42_0 rfl) ?_
 refine q_p rfl (p_lbs ty3 rfl (j := 0) rfl rfl) ?_
 refine q_p rfl (p_fab fl42_1 rfl) ?_
 refine q_p rfl (p_lbs ty3 rfl (j := 0) rfl rfl) ?_
 refine q_p rfl (p_as rfl) ?_
 refine q_p rfl (p_as rfl) ?_
 refine q_nil ?_
 refine nj_seq ?_
 refine cj_seq ?_
 obtain ⟨f5, hf5, hm⟩ := bindS hm
 refine cj_whileA (γ := Unit) hf5 () (fun u2 g3 => [(1, .pointer (some ⟨b1, 0, none⟩)), (2, .bool false), (3, .int .i64 u2.1), (4, .int .i64 u2.2)]) (fun u2 g3 => Sat w0 (keys ([] : List Ent)) A [.box b1 42 [.int .i64 a0.Num, .int .i64 a0.Den]]) ⟨rfl, rfl, rfl, rfl, trivial⟩ (fun _ h => h.picks [0] rfl) (fun u2 g3 e => ?_) (fun aftk4 u2 g3 k4 hs J hJk4 hBk4 hX I cnk4 => ?_)
 ·have hm := Flow.fin_b e hm
  refine nj_seq ?_
  refine cj_seq ?_
  refine cj_reg ?_
  refine lp rfl (p_fab fl42_1 rfl) ?_
  refine lp rfl (p_lbs ty3 rfl (j := 0) rfl rfl) ?_
  refine lp rfl (p_gtr rfl rfl) ?_
  refine lp rfl (p_mv rfl) ?_
  refine lcase (i := 18) (decide (a0.Den > 0)) rfl (fun hb => ?_) (fun hb => ?_)
  ·have hm := ifB_t hb hm
   refine lg true rfl rfl rfl ?_
   refine lp rfl (p_mv rfl) ?_
   refine lg true rfl rfl rfl ?_
   refine lp rfl (p_eql rfl rfl) ?_
   refine lg true rfl rfl rfl ?_
   refine lp rfl (p_mv rfl) ?_
   refine lcase (i := 21) (u2.1 == 1) rfl (fun hb => ?_) (fun hb => ?_)
   ·have hm := ifB_t hb hm
    refine ls false rfl rfl rfl rfl ?_
    refine ls false rfl rfl rfl rfl ?_
    refine lg true rfl rfl rfl ?_
    refine lp rfl (p_pkt rfl rfl) ?_
    refine lp rfl (p_pkt rfl rfl) ?_
    refine lp rfl (p_as rfl) ?_
    refine lj_seq ?_
    obtain rfl := Option.some.inj hm
    exact cj_rt () [] Tryz.results33 (.tmp rfl .nil) rfl rfl
   ·have hm := ifB_f hb hm
    refine lg false rfl rfl rfl ?_
    refine lp rfl (p_mv rfl) ?_
    refine lg false rfl rfl rfl ?_
    refine lp rfl (p_eql rfl rfl) ?_
    refine lg true rfl rfl rfl ?_
    refine lp rfl (p_pkf rfl rfl) ?_
    refine lp rfl (p_pkt rfl rfl) ?_
    refine lp rfl (p_as rfl) ?_
    refine lj_seq ?_
    obtain rfl := Option.some.inj hm
    exact cj_rt () [] Tryz.results33 (.tmp rfl .nil) rfl rfl
  ·have hm := ifB_f hb hm
   refine ls true rfl rfl rfl rfl ?_
   refine ls true rfl rfl rfl rfl ?_
   refine ls true rfl rfl rfl rfl ?_
   refine lsu rfl rfl rfl rfl ?_
   refine lsu rfl rfl rfl rfl ?_
   refine ls true rfl rfl rfl rfl ?_
   refine lp rfl (p_pkf rfl rfl) ?_
   refine lp rfl (p_as rfl) ?_
   refine lj_seq ?_
   obtain rfl := Option.some.inj hm
   exact cj_rt () [] Tryz.results33 (.tmp rfl .nil) rfl rfl
 ·have hRk4 : ∀ t, k4 = .ret t → some t = some r := fun t e => by rw [hX t e] at hm; exact hm
  have hm := hs
  refine cj_seq ?_
  refine cj_seq ?_
  refine cj_reg ?_
  refine lp rfl (p_mv rfl) ?_
  refine lp rfl (p_neq rfl rfl) ?_
  refine lj_seq ?_
  refine cj_if (b := u2.2 != 0) rfl (fun hb => ?_) (fun hb => ?_)
  ·have hm := ifB_t hb hm
   refine cj_skip ?_
   refine nj_seq ?_
   refine cj_blk ?_
   refine cj_quiet (by kernel_rfl) (by kernel_rfl) ?_
   refine q_p rfl (p_mv rfl) ?_
   refine q_p rfl (p_mv rfl) ?_
   refine q_p rfl (p_mv rfl) ?_
   obtain ⟨z6, hz6, hm⟩ := bindS hm
   refine q_p rfl (p_remM hz6 rfl rfl) ?_
   refine q_p rfl (p_as rfl) ?_
   refine q_p rfl (p_as rfl) ?_
   refine q_nil ?_
   refine nj_blk ?_
   exact cnk4 _ _ (u2.2, z6) () (hJk4 _ (Option.some.inj hm).symm) ⟨rfl, rfl, rfl, rfl, trivial⟩ (fun _ h => h.picks [0] rfl)
  ·have hm := ifB_f hb hm
   refine cj_exit rfl ?_
   exact (aftk4 (u2.1, u2.2) () (hBk4 _ (Option.some.inj hm).symm)).sub ⟨rfl, rfl, rfl, rfl, trivial⟩ (fun _ h => h.picks [0] rfl)
theorem ok_piece_isText (a0 : ByteArray) {r : Bool} (hm : m_piece_isText a0 = some r) :
  Ctr Tryz.prog 101 [.string a0].toArray ([] : List Ent) [UtfT] (X := Unit) (fun _ => .bool r) (fun _ => []) := by
 unfold m_piece_isText at hm
 refine ctr_mk (vs := [(0, .string a0)]) Tryz.func101 rfl Tryz.ntmps101 rfl ⟨rfl, trivial⟩ (fun w0 A => ?_)
 refine cj_seq ?_
 refine cj_reg ?_
 refine lp rfl (p_as rfl) ?_
 refine lj_seq ?_
 refine cj_seq ?_
 refine cj_seq ?_
 refine cj_reg ?_
 obtain ⟨k3, hk3, hm⟩ := bindS hm
 have hRk3 : ∀ t, k3 = .inr t → some t = some r := fun t e => by rw [e] at hm; exact hm
 refine lj_join (σ := Bool) (γ := Unit) (fun u1 => k3 = .inl u1) (fun u1 g2 => [(0, .string a0), (2, .bool false), (11, .bool u1)]) (fun u1 g2 => Sat w0 (keys ([] : List Ent)) A [.ro UtfT]) (fun u1 g2 hq => ?_) (fun J cnk3 => ?_)
 ·have hm := Sum.fin_l hq hm
  refine cj_if (b := u1) rfl (fun hb => ?_) (fun hb => ?_)
  ·have hm := ifB_t hb hm
   refine cj_seq ?_
   refine cj_reg ?_
   refine lp rfl (p_as rfl) ?_
   refine lj_seq ?_
   obtain rfl := Option.some.inj hm
   exact cj_rt () [] Tryz.results101 (.tmp rfl .nil) rfl rfl
  ·have hm := ifB_f hb hm
   refine cj_skip ?_
   refine nj_seq ?_
   refine cj_seq ?_
   refine cj_seq ?_
   refine cj_reg ?_
   refine lp rfl (p_mv rfl) ?_
   refine lp rfl (p_lens Tryz.underlying9 rfl) ?_
   refine lp rfl (p_mv rfl) ?_
   refine lj_seq ?_
   obtain ⟨L18, hL18, hm⟩ := bindS hm
   obtain ⟨f11, hf11, hm⟩ := bindS hm
   refine cj_range (γ := Unit) (m := (a0.size : Int)) hf11 () (fun u8 g9 => [(0, .string a0), (2, .bool false)]) (fun u8 g9 => Sat w0 (keys ([] : List Ent)) A [.ro UtfT]) ⟨rfl, rfl, rfl, rfl, trivial⟩ (fun _ h => h.picks [0] rfl) (rangeI_spec hL18).1 (fun _ _ => (rangeI_spec hL18).2) (fun _ _ => ⟨rfl, rfl, rfl, rfl⟩) ⟨rfl, rfl, rfl, rfl, rfl⟩ rfl rfl rfl (fun u8 g9 e => ?_) (fun aftk10 i5 x6 u8 g9 k10 hx7 hs J hJk10 hBk10 hX I cnk10 => ?_)
   ·have hm := Flow.fin_b e hm
    refine nj_seq ?_
    refine cj_seq ?_
    refine cj_reg ?_
    refine lp rfl (p_as rfl) ?_
    refine lj_seq ?_
    obtain rfl := Option.some.inj hm
    exact cj_rt () [] Tryz.results101 (.tmp rfl .nil) rfl rfl
   ·have hRk10 : ∀ t, k10 = .ret t → some t = some r := fun t e => by rw [hX t e] at hm; exact hm
    have hm := hs
    refine cj_seq ?_
    refine cj_reg ?_
    refine lp rfl (p_mv rfl) ?_
    refine lp rfl (p_as rfl) ?_
    refine lj_seq ?_
    refine cj_seq ?_
    refine cj_reg ?_
    obtain ⟨k14, hk14, hm⟩ := bindS hm
    have hRk14 : ∀ t, k14 = .inr t → some t = some k10 := fun t e => by rw [e] at hm; exact hm
    refine lj_join (σ := Bool) (γ := Unit) (fun u12 => k14 = .inl u12) (fun u12 g13 => [(0, .string a0), (2, .bool false), (13, .int .i64 (a0.size : Int)), (14, .int .i64 (i5 : Int)), (32, .bool u12)]) (fun u12 g13 => Sat w0 (keys ([] : List Ent)) A [.ro UtfT]) (fun u12 g13 hq => ?_) (fun J cnk14 => ?_)
    ·have hm := Sum.fin_l hq hm
     refine cj_if (b := u12) rfl (fun hb => ?_) (fun hb => ?_)
     ·have hm := ifB_t hb hm
      refine cj_seq ?_
      refine cj_reg ?_
      refine lp rfl (p_as rfl) ?_
      refine lj_seq ?_
      have hm := hRk10 _ (Option.some.inj hm).symm
      obtain rfl := Option.some.inj hm
      exact cj_rt () [] Tryz.results101 (.tmp rfl .nil) rfl rfl
     ·have hm := ifB_f hb hm
      refine cj_skip ?_
      refine nj_blk ?_
      exact cnk10 _ _ () () (hJk10 _ (Option.some.inj hm).symm) ⟨rfl, rfl, rfl, rfl, trivial⟩ (fun _ h => h.picks [0] rfl)
    ·have hm := hk14
     refine lp rfl (p_mv rfl) ?_
     refine lp rfl (p_mv rfl) ?_
     obtain ⟨c15, hc15, hm⟩ := bindS hm
     refine lp rfl (p_stri Tryz.underlying9 rfl rfl hc15) ?_
     refine lp rfl (p_lss rfl rfl) ?_
     refine lp rfl (p_mv rfl) ?_
     refine lcase (i := 21) (decide (c15 < 33)) rfl (fun hb => ?_) (fun hb => ?_)
     ·have hm := ifB_t hb hm
      refine ls false rfl rfl rfl rfl ?_
      refine ls false rfl rfl rfl rfl ?_
      refine ls false rfl rfl rfl rfl ?_
      refine ls false rfl rfl rfl rfl ?_
      refine lp rfl (p_pkt rfl rfl) ?_
      refine lp rfl (p_mv rfl) ?_
      refine ls false rfl rfl rfl rfl ?_
      refine ls false rfl rfl rfl rfl ?_
      refine ls false rfl rfl rfl rfl ?_
      refine ls false rfl rfl rfl rfl ?_
      refine lp rfl (p_pkt rfl rfl) ?_
      refine lj_nil ?_
      exact cnk14 _ _ true () (Option.some.inj hm).symm ⟨rfl, rfl, rfl, rfl, rfl, trivial⟩ (fun _ h => h.picks [0] rfl)
     ·have hm := ifB_f hb hm
      refine lg false rfl rfl rfl ?_
      refine lp rfl (p_mv rfl) ?_
      refine lg false rfl rfl rfl ?_
      refine lp rfl (p_mv rfl) ?_
      refine lg false rfl rfl rfl ?_
      obtain ⟨c16, hc16, hm⟩ := bindS hm
      refine lp rfl (p_stri Tryz.underlying9 rfl rfl hc16) ?_
      refine lg false rfl rfl rfl ?_
      refine lp rfl (p_eql rfl rfl) ?_
      refine lp rfl (p_pkf rfl rfl) ?_
      refine lp rfl (p_mv rfl) ?_
      refine lcase (i := 27) (c16 == 127) rfl (fun hb => ?_) (fun hb => ?_)
      ·have hm := ifB_t hb hm
       refine ls false rfl rfl rfl rfl ?_
       refine ls false rfl rfl rfl rfl ?_
       refine ls false rfl rfl rfl rfl ?_
       refine ls false rfl rfl rfl rfl ?_
       refine lp rfl (p_pkt rfl rfl) ?_
       refine lj_nil ?_
       exact cnk14 _ _ true () (Option.some.inj hm).symm ⟨rfl, rfl, rfl, rfl, rfl, trivial⟩ (fun _ h => h.picks [0] rfl)
      ·have hm := ifB_f hb hm
       refine lg false rfl rfl rfl ?_
       refine lp rfl (p_mv rfl) ?_
       refine lg false rfl rfl rfl ?_
       refine lp rfl (p_mv rfl) ?_
       refine lg false rfl rfl rfl ?_
       obtain ⟨c17, hc17, hm⟩ := bindS hm
       refine lp rfl (p_stri Tryz.underlying9 rfl rfl hc17) ?_
       refine lg false rfl rfl rfl ?_
       refine lp rfl (p_eql rfl rfl) ?_
       refine lp rfl (p_pkf rfl rfl) ?_
       refine lj_nil ?_
       exact cnk14 _ _ (c17 == 124) () (Option.some.inj hm).symm ⟨rfl, rfl, rfl, rfl, rfl, trivial⟩ (fun _ h => h.picks [0] rfl)
 ·have hm := hk3
  refine lp rfl (p_mv rfl) ?_
  refine lp rfl (p_lens Tryz.underlying9 rfl) ?_
  refine lp rfl (p_gtr rfl rfl) ?_
  refine lp rfl (p_mv rfl) ?_
  refine lcase (i := 7) (decide ((a0.size : Int) > 20)) rfl (fun hb => ?_) (fun hb => ?_)
  ·have hm := ifB_t hb hm
   refine ls false rfl rfl rfl rfl ?_
   refine ls false rfl rfl rfl rfl ?_
   refine ls false rfl rfl rfl rfl ?_
   refine lp rfl (p_pkt rfl rfl) ?_
   refine lj_nil ?_
   exact cnk3 _ _ true () (Option.some.inj hm).symm ⟨rfl, rfl, rfl, trivial⟩ (fun _ h => h.picks [0] rfl)
  ·have hm := ifB_f hb hm
   refine lg false rfl rfl rfl ?_
   refine lp rfl (p_mv rfl) ?_
   refine lg false rfl rfl rfl ?_
   obtain ⟨y4, hy4, hm⟩ := bindS hm
   refine r_call [] cf127 rfl rfl (ok_utf8_ValidString a0 hy4) rfl rfl (.cons (.ro 0 rfl) .nil) (fun _ => rfl) rfl (fun _ => ?_)
   refine lg false rfl rfl rfl ?_
   refine lp rfl (p_not rfl) ?_
   refine lp rfl (p_pkf rfl rfl) ?_
   refine lj_nil ?_
   exact cnk3 _ _ (!y4) () (Option.some.inj hm).symm ⟨rfl, rfl, rfl, trivial⟩ (fun _ h => h.picks [0] rfl)
theorem ok_piece_toneFault (a0 : TTone) {r : Int} (hm : m_piece_toneFault a0 = some r) :
  Ctr Tryz.prog 75 [.agg (R44.enc a0).toArray].toArray ([] : List Ent) [UtfT] (X := Unit) (fun _ => .int .i64 r) (fun _ => []) := by
 unfold m_piece_toneFault at hm
 refine ctr_mk (vs := [(0, .agg (R44.enc a0).toArray)]) Tryz.func75 rfl Tryz.ntmps75 rfl ⟨rfl, trivial⟩ (fun w0 A => ?_)
 refine cj_seq ?_
 refine cj_reg ?_
 refine r_bx (cs := [.int .i64 a0.Note, .int .i64 a0.Long.Num, .int .i64 a0.Long.Den, .string a0.Text, .bool a0.Tied]) rfl rfl rfl (fun b1 => ?_)
 refine lp rfl (p_as rfl) ?_
 refine lj_seq ?_
 refine cj_seq ?_
 refine cj_blk ?_
 refine cj_seq ?_
 refine cj_reg ?_
 obtain ⟨k4, hk4, hm⟩ := bindS hm
 have hRk4 : ∀ t, k4 = .inr t → some t = some r := fun t e => by rw [e] at hm; exact hm
 refine lj_join (σ := Bool) (γ := Unit) (fun u2 => k4 = .inl u2) (fun u2 g3 => [(1, .pointer (some ⟨b1, 0, none⟩)), (2, .int .i64 0), (3, .bool u2)]) (fun u2 g3 => Sat w0 (keys ([] : List Ent)) A [.box b1 44 [.int .i64 a0.Note, .int .i64 a0.Long.Num, .int .i64 a0.Long.Den, .string a0.Text, .bool a0.Tied], .ro UtfT]) (fun u2 g3 hq => ?_) (fun J cnk4 => ?_)
 ·have hm := Sum.fin_l hq hm
  refine cj_if (b := u2) rfl (fun hb => ?_) (fun hb => ?_)
  ·have hm := ifB_t hb hm
   refine cj_seq ?_
   refine cj_reg ?_
   refine lp rfl (p_as rfl) ?_
   refine lj_seq ?_
   obtain rfl := Option.some.inj hm
   exact cj_rt () [] Tryz.results75 (.tmp rfl .nil) rfl rfl
  ·have hm := ifB_f hb hm
   refine cj_seq ?_
   refine cj_reg ?_
   obtain ⟨k8, hk8, hm⟩ := bindS hm
   have hRk8 : ∀ t, k8 = .inr t → some t = some r := fun t e => by rw [e] at hm; exact hm
   refine lj_join (σ := Bool) (γ := Unit) (fun u6 => k8 = .inl u6) (fun u6 g7 => [(1, .pointer (some ⟨b1, 0, none⟩)), (2, .int .i64 0), (12, .bool u6)]) (fun u6 g7 => Sat w0 (keys ([] : List Ent)) A [.box b1 44 [.int .i64 a0.Note, .int .i64 a0.Long.Num, .int .i64 a0.Long.Den, .string a0.Text, .bool a0.Tied], .ro UtfT]) (fun u6 g7 hq => ?_) (fun J cnk8 => ?_)
   ·have hm := Sum.fin_l hq hm
    refine cj_if (b := u6) rfl (fun hb => ?_) (fun hb => ?_)
    ·have hm := ifB_t hb hm
     refine cj_seq ?_
     refine cj_reg ?_
     refine lp rfl (p_as rfl) ?_
     refine lj_seq ?_
     obtain rfl := Option.some.inj hm
     exact cj_rt () [] Tryz.results75 (.tmp rfl .nil) rfl rfl
    ·have hm := ifB_f hb hm
     refine cj_seq ?_
     refine cj_reg ?_
     obtain ⟨k12, hk12, hm⟩ := bindS hm
     have hRk12 : ∀ t, k12 = .inr t → some t = some r := fun t e => by rw [e] at hm; exact hm
     refine lj_join (σ := Bool) (γ := Unit) (fun u10 => k12 = .inl u10) (fun u10 g11 => [(1, .pointer (some ⟨b1, 0, none⟩)), (2, .int .i64 0), (23, .bool u10)]) (fun u10 g11 => Sat w0 (keys ([] : List Ent)) A [.box b1 44 [.int .i64 a0.Note, .int .i64 a0.Long.Num, .int .i64 a0.Long.Den, .string a0.Text, .bool a0.Tied], .ro UtfT]) (fun u10 g11 hq => ?_) (fun J cnk12 => ?_)
     ·have hm := Sum.fin_l hq hm
      refine cj_if (b := u10) rfl (fun hb => ?_) (fun hb => ?_)
      ·have hm := ifB_t hb hm
       refine cj_seq ?_
       refine cj_reg ?_
       refine lp rfl (p_as rfl) ?_
       refine lj_seq ?_
       obtain rfl := Option.some.inj hm
       exact cj_rt () [] Tryz.results75 (.tmp rfl .nil) rfl rfl
      ·have hm := ifB_f hb hm
       refine cj_seq ?_
       refine cj_reg ?_
       refine lp rfl (p_fab fl44_2 rfl) ?_
       refine lp rfl (p_lbs ty9 rfl (j := 0) rfl rfl) ?_
       obtain ⟨y14, hy14, hm⟩ := bindS hm
       refine r_call [] cf101 rfl rfl (ok_piece_isText a0.Text hy14) rfl rfl (.cons (.ro 1 rfl) .nil) (fun _ => rfl) rfl (fun _ => ?_)
       refine lp rfl (p_not rfl) ?_
       refine lp rfl (p_as rfl) ?_
       refine lj_seq ?_
       refine cj_if (b := !y14) rfl (fun hb => ?_) (fun hb => ?_)
       ·have hm := ifB_t hb hm
        refine cj_seq ?_
        refine cj_reg ?_
        refine lp rfl (p_as rfl) ?_
        refine lj_seq ?_
        obtain rfl := Option.some.inj hm
        exact cj_rt () [] Tryz.results75 (.tmp rfl .nil) rfl rfl
       ·have hm := ifB_f hb hm
        refine cj_seq ?_
        refine cj_reg ?_
        obtain ⟨k17, hk17, hm⟩ := bindS hm
        have hRk17 : ∀ t, k17 = .inr t → some t = some r := fun t e => by rw [e] at hm; exact hm
        refine lj_join (σ := Bool) (γ := Unit) (fun u15 => k17 = .inl u15) (fun u15 g16 => [(2, .int .i64 0), (44, .bool u15)]) (fun u15 g16 => Sat w0 (keys ([] : List Ent)) A [.ro UtfT]) (fun u15 g16 hq => ?_) (fun J cnk17 => ?_)
        ·have hm := Sum.fin_l hq hm
         refine cj_if (b := u15) rfl (fun hb => ?_) (fun hb => ?_)
         ·have hm := ifB_t hb hm
          refine cj_seq ?_
          refine cj_reg ?_
          refine lp rfl (p_as rfl) ?_
          refine lj_seq ?_
          obtain rfl := Option.some.inj hm
          exact cj_rt () [] Tryz.results75 (.tmp rfl .nil) rfl rfl
         ·have hm := ifB_f hb hm
          refine cj_skip ?_
          refine nj_blk ?_
          refine nj_seq ?_
          refine cj_seq ?_
          refine cj_reg ?_
          refine lp rfl (p_as rfl) ?_
          refine lj_seq ?_
          obtain rfl := Option.some.inj hm
          exact cj_rt () [] Tryz.results75 (.tmp rfl .nil) rfl rfl
        ·have hm := hk17
         refine lp rfl (p_fab fl44_0 rfl) ?_
         refine lp rfl (p_lbs ty3 rfl (j := 0) rfl rfl) ?_
         refine lp rfl (p_eql rfl rfl) ?_
         refine lp rfl (p_mv rfl) ?_
         refine lcase (i := 48) (a0.Note == (-1)) rfl (fun hb => ?_) (fun hb => ?_)
         ·have hm := ifB_t hb hm
          refine lg true rfl rfl rfl ?_
          refine lp rfl (p_fab fl44_3 rfl) ?_
          refine lg true rfl rfl rfl ?_
          refine lp rfl (p_lbs ty4 rfl (j := 0) rfl rfl) ?_
          refine lg true rfl rfl rfl ?_
          refine lp rfl (p_mv rfl) ?_
          refine lcase (i := 51) a0.Tied rfl (fun hb => ?_) (fun hb => ?_)
          ·have hm := ifB_t hb hm
           refine ls false rfl rfl rfl rfl ?_
           refine ls false rfl rfl rfl rfl ?_
           refine ls false rfl rfl rfl rfl ?_
           refine lg true rfl rfl rfl ?_
           refine lp rfl (p_pkt rfl rfl) ?_
           refine lp rfl (p_pkt rfl rfl) ?_
           refine lp rfl (p_as rfl) ?_
           refine lj_nil ?_
           exact cnk17 _ _ true () (Option.some.inj hm).symm ⟨rfl, rfl, trivial⟩ (fun _ h => h.picks [1] rfl)
          ·have hm := ifB_f hb hm
           refine lg false rfl rfl rfl ?_
           refine lp rfl (p_fab fl44_2 rfl) ?_
           refine lg false rfl rfl rfl ?_
           refine lp rfl (p_lbs ty9 rfl (j := 0) rfl rfl) ?_
           refine lg false rfl rfl rfl ?_
           refine lp rfl (p_nes rfl rfl) ?_
           refine lg true rfl rfl rfl ?_
           refine lp rfl (p_pkf rfl rfl) ?_
           refine lp rfl (p_pkt rfl rfl) ?_
           refine lp rfl (p_as rfl) ?_
           refine lj_nil ?_
           exact cnk17 _ _ (!(a0.Text.toList == ByteArray.empty.toList)) () (Option.some.inj hm).symm ⟨rfl, rfl, trivial⟩ (fun _ h => h.picks [1] rfl)
         ·have hm := ifB_f hb hm
          refine ls true rfl rfl rfl rfl ?_
          refine ls true rfl rfl rfl rfl ?_
          refine ls true rfl rfl rfl rfl ?_
          refine lsu rfl rfl rfl rfl ?_
          refine lsu rfl rfl rfl rfl ?_
          refine lsu rfl rfl rfl rfl ?_
          refine ls true rfl rfl rfl rfl ?_
          refine lp rfl (p_pkf rfl rfl) ?_
          refine lp rfl (p_as rfl) ?_
          refine lj_nil ?_
          exact cnk17 _ _ false () (Option.some.inj hm).symm ⟨rfl, rfl, trivial⟩ (fun _ h => h.picks [1] rfl)
     ·have hm := hk12
      refine lp rfl (p_fab fl44_1 rfl) ?_
      refine lp rfl (p_fab fl42_1 rfl) ?_
      refine lp rfl (p_lbs ty3 rfl (j := 0) rfl rfl) ?_
      obtain ⟨z13, hz13, hm⟩ := bindS hm
      refine lp rfl (p_remM hz13 rfl rfl) ?_
      refine lp rfl (p_neq rfl rfl) ?_
      refine lp rfl (p_mv rfl) ?_
      refine lcase (i := 29) (z13 != 0) rfl (fun hb => ?_) (fun hb => ?_)
      ·have hm := ifB_t hb hm
       refine ls false rfl rfl rfl rfl ?_
       refine ls false rfl rfl rfl rfl ?_
       refine ls false rfl rfl rfl rfl ?_
       refine ls false rfl rfl rfl rfl ?_
       refine ls false rfl rfl rfl rfl ?_
       refine ls false rfl rfl rfl rfl ?_
       refine ls false rfl rfl rfl rfl ?_
       refine ls false rfl rfl rfl rfl ?_
       refine lp rfl (p_pkt rfl rfl) ?_
       refine lp rfl (p_as rfl) ?_
       refine lj_nil ?_
       exact cnk12 _ _ true () (Option.some.inj hm).symm ⟨rfl, rfl, rfl, trivial⟩ (fun _ h => h.picks [0, 0] rfl)
      ·have hm := ifB_f hb hm
       refine lg false rfl rfl rfl ?_
       refine lp rfl (p_fab fl44_1 rfl) ?_
       refine lg false rfl rfl rfl ?_
       refine lp rfl (p_fab fl42_0 rfl) ?_
       refine lg false rfl rfl rfl ?_
       refine lp rfl (p_lbs ty3 rfl (j := 0) rfl rfl) ?_
       refine lg false rfl rfl rfl ?_
       refine lp rfl (p_fab fl44_1 rfl) ?_
       refine lg false rfl rfl rfl ?_
       refine lp rfl (p_fab fl42_1 rfl) ?_
       refine lg false rfl rfl rfl ?_
       refine lp rfl (p_lbs ty3 rfl (j := 0) rfl rfl) ?_
       refine lg false rfl rfl rfl ?_
       refine lp rfl (p_mul rfl rfl) ?_
       refine lg false rfl rfl rfl ?_
       refine lp rfl (p_gtr rfl rfl) ?_
       refine lp rfl (p_pkf rfl rfl) ?_
       refine lp rfl (p_as rfl) ?_
       refine lj_nil ?_
       exact cnk12 _ _ (decide (a0.Long.Num > (w64 (16 * a0.Long.Den)))) () (Option.some.inj hm).symm ⟨rfl, rfl, rfl, trivial⟩ (fun _ h => h.picks [0, 0] rfl)
   ·have hm := hk8
    refine lp rfl (p_fab fl44_1 rfl) ?_
    refine lp rfl (p_fab fl42_0 rfl) ?_
    refine lp rfl (p_lbs ty3 rfl (j := 0) rfl rfl) ?_
    refine lp rfl (p_lss rfl rfl) ?_
    refine lp rfl (p_mv rfl) ?_
    refine lcase (i := 17) (decide (a0.Long.Num < 1)) rfl (fun hb => ?_) (fun hb => ?_)
    ·have hm := ifB_t hb hm
     refine ls false rfl rfl rfl rfl ?_
     refine ls false rfl rfl rfl rfl ?_
     refine ls false rfl rfl rfl rfl ?_
     refine ls false rfl rfl rfl rfl ?_
     refine lp rfl (p_pkt rfl rfl) ?_
     refine lp rfl (p_as rfl) ?_
     refine lj_nil ?_
     exact cnk8 _ _ true () (Option.some.inj hm).symm ⟨rfl, rfl, rfl, trivial⟩ (fun _ h => h.picks [0, 0] rfl)
    ·have hm := ifB_f hb hm
     refine lg false rfl rfl rfl ?_
     refine lp rfl (p_fab fl44_1 rfl) ?_
     refine lg false rfl rfl rfl ?_
     refine lp rfl (p_lba ty42 rfl (j := 0) rfl rfl) ?_
     refine lg false rfl rfl rfl ?_
     obtain ⟨y9, hy9, hm⟩ := bindS hm
     refine r_call [] cf33 rfl rfl (ok_piece_isLowest a0.Long hy9) rfl rfl .nil (fun _ => rfl) rfl (fun _ => ?_)
     refine lg false rfl rfl rfl ?_
     refine lp rfl (p_not rfl) ?_
     refine lp rfl (p_pkf rfl rfl) ?_
     refine lp rfl (p_as rfl) ?_
     refine lj_nil ?_
     exact cnk8 _ _ (!y9) () (Option.some.inj hm).symm ⟨rfl, rfl, rfl, trivial⟩ (fun _ h => h.picks [0, 0] rfl)
 ·have hm := hk4
  refine lp rfl (p_fab fl44_0 rfl) ?_
  refine lp rfl (p_lbs ty3 rfl (j := 0) rfl rfl) ?_
  refine lp rfl (p_neq rfl rfl) ?_
  refine lp rfl (p_mv rfl) ?_
  refine lcase (i := 7) (a0.Note != (-1)) rfl (fun hb => ?_) (fun hb => ?_)
  ·have hm := ifB_t hb hm
   refine lg true rfl rfl rfl ?_
   refine lp rfl (p_fab fl44_0 rfl) ?_
   refine lg true rfl rfl rfl ?_
   refine lp rfl (p_lbs ty3 rfl (j := 0) rfl rfl) ?_
   refine lg true rfl rfl rfl ?_
   obtain ⟨y5, hy5, hm⟩ := bindS hm
   refine r_call [] cf83 rfl rfl (ok_kit_Outside a0.Note 0 127 hy5) rfl rfl .nil (fun _ => rfl) rfl (fun _ => ?_)
   refine lp rfl (p_pkt rfl rfl) ?_
   refine lp rfl (p_as rfl) ?_
   refine lj_nil ?_
   exact cnk4 _ _ y5 () (Option.some.inj hm).symm ⟨rfl, rfl, rfl, trivial⟩ (fun _ h => h.picks [0, 0] rfl)
  ·have hm := ifB_f hb hm
   refine ls true rfl rfl rfl rfl ?_
   refine ls true rfl rfl rfl rfl ?_
   refine ls true rfl rfl rfl rfl ?_
   refine lp rfl (p_pkf rfl rfl) ?_
   refine lp rfl (p_as rfl) ?_
   refine lj_nil ?_
   exact cnk4 _ _ false () (Option.some.inj hm).symm ⟨rfl, rfl, rfl, trivial⟩ (fun _ h => h.picks [0, 0] rfl)
theorem ok_piece_units (a0 : TFraction) {r : Int} (hm : m_piece_units a0 = some r) :
  Ctr Tryz.prog 34 [.agg (R42.enc a0).toArray].toArray ([] : List Ent) [] (X := Unit) (fun _ => .int .i64 r) (fun _ => []) := by
 unfold m_piece_units at hm
 refine ctr_mk (vs := [(0, .agg (R42.enc a0).toArray)]) Tryz.func34 rfl Tryz.ntmps34 rfl ⟨rfl, trivial⟩ (fun w0 A => ?_)
 refine cj_seq ?_
 refine cj_reg ?_
 refine r_bx (cs := [.int .i64 a0.Num, .int .i64 a0.Den]) rfl rfl rfl (fun b1 => ?_)
 refine lp rfl (p_as rfl) ?_
 refine lj_seq ?_
 refine cj_seq ?_
 refine cj_quiet (by kernel_rfl) (by kernel_rfl) ?_
 refine q_p rfl (p_fab fl42_0 rfl) ?_
 refine q_p rfl (p_lbs ty3 rfl (j := 0) rfl rfl) ?_
 refine q_p rfl (p_fab fl42_1 rfl) ?_
 refine q_p rfl (p_lbs ty3 rfl (j := 0) rfl rfl) ?_
 obtain ⟨z2, hz2, hm⟩ := bindS hm
 refine q_p rfl (p_quoM hz2 rfl rfl) ?_
 refine q_p rfl (p_mul rfl rfl) ?_
 refine q_p rfl (p_as rfl) ?_
 refine q_nil ?_
 refine nj_seq ?_
 obtain rfl := Option.some.inj hm
 exact cj_rt () [] Tryz.results34 (.tmp rfl .nil) rfl rfl
theorem ok_piece_carries (a0 : TTone) (a1 : TTone) {r : Bool} (hm : m_piece_carries a0 a1 = some r) :
  Ctr Tryz.prog 76 [.agg (R44.enc a0).toArray, .agg (R44.enc a1).toArray].toArray ([] : List Ent) [] (X := Unit) (fun _ => .bool r) (fun _ => []) := by
 unfold m_piece_carries at hm
 refine ctr_mk (vs := [(0, .agg (R44.enc a0).toArray), (1, .agg (R44.enc a1).toArray)]) Tryz.func76 rfl Tryz.ntmps76 rfl ⟨rfl, rfl, trivial⟩ (fun w0 A => ?_)
 refine cj_seq ?_
 refine cj_reg ?_
 refine r_bx (cs := [.int .i64 a0.Note, .int .i64 a0.Long.Num, .int .i64 a0.Long.Den, .string a0.Text, .bool a0.Tied]) rfl rfl rfl (fun b1 => ?_)
 refine r_bx (cs := [.int .i64 a1.Note, .int .i64 a1.Long.Num, .int .i64 a1.Long.Den, .string a1.Text, .bool a1.Tied]) rfl rfl rfl (fun b2 => ?_)
 refine lp rfl (p_as rfl) ?_
 refine lj_seq ?_
 refine cj_seq ?_
 refine cj_reg ?_
 refine lp rfl (p_fab fl44_0 rfl) ?_
 refine lp rfl (p_lbs ty3 rfl (j := 0) rfl rfl) ?_
 refine lp rfl (p_fab fl44_0 rfl) ?_
 refine lp rfl (p_lbs ty3 rfl (j := 1) rfl rfl) ?_
 refine lp rfl (p_eql rfl rfl) ?_
 refine lp rfl (p_mv rfl) ?_
 refine lcase (i := 10) (a1.Note == a0.Note) rfl (fun hb => ?_) (fun hb => ?_)
 ·have hm := ifB_t hb hm
  refine lg true rfl rfl rfl ?_
  refine lp rfl (p_fab fl44_2 rfl) ?_
  refine lg true rfl rfl rfl ?_
  refine lp rfl (p_lbs ty9 rfl (j := 0) rfl rfl) ?_
  refine lg true rfl rfl rfl ?_
  refine lp rfl (p_eqs rfl rfl) ?_
  refine lp rfl (p_pkt rfl rfl) ?_
  refine lp rfl (p_as rfl) ?_
  refine lj_seq ?_
  obtain rfl := Option.some.inj hm
  exact cj_rt () [] Tryz.results76 (.tmp rfl .nil) rfl rfl
 ·have hm := ifB_f hb hm
  refine ls true rfl rfl rfl rfl ?_
  refine ls true rfl rfl rfl rfl ?_
  refine ls true rfl rfl rfl rfl ?_
  refine lp rfl (p_pkf rfl rfl) ?_
  refine lp rfl (p_as rfl) ?_
  refine lj_seq ?_
  obtain rfl := Option.some.inj hm
  exact cj_rt () [] Tryz.results76 (.tmp rfl .nil) rfl rfl
theorem ok_piece_checkTones (s0_ : SV) (a0 : (List TBar)) (s1_ : SV) (a1 : (List TTone)) (a2 : Bool) {r : Int} (hm : m_piece_checkTones a0 a1 a2 = some r) :
  Ctr Tryz.prog 46 [s0_.v, s1_.v, .bool a2].toArray ([] : List Ent) [RdS R53 (SV.v s0_) a0, RdS R44 (SV.v s1_) a1, UtfT] (X := Unit) (fun _ => .int .i64 r) (fun _ => []) := by
 unfold m_piece_checkTones at hm
 refine ctr_mk (vs := [(0, s0_.v), (1, s1_.v), (2, .bool a2)]) Tryz.func46 rfl Tryz.ntmps46 rfl ⟨rfl, rfl, rfl, trivial⟩ (fun w0 A => ?_)
 refine cj_seq ?_
 refine cj_reg ?_
 refine lp rfl (p_as rfl) ?_
 refine lj_seq ?_
 refine cj_seq ?_
 refine cj_seq ?_
 refine cj_reg ?_
 refine lp rfl (p_mv rfl) ?_
 refine lp rfl (p_len Tryz.underlying28 rfl (.ro 1 rfl)) ?_
 refine lp rfl (p_gtr rfl rfl) ?_
 refine lj_seq ?_
 refine cj_if (b := decide ((a1.length : Int) > 2000)) rfl (fun hb => ?_) (fun hb => ?_)
 ·have hm := ifB_t hb hm
  refine cj_seq ?_
  refine cj_reg ?_
  refine lp rfl (p_as rfl) ?_
  refine lj_seq ?_
  obtain rfl := Option.some.inj hm
  exact cj_rt () [] Tryz.results46 (.tmp rfl .nil) rfl rfl
 ·have hm := ifB_f hb hm
  refine cj_skip ?_
  refine nj_seq ?_
  refine cj_seq ?_
  refine cj_reg ?_
  refine lp rfl (p_as rfl) ?_
  refine lp rfl (p_as rfl) ?_
  refine lj_seq ?_
  refine cj_seq ?_
  refine cj_seq ?_
  refine cj_reg ?_
  refine lp rfl (p_mv rfl) ?_
  refine lp rfl (p_len Tryz.underlying28 rfl (.ro 1 rfl)) ?_
  refine lp rfl (p_mv rfl) ?_
  refine lj_seq ?_
  obtain ⟨f7, hf7, hm⟩ := bindS hm
  refine cj_range (γ := Unit) (m := (a1.length : Int)) hf7 () (fun u4 g5 => [(0, s0_.v), (1, s1_.v), (2, .bool a2), (6, .int .i64 0), (7, .int .i64 u4.1), (8, .int .i64 u4.2), (17, s1_.v)]) (fun u4 g5 => Sat w0 (keys ([] : List Ent)) A [.ro (RdS R53 (SV.v s0_) a0), .ro (RdS R44 (SV.v s1_) a1), .ro UtfT]) ⟨rfl, rfl, rfl, rfl, rfl, rfl, rfl, rfl, rfl, trivial⟩ (fun _ h => h.picks [0, 0, 0] rfl) (nat_lt _) (fun _ h => (FactAt.get (F := RdS R44 (SV.v s1_) a1) (.ro 1 rfl) h).1) (fun _ _ => ⟨rfl, rfl, rfl, rfl⟩) ⟨rfl, rfl, rfl, rfl, rfl⟩ rfl rfl rfl (fun u4 g5 e => ?_) (fun aftk6 i1 x2 u4 g5 k6 hx3 hs J hJk6 hBk6 hX I cnk6 => ?_)
  ·have hm := Flow.fin_b e hm
   refine nj_seq ?_
   refine cj_seq ?_
   refine cj_seq ?_
   refine cj_reg ?_
   obtain ⟨k19, hk19, hm⟩ := bindS hm
   have hRk19 : ∀ t, k19 = .inr t → some t = some r := fun t e => by rw [e] at hm; exact hm
   refine lj_join (σ := Bool) (γ := Unit) (fun u17 => k19 = .inl u17) (fun u17 g18 => [(1, s1_.v), (2, .bool a2), (6, .int .i64 0), (59, .bool u17)]) (fun u17 g18 => Sat w0 (keys ([] : List Ent)) A [.ro (RdS R44 (SV.v s1_) a1), .ro UtfT]) (fun u17 g18 hq => ?_) (fun J cnk19 => ?_)
   ·have hm := Sum.fin_l hq hm
    refine cj_if (b := u17) rfl (fun hb => ?_) (fun hb => ?_)
    ·have hm := ifB_t hb hm
     refine cj_seq ?_
     refine cj_reg ?_
     refine lp rfl (p_as rfl) ?_
     refine lj_seq ?_
     obtain rfl := Option.some.inj hm
     exact cj_rt () [] Tryz.results46 (.tmp rfl .nil) rfl rfl
    ·have hm := ifB_f hb hm
     refine cj_skip ?_
     refine nj_seq ?_
     refine cj_seq ?_
     refine cj_seq ?_
     refine cj_reg ?_
     refine lp rfl (p_mv rfl) ?_
     refine lp rfl (p_len Tryz.underlying28 rfl (.ro 0 rfl)) ?_
     refine lp rfl (p_mv rfl) ?_
     refine lj_seq ?_
     obtain ⟨f26, hf26, hm⟩ := bindS hm
     refine cj_range (γ := Unit) (m := (a1.length : Int)) hf26 () (fun u23 g24 => [(1, s1_.v), (2, .bool a2), (6, .int .i64 0), (60, s1_.v)]) (fun u23 g24 => Sat w0 (keys ([] : List Ent)) A [.ro (RdS R44 (SV.v s1_) a1), .ro UtfT]) ⟨rfl, rfl, rfl, rfl, rfl, rfl, trivial⟩ (fun _ h => h.picks [0, 0] rfl) (nat_lt _) (fun _ h => (FactAt.get (F := RdS R44 (SV.v s1_) a1) (.ro 0 rfl) h).1) (fun _ _ => ⟨rfl, rfl, rfl, rfl⟩) ⟨rfl, rfl, rfl, rfl, rfl⟩ rfl rfl rfl (fun u23 g24 e => ?_) (fun aftk25 i20 x21 u23 g24 k25 hx22 hs J hJk25 hBk25 hX I cnk25 => ?_)
     ·have hm := Flow.fin_b e hm
      refine nj_seq ?_
      refine cj_seq ?_
      refine cj_reg ?_
      refine lp rfl (p_as rfl) ?_
      refine lj_seq ?_
      obtain rfl := Option.some.inj hm
      exact cj_rt () [] Tryz.results46 (.tmp rfl .nil) rfl rfl
     ·have hRk25 : ∀ t, k25 = .ret t → some t = some r := fun t e => by rw [hX t e] at hm; exact hm
      have hm := hs
      refine cj_seq ?_
      refine cj_reg ?_
      refine lp rfl (p_mv rfl) ?_
      refine lp rfl (p_idx Tryz.underlying28 ty44 rfl rfl (.ro 0 rfl) (getI_nat.trans hx22)) ?_
      refine lp rfl (p_lea ty44 rfl (.ro 0 rfl) hx22) ?_
      refine r_al ty44 rfl (fun b27 => ?_)
      refine lp rfl (p_as rfl) ?_
      refine r_sb (vs := [.int .i64 x21.Note, .int .i64 x21.Long.Num, .int .i64 x21.Long.Den, .string x21.Text, .bool x21.Tied]) (j := 0) ty44 rfl rfl rfl rfl rfl rfl rfl ?_
      refine lj_seq ?_
      refine cj_seq ?_
      refine cj_quiet (by kernel_rfl) (by kernel_rfl) ?_
      refine q_p rfl (p_fab fl44_3 rfl) ?_
      refine q_p rfl (p_lbs ty4 rfl (j := 0) rfl rfl) ?_
      refine q_p rfl (p_mv rfl) ?_
      refine q_case (i := 69) x21.Tied rfl (fun hb => ?_) (fun hb => ?_)
      ·have hm := ifB_t hb hm
       refine q_g true rfl rfl rfl ?_
       refine q_p rfl (p_mv rfl) ?_
       refine q_g true rfl rfl rfl ?_
       refine q_p rfl (p_mv rfl) ?_
       refine q_g true rfl rfl rfl ?_
       refine q_p rfl (p_len Tryz.underlying28 rfl (.ro 1 rfl)) ?_
       refine q_g true rfl rfl rfl ?_
       refine q_p rfl (p_sub rfl rfl) ?_
       refine q_g true rfl rfl rfl ?_
       refine q_p rfl (p_eql rfl rfl) ?_
       refine q_g true rfl rfl rfl ?_
       refine q_p rfl (p_mv rfl) ?_
       refine q_case (i := 75) ((i20 : Int) == (w64 ((a1.length : Int) - 1))) rfl (fun hb => ?_) (fun hb => ?_)
       ·have hm := ifB_t hb hm
        refine q_g true rfl rfl rfl ?_
        refine q_p rfl (p_mv rfl) ?_
        refine q_g true rfl rfl rfl ?_
        refine q_p rfl (p_not rfl) ?_
        refine q_g true rfl rfl rfl ?_
        refine q_p rfl (p_pkt rfl rfl) ?_
        refine q_g true rfl rfl rfl ?_
        refine q_p rfl (p_mv rfl) ?_
        refine q_case (i := 79) (!a2) rfl (fun hb => ?_) (fun hb => ?_)
        ·have hm := ifB_t hb hm
         refine q_s false rfl rfl rfl rfl ?_
         refine q_s false rfl rfl rfl rfl ?_
         refine q_s false rfl rfl rfl rfl ?_
         refine q_s false rfl rfl rfl rfl ?_
         refine q_s false rfl rfl rfl rfl ?_
         refine q_s false rfl rfl rfl rfl ?_
         refine q_su rfl rfl rfl rfl ?_
         refine q_su rfl rfl rfl rfl ?_
         refine q_su rfl rfl rfl rfl ?_
         refine q_su rfl rfl rfl rfl ?_
         refine q_su rfl rfl rfl rfl ?_
         refine q_su rfl rfl rfl rfl ?_
         refine q_su rfl rfl rfl rfl ?_
         refine q_su rfl rfl rfl rfl ?_
         refine q_s false rfl rfl rfl rfl ?_
         refine q_g true rfl rfl rfl ?_
         refine q_p rfl (p_pkt rfl rfl) ?_
         refine q_p rfl (p_pkt rfl rfl) ?_
         refine q_nil ?_
         refine nj_seq ?_
         refine cj_if_t rfl ?_
         refine cj_seq ?_
         refine cj_reg ?_
         refine lp rfl (p_as rfl) ?_
         refine lj_seq ?_
         have hm := hRk25 _ (Option.some.inj hm).symm
         obtain rfl := Option.some.inj hm
         exact cj_rt () [] Tryz.results46 (.tmp rfl .nil) rfl rfl
        ·have hm := ifB_f hb hm
         refine q_g false rfl rfl rfl ?_
         refine q_p rfl (p_mv rfl) ?_
         refine q_g false rfl rfl rfl ?_
         refine q_p rfl (p_mv rfl) ?_
         refine q_g false rfl rfl rfl ?_
         refine q_p rfl (p_len Tryz.underlying28 rfl (.ro 1 rfl)) ?_
         refine q_g false rfl rfl rfl ?_
         refine q_p rfl (p_sub rfl rfl) ?_
         refine q_g false rfl rfl rfl ?_
         refine q_p rfl (p_lss rfl rfl) ?_
         refine q_g false rfl rfl rfl ?_
         refine q_p rfl (p_mv rfl) ?_
         refine q_case (i := 85) (decide ((i20 : Int) < (w64 ((a1.length : Int) - 1)))) rfl (fun hb => ?_) (fun hb => ?_)
         ·have hm := ifB_t hb hm
          refine q_g true rfl rfl rfl ?_
          refine q_p rfl (p_lbw ty44 rfl (j := 0) rfl rfl) ?_
          refine q_g true rfl rfl rfl ?_
          refine q_p rfl (p_mv rfl) ?_
          refine q_g true rfl rfl rfl ?_
          refine q_p rfl (p_mv rfl) ?_
          refine q_g true rfl rfl rfl ?_
          refine q_p rfl (p_add rfl rfl) ?_
          refine q_g true rfl rfl rfl ?_
          obtain ⟨e28, he28, hm⟩ := bindS hm
          refine q_p rfl (p_idx Tryz.underlying28 ty44 rfl rfl (.ro 1 rfl) he28) ?_
          refine q_g true rfl rfl rfl ?_
          refine q_p rfl (p_lea ty44 rfl (.ro 1 rfl) (getI_spec he28).2) ?_
          refine q_g true rfl rfl rfl ?_
          obtain ⟨y29, hy29, hm⟩ := bindS hm
          refine q_call (.bool y29) cf76 rfl rfl (ok_piece_carries x21 e28 hy29) .nil (fun _ => rfl) (fun _ => rfl) rfl ?_
          refine q_g true rfl rfl rfl ?_
          refine q_p rfl (p_not rfl) ?_
          refine q_g false rfl rfl rfl ?_
          refine q_p rfl (p_pkt rfl rfl) ?_
          refine q_g true rfl rfl rfl ?_
          refine q_p rfl (p_pkf rfl rfl) ?_
          refine q_p rfl (p_pkt rfl rfl) ?_
          refine q_nil ?_
          refine nj_seq ?_
          refine cj_if (b := !y29) rfl (fun hb => ?_) (fun hb => ?_)
          ·have hm := ifB_t hb hm
           refine cj_seq ?_
           refine cj_reg ?_
           refine lp rfl (p_as rfl) ?_
           refine lj_seq ?_
           have hm := hRk25 _ (Option.some.inj hm).symm
           obtain rfl := Option.some.inj hm
           exact cj_rt () [] Tryz.results46 (.tmp rfl .nil) rfl rfl
          ·have hm := ifB_f hb hm
           refine cj_skip ?_
           refine nj_blk ?_
           exact cnk25 _ _ () () (hJk25 _ (Option.some.inj hm).symm) ⟨rfl, rfl, rfl, rfl, rfl, rfl, trivial⟩ (fun _ h => h.picks [1, 1] rfl)
         ·have hm := ifB_f hb hm
          refine q_s true rfl rfl rfl rfl ?_
          refine q_s true rfl rfl rfl rfl ?_
          refine q_s true rfl rfl rfl rfl ?_
          refine q_s true rfl rfl rfl rfl ?_
          refine q_s true rfl rfl rfl rfl ?_
          refine q_s true rfl rfl rfl rfl ?_
          refine q_s true rfl rfl rfl rfl ?_
          refine q_s true rfl rfl rfl rfl ?_
          refine q_g false rfl rfl rfl ?_
          refine q_p rfl (p_pkf rfl rfl) ?_
          refine q_g true rfl rfl rfl ?_
          refine q_p rfl (p_pkf rfl rfl) ?_
          refine q_p rfl (p_pkt rfl rfl) ?_
          refine q_nil ?_
          refine nj_seq ?_
          refine cj_if_f rfl ?_
          refine cj_skip ?_
          refine nj_blk ?_
          exact cnk25 _ _ () () (hJk25 _ (Option.some.inj hm).symm) ⟨rfl, rfl, rfl, rfl, rfl, rfl, trivial⟩ (fun _ h => h.picks [1, 1] rfl)
       ·have hm := ifB_f hb hm
        refine q_s true rfl rfl rfl rfl ?_
        refine q_s true rfl rfl rfl rfl ?_
        refine q_g true rfl rfl rfl ?_
        refine q_p rfl (p_pkf rfl rfl) ?_
        refine q_g true rfl rfl rfl ?_
        refine q_p rfl (p_mv rfl) ?_
        refine q_g false rfl rfl rfl ?_
        refine q_p rfl (p_mv rfl) ?_
        refine q_g false rfl rfl rfl ?_
        refine q_p rfl (p_mv rfl) ?_
        refine q_g false rfl rfl rfl ?_
        refine q_p rfl (p_len Tryz.underlying28 rfl (.ro 1 rfl)) ?_
        refine q_g false rfl rfl rfl ?_
        refine q_p rfl (p_sub rfl rfl) ?_
        refine q_g false rfl rfl rfl ?_
        refine q_p rfl (p_lss rfl rfl) ?_
        refine q_g false rfl rfl rfl ?_
        refine q_p rfl (p_mv rfl) ?_
        refine q_case (i := 85) (decide ((i20 : Int) < (w64 ((a1.length : Int) - 1)))) rfl (fun hb => ?_) (fun hb => ?_)
        ·have hm := ifB_t hb hm
         refine q_g true rfl rfl rfl ?_
         refine q_p rfl (p_lbw ty44 rfl (j := 0) rfl rfl) ?_
         refine q_g true rfl rfl rfl ?_
         refine q_p rfl (p_mv rfl) ?_
         refine q_g true rfl rfl rfl ?_
         refine q_p rfl (p_mv rfl) ?_
         refine q_g true rfl rfl rfl ?_
         refine q_p rfl (p_add rfl rfl) ?_
         refine q_g true rfl rfl rfl ?_
         obtain ⟨e30, he30, hm⟩ := bindS hm
         refine q_p rfl (p_idx Tryz.underlying28 ty44 rfl rfl (.ro 1 rfl) he30) ?_
         refine q_g true rfl rfl rfl ?_
         refine q_p rfl (p_lea ty44 rfl (.ro 1 rfl) (getI_spec he30).2) ?_
         refine q_g true rfl rfl rfl ?_
         obtain ⟨y31, hy31, hm⟩ := bindS hm
         refine q_call (.bool y31) cf76 rfl rfl (ok_piece_carries x21 e30 hy31) .nil (fun _ => rfl) (fun _ => rfl) rfl ?_
         refine q_g true rfl rfl rfl ?_
         refine q_p rfl (p_not rfl) ?_
         refine q_g false rfl rfl rfl ?_
         refine q_p rfl (p_pkt rfl rfl) ?_
         refine q_g true rfl rfl rfl ?_
         refine q_p rfl (p_pkf rfl rfl) ?_
         refine q_p rfl (p_pkt rfl rfl) ?_
         refine q_nil ?_
         refine nj_seq ?_
         refine cj_if (b := !y31) rfl (fun hb => ?_) (fun hb => ?_)
         ·have hm := ifB_t hb hm
          refine cj_seq ?_
          refine cj_reg ?_
          refine lp rfl (p_as rfl) ?_
          refine lj_seq ?_
          have hm := hRk25 _ (Option.some.inj hm).symm
          obtain rfl := Option.some.inj hm
          exact cj_rt () [] Tryz.results46 (.tmp rfl .nil) rfl rfl
         ·have hm := ifB_f hb hm
          refine cj_skip ?_
          refine nj_blk ?_
          exact cnk25 _ _ () () (hJk25 _ (Option.some.inj hm).symm) ⟨rfl, rfl, rfl, rfl, rfl, rfl, trivial⟩ (fun _ h => h.picks [1, 1] rfl)
        ·have hm := ifB_f hb hm
         refine q_s true rfl rfl rfl rfl ?_
         refine q_s true rfl rfl rfl rfl ?_
         refine q_s true rfl rfl rfl rfl ?_
         refine q_s true rfl rfl rfl rfl ?_
         refine q_s true rfl rfl rfl rfl ?_
         refine q_s true rfl rfl rfl rfl ?_
         refine q_s true rfl rfl rfl rfl ?_
         refine q_s true rfl rfl rfl rfl ?_
         refine q_g false rfl rfl rfl ?_
         refine q_p rfl (p_pkf rfl rfl) ?_
         refine q_g true rfl rfl rfl ?_
         refine q_p rfl (p_pkf rfl rfl) ?_
         refine q_p rfl (p_pkt rfl rfl) ?_
         refine q_nil ?_
         refine nj_seq ?_
         refine cj_if_f rfl ?_
         refine cj_skip ?_
         refine nj_blk ?_
         exact cnk25 _ _ () () (hJk25 _ (Option.some.inj hm).symm) ⟨rfl, rfl, rfl, rfl, rfl, rfl, trivial⟩ (fun _ h => h.picks [1, 1] rfl)
      ·have hm := ifB_f hb hm
       refine q_s true rfl rfl rfl rfl ?_
       refine q_s true rfl rfl rfl rfl ?_
       refine q_s true rfl rfl rfl rfl ?_
       refine q_s true rfl rfl rfl rfl ?_
       refine q_s true rfl rfl rfl rfl ?_
       refine q_s true rfl rfl rfl rfl ?_
       refine q_su rfl rfl rfl rfl ?_
       refine q_su rfl rfl rfl rfl ?_
       refine q_s true rfl rfl rfl rfl ?_
       refine q_s true rfl rfl rfl rfl ?_
       refine q_su rfl rfl rfl rfl ?_
       refine q_su rfl rfl rfl rfl ?_
       refine q_su rfl rfl rfl rfl ?_
       refine q_su rfl rfl rfl rfl ?_
       refine q_su rfl rfl rfl rfl ?_
       refine q_su rfl rfl rfl rfl ?_
       refine q_su rfl rfl rfl rfl ?_
       refine q_su rfl rfl rfl rfl ?_
       refine q_su rfl rfl rfl rfl ?_
       refine q_su rfl rfl rfl rfl ?_
       refine q_su rfl rfl rfl rfl ?_
       refine q_su rfl rfl rfl rfl ?_
       refine q_su rfl rfl rfl rfl ?_
       refine q_su rfl rfl rfl rfl ?_
       refine q_su rfl rfl rfl rfl ?_
       refine q_s true rfl rfl rfl rfl ?_
       refine q_p rfl (p_pkf rfl rfl) ?_
       refine q_nil ?_
       refine nj_seq ?_
       refine cj_if_f rfl ?_
       refine cj_skip ?_
       refine nj_blk ?_
       exact cnk25 _ _ () () (hJk25 _ (Option.some.inj hm).symm) ⟨rfl, rfl, rfl, rfl, rfl, rfl, trivial⟩ (fun _ h => h.picks [1, 1] rfl)
   ·have hm := hk19
    refine lp rfl (p_mv rfl) ?_
    refine lp rfl (p_gtr rfl rfl) ?_
    refine lp rfl (p_mv rfl) ?_
    refine lcase (i := 54) (decide (u4.2 > 0)) rfl (fun hb => ?_) (fun hb => ?_)
    ·have hm := ifB_t hb hm
     refine ls false rfl rfl rfl rfl ?_
     refine ls false rfl rfl rfl rfl ?_
     refine ls false rfl rfl rfl rfl ?_
     refine ls false rfl rfl rfl rfl ?_
     refine lp rfl (p_pkt rfl rfl) ?_
     refine lj_nil ?_
     exact cnk19 _ _ true () (Option.some.inj hm).symm ⟨rfl, rfl, rfl, rfl, trivial⟩ (fun _ h => h.picks [1, 1] rfl)
    ·have hm := ifB_f hb hm
     refine lg false rfl rfl rfl ?_
     refine lp rfl (p_mv rfl) ?_
     refine lg false rfl rfl rfl ?_
     refine lp rfl (p_mv rfl) ?_
     refine lg false rfl rfl rfl ?_
     refine lp rfl (p_len Tryz.underlying26 rfl (.ro 0 rfl)) ?_
     refine lg false rfl rfl rfl ?_
     refine lp rfl (p_lss rfl rfl) ?_
     refine lp rfl (p_pkf rfl rfl) ?_
     refine lj_nil ?_
     exact cnk19 _ _ (decide (u4.1 < (a0.length : Int))) () (Option.some.inj hm).symm ⟨rfl, rfl, rfl, rfl, trivial⟩ (fun _ h => h.picks [1, 1] rfl)
  ·have hRk6 : ∀ t, k6 = .ret t → some t = some r := fun t e => by rw [hX t e] at hm; exact hm
   have hm := hs
   refine cj_seq ?_
   refine cj_reg ?_
   refine lp rfl (p_idx Tryz.underlying28 ty44 rfl rfl (.ro 1 rfl) (getI_nat.trans hx3)) ?_
   refine lp rfl (p_lea ty44 rfl (.ro 1 rfl) hx3) ?_
   refine r_al ty44 rfl (fun b8 => ?_)
   refine r_sb (vs := [.int .i64 x2.Note, .int .i64 x2.Long.Num, .int .i64 x2.Long.Den, .string x2.Text, .bool x2.Tied]) (j := 0) ty44 rfl rfl rfl rfl rfl rfl rfl ?_
   refine lj_seq ?_
   refine cj_seq ?_
   refine cj_seq ?_
   refine cj_reg ?_
   refine lp rfl (p_lbw ty44 rfl (j := 0) rfl rfl) ?_
   obtain ⟨y9, hy9, hm⟩ := bindS hm
   refine r_call [] cf75 rfl rfl (ok_piece_toneFault x2 hy9) rfl rfl (.cons (.ro 3 rfl) .nil) (fun _ => rfl) rfl (fun _ => ?_)
   refine lp rfl (p_as rfl) ?_
   refine lj_seq ?_
   refine cj_seq ?_
   refine cj_reg ?_
   refine lp rfl (p_mv rfl) ?_
   refine lp rfl (p_neq rfl rfl) ?_
   refine lj_seq ?_
   refine cj_if (b := y9 != 0) rfl (fun hb => ?_) (fun hb => ?_)
   ·have hm := ifB_t hb hm
    refine cj_seq ?_
    refine cj_reg ?_
    refine lp rfl (p_mv rfl) ?_
    refine lp rfl (p_as rfl) ?_
    refine lj_seq ?_
    have hm := hRk6 _ (Option.some.inj hm).symm
    obtain rfl := Option.some.inj hm
    exact cj_rt () [] Tryz.results46 (.tmp rfl .nil) rfl rfl
   ·have hm := ifB_f hb hm
    refine cj_skip ?_
    refine nj_seq ?_
    refine cj_seq ?_
    refine cj_seq ?_
    refine cj_reg ?_
    refine lp rfl (p_mv rfl) ?_
    refine lp rfl (p_eql rfl rfl) ?_
    refine lj_seq ?_
    obtain ⟨k12, hk12, hm⟩ := bindS hm
    have hRk12 : ∀ t, k12 = .inr t → some t = some k6 := fun t e => by rw [e] at hm; exact hm
    refine cj_joinK (σ := (Int × Int)) (γ := Unit) (fun u10 => k12 = .inl u10) (fun u10 g11 => [(0, s0_.v), (1, s1_.v), (2, .bool a2), (6, .int .i64 0), (7, .int .i64 u10.1), (8, .int .i64 u10.2), (10, .pointer (some ⟨b8, 0, none⟩)), (17, s1_.v), (18, .int .i64 (a1.length : Int)), (19, .int .i64 (i1 : Int))]) (fun u10 g11 => Sat w0 (keys ([] : List Ent)) A [.box b8 44 [.int .i64 x2.Note, .int .i64 x2.Long.Num, .int .i64 x2.Long.Den, .string x2.Text, .bool x2.Tied], .ro (RdS R53 (SV.v s0_) a0), .ro (RdS R44 (SV.v s1_) a1), .ro UtfT]) (fun u10 g11 hq => ?_) (fun J cnk12 => ?_)
    ·have hm := Sum.fin_l hq hm
     refine cj_seq ?_
     refine cj_seq ?_
     refine cj_reg ?_
     refine lp rfl (p_fab fl44_1 rfl) ?_
     refine lp rfl (p_lba ty42 rfl (j := 0) rfl rfl) ?_
     obtain ⟨y15, hy15, hm⟩ := bindS hm
     refine r_call [] cf34 rfl rfl (ok_piece_units x2.Long hy15) rfl rfl .nil (fun _ => rfl) rfl (fun _ => ?_)
     refine lp rfl (p_mv rfl) ?_
     refine lp rfl (p_gtr rfl rfl) ?_
     refine lj_seq ?_
     refine cj_if (b := decide (y15 > u10.2)) rfl (fun hb => ?_) (fun hb => ?_)
     ·have hm := ifB_t hb hm
      refine cj_seq ?_
      refine cj_reg ?_
      refine lp rfl (p_as rfl) ?_
      refine lj_seq ?_
      have hm := hRk6 _ (Option.some.inj hm).symm
      obtain rfl := Option.some.inj hm
      exact cj_rt () [] Tryz.results46 (.tmp rfl .nil) rfl rfl
     ·have hm := ifB_f hb hm
      refine cj_skip ?_
      refine nj_seq ?_
      refine cj_reg ?_
      refine lp rfl (p_mv rfl) ?_
      refine lp rfl (p_fab fl44_1 rfl) ?_
      refine lp rfl (p_lba ty42 rfl (j := 0) rfl rfl) ?_
      obtain ⟨y16, hy16, hm⟩ := bindS hm
      refine r_call [] cf34 rfl rfl (ok_piece_units x2.Long hy16) rfl rfl .nil (fun _ => rfl) rfl (fun _ => ?_)
      refine lp rfl (p_sub rfl rfl) ?_
      refine lp rfl (p_as rfl) ?_
      refine lj_nil ?_
      refine nj_blk ?_
      exact cnk6 _ _ (u10.1, w64 (u10.2 - y16)) () (hJk6 _ (Option.some.inj hm).symm) ⟨rfl, rfl, rfl, rfl, rfl, rfl, rfl, rfl, rfl, trivial⟩ (fun _ h => h.picks [1, 1, 1] rfl)
    ·have hm := hk12
     refine cj_if (b := u4.2 == 0) rfl (fun hb => ?_) (fun hb => ?_)
     ·have hm := ifB_t hb hm
      refine cj_seq ?_
      refine cj_seq ?_
      refine cj_reg ?_
      refine lp rfl (p_mv rfl) ?_
      refine lp rfl (p_mv rfl) ?_
      refine lp rfl (p_len Tryz.underlying26 rfl (.ro 1 rfl)) ?_
      refine lp rfl (p_eql rfl rfl) ?_
      refine lj_seq ?_
      refine cj_if (b := u4.1 == (a0.length : Int)) rfl (fun hb => ?_) (fun hb => ?_)
      ·have hm := ifB_t hb hm
       refine cj_seq ?_
       refine cj_reg ?_
       refine lp rfl (p_as rfl) ?_
       refine lj_seq ?_
       have hm := hRk12 _ (Option.some.inj hm).symm
       have hm := hRk6 _ (Option.some.inj hm).symm
       obtain rfl := Option.some.inj hm
       exact cj_rt () [] Tryz.results46 (.tmp rfl .nil) rfl rfl
      ·have hm := ifB_f hb hm
       refine cj_skip ?_
       refine nj_seq ?_
       refine cj_seq ?_
       refine cj_reg ?_
       refine lp rfl (p_mv rfl) ?_
       refine lp rfl (p_mv rfl) ?_
       obtain ⟨e13, he13, hm⟩ := bindS hm
       refine lp rfl (p_idx Tryz.underlying26 ty53 rfl rfl (.ro 1 rfl) he13) ?_
       refine lp rfl (p_lea ty53 rfl (.ro 1 rfl) (getI_spec he13).2) ?_
       obtain ⟨y14, hy14, hm⟩ := bindS hm
       refine r_call [] cf23 rfl rfl (ok_piece_long e13 hy14) rfl rfl .nil (fun _ => rfl) rfl (fun _ => ?_)
       refine lp rfl (p_as rfl) ?_
       refine lj_seq ?_
       refine cj_reg ?_
       refine lp rfl (p_mv rfl) ?_
       refine lp rfl (p_add rfl rfl) ?_
       refine lp rfl (p_as rfl) ?_
       refine lj_nil ?_
       exact cnk12 _ _ (w64 (u4.1 + 1), y14) () (Option.some.inj hm).symm ⟨rfl, rfl, rfl, rfl, rfl, rfl, rfl, rfl, rfl, rfl, trivial⟩ (fun _ h => h.picks [0, 0, 0, 0] rfl)
     ·have hm := ifB_f hb hm
      refine cj_skip ?_
      exact cnk12 _ _ (u4.1, u4.2) () (Option.some.inj hm).symm ⟨rfl, rfl, rfl, rfl, rfl, rfl, rfl, rfl, rfl, rfl, trivial⟩ (fun _ h => h.picks [0, 0, 0, 0] rfl)
theorem ok_piece_CheckTones (s0_ : SV) (a0 : (List TBar)) (s1_ : SV) (a1 : (List TTone)) {r : Int} (hm : m_piece_CheckTones a0 a1 = some r) :
  Ctr Tryz.prog 24 [s0_.v, s1_.v].toArray ([] : List Ent) [RdS R53 (SV.v s0_) a0, RdS R44 (SV.v s1_) a1, UtfT] (X := Unit) (fun _ => .int .i64 r) (fun _ => []) := by
 unfold m_piece_CheckTones at hm
 refine ctr_mk (vs := [(0, s0_.v), (1, s1_.v)]) Tryz.func24 rfl Tryz.ntmps24 rfl ⟨rfl, rfl, trivial⟩ (fun w0 A => ?_)
 refine cj_seq ?_
 refine cj_reg ?_
 refine lp rfl (p_as rfl) ?_
 refine lj_seq ?_
 refine cj_seq ?_
 refine cj_seq ?_
 refine cj_reg ?_
 refine lp rfl (p_mv rfl) ?_
 obtain ⟨y1, hy1, hm⟩ := bindS hm
 refine r_call [] cf21 rfl rfl (ok_piece_CheckBars s0_ a0 hy1) rfl rfl (.cons (.ro 0 rfl) .nil) (fun _ => rfl) rfl (fun _ => ?_)
 refine lp rfl (p_as rfl) ?_
 refine lj_seq ?_
 refine cj_seq ?_
 refine cj_reg ?_
 refine lp rfl (p_mv rfl) ?_
 refine lp rfl (p_neq rfl rfl) ?_
 refine lj_seq ?_
 refine cj_if (b := y1 != 0) rfl (fun hb => ?_) (fun hb => ?_)
 ·have hm := ifB_t hb hm
  refine cj_seq ?_
  refine cj_reg ?_
  refine lp rfl (p_mv rfl) ?_
  refine lp rfl (p_as rfl) ?_
  refine lj_seq ?_
  obtain rfl := Option.some.inj hm
  exact cj_rt () [] Tryz.results24 (.tmp rfl .nil) rfl rfl
 ·have hm := ifB_f hb hm
  refine cj_skip ?_
  refine nj_seq ?_
  refine cj_seq ?_
  refine cj_reg ?_
  refine lp rfl (p_mv rfl) ?_
  refine lp rfl (p_mv rfl) ?_
  obtain ⟨y2, hy2, hm⟩ := bindS hm
  refine r_call [] cf46 rfl rfl (ok_piece_checkTones s0_ a0 s1_ a1 false hy2) rfl rfl (.cons (.ro 0 rfl) (.cons (.ro 1 rfl) (.cons (.ro 2 rfl) .nil))) (fun _ => rfl) rfl (fun _ => ?_)
  refine lp rfl (p_as rfl) ?_
  refine lj_seq ?_
  obtain rfl := Option.some.inj hm
  exact cj_rt () [] Tryz.results24 (.tmp rfl .nil) rfl rfl
theorem ok_slices_Clone_api_Tone_api_Tone (s0_ : SV) (a0 : (List TTone)) {r : (List TTone)} (hm : m_slices_Clone_api_Tone_api_Tone a0 = some r) :
  Ctr Tryz.prog 47 [s0_.v].toArray ([] : List Ent) [RdS R44 (SV.v s0_) a0] (X := SV) (fun s => s.v) (fun s => [.row R44 (SV.v s) r]) := by
 unfold m_slices_Clone_api_Tone_api_Tone at hm
 refine ctr_mk (vs := [(0, s0_.v)]) Tryz.func47 rfl Tryz.ntmps47 rfl ⟨rfl, trivial⟩ (fun w0 A => ?_)
 refine cj_seq ?_
 refine cj_reg ?_
 refine lp rfl (p_as rfl) ?_
 refine lj_seq ?_
 refine cj_seq ?_
 refine cj_seq ?_
 refine cj_reg ?_
 refine lp rfl (p_mv rfl) ?_
 refine lp rfl (p_eqnil Tryz.underlying28 rfl rfl) ?_
 refine lj_seq ?_
 refine cj_if (b := s0_.a.isNone) rfl (fun hb => ?_) (fun hb => ?_)
 ·refine cj_pure (F := RdS R44 (SV.v s0_) a0) (.ro 0 rfl) (fun _ h => h.nil_of hb) (fun h5 => ?_)
  have hm : some [] = some r := by rw [h5, appM_nn] at hm; exact hm
  refine cj_seq ?_
  refine cj_reg ?_
  refine lp rfl (p_as rfl) ?_
  refine lj_seq ?_
  obtain rfl := Option.some.inj hm
  refine cj_nil R44 ?_
  exact cj_rt nilS [0] Tryz.results47 (.tmp rfl .nil) rfl rfl
 ·refine cj_skip ?_
  refine nj_seq ?_
  refine cj_seq ?_
  refine cj_reg ?_
  refine r_bs R44 ([] : List TTone) rfl rfl rfl (fun _ => by kernel_rfl) rfl (fun s2 => ?_)
  refine lp rfl (p_mv rfl) ?_
  obtain ⟨q3, hq3, hm⟩ := bindS hm
  refine r_app (k := 0) Tryz.underlying28 ty44 rfl rfl rfl rfl (.ro 1 rfl) hq3 rfl (fun s4 => ?_)
  refine lp rfl (p_as rfl) ?_
  refine lj_seq ?_
  obtain rfl := Option.some.inj hm
  exact cj_rt s4 [0] Tryz.results47 (.tmp rfl .nil) rfl rfl
theorem ok_piece_inBars (s0_ : SV) (a0 : (List TBar)) (s1_ : SV) (a1 : (List TTone)) {r : (List (List TTone))} (hm : m_piece_inBars a0 a1 = some r) :
  Ctr Tryz.prog 25 [s0_.v, s1_.v].toArray ([] : List Ent) [RdS R53 (SV.v s0_) a0, RdS R44 (SV.v s1_) a1] (X := (SV × List ((List TTone) × SV))) (fun s => s.1.v) (fun s => [.row N28.R (SV.v s.1) s.2, .ro (Lk N28 r s.2)]) := by
 unfold m_piece_inBars at hm
 refine ctr_mk (vs := [(0, s0_.v), (1, s1_.v)]) Tryz.func25 rfl Tryz.ntmps25 rfl ⟨rfl, rfl, trivial⟩ (fun w0 A => ?_)
 refine cj_seq ?_
 refine cj_reg ?_
 refine lp rfl (p_as rfl) ?_
 refine lj_seq ?_
 refine cj_seq ?_
 refine cj_reg ?_
 refine lp rfl (p_as rfl) ?_
 refine lj_seq ?_
 refine cj_seq ?_
 refine cj_seq ?_
 refine cj_reg ?_
 refine lp rfl (p_mv rfl) ?_
 refine lp rfl (p_len Tryz.underlying26 rfl (.ro 0 rfl)) ?_
 refine lp rfl (p_mv rfl) ?_
 refine lj_seq ?_
 refine cj_fact (F := Lk N28 [] []) (.nilL N28) ?_
 refine cj_nil N28.R ?_
 obtain ⟨f8, hf8, hm⟩ := bindS hm
 refine cj_range (γ := (SV × SV × List ((List TTone) × SV))) (m := (a0.length : Int)) hf8 (s1_, nilS, []) (fun u5 g6 => [(1, g6.1.v), (4, .slice none 0 0), (5, g6.2.1.v), (10, s0_.v)]) (fun u5 g6 => Sat w0 (keys ([] : List Ent)) A [.ro (RdS R53 (SV.v s0_) a0), .ro (RdS R44 (SV.v g6.1) u5.1), .row N28.R (SV.v g6.2.1) g6.2.2, .ro (Lk N28 u5.2 g6.2.2)]) ⟨rfl, rfl, rfl, rfl, rfl, rfl, trivial⟩ (fun _ h => h.picks [2, 2, 0, 0] rfl) (nat_lt _) (fun _ h => (FactAt.get (F := RdS R53 (SV.v s0_) a0) (.ro 2 rfl) h).1) (fun _ _ => ⟨rfl, rfl, rfl, rfl⟩) ⟨rfl, rfl, rfl, rfl, rfl⟩ rfl rfl rfl (fun u5 g6 e => ?_) (fun aftk7 i1 x2 u5 g6 k7 hx3 hs J hJk7 hBk7 hX I cnk7 => ?_)
 ·have hm := Flow.fin_b e hm
  refine nj_pure (F := Lk N28 u5.2 g6.2.2) (.ro 3 rfl) (fun _ h => h.1) (fun hLu5_K29 => ?_)
  refine nj_seq ?_
  refine cj_seq ?_
  refine cj_reg ?_
  refine lp rfl (p_mv rfl) ?_
  refine lp rfl (p_as rfl) ?_
  refine lj_seq ?_
  obtain rfl := Option.some.inj hm
  exact cj_rt (g6.2.1, g6.2.2) [2, 2] Tryz.results25 (.tmp rfl .nil) rfl rfl
 ·have hRk7 : ∀ t, k7 = .ret t → some t = some r := fun t e => by rw [hX t e] at hm; exact hm
  have hm := hs
  refine cj_pure (F := Lk N28 u5.2 g6.2.2) (.ro 3 rfl) (fun _ h => h.1) (fun hLu5_K10 => ?_)
  refine cj_seq ?_
  refine cj_reg ?_
  refine lp rfl (p_idx Tryz.underlying26 ty53 rfl rfl (.ro 0 rfl) (getI_nat.trans hx3)) ?_
  refine lp rfl (p_lea ty53 rfl (.ro 0 rfl) hx3) ?_
  refine r_al ty53 rfl (fun b11 => ?_)
  refine r_sb (vs := [.int .i64 x2.Beats, .int .i64 x2.Unit, .int .i64 x2.Close, .int .i64 x2.Ending, .bool x2.Open]) (j := 0) ty53 rfl rfl rfl rfl rfl rfl rfl ?_
  refine lj_seq ?_
  refine cj_seq ?_
  refine cj_reg ?_
  refine lp rfl (p_as rfl) ?_
  refine lj_seq ?_
  refine cj_seq ?_
  refine cj_seq ?_
  refine cj_reg ?_
  refine lp rfl (p_lbw ty53 rfl (j := 0) rfl rfl) ?_
  obtain ⟨y12, hy12, hm⟩ := bindS hm
  refine r_call [] cf23 rfl rfl (ok_piece_long x2 hy12) rfl rfl .nil (fun _ => rfl) rfl (fun _ => ?_)
  refine lp rfl (p_as rfl) ?_
  refine lj_seq ?_
  obtain ⟨f16, hf16, hm⟩ := bindS hm
  refine cj_whileA (γ := Unit) hf16 () (fun u13 g14 => [(1, g6.1.v), (4, .slice none 0 0), (5, g6.2.1.v), (8, .int .i64 u13.1), (9, .int .i64 u13.2), (10, s0_.v), (11, .int .i64 (a0.length : Int)), (12, .int .i64 (i1 : Int))]) (fun u13 g14 => Sat w0 (keys ([] : List Ent)) A [.ro (RdS R53 (SV.v s0_) a0), .ro (RdS R44 (SV.v g6.1) u5.1), .row N28.R (SV.v g6.2.1) g6.2.2, .ro (Lk N28 u5.2 g6.2.2)]) ⟨rfl, rfl, rfl, rfl, rfl, rfl, rfl, rfl, trivial⟩ (fun _ h => h.picks [1, 1, 1, 1] rfl) (fun u13 g14 e => ?_) (fun aftk15 u13 g14 k15 hs J hJk15 hBk15 hX I cnk15 => ?_)
  ·have hm := Flow.fin_b e hm
   refine nj_seq ?_
   refine cj_seq ?_
   refine cj_reg ?_
   refine lp rfl (p_mv rfl) ?_
   refine lp rfl (p_mv rfl) ?_
   refine lp rfl (p_mv rfl) ?_
   obtain ⟨q19, hq19, hm⟩ := bindS hm
   refine lp rfl (p_cut Tryz.underlying28 ty44 rfl rfl rfl rfl rfl (.ro 1 rfl) rfl rfl hq19) ?_
   obtain ⟨y20, hy20, hm⟩ := bindS hm
   refine r_call [] cf47 rfl rfl (ok_slices_Clone_api_Tone_api_Tone (g6.1.sub R44.sz (0 : Int).toNat u13.1.toNat) q19 hy20) rfl rfl (.cons (.imp (.ro 1 rfl) (fun _ h => h.cut hq19)) .nil) (fun _ => rfl) rfl (fun s21 => ?_)
   refine r_fz 0 rfl ?_
   refine r_fact (F := Lk N28 [y20] [(y20, s21)]) (.imp (.and (.ro 0 rfl) (.nilL N28)) (fun _ h => Lk.cons h.1 h.2)) ?_
   have hLs22 : (([(y20, s21)] : List ((List TTone) × SV)).map Prod.fst) = ([y20] : List (List TTone)) := rfl
   refine r_bs N28.R [(y20, s21)] rfl rfl rfl (fun _ => by kernel_rfl) rfl (fun s22 => ?_)
   obtain ⟨q23, hq23, hm⟩ := bindS hm
   refine r_fact (F := Lk N28 q23 (g6.2.2 ++ [(y20, s21)])) (.imp (.and (.ro 6 rfl) (.ro 1 rfl)) (fun _ h => Lk.app hq23 h.1 h.2)) ?_
   refine r_app (k := 6) Tryz.underlying34 ty28 rfl rfl rfl rfl (.row 1 rfl) (lk_app hq23 hLu5_K10 hLs22) rfl (fun s24 => ?_)
   refine lp rfl (p_as rfl) ?_
   refine lj_seq ?_
   refine cj_reg ?_
   refine lp rfl (p_mv rfl) ?_
   refine lp rfl (p_mv rfl) ?_
   obtain ⟨q26, hq26, hm⟩ := bindS hm
   refine lp rfl (p_cut Tryz.underlying28 ty44 rfl rfl rfl rfl rfl (.ro 5 rfl) rfl rfl hq26) ?_
   refine lp rfl (p_as rfl) ?_
   refine lj_nil ?_
   refine nj_blk ?_
   refine nj_fact (F := RdS R44 (SV.v (g6.1.sub R44.sz u13.1.toNat (u5.1.length : Int).toNat)) q26) (.imp (.ro 5 rfl) (fun _ h => h.cut hq26)) ?_
   exact cnk7 _ _ (q26, q23) ((g6.1.sub R44.sz u13.1.toNat (u5.1.length : Int).toNat), s24, (g6.2.2 ++ [(y20, s21)])) (hJk7 _ (Option.some.inj hm).symm) ⟨rfl, rfl, rfl, rfl, rfl, rfl, trivial⟩ (fun _ h => h.picks [5, 0, 5, 0] rfl)
  ·have hRk15 : ∀ t, k15 = .ret t → some t = some k7 := fun t e => by rw [hX t e] at hm; exact hm
   have hm := hs
   refine cj_seq ?_
   refine cj_seq ?_
   refine cj_reg ?_
   refine lp rfl (p_mv rfl) ?_
   refine lp rfl (p_gtr rfl rfl) ?_
   refine lj_seq ?_
   refine cj_if (b := decide (u13.2 > 0)) rfl (fun hb => ?_) (fun hb => ?_)
   ·have hm := ifB_t hb hm
    refine cj_skip ?_
    refine nj_seq ?_
    refine cj_seq ?_
    refine cj_blk ?_
    refine cj_reg ?_
    refine lp rfl (p_mv rfl) ?_
    refine lp rfl (p_mv rfl) ?_
    refine lp rfl (p_mv rfl) ?_
    obtain ⟨e17, he17, hm⟩ := bindS hm
    refine lp rfl (p_idx Tryz.underlying28 ty44 rfl rfl (.ro 1 rfl) he17) ?_
    refine lp rfl (p_fae fl44_1 rfl (.ro 1 rfl) (getI_spec he17).2) ?_
    refine lp rfl (p_lep (o := 1) ty42 rfl rfl (.ro 1 rfl) (getI_spec he17).2 (vs := [.int .i64 e17.Long.Num, .int .i64 e17.Long.Den]) rfl rfl) ?_
    obtain ⟨y18, hy18, hm⟩ := bindS hm
    refine r_call [] cf34 rfl rfl (ok_piece_units e17.Long hy18) rfl rfl .nil (fun _ => rfl) rfl (fun _ => ?_)
    refine lp rfl (p_sub rfl rfl) ?_
    refine lp rfl (p_as rfl) ?_
    refine lj_nil ?_
    refine nj_blk ?_
    refine nj_seq ?_
    refine cj_reg ?_
    refine lp rfl (p_mv rfl) ?_
    refine lp rfl (p_add rfl rfl) ?_
    refine lp rfl (p_as rfl) ?_
    refine lj_nil ?_
    exact cnk15 _ _ (w64 (u13.1 + 1), w64 (u13.2 - y18)) () (hJk15 _ (Option.some.inj hm).symm) ⟨rfl, rfl, rfl, rfl, rfl, rfl, rfl, rfl, trivial⟩ (fun _ h => h.picks [0, 0, 0, 0] rfl)
   ·have hm := ifB_f hb hm
    refine cj_exit rfl ?_
    exact (aftk15 (u13.1, u13.2) () (hBk15 _ (Option.some.inj hm).symm)).sub ⟨rfl, rfl, rfl, rfl, rfl, rfl, rfl, rfl, trivial⟩ (fun _ h => h.picks [0, 0, 0, 0] rfl)
theorem ok_piece_InBars (s0_ : SV) (a0 : (List TBar)) (s1_ : SV) (a1 : (List TTone)) {r : (List (List TTone)) × Int} (hm : m_piece_InBars a0 a1 = some r) :
  Ctr Tryz.prog 7 [s0_.v, s1_.v].toArray ([] : List Ent) [RdS R53 (SV.v s0_) a0, RdS R44 (SV.v s1_) a1, UtfT] (X := (SV × List ((List TTone) × SV))) (fun s => .tuple [s.1.v, .int .i64 r.2].toArray) (fun s => [.row N28.R (SV.v s.1) s.2, .ro (Lk N28 r.1 s.2)]) := by
 unfold m_piece_InBars at hm
 refine ctr_mk (vs := [(0, s0_.v), (1, s1_.v)]) Tryz.func7 rfl Tryz.ntmps7 rfl ⟨rfl, rfl, trivial⟩ (fun w0 A => ?_)
 refine cj_seq ?_
 refine cj_reg ?_
 refine lp rfl (p_as rfl) ?_
 refine lp rfl (p_as rfl) ?_
 refine lj_seq ?_
 refine cj_seq ?_
 refine cj_seq ?_
 refine cj_reg ?_
 refine lp rfl (p_mv rfl) ?_
 refine lp rfl (p_mv rfl) ?_
 obtain ⟨y1, hy1, hm⟩ := bindS hm
 refine r_call [] cf24 rfl rfl (ok_piece_CheckTones s0_ a0 s1_ a1 hy1) rfl rfl (.cons (.ro 0 rfl) (.cons (.ro 1 rfl) (.cons (.ro 2 rfl) .nil))) (fun _ => rfl) rfl (fun _ => ?_)
 refine lp rfl (p_as rfl) ?_
 refine lj_seq ?_
 refine cj_seq ?_
 refine cj_reg ?_
 refine lp rfl (p_mv rfl) ?_
 refine lp rfl (p_neq rfl rfl) ?_
 refine lj_seq ?_
 refine cj_if (b := y1 != 0) rfl (fun hb => ?_) (fun hb => ?_)
 ·have hm := ifB_t hb hm
  refine cj_seq ?_
  refine cj_reg ?_
  refine lp rfl (p_mv rfl) ?_
  refine lp rfl (p_as rfl) ?_
  refine lp rfl (p_as rfl) ?_
  refine lj_seq ?_
  obtain rfl := Option.some.inj hm
  refine cj_fact (F := Lk N28 [] []) (.nilL N28) ?_
  refine cj_nil N28.R ?_
  exact cj_rt (nilS, []) [0, 0] Tryz.results7 (.tmp rfl (.tmp rfl .nil)) rfl rfl
 ·have hm := ifB_f hb hm
  refine cj_skip ?_
  refine nj_seq ?_
  refine cj_seq ?_
  refine cj_reg ?_
  refine lp rfl (p_mv rfl) ?_
  refine lp rfl (p_mv rfl) ?_
  obtain ⟨y3, hy3, hm⟩ := bindS hm
  refine r_callN [] cf25 rfl rfl (ok_piece_inBars s0_ a0 s1_ a1 hy3) rfl rfl (.cons (.ro 0 rfl) (.cons (.ro 1 rfl) .nil)) rfl (fun ⟨s4, xg5⟩ => ?_)
  refine r_pure (F := Lk N28 y3 xg5) (.ro 1 rfl) (fun _ h => h.1) (fun hLs4 => ?_)
  refine lp rfl (p_as rfl) ?_
  refine lp rfl (p_as rfl) ?_
  refine lj_seq ?_
  obtain rfl := Option.some.inj hm
  exact cj_rt (s4, xg5) [0, 0] Tryz.results7 (.tmp rfl (.tmp rfl .nil)) rfl rfl
theorem ok_piece_played (s0_ : SV) (a0 : (List TBar)) {r : (List Int)} (hm : m_piece_played a0 = some r) :
  Ctr Tryz.prog 48 [s0_.v].toArray ([] : List Ent) [RdS R53 (SV.v s0_) a0] (X := SV) (fun s => s.v) (fun s => [.row R3 (SV.v s) r]) := by
 unfold m_piece_played at hm
 refine ctr_mk (vs := [(0, s0_.v)]) Tryz.func48 rfl Tryz.ntmps48 rfl ⟨rfl, trivial⟩ (fun w0 A => ?_)
 refine cj_seq ?_
 refine cj_reg ?_
 refine lp rfl (p_as rfl) ?_
 refine lj_seq ?_
 refine cj_seq ?_
 refine cj_reg ?_
 refine lp rfl (p_mv rfl) ?_
 obtain ⟨y1, hy1, hm⟩ := bindS hm
 refine r_call [] cf43 rfl rfl (ok_piece_repeats s0_ a0 hy1) rfl rfl (.cons (.ro 0 rfl) .nil) (fun _ => rfl) rfl (fun s2 => ?_)
 refine lp rfl (p_mv rfl) ?_
 refine lp rfl (p_ext rfl rfl) ?_
 refine lp rfl (p_ext rfl rfl) ?_
 refine lp rfl (p_as rfl) ?_
 refine lp rfl (p_as rfl) ?_
 refine lj_seq ?_
 refine cj_seq ?_
 refine cj_reg ?_
 refine lp rfl (p_mv rfl) ?_
 refine lp rfl (p_mv rfl) ?_
 obtain ⟨y3, hy3, hm⟩ := bindS hm
 refine r_call [] cf44 rfl rfl (ok_piece_order s0_ a0 s2 y1.1 2000 hy3) rfl rfl (.cons (.ro 1 rfl) (.cons (.row 0 rfl) .nil)) (fun _ => rfl) rfl (fun s4 => ?_)
 refine lp rfl (p_as rfl) ?_
 refine lj_seq ?_
 obtain rfl := Option.some.inj hm
 exact cj_rt s4 [0] Tryz.results48 (.tmp rfl .nil) rfl rfl
theorem ok_piece_loosened (s0_ : SV) (a0 : (List TTone)) {r : (List TTone) × (List TTone)} (hm : m_piece_loosened a0 = some r) :
  Ctr Tryz.prog 49 [s0_.v].toArray [.row R44 (SV.v s0_) a0] [] (X := SV) (fun s => s.v) (fun s => [.row R44 (SV.v s) r.1]) := by
 unfold m_piece_loosened at hm
 refine ctr_mk (vs := [(0, s0_.v)]) Tryz.func49 rfl Tryz.ntmps49 rfl ⟨rfl, trivial⟩ (fun w0 A => ?_)
 refine cj_seq ?_
 refine cj_reg ?_
 refine lp rfl (p_as rfl) ?_
 refine lj_seq ?_
 refine cj_seq ?_
 refine cj_seq ?_
 refine cj_reg ?_
 refine lp rfl (p_mv rfl) ?_
 refine lp rfl (p_len Tryz.underlying28 rfl (.row 0 rfl)) ?_
 refine lp rfl (p_mv rfl) ?_
 refine lj_seq ?_
 obtain ⟨f7, hf7, hm⟩ := bindS hm
 refine cj_range (γ := Unit) (m := (a0.length : Int)) hf7 () (fun u4 g5 => [(0, s0_.v), (2, .slice none 0 0)]) (fun u4 g5 => Sat w0 (keys [.row R44 (SV.v s0_) a0]) A [.row R44 (SV.v s0_) u4]) ⟨rfl, rfl, rfl, rfl, trivial⟩ (fun _ h => h.picks [0] rfl) (nat_lt _) (fun _ h => (FactAt.get (F := RdS R44 (SV.v s0_) a0) (.row 0 rfl) h).1) (fun _ _ => ⟨rfl, rfl, rfl, rfl⟩) ⟨rfl, rfl, rfl, rfl, rfl⟩ rfl rfl rfl (fun u4 g5 e => ?_) (fun aftk6 i1 x2 u4 g5 k6 hx3 hs J hJk6 hBk6 hX I cnk6 => ?_)
 ·have hm := Flow.fin_b e hm
  refine nj_seq ?_
  refine cj_seq ?_
  refine cj_reg ?_
  refine lp rfl (p_mv rfl) ?_
  refine lp rfl (p_as rfl) ?_
  refine lj_seq ?_
  obtain rfl := Option.some.inj hm
  exact cj_rt s0_ [0] Tryz.results49 (.tmp rfl .nil) rfl rfl
 ·have hRk6 : ∀ t, k6 = .ret t → some t = some r := fun t e => by rw [hX t e] at hm; exact hm
  have hm := hs
  refine cj_seq ?_
  refine cj_reg ?_
  refine lp rfl (p_mv rfl) ?_
  refine lp rfl (p_as rfl) ?_
  refine lj_seq ?_
  refine cj_seq ?_
  refine cj_quiet (by kernel_rfl) (by kernel_rfl) ?_
  refine q_p rfl (p_mv rfl) ?_
  refine q_p rfl (p_mv rfl) ?_
  refine q_p rfl (p_len Tryz.underlying28 rfl (.row 0 rfl)) ?_
  refine q_p rfl (p_sub rfl rfl) ?_
  refine q_p rfl (p_eql rfl rfl) ?_
  refine q_p rfl (p_mv rfl) ?_
  refine q_case (i := 14) ((i1 : Int) == (w64 ((u4.length : Int) - 1))) rfl (fun hb => ?_) (fun hb => ?_)
  ·have hm := ifB_t hb hm
   refine q_s false rfl rfl rfl rfl ?_
   refine q_s false rfl rfl rfl rfl ?_
   refine q_s false rfl rfl rfl rfl ?_
   refine q_s false rfl rfl rfl rfl ?_
   refine q_s false rfl rfl rfl rfl ?_
   refine q_s false rfl rfl rfl rfl ?_
   refine q_s false rfl rfl rfl rfl ?_
   refine q_s false rfl rfl rfl rfl ?_
   refine q_s false rfl rfl rfl rfl ?_
   refine q_s false rfl rfl rfl rfl ?_
   refine q_s false rfl rfl rfl rfl ?_
   refine q_p rfl (p_pkt rfl rfl) ?_
   refine q_nil ?_
   refine nj_seq ?_
   refine cj_if_t rfl ?_
   refine cj_reg ?_
   refine lp rfl (p_mv rfl) ?_
   refine lp rfl (p_mv rfl) ?_
   obtain ⟨e8, he8, hm⟩ := bindS hm
   refine lp rfl (p_idx Tryz.underlying28 ty44 rfl rfl (.row 0 rfl) he8) ?_
   refine lp rfl (p_fae fl44_3 rfl (.row 0 rfl) (getI_spec he8).2) ?_
   refine r_ste (k := 0) (o := 4) (vs := [.bool false]) ty4 rfl rfl rfl rfl rfl rfl rfl (getI_spec he8).2 (TTone.mk e8.Note e8.Long e8.Text false) rfl rfl ?_
   refine lj_nil ?_
   refine nj_blk ?_
   exact cnk6 _ _ (u4.set ((i1 : Int).toNat) (TTone.mk e8.Note e8.Long e8.Text false)) () (hJk6 _ (Option.some.inj hm).symm) ⟨rfl, rfl, rfl, rfl, trivial⟩ (fun _ h => h.picks [0] rfl)
  ·have hm := ifB_f hb hm
   refine q_g false rfl rfl rfl ?_
   refine q_p rfl (p_mv rfl) ?_
   refine q_g false rfl rfl rfl ?_
   refine q_p rfl (p_mv rfl) ?_
   refine q_g false rfl rfl rfl ?_
   obtain ⟨e9, he9, hm⟩ := bindS hm
   refine q_p rfl (p_idx Tryz.underlying28 ty44 rfl rfl (.row 0 rfl) he9) ?_
   refine q_g false rfl rfl rfl ?_
   refine q_p rfl (p_lea ty44 rfl (.row 0 rfl) (getI_spec he9).2) ?_
   refine q_g false rfl rfl rfl ?_
   refine q_p rfl (p_mv rfl) ?_
   refine q_g false rfl rfl rfl ?_
   refine q_p rfl (p_mv rfl) ?_
   refine q_g false rfl rfl rfl ?_
   refine q_p rfl (p_add rfl rfl) ?_
   refine q_g false rfl rfl rfl ?_
   obtain ⟨e10, he10, hm⟩ := bindS hm
   refine q_p rfl (p_idx Tryz.underlying28 ty44 rfl rfl (.row 0 rfl) he10) ?_
   refine q_g false rfl rfl rfl ?_
   refine q_p rfl (p_lea ty44 rfl (.row 0 rfl) (getI_spec he10).2) ?_
   refine q_g false rfl rfl rfl ?_
   obtain ⟨y11, hy11, hm⟩ := bindS hm
   refine q_call (.bool y11) cf76 rfl rfl (ok_piece_carries e9 e10 hy11) .nil (fun _ => rfl) (fun _ => rfl) rfl ?_
   refine q_g false rfl rfl rfl ?_
   refine q_p rfl (p_not rfl) ?_
   refine q_p rfl (p_pkf rfl rfl) ?_
   refine q_nil ?_
   refine nj_seq ?_
   refine cj_if (b := !y11) rfl (fun hb => ?_) (fun hb => ?_)
   ·have hm := ifB_t hb hm
    refine cj_reg ?_
    refine lp rfl (p_mv rfl) ?_
    refine lp rfl (p_mv rfl) ?_
    obtain ⟨e12, he12, hm⟩ := bindS hm
    refine lp rfl (p_idx Tryz.underlying28 ty44 rfl rfl (.row 0 rfl) he12) ?_
    refine lp rfl (p_fae fl44_3 rfl (.row 0 rfl) (getI_spec he12).2) ?_
    refine r_ste (k := 0) (o := 4) (vs := [.bool false]) ty4 rfl rfl rfl rfl rfl rfl rfl (getI_spec he12).2 (TTone.mk e12.Note e12.Long e12.Text false) rfl rfl ?_
    refine lj_nil ?_
    refine nj_blk ?_
    exact cnk6 _ _ (u4.set ((i1 : Int).toNat) (TTone.mk e12.Note e12.Long e12.Text false)) () (hJk6 _ (Option.some.inj hm).symm) ⟨rfl, rfl, rfl, rfl, trivial⟩ (fun _ h => h.picks [0] rfl)
   ·have hm := ifB_f hb hm
    refine cj_skip ?_
    refine nj_blk ?_
    exact cnk6 _ _ u4 () (hJk6 _ (Option.some.inj hm).symm) ⟨rfl, rfl, rfl, rfl, trivial⟩ (fun _ h => h.picks [0] rfl)
theorem ok_piece_playedTones (s0_ : SV) (a0 : (List TBar)) (s1_ : SV) (a1 : (List TTone)) {r : (List TTone)} (hm : m_piece_playedTones a0 a1 = some r) :
  Ctr Tryz.prog 26 [s0_.v, s1_.v].toArray ([] : List Ent) [RdS R53 (SV.v s0_) a0, RdS R44 (SV.v s1_) a1] (X := SV) (fun s => s.v) (fun s => [.row R44 (SV.v s) r]) := by
 unfold m_piece_playedTones at hm
 refine ctr_mk (vs := [(0, s0_.v), (1, s1_.v)]) Tryz.func26 rfl Tryz.ntmps26 rfl ⟨rfl, rfl, trivial⟩ (fun w0 A => ?_)
 refine cj_seq ?_
 refine cj_reg ?_
 refine lp rfl (p_as rfl) ?_
 refine lj_seq ?_
 refine cj_seq ?_
 refine cj_reg ?_
 refine lp rfl (p_mv rfl) ?_
 refine lp rfl (p_mv rfl) ?_
 obtain ⟨y1, hy1, hm⟩ := bindS hm
 refine r_callN [] cf25 rfl rfl (ok_piece_inBars s0_ a0 s1_ a1 hy1) rfl rfl (.cons (.ro 0 rfl) (.cons (.ro 1 rfl) .nil)) rfl (fun ⟨s2, xg3⟩ => ?_)
 refine r_pure (F := Lk N28 y1 xg3) (.ro 1 rfl) (fun _ h => h.1) (fun hLs2 => ?_)
 refine lp rfl (p_as rfl) ?_
 refine lj_seq ?_
 refine cj_seq ?_
 refine cj_reg ?_
 refine lp rfl (p_as rfl) ?_
 refine lj_seq ?_
 refine cj_seq ?_
 refine cj_seq ?_
 refine cj_reg ?_
 refine lp rfl (p_mv rfl) ?_
 obtain ⟨y4, hy4, hm⟩ := bindS hm
 refine r_call [] cf48 rfl rfl (ok_piece_played s0_ a0 hy4) rfl rfl (.cons (.ro 2 rfl) .nil) (fun _ => rfl) rfl (fun s5 => ?_)
 refine lp rfl (p_len Tryz.underlying22 rfl (.row 0 rfl)) ?_
 refine lp rfl (p_mv rfl) ?_
 refine lj_seq ?_
 refine cj_nil R44 ?_
 obtain ⟨f13, hf13, hm⟩ := bindS hm
 refine cj_range (γ := SV) (m := (y4.length : Int)) hf13 nilS (fun u10 g11 => [(4, .slice none 0 0), (5, s2.v), (6, g11.v), (13, s5.v)]) (fun u10 g11 => Sat w0 (keys ([] : List Ent)) A [.row R3 (SV.v s5) y4, .row N28.R (SV.v s2) xg3, .ro (Lk N28 y1 xg3), .row R44 (SV.v g11) u10]) ⟨rfl, rfl, rfl, rfl, rfl, rfl, trivial⟩ (fun _ h => h.picks [1, 1, 1, 0] rfl) (nat_lt _) (fun _ h => (FactAt.get (F := RdS R3 (SV.v s5) y4) (.row 1 rfl) h).1) (fun _ _ => ⟨rfl, rfl, rfl, rfl⟩) ⟨rfl, rfl, rfl, rfl, rfl⟩ rfl rfl rfl (fun u10 g11 e => ?_) (fun aftk12 i6 x7 u10 g11 k12 hx8 hs J hJk12 hBk12 hX I cnk12 => ?_)
 ·have hm := Flow.fin_b e hm
  refine nj_seq ?_
  refine cj_seq ?_
  refine cj_reg ?_
  refine lp rfl (p_mv rfl) ?_
  obtain ⟨y19, hy19, hm⟩ := bindS hm
  refine r_call [3] cf49 rfl rfl (ok_piece_loosened g11 u10 hy19) rfl rfl .nil (fun _ => rfl) rfl (fun s20 => ?_)
  refine lp rfl (p_as rfl) ?_
  refine lj_seq ?_
  obtain rfl := Option.some.inj hm
  exact cj_rt s20 [0] Tryz.results26 (.tmp rfl .nil) rfl rfl
 ·have hRk12 : ∀ t, k12 = .ret t → some t = some r := fun t e => by rw [hX t e] at hm; exact hm
  have hm := hs
  refine cj_seq ?_
  refine cj_reg ?_
  refine lp rfl (p_idx Tryz.underlying22 ty3 rfl rfl (.row 0 rfl) (getI_nat.trans hx8)) ?_
  refine lp rfl (p_lde (o := 0) ty3 rfl rfl (.row 0 rfl) hx8 rfl) ?_
  refine lp rfl (p_as rfl) ?_
  refine lj_seq ?_
  refine cj_reg ?_
  refine lp rfl (p_mv rfl) ?_
  refine lp rfl (p_mv rfl) ?_
  refine lp rfl (p_mv rfl) ?_
  obtain ⟨e15, he15, hm⟩ := bindS hm
  obtain ⟨ge15, he15G⟩ := lk_getI hLs2 he15
  refine lp rfl (p_idx Tryz.underlying34 ty28 rfl rfl (.row 1 rfl) he15G) ?_
  refine lp rfl (p_lde (o := 0) ty28 rfl rfl (.row 1 rfl) (getI_spec he15G).2 rfl) ?_
  obtain ⟨q16, hq16, hm⟩ := bindS hm
  refine r_app (k := 3) Tryz.underlying28 ty44 rfl rfl rfl rfl (.imp (.ro 2 rfl) (fun _ h => (Lk.at_ h (getI_spec he15G).2))) hq16 rfl (fun s17 => ?_)
  refine lp rfl (p_as rfl) ?_
  refine lj_nil ?_
  refine nj_blk ?_
  exact cnk12 _ _ q16 s17 (hJk12 _ (Option.some.inj hm).symm) ⟨rfl, rfl, rfl, rfl, rfl, rfl, trivial⟩ (fun _ h => h.picks [0, 0, 0, 0] rfl)
theorem ok_stringslite_HasSuffix (a0 : ByteArray) (a1 : ByteArray) {r : Bool} (hm : m_stringslite_HasSuffix a0 a1 = some r) :
  Ctr Tryz.prog 52 [.string a0, .string a1].toArray ([] : List Ent) [] (X := Unit) (fun _ => .bool r) (fun _ => []) := by
 unfold m_stringslite_HasSuffix at hm
 refine ctr_mk (vs := [(0, .string a0), (1, .string a1)]) Tryz.func52 rfl Tryz.ntmps52 rfl ⟨rfl, rfl, trivial⟩ (fun w0 A => ?_)
 refine cj_seq ?_
 refine cj_reg ?_
 refine lp rfl (p_as rfl) ?_
 refine lj_seq ?_
 refine cj_seq ?_
 refine cj_reg ?_
 refine lp rfl (p_mv rfl) ?_
 refine lp rfl (p_lens Tryz.underlying9 rfl) ?_
 refine lp rfl (p_mv rfl) ?_
 refine lp rfl (p_lens Tryz.underlying9 rfl) ?_
 refine lp rfl (p_geq rfl rfl) ?_
 refine lp rfl (p_mv rfl) ?_
 refine lcase (i := 10) (decide ((a0.size : Int) ≥ (a1.size : Int))) rfl (fun hb => ?_) (fun hb => ?_)
 ·have hm := ifB_t hb hm
  refine lg true rfl rfl rfl ?_
  refine lp rfl (p_mv rfl) ?_
  refine lg true rfl rfl rfl ?_
  refine lp rfl (p_mv rfl) ?_
  refine lg true rfl rfl rfl ?_
  refine lp rfl (p_lens Tryz.underlying9 rfl) ?_
  refine lg true rfl rfl rfl ?_
  refine lp rfl (p_mv rfl) ?_
  refine lg true rfl rfl rfl ?_
  refine lp rfl (p_lens Tryz.underlying9 rfl) ?_
  refine lg true rfl rfl rfl ?_
  refine lp rfl (p_sub rfl rfl) ?_
  refine lg true rfl rfl rfl ?_
  obtain ⟨c1, hc1, hm⟩ := bindS hm
  refine lp rfl (p_strs Tryz.underlying9 rfl rfl rfl rfl rfl rfl rfl hc1) ?_
  refine lg true rfl rfl rfl ?_
  refine lp rfl (p_mv rfl) ?_
  refine lg true rfl rfl rfl ?_
  refine lp rfl (p_eqs rfl rfl) ?_
  refine lp rfl (p_pkt rfl rfl) ?_
  refine lp rfl (p_as rfl) ?_
  refine lj_seq ?_
  obtain rfl := Option.some.inj hm
  exact cj_rt () [] Tryz.results52 (.tmp rfl .nil) rfl rfl
 ·have hm := ifB_f hb hm
  refine ls true rfl rfl rfl rfl ?_
  refine ls true rfl rfl rfl rfl ?_
  refine ls true rfl rfl rfl rfl ?_
  refine ls true rfl rfl rfl rfl ?_
  refine ls true rfl rfl rfl rfl ?_
  refine ls true rfl rfl rfl rfl ?_
  refine ls true rfl rfl rfl rfl ?_
  refine ls true rfl rfl rfl rfl ?_
  refine ls true rfl rfl rfl rfl ?_
  refine lp rfl (p_pkf rfl rfl) ?_
  refine lp rfl (p_as rfl) ?_
  refine lj_seq ?_
  obtain rfl := Option.some.inj hm
  exact cj_rt () [] Tryz.results52 (.tmp rfl .nil) rfl rfl
theorem ok_stringslite_CutSuffix (a0 : ByteArray) (a1 : ByteArray) {r : ByteArray × Bool} (hm : m_stringslite_CutSuffix a0 a1 = some r) :
  Ctr Tryz.prog 50 [.string a0, .string a1].toArray ([] : List Ent) [] (X := Unit) (fun _ => .tuple [.string r.1, .bool r.2].toArray) (fun _ => []) := by
 unfold m_stringslite_CutSuffix at hm
 refine ctr_mk (vs := [(0, .string a0), (1, .string a1)]) Tryz.func50 rfl Tryz.ntmps50 rfl ⟨rfl, rfl, trivial⟩ (fun w0 A => ?_)
 refine cj_seq ?_
 refine cj_reg ?_
 refine lp rfl (p_as rfl) ?_
 refine lp rfl (p_as rfl) ?_
 refine lj_seq ?_
 refine cj_seq ?_
 refine cj_seq ?_
 refine cj_reg ?_
 refine lp rfl (p_mv rfl) ?_
 refine lp rfl (p_mv rfl) ?_
 obtain ⟨y1, hy1, hm⟩ := bindS hm
 refine r_call [] cf52 rfl rfl (ok_stringslite_HasSuffix a0 a1 hy1) rfl rfl .nil (fun _ => rfl) rfl (fun _ => ?_)
 refine lp rfl (p_not rfl) ?_
 refine lj_seq ?_
 refine cj_if (b := !y1) rfl (fun hb => ?_) (fun hb => ?_)
 ·have hm := ifB_t hb hm
  refine cj_seq ?_
  refine cj_reg ?_
  refine lp rfl (p_mv rfl) ?_
  refine lp rfl (p_as rfl) ?_
  refine lp rfl (p_as rfl) ?_
  refine lj_seq ?_
  obtain rfl := Option.some.inj hm
  exact cj_rt () [] Tryz.results50 (.tmp rfl (.tmp rfl .nil)) rfl rfl
 ·have hm := ifB_f hb hm
  refine cj_skip ?_
  refine nj_seq ?_
  refine cj_seq ?_
  refine cj_reg ?_
  refine lp rfl (p_mv rfl) ?_
  refine lp rfl (p_mv rfl) ?_
  refine lp rfl (p_lens Tryz.underlying9 rfl) ?_
  refine lp rfl (p_mv rfl) ?_
  refine lp rfl (p_lens Tryz.underlying9 rfl) ?_
  refine lp rfl (p_sub rfl rfl) ?_
  obtain ⟨c2, hc2, hm⟩ := bindS hm
  refine lp rfl (p_strs Tryz.underlying9 rfl rfl rfl rfl rfl rfl rfl hc2) ?_
  refine lp rfl (p_as rfl) ?_
  refine lp rfl (p_as rfl) ?_
  refine lj_seq ?_
  obtain rfl := Option.some.inj hm
  exact cj_rt () [] Tryz.results50 (.tmp rfl (.tmp rfl .nil)) rfl rfl
theorem ok_strings_CutSuffix (a0 : ByteArray) (a1 : ByteArray) {r : ByteArray × Bool} (hm : m_strings_CutSuffix a0 a1 = some r) :
  Ctr Tryz.prog 27 [.string a0, .string a1].toArray ([] : List Ent) [] (X := Unit) (fun _ => .tuple [.string r.1, .bool r.2].toArray) (fun _ => []) := by
 unfold m_strings_CutSuffix at hm
 refine ctr_mk (vs := [(0, .string a0), (1, .string a1)]) Tryz.func27 rfl Tryz.ntmps27 rfl ⟨rfl, rfl, trivial⟩ (fun w0 A => ?_)
 refine cj_seq ?_
 refine cj_reg ?_
 refine lp rfl (p_as rfl) ?_
 refine lp rfl (p_as rfl) ?_
 refine lj_seq ?_
 refine cj_seq ?_
 refine cj_reg ?_
 refine lp rfl (p_mv rfl) ?_
 refine lp rfl (p_mv rfl) ?_
 obtain ⟨y1, hy1, hm⟩ := bindS hm
 refine r_call [] cf50 rfl rfl (ok_stringslite_CutSuffix a0 a1 hy1) rfl rfl .nil (fun _ => rfl) rfl (fun _ => ?_)
 refine lp rfl (p_ext rfl rfl) ?_
 refine lp rfl (p_ext rfl rfl) ?_
 refine lp rfl (p_as rfl) ?_
 refine lp rfl (p_as rfl) ?_
 refine lj_seq ?_
 obtain rfl := Option.some.inj hm
 exact cj_rt () [] Tryz.results27 (.tmp rfl (.tmp rfl .nil)) rfl rfl
theorem ok_piece_Lyrics (s0_ : SV) (a0 : (List TBar)) (s1_ : SV) (a1 : (List TTone)) {r : ByteArray × Int} (hm : m_piece_Lyrics a0 a1 = some r) :
  Ctr Tryz.prog 8 [s0_.v, s1_.v].toArray ([] : List Ent) [RdS R53 (SV.v s0_) a0, RdS R44 (SV.v s1_) a1, UtfT] (X := Unit) (fun _ => .tuple [.string r.1, .int .i64 r.2].toArray) (fun _ => []) := by
 unfold m_piece_Lyrics at hm
 refine ctr_mk (vs := [(0, s0_.v), (1, s1_.v)]) Tryz.func8 rfl Tryz.ntmps8 rfl ⟨rfl, rfl, trivial⟩ (fun w0 A => ?_)
 refine cj_seq ?_
 refine cj_reg ?_
 refine lp rfl (p_as rfl) ?_
 refine lp rfl (p_as rfl) ?_
 refine lj_seq ?_
 refine cj_seq ?_
 refine cj_seq ?_
 refine cj_reg ?_
 refine lp rfl (p_mv rfl) ?_
 refine lp rfl (p_mv rfl) ?_
 obtain ⟨y1, hy1, hm⟩ := bindS hm
 refine r_call [] cf24 rfl rfl (ok_piece_CheckTones s0_ a0 s1_ a1 hy1) rfl rfl (.cons (.ro 0 rfl) (.cons (.ro 1 rfl) (.cons (.ro 2 rfl) .nil))) (fun _ => rfl) rfl (fun _ => ?_)
 refine lp rfl (p_as rfl) ?_
 refine lj_seq ?_
 refine cj_seq ?_
 refine cj_reg ?_
 refine lp rfl (p_mv rfl) ?_
 refine lp rfl (p_neq rfl rfl) ?_
 refine lj_seq ?_
 refine cj_if (b := y1 != 0) rfl (fun hb => ?_) (fun hb => ?_)
 ·have hm := ifB_t hb hm
  refine cj_seq ?_
  refine cj_reg ?_
  refine lp rfl (p_mv rfl) ?_
  refine lp rfl (p_as rfl) ?_
  refine lp rfl (p_as rfl) ?_
  refine lj_seq ?_
  obtain rfl := Option.some.inj hm
  exact cj_rt () [] Tryz.results8 (.tmp rfl (.tmp rfl .nil)) rfl rfl
 ·have hm := ifB_f hb hm
  refine cj_skip ?_
  refine nj_seq ?_
  refine cj_seq ?_
  refine cj_reg ?_
  refine r_alB ty68 5 rfl (fun b2 => ?_)
  refine lj_seq ?_
  refine cj_seq ?_
  refine cj_reg ?_
  refine lp rfl (p_as rfl) ?_
  refine lj_seq ?_
  refine cj_seq ?_
  refine cj_seq ?_
  refine cj_reg ?_
  refine lp rfl (p_mv rfl) ?_
  refine lp rfl (p_mv rfl) ?_
  obtain ⟨y3, hy3, hm⟩ := bindS hm
  refine r_call [] cf26 rfl rfl (ok_piece_playedTones s0_ a0 s1_ a1 hy3) rfl rfl (.cons (.ro 1 rfl) (.cons (.ro 2 rfl) .nil)) (fun _ => rfl) rfl (fun s4 => ?_)
  refine lp rfl (p_len Tryz.underlying28 rfl (.row 0 rfl)) ?_
  refine lp rfl (p_mv rfl) ?_
  refine lj_seq ?_
  obtain ⟨f11, hf11, hm⟩ := bindS hm
  refine cj_range (γ := SV) (m := (y3.length : Int)) hf11 nilS (fun u8 g9 => [(4, .string ByteArray.empty), (5, .int .i64 0), (7, .pointer (some ⟨b2, 0, none⟩)), (8, .string u8.1), (21, s4.v)]) (fun u8 g9 => Sat w0 (keys ([] : List Ent)) A [.row R44 (SV.v s4) y3, .obj (bldO 68 5 b2 g9 u8.2.data.toList), .ro UtfT]) ⟨rfl, rfl, rfl, rfl, rfl, rfl, rfl, trivial⟩ (fun _ h => h.picks [0, 0, 2] rfl) (nat_lt _) (fun _ h => (FactAt.get (F := RdS R44 (SV.v s4) y3) (.row 0 rfl) h).1) (fun _ _ => ⟨rfl, rfl, rfl, rfl⟩) ⟨rfl, rfl, rfl, rfl, rfl⟩ rfl rfl rfl (fun u8 g9 e => ?_) (fun aftk10 i5 x6 u8 g9 k10 hx7 hs J hJk10 hBk10 hX I cnk10 => ?_)
  ·have hm := Flow.fin_b e hm
   refine nj_seq ?_
   refine cj_seq ?_
   refine cj_seq ?_
   refine cj_reg ?_
   refine r_call [1] cf29 rfl rfl (ok_bLen b2 g9 u8.2) rfl rfl .nil (fun _ => rfl) rfl (fun _ => ?_)
   refine lp rfl (p_gtr rfl rfl) ?_
   refine lj_seq ?_
   refine cj_if (b := decide ((u8.2.size : Int) > 200000)) rfl (fun hb => ?_) (fun hb => ?_)
   ·have hm := ifB_t hb hm
    refine cj_seq ?_
    refine cj_reg ?_
    refine lp rfl (p_as rfl) ?_
    refine lp rfl (p_as rfl) ?_
    refine lj_seq ?_
    obtain rfl := Option.some.inj hm
    exact cj_rt () [] Tryz.results8 (.tmp rfl (.tmp rfl .nil)) rfl rfl
   ·have hm := ifB_f hb hm
    refine cj_skip ?_
    refine nj_seq ?_
    refine cj_seq ?_
    refine cj_reg ?_
    refine r_call [0] cf30 rfl rfl (ok_bString b2 g9 u8.2) rfl rfl .nil (fun _ => rfl) rfl (fun _ => ?_)
    refine lp rfl (p_as rfl) ?_
    refine lp rfl (p_as rfl) ?_
    refine lj_seq ?_
    obtain rfl := Option.some.inj hm
    exact cj_rt () [] Tryz.results8 (.tmp rfl (.tmp rfl .nil)) rfl rfl
  ·have hRk10 : ∀ t, k10 = .ret t → some t = some r := fun t e => by rw [hX t e] at hm; exact hm
   have hm := hs
   refine cj_seq ?_
   refine cj_reg ?_
   refine lp rfl (p_idx Tryz.underlying28 ty44 rfl rfl (.row 0 rfl) (getI_nat.trans hx7)) ?_
   refine lp rfl (p_lea ty44 rfl (.row 0 rfl) hx7) ?_
   refine r_al ty44 rfl (fun b12 => ?_)
   refine r_sb (vs := [.int .i64 x6.Note, .int .i64 x6.Long.Num, .int .i64 x6.Long.Den, .string x6.Text, .bool x6.Tied]) (j := 0) ty44 rfl rfl rfl rfl rfl rfl rfl ?_
   refine lj_seq ?_
   refine cj_seq ?_
   refine cj_seq ?_
   refine cj_reg ?_
   refine lp rfl (p_fab fl44_2 rfl) ?_
   refine lp rfl (p_lbs ty9 rfl (j := 0) rfl rfl) ?_
   refine lp rfl (p_eqs rfl rfl) ?_
   refine lj_seq ?_
   refine cj_if (b := x6.Text.toList == ByteArray.empty.toList) rfl (fun hb => ?_) (fun hb => ?_)
   ·have hm := ifB_t hb hm
    refine cj_exit rfl ?_
    exact cnk10 _ _ (u8.1, u8.2) g9 (hJk10 _ (Option.some.inj hm).symm) ⟨rfl, rfl, rfl, rfl, rfl, rfl, rfl, trivial⟩ (fun _ h => h.picks [1, 1, 1] rfl)
   ·have hm := ifB_f hb hm
    refine cj_skip ?_
    refine nj_seq ?_
    refine cj_seq ?_
    refine cj_reg ?_
    refine lp rfl (p_fab fl44_2 rfl) ?_
    refine lp rfl (p_lbs ty9 rfl (j := 0) rfl rfl) ?_
    obtain ⟨y13, hy13, hm⟩ := bindS hm
    refine r_call [] cf27 rfl rfl (ok_strings_CutSuffix x6.Text (ByteArray.mk [45].toArray) hy13) rfl rfl .nil (fun _ => rfl) rfl (fun _ => ?_)
    refine lp rfl (p_mv rfl) ?_
    refine lp rfl (p_ext rfl rfl) ?_
    refine lp rfl (p_ext rfl rfl) ?_
    refine lp rfl (p_as rfl) ?_
    refine lp rfl (p_as rfl) ?_
    refine lj_seq ?_
    refine cj_seq ?_
    refine cj_reg ?_
    refine lp rfl (p_mv rfl) ?_
    refine lp rfl (p_mv rfl) ?_
    obtain ⟨c14, hc14, hm⟩ := bindS hm
    refine lp rfl (p_catM hc14 rfl rfl) ?_
    obtain ⟨y15, hy15, hm⟩ := bindS hm
    refine r_call [2] cf28 rfl rfl (ok_bWriteString b2 g9 u8.2 c14 hy15) rfl rfl .nil (fun _ => rfl) rfl (fun s16 => ?_)
    refine lj_seq ?_
    refine cj_seq ?_
    refine cj_reg ?_
    refine lp rfl (p_as rfl) ?_
    refine lj_seq ?_
    refine cj_seq ?_
    refine cj_reg ?_
    refine lp rfl (p_mv rfl) ?_
    refine lj_seq ?_
    refine cj_if (b := y13.2) rfl (fun hb => ?_) (fun hb => ?_)
    ·have hm := ifB_t hb hm
     refine cj_reg ?_
     refine lp rfl (p_as rfl) ?_
     refine lj_nil ?_
     refine nj_blk ?_
     exact cnk10 _ _ (ByteArray.empty, y15) s16 (hJk10 _ (Option.some.inj hm).symm) ⟨rfl, rfl, rfl, rfl, rfl, rfl, rfl, trivial⟩ (fun _ h => h.picks [2, 0, 1] rfl)
    ·have hm := ifB_f hb hm
     refine cj_skip ?_
     refine nj_blk ?_
     exact cnk10 _ _ ((ByteArray.mk [32].toArray), y15) s16 (hJk10 _ (Option.some.inj hm).symm) ⟨rfl, rfl, rfl, rfl, rfl, rfl, rfl, trivial⟩ (fun _ h => h.picks [2, 0, 1] rfl)
theorem ok_piece_Played (s0_ : SV) (a0 : (List TBar)) (s1_ : SV) (a1 : (List TTone)) {r : (List TTone) × Int} (hm : m_piece_Played a0 a1 = some r) :
  Ctr Tryz.prog 9 [s0_.v, s1_.v].toArray ([] : List Ent) [RdS R53 (SV.v s0_) a0, RdS R44 (SV.v s1_) a1, UtfT] (X := SV) (fun s => .tuple [s.v, .int .i64 r.2].toArray) (fun s => [.row R44 (SV.v s) r.1]) := by
 unfold m_piece_Played at hm
 refine ctr_mk (vs := [(0, s0_.v), (1, s1_.v)]) Tryz.func9 rfl Tryz.ntmps9 rfl ⟨rfl, rfl, trivial⟩ (fun w0 A => ?_)
 refine cj_seq ?_
 refine cj_reg ?_
 refine lp rfl (p_as rfl) ?_
 refine lp rfl (p_as rfl) ?_
 refine lj_seq ?_
 refine cj_seq ?_
 refine cj_seq ?_
 refine cj_reg ?_
 refine lp rfl (p_mv rfl) ?_
 refine lp rfl (p_mv rfl) ?_
 obtain ⟨y1, hy1, hm⟩ := bindS hm
 refine r_call [] cf24 rfl rfl (ok_piece_CheckTones s0_ a0 s1_ a1 hy1) rfl rfl (.cons (.ro 0 rfl) (.cons (.ro 1 rfl) (.cons (.ro 2 rfl) .nil))) (fun _ => rfl) rfl (fun _ => ?_)
 refine lp rfl (p_as rfl) ?_
 refine lj_seq ?_
 refine cj_seq ?_
 refine cj_reg ?_
 refine lp rfl (p_mv rfl) ?_
 refine lp rfl (p_neq rfl rfl) ?_
 refine lj_seq ?_
 refine cj_if (b := y1 != 0) rfl (fun hb => ?_) (fun hb => ?_)
 ·have hm := ifB_t hb hm
  refine cj_seq ?_
  refine cj_reg ?_
  refine lp rfl (p_mv rfl) ?_
  refine lp rfl (p_as rfl) ?_
  refine lp rfl (p_as rfl) ?_
  refine lj_seq ?_
  obtain rfl := Option.some.inj hm
  refine cj_nil R44 ?_
  exact cj_rt nilS [0] Tryz.results9 (.tmp rfl (.tmp rfl .nil)) rfl rfl
 ·have hm := ifB_f hb hm
  refine cj_skip ?_
  refine nj_seq ?_
  refine cj_seq ?_
  refine cj_reg ?_
  refine lp rfl (p_mv rfl) ?_
  refine lp rfl (p_mv rfl) ?_
  obtain ⟨y3, hy3, hm⟩ := bindS hm
  refine r_call [] cf26 rfl rfl (ok_piece_playedTones s0_ a0 s1_ a1 hy3) rfl rfl (.cons (.ro 0 rfl) (.cons (.ro 1 rfl) .nil)) (fun _ => rfl) rfl (fun s4 => ?_)
  refine lp rfl (p_as rfl) ?_
  refine lp rfl (p_as rfl) ?_
  refine lj_seq ?_
  obtain rfl := Option.some.inj hm
  exact cj_rt s4 [0] Tryz.results9 (.tmp rfl (.tmp rfl .nil)) rfl rfl
theorem ok_stringslite_TrimSuffix (a0 : ByteArray) (a1 : ByteArray) {r : ByteArray} (hm : m_stringslite_TrimSuffix a0 a1 = some r) :
  Ctr Tryz.prog 31 [.string a0, .string a1].toArray ([] : List Ent) [] (X := Unit) (fun _ => .string r) (fun _ => []) := by
 unfold m_stringslite_TrimSuffix at hm
 refine ctr_mk (vs := [(0, .string a0), (1, .string a1)]) Tryz.func31 rfl Tryz.ntmps31 rfl ⟨rfl, rfl, trivial⟩ (fun w0 A => ?_)
 refine cj_seq ?_
 refine cj_reg ?_
 refine lp rfl (p_as rfl) ?_
 refine lj_seq ?_
 refine cj_seq ?_
 refine cj_seq ?_
 refine cj_reg ?_
 refine lp rfl (p_mv rfl) ?_
 refine lp rfl (p_mv rfl) ?_
 obtain ⟨y1, hy1, hm⟩ := bindS hm
 refine r_call [] cf52 rfl rfl (ok_stringslite_HasSuffix a0 a1 hy1) rfl rfl .nil (fun _ => rfl) rfl (fun _ => ?_)
 refine lj_seq ?_
 refine cj_if (b := y1) rfl (fun hb => ?_) (fun hb => ?_)
 ·have hm := ifB_t hb hm
  refine cj_seq ?_
  refine cj_reg ?_
  refine lp rfl (p_mv rfl) ?_
  refine lp rfl (p_mv rfl) ?_
  refine lp rfl (p_lens Tryz.underlying9 rfl) ?_
  refine lp rfl (p_mv rfl) ?_
  refine lp rfl (p_lens Tryz.underlying9 rfl) ?_
  refine lp rfl (p_sub rfl rfl) ?_
  obtain ⟨c2, hc2, hm⟩ := bindS hm
  refine lp rfl (p_strs Tryz.underlying9 rfl rfl rfl rfl rfl rfl rfl hc2) ?_
  refine lp rfl (p_as rfl) ?_
  refine lj_seq ?_
  obtain rfl := Option.some.inj hm
  exact cj_rt () [] Tryz.results31 (.tmp rfl .nil) rfl rfl
 ·have hm := ifB_f hb hm
  refine cj_skip ?_
  refine nj_seq ?_
  refine cj_seq ?_
  refine cj_reg ?_
  refine lp rfl (p_mv rfl) ?_
  refine lp rfl (p_as rfl) ?_
  refine lj_seq ?_
  obtain rfl := Option.some.inj hm
  exact cj_rt () [] Tryz.results31 (.tmp rfl .nil) rfl rfl
theorem ok_strings_TrimSuffix (a0 : ByteArray) (a1 : ByteArray) {r : ByteArray} (hm : m_strings_TrimSuffix a0 a1 = some r) :
  Ctr Tryz.prog 10 [.string a0, .string a1].toArray ([] : List Ent) [] (X := Unit) (fun _ => .string r) (fun _ => []) := by
 unfold m_strings_TrimSuffix at hm
 refine ctr_mk (vs := [(0, .string a0), (1, .string a1)]) Tryz.func10 rfl Tryz.ntmps10 rfl ⟨rfl, rfl, trivial⟩ (fun w0 A => ?_)
 refine cj_seq ?_
 refine cj_reg ?_
 refine lp rfl (p_as rfl) ?_
 refine lj_seq ?_
 refine cj_seq ?_
 refine cj_reg ?_
 refine lp rfl (p_mv rfl) ?_
 refine lp rfl (p_mv rfl) ?_
 obtain ⟨y1, hy1, hm⟩ := bindS hm
 refine r_call [] cf31 rfl rfl (ok_stringslite_TrimSuffix a0 a1 hy1) rfl rfl .nil (fun _ => rfl) rfl (fun _ => ?_)
 refine lp rfl (p_as rfl) ?_
 refine lj_seq ?_
 obtain rfl := Option.some.inj hm
 exact cj_rt () [] Tryz.results10 (.tmp rfl .nil) rfl rfl
theorem ok_gleekeep2_errs (s0_ : SV) (a0 : (List Int)) {r : Int} (hm : m_gleekeep2_errs a0 = some r) :
  Ctr Tryz.prog 11 [s0_.v].toArray ([] : List Ent) [RdS R31 (SV.v s0_) a0] (X := Unit) (fun _ => .int .i64 r) (fun _ => []) := by
 unfold m_gleekeep2_errs at hm
 refine ctr_mk (vs := [(0, s0_.v)]) Tryz.func11 rfl Tryz.ntmps11 rfl ⟨rfl, trivial⟩ (fun w0 A => ?_)
 refine cj_seq ?_
 refine cj_reg ?_
 refine lp rfl (p_as rfl) ?_
 refine lj_seq ?_
 refine cj_seq ?_
 refine cj_seq ?_
 refine cj_reg ?_
 refine lp rfl (p_mv rfl) ?_
 refine lp rfl (p_len Tryz.underlying78 rfl (.ro 0 rfl)) ?_
 refine lp rfl (p_mv rfl) ?_
 refine lj_seq ?_
 obtain ⟨f7, hf7, hm⟩ := bindS hm
 refine cj_range (γ := Unit) (m := (a0.length : Int)) hf7 () (fun u4 g5 => [(2, .int .i64 0), (5, s0_.v)]) (fun u4 g5 => Sat w0 (keys ([] : List Ent)) A [.ro (RdS R31 (SV.v s0_) a0)]) ⟨rfl, rfl, rfl, rfl, trivial⟩ (fun _ h => h.picks [0] rfl) (nat_lt _) (fun _ h => (FactAt.get (F := RdS R31 (SV.v s0_) a0) (.ro 0 rfl) h).1) (fun _ _ => ⟨rfl, rfl, rfl, rfl⟩) ⟨rfl, rfl, rfl, rfl, rfl⟩ rfl rfl rfl (fun u4 g5 e => ?_) (fun aftk6 i1 x2 u4 g5 k6 hx3 hs J hJk6 hBk6 hX I cnk6 => ?_)
 ·have hm := Flow.fin_b e hm
  refine nj_seq ?_
  refine cj_seq ?_
  refine cj_reg ?_
  refine lp rfl (p_as rfl) ?_
  refine lj_seq ?_
  obtain rfl := Option.some.inj hm
  exact cj_rt () [] Tryz.results11 (.tmp rfl .nil) rfl rfl
 ·have hRk6 : ∀ t, k6 = .ret t → some t = some r := fun t e => by rw [hX t e] at hm; exact hm
  have hm := hs
  refine cj_seq ?_
  refine cj_reg ?_
  refine lp rfl (p_idx Tryz.underlying78 ty31 rfl rfl (.ro 0 rfl) (getI_nat.trans hx3)) ?_
  refine lp rfl (p_lde (o := 0) ty31 rfl rfl (.ro 0 rfl) hx3 rfl) ?_
  refine lp rfl (p_as rfl) ?_
  refine lj_seq ?_
  refine cj_seq ?_
  refine cj_reg ?_
  refine lp rfl (p_mv rfl) ?_
  refine lp rfl (p_neq rfl rfl) ?_
  refine lj_seq ?_
  refine cj_if (b := x2 != 0) rfl (fun hb => ?_) (fun hb => ?_)
  ·have hm := ifB_t hb hm
   refine cj_seq ?_
   refine cj_reg ?_
   refine lp rfl (p_mv rfl) ?_
   refine lp rfl (p_as rfl) ?_
   refine lj_seq ?_
   have hm := hRk6 _ (Option.some.inj hm).symm
   obtain rfl := Option.some.inj hm
   exact cj_rt () [] Tryz.results11 (.tmp rfl .nil) rfl rfl
  ·have hm := ifB_f hb hm
   refine cj_skip ?_
   refine nj_blk ?_
   exact cnk6 _ _ () () (hJk6 _ (Option.some.inj hm).symm) ⟨rfl, rfl, rfl, rfl, trivial⟩ (fun _ h => h.picks [0] rfl)
end Go.Proofs.YtdeoejkgmeemaagGreatDoor
