/- The walks. Written by program. -/
import Derived.Test.YtndkkkgkmeijlaaDoorD
import Derived.Test.YtndkkkgkmeijlaaDoorXN
namespace Go.Proofs.YtndkkkgkmeijlaaDoor
open Go Go.J Go.G
set_option maxRecDepth 100000
set_option linter.unusedVariables false
theorem ok_gleemake_Below (a0 : Int) (a1 : Int) {r : Int} (hm : m_gleemake_Below a0 a1 = some r) :
    Ctr Tryd.prog 120 [.int .i64 a0, .int .i64 a1].toArray ([] : List Ent) [] (X := Unit) (fun _ => .int .i64 r) (fun _ => []) := by
  unfold m_gleemake_Below at hm
  refine ctr_mk (vs := [(0, .int .i64 a0), (1, .int .i64 a1)]) Tryd.func120 rfl Tryd.ntmps120 rfl ⟨rfl, rfl, trivial⟩ (fun w0 A => ?_)
  refine cj_seq ?_
  refine cj_reg ?_
  refine lp rfl (p_as rfl) ?_
  refine lj_seq ?_
  refine cj_seq ?_
  refine cj_seq ?_
  refine cj_reg ?_
  refine lp rfl (p_mv rfl) ?_
  refine lp rfl (p_lss rfl rfl) ?_
  refine lj_seq ?_
  refine cj_if (b := decide (a1 < 1)) rfl (fun hb => ?_) (fun hb => ?_)
  · have hm := ifB_t hb hm
    refine cj_seq ?_
    refine cj_reg ?_
    refine lp rfl (p_as rfl) ?_
    refine lj_seq ?_
    obtain rfl := Option.some.inj hm
    exact cj_rt () [] Tryd.results120 (.tmp rfl .nil) rfl rfl
  · have hm := ifB_f hb hm
    refine cj_skip ?_
    refine nj_seq ?_
    refine cj_seq ?_
    refine cj_reg ?_
    refine lp rfl (p_mv rfl) ?_
    refine lp rfl (p_mv rfl) ?_
    obtain ⟨z1, hz1, hm⟩ := bindS hm
    refine lp rfl (p_remM hz1 rfl rfl) ?_
    refine lp rfl (p_as rfl) ?_
    refine lj_seq ?_
    refine cj_seq ?_
    refine cj_seq ?_
    refine cj_reg ?_
    refine lp rfl (p_mv rfl) ?_
    refine lp rfl (p_lss rfl rfl) ?_
    refine lj_seq ?_
    refine cj_if (b := decide (z1 < 0)) rfl (fun hb => ?_) (fun hb => ?_)
    · have hm := ifB_t hb hm
      refine cj_reg ?_
      refine lp rfl (p_mv rfl) ?_
      refine lp rfl (p_mv rfl) ?_
      refine lp rfl (p_add rfl rfl) ?_
      refine lp rfl (p_as rfl) ?_
      refine lj_seq ?_
      refine cj_seq ?_
      refine cj_reg ?_
      refine lp rfl (p_mv rfl) ?_
      refine lp rfl (p_as rfl) ?_
      refine lj_seq ?_
      obtain rfl := Option.some.inj hm
      exact cj_rt () [] Tryd.results120 (.tmp rfl .nil) rfl rfl
    · have hm := ifB_f hb hm
      refine cj_skip ?_
      refine nj_seq ?_
      refine cj_seq ?_
      refine cj_reg ?_
      refine lp rfl (p_mv rfl) ?_
      refine lp rfl (p_as rfl) ?_
      refine lj_seq ?_
      obtain rfl := Option.some.inj hm
      exact cj_rt () [] Tryd.results120 (.tmp rfl .nil) rfl rfl
theorem ok_gleemake_Stream_Next (b0_ : Nat) (s0_0_ : SV) (a0_0 : (List Int)) (a0_1 : Int) (a1 : Int) {r : Int × Int} (hm : m_gleemake_Stream_Next a0_0 a0_1 a1 = some r) :
    Ctr Tryd.prog 63 [.pointer (some ⟨b0_, 0, none⟩), .int .i64 a1].toArray [.box b0_ 25 [s0_0_.v, .int .i64 a0_1]] [RdS R3 (SV.v s0_0_) a0_0] (X := Unit) (fun _ => .int .i64 r.1) (fun _ => [.box b0_ 25 [s0_0_.v, .int .i64 r.2]]) := by
  unfold m_gleemake_Stream_Next at hm
  refine ctr_mk (vs := [(0, .pointer (some ⟨b0_, 0, none⟩)), (1, .int .i64 a1)]) Tryd.func63 rfl Tryd.ntmps63 rfl ⟨rfl, rfl, trivial⟩ (fun w0 A => ?_)
  refine cj_seq ?_
  refine cj_reg ?_
  refine lp rfl (p_as rfl) ?_
  refine lj_seq ?_
  refine cj_seq ?_
  refine cj_reg ?_
  refine lp rfl (p_mv rfl) ?_
  refine lp rfl (p_nc rfl) ?_
  refine lp rfl (p_fab fl25_1 rfl) ?_
  refine lp rfl (p_lbs ty3 rfl (j := 0) rfl rfl) ?_
  refine lp rfl (p_add rfl rfl) ?_
  refine lp rfl (p_nc rfl) ?_
  refine lp rfl (p_fab fl25_1 rfl) ?_
  refine r_sb (vs := [.int .i64 (w64 (a0_1 + 1))]) (j := 0) ty3 rfl rfl rfl rfl rfl rfl rfl ?_
  refine lj_seq ?_
  refine cj_seq ?_
  refine cj_seq ?_
  refine cj_reg ?_
  refine lp rfl (p_mv rfl) ?_
  refine lp rfl (p_nc rfl) ?_
  refine lp rfl (p_fab fl25_0 rfl) ?_
  refine lp rfl (p_lbs ty22 rfl (j := 0) rfl rfl) ?_
  refine lp rfl (p_len Tryd.underlying22 rfl (.ro 1 rfl)) ?_
  refine lp rfl (p_eql rfl rfl) ?_
  refine lj_seq ?_
  refine cj_if (b := (a0_0.length : Int) == 0) rfl (fun hb => ?_) (fun hb => ?_)
  · have hm := ifB_t hb hm
    refine cj_seq ?_
    refine cj_reg ?_
    refine lp rfl (p_mv rfl) ?_
    refine lp rfl (p_nc rfl) ?_
    refine lp rfl (p_fab fl25_1 rfl) ?_
    refine lp rfl (p_lbs ty3 rfl (j := 0) rfl rfl) ?_
    refine lp rfl (p_mul rfl rfl) ?_
    refine lp rfl (p_mv rfl) ?_
    obtain ⟨y1, hy1, hm⟩ := bindS hm
    refine r_call [] cf120 rfl rfl (ok_gleemake_Below (w64 ((w64 (a0_1 + 1)) * 7919)) a1 hy1) rfl rfl .nil (fun _ => rfl) rfl (fun _ => ?_)
    refine lp rfl (p_as rfl) ?_
    refine lj_seq ?_
    obtain rfl := Option.some.inj hm
    exact cj_rt () [0] Tryd.results63 (.tmp rfl .nil) rfl rfl
  · have hm := ifB_f hb hm
    refine cj_skip ?_
    refine nj_seq ?_
    refine cj_seq ?_
    refine cj_quiet (by kernel_rfl) (by kernel_rfl) ?_
    refine q_p rfl (p_mv rfl) ?_
    refine q_p rfl (p_nc rfl) ?_
    refine q_p rfl (p_fab fl25_1 rfl) ?_
    refine q_p rfl (p_lbs ty3 rfl (j := 0) rfl rfl) ?_
    refine q_p rfl (p_sub rfl rfl) ?_
    refine q_p rfl (p_mv rfl) ?_
    refine q_p rfl (p_nc rfl) ?_
    refine q_p rfl (p_fab fl25_0 rfl) ?_
    refine q_p rfl (p_lbs ty22 rfl (j := 0) rfl rfl) ?_
    refine q_p rfl (p_len Tryd.underlying22 rfl (.ro 1 rfl)) ?_
    obtain ⟨z2, hz2, hm⟩ := bindS hm
    refine q_p rfl (p_remM hz2 rfl rfl) ?_
    refine q_p rfl (p_as rfl) ?_
    refine q_nil ?_
    refine nj_seq ?_
    refine cj_seq ?_
    refine cj_quiet (by kernel_rfl) (by kernel_rfl) ?_
    refine q_p rfl (p_mv rfl) ?_
    refine q_p rfl (p_nc rfl) ?_
    refine q_p rfl (p_fab fl25_1 rfl) ?_
    refine q_p rfl (p_lbs ty3 rfl (j := 0) rfl rfl) ?_
    refine q_p rfl (p_sub rfl rfl) ?_
    refine q_p rfl (p_mv rfl) ?_
    refine q_p rfl (p_nc rfl) ?_
    refine q_p rfl (p_fab fl25_0 rfl) ?_
    refine q_p rfl (p_lbs ty22 rfl (j := 0) rfl rfl) ?_
    refine q_p rfl (p_len Tryd.underlying22 rfl (.ro 1 rfl)) ?_
    obtain ⟨z3, hz3, hm⟩ := bindS hm
    refine q_p rfl (p_quoM hz3 rfl rfl) ?_
    refine q_p rfl (p_as rfl) ?_
    refine q_nil ?_
    refine nj_seq ?_
    refine cj_seq ?_
    refine cj_reg ?_
    refine lp rfl (p_mv rfl) ?_
    refine lp rfl (p_nc rfl) ?_
    refine lp rfl (p_fab fl25_0 rfl) ?_
    refine lp rfl (p_lbs ty22 rfl (j := 0) rfl rfl) ?_
    refine lp rfl (p_mv rfl) ?_
    obtain ⟨e4, he4, hm⟩ := bindS hm
    refine lp rfl (p_idx Tryd.underlying22 ty3 rfl rfl (.ro 1 rfl) he4) ?_
    refine lp rfl (p_lde (o := 0) ty3 rfl rfl (.ro 1 rfl) (getI_spec he4).2 rfl) ?_
    obtain ⟨y5, hy5, hm⟩ := bindS hm
    refine r_call [] cf120 rfl rfl (ok_gleemake_Below e4 1073741824 hy5) rfl rfl .nil (fun _ => rfl) rfl (fun _ => ?_)
    refine lp rfl (p_mv rfl) ?_
    refine lp rfl (p_mv rfl) ?_
    refine lp rfl (p_add rfl rfl) ?_
    refine lp rfl (p_mul rfl rfl) ?_
    refine lp rfl (p_add rfl rfl) ?_
    refine lp rfl (p_mv rfl) ?_
    obtain ⟨y6, hy6, hm⟩ := bindS hm
    refine r_call [] cf120 rfl rfl (ok_gleemake_Below (w64 (y5 + (w64 (z3 * (w64 (7919 + z2)))))) a1 hy6) rfl rfl .nil (fun _ => rfl) rfl (fun _ => ?_)
    refine lp rfl (p_as rfl) ?_
    refine lj_seq ?_
    obtain rfl := Option.some.inj hm
    exact cj_rt () [0] Tryd.results63 (.tmp rfl .nil) rfl rfl
theorem ok_gleemake_Stream_Flip (b0_ : Nat) (s0_0_ : SV) (a0_0 : (List Int)) (a0_1 : Int) (a1 : Int) {r : Bool × Int} (hm : m_gleemake_Stream_Flip a0_0 a0_1 a1 = some r) :
    Ctr Tryd.prog 31 [.pointer (some ⟨b0_, 0, none⟩), .int .i64 a1].toArray [.box b0_ 25 [s0_0_.v, .int .i64 a0_1]] [RdS R3 (SV.v s0_0_) a0_0] (X := Unit) (fun _ => .bool r.1) (fun _ => [.box b0_ 25 [s0_0_.v, .int .i64 r.2]]) := by
  unfold m_gleemake_Stream_Flip at hm
  refine ctr_mk (vs := [(0, .pointer (some ⟨b0_, 0, none⟩)), (1, .int .i64 a1)]) Tryd.func31 rfl Tryd.ntmps31 rfl ⟨rfl, rfl, trivial⟩ (fun w0 A => ?_)
  refine cj_seq ?_
  refine cj_reg ?_
  refine lp rfl (p_as rfl) ?_
  refine lj_seq ?_
  refine cj_seq ?_
  refine cj_reg ?_
  refine lp rfl (p_mv rfl) ?_
  refine lp rfl (p_mv rfl) ?_
  obtain ⟨y1, hy1, hm⟩ := bindS hm
  refine r_call [0] cf63 rfl rfl (ok_gleemake_Stream_Next b0_ s0_0_ a0_0 a0_1 a1 hy1) rfl rfl (.cons (.ro 0 rfl) .nil) (fun _ => rfl) rfl (fun _ => ?_)
  refine lp rfl (p_eql rfl rfl) ?_
  refine lp rfl (p_as rfl) ?_
  refine lj_seq ?_
  obtain rfl := Option.some.inj hm
  exact cj_rt () [0] Tryd.results31 (.tmp rfl .nil) rfl rfl
theorem ok_gleemake_Stream_Pick (b0_ : Nat) (s0_0_ : SV) (a0_0 : (List Int)) (a0_1 : Int) (s1_ : SV) (a1 : (List Int)) {r : Int × Int} (hm : m_gleemake_Stream_Pick a0_0 a0_1 a1 = some r) :
    Ctr Tryd.prog 10 [.pointer (some ⟨b0_, 0, none⟩), s1_.v].toArray [.box b0_ 25 [s0_0_.v, .int .i64 a0_1]] [RdS R3 (SV.v s0_0_) a0_0, RdS R3 (SV.v s1_) a1] (X := Unit) (fun _ => .int .i64 r.1) (fun _ => [.box b0_ 25 [s0_0_.v, .int .i64 r.2]]) := by
  unfold m_gleemake_Stream_Pick at hm
  refine ctr_mk (vs := [(0, .pointer (some ⟨b0_, 0, none⟩)), (1, s1_.v)]) Tryd.func10 rfl Tryd.ntmps10 rfl ⟨rfl, rfl, trivial⟩ (fun w0 A => ?_)
  refine cj_seq ?_
  refine cj_reg ?_
  refine lp rfl (p_as rfl) ?_
  refine lj_seq ?_
  refine cj_seq ?_
  refine cj_reg ?_
  refine lp rfl (p_mv rfl) ?_
  refine lp rfl (p_mv rfl) ?_
  refine lp rfl (p_mv rfl) ?_
  refine lp rfl (p_len Tryd.underlying22 rfl (.ro 2 rfl)) ?_
  obtain ⟨y1, hy1, hm⟩ := bindS hm
  refine r_call [0] cf63 rfl rfl (ok_gleemake_Stream_Next b0_ s0_0_ a0_0 a0_1 (a1.length : Int) hy1) rfl rfl (.cons (.ro 0 rfl) .nil) (fun _ => rfl) rfl (fun _ => ?_)
  obtain ⟨e2, he2, hm⟩ := bindS hm
  refine lp rfl (p_idx Tryd.underlying22 ty3 rfl rfl (.ro 2 rfl) he2) ?_
  refine lp rfl (p_lde (o := 0) ty3 rfl rfl (.ro 2 rfl) (getI_spec he2).2 rfl) ?_
  refine lp rfl (p_as rfl) ?_
  refine lj_seq ?_
  obtain rfl := Option.some.inj hm
  exact cj_rt () [0] Tryd.results10 (.tmp rfl .nil) rfl rfl
theorem ok_gleemake_Stream_Range (b0_ : Nat) (s0_0_ : SV) (a0_0 : (List Int)) (a0_1 : Int) (a1 : Int) (a2 : Int) {r : Int × Int} (hm : m_gleemake_Stream_Range a0_0 a0_1 a1 a2 = some r) :
    Ctr Tryd.prog 12 [.pointer (some ⟨b0_, 0, none⟩), .int .i64 a1, .int .i64 a2].toArray [.box b0_ 25 [s0_0_.v, .int .i64 a0_1]] [RdS R3 (SV.v s0_0_) a0_0] (X := Unit) (fun _ => .int .i64 r.1) (fun _ => [.box b0_ 25 [s0_0_.v, .int .i64 r.2]]) := by
  unfold m_gleemake_Stream_Range at hm
  refine ctr_mk (vs := [(0, .pointer (some ⟨b0_, 0, none⟩)), (1, .int .i64 a1), (2, .int .i64 a2)]) Tryd.func12 rfl Tryd.ntmps12 rfl ⟨rfl, rfl, rfl, trivial⟩ (fun w0 A => ?_)
  refine cj_seq ?_
  refine cj_reg ?_
  refine lp rfl (p_as rfl) ?_
  refine lj_seq ?_
  refine cj_seq ?_
  refine cj_seq ?_
  refine cj_reg ?_
  refine lp rfl (p_mv rfl) ?_
  refine lp rfl (p_mv rfl) ?_
  refine lp rfl (p_lss rfl rfl) ?_
  refine lj_seq ?_
  refine cj_if (b := decide (a2 < a1)) rfl (fun hb => ?_) (fun hb => ?_)
  · have hm := ifB_t hb hm
    refine cj_seq ?_
    refine cj_reg ?_
    refine lp rfl (p_mv rfl) ?_
    refine lp rfl (p_as rfl) ?_
    refine lj_seq ?_
    obtain rfl := Option.some.inj hm
    exact cj_rt () [0] Tryd.results12 (.tmp rfl .nil) rfl rfl
  · have hm := ifB_f hb hm
    refine cj_skip ?_
    refine nj_seq ?_
    refine cj_seq ?_
    refine cj_reg ?_
    refine lp rfl (p_mv rfl) ?_
    refine lp rfl (p_mv rfl) ?_
    refine lp rfl (p_mv rfl) ?_
    refine lp rfl (p_mv rfl) ?_
    refine lp rfl (p_sub rfl rfl) ?_
    refine lp rfl (p_add rfl rfl) ?_
    obtain ⟨y1, hy1, hm⟩ := bindS hm
    refine r_call [0] cf63 rfl rfl (ok_gleemake_Stream_Next b0_ s0_0_ a0_0 a0_1 (w64 ((w64 (a2 - a1)) + 1)) hy1) rfl rfl (.cons (.ro 0 rfl) .nil) (fun _ => rfl) rfl (fun _ => ?_)
    refine lp rfl (p_add rfl rfl) ?_
    refine lp rfl (p_as rfl) ?_
    refine lj_seq ?_
    obtain rfl := Option.some.inj hm
    exact cj_rt () [0] Tryd.results12 (.tmp rfl .nil) rfl rfl
theorem ok_gleemake_Stream_Odd (b0_ : Nat) (s0_0_ : SV) (a0_0 : (List Int)) (a0_1 : Int) (a1 : Int) (a2 : Int) {r : Int × Int} (hm : m_gleemake_Stream_Odd a0_0 a0_1 a1 a2 = some r) :
    Ctr Tryd.prog 62 [.pointer (some ⟨b0_, 0, none⟩), .int .i64 a1, .int .i64 a2].toArray [.box b0_ 25 [s0_0_.v, .int .i64 a0_1]] [RdS R3 (SV.v s0_0_) a0_0] (X := Unit) (fun _ => .int .i64 r.1) (fun _ => [.box b0_ 25 [s0_0_.v, .int .i64 r.2]]) := by
  unfold m_gleemake_Stream_Odd at hm
  refine ctr_mk (vs := [(0, .pointer (some ⟨b0_, 0, none⟩)), (1, .int .i64 a1), (2, .int .i64 a2)]) Tryd.func62 rfl Tryd.ntmps62 rfl ⟨rfl, rfl, rfl, trivial⟩ (fun w0 A => ?_)
  refine cj_seq ?_
  refine cj_reg ?_
  refine lp rfl (p_as rfl) ?_
  refine lj_seq ?_
  refine cj_seq ?_
  refine cj_seq ?_
  refine cj_reg ?_
  refine lp rfl (p_mv rfl) ?_
  obtain ⟨y1, hy1, hm⟩ := bindS hm
  refine r_call [0] cf31 rfl rfl (ok_gleemake_Stream_Flip b0_ s0_0_ a0_0 a0_1 12 hy1) rfl rfl (.cons (.ro 0 rfl) .nil) (fun _ => rfl) rfl (fun _ => ?_)
  refine lj_seq ?_
  refine cj_if (b := y1.1) rfl (fun hb => ?_) (fun hb => ?_)
  · have hm := ifB_t hb hm
    refine cj_seq ?_
    refine cj_reg ?_
    refine lp rfl (p_mv rfl) ?_
    refine lp rfl (p_mv rfl) ?_
    refine lp rfl (p_sub rfl rfl) ?_
    refine lp rfl (p_mv rfl) ?_
    refine lp rfl (p_add rfl rfl) ?_
    refine lp rfl (p_mv rfl) ?_
    refine lp rfl (p_mv rfl) ?_
    refine r_bs R3 [w64 (a1 - 1), w64 (a2 + 1), a1, a2, (-1099511627776), 1099511627776] rfl rfl rfl (fun _ => by kernel_rfl) rfl (fun s2 => ?_)
    obtain ⟨y3, hy3, hm⟩ := bindS hm
    refine r_call [1] cf10 rfl rfl (ok_gleemake_Stream_Pick b0_ s0_0_ a0_0 y1.2 s2 [w64 (a1 - 1), w64 (a2 + 1), a1, a2, (-1099511627776), 1099511627776] hy3) rfl rfl (.cons (.ro 1 rfl) (.cons (.row 0 rfl) .nil)) (fun _ => rfl) rfl (fun _ => ?_)
    refine lp rfl (p_as rfl) ?_
    refine lj_seq ?_
    obtain rfl := Option.some.inj hm
    exact cj_rt () [0] Tryd.results62 (.tmp rfl .nil) rfl rfl
  · have hm := ifB_f hb hm
    refine cj_skip ?_
    refine nj_seq ?_
    refine cj_seq ?_
    refine cj_reg ?_
    refine lp rfl (p_mv rfl) ?_
    refine lp rfl (p_mv rfl) ?_
    refine lp rfl (p_mv rfl) ?_
    obtain ⟨y4, hy4, hm⟩ := bindS hm
    refine r_call [0] cf12 rfl rfl (ok_gleemake_Stream_Range b0_ s0_0_ a0_0 y1.2 a1 a2 hy4) rfl rfl (.cons (.ro 0 rfl) .nil) (fun _ => rfl) rfl (fun _ => ?_)
    refine lp rfl (p_as rfl) ?_
    refine lj_seq ?_
    obtain rfl := Option.some.inj hm
    exact cj_rt () [0] Tryd.results62 (.tmp rfl .nil) rfl rfl
theorem ok_gleemake_Stream_AChord (b0_ : Nat) (s0_0_ : SV) (a0_0 : (List Int)) (a0_1 : Int) {r : TChord × Int} (hm : m_gleemake_Stream_AChord a0_0 a0_1 = some r) :
    Ctr Tryd.prog 9 [.pointer (some ⟨b0_, 0, none⟩)].toArray [.box b0_ 25 [s0_0_.v, .int .i64 a0_1]] [RdS R3 (SV.v s0_0_) a0_0] (X := Unit) (fun _ => .agg (R28.enc r.1).toArray) (fun _ => [.box b0_ 25 [s0_0_.v, .int .i64 r.2]]) := by
  unfold m_gleemake_Stream_AChord at hm
  refine ctr_mk (vs := [(0, .pointer (some ⟨b0_, 0, none⟩))]) Tryd.func9 rfl Tryd.ntmps9 rfl ⟨rfl, trivial⟩ (fun w0 A => ?_)
  refine cj_seq ?_
  refine cj_reg ?_
  refine r_al ty28 rfl (fun b1 => ?_)
  refine lj_seq ?_
  refine cj_seq ?_
  refine cj_seq ?_
  refine cj_reg ?_
  refine lp rfl (p_mv rfl) ?_
  obtain ⟨y2, hy2, hm⟩ := bindS hm
  refine r_call [1] cf31 rfl rfl (ok_gleemake_Stream_Flip b0_ s0_0_ a0_0 a0_1 40 hy2) rfl rfl (.cons (.ro 1 rfl) .nil) (fun _ => rfl) rfl (fun _ => ?_)
  refine lj_seq ?_
  refine cj_if (b := y2.1) rfl (fun hb => ?_) (fun hb => ?_)
  · have hm := ifB_t hb hm
    refine cj_seq ?_
    refine cj_reg ?_
    refine lp rfl (p_mv rfl) ?_
    obtain ⟨y3, hy3, hm⟩ := bindS hm
    refine r_call [0] cf62 rfl rfl (ok_gleemake_Stream_Odd b0_ s0_0_ a0_0 y2.2 0 11 hy3) rfl rfl (.cons (.ro 1 rfl) .nil) (fun _ => rfl) rfl (fun _ => ?_)
    refine lp rfl (p_mv rfl) ?_
    obtain ⟨y4, hy4, hm⟩ := bindS hm
    refine r_call [0] cf62 rfl rfl (ok_gleemake_Stream_Odd b0_ s0_0_ a0_0 y3.2 1 7 hy4) rfl rfl (.cons (.ro 1 rfl) .nil) (fun _ => rfl) rfl (fun _ => ?_)
    refine lp rfl (p_mv rfl) ?_
    obtain ⟨y5, hy5, hm⟩ := bindS hm
    refine r_call [0] cf62 rfl rfl (ok_gleemake_Stream_Odd b0_ s0_0_ a0_0 y4.2 0 3 hy5) rfl rfl (.cons (.ro 1 rfl) .nil) (fun _ => rfl) rfl (fun _ => ?_)
    refine lp rfl (p_bld [.int .i64 y3.1, .int .i64 y4.1, .int .i64 y5.1] rfl (fun _ => by kernel_rfl)) ?_
    refine r_sb (vs := [.int .i64 y3.1, .int .i64 y4.1, .int .i64 y5.1]) (j := 1) ty28 rfl rfl rfl rfl rfl rfl rfl ?_
    refine lj_seq ?_
    obtain rfl := Option.some.inj hm
    exact cj_rt () [0] Tryd.results9 (.agg (k := 1) ty28 rfl rfl rfl .nil) rfl rfl
  · have hm := ifB_f hb hm
    refine cj_skip ?_
    refine nj_seq ?_
    refine cj_seq ?_
    refine cj_reg ?_
    refine lp rfl (p_mv rfl) ?_
    obtain ⟨y6, hy6, hm⟩ := bindS hm
    refine r_call [0] cf12 rfl rfl (ok_gleemake_Stream_Range b0_ s0_0_ a0_0 y2.2 0 11 hy6) rfl rfl (.cons (.ro 1 rfl) .nil) (fun _ => rfl) rfl (fun _ => ?_)
    refine lp rfl (p_mv rfl) ?_
    obtain ⟨y7, hy7, hm⟩ := bindS hm
    refine r_call [0] cf12 rfl rfl (ok_gleemake_Stream_Range b0_ s0_0_ a0_0 y6.2 1 7 hy7) rfl rfl (.cons (.ro 1 rfl) .nil) (fun _ => rfl) rfl (fun _ => ?_)
    refine lp rfl (p_mv rfl) ?_
    refine r_bs R3 [0, 0, 0, 1, 2] rfl rfl rfl (fun _ => by kernel_rfl) rfl (fun s8 => ?_)
    obtain ⟨y9, hy9, hm⟩ := bindS hm
    refine r_call [1] cf10 rfl rfl (ok_gleemake_Stream_Pick b0_ s0_0_ a0_0 y7.2 s8 [0, 0, 0, 1, 2] hy9) rfl rfl (.cons (.ro 2 rfl) (.cons (.row 0 rfl) .nil)) (fun _ => rfl) rfl (fun _ => ?_)
    refine lp rfl (p_bld [.int .i64 y6.1, .int .i64 y7.1, .int .i64 y9.1] rfl (fun _ => by kernel_rfl)) ?_
    refine r_sb (vs := [.int .i64 y6.1, .int .i64 y7.1, .int .i64 y9.1]) (j := 2) ty28 rfl rfl rfl rfl rfl rfl rfl ?_
    refine lj_seq ?_
    obtain rfl := Option.some.inj hm
    exact cj_rt () [0] Tryd.results9 (.agg (k := 2) ty28 rfl rfl rfl .nil) rfl rfl
theorem ok_gleeref2_roots  {r : (List ByteArray)} (hm : m_gleeref2_roots  = some r) :
    Ctr Tryd.prog 116 [].toArray ([] : List Ent) [] (X := SV) (fun s => s.v) (fun s => [.row R9 (SV.v s) r]) := by
  unfold m_gleeref2_roots at hm
  refine ctr_mk (vs := []) Tryd.func116 rfl Tryd.ntmps116 rfl trivial (fun w0 A => ?_)
  refine cj_seq ?_
  refine cj_reg ?_
  refine lp rfl (p_as rfl) ?_
  refine lj_seq ?_
  refine cj_seq ?_
  refine cj_reg ?_
  refine r_bs R9 [(ByteArray.mk [99].toArray), (ByteArray.mk [99, 35].toArray), (ByteArray.mk [100].toArray), (ByteArray.mk [100, 35].toArray), (ByteArray.mk [101].toArray), (ByteArray.mk [102].toArray), (ByteArray.mk [102, 35].toArray), (ByteArray.mk [103].toArray), (ByteArray.mk [103, 35].toArray), (ByteArray.mk [97].toArray), (ByteArray.mk [97, 35].toArray), (ByteArray.mk [98].toArray)] rfl rfl rfl (fun _ => by kernel_rfl) rfl (fun s1 => ?_)
  refine lp rfl (p_as rfl) ?_
  refine lj_seq ?_
  obtain rfl := Option.some.inj hm
  exact cj_rt s1 [0] Tryd.results116 (.tmp rfl .nil) rfl rfl
theorem ok_gleeref2_kinds  {r : (List ByteArray)} (hm : m_gleeref2_kinds  = some r) :
    Ctr Tryd.prog 117 [].toArray ([] : List Ent) [] (X := SV) (fun s => s.v) (fun s => [.row R9 (SV.v s) r]) := by
  unfold m_gleeref2_kinds at hm
  refine ctr_mk (vs := []) Tryd.func117 rfl Tryd.ntmps117 rfl trivial (fun w0 A => ?_)
  refine cj_seq ?_
  refine cj_reg ?_
  refine lp rfl (p_as rfl) ?_
  refine lj_seq ?_
  refine cj_seq ?_
  refine cj_reg ?_
  refine r_bs R9 [ByteArray.empty, (ByteArray.mk [109, 97, 106].toArray), (ByteArray.mk [109, 105, 110].toArray), (ByteArray.mk [100, 105, 109].toArray), (ByteArray.mk [97, 117, 103].toArray), (ByteArray.mk [55].toArray), (ByteArray.mk [109, 97, 106, 55].toArray), (ByteArray.mk [109, 105, 110, 55].toArray)] rfl rfl rfl (fun _ => by kernel_rfl) rfl (fun s1 => ?_)
  refine lp rfl (p_as rfl) ?_
  refine lj_seq ?_
  obtain rfl := Option.some.inj hm
  exact cj_rt s1 [0] Tryd.results117 (.tmp rfl .nil) rfl rfl
theorem ok_gleeref2_NameOf (a0 : TChord) {r : ByteArray} (hm : m_gleeref2_NameOf a0 = some r) :
    Ctr Tryd.prog 59 [.agg (R28.enc a0).toArray].toArray ([] : List Ent) [PowT] (X := Unit) (fun _ => .string r) (fun _ => []) := by
  unfold m_gleeref2_NameOf at hm
  refine ctr_mk (vs := [(0, .agg (R28.enc a0).toArray)]) Tryd.func59 rfl Tryd.ntmps59 rfl ⟨rfl, trivial⟩ (fun w0 A => ?_)
  refine cj_seq ?_
  refine cj_reg ?_
  refine r_bx (cs := [.int .i64 a0.Root, .int .i64 a0.Kind, .int .i64 a0.Turn]) rfl rfl rfl (fun b1 => ?_)
  refine lp rfl (p_as rfl) ?_
  refine lj_seq ?_
  refine cj_seq ?_
  obtain ⟨k4, hk4, hm⟩ := bindS hm
  have hRk4 : ∀ t, k4 = .inr t → some t = some r := fun t e => by rw [e] at hm; exact hm
  refine cj_joinK (σ := ByteArray) (γ := Unit) (fun u2 => k4 = .inl u2) (fun u2 g3 => [(1, .pointer (some ⟨b1, 0, none⟩)), (2, .string ByteArray.empty), (3, .string u2)]) (fun u2 g3 => Sat w0 (keys ([] : List Ent)) A [.box b1 28 [.int .i64 a0.Root, .int .i64 a0.Kind, .int .i64 a0.Turn], .ro PowT]) (fun u2 g3 hq => ?_) (fun J cnk4 => ?_)
  · have hm := Sum.fin_l hq hm
    refine cj_seq ?_
    refine cj_seq ?_
    refine cj_reg ?_
    refine lp rfl (p_fab fl28_2 rfl) ?_
    refine lp rfl (p_lbs ty3 rfl (j := 0) rfl rfl) ?_
    refine lp rfl (p_gtr rfl rfl) ?_
    refine lj_seq ?_
    refine cj_if (b := decide (a0.Turn > 0)) rfl (fun hb => ?_) (fun hb => ?_)
    · have hm := ifB_t hb hm
      refine cj_reg ?_
      refine lp rfl (p_mv rfl) ?_
      refine lp rfl (p_fab fl28_2 rfl) ?_
      refine lp rfl (p_lbs ty3 rfl (j := 0) rfl rfl) ?_
      obtain ⟨y17, hy17, hm⟩ := bindS hm
      refine r_call [] cf112 rfl rfl (ok_strconv_Itoa a0.Turn hy17) rfl rfl (.cons (.ro 1 rfl) .nil) (fun _ => rfl) rfl (fun _ => ?_)
      obtain ⟨c18, hc18, hm⟩ := bindS hm
      refine lp rfl (p_catM hc18 rfl rfl) ?_
      obtain ⟨c19, hc19, hm⟩ := bindS hm
      refine lp rfl (p_catM hc19 rfl rfl) ?_
      refine lp rfl (p_as rfl) ?_
      refine lj_seq ?_
      refine cj_seq ?_
      refine cj_reg ?_
      refine lp rfl (p_mv rfl) ?_
      refine lp rfl (p_as rfl) ?_
      refine lj_seq ?_
      obtain rfl := Option.some.inj hm
      exact cj_rt () [] Tryd.results59 (.tmp rfl .nil) rfl rfl
    · have hm := ifB_f hb hm
      refine cj_skip ?_
      refine nj_seq ?_
      refine cj_seq ?_
      refine cj_reg ?_
      refine lp rfl (p_mv rfl) ?_
      refine lp rfl (p_as rfl) ?_
      refine lj_seq ?_
      obtain rfl := Option.some.inj hm
      exact cj_rt () [] Tryd.results59 (.tmp rfl .nil) rfl rfl
  · have hm := hk4
    obtain ⟨y5, hy5, hm⟩ := bindS hm
    obtain ⟨e7, he7, hm⟩ := bindS hm
    obtain ⟨c8, hc8, hm⟩ := bindS hm
    obtain ⟨y9, hy9, hm⟩ := bindS hm
    obtain ⟨e11, he11, hm⟩ := bindS hm
    obtain ⟨c12, hc12, hm⟩ := bindS hm
    refine cj_anyT [1, 2, 5, 7, 8, 11, 12] [] (Sat w0 (keys ([] : List Ent)) A [.box b1 28 [.int .i64 a0.Root, .int .i64 a0.Kind, .int .i64 a0.Turn], .ro PowT]) (Sat w0 (keys ([] : List Ent)) A [.box b1 28 [.int .i64 a0.Root, .int .i64 a0.Kind, .int .i64 a0.Turn], .ro PowT]) (by kernel_rfl) ?_
    refine at_take2 1 rfl (by kernel_rfl) (by kernel_rfl) (by kernel_rfl) (fun _ h => h.picks [0, 0] rfl) rfl rfl (p_fab fl28_0 rfl) (fun _ h => h.picks [0, 0] rfl) ?_
    refine at_take2 2 rfl (by kernel_rfl) (by kernel_rfl) (by kernel_rfl) (fun _ h => h.picks [0, 0] rfl) rfl rfl (p_lbs ty3 rfl (j := 0) rfl rfl) (fun _ h => h.picks [0, 0] rfl) ?_
    refine at_take2 7 rfl (by kernel_rfl) (by kernel_rfl) (by kernel_rfl) (fun _ h => h.picks [0, 0] rfl) rfl rfl (p_fab fl28_1 rfl) (fun _ h => h.picks [0, 0] rfl) ?_
    refine at_take2 8 rfl (by kernel_rfl) (by kernel_rfl) (by kernel_rfl) (fun _ h => h.picks [0, 0] rfl) rfl rfl (p_lbs ty3 rfl (j := 0) rfl rfl) (fun _ h => h.picks [0, 0] rfl) ?_
    refine at_each (rs := [0]) (by kernel_rfl) (by decide) ?_
    refine (.cons rfl (fun I cnI => ?_) .nil)
    · refine r_call [] cf116 rfl rfl (ok_gleeref2_roots  hy5) rfl rfl .nil (fun _ => rfl) rfl (fun s13 => ?_)
      refine lj_nil ?_
      refine cnI _ _ (sof1 rfl rfl (fun _ h => h.picks [1, 1] rfl)) ?_
      refine at_each (rs := [3, 6]) (by kernel_rfl) (by decide) ?_
      refine (.cons rfl (fun I cnI => ?_) (.cons rfl (fun I cnI => ?_) .nil))
      · refine lp rfl (p_idx Tryd.underlying142 ty9 rfl rfl (.row 0 rfl) he7) ?_
        refine lj_nil ?_
        refine cnI _ _ (sof1 rfl rfl (fun _ h => h.picks [1, 1] rfl)) ?_
        refine at_each (rs := [4, 6]) (by kernel_rfl) (by decide) ?_
        refine (.cons rfl (fun I cnI => ?_) (.cons rfl (fun I cnI => ?_) .nil))
        · refine lp rfl (p_lde (o := 0) ty9 rfl rfl (.row 0 rfl) (getI_spec he7).2 rfl) ?_
          refine lj_nil ?_
          refine cnI _ _ (sof1 rfl rfl (fun _ h => h.picks [1, 1] rfl)) ?_
          refine at_take2 5 rfl (by kernel_rfl) (by kernel_rfl) (by kernel_rfl) (fun _ h => h.picks [0, 0] rfl) rfl rfl (p_catM hc8 rfl rfl) (fun _ h => h.picks [1, 1] rfl) ?_
          refine at_each (rs := [6]) (by kernel_rfl) (by decide) ?_
          refine (.cons rfl (fun I cnI => ?_) .nil)
          · refine r_call [] cf117 rfl rfl (ok_gleeref2_kinds  hy9) rfl rfl .nil (fun _ => rfl) rfl (fun s14 => ?_)
            refine lj_nil ?_
            refine cnI _ _ (sof1 rfl rfl (fun _ h => h.picks [2, 2] rfl)) ?_
            refine at_each (rs := [9]) (by kernel_rfl) (by decide) ?_
            refine (.cons rfl (fun I cnI => ?_) .nil)
            · refine lp rfl (p_idx Tryd.underlying142 ty9 rfl rfl (.row 0 rfl) he11) ?_
              refine lj_nil ?_
              refine cnI _ _ (sof1 rfl rfl (fun _ h => h.picks [2, 2] rfl)) ?_
              refine at_each (rs := [10]) (by kernel_rfl) (by decide) ?_
              refine (.cons rfl (fun I cnI => ?_) .nil)
              · refine lp rfl (p_lde (o := 0) ty9 rfl rfl (.row 0 rfl) (getI_spec he11).2 rfl) ?_
                refine lj_nil ?_
                refine cnI _ _ (sof1 rfl rfl (fun _ h => h.picks [2, 2] rfl)) ?_
                refine at_take2 11 rfl (by kernel_rfl) (by kernel_rfl) (by kernel_rfl) (fun _ h => h.picks [0, 0] rfl) rfl rfl (p_catM hc12 rfl rfl) (fun _ h => h.picks [2, 2] rfl) ?_
                refine at_take2 12 rfl (by kernel_rfl) (by kernel_rfl) (by kernel_rfl) (fun _ h => h.picks [0, 0] rfl) rfl rfl (p_as rfl) (fun _ h => h.picks [2, 2] rfl) ?_
                refine at_done (by kernel_rfl) ?_
                exact cnk4 _ _ c12 () (Option.some.inj hm).symm ⟨rfl, rfl, rfl, trivial⟩ (fun _ h => h.picks [2, 2] rfl)
        · refine r_call [] cf117 rfl rfl (ok_gleeref2_kinds  hy9) rfl rfl .nil (fun _ => rfl) rfl (fun s15 => ?_)
          refine lj_nil ?_
          refine cnI _ _ (sof1 rfl rfl (fun _ h => h.picks [2, 2] rfl)) ?_
          refine at_each (rs := [4, 9]) (by kernel_rfl) (by decide) ?_
          refine (.cons rfl (fun I cnI => ?_) (.cons rfl (fun I cnI => ?_) .nil))
          · refine lp rfl (p_lde (o := 0) ty9 rfl rfl (.row 1 rfl) (getI_spec he7).2 rfl) ?_
            refine lj_nil ?_
            refine cnI _ _ (sof1 rfl rfl (fun _ h => h.picks [2, 2] rfl)) ?_
            refine at_take2 5 rfl (by kernel_rfl) (by kernel_rfl) (by kernel_rfl) (fun _ h => h.picks [0, 0] rfl) rfl rfl (p_catM hc8 rfl rfl) (fun _ h => h.picks [2, 2] rfl) ?_
            refine at_each (rs := [9]) (by kernel_rfl) (by decide) ?_
            refine (.cons rfl (fun I cnI => ?_) .nil)
            · refine lp rfl (p_idx Tryd.underlying142 ty9 rfl rfl (.row 0 rfl) he11) ?_
              refine lj_nil ?_
              refine cnI _ _ (sof1 rfl rfl (fun _ h => h.picks [2, 2] rfl)) ?_
              refine at_each (rs := [10]) (by kernel_rfl) (by decide) ?_
              refine (.cons rfl (fun I cnI => ?_) .nil)
              · refine lp rfl (p_lde (o := 0) ty9 rfl rfl (.row 0 rfl) (getI_spec he11).2 rfl) ?_
                refine lj_nil ?_
                refine cnI _ _ (sof1 rfl rfl (fun _ h => h.picks [2, 2] rfl)) ?_
                refine at_take2 11 rfl (by kernel_rfl) (by kernel_rfl) (by kernel_rfl) (fun _ h => h.picks [0, 0] rfl) rfl rfl (p_catM hc12 rfl rfl) (fun _ h => h.picks [2, 2] rfl) ?_
                refine at_take2 12 rfl (by kernel_rfl) (by kernel_rfl) (by kernel_rfl) (fun _ h => h.picks [0, 0] rfl) rfl rfl (p_as rfl) (fun _ h => h.picks [2, 2] rfl) ?_
                refine at_done (by kernel_rfl) ?_
                exact cnk4 _ _ c12 () (Option.some.inj hm).symm ⟨rfl, rfl, rfl, trivial⟩ (fun _ h => h.picks [2, 2] rfl)
          · refine lp rfl (p_idx Tryd.underlying142 ty9 rfl rfl (.row 0 rfl) he11) ?_
            refine lj_nil ?_
            refine cnI _ _ (sof1 rfl rfl (fun _ h => h.picks [2, 2] rfl)) ?_
            refine at_each (rs := [4, 10]) (by kernel_rfl) (by decide) ?_
            refine (.cons rfl (fun I cnI => ?_) (.cons rfl (fun I cnI => ?_) .nil))
            · refine lp rfl (p_lde (o := 0) ty9 rfl rfl (.row 1 rfl) (getI_spec he7).2 rfl) ?_
              refine lj_nil ?_
              refine cnI _ _ (sof1 rfl rfl (fun _ h => h.picks [2, 2] rfl)) ?_
              refine at_take2 5 rfl (by kernel_rfl) (by kernel_rfl) (by kernel_rfl) (fun _ h => h.picks [0, 0] rfl) rfl rfl (p_catM hc8 rfl rfl) (fun _ h => h.picks [2, 2] rfl) ?_
              refine at_each (rs := [10]) (by kernel_rfl) (by decide) ?_
              refine (.cons rfl (fun I cnI => ?_) .nil)
              · refine lp rfl (p_lde (o := 0) ty9 rfl rfl (.row 0 rfl) (getI_spec he11).2 rfl) ?_
                refine lj_nil ?_
                refine cnI _ _ (sof1 rfl rfl (fun _ h => h.picks [2, 2] rfl)) ?_
                refine at_take2 11 rfl (by kernel_rfl) (by kernel_rfl) (by kernel_rfl) (fun _ h => h.picks [0, 0] rfl) rfl rfl (p_catM hc12 rfl rfl) (fun _ h => h.picks [2, 2] rfl) ?_
                refine at_take2 12 rfl (by kernel_rfl) (by kernel_rfl) (by kernel_rfl) (fun _ h => h.picks [0, 0] rfl) rfl rfl (p_as rfl) (fun _ h => h.picks [2, 2] rfl) ?_
                refine at_done (by kernel_rfl) ?_
                exact cnk4 _ _ c12 () (Option.some.inj hm).symm ⟨rfl, rfl, rfl, trivial⟩ (fun _ h => h.picks [2, 2] rfl)
            · refine lp rfl (p_lde (o := 0) ty9 rfl rfl (.row 0 rfl) (getI_spec he11).2 rfl) ?_
              refine lj_nil ?_
              refine cnI _ _ (sof1 rfl rfl (fun _ h => h.picks [2, 2] rfl)) ?_
              refine at_each (rs := [4]) (by kernel_rfl) (by decide) ?_
              refine (.cons rfl (fun I cnI => ?_) .nil)
              · refine lp rfl (p_lde (o := 0) ty9 rfl rfl (.row 1 rfl) (getI_spec he7).2 rfl) ?_
                refine lj_nil ?_
                refine cnI _ _ (sof1 rfl rfl (fun _ h => h.picks [2, 2] rfl)) ?_
                refine at_take2 5 rfl (by kernel_rfl) (by kernel_rfl) (by kernel_rfl) (fun _ h => h.picks [0, 0] rfl) rfl rfl (p_catM hc8 rfl rfl) (fun _ h => h.picks [2, 2] rfl) ?_
                refine at_take2 11 rfl (by kernel_rfl) (by kernel_rfl) (by kernel_rfl) (fun _ h => h.picks [0, 0] rfl) rfl rfl (p_catM hc12 rfl rfl) (fun _ h => h.picks [2, 2] rfl) ?_
                refine at_take2 12 rfl (by kernel_rfl) (by kernel_rfl) (by kernel_rfl) (fun _ h => h.picks [0, 0] rfl) rfl rfl (p_as rfl) (fun _ h => h.picks [2, 2] rfl) ?_
                refine at_done (by kernel_rfl) ?_
                exact cnk4 _ _ c12 () (Option.some.inj hm).symm ⟨rfl, rfl, rfl, trivial⟩ (fun _ h => h.picks [2, 2] rfl)
      · refine r_call [] cf117 rfl rfl (ok_gleeref2_kinds  hy9) rfl rfl .nil (fun _ => rfl) rfl (fun s16 => ?_)
        refine lj_nil ?_
        refine cnI _ _ (sof1 rfl rfl (fun _ h => h.picks [2, 2] rfl)) ?_
        refine at_each (rs := [3, 9]) (by kernel_rfl) (by decide) ?_
        refine (.cons rfl (fun I cnI => ?_) (.cons rfl (fun I cnI => ?_) .nil))
        · refine lp rfl (p_idx Tryd.underlying142 ty9 rfl rfl (.row 1 rfl) he7) ?_
          refine lj_nil ?_
          refine cnI _ _ (sof1 rfl rfl (fun _ h => h.picks [2, 2] rfl)) ?_
          refine at_each (rs := [4, 9]) (by kernel_rfl) (by decide) ?_
          refine (.cons rfl (fun I cnI => ?_) (.cons rfl (fun I cnI => ?_) .nil))
          · refine lp rfl (p_lde (o := 0) ty9 rfl rfl (.row 1 rfl) (getI_spec he7).2 rfl) ?_
            refine lj_nil ?_
            refine cnI _ _ (sof1 rfl rfl (fun _ h => h.picks [2, 2] rfl)) ?_
            refine at_take2 5 rfl (by kernel_rfl) (by kernel_rfl) (by kernel_rfl) (fun _ h => h.picks [0, 0] rfl) rfl rfl (p_catM hc8 rfl rfl) (fun _ h => h.picks [2, 2] rfl) ?_
            refine at_each (rs := [9]) (by kernel_rfl) (by decide) ?_
            refine (.cons rfl (fun I cnI => ?_) .nil)
            · refine lp rfl (p_idx Tryd.underlying142 ty9 rfl rfl (.row 0 rfl) he11) ?_
              refine lj_nil ?_
              refine cnI _ _ (sof1 rfl rfl (fun _ h => h.picks [2, 2] rfl)) ?_
              refine at_each (rs := [10]) (by kernel_rfl) (by decide) ?_
              refine (.cons rfl (fun I cnI => ?_) .nil)
              · refine lp rfl (p_lde (o := 0) ty9 rfl rfl (.row 0 rfl) (getI_spec he11).2 rfl) ?_
                refine lj_nil ?_
                refine cnI _ _ (sof1 rfl rfl (fun _ h => h.picks [2, 2] rfl)) ?_
                refine at_take2 11 rfl (by kernel_rfl) (by kernel_rfl) (by kernel_rfl) (fun _ h => h.picks [0, 0] rfl) rfl rfl (p_catM hc12 rfl rfl) (fun _ h => h.picks [2, 2] rfl) ?_
                refine at_take2 12 rfl (by kernel_rfl) (by kernel_rfl) (by kernel_rfl) (fun _ h => h.picks [0, 0] rfl) rfl rfl (p_as rfl) (fun _ h => h.picks [2, 2] rfl) ?_
                refine at_done (by kernel_rfl) ?_
                exact cnk4 _ _ c12 () (Option.some.inj hm).symm ⟨rfl, rfl, rfl, trivial⟩ (fun _ h => h.picks [2, 2] rfl)
          · refine lp rfl (p_idx Tryd.underlying142 ty9 rfl rfl (.row 0 rfl) he11) ?_
            refine lj_nil ?_
            refine cnI _ _ (sof1 rfl rfl (fun _ h => h.picks [2, 2] rfl)) ?_
            refine at_each (rs := [4, 10]) (by kernel_rfl) (by decide) ?_
            refine (.cons rfl (fun I cnI => ?_) (.cons rfl (fun I cnI => ?_) .nil))
            · refine lp rfl (p_lde (o := 0) ty9 rfl rfl (.row 1 rfl) (getI_spec he7).2 rfl) ?_
              refine lj_nil ?_
              refine cnI _ _ (sof1 rfl rfl (fun _ h => h.picks [2, 2] rfl)) ?_
              refine at_take2 5 rfl (by kernel_rfl) (by kernel_rfl) (by kernel_rfl) (fun _ h => h.picks [0, 0] rfl) rfl rfl (p_catM hc8 rfl rfl) (fun _ h => h.picks [2, 2] rfl) ?_
              refine at_each (rs := [10]) (by kernel_rfl) (by decide) ?_
              refine (.cons rfl (fun I cnI => ?_) .nil)
              · refine lp rfl (p_lde (o := 0) ty9 rfl rfl (.row 0 rfl) (getI_spec he11).2 rfl) ?_
                refine lj_nil ?_
                refine cnI _ _ (sof1 rfl rfl (fun _ h => h.picks [2, 2] rfl)) ?_
                refine at_take2 11 rfl (by kernel_rfl) (by kernel_rfl) (by kernel_rfl) (fun _ h => h.picks [0, 0] rfl) rfl rfl (p_catM hc12 rfl rfl) (fun _ h => h.picks [2, 2] rfl) ?_
                refine at_take2 12 rfl (by kernel_rfl) (by kernel_rfl) (by kernel_rfl) (fun _ h => h.picks [0, 0] rfl) rfl rfl (p_as rfl) (fun _ h => h.picks [2, 2] rfl) ?_
                refine at_done (by kernel_rfl) ?_
                exact cnk4 _ _ c12 () (Option.some.inj hm).symm ⟨rfl, rfl, rfl, trivial⟩ (fun _ h => h.picks [2, 2] rfl)
            · refine lp rfl (p_lde (o := 0) ty9 rfl rfl (.row 0 rfl) (getI_spec he11).2 rfl) ?_
              refine lj_nil ?_
              refine cnI _ _ (sof1 rfl rfl (fun _ h => h.picks [2, 2] rfl)) ?_
              refine at_each (rs := [4]) (by kernel_rfl) (by decide) ?_
              refine (.cons rfl (fun I cnI => ?_) .nil)
              · refine lp rfl (p_lde (o := 0) ty9 rfl rfl (.row 1 rfl) (getI_spec he7).2 rfl) ?_
                refine lj_nil ?_
                refine cnI _ _ (sof1 rfl rfl (fun _ h => h.picks [2, 2] rfl)) ?_
                refine at_take2 5 rfl (by kernel_rfl) (by kernel_rfl) (by kernel_rfl) (fun _ h => h.picks [0, 0] rfl) rfl rfl (p_catM hc8 rfl rfl) (fun _ h => h.picks [2, 2] rfl) ?_
                refine at_take2 11 rfl (by kernel_rfl) (by kernel_rfl) (by kernel_rfl) (fun _ h => h.picks [0, 0] rfl) rfl rfl (p_catM hc12 rfl rfl) (fun _ h => h.picks [2, 2] rfl) ?_
                refine at_take2 12 rfl (by kernel_rfl) (by kernel_rfl) (by kernel_rfl) (fun _ h => h.picks [0, 0] rfl) rfl rfl (p_as rfl) (fun _ h => h.picks [2, 2] rfl) ?_
                refine at_done (by kernel_rfl) ?_
                exact cnk4 _ _ c12 () (Option.some.inj hm).symm ⟨rfl, rfl, rfl, trivial⟩ (fun _ h => h.picks [2, 2] rfl)
        · refine lp rfl (p_idx Tryd.underlying142 ty9 rfl rfl (.row 0 rfl) he11) ?_
          refine lj_nil ?_
          refine cnI _ _ (sof1 rfl rfl (fun _ h => h.picks [2, 2] rfl)) ?_
          refine at_each (rs := [3, 10]) (by kernel_rfl) (by decide) ?_
          refine (.cons rfl (fun I cnI => ?_) (.cons rfl (fun I cnI => ?_) .nil))
          · refine lp rfl (p_idx Tryd.underlying142 ty9 rfl rfl (.row 1 rfl) he7) ?_
            refine lj_nil ?_
            refine cnI _ _ (sof1 rfl rfl (fun _ h => h.picks [2, 2] rfl)) ?_
            refine at_each (rs := [4, 10]) (by kernel_rfl) (by decide) ?_
            refine (.cons rfl (fun I cnI => ?_) (.cons rfl (fun I cnI => ?_) .nil))
            · refine lp rfl (p_lde (o := 0) ty9 rfl rfl (.row 1 rfl) (getI_spec he7).2 rfl) ?_
              refine lj_nil ?_
              refine cnI _ _ (sof1 rfl rfl (fun _ h => h.picks [2, 2] rfl)) ?_
              refine at_take2 5 rfl (by kernel_rfl) (by kernel_rfl) (by kernel_rfl) (fun _ h => h.picks [0, 0] rfl) rfl rfl (p_catM hc8 rfl rfl) (fun _ h => h.picks [2, 2] rfl) ?_
              refine at_each (rs := [10]) (by kernel_rfl) (by decide) ?_
              refine (.cons rfl (fun I cnI => ?_) .nil)
              · refine lp rfl (p_lde (o := 0) ty9 rfl rfl (.row 0 rfl) (getI_spec he11).2 rfl) ?_
                refine lj_nil ?_
                refine cnI _ _ (sof1 rfl rfl (fun _ h => h.picks [2, 2] rfl)) ?_
                refine at_take2 11 rfl (by kernel_rfl) (by kernel_rfl) (by kernel_rfl) (fun _ h => h.picks [0, 0] rfl) rfl rfl (p_catM hc12 rfl rfl) (fun _ h => h.picks [2, 2] rfl) ?_
                refine at_take2 12 rfl (by kernel_rfl) (by kernel_rfl) (by kernel_rfl) (fun _ h => h.picks [0, 0] rfl) rfl rfl (p_as rfl) (fun _ h => h.picks [2, 2] rfl) ?_
                refine at_done (by kernel_rfl) ?_
                exact cnk4 _ _ c12 () (Option.some.inj hm).symm ⟨rfl, rfl, rfl, trivial⟩ (fun _ h => h.picks [2, 2] rfl)
            · refine lp rfl (p_lde (o := 0) ty9 rfl rfl (.row 0 rfl) (getI_spec he11).2 rfl) ?_
              refine lj_nil ?_
              refine cnI _ _ (sof1 rfl rfl (fun _ h => h.picks [2, 2] rfl)) ?_
              refine at_each (rs := [4]) (by kernel_rfl) (by decide) ?_
              refine (.cons rfl (fun I cnI => ?_) .nil)
              · refine lp rfl (p_lde (o := 0) ty9 rfl rfl (.row 1 rfl) (getI_spec he7).2 rfl) ?_
                refine lj_nil ?_
                refine cnI _ _ (sof1 rfl rfl (fun _ h => h.picks [2, 2] rfl)) ?_
                refine at_take2 5 rfl (by kernel_rfl) (by kernel_rfl) (by kernel_rfl) (fun _ h => h.picks [0, 0] rfl) rfl rfl (p_catM hc8 rfl rfl) (fun _ h => h.picks [2, 2] rfl) ?_
                refine at_take2 11 rfl (by kernel_rfl) (by kernel_rfl) (by kernel_rfl) (fun _ h => h.picks [0, 0] rfl) rfl rfl (p_catM hc12 rfl rfl) (fun _ h => h.picks [2, 2] rfl) ?_
                refine at_take2 12 rfl (by kernel_rfl) (by kernel_rfl) (by kernel_rfl) (fun _ h => h.picks [0, 0] rfl) rfl rfl (p_as rfl) (fun _ h => h.picks [2, 2] rfl) ?_
                refine at_done (by kernel_rfl) ?_
                exact cnk4 _ _ c12 () (Option.some.inj hm).symm ⟨rfl, rfl, rfl, trivial⟩ (fun _ h => h.picks [2, 2] rfl)
          · refine lp rfl (p_lde (o := 0) ty9 rfl rfl (.row 0 rfl) (getI_spec he11).2 rfl) ?_
            refine lj_nil ?_
            refine cnI _ _ (sof1 rfl rfl (fun _ h => h.picks [2, 2] rfl)) ?_
            refine at_each (rs := [3]) (by kernel_rfl) (by decide) ?_
            refine (.cons rfl (fun I cnI => ?_) .nil)
            · refine lp rfl (p_idx Tryd.underlying142 ty9 rfl rfl (.row 1 rfl) he7) ?_
              refine lj_nil ?_
              refine cnI _ _ (sof1 rfl rfl (fun _ h => h.picks [2, 2] rfl)) ?_
              refine at_each (rs := [4]) (by kernel_rfl) (by decide) ?_
              refine (.cons rfl (fun I cnI => ?_) .nil)
              · refine lp rfl (p_lde (o := 0) ty9 rfl rfl (.row 1 rfl) (getI_spec he7).2 rfl) ?_
                refine lj_nil ?_
                refine cnI _ _ (sof1 rfl rfl (fun _ h => h.picks [2, 2] rfl)) ?_
                refine at_take2 5 rfl (by kernel_rfl) (by kernel_rfl) (by kernel_rfl) (fun _ h => h.picks [0, 0] rfl) rfl rfl (p_catM hc8 rfl rfl) (fun _ h => h.picks [2, 2] rfl) ?_
                refine at_take2 11 rfl (by kernel_rfl) (by kernel_rfl) (by kernel_rfl) (fun _ h => h.picks [0, 0] rfl) rfl rfl (p_catM hc12 rfl rfl) (fun _ h => h.picks [2, 2] rfl) ?_
                refine at_take2 12 rfl (by kernel_rfl) (by kernel_rfl) (by kernel_rfl) (fun _ h => h.picks [0, 0] rfl) rfl rfl (p_as rfl) (fun _ h => h.picks [2, 2] rfl) ?_
                refine at_done (by kernel_rfl) ?_
                exact cnk4 _ _ c12 () (Option.some.inj hm).symm ⟨rfl, rfl, rfl, trivial⟩ (fun _ h => h.picks [2, 2] rfl)
theorem ok_gleemake_Stream_Changed (b0_ : Nat) (s0_0_ : SV) (a0_0 : (List Int)) (a0_1 : Int) (a1 : ByteArray) (a2 : ByteArray) {r : ByteArray × Int} (hm : m_gleemake_Stream_Changed a0_0 a0_1 a1 a2 = some r) :
    Ctr Tryd.prog 109 [.pointer (some ⟨b0_, 0, none⟩), .string a1, .string a2].toArray [.box b0_ 25 [s0_0_.v, .int .i64 a0_1]] [RdS R3 (SV.v s0_0_) a0_0] (X := Unit) (fun _ => .string r.1) (fun _ => [.box b0_ 25 [s0_0_.v, .int .i64 r.2]]) := by
  unfold m_gleemake_Stream_Changed at hm
  refine ctr_mk (vs := [(0, .pointer (some ⟨b0_, 0, none⟩)), (1, .string a1), (2, .string a2)]) Tryd.func109 rfl Tryd.ntmps109 rfl ⟨rfl, rfl, rfl, trivial⟩ (fun w0 A => ?_)
  refine cj_seq ?_
  refine cj_reg ?_
  refine lp rfl (p_as rfl) ?_
  refine lj_seq ?_
  refine cj_seq ?_
  refine cj_seq ?_
  refine cj_reg ?_
  obtain ⟨k3, hk3, hm⟩ := bindS hm
  have hRk3 : ∀ t, k3 = .inr t → some t = some r := fun t e => by rw [e] at hm; exact hm
  refine lj_join (σ := Bool) (γ := Unit) (fun u1 => k3 = .inl u1) (fun u1 g2 => [(0, .pointer (some ⟨b0_, 0, none⟩)), (1, .string a1), (2, .string a2), (6, .string ByteArray.empty), (14, .bool u1)]) (fun u1 g2 => Sat w0 (keys [.box b0_ 25 [s0_0_.v, .int .i64 a0_1]]) A [.box b0_ 25 [s0_0_.v, .int .i64 a0_1], .ro (RdS R3 (SV.v s0_0_) a0_0)]) (fun u1 g2 hq => ?_) (fun J cnk3 => ?_)
  · have hm := Sum.fin_l hq hm
    refine cj_if (b := u1) rfl (fun hb => ?_) (fun hb => ?_)
    · have hm := ifB_t hb hm
      refine cj_seq ?_
      refine cj_reg ?_
      refine lp rfl (p_mv rfl) ?_
      refine lp rfl (p_as rfl) ?_
      refine lj_seq ?_
      obtain rfl := Option.some.inj hm
      exact cj_rt () [0] Tryd.results109 (.tmp rfl .nil) rfl rfl
    · have hm := ifB_f hb hm
      refine cj_skip ?_
      refine nj_seq ?_
      refine cj_seq ?_
      refine cj_reg ?_
      refine lp rfl (p_mv rfl) ?_
      refine lp rfl (p_mv rfl) ?_
      refine lp rfl (p_lens Tryd.underlying9 rfl) ?_
      obtain ⟨y4, hy4, hm⟩ := bindS hm
      refine r_call [0] cf63 rfl rfl (ok_gleemake_Stream_Next b0_ s0_0_ a0_0 a0_1 (a1.size : Int) hy4) rfl rfl (.cons (.ro 0 rfl) .nil) (fun _ => rfl) rfl (fun _ => ?_)
      refine lp rfl (p_as rfl) ?_
      refine lj_seq ?_
      refine cj_seq ?_
      refine cj_reg ?_
      refine lp rfl (p_mv rfl) ?_
      refine lp rfl (p_mv rfl) ?_
      refine lp rfl (p_mv rfl) ?_
      refine lp rfl (p_lens Tryd.underlying9 rfl) ?_
      obtain ⟨y5, hy5, hm⟩ := bindS hm
      refine r_call [0] cf63 rfl rfl (ok_gleemake_Stream_Next b0_ s0_0_ a0_0 y4.2 (a2.size : Int) hy5) rfl rfl (.cons (.ro 0 rfl) .nil) (fun _ => rfl) rfl (fun _ => ?_)
      obtain ⟨c6, hc6, hm⟩ := bindS hm
      refine lp rfl (p_stri Tryd.underlying9 rfl rfl hc6) ?_
      refine lp rfl (p_as rfl) ?_
      refine lj_seq ?_
      refine cj_seq ?_
      refine cj_seq ?_
      refine cj_reg ?_
      refine lp rfl (p_mv rfl) ?_
      obtain ⟨y7, hy7, hm⟩ := bindS hm
      refine r_call [0] cf63 rfl rfl (ok_gleemake_Stream_Next b0_ s0_0_ a0_0 y5.2 3 hy7) rfl rfl (.cons (.ro 0 rfl) .nil) (fun _ => rfl) rfl (fun _ => ?_)
      refine lj_seq ?_
      refine cj_blk ?_
      refine cj_seq ?_
      refine cj_reg ?_
      refine lp rfl (p_eql rfl rfl) ?_
      refine lp rfl (p_as rfl) ?_
      refine lj_seq ?_
      refine cj_if (b := y7.1 == 0) rfl (fun hb => ?_) (fun hb => ?_)
      · have hm := ifB_t hb hm
        refine cj_seq ?_
        refine cj_quiet (by kernel_rfl) (by kernel_rfl) ?_
        refine q_p rfl (p_mv rfl) ?_
        refine q_p rfl (p_mv rfl) ?_
        obtain ⟨c8, hc8, hm⟩ := bindS hm
        refine q_p rfl (p_strs Tryd.underlying9 rfl rfl rfl rfl rfl rfl rfl hc8) ?_
        refine q_p rfl (p_mv rfl) ?_
        refine q_p rfl (p_cvi Tryd.underlying5 Tryd.underlying21 rfl) ?_
        refine q_p rfl (p_cvs Tryd.underlying21 Tryd.underlying9 rfl) ?_
        obtain ⟨c9, hc9, hm⟩ := bindS hm
        refine q_p rfl (p_catM hc9 rfl rfl) ?_
        refine q_p rfl (p_mv rfl) ?_
        refine q_p rfl (p_mv rfl) ?_
        refine q_p rfl (p_add rfl rfl) ?_
        obtain ⟨c10, hc10, hm⟩ := bindS hm
        refine q_p rfl (p_strs Tryd.underlying9 rfl rfl rfl rfl rfl rfl rfl hc10) ?_
        obtain ⟨c11, hc11, hm⟩ := bindS hm
        refine q_p rfl (p_catM hc11 rfl rfl) ?_
        refine q_p rfl (p_as rfl) ?_
        refine q_nil ?_
        refine nj_seq ?_
        obtain rfl := Option.some.inj hm
        exact cj_rt () [0] Tryd.results109 (.tmp rfl .nil) rfl rfl
      · have hm := ifB_f hb hm
        refine cj_seq ?_
        refine cj_reg ?_
        refine lp rfl (p_eql rfl rfl) ?_
        refine lp rfl (p_as rfl) ?_
        refine lj_seq ?_
        refine cj_if (b := y7.1 == 1) rfl (fun hb => ?_) (fun hb => ?_)
        · have hm := ifB_t hb hm
          refine cj_seq ?_
          refine cj_quiet (by kernel_rfl) (by kernel_rfl) ?_
          refine q_p rfl (p_mv rfl) ?_
          refine q_p rfl (p_mv rfl) ?_
          obtain ⟨c12, hc12, hm⟩ := bindS hm
          refine q_p rfl (p_strs Tryd.underlying9 rfl rfl rfl rfl rfl rfl rfl hc12) ?_
          refine q_p rfl (p_mv rfl) ?_
          refine q_p rfl (p_cvi Tryd.underlying5 Tryd.underlying21 rfl) ?_
          refine q_p rfl (p_cvs Tryd.underlying21 Tryd.underlying9 rfl) ?_
          obtain ⟨c13, hc13, hm⟩ := bindS hm
          refine q_p rfl (p_catM hc13 rfl rfl) ?_
          refine q_p rfl (p_mv rfl) ?_
          refine q_p rfl (p_mv rfl) ?_
          obtain ⟨c14, hc14, hm⟩ := bindS hm
          refine q_p rfl (p_strs Tryd.underlying9 rfl rfl rfl rfl rfl rfl rfl hc14) ?_
          obtain ⟨c15, hc15, hm⟩ := bindS hm
          refine q_p rfl (p_catM hc15 rfl rfl) ?_
          refine q_p rfl (p_as rfl) ?_
          refine q_nil ?_
          refine nj_seq ?_
          obtain rfl := Option.some.inj hm
          exact cj_rt () [0] Tryd.results109 (.tmp rfl .nil) rfl rfl
        · have hm := ifB_f hb hm
          refine cj_skip ?_
          refine nj_blk ?_
          refine nj_seq ?_
          refine cj_seq ?_
          refine cj_quiet (by kernel_rfl) (by kernel_rfl) ?_
          refine q_p rfl (p_mv rfl) ?_
          refine q_p rfl (p_mv rfl) ?_
          obtain ⟨c16, hc16, hm⟩ := bindS hm
          refine q_p rfl (p_strs Tryd.underlying9 rfl rfl rfl rfl rfl rfl rfl hc16) ?_
          refine q_p rfl (p_mv rfl) ?_
          refine q_p rfl (p_mv rfl) ?_
          refine q_p rfl (p_add rfl rfl) ?_
          obtain ⟨c17, hc17, hm⟩ := bindS hm
          refine q_p rfl (p_strs Tryd.underlying9 rfl rfl rfl rfl rfl rfl rfl hc17) ?_
          obtain ⟨c18, hc18, hm⟩ := bindS hm
          refine q_p rfl (p_catM hc18 rfl rfl) ?_
          refine q_p rfl (p_as rfl) ?_
          refine q_nil ?_
          refine nj_seq ?_
          obtain rfl := Option.some.inj hm
          exact cj_rt () [0] Tryd.results109 (.tmp rfl .nil) rfl rfl
  · have hm := hk3
    refine lp rfl (p_mv rfl) ?_
    refine lp rfl (p_eqs rfl rfl) ?_
    refine lp rfl (p_mv rfl) ?_
    refine lcase (i := 11) (a1.toList == ByteArray.empty.toList) rfl (fun hb => ?_) (fun hb => ?_)
    · have hm := ifB_t hb hm
      refine ls false rfl rfl rfl rfl ?_
      refine ls false rfl rfl rfl rfl ?_
      refine lp rfl (p_pkt rfl rfl) ?_
      refine lj_nil ?_
      exact cnk3 _ _ true () (Option.some.inj hm).symm ⟨rfl, rfl, rfl, rfl, rfl, trivial⟩ (fun _ h => h.picks [0, 0] rfl)
    · have hm := ifB_f hb hm
      refine lg false rfl rfl rfl ?_
      refine lp rfl (p_mv rfl) ?_
      refine lg false rfl rfl rfl ?_
      refine lp rfl (p_eqs rfl rfl) ?_
      refine lp rfl (p_pkf rfl rfl) ?_
      refine lj_nil ?_
      exact cnk3 _ _ (a2.toList == ByteArray.empty.toList) () (Option.some.inj hm).symm ⟨rfl, rfl, rfl, rfl, rfl, trivial⟩ (fun _ h => h.picks [0, 0] rfl)
theorem ok_gleemake_Stream_ChordText (b0_ : Nat) (s0_0_ : SV) (a0_0 : (List Int)) (a0_1 : Int) {r : ByteArray × Int} (hm : m_gleemake_Stream_ChordText a0_0 a0_1 = some r) :
    Ctr Tryd.prog 54 [.pointer (some ⟨b0_, 0, none⟩)].toArray [.box b0_ 25 [s0_0_.v, .int .i64 a0_1]] [RdS R3 (SV.v s0_0_) a0_0, PowT] (X := Unit) (fun _ => .string r.1) (fun _ => [.box b0_ 25 [s0_0_.v, .int .i64 r.2]]) := by
  unfold m_gleemake_Stream_ChordText at hm
  refine ctr_mk (vs := [(0, .pointer (some ⟨b0_, 0, none⟩))]) Tryd.func54 rfl Tryd.ntmps54 rfl ⟨rfl, trivial⟩ (fun w0 A => ?_)
  refine cj_seq ?_
  refine cj_reg ?_
  refine lp rfl (p_as rfl) ?_
  refine lj_seq ?_
  refine cj_seq ?_
  refine cj_reg ?_
  refine lp rfl (p_mv rfl) ?_
  obtain ⟨y1, hy1, hm⟩ := bindS hm
  refine r_call [0] cf12 rfl rfl (ok_gleemake_Stream_Range b0_ s0_0_ a0_0 a0_1 0 11 hy1) rfl rfl (.cons (.ro 0 rfl) .nil) (fun _ => rfl) rfl (fun _ => ?_)
  refine lp rfl (p_mv rfl) ?_
  obtain ⟨y2, hy2, hm⟩ := bindS hm
  refine r_call [0] cf12 rfl rfl (ok_gleemake_Stream_Range b0_ s0_0_ a0_0 y1.2 1 7 hy2) rfl rfl (.cons (.ro 0 rfl) .nil) (fun _ => rfl) rfl (fun _ => ?_)
  refine lp rfl (p_mv rfl) ?_
  obtain ⟨y3, hy3, hm⟩ := bindS hm
  refine r_call [0] cf12 rfl rfl (ok_gleemake_Stream_Range b0_ s0_0_ a0_0 y2.2 0 2 hy3) rfl rfl (.cons (.ro 0 rfl) .nil) (fun _ => rfl) rfl (fun _ => ?_)
  refine lp rfl (p_bld [.int .i64 y1.1, .int .i64 y2.1, .int .i64 y3.1] rfl (fun _ => by kernel_rfl)) ?_
  obtain ⟨y4, hy4, hm⟩ := bindS hm
  refine r_call [] cf59 rfl rfl (ok_gleeref2_NameOf (TChord.mk y1.1 y2.1 y3.1) hy4) rfl rfl (.cons (.ro 2 rfl) .nil) (fun _ => rfl) rfl (fun _ => ?_)
  refine lp rfl (p_as rfl) ?_
  refine lj_seq ?_
  refine cj_seq ?_
  refine cj_seq ?_
  refine cj_reg ?_
  refine lp rfl (p_mv rfl) ?_
  refine r_bs R3 [0, 0, 0, 1, 2] rfl rfl rfl (fun _ => by kernel_rfl) rfl (fun s5 => ?_)
  obtain ⟨y6, hy6, hm⟩ := bindS hm
  refine r_call [1] cf10 rfl rfl (ok_gleemake_Stream_Pick b0_ s0_0_ a0_0 y3.2 s5 [0, 0, 0, 1, 2] hy6) rfl rfl (.cons (.ro 1 rfl) (.cons (.row 0 rfl) .nil)) (fun _ => rfl) rfl (fun _ => ?_)
  refine lp rfl (p_mv rfl) ?_
  refine lj_seq ?_
  obtain ⟨L15, hL15, hm⟩ := bindS hm
  obtain ⟨f13, hf13, hm⟩ := bindS hm
  refine cj_range (γ := Unit) (m := y6.1) hf13 () (fun u10 g11 => [(0, .pointer (some ⟨b0_, 0, none⟩)), (2, .string ByteArray.empty), (3, .string u10.1)]) (fun u10 g11 => Sat w0 (keys [.box b0_ 25 [s0_0_.v, .int .i64 a0_1]]) A [.box b0_ 25 [s0_0_.v, .int .i64 u10.2], .ro (RdS R3 (SV.v s0_0_) a0_0), .ro PowT]) ⟨rfl, rfl, rfl, rfl, rfl, trivial⟩ (fun _ h => h.picks [0, 1, 1] rfl) (rangeI_spec hL15).1 (fun _ _ => (rangeI_spec hL15).2) (fun _ _ => ⟨rfl, rfl, rfl, rfl⟩) ⟨rfl, rfl, rfl, rfl, rfl⟩ rfl rfl rfl (fun u10 g11 e => ?_) (fun aftk12 i7 x8 u10 g11 k12 hx9 hs J hJk12 hBk12 hX I cnk12 => ?_)
  · have hm := Flow.fin_b e hm
    refine nj_seq ?_
    refine cj_seq ?_
    refine cj_reg ?_
    refine lp rfl (p_mv rfl) ?_
    refine lp rfl (p_as rfl) ?_
    refine lj_seq ?_
    obtain rfl := Option.some.inj hm
    exact cj_rt () [0] Tryd.results54 (.tmp rfl .nil) rfl rfl
  · have hRk12 : ∀ t, k12 = .ret t → some t = some r := fun t e => by rw [hX t e] at hm; exact hm
    have hm := hs
    refine cj_reg ?_
    refine lp rfl (p_mv rfl) ?_
    refine lp rfl (p_mv rfl) ?_
    obtain ⟨y14, hy14, hm⟩ := bindS hm
    refine r_call [0] cf109 rfl rfl (ok_gleemake_Stream_Changed b0_ s0_0_ a0_0 u10.2 u10.1 (ByteArray.mk [32, 35, 47, 48, 49, 50, 55, 97, 98, 109, 120].toArray) hy14) rfl rfl (.cons (.ro 0 rfl) .nil) (fun _ => rfl) rfl (fun _ => ?_)
    refine lp rfl (p_as rfl) ?_
    refine lj_nil ?_
    refine nj_blk ?_
    exact cnk12 _ _ (y14.1, y14.2) () (hJk12 _ (Option.some.inj hm).symm) ⟨rfl, rfl, rfl, rfl, rfl, trivial⟩ (fun _ h => h.picks [0, 0, 0] rfl)
theorem ok_kit_Outside (a0 : Int) (a1 : Int) (a2 : Int) {r : Bool} (hm : m_kit_Outside a0 a1 a2 = some r) :
    Ctr Tryd.prog 71 [.int .i64 a0, .int .i64 a1, .int .i64 a2].toArray ([] : List Ent) [] (X := Unit) (fun _ => .bool r) (fun _ => []) := by
  unfold m_kit_Outside at hm
  refine ctr_mk (vs := [(0, .int .i64 a0), (1, .int .i64 a1), (2, .int .i64 a2)]) Tryd.func71 rfl Tryd.ntmps71 rfl ⟨rfl, rfl, rfl, trivial⟩ (fun w0 A => ?_)
  refine cj_seq ?_
  refine cj_reg ?_
  refine lp rfl (p_as rfl) ?_
  refine lj_seq ?_
  refine cj_seq ?_
  refine cj_reg ?_
  refine lp rfl (p_mv rfl) ?_
  refine lp rfl (p_mv rfl) ?_
  refine lp rfl (p_lss rfl rfl) ?_
  refine lp rfl (p_mv rfl) ?_
  refine lcase (i := 10) (decide (a0 < a1)) rfl (fun hb => ?_) (fun hb => ?_)
  · have hm := ifB_t hb hm
    refine ls false rfl rfl rfl rfl ?_
    refine ls false rfl rfl rfl rfl ?_
    refine ls false rfl rfl rfl rfl ?_
    refine lp rfl (p_pkt rfl rfl) ?_
    refine lp rfl (p_as rfl) ?_
    refine lj_seq ?_
    obtain rfl := Option.some.inj hm
    exact cj_rt () [] Tryd.results71 (.tmp rfl .nil) rfl rfl
  · have hm := ifB_f hb hm
    refine lg false rfl rfl rfl ?_
    refine lp rfl (p_mv rfl) ?_
    refine lg false rfl rfl rfl ?_
    refine lp rfl (p_mv rfl) ?_
    refine lg false rfl rfl rfl ?_
    refine lp rfl (p_gtr rfl rfl) ?_
    refine lp rfl (p_pkf rfl rfl) ?_
    refine lp rfl (p_as rfl) ?_
    refine lj_seq ?_
    obtain rfl := Option.some.inj hm
    exact cj_rt () [] Tryd.results71 (.tmp rfl .nil) rfl rfl
theorem ok_chord_isKind (a0 : Int) {r : Bool} (hm : m_chord_isKind a0 = some r) :
    Ctr Tryd.prog 100 [.int .i64 a0].toArray ([] : List Ent) [] (X := Unit) (fun _ => .bool r) (fun _ => []) := by
  unfold m_chord_isKind at hm
  refine ctr_mk (vs := [(0, .int .i64 a0)]) Tryd.func100 rfl Tryd.ntmps100 rfl ⟨rfl, trivial⟩ (fun w0 A => ?_)
  refine cj_seq ?_
  refine cj_reg ?_
  refine lp rfl (p_as rfl) ?_
  refine lj_seq ?_
  refine cj_seq ?_
  refine cj_reg ?_
  refine lp rfl (p_mv rfl) ?_
  obtain ⟨y1, hy1, hm⟩ := bindS hm
  refine r_call [] cf71 rfl rfl (ok_kit_Outside a0 1 7 hy1) rfl rfl .nil (fun _ => rfl) rfl (fun _ => ?_)
  refine lp rfl (p_not rfl) ?_
  refine lp rfl (p_as rfl) ?_
  refine lj_seq ?_
  obtain rfl := Option.some.inj hm
  exact cj_rt () [] Tryd.results100 (.tmp rfl .nil) rfl rfl
theorem ok_chord_above (a0 : Int) {r : (List Int)} (hm : m_chord_above a0 = some r) :
    Ctr Tryd.prog 119 [.int .i64 a0].toArray ([] : List Ent) [] (X := SV) (fun s => s.v) (fun s => [.ro (RdS R3 (SV.v s) r)]) := by
  unfold m_chord_above at hm
  refine ctr_mk (vs := [(0, .int .i64 a0)]) Tryd.func119 rfl Tryd.ntmps119 rfl ⟨rfl, trivial⟩ (fun w0 A => ?_)
  refine cj_seq ?_
  refine cj_reg ?_
  refine lp rfl (p_as rfl) ?_
  refine lj_seq ?_
  refine cj_seq ?_
  refine cj_reg ?_
  refine r_bs R3 [0, 4, 7] rfl rfl rfl (fun _ => by kernel_rfl) rfl (fun s1 => ?_)
  refine r_bs R3 [0, 3, 7] rfl rfl rfl (fun _ => by kernel_rfl) rfl (fun s2 => ?_)
  refine r_bs R3 [0, 3, 6] rfl rfl rfl (fun _ => by kernel_rfl) rfl (fun s3 => ?_)
  refine r_bs R3 [0, 4, 8] rfl rfl rfl (fun _ => by kernel_rfl) rfl (fun s4 => ?_)
  refine r_bs R3 [0, 4, 7, 10] rfl rfl rfl (fun _ => by kernel_rfl) rfl (fun s5 => ?_)
  refine r_bs R3 [0, 4, 7, 11] rfl rfl rfl (fun _ => by kernel_rfl) rfl (fun s6 => ?_)
  refine r_bs R3 [0, 3, 7, 10] rfl rfl rfl (fun _ => by kernel_rfl) rfl (fun s7 => ?_)
  refine r_fz 6 rfl ?_
  refine r_fz 6 rfl ?_
  refine r_fz 6 rfl ?_
  refine r_fz 6 rfl ?_
  refine r_fz 6 rfl ?_
  refine r_fz 6 rfl ?_
  refine r_fz 6 rfl ?_
  refine r_fact (F := Lk N22 [[], [0, 4, 7], [0, 3, 7], [0, 3, 6], [0, 4, 8], [0, 4, 7, 10], [0, 4, 7, 11], [0, 3, 7, 10]] [([], nilS), ([0, 4, 7], s1), ([0, 3, 7], s2), ([0, 3, 6], s3), ([0, 4, 8], s4), ([0, 4, 7, 10], s5), ([0, 4, 7, 11], s6), ([0, 3, 7, 10], s7)]) (.imp (.and (.nilS R3) (.imp (.and (.ro 6 rfl) (.imp (.and (.ro 5 rfl) (.imp (.and (.ro 4 rfl) (.imp (.and (.ro 3 rfl) (.imp (.and (.ro 2 rfl) (.imp (.and (.ro 1 rfl) (.imp (.and (.ro 0 rfl) (.nilL N22)) (fun _ h => Lk.cons h.1 h.2))) (fun _ h => Lk.cons h.1 h.2))) (fun _ h => Lk.cons h.1 h.2))) (fun _ h => Lk.cons h.1 h.2))) (fun _ h => Lk.cons h.1 h.2))) (fun _ h => Lk.cons h.1 h.2))) (fun _ h => Lk.cons h.1 h.2))) (fun _ h => Lk.cons h.1 h.2)) ?_
  have hLs8 : (([([], nilS), ([0, 4, 7], s1), ([0, 3, 7], s2), ([0, 3, 6], s3), ([0, 4, 8], s4), ([0, 4, 7, 10], s5), ([0, 4, 7, 11], s6), ([0, 3, 7, 10], s7)] : List ((List Int) × SV)).map Prod.fst) = ([[], [0, 4, 7], [0, 3, 7], [0, 3, 6], [0, 4, 8], [0, 4, 7, 10], [0, 4, 7, 11], [0, 3, 7, 10]] : List (List Int)) := rfl
  refine r_bs N22.R [([], nilS), ([0, 4, 7], s1), ([0, 3, 7], s2), ([0, 3, 6], s3), ([0, 4, 8], s4), ([0, 4, 7, 10], s5), ([0, 4, 7, 11], s6), ([0, 3, 7, 10], s7)] rfl rfl rfl (fun _ => by kernel_rfl) rfl (fun s8 => ?_)
  refine lp rfl (p_mv rfl) ?_
  obtain ⟨e12, he12, hm⟩ := bindS hm
  obtain ⟨ge12, he12G⟩ := lk_getI hLs8 he12
  refine lp rfl (p_idx Tryd.underlying56 ty22 rfl rfl (.row 0 rfl) he12G) ?_
  refine lp rfl (p_lde (o := 0) ty22 rfl rfl (.row 0 rfl) (getI_spec he12G).2 rfl) ?_
  refine lp rfl (p_as rfl) ?_
  refine lj_seq ?_
  obtain rfl := Option.some.inj hm
  refine cj_fact (F := RdS R3 (SV.v ge12) e12) (.imp (.ro 1 rfl) (fun _ h => (Lk.at_ h (getI_spec he12G).2))) ?_
  exact cj_rt ge12 [0] Tryd.results119 (.tmp rfl .nil) rfl rfl
theorem ok_chord_CheckChord (a0 : TChord) {r : Int} (hm : m_chord_CheckChord a0 = some r) :
    Ctr Tryd.prog 61 [.agg (R28.enc a0).toArray].toArray ([] : List Ent) [] (X := Unit) (fun _ => .int .i64 r) (fun _ => []) := by
  unfold m_chord_CheckChord at hm
  refine ctr_mk (vs := [(0, .agg (R28.enc a0).toArray)]) Tryd.func61 rfl Tryd.ntmps61 rfl ⟨rfl, trivial⟩ (fun w0 A => ?_)
  refine cj_seq ?_
  refine cj_reg ?_
  refine r_bx (cs := [.int .i64 a0.Root, .int .i64 a0.Kind, .int .i64 a0.Turn]) rfl rfl rfl (fun b1 => ?_)
  refine lp rfl (p_as rfl) ?_
  refine lj_seq ?_
  refine cj_seq ?_
  refine cj_seq ?_
  refine cj_reg ?_
  refine lp rfl (p_fab fl28_0 rfl) ?_
  refine lp rfl (p_lbs ty3 rfl (j := 0) rfl rfl) ?_
  obtain ⟨y2, hy2, hm⟩ := bindS hm
  refine r_call [] cf71 rfl rfl (ok_kit_Outside a0.Root 0 11 hy2) rfl rfl .nil (fun _ => rfl) rfl (fun _ => ?_)
  refine lj_seq ?_
  refine cj_if (b := y2) rfl (fun hb => ?_) (fun hb => ?_)
  · have hm := ifB_t hb hm
    refine cj_seq ?_
    refine cj_reg ?_
    refine lp rfl (p_as rfl) ?_
    refine lj_seq ?_
    obtain rfl := Option.some.inj hm
    exact cj_rt () [] Tryd.results61 (.tmp rfl .nil) rfl rfl
  · have hm := ifB_f hb hm
    refine cj_skip ?_
    refine nj_seq ?_
    refine cj_seq ?_
    refine cj_seq ?_
    refine cj_reg ?_
    refine lp rfl (p_fab fl28_1 rfl) ?_
    refine lp rfl (p_lbs ty3 rfl (j := 0) rfl rfl) ?_
    obtain ⟨y3, hy3, hm⟩ := bindS hm
    refine r_call [] cf100 rfl rfl (ok_chord_isKind a0.Kind hy3) rfl rfl .nil (fun _ => rfl) rfl (fun _ => ?_)
    refine lp rfl (p_not rfl) ?_
    refine lj_seq ?_
    refine cj_if (b := !y3) rfl (fun hb => ?_) (fun hb => ?_)
    · have hm := ifB_t hb hm
      refine cj_seq ?_
      refine cj_reg ?_
      refine lp rfl (p_as rfl) ?_
      refine lj_seq ?_
      obtain rfl := Option.some.inj hm
      exact cj_rt () [] Tryd.results61 (.tmp rfl .nil) rfl rfl
    · have hm := ifB_f hb hm
      refine cj_skip ?_
      refine nj_seq ?_
      refine cj_seq ?_
      refine cj_seq ?_
      obtain ⟨y4, hy4, hm⟩ := bindS hm
      obtain ⟨y6, hy6, hm⟩ := bindS hm
      refine cj_anyT [0, 1, 2, 3, 6] [] (Sat w0 (keys ([] : List Ent)) A [.box b1 28 [.int .i64 a0.Root, .int .i64 a0.Kind, .int .i64 a0.Turn]]) (Sat w0 (keys ([] : List Ent)) A [.box b1 28 [.int .i64 a0.Root, .int .i64 a0.Kind, .int .i64 a0.Turn]]) (by kernel_rfl) ?_
      refine at_take2 0 rfl (by kernel_rfl) (by kernel_rfl) (by kernel_rfl) (fun _ h => h.picks [0] rfl) rfl rfl (p_fab fl28_2 rfl) (fun _ h => h.picks [0] rfl) ?_
      refine at_take2 1 rfl (by kernel_rfl) (by kernel_rfl) (by kernel_rfl) (fun _ h => h.picks [0] rfl) rfl rfl (p_lbs ty3 rfl (j := 0) rfl rfl) (fun _ h => h.picks [0] rfl) ?_
      refine at_take2 2 rfl (by kernel_rfl) (by kernel_rfl) (by kernel_rfl) (fun _ h => h.picks [0] rfl) rfl rfl (p_fab fl28_1 rfl) (fun _ h => h.picks [0] rfl) ?_
      refine at_take2 3 rfl (by kernel_rfl) (by kernel_rfl) (by kernel_rfl) (fun _ h => h.picks [0] rfl) rfl rfl (p_lbs ty3 rfl (j := 0) rfl rfl) (fun _ h => h.picks [0] rfl) ?_
      refine at_each (rs := [4]) (by kernel_rfl) (by decide) ?_
      refine (.cons rfl (fun I cnI => ?_) .nil)
      · refine r_callN [] cf119 rfl rfl (ok_chord_above a0.Kind hy4) rfl rfl .nil rfl (fun s7 => ?_)
        refine lj_nil ?_
        refine cnI _ _ (sof1 rfl rfl (fun _ h => h.picks [1] rfl)) ?_
        refine at_each (rs := [5]) (by kernel_rfl) (by decide) ?_
        refine (.cons rfl (fun I cnI => ?_) .nil)
        · refine lp rfl (p_len Tryd.underlying22 rfl (.ro 0 rfl)) ?_
          refine lj_nil ?_
          refine cnI _ _ (sof1 rfl rfl (fun _ h => h.picks [1] rfl)) ?_
          refine at_take2 6 rfl (by kernel_rfl) (by kernel_rfl) (by kernel_rfl) (fun _ h => h.picks [0] rfl) rfl rfl (p_sub rfl rfl) (fun _ h => h.picks [1] rfl) ?_
          refine at_each (rs := [7]) (by kernel_rfl) (by decide) ?_
          refine (.cons rfl (fun I cnI => ?_) .nil)
          · refine r_call [] cf71 rfl rfl (ok_kit_Outside a0.Turn 0 (w64 ((y4.length : Int) - 1)) hy6) rfl rfl .nil (fun _ => rfl) rfl (fun _ => ?_)
            refine lj_nil ?_
            refine cnI _ _ (sof1 rfl rfl (fun _ h => h.picks [1] rfl)) ?_
            refine at_done (by kernel_rfl) ?_
            refine nj_seq ?_
            refine cj_if (b := y6) rfl (fun hb => ?_) (fun hb => ?_)
            · have hm := ifB_t hb hm
              refine cj_seq ?_
              refine cj_reg ?_
              refine lp rfl (p_as rfl) ?_
              refine lj_seq ?_
              obtain rfl := Option.some.inj hm
              exact cj_rt () [] Tryd.results61 (.tmp rfl .nil) rfl rfl
            · have hm := ifB_f hb hm
              refine cj_skip ?_
              refine nj_seq ?_
              refine cj_seq ?_
              refine cj_reg ?_
              refine lp rfl (p_as rfl) ?_
              refine lj_seq ?_
              obtain rfl := Option.some.inj hm
              exact cj_rt () [] Tryd.results61 (.tmp rfl .nil) rfl rfl
theorem ok_chord_tones (a0 : TChord) {r : (List Int)} (hm : m_chord_tones a0 = some r) :
    Ctr Tryd.prog 67 [.agg (R28.enc a0).toArray].toArray ([] : List Ent) [] (X := SV) (fun s => s.v) (fun s => [.row R3 (SV.v s) r]) := by
  unfold m_chord_tones at hm
  refine ctr_mk (vs := [(0, .agg (R28.enc a0).toArray)]) Tryd.func67 rfl Tryd.ntmps67 rfl ⟨rfl, trivial⟩ (fun w0 A => ?_)
  refine cj_seq ?_
  refine cj_reg ?_
  refine r_bx (cs := [.int .i64 a0.Root, .int .i64 a0.Kind, .int .i64 a0.Turn]) rfl rfl rfl (fun b1 => ?_)
  refine lp rfl (p_as rfl) ?_
  refine lj_seq ?_
  refine cj_seq ?_
  refine cj_reg ?_
  refine lp rfl (p_fab fl28_1 rfl) ?_
  refine lp rfl (p_lbs ty3 rfl (j := 0) rfl rfl) ?_
  obtain ⟨y2, hy2, hm⟩ := bindS hm
  refine r_callN [] cf119 rfl rfl (ok_chord_above a0.Kind hy2) rfl rfl .nil rfl (fun s3 => ?_)
  refine lp rfl (p_as rfl) ?_
  refine lj_seq ?_
  refine cj_seq ?_
  refine cj_reg ?_
  refine lp rfl (p_as rfl) ?_
  refine lj_seq ?_
  refine cj_seq ?_
  refine cj_seq ?_
  refine cj_reg ?_
  refine lp rfl (p_mv rfl) ?_
  refine lp rfl (p_len Tryd.underlying22 rfl (.ro 0 rfl)) ?_
  refine lp rfl (p_mv rfl) ?_
  refine lj_seq ?_
  refine cj_nil R3 ?_
  obtain ⟨f11, hf11, hm⟩ := bindS hm
  refine cj_range (γ := SV) (m := (y2.length : Int)) hf11 nilS (fun u8 g9 => [(1, .pointer (some ⟨b1, 0, none⟩)), (2, .slice none 0 0), (3, s3.v), (4, g9.v)]) (fun u8 g9 => Sat w0 (keys ([] : List Ent)) A [.ro (RdS R3 (SV.v s3) y2), .box b1 28 [.int .i64 a0.Root, .int .i64 a0.Kind, .int .i64 a0.Turn], .row R3 (SV.v g9) u8]) ⟨rfl, rfl, rfl, rfl, rfl, rfl, trivial⟩ (fun _ h => h.picks [1, 1, 0] rfl) (nat_lt _) (fun _ h => (FactAt.get (.ro 1 rfl) h).1) (fun _ _ => ⟨rfl, rfl, rfl, rfl⟩) ⟨rfl, rfl, rfl, rfl, rfl⟩ rfl rfl rfl (fun u8 g9 e => ?_) (fun aftk10 i4 x5 u8 g9 k10 hx6 hs J hJk10 hBk10 hX I cnk10 => ?_)
  · have hm := Flow.fin_b e hm
    refine nj_seq ?_
    refine cj_seq ?_
    refine cj_reg ?_
    refine lp rfl (p_mv rfl) ?_
    refine lp rfl (p_as rfl) ?_
    refine lj_seq ?_
    obtain rfl := Option.some.inj hm
    exact cj_rt g9 [2] Tryd.results67 (.tmp rfl .nil) rfl rfl
  · have hRk10 : ∀ t, k10 = .ret t → some t = some r := fun t e => by rw [hX t e] at hm; exact hm
    have hm := hs
    refine cj_seq ?_
    refine cj_reg ?_
    refine lp rfl (p_mv rfl) ?_
    refine lp rfl (p_as rfl) ?_
    refine lj_seq ?_
    refine cj_pure (F := RdS R3 (SV.v g9) u8) (.row 2 rfl) (fun _ h => h.pures) (fun hq18 => ?_)
    obtain ⟨z13, hz13, hm⟩ := bindS hm
    obtain ⟨e14, he14, hm⟩ := bindS hm
    obtain ⟨q16, hq16, hm⟩ := bindS hm
    refine cj_anyT [0, 1, 2, 3, 4, 5, 6, 7, 8, 9, 10, 11, 12, 13, 14, 17] [] (Sat w0 (keys ([] : List Ent)) A [.ro (RdS R3 (SV.v s3) y2), .box b1 28 [.int .i64 a0.Root, .int .i64 a0.Kind, .int .i64 a0.Turn]]) (Sat w0 (keys ([] : List Ent)) A [.ro (RdS R3 (SV.v s3) y2), .box b1 28 [.int .i64 a0.Root, .int .i64 a0.Kind, .int .i64 a0.Turn]]) (by kernel_rfl) ?_
    refine at_take2 0 rfl (by kernel_rfl) (by kernel_rfl) (by kernel_rfl) (fun _ h => h.picks [0, 0] rfl) rfl rfl (p_mv rfl) (fun _ h => h.picks [0, 0] rfl) ?_
    refine at_take2 1 rfl (by kernel_rfl) (by kernel_rfl) (by kernel_rfl) (fun _ h => h.picks [0, 0] rfl) rfl rfl (p_fab fl28_0 rfl) (fun _ h => h.picks [0, 0] rfl) ?_
    refine at_take2 2 rfl (by kernel_rfl) (by kernel_rfl) (by kernel_rfl) (fun _ h => h.picks [0, 0] rfl) rfl rfl (p_lbs ty3 rfl (j := 1) rfl rfl) (fun _ h => h.picks [0, 0] rfl) ?_
    refine at_take2 3 rfl (by kernel_rfl) (by kernel_rfl) (by kernel_rfl) (fun _ h => h.picks [0, 0] rfl) rfl rfl (p_mv rfl) (fun _ h => h.picks [0, 0] rfl) ?_
    refine at_take2 4 rfl (by kernel_rfl) (by kernel_rfl) (by kernel_rfl) (fun _ h => h.picks [0, 0] rfl) rfl rfl (p_mv rfl) (fun _ h => h.picks [0, 0] rfl) ?_
    refine at_take2 5 rfl (by kernel_rfl) (by kernel_rfl) (by kernel_rfl) (fun _ h => h.picks [0, 0] rfl) rfl rfl (p_fab fl28_2 rfl) (fun _ h => h.picks [0, 0] rfl) ?_
    refine at_take2 6 rfl (by kernel_rfl) (by kernel_rfl) (by kernel_rfl) (fun _ h => h.picks [0, 0] rfl) rfl rfl (p_lbs ty3 rfl (j := 1) rfl rfl) (fun _ h => h.picks [0, 0] rfl) ?_
    refine at_take2 7 rfl (by kernel_rfl) (by kernel_rfl) (by kernel_rfl) (fun _ h => h.picks [0, 0] rfl) rfl rfl (p_add rfl rfl) (fun _ h => h.picks [0, 0] rfl) ?_
    refine at_take2 8 rfl (by kernel_rfl) (by kernel_rfl) (by kernel_rfl) (fun _ h => h.picks [0, 0] rfl) rfl rfl (p_mv rfl) (fun _ h => h.picks [0, 0] rfl) ?_
    refine at_take2 9 rfl (by kernel_rfl) (by kernel_rfl) (by kernel_rfl) (fun _ h => h.picks [0, 0] rfl) rfl rfl (p_len Tryd.underlying22 rfl (.ro 0 rfl)) (fun _ h => h.picks [0, 0] rfl) ?_
    refine at_take2 10 rfl (by kernel_rfl) (by kernel_rfl) (by kernel_rfl) (fun _ h => h.picks [0, 0] rfl) rfl rfl (p_remM hz13 rfl rfl) (fun _ h => h.picks [0, 0] rfl) ?_
    refine at_take2 11 rfl (by kernel_rfl) (by kernel_rfl) (by kernel_rfl) (fun _ h => h.picks [0, 0] rfl) rfl rfl (p_idx Tryd.underlying22 ty3 rfl rfl (.ro 0 rfl) he14) (fun _ h => h.picks [0, 0] rfl) ?_
    refine at_take2 12 rfl (by kernel_rfl) (by kernel_rfl) (by kernel_rfl) (fun _ h => h.picks [0, 0] rfl) rfl rfl (p_lde (o := 0) ty3 rfl rfl (.ro 0 rfl) (getI_spec he14).2 rfl) (fun _ h => h.picks [0, 0] rfl) ?_
    refine at_take2 13 rfl (by kernel_rfl) (by kernel_rfl) (by kernel_rfl) (fun _ h => h.picks [0, 0] rfl) rfl rfl (p_add rfl rfl) (fun _ h => h.picks [0, 0] rfl) ?_
    refine at_take2 14 rfl (by kernel_rfl) (by kernel_rfl) (by kernel_rfl) (fun _ h => h.picks [0, 0] rfl) rfl rfl (p_rem rfl rfl (by decide)) (fun _ h => h.picks [0, 0] rfl) ?_
    refine at_each (rs := [15]) (by kernel_rfl) (by decide) ?_
    refine (.cons rfl (fun I cnI => ?_) .nil)
    · refine r_bs R3 [(w64 (a0.Root + e14)).tmod 12] rfl rfl rfl (fun _ => by kernel_rfl) rfl (fun s19 => ?_)
      refine lj_nil ?_
      refine cnI _ _ (sof1 rfl rfl (fun _ h => h.picks [1, 1] rfl)) ?_
      refine at_each (rs := [16]) (by kernel_rfl) (by decide) ?_
      refine (.cons rfl (fun I cnI => ?_) .nil)
      · refine r_app (k := 3) Tryd.underlying22 ty3 rfl rfl rfl rfl (.row 0 rfl) hq16 rfl (fun s20 => ?_)
        refine lj_nil ?_
        refine cnI _ _ (sof1 rfl rfl (fun _ h => h.picks [1, 1] rfl)) ?_
        refine at_take2 17 rfl (by kernel_rfl) (by kernel_rfl) (by kernel_rfl) (fun _ h => h.picks [0, 0] rfl) rfl rfl (p_as rfl) (fun _ h => h.picks [1, 1] rfl) ?_
        refine at_done (by kernel_rfl) ?_
        refine nj_blk ?_
        exact cnk10 _ _ q16 s20 (hJk10 _ (Option.some.inj hm).symm) ⟨rfl, rfl, rfl, rfl, rfl, rfl, trivial⟩ (fun _ h => h.picks [1, 1, 1] rfl)
theorem ok_chord_Tones (a0 : TChord) {r : (List Int) × Int} (hm : m_chord_Tones a0 = some r) :
    Ctr Tryd.prog 55 [.agg (R28.enc a0).toArray].toArray ([] : List Ent) [] (X := SV) (fun s => .tuple [s.v, .int .i64 r.2].toArray) (fun s => [.row R3 (SV.v s) r.1]) := by
  unfold m_chord_Tones at hm
  refine ctr_mk (vs := [(0, .agg (R28.enc a0).toArray)]) Tryd.func55 rfl Tryd.ntmps55 rfl ⟨rfl, trivial⟩ (fun w0 A => ?_)
  refine cj_seq ?_
  refine cj_reg ?_
  refine r_bx (cs := [.int .i64 a0.Root, .int .i64 a0.Kind, .int .i64 a0.Turn]) rfl rfl rfl (fun b1 => ?_)
  refine lp rfl (p_as rfl) ?_
  refine lp rfl (p_as rfl) ?_
  refine lj_seq ?_
  refine cj_seq ?_
  refine cj_seq ?_
  refine cj_reg ?_
  refine lp rfl (p_lbw ty28 rfl (j := 0) rfl rfl) ?_
  obtain ⟨y2, hy2, hm⟩ := bindS hm
  refine r_call [] cf61 rfl rfl (ok_chord_CheckChord a0 hy2) rfl rfl .nil (fun _ => rfl) rfl (fun _ => ?_)
  refine lp rfl (p_as rfl) ?_
  refine lj_seq ?_
  refine cj_seq ?_
  refine cj_reg ?_
  refine lp rfl (p_mv rfl) ?_
  refine lp rfl (p_neq rfl rfl) ?_
  refine lj_seq ?_
  refine cj_if (b := y2 != 0) rfl (fun hb => ?_) (fun hb => ?_)
  · have hm := ifB_t hb hm
    refine cj_seq ?_
    refine cj_reg ?_
    refine lp rfl (p_mv rfl) ?_
    refine lp rfl (p_as rfl) ?_
    refine lp rfl (p_as rfl) ?_
    refine lj_seq ?_
    obtain rfl := Option.some.inj hm
    refine cj_nil R3 ?_
    exact cj_rt nilS [0] Tryd.results55 (.tmp rfl (.tmp rfl .nil)) rfl rfl
  · have hm := ifB_f hb hm
    refine cj_skip ?_
    refine nj_seq ?_
    refine cj_seq ?_
    refine cj_reg ?_
    refine lp rfl (p_lbw ty28 rfl (j := 0) rfl rfl) ?_
    obtain ⟨y4, hy4, hm⟩ := bindS hm
    refine r_call [] cf67 rfl rfl (ok_chord_tones a0 hy4) rfl rfl .nil (fun _ => rfl) rfl (fun s5 => ?_)
    refine lp rfl (p_as rfl) ?_
    refine lp rfl (p_as rfl) ?_
    refine lj_seq ?_
    obtain rfl := Option.some.inj hm
    exact cj_rt s5 [0] Tryd.results55 (.tmp rfl (.tmp rfl .nil)) rfl rfl
theorem ok_chord_rootWords  {r : (List ByteArray)} (hm : m_chord_rootWords  = some r) :
    Ctr Tryd.prog 110 [].toArray ([] : List Ent) [] (X := SV) (fun s => s.v) (fun s => [.row R9 (SV.v s) r]) := by
  unfold m_chord_rootWords at hm
  refine ctr_mk (vs := []) Tryd.func110 rfl Tryd.ntmps110 rfl trivial (fun w0 A => ?_)
  refine cj_seq ?_
  refine cj_reg ?_
  refine lp rfl (p_as rfl) ?_
  refine lj_seq ?_
  refine cj_seq ?_
  refine cj_reg ?_
  refine r_bs R9 [(ByteArray.mk [99].toArray), (ByteArray.mk [99, 35].toArray), (ByteArray.mk [100].toArray), (ByteArray.mk [100, 35].toArray), (ByteArray.mk [101].toArray), (ByteArray.mk [102].toArray), (ByteArray.mk [102, 35].toArray), (ByteArray.mk [103].toArray), (ByteArray.mk [103, 35].toArray), (ByteArray.mk [97].toArray), (ByteArray.mk [97, 35].toArray), (ByteArray.mk [98].toArray)] rfl rfl rfl (fun _ => by kernel_rfl) rfl (fun s1 => ?_)
  refine lp rfl (p_as rfl) ?_
  refine lj_seq ?_
  obtain rfl := Option.some.inj hm
  exact cj_rt s1 [0] Tryd.results110 (.tmp rfl .nil) rfl rfl
theorem ok_chord_kindWords  {r : (List ByteArray)} (hm : m_chord_kindWords  = some r) :
    Ctr Tryd.prog 111 [].toArray ([] : List Ent) [] (X := SV) (fun s => s.v) (fun s => [.row R9 (SV.v s) r]) := by
  unfold m_chord_kindWords at hm
  refine ctr_mk (vs := []) Tryd.func111 rfl Tryd.ntmps111 rfl trivial (fun w0 A => ?_)
  refine cj_seq ?_
  refine cj_reg ?_
  refine lp rfl (p_as rfl) ?_
  refine lj_seq ?_
  refine cj_seq ?_
  refine cj_reg ?_
  refine r_bs R9 [ByteArray.empty, (ByteArray.mk [109, 97, 106].toArray), (ByteArray.mk [109, 105, 110].toArray), (ByteArray.mk [100, 105, 109].toArray), (ByteArray.mk [97, 117, 103].toArray), (ByteArray.mk [55].toArray), (ByteArray.mk [109, 97, 106, 55].toArray), (ByteArray.mk [109, 105, 110, 55].toArray)] rfl rfl rfl (fun _ => by kernel_rfl) rfl (fun s1 => ?_)
  refine lp rfl (p_as rfl) ?_
  refine lj_seq ?_
  obtain rfl := Option.some.inj hm
  exact cj_rt s1 [0] Tryd.results111 (.tmp rfl .nil) rfl rfl
theorem ok_chord_Name (a0 : TChord) {r : ByteArray × Int} (hm : m_chord_Name a0 = some r) :
    Ctr Tryd.prog 56 [.agg (R28.enc a0).toArray].toArray ([] : List Ent) [PowT] (X := Unit) (fun _ => .tuple [.string r.1, .int .i64 r.2].toArray) (fun _ => []) := by
  unfold m_chord_Name at hm
  refine ctr_mk (vs := [(0, .agg (R28.enc a0).toArray)]) Tryd.func56 rfl Tryd.ntmps56 rfl ⟨rfl, trivial⟩ (fun w0 A => ?_)
  refine cj_seq ?_
  refine cj_reg ?_
  refine r_bx (cs := [.int .i64 a0.Root, .int .i64 a0.Kind, .int .i64 a0.Turn]) rfl rfl rfl (fun b1 => ?_)
  refine lp rfl (p_as rfl) ?_
  refine lp rfl (p_as rfl) ?_
  refine lj_seq ?_
  refine cj_seq ?_
  refine cj_seq ?_
  refine cj_reg ?_
  refine lp rfl (p_lbw ty28 rfl (j := 0) rfl rfl) ?_
  obtain ⟨y2, hy2, hm⟩ := bindS hm
  refine r_call [] cf61 rfl rfl (ok_chord_CheckChord a0 hy2) rfl rfl .nil (fun _ => rfl) rfl (fun _ => ?_)
  refine lp rfl (p_as rfl) ?_
  refine lj_seq ?_
  refine cj_seq ?_
  refine cj_reg ?_
  refine lp rfl (p_mv rfl) ?_
  refine lp rfl (p_neq rfl rfl) ?_
  refine lj_seq ?_
  refine cj_if (b := y2 != 0) rfl (fun hb => ?_) (fun hb => ?_)
  · have hm := ifB_t hb hm
    refine cj_seq ?_
    refine cj_reg ?_
    refine lp rfl (p_mv rfl) ?_
    refine lp rfl (p_as rfl) ?_
    refine lp rfl (p_as rfl) ?_
    refine lj_seq ?_
    obtain rfl := Option.some.inj hm
    exact cj_rt () [] Tryd.results56 (.tmp rfl (.tmp rfl .nil)) rfl rfl
  · have hm := ifB_f hb hm
    refine cj_skip ?_
    refine nj_seq ?_
    refine cj_seq ?_
    obtain ⟨k5, hk5, hm⟩ := bindS hm
    have hRk5 : ∀ t, k5 = .inr t → some t = some r := fun t e => by rw [e] at hm; exact hm
    refine cj_joinK (σ := ByteArray) (γ := Unit) (fun u3 => k5 = .inl u3) (fun u3 g4 => [(1, .pointer (some ⟨b1, 0, none⟩)), (2, .string ByteArray.empty), (3, .int .i64 0), (5, .string u3)]) (fun u3 g4 => Sat w0 (keys ([] : List Ent)) A [.box b1 28 [.int .i64 a0.Root, .int .i64 a0.Kind, .int .i64 a0.Turn], .ro PowT]) (fun u3 g4 hq => ?_) (fun J cnk5 => ?_)
    · have hm := Sum.fin_l hq hm
      refine cj_seq ?_
      refine cj_seq ?_
      refine cj_reg ?_
      refine lp rfl (p_fab fl28_2 rfl) ?_
      refine lp rfl (p_lbs ty3 rfl (j := 0) rfl rfl) ?_
      refine lp rfl (p_gtr rfl rfl) ?_
      refine lj_seq ?_
      refine cj_if (b := decide (a0.Turn > 0)) rfl (fun hb => ?_) (fun hb => ?_)
      · have hm := ifB_t hb hm
        refine cj_reg ?_
        refine lp rfl (p_mv rfl) ?_
        refine lp rfl (p_fab fl28_2 rfl) ?_
        refine lp rfl (p_lbs ty3 rfl (j := 0) rfl rfl) ?_
        obtain ⟨y18, hy18, hm⟩ := bindS hm
        refine r_call [] cf112 rfl rfl (ok_strconv_Itoa a0.Turn hy18) rfl rfl (.cons (.ro 1 rfl) .nil) (fun _ => rfl) rfl (fun _ => ?_)
        obtain ⟨c19, hc19, hm⟩ := bindS hm
        refine lp rfl (p_catM hc19 rfl rfl) ?_
        obtain ⟨c20, hc20, hm⟩ := bindS hm
        refine lp rfl (p_catM hc20 rfl rfl) ?_
        refine lp rfl (p_as rfl) ?_
        refine lj_seq ?_
        refine cj_seq ?_
        refine cj_reg ?_
        refine lp rfl (p_mv rfl) ?_
        refine lp rfl (p_as rfl) ?_
        refine lp rfl (p_as rfl) ?_
        refine lj_seq ?_
        obtain rfl := Option.some.inj hm
        exact cj_rt () [] Tryd.results56 (.tmp rfl (.tmp rfl .nil)) rfl rfl
      · have hm := ifB_f hb hm
        refine cj_skip ?_
        refine nj_seq ?_
        refine cj_seq ?_
        refine cj_reg ?_
        refine lp rfl (p_mv rfl) ?_
        refine lp rfl (p_as rfl) ?_
        refine lp rfl (p_as rfl) ?_
        refine lj_seq ?_
        obtain rfl := Option.some.inj hm
        exact cj_rt () [] Tryd.results56 (.tmp rfl (.tmp rfl .nil)) rfl rfl
    · have hm := hk5
      obtain ⟨y6, hy6, hm⟩ := bindS hm
      obtain ⟨e8, he8, hm⟩ := bindS hm
      obtain ⟨c9, hc9, hm⟩ := bindS hm
      obtain ⟨y10, hy10, hm⟩ := bindS hm
      obtain ⟨e12, he12, hm⟩ := bindS hm
      obtain ⟨c13, hc13, hm⟩ := bindS hm
      refine cj_anyT [1, 2, 5, 7, 8, 11, 12] [] (Sat w0 (keys ([] : List Ent)) A [.box b1 28 [.int .i64 a0.Root, .int .i64 a0.Kind, .int .i64 a0.Turn], .ro PowT]) (Sat w0 (keys ([] : List Ent)) A [.box b1 28 [.int .i64 a0.Root, .int .i64 a0.Kind, .int .i64 a0.Turn], .ro PowT]) (by kernel_rfl) ?_
      refine at_take2 1 rfl (by kernel_rfl) (by kernel_rfl) (by kernel_rfl) (fun _ h => h.picks [0, 0] rfl) rfl rfl (p_fab fl28_0 rfl) (fun _ h => h.picks [0, 0] rfl) ?_
      refine at_take2 2 rfl (by kernel_rfl) (by kernel_rfl) (by kernel_rfl) (fun _ h => h.picks [0, 0] rfl) rfl rfl (p_lbs ty3 rfl (j := 0) rfl rfl) (fun _ h => h.picks [0, 0] rfl) ?_
      refine at_take2 7 rfl (by kernel_rfl) (by kernel_rfl) (by kernel_rfl) (fun _ h => h.picks [0, 0] rfl) rfl rfl (p_fab fl28_1 rfl) (fun _ h => h.picks [0, 0] rfl) ?_
      refine at_take2 8 rfl (by kernel_rfl) (by kernel_rfl) (by kernel_rfl) (fun _ h => h.picks [0, 0] rfl) rfl rfl (p_lbs ty3 rfl (j := 0) rfl rfl) (fun _ h => h.picks [0, 0] rfl) ?_
      refine at_each (rs := [0]) (by kernel_rfl) (by decide) ?_
      refine (.cons rfl (fun I cnI => ?_) .nil)
      · refine r_call [] cf110 rfl rfl (ok_chord_rootWords  hy6) rfl rfl .nil (fun _ => rfl) rfl (fun s14 => ?_)
        refine lj_nil ?_
        refine cnI _ _ (sof1 rfl rfl (fun _ h => h.picks [1, 1] rfl)) ?_
        refine at_each (rs := [3, 6]) (by kernel_rfl) (by decide) ?_
        refine (.cons rfl (fun I cnI => ?_) (.cons rfl (fun I cnI => ?_) .nil))
        · refine lp rfl (p_idx Tryd.underlying142 ty9 rfl rfl (.row 0 rfl) he8) ?_
          refine lj_nil ?_
          refine cnI _ _ (sof1 rfl rfl (fun _ h => h.picks [1, 1] rfl)) ?_
          refine at_each (rs := [4, 6]) (by kernel_rfl) (by decide) ?_
          refine (.cons rfl (fun I cnI => ?_) (.cons rfl (fun I cnI => ?_) .nil))
          · refine lp rfl (p_lde (o := 0) ty9 rfl rfl (.row 0 rfl) (getI_spec he8).2 rfl) ?_
            refine lj_nil ?_
            refine cnI _ _ (sof1 rfl rfl (fun _ h => h.picks [1, 1] rfl)) ?_
            refine at_take2 5 rfl (by kernel_rfl) (by kernel_rfl) (by kernel_rfl) (fun _ h => h.picks [0, 0] rfl) rfl rfl (p_catM hc9 rfl rfl) (fun _ h => h.picks [1, 1] rfl) ?_
            refine at_each (rs := [6]) (by kernel_rfl) (by decide) ?_
            refine (.cons rfl (fun I cnI => ?_) .nil)
            · refine r_call [] cf111 rfl rfl (ok_chord_kindWords  hy10) rfl rfl .nil (fun _ => rfl) rfl (fun s15 => ?_)
              refine lj_nil ?_
              refine cnI _ _ (sof1 rfl rfl (fun _ h => h.picks [2, 2] rfl)) ?_
              refine at_each (rs := [9]) (by kernel_rfl) (by decide) ?_
              refine (.cons rfl (fun I cnI => ?_) .nil)
              · refine lp rfl (p_idx Tryd.underlying142 ty9 rfl rfl (.row 0 rfl) he12) ?_
                refine lj_nil ?_
                refine cnI _ _ (sof1 rfl rfl (fun _ h => h.picks [2, 2] rfl)) ?_
                refine at_each (rs := [10]) (by kernel_rfl) (by decide) ?_
                refine (.cons rfl (fun I cnI => ?_) .nil)
                · refine lp rfl (p_lde (o := 0) ty9 rfl rfl (.row 0 rfl) (getI_spec he12).2 rfl) ?_
                  refine lj_nil ?_
                  refine cnI _ _ (sof1 rfl rfl (fun _ h => h.picks [2, 2] rfl)) ?_
                  refine at_take2 11 rfl (by kernel_rfl) (by kernel_rfl) (by kernel_rfl) (fun _ h => h.picks [0, 0] rfl) rfl rfl (p_catM hc13 rfl rfl) (fun _ h => h.picks [2, 2] rfl) ?_
                  refine at_take2 12 rfl (by kernel_rfl) (by kernel_rfl) (by kernel_rfl) (fun _ h => h.picks [0, 0] rfl) rfl rfl (p_as rfl) (fun _ h => h.picks [2, 2] rfl) ?_
                  refine at_done (by kernel_rfl) ?_
                  exact cnk5 _ _ c13 () (Option.some.inj hm).symm ⟨rfl, rfl, rfl, rfl, trivial⟩ (fun _ h => h.picks [2, 2] rfl)
          · refine r_call [] cf111 rfl rfl (ok_chord_kindWords  hy10) rfl rfl .nil (fun _ => rfl) rfl (fun s16 => ?_)
            refine lj_nil ?_
            refine cnI _ _ (sof1 rfl rfl (fun _ h => h.picks [2, 2] rfl)) ?_
            refine at_each (rs := [4, 9]) (by kernel_rfl) (by decide) ?_
            refine (.cons rfl (fun I cnI => ?_) (.cons rfl (fun I cnI => ?_) .nil))
            · refine lp rfl (p_lde (o := 0) ty9 rfl rfl (.row 1 rfl) (getI_spec he8).2 rfl) ?_
              refine lj_nil ?_
              refine cnI _ _ (sof1 rfl rfl (fun _ h => h.picks [2, 2] rfl)) ?_
              refine at_take2 5 rfl (by kernel_rfl) (by kernel_rfl) (by kernel_rfl) (fun _ h => h.picks [0, 0] rfl) rfl rfl (p_catM hc9 rfl rfl) (fun _ h => h.picks [2, 2] rfl) ?_
              refine at_each (rs := [9]) (by kernel_rfl) (by decide) ?_
              refine (.cons rfl (fun I cnI => ?_) .nil)
              · refine lp rfl (p_idx Tryd.underlying142 ty9 rfl rfl (.row 0 rfl) he12) ?_
                refine lj_nil ?_
                refine cnI _ _ (sof1 rfl rfl (fun _ h => h.picks [2, 2] rfl)) ?_
                refine at_each (rs := [10]) (by kernel_rfl) (by decide) ?_
                refine (.cons rfl (fun I cnI => ?_) .nil)
                · refine lp rfl (p_lde (o := 0) ty9 rfl rfl (.row 0 rfl) (getI_spec he12).2 rfl) ?_
                  refine lj_nil ?_
                  refine cnI _ _ (sof1 rfl rfl (fun _ h => h.picks [2, 2] rfl)) ?_
                  refine at_take2 11 rfl (by kernel_rfl) (by kernel_rfl) (by kernel_rfl) (fun _ h => h.picks [0, 0] rfl) rfl rfl (p_catM hc13 rfl rfl) (fun _ h => h.picks [2, 2] rfl) ?_
                  refine at_take2 12 rfl (by kernel_rfl) (by kernel_rfl) (by kernel_rfl) (fun _ h => h.picks [0, 0] rfl) rfl rfl (p_as rfl) (fun _ h => h.picks [2, 2] rfl) ?_
                  refine at_done (by kernel_rfl) ?_
                  exact cnk5 _ _ c13 () (Option.some.inj hm).symm ⟨rfl, rfl, rfl, rfl, trivial⟩ (fun _ h => h.picks [2, 2] rfl)
            · refine lp rfl (p_idx Tryd.underlying142 ty9 rfl rfl (.row 0 rfl) he12) ?_
              refine lj_nil ?_
              refine cnI _ _ (sof1 rfl rfl (fun _ h => h.picks [2, 2] rfl)) ?_
              refine at_each (rs := [4, 10]) (by kernel_rfl) (by decide) ?_
              refine (.cons rfl (fun I cnI => ?_) (.cons rfl (fun I cnI => ?_) .nil))
              · refine lp rfl (p_lde (o := 0) ty9 rfl rfl (.row 1 rfl) (getI_spec he8).2 rfl) ?_
                refine lj_nil ?_
                refine cnI _ _ (sof1 rfl rfl (fun _ h => h.picks [2, 2] rfl)) ?_
                refine at_take2 5 rfl (by kernel_rfl) (by kernel_rfl) (by kernel_rfl) (fun _ h => h.picks [0, 0] rfl) rfl rfl (p_catM hc9 rfl rfl) (fun _ h => h.picks [2, 2] rfl) ?_
                refine at_each (rs := [10]) (by kernel_rfl) (by decide) ?_
                refine (.cons rfl (fun I cnI => ?_) .nil)
                · refine lp rfl (p_lde (o := 0) ty9 rfl rfl (.row 0 rfl) (getI_spec he12).2 rfl) ?_
                  refine lj_nil ?_
                  refine cnI _ _ (sof1 rfl rfl (fun _ h => h.picks [2, 2] rfl)) ?_
                  refine at_take2 11 rfl (by kernel_rfl) (by kernel_rfl) (by kernel_rfl) (fun _ h => h.picks [0, 0] rfl) rfl rfl (p_catM hc13 rfl rfl) (fun _ h => h.picks [2, 2] rfl) ?_
                  refine at_take2 12 rfl (by kernel_rfl) (by kernel_rfl) (by kernel_rfl) (fun _ h => h.picks [0, 0] rfl) rfl rfl (p_as rfl) (fun _ h => h.picks [2, 2] rfl) ?_
                  refine at_done (by kernel_rfl) ?_
                  exact cnk5 _ _ c13 () (Option.some.inj hm).symm ⟨rfl, rfl, rfl, rfl, trivial⟩ (fun _ h => h.picks [2, 2] rfl)
              · refine lp rfl (p_lde (o := 0) ty9 rfl rfl (.row 0 rfl) (getI_spec he12).2 rfl) ?_
                refine lj_nil ?_
                refine cnI _ _ (sof1 rfl rfl (fun _ h => h.picks [2, 2] rfl)) ?_
                refine at_each (rs := [4]) (by kernel_rfl) (by decide) ?_
                refine (.cons rfl (fun I cnI => ?_) .nil)
                · refine lp rfl (p_lde (o := 0) ty9 rfl rfl (.row 1 rfl) (getI_spec he8).2 rfl) ?_
                  refine lj_nil ?_
                  refine cnI _ _ (sof1 rfl rfl (fun _ h => h.picks [2, 2] rfl)) ?_
                  refine at_take2 5 rfl (by kernel_rfl) (by kernel_rfl) (by kernel_rfl) (fun _ h => h.picks [0, 0] rfl) rfl rfl (p_catM hc9 rfl rfl) (fun _ h => h.picks [2, 2] rfl) ?_
                  refine at_take2 11 rfl (by kernel_rfl) (by kernel_rfl) (by kernel_rfl) (fun _ h => h.picks [0, 0] rfl) rfl rfl (p_catM hc13 rfl rfl) (fun _ h => h.picks [2, 2] rfl) ?_
                  refine at_take2 12 rfl (by kernel_rfl) (by kernel_rfl) (by kernel_rfl) (fun _ h => h.picks [0, 0] rfl) rfl rfl (p_as rfl) (fun _ h => h.picks [2, 2] rfl) ?_
                  refine at_done (by kernel_rfl) ?_
                  exact cnk5 _ _ c13 () (Option.some.inj hm).symm ⟨rfl, rfl, rfl, rfl, trivial⟩ (fun _ h => h.picks [2, 2] rfl)
        · refine r_call [] cf111 rfl rfl (ok_chord_kindWords  hy10) rfl rfl .nil (fun _ => rfl) rfl (fun s17 => ?_)
          refine lj_nil ?_
          refine cnI _ _ (sof1 rfl rfl (fun _ h => h.picks [2, 2] rfl)) ?_
          refine at_each (rs := [3, 9]) (by kernel_rfl) (by decide) ?_
          refine (.cons rfl (fun I cnI => ?_) (.cons rfl (fun I cnI => ?_) .nil))
          · refine lp rfl (p_idx Tryd.underlying142 ty9 rfl rfl (.row 1 rfl) he8) ?_
            refine lj_nil ?_
            refine cnI _ _ (sof1 rfl rfl (fun _ h => h.picks [2, 2] rfl)) ?_
            refine at_each (rs := [4, 9]) (by kernel_rfl) (by decide) ?_
            refine (.cons rfl (fun I cnI => ?_) (.cons rfl (fun I cnI => ?_) .nil))
            · refine lp rfl (p_lde (o := 0) ty9 rfl rfl (.row 1 rfl) (getI_spec he8).2 rfl) ?_
              refine lj_nil ?_
              refine cnI _ _ (sof1 rfl rfl (fun _ h => h.picks [2, 2] rfl)) ?_
              refine at_take2 5 rfl (by kernel_rfl) (by kernel_rfl) (by kernel_rfl) (fun _ h => h.picks [0, 0] rfl) rfl rfl (p_catM hc9 rfl rfl) (fun _ h => h.picks [2, 2] rfl) ?_
              refine at_each (rs := [9]) (by kernel_rfl) (by decide) ?_
              refine (.cons rfl (fun I cnI => ?_) .nil)
              · refine lp rfl (p_idx Tryd.underlying142 ty9 rfl rfl (.row 0 rfl) he12) ?_
                refine lj_nil ?_
                refine cnI _ _ (sof1 rfl rfl (fun _ h => h.picks [2, 2] rfl)) ?_
                refine at_each (rs := [10]) (by kernel_rfl) (by decide) ?_
                refine (.cons rfl (fun I cnI => ?_) .nil)
                · refine lp rfl (p_lde (o := 0) ty9 rfl rfl (.row 0 rfl) (getI_spec he12).2 rfl) ?_
                  refine lj_nil ?_
                  refine cnI _ _ (sof1 rfl rfl (fun _ h => h.picks [2, 2] rfl)) ?_
                  refine at_take2 11 rfl (by kernel_rfl) (by kernel_rfl) (by kernel_rfl) (fun _ h => h.picks [0, 0] rfl) rfl rfl (p_catM hc13 rfl rfl) (fun _ h => h.picks [2, 2] rfl) ?_
                  refine at_take2 12 rfl (by kernel_rfl) (by kernel_rfl) (by kernel_rfl) (fun _ h => h.picks [0, 0] rfl) rfl rfl (p_as rfl) (fun _ h => h.picks [2, 2] rfl) ?_
                  refine at_done (by kernel_rfl) ?_
                  exact cnk5 _ _ c13 () (Option.some.inj hm).symm ⟨rfl, rfl, rfl, rfl, trivial⟩ (fun _ h => h.picks [2, 2] rfl)
            · refine lp rfl (p_idx Tryd.underlying142 ty9 rfl rfl (.row 0 rfl) he12) ?_
              refine lj_nil ?_
              refine cnI _ _ (sof1 rfl rfl (fun _ h => h.picks [2, 2] rfl)) ?_
              refine at_each (rs := [4, 10]) (by kernel_rfl) (by decide) ?_
              refine (.cons rfl (fun I cnI => ?_) (.cons rfl (fun I cnI => ?_) .nil))
              · refine lp rfl (p_lde (o := 0) ty9 rfl rfl (.row 1 rfl) (getI_spec he8).2 rfl) ?_
                refine lj_nil ?_
                refine cnI _ _ (sof1 rfl rfl (fun _ h => h.picks [2, 2] rfl)) ?_
                refine at_take2 5 rfl (by kernel_rfl) (by kernel_rfl) (by kernel_rfl) (fun _ h => h.picks [0, 0] rfl) rfl rfl (p_catM hc9 rfl rfl) (fun _ h => h.picks [2, 2] rfl) ?_
                refine at_each (rs := [10]) (by kernel_rfl) (by decide) ?_
                refine (.cons rfl (fun I cnI => ?_) .nil)
                · refine lp rfl (p_lde (o := 0) ty9 rfl rfl (.row 0 rfl) (getI_spec he12).2 rfl) ?_
                  refine lj_nil ?_
                  refine cnI _ _ (sof1 rfl rfl (fun _ h => h.picks [2, 2] rfl)) ?_
                  refine at_take2 11 rfl (by kernel_rfl) (by kernel_rfl) (by kernel_rfl) (fun _ h => h.picks [0, 0] rfl) rfl rfl (p_catM hc13 rfl rfl) (fun _ h => h.picks [2, 2] rfl) ?_
                  refine at_take2 12 rfl (by kernel_rfl) (by kernel_rfl) (by kernel_rfl) (fun _ h => h.picks [0, 0] rfl) rfl rfl (p_as rfl) (fun _ h => h.picks [2, 2] rfl) ?_
                  refine at_done (by kernel_rfl) ?_
                  exact cnk5 _ _ c13 () (Option.some.inj hm).symm ⟨rfl, rfl, rfl, rfl, trivial⟩ (fun _ h => h.picks [2, 2] rfl)
              · refine lp rfl (p_lde (o := 0) ty9 rfl rfl (.row 0 rfl) (getI_spec he12).2 rfl) ?_
                refine lj_nil ?_
                refine cnI _ _ (sof1 rfl rfl (fun _ h => h.picks [2, 2] rfl)) ?_
                refine at_each (rs := [4]) (by kernel_rfl) (by decide) ?_
                refine (.cons rfl (fun I cnI => ?_) .nil)
                · refine lp rfl (p_lde (o := 0) ty9 rfl rfl (.row 1 rfl) (getI_spec he8).2 rfl) ?_
                  refine lj_nil ?_
                  refine cnI _ _ (sof1 rfl rfl (fun _ h => h.picks [2, 2] rfl)) ?_
                  refine at_take2 5 rfl (by kernel_rfl) (by kernel_rfl) (by kernel_rfl) (fun _ h => h.picks [0, 0] rfl) rfl rfl (p_catM hc9 rfl rfl) (fun _ h => h.picks [2, 2] rfl) ?_
                  refine at_take2 11 rfl (by kernel_rfl) (by kernel_rfl) (by kernel_rfl) (fun _ h => h.picks [0, 0] rfl) rfl rfl (p_catM hc13 rfl rfl) (fun _ h => h.picks [2, 2] rfl) ?_
                  refine at_take2 12 rfl (by kernel_rfl) (by kernel_rfl) (by kernel_rfl) (fun _ h => h.picks [0, 0] rfl) rfl rfl (p_as rfl) (fun _ h => h.picks [2, 2] rfl) ?_
                  refine at_done (by kernel_rfl) ?_
                  exact cnk5 _ _ c13 () (Option.some.inj hm).symm ⟨rfl, rfl, rfl, rfl, trivial⟩ (fun _ h => h.picks [2, 2] rfl)
          · refine lp rfl (p_idx Tryd.underlying142 ty9 rfl rfl (.row 0 rfl) he12) ?_
            refine lj_nil ?_
            refine cnI _ _ (sof1 rfl rfl (fun _ h => h.picks [2, 2] rfl)) ?_
            refine at_each (rs := [3, 10]) (by kernel_rfl) (by decide) ?_
            refine (.cons rfl (fun I cnI => ?_) (.cons rfl (fun I cnI => ?_) .nil))
            · refine lp rfl (p_idx Tryd.underlying142 ty9 rfl rfl (.row 1 rfl) he8) ?_
              refine lj_nil ?_
              refine cnI _ _ (sof1 rfl rfl (fun _ h => h.picks [2, 2] rfl)) ?_
              refine at_each (rs := [4, 10]) (by kernel_rfl) (by decide) ?_
              refine (.cons rfl (fun I cnI => ?_) (.cons rfl (fun I cnI => ?_) .nil))
              · refine lp rfl (p_lde (o := 0) ty9 rfl rfl (.row 1 rfl) (getI_spec he8).2 rfl) ?_
                refine lj_nil ?_
                refine cnI _ _ (sof1 rfl rfl (fun _ h => h.picks [2, 2] rfl)) ?_
                refine at_take2 5 rfl (by kernel_rfl) (by kernel_rfl) (by kernel_rfl) (fun _ h => h.picks [0, 0] rfl) rfl rfl (p_catM hc9 rfl rfl) (fun _ h => h.picks [2, 2] rfl) ?_
                refine at_each (rs := [10]) (by kernel_rfl) (by decide) ?_
                refine (.cons rfl (fun I cnI => ?_) .nil)
                · refine lp rfl (p_lde (o := 0) ty9 rfl rfl (.row 0 rfl) (getI_spec he12).2 rfl) ?_
                  refine lj_nil ?_
                  refine cnI _ _ (sof1 rfl rfl (fun _ h => h.picks [2, 2] rfl)) ?_
                  refine at_take2 11 rfl (by kernel_rfl) (by kernel_rfl) (by kernel_rfl) (fun _ h => h.picks [0, 0] rfl) rfl rfl (p_catM hc13 rfl rfl) (fun _ h => h.picks [2, 2] rfl) ?_
                  refine at_take2 12 rfl (by kernel_rfl) (by kernel_rfl) (by kernel_rfl) (fun _ h => h.picks [0, 0] rfl) rfl rfl (p_as rfl) (fun _ h => h.picks [2, 2] rfl) ?_
                  refine at_done (by kernel_rfl) ?_
                  exact cnk5 _ _ c13 () (Option.some.inj hm).symm ⟨rfl, rfl, rfl, rfl, trivial⟩ (fun _ h => h.picks [2, 2] rfl)
              · refine lp rfl (p_lde (o := 0) ty9 rfl rfl (.row 0 rfl) (getI_spec he12).2 rfl) ?_
                refine lj_nil ?_
                refine cnI _ _ (sof1 rfl rfl (fun _ h => h.picks [2, 2] rfl)) ?_
                refine at_each (rs := [4]) (by kernel_rfl) (by decide) ?_
                refine (.cons rfl (fun I cnI => ?_) .nil)
                · refine lp rfl (p_lde (o := 0) ty9 rfl rfl (.row 1 rfl) (getI_spec he8).2 rfl) ?_
                  refine lj_nil ?_
                  refine cnI _ _ (sof1 rfl rfl (fun _ h => h.picks [2, 2] rfl)) ?_
                  refine at_take2 5 rfl (by kernel_rfl) (by kernel_rfl) (by kernel_rfl) (fun _ h => h.picks [0, 0] rfl) rfl rfl (p_catM hc9 rfl rfl) (fun _ h => h.picks [2, 2] rfl) ?_
                  refine at_take2 11 rfl (by kernel_rfl) (by kernel_rfl) (by kernel_rfl) (fun _ h => h.picks [0, 0] rfl) rfl rfl (p_catM hc13 rfl rfl) (fun _ h => h.picks [2, 2] rfl) ?_
                  refine at_take2 12 rfl (by kernel_rfl) (by kernel_rfl) (by kernel_rfl) (fun _ h => h.picks [0, 0] rfl) rfl rfl (p_as rfl) (fun _ h => h.picks [2, 2] rfl) ?_
                  refine at_done (by kernel_rfl) ?_
                  exact cnk5 _ _ c13 () (Option.some.inj hm).symm ⟨rfl, rfl, rfl, rfl, trivial⟩ (fun _ h => h.picks [2, 2] rfl)
            · refine lp rfl (p_lde (o := 0) ty9 rfl rfl (.row 0 rfl) (getI_spec he12).2 rfl) ?_
              refine lj_nil ?_
              refine cnI _ _ (sof1 rfl rfl (fun _ h => h.picks [2, 2] rfl)) ?_
              refine at_each (rs := [3]) (by kernel_rfl) (by decide) ?_
              refine (.cons rfl (fun I cnI => ?_) .nil)
              · refine lp rfl (p_idx Tryd.underlying142 ty9 rfl rfl (.row 1 rfl) he8) ?_
                refine lj_nil ?_
                refine cnI _ _ (sof1 rfl rfl (fun _ h => h.picks [2, 2] rfl)) ?_
                refine at_each (rs := [4]) (by kernel_rfl) (by decide) ?_
                refine (.cons rfl (fun I cnI => ?_) .nil)
                · refine lp rfl (p_lde (o := 0) ty9 rfl rfl (.row 1 rfl) (getI_spec he8).2 rfl) ?_
                  refine lj_nil ?_
                  refine cnI _ _ (sof1 rfl rfl (fun _ h => h.picks [2, 2] rfl)) ?_
                  refine at_take2 5 rfl (by kernel_rfl) (by kernel_rfl) (by kernel_rfl) (fun _ h => h.picks [0, 0] rfl) rfl rfl (p_catM hc9 rfl rfl) (fun _ h => h.picks [2, 2] rfl) ?_
                  refine at_take2 11 rfl (by kernel_rfl) (by kernel_rfl) (by kernel_rfl) (fun _ h => h.picks [0, 0] rfl) rfl rfl (p_catM hc13 rfl rfl) (fun _ h => h.picks [2, 2] rfl) ?_
                  refine at_take2 12 rfl (by kernel_rfl) (by kernel_rfl) (by kernel_rfl) (fun _ h => h.picks [0, 0] rfl) rfl rfl (p_as rfl) (fun _ h => h.picks [2, 2] rfl) ?_
                  refine at_done (by kernel_rfl) ?_
                  exact cnk5 _ _ c13 () (Option.some.inj hm).symm ⟨rfl, rfl, rfl, rfl, trivial⟩ (fun _ h => h.picks [2, 2] rfl)
theorem ok_stringslite_Index (a0 : ByteArray) (a1 : ByteArray) {r : Int} (hm : m_stringslite_Index a0 a1 = some r) :
    Ctr Tryd.prog 164 [.string a0, .string a1].toArray ([] : List Ent) [] (X := Unit) (fun _ => .int .i64 r) (fun _ => []) := by
  unfold m_stringslite_Index at hm
  refine ctr_mk (vs := [(0, .string a0), (1, .string a1)]) Tryd.func164 rfl Tryd.ntmps164 rfl ⟨rfl, rfl, trivial⟩ (fun w0 A => ?_)
  refine cj_seq ?_
  refine cj_reg ?_
  refine lp rfl (p_as rfl) ?_
  refine lj_seq ?_
  refine cj_seq ?_
  refine cj_reg ?_
  refine lp rfl (p_mv rfl) ?_
  refine lp rfl (p_lens Tryd.underlying9 rfl) ?_
  refine lp rfl (p_as rfl) ?_
  refine lj_seq ?_
  refine cj_seq ?_
  refine cj_blk ?_
  refine cj_seq ?_
  refine cj_reg ?_
  obtain ⟨k3, hk3, hm⟩ := bindS hm
  have hRk3 : ∀ t, k3 = .inr t → some t = some r := fun t e => by rw [e] at hm; exact hm
  refine lj_join (σ := Bool) (γ := Unit) (fun u1 => k3 = .inl u1) (fun u1 g2 => [(0, .string a0), (1, .string a1), (4, .int .i64 0), (5, .int .i64 (a1.size : Int)), (16, .bool u1)]) (fun u1 g2 => Sat w0 (keys ([] : List Ent)) A []) (fun u1 g2 hq => ?_) (fun J cnk3 => ?_)
  · have hm := Sum.fin_l hq hm
    refine cj_if (b := u1) rfl (fun hb => ?_) (fun hb => ?_)
    · have hm := ifB_t hb hm
      refine cj_seq ?_
      refine cj_reg ?_
      refine lp rfl (p_as rfl) ?_
      refine lj_seq ?_
      obtain rfl := Option.some.inj hm
      exact cj_rt () [] Tryd.results164 (.tmp rfl .nil) rfl rfl
    · have hm := ifB_f hb hm
      refine cj_seq ?_
      refine cj_reg ?_
      refine lp rfl (p_mv rfl) ?_
      refine lp rfl (p_eql rfl rfl) ?_
      refine lp rfl (p_as rfl) ?_
      refine lj_seq ?_
      refine cj_if (b := (a1.size : Int) == 1) rfl (fun hb => ?_) (fun hb => ?_)
      · have hm := ifB_t hb hm
        refine cj_seq ?_
        refine cj_reg ?_
        refine lp rfl (p_mv rfl) ?_
        refine lp rfl (p_mv rfl) ?_
        obtain ⟨c4, hc4, hm⟩ := bindS hm
        refine lp rfl (p_stri Tryd.underlying9 rfl rfl hc4) ?_
        obtain ⟨y5, hy5, hm⟩ := bindS hm
        refine r_call [] cf195 rfl rfl (ok_stringslite_IndexByte a0 c4 hy5) rfl rfl .nil (fun _ => rfl) rfl (fun _ => ?_)
        refine lp rfl (p_as rfl) ?_
        refine lj_seq ?_
        obtain rfl := Option.some.inj hm
        exact cj_rt () [] Tryd.results164 (.tmp rfl .nil) rfl rfl
      · have hm := ifB_f hb hm
        refine cj_seq ?_
        refine cj_reg ?_
        refine lp rfl (p_mv rfl) ?_
        refine lp rfl (p_mv rfl) ?_
        refine lp rfl (p_lens Tryd.underlying9 rfl) ?_
        refine lp rfl (p_geq rfl rfl) ?_
        refine lp rfl (p_as rfl) ?_
        refine lj_seq ?_
        refine cj_if (b := decide ((a1.size : Int) ≥ (a0.size : Int))) rfl (fun hb => ?_) (fun hb => ?_)
        · have hm := ifB_t hb hm
          refine cj_seq ?_
          refine cj_reg ?_
          refine lp rfl (p_as rfl) ?_
          refine lj_seq ?_
          obtain rfl := Option.some.inj hm
          exact cj_rt () [] Tryd.results164 (.tmp rfl .nil) rfl rfl
        · have hm := ifB_f hb hm
          refine cj_seq ?_
          refine cj_reg ?_
          refine lp rfl (p_mv rfl) ?_
          cases hm
  · have hm := hk3
    refine lp rfl (p_mv rfl) ?_
    refine lp rfl (p_eql rfl rfl) ?_
    refine lp rfl (p_mv rfl) ?_
    refine lcase (i := 19) ((a1.size : Int) == 0) rfl (fun hb => ?_) (fun hb => ?_)
    · have hm := ifB_t hb hm
      refine ls false rfl rfl rfl rfl ?_
      refine ls false rfl rfl rfl rfl ?_
      refine ls false rfl rfl rfl rfl ?_
      refine lp rfl (p_pkt rfl rfl) ?_
      refine lp rfl (p_as rfl) ?_
      refine lj_nil ?_
      exact cnk3 _ _ true () (Option.some.inj hm).symm ⟨rfl, rfl, rfl, rfl, rfl, trivial⟩ (fun _ h => h.picks [] rfl)
    · have hm := ifB_f hb hm
      refine lg false rfl rfl rfl ?_
      refine lp rfl (p_mv rfl) ?_
      refine lg false rfl rfl rfl ?_
      refine lp rfl (p_mv rfl) ?_
      refine lg false rfl rfl rfl ?_
      refine lp rfl (p_eqs rfl rfl) ?_
      refine lp rfl (p_pkf rfl rfl) ?_
      refine lp rfl (p_as rfl) ?_
      refine lj_nil ?_
      exact cnk3 _ _ (a1.toList == a0.toList) () (Option.some.inj hm).symm ⟨rfl, rfl, rfl, rfl, rfl, trivial⟩ (fun _ h => h.picks [] rfl)
theorem ok_stringslite_Cut (a0 : ByteArray) (a1 : ByteArray) {r : ByteArray × ByteArray × Bool} (hm : m_stringslite_Cut a0 a1 = some r) :
    Ctr Tryd.prog 142 [.string a0, .string a1].toArray ([] : List Ent) [] (X := Unit) (fun _ => .tuple [.string r.1, .string r.2.1, .bool r.2.2].toArray) (fun _ => []) := by
  unfold m_stringslite_Cut at hm
  refine ctr_mk (vs := [(0, .string a0), (1, .string a1)]) Tryd.func142 rfl Tryd.ntmps142 rfl ⟨rfl, rfl, trivial⟩ (fun w0 A => ?_)
  refine cj_seq ?_
  refine cj_reg ?_
  refine lp rfl (p_as rfl) ?_
  refine lp rfl (p_as rfl) ?_
  refine lp rfl (p_as rfl) ?_
  refine lj_seq ?_
  refine cj_seq ?_
  refine cj_seq ?_
  refine cj_reg ?_
  refine lp rfl (p_mv rfl) ?_
  refine lp rfl (p_mv rfl) ?_
  obtain ⟨y1, hy1, hm⟩ := bindS hm
  refine r_call [] cf164 rfl rfl (ok_stringslite_Index a0 a1 hy1) rfl rfl .nil (fun _ => rfl) rfl (fun _ => ?_)
  refine lp rfl (p_as rfl) ?_
  refine lj_seq ?_
  refine cj_seq ?_
  refine cj_reg ?_
  refine lp rfl (p_mv rfl) ?_
  refine lp rfl (p_geq rfl rfl) ?_
  refine lj_seq ?_
  refine cj_if (b := decide (y1 ≥ 0)) rfl (fun hb => ?_) (fun hb => ?_)
  · have hm := ifB_t hb hm
    refine cj_seq ?_
    refine cj_quiet (by kernel_rfl) (by kernel_rfl) ?_
    refine q_p rfl (p_mv rfl) ?_
    refine q_p rfl (p_mv rfl) ?_
    obtain ⟨c2, hc2, hm⟩ := bindS hm
    refine q_p rfl (p_strs Tryd.underlying9 rfl rfl rfl rfl rfl rfl rfl hc2) ?_
    refine q_p rfl (p_mv rfl) ?_
    refine q_p rfl (p_mv rfl) ?_
    refine q_p rfl (p_mv rfl) ?_
    refine q_p rfl (p_lens Tryd.underlying9 rfl) ?_
    refine q_p rfl (p_add rfl rfl) ?_
    obtain ⟨c3, hc3, hm⟩ := bindS hm
    refine q_p rfl (p_strs Tryd.underlying9 rfl rfl rfl rfl rfl rfl rfl hc3) ?_
    refine q_p rfl (p_as rfl) ?_
    refine q_p rfl (p_as rfl) ?_
    refine q_p rfl (p_as rfl) ?_
    refine q_nil ?_
    refine nj_seq ?_
    obtain rfl := Option.some.inj hm
    exact cj_rt () [] Tryd.results142 (.tmp rfl (.tmp rfl (.tmp rfl .nil))) rfl rfl
  · have hm := ifB_f hb hm
    refine cj_skip ?_
    refine nj_seq ?_
    refine cj_seq ?_
    refine cj_reg ?_
    refine lp rfl (p_mv rfl) ?_
    refine lp rfl (p_as rfl) ?_
    refine lp rfl (p_as rfl) ?_
    refine lp rfl (p_as rfl) ?_
    refine lj_seq ?_
    obtain rfl := Option.some.inj hm
    exact cj_rt () [] Tryd.results142 (.tmp rfl (.tmp rfl (.tmp rfl .nil))) rfl rfl
theorem ok_strings_Cut (a0 : ByteArray) (a1 : ByteArray) {r : ByteArray × ByteArray × Bool} (hm : m_strings_Cut a0 a1 = some r) :
    Ctr Tryd.prog 113 [.string a0, .string a1].toArray ([] : List Ent) [] (X := Unit) (fun _ => .tuple [.string r.1, .string r.2.1, .bool r.2.2].toArray) (fun _ => []) := by
  unfold m_strings_Cut at hm
  refine ctr_mk (vs := [(0, .string a0), (1, .string a1)]) Tryd.func113 rfl Tryd.ntmps113 rfl ⟨rfl, rfl, trivial⟩ (fun w0 A => ?_)
  refine cj_seq ?_
  refine cj_reg ?_
  refine lp rfl (p_as rfl) ?_
  refine lp rfl (p_as rfl) ?_
  refine lp rfl (p_as rfl) ?_
  refine lj_seq ?_
  refine cj_seq ?_
  refine cj_reg ?_
  refine lp rfl (p_mv rfl) ?_
  refine lp rfl (p_mv rfl) ?_
  obtain ⟨y1, hy1, hm⟩ := bindS hm
  refine r_call [] cf142 rfl rfl (ok_stringslite_Cut a0 a1 hy1) rfl rfl .nil (fun _ => rfl) rfl (fun _ => ?_)
  refine lp rfl (p_ext rfl rfl) ?_
  refine lp rfl (p_ext rfl rfl) ?_
  refine lp rfl (p_ext rfl rfl) ?_
  refine lp rfl (p_as rfl) ?_
  refine lp rfl (p_as rfl) ?_
  refine lp rfl (p_as rfl) ?_
  refine lj_seq ?_
  obtain rfl := Option.some.inj hm
  exact cj_rt () [] Tryd.results113 (.tmp rfl (.tmp rfl (.tmp rfl .nil))) rfl rfl
theorem ok_slices_Index_string_string (s0_ : SV) (a0 : (List ByteArray)) (a1 : ByteArray) {r : Int} (hm : m_slices_Index_string_string a0 a1 = some r) :
    Ctr Tryd.prog 114 [s0_.v, .string a1].toArray ([] : List Ent) [RdS R9 (SV.v s0_) a0] (X := Unit) (fun _ => .int .i64 r) (fun _ => []) := by
  unfold m_slices_Index_string_string at hm
  refine ctr_mk (vs := [(0, s0_.v), (1, .string a1)]) Tryd.func114 rfl Tryd.ntmps114 rfl ⟨rfl, rfl, trivial⟩ (fun w0 A => ?_)
  refine cj_seq ?_
  refine cj_reg ?_
  refine lp rfl (p_as rfl) ?_
  refine lj_seq ?_
  refine cj_seq ?_
  refine cj_seq ?_
  refine cj_reg ?_
  refine lp rfl (p_mv rfl) ?_
  refine lp rfl (p_len Tryd.underlying142 rfl (.ro 0 rfl)) ?_
  refine lp rfl (p_mv rfl) ?_
  refine lj_seq ?_
  obtain ⟨f7, hf7, hm⟩ := bindS hm
  refine cj_range (γ := Unit) (m := (a0.length : Int)) hf7 () (fun u4 g5 => [(0, s0_.v), (1, .string a1), (4, .int .i64 0)]) (fun u4 g5 => Sat w0 (keys ([] : List Ent)) A [.ro (RdS R9 (SV.v s0_) a0)]) ⟨rfl, rfl, rfl, rfl, rfl, trivial⟩ (fun _ h => h.picks [0] rfl) (nat_lt _) (fun _ h => (FactAt.get (.ro 0 rfl) h).1) (fun _ _ => ⟨rfl, rfl, rfl, rfl⟩) ⟨rfl, rfl, rfl, rfl, rfl⟩ rfl rfl rfl (fun u4 g5 e => ?_) (fun aftk6 i1 x2 u4 g5 k6 hx3 hs J hJk6 hBk6 hX I cnk6 => ?_)
  · have hm := Flow.fin_b e hm
    refine nj_seq ?_
    refine cj_seq ?_
    refine cj_reg ?_
    refine lp rfl (p_as rfl) ?_
    refine lj_seq ?_
    obtain rfl := Option.some.inj hm
    exact cj_rt () [] Tryd.results114 (.tmp rfl .nil) rfl rfl
  · have hRk6 : ∀ t, k6 = .ret t → some t = some r := fun t e => by rw [hX t e] at hm; exact hm
    have hm := hs
    refine cj_seq ?_
    refine cj_reg ?_
    refine lp rfl (p_mv rfl) ?_
    refine lp rfl (p_as rfl) ?_
    refine lj_seq ?_
    refine cj_seq ?_
    refine cj_reg ?_
    refine lp rfl (p_mv rfl) ?_
    refine lp rfl (p_mv rfl) ?_
    refine lp rfl (p_mv rfl) ?_
    refine lp rfl (p_idx Tryd.underlying142 ty9 rfl rfl (.ro 0 rfl) (getI_nat.trans hx3)) ?_
    refine lp rfl (p_lde (o := 0) ty9 rfl rfl (.ro 0 rfl) hx3 rfl) ?_
    refine lp rfl (p_eqs rfl rfl) ?_
    refine lj_seq ?_
    refine cj_if (b := a1.toList == x2.toList) rfl (fun hb => ?_) (fun hb => ?_)
    · have hm := ifB_t hb hm
      refine cj_seq ?_
      refine cj_reg ?_
      refine lp rfl (p_mv rfl) ?_
      refine lp rfl (p_as rfl) ?_
      refine lj_seq ?_
      have hm := hRk6 _ (Option.some.inj hm).symm
      obtain rfl := Option.some.inj hm
      exact cj_rt () [] Tryd.results114 (.tmp rfl .nil) rfl rfl
    · have hm := ifB_f hb hm
      refine cj_skip ?_
      refine nj_blk ?_
      exact cnk6 _ _ () () (hJk6 _ (Option.some.inj hm).symm) ⟨rfl, rfl, rfl, rfl, rfl, trivial⟩ (fun _ h => h.picks [0] rfl)
theorem ok_stringslite_HasPrefix (a0 : ByteArray) (a1 : ByteArray) {r : Bool} (hm : m_stringslite_HasPrefix a0 a1 = some r) :
    Ctr Tryd.prog 199 [.string a0, .string a1].toArray ([] : List Ent) [] (X := Unit) (fun _ => .bool r) (fun _ => []) := by
  unfold m_stringslite_HasPrefix at hm
  refine ctr_mk (vs := [(0, .string a0), (1, .string a1)]) Tryd.func199 rfl Tryd.ntmps199 rfl ⟨rfl, rfl, trivial⟩ (fun w0 A => ?_)
  refine cj_seq ?_
  refine cj_reg ?_
  refine lp rfl (p_as rfl) ?_
  refine lj_seq ?_
  refine cj_seq ?_
  refine cj_reg ?_
  refine lp rfl (p_mv rfl) ?_
  refine lp rfl (p_lens Tryd.underlying9 rfl) ?_
  refine lp rfl (p_mv rfl) ?_
  refine lp rfl (p_lens Tryd.underlying9 rfl) ?_
  refine lp rfl (p_geq rfl rfl) ?_
  refine lp rfl (p_mv rfl) ?_
  refine lcase (i := 10) (decide ((a0.size : Int) ≥ (a1.size : Int))) rfl (fun hb => ?_) (fun hb => ?_)
  · have hm := ifB_t hb hm
    refine lg true rfl rfl rfl ?_
    refine lp rfl (p_mv rfl) ?_
    refine lg true rfl rfl rfl ?_
    refine lp rfl (p_mv rfl) ?_
    refine lg true rfl rfl rfl ?_
    refine lp rfl (p_lens Tryd.underlying9 rfl) ?_
    refine lg true rfl rfl rfl ?_
    obtain ⟨c1, hc1, hm⟩ := bindS hm
    refine lp rfl (p_strs Tryd.underlying9 rfl rfl rfl rfl rfl rfl rfl hc1) ?_
    refine lg true rfl rfl rfl ?_
    refine lp rfl (p_mv rfl) ?_
    refine lg true rfl rfl rfl ?_
    refine lp rfl (p_eqs rfl rfl) ?_
    refine lp rfl (p_pkt rfl rfl) ?_
    refine lp rfl (p_as rfl) ?_
    refine lj_seq ?_
    obtain rfl := Option.some.inj hm
    exact cj_rt () [] Tryd.results199 (.tmp rfl .nil) rfl rfl
  · have hm := ifB_f hb hm
    refine ls true rfl rfl rfl rfl ?_
    refine ls true rfl rfl rfl rfl ?_
    refine ls true rfl rfl rfl rfl ?_
    refine ls true rfl rfl rfl rfl ?_
    refine ls true rfl rfl rfl rfl ?_
    refine ls true rfl rfl rfl rfl ?_
    refine lp rfl (p_pkf rfl rfl) ?_
    refine lp rfl (p_as rfl) ?_
    refine lj_seq ?_
    obtain rfl := Option.some.inj hm
    exact cj_rt () [] Tryd.results199 (.tmp rfl .nil) rfl rfl
theorem ok_stringslite_CutPrefix (a0 : ByteArray) (a1 : ByteArray) {r : ByteArray × Bool} (hm : m_stringslite_CutPrefix a0 a1 = some r) :
    Ctr Tryd.prog 165 [.string a0, .string a1].toArray ([] : List Ent) [] (X := Unit) (fun _ => .tuple [.string r.1, .bool r.2].toArray) (fun _ => []) := by
  unfold m_stringslite_CutPrefix at hm
  refine ctr_mk (vs := [(0, .string a0), (1, .string a1)]) Tryd.func165 rfl Tryd.ntmps165 rfl ⟨rfl, rfl, trivial⟩ (fun w0 A => ?_)
  refine cj_seq ?_
  refine cj_reg ?_
  refine lp rfl (p_as rfl) ?_
  refine lp rfl (p_as rfl) ?_
  refine lj_seq ?_
  refine cj_seq ?_
  refine cj_seq ?_
  refine cj_reg ?_
  refine lp rfl (p_mv rfl) ?_
  refine lp rfl (p_mv rfl) ?_
  obtain ⟨y1, hy1, hm⟩ := bindS hm
  refine r_call [] cf199 rfl rfl (ok_stringslite_HasPrefix a0 a1 hy1) rfl rfl .nil (fun _ => rfl) rfl (fun _ => ?_)
  refine lp rfl (p_not rfl) ?_
  refine lj_seq ?_
  refine cj_if (b := !y1) rfl (fun hb => ?_) (fun hb => ?_)
  · have hm := ifB_t hb hm
    refine cj_seq ?_
    refine cj_reg ?_
    refine lp rfl (p_mv rfl) ?_
    refine lp rfl (p_as rfl) ?_
    refine lp rfl (p_as rfl) ?_
    refine lj_seq ?_
    obtain rfl := Option.some.inj hm
    exact cj_rt () [] Tryd.results165 (.tmp rfl (.tmp rfl .nil)) rfl rfl
  · have hm := ifB_f hb hm
    refine cj_skip ?_
    refine nj_seq ?_
    refine cj_seq ?_
    refine cj_reg ?_
    refine lp rfl (p_mv rfl) ?_
    refine lp rfl (p_mv rfl) ?_
    refine lp rfl (p_lens Tryd.underlying9 rfl) ?_
    obtain ⟨c2, hc2, hm⟩ := bindS hm
    refine lp rfl (p_strs Tryd.underlying9 rfl rfl rfl rfl rfl rfl rfl hc2) ?_
    refine lp rfl (p_as rfl) ?_
    refine lp rfl (p_as rfl) ?_
    refine lj_seq ?_
    obtain rfl := Option.some.inj hm
    exact cj_rt () [] Tryd.results165 (.tmp rfl (.tmp rfl .nil)) rfl rfl
theorem ok_strings_CutPrefix (a0 : ByteArray) (a1 : ByteArray) {r : ByteArray × Bool} (hm : m_strings_CutPrefix a0 a1 = some r) :
    Ctr Tryd.prog 143 [.string a0, .string a1].toArray ([] : List Ent) [] (X := Unit) (fun _ => .tuple [.string r.1, .bool r.2].toArray) (fun _ => []) := by
  unfold m_strings_CutPrefix at hm
  refine ctr_mk (vs := [(0, .string a0), (1, .string a1)]) Tryd.func143 rfl Tryd.ntmps143 rfl ⟨rfl, rfl, trivial⟩ (fun w0 A => ?_)
  refine cj_seq ?_
  refine cj_reg ?_
  refine lp rfl (p_as rfl) ?_
  refine lp rfl (p_as rfl) ?_
  refine lj_seq ?_
  refine cj_seq ?_
  refine cj_reg ?_
  refine lp rfl (p_mv rfl) ?_
  refine lp rfl (p_mv rfl) ?_
  obtain ⟨y1, hy1, hm⟩ := bindS hm
  refine r_call [] cf165 rfl rfl (ok_stringslite_CutPrefix a0 a1 hy1) rfl rfl .nil (fun _ => rfl) rfl (fun _ => ?_)
  refine lp rfl (p_ext rfl rfl) ?_
  refine lp rfl (p_ext rfl rfl) ?_
  refine lp rfl (p_as rfl) ?_
  refine lp rfl (p_as rfl) ?_
  refine lj_seq ?_
  obtain rfl := Option.some.inj hm
  exact cj_rt () [] Tryd.results143 (.tmp rfl (.tmp rfl .nil)) rfl rfl
theorem ok_kit_Number (a0 : ByteArray) (a1 : Int) {r : Int × Bool} (hm : m_kit_Number a0 a1 = some r) :
    Ctr Tryd.prog 115 [.string a0, .int .i64 a1].toArray ([] : List Ent) [] (X := Unit) (fun _ => .tuple [.int .i64 r.1, .bool r.2].toArray) (fun _ => []) := by
  unfold m_kit_Number at hm
  refine ctr_mk (vs := [(0, .string a0), (1, .int .i64 a1)]) Tryd.func115 rfl Tryd.ntmps115 rfl ⟨rfl, rfl, trivial⟩ (fun w0 A => ?_)
  refine cj_seq ?_
  refine cj_reg ?_
  refine lp rfl (p_as rfl) ?_
  refine lp rfl (p_as rfl) ?_
  refine lj_seq ?_
  refine cj_seq ?_
  refine cj_reg ?_
  refine lp rfl (p_mv rfl) ?_
  obtain ⟨y1, hy1, hm⟩ := bindS hm
  refine r_call [] cf143 rfl rfl (ok_strings_CutPrefix a0 (ByteArray.mk [45].toArray) hy1) rfl rfl .nil (fun _ => rfl) rfl (fun _ => ?_)
  refine lp rfl (p_mv rfl) ?_
  refine lp rfl (p_ext rfl rfl) ?_
  refine lp rfl (p_ext rfl rfl) ?_
  refine lp rfl (p_as rfl) ?_
  refine lp rfl (p_as rfl) ?_
  refine lj_seq ?_
  refine cj_seq ?_
  refine cj_seq ?_
  refine cj_reg ?_
  obtain ⟨k4, hk4, hm⟩ := bindS hm
  have hRk4 : ∀ t, k4 = .inr t → some t = some r := fun t e => by rw [e] at hm; exact hm
  refine lj_join (σ := Bool) (γ := Unit) (fun u2 => k4 = .inl u2) (fun u2 g3 => [(4, .int .i64 0), (5, .bool false), (6, .string y1.1), (7, .bool y1.2), (40, .bool u2)]) (fun u2 g3 => Sat w0 (keys ([] : List Ent)) A []) (fun u2 g3 hq => ?_) (fun J cnk4 => ?_)
  · have hm := Sum.fin_l hq hm
    refine cj_if (b := u2) rfl (fun hb => ?_) (fun hb => ?_)
    · have hm := ifB_t hb hm
      refine cj_seq ?_
      refine cj_reg ?_
      refine lp rfl (p_as rfl) ?_
      refine lp rfl (p_as rfl) ?_
      refine lj_seq ?_
      obtain rfl := Option.some.inj hm
      exact cj_rt () [] Tryd.results115 (.tmp rfl (.tmp rfl .nil)) rfl rfl
    · have hm := ifB_f hb hm
      refine cj_skip ?_
      refine nj_seq ?_
      refine cj_seq ?_
      refine cj_reg ?_
      refine lp rfl (p_mv rfl) ?_
      obtain ⟨y7, hy7, hm⟩ := bindS hm
      refine r_call [] cf145 rfl rfl (ok_strconv_Atoi y1.1 hy7) rfl rfl .nil (fun _ => rfl) rfl (fun _ => ?_)
      refine lp rfl (p_mv rfl) ?_
      refine lp rfl (p_ext rfl rfl) ?_
      refine lp rfl (p_ext rfl rfl) ?_
      refine lp rfl (p_as rfl) ?_
      refine lp rfl (p_as rfl) ?_
      refine lj_seq ?_
      refine cj_seq ?_
      refine cj_seq ?_
      refine cj_reg ?_
      refine lp rfl (p_mv rfl) ?_
      refine lj_seq ?_
      refine cj_if (b := y1.2) rfl (fun hb => ?_) (fun hb => ?_)
      · have hm := ifB_t hb hm
        refine cj_reg ?_
        refine lp rfl (p_mv rfl) ?_
        refine lp rfl (p_neg rfl) ?_
        refine lp rfl (p_as rfl) ?_
        refine lj_seq ?_
        refine cj_seq ?_
        refine cj_quiet (by kernel_rfl) (by kernel_rfl) ?_
        refine q_p rfl (p_mv rfl) ?_
        refine q_p rfl (p_mv rfl) ?_
        refine q_p rfl (p_eqni Tryd.underlying161 (by kernel_rfl) rfl) ?_
        refine q_p rfl (p_as rfl) ?_
        refine q_p rfl (p_as rfl) ?_
        refine q_nil ?_
        refine nj_seq ?_
        obtain rfl := Option.some.inj hm
        exact cj_rt () [] Tryd.results115 (.tmp rfl (.tmp rfl .nil)) rfl rfl
      · have hm := ifB_f hb hm
        refine cj_skip ?_
        refine nj_seq ?_
        refine cj_seq ?_
        refine cj_quiet (by kernel_rfl) (by kernel_rfl) ?_
        refine q_p rfl (p_mv rfl) ?_
        refine q_p rfl (p_mv rfl) ?_
        refine q_p rfl (p_eqni Tryd.underlying161 (by kernel_rfl) rfl) ?_
        refine q_p rfl (p_as rfl) ?_
        refine q_p rfl (p_as rfl) ?_
        refine q_nil ?_
        refine nj_seq ?_
        obtain rfl := Option.some.inj hm
        exact cj_rt () [] Tryd.results115 (.tmp rfl (.tmp rfl .nil)) rfl rfl
  · have hm := hk4
    refine lp rfl (p_mv rfl) ?_
    refine lp rfl (p_eqs rfl rfl) ?_
    refine lp rfl (p_mv rfl) ?_
    refine lcase (i := 17) (y1.1.toList == ByteArray.empty.toList) rfl (fun hb => ?_) (fun hb => ?_)
    · have hm := ifB_t hb hm
      refine ls false rfl rfl rfl rfl ?_
      refine ls false rfl rfl rfl rfl ?_
      refine ls false rfl rfl rfl rfl ?_
      refine ls false rfl rfl rfl rfl ?_
      refine lp rfl (p_pkt rfl rfl) ?_
      refine lp rfl (p_mv rfl) ?_
      refine ls false rfl rfl rfl rfl ?_
      refine ls false rfl rfl rfl rfl ?_
      refine ls false rfl rfl rfl rfl ?_
      refine lp rfl (p_pkt rfl rfl) ?_
      refine lp rfl (p_mv rfl) ?_
      refine ls false rfl rfl rfl rfl ?_
      refine ls false rfl rfl rfl rfl ?_
      refine ls false rfl rfl rfl rfl ?_
      refine ls false rfl rfl rfl rfl ?_
      refine lsu rfl rfl rfl rfl ?_
      refine lsu rfl rfl rfl rfl ?_
      refine lsu rfl rfl rfl rfl ?_
      refine lsu rfl rfl rfl rfl ?_
      refine lsu rfl rfl rfl rfl ?_
      refine lsu rfl rfl rfl rfl ?_
      refine ls false rfl rfl rfl rfl ?_
      refine lp rfl (p_pkt rfl rfl) ?_
      refine lj_nil ?_
      exact cnk4 _ _ true () (Option.some.inj hm).symm ⟨rfl, rfl, rfl, rfl, rfl, trivial⟩ (fun _ h => h.picks [] rfl)
    · have hm := ifB_f hb hm
      refine lg false rfl rfl rfl ?_
      refine lp rfl (p_mv rfl) ?_
      refine lg false rfl rfl rfl ?_
      refine lp rfl (p_lens Tryd.underlying9 rfl) ?_
      refine lg false rfl rfl rfl ?_
      refine lp rfl (p_mv rfl) ?_
      refine lg false rfl rfl rfl ?_
      refine lp rfl (p_gtr rfl rfl) ?_
      refine lp rfl (p_pkf rfl rfl) ?_
      refine lp rfl (p_mv rfl) ?_
      refine lcase (i := 23) (decide ((y1.1.size : Int) > a1)) rfl (fun hb => ?_) (fun hb => ?_)
      · have hm := ifB_t hb hm
        refine ls false rfl rfl rfl rfl ?_
        refine ls false rfl rfl rfl rfl ?_
        refine ls false rfl rfl rfl rfl ?_
        refine lp rfl (p_pkt rfl rfl) ?_
        refine lp rfl (p_mv rfl) ?_
        refine ls false rfl rfl rfl rfl ?_
        refine ls false rfl rfl rfl rfl ?_
        refine ls false rfl rfl rfl rfl ?_
        refine ls false rfl rfl rfl rfl ?_
        refine lsu rfl rfl rfl rfl ?_
        refine lsu rfl rfl rfl rfl ?_
        refine lsu rfl rfl rfl rfl ?_
        refine lsu rfl rfl rfl rfl ?_
        refine lsu rfl rfl rfl rfl ?_
        refine lsu rfl rfl rfl rfl ?_
        refine ls false rfl rfl rfl rfl ?_
        refine lp rfl (p_pkt rfl rfl) ?_
        refine lj_nil ?_
        exact cnk4 _ _ true () (Option.some.inj hm).symm ⟨rfl, rfl, rfl, rfl, rfl, trivial⟩ (fun _ h => h.picks [] rfl)
      · have hm := ifB_f hb hm
        refine lg false rfl rfl rfl ?_
        refine lp rfl (p_mv rfl) ?_
        refine lg false rfl rfl rfl ?_
        obtain ⟨y5, hy5, hm⟩ := bindS hm
        refine r_call [] cf144 rfl rfl (ok_strings_Trim y1.1 (ByteArray.mk [48, 49, 50, 51, 52, 53, 54, 55, 56, 57].toArray) hy5) rfl rfl .nil (fun _ => rfl) rfl (fun _ => ?_)
        refine lg false rfl rfl rfl ?_
        refine lp rfl (p_nes rfl rfl) ?_
        refine lp rfl (p_pkf rfl rfl) ?_
        refine lp rfl (p_mv rfl) ?_
        refine lcase (i := 28) (!(y5.toList == ByteArray.empty.toList)) rfl (fun hb => ?_) (fun hb => ?_)
        · have hm := ifB_t hb hm
          refine ls false rfl rfl rfl rfl ?_
          refine ls false rfl rfl rfl rfl ?_
          refine ls false rfl rfl rfl rfl ?_
          refine ls false rfl rfl rfl rfl ?_
          refine lsu rfl rfl rfl rfl ?_
          refine lsu rfl rfl rfl rfl ?_
          refine lsu rfl rfl rfl rfl ?_
          refine lsu rfl rfl rfl rfl ?_
          refine lsu rfl rfl rfl rfl ?_
          refine lsu rfl rfl rfl rfl ?_
          refine ls false rfl rfl rfl rfl ?_
          refine lp rfl (p_pkt rfl rfl) ?_
          refine lj_nil ?_
          exact cnk4 _ _ true () (Option.some.inj hm).symm ⟨rfl, rfl, rfl, rfl, rfl, trivial⟩ (fun _ h => h.picks [] rfl)
        · have hm := ifB_f hb hm
          refine lg false rfl rfl rfl ?_
          refine lp rfl (p_mv rfl) ?_
          refine lg false rfl rfl rfl ?_
          obtain ⟨c6, hc6, hm⟩ := bindS hm
          refine lp rfl (p_stri Tryd.underlying9 rfl rfl hc6) ?_
          refine lg false rfl rfl rfl ?_
          refine lp rfl (p_eql rfl rfl) ?_
          refine lg false rfl rfl rfl ?_
          refine lp rfl (p_mv rfl) ?_
          refine lcase (i := 32) (c6 == 48) rfl (fun hb => ?_) (fun hb => ?_)
          · have hm := ifB_t hb hm
            refine lg true rfl rfl rfl ?_
            refine lp rfl (p_mv rfl) ?_
            refine lg true rfl rfl rfl ?_
            refine lp rfl (p_lens Tryd.underlying9 rfl) ?_
            refine lg true rfl rfl rfl ?_
            refine lp rfl (p_gtr rfl rfl) ?_
            refine lg true rfl rfl rfl ?_
            refine lp rfl (p_mv rfl) ?_
            refine lcase (i := 36) (decide ((y1.1.size : Int) > 1)) rfl (fun hb => ?_) (fun hb => ?_)
            · have hm := ifB_t hb hm
              refine ls false rfl rfl rfl rfl ?_
              refine lg true rfl rfl rfl ?_
              refine lp rfl (p_pkt rfl rfl) ?_
              refine lg false rfl rfl rfl ?_
              refine lp rfl (p_pkt rfl rfl) ?_
              refine lp rfl (p_pkf rfl rfl) ?_
              refine lj_nil ?_
              exact cnk4 _ _ true () (Option.some.inj hm).symm ⟨rfl, rfl, rfl, rfl, rfl, trivial⟩ (fun _ h => h.picks [] rfl)
            · have hm := ifB_f hb hm
              refine lg false rfl rfl rfl ?_
              refine lp rfl (p_mv rfl) ?_
              refine lg true rfl rfl rfl ?_
              refine lp rfl (p_pkf rfl rfl) ?_
              refine lg false rfl rfl rfl ?_
              refine lp rfl (p_pkt rfl rfl) ?_
              refine lp rfl (p_pkf rfl rfl) ?_
              refine lj_nil ?_
              exact cnk4 _ _ y1.2 () (Option.some.inj hm).symm ⟨rfl, rfl, rfl, rfl, rfl, trivial⟩ (fun _ h => h.picks [] rfl)
          · have hm := ifB_f hb hm
            refine ls true rfl rfl rfl rfl ?_
            refine ls true rfl rfl rfl rfl ?_
            refine ls true rfl rfl rfl rfl ?_
            refine ls true rfl rfl rfl rfl ?_
            refine lsu rfl rfl rfl rfl ?_
            refine ls true rfl rfl rfl rfl ?_
            refine lg false rfl rfl rfl ?_
            refine lp rfl (p_pkf rfl rfl) ?_
            refine lp rfl (p_pkf rfl rfl) ?_
            refine lj_nil ?_
            exact cnk4 _ _ false () (Option.some.inj hm).symm ⟨rfl, rfl, rfl, rfl, rfl, trivial⟩ (fun _ h => h.picks [] rfl)
theorem ok_chord_Parse (a0 : ByteArray) {r : TChord × Int} (hm : m_chord_Parse a0 = some r) :
    Ctr Tryd.prog 57 [.string a0].toArray ([] : List Ent) [] (X := Unit) (fun _ => .tuple [.agg (R28.enc r.1).toArray, .int .i64 r.2].toArray) (fun _ => []) := by
  unfold m_chord_Parse at hm
  refine ctr_mk (vs := [(0, .string a0)]) Tryd.func57 rfl Tryd.ntmps57 rfl ⟨rfl, trivial⟩ (fun w0 A => ?_)
  refine cj_seq ?_
  refine cj_reg ?_
  refine r_al ty28 rfl (fun b1 => ?_)
  refine lp rfl (p_as rfl) ?_
  refine lj_seq ?_
  refine cj_seq ?_
  refine cj_reg ?_
  refine lp rfl (p_mv rfl) ?_
  obtain ⟨y2, hy2, hm⟩ := bindS hm
  refine r_call [] cf113 rfl rfl (ok_strings_Cut a0 (ByteArray.mk [32].toArray) hy2) rfl rfl .nil (fun _ => rfl) rfl (fun _ => ?_)
  refine lp rfl (p_mv rfl) ?_
  refine lp rfl (p_ext rfl rfl) ?_
  refine lp rfl (p_ext rfl rfl) ?_
  refine lp rfl (p_ext rfl rfl) ?_
  refine lp rfl (p_as rfl) ?_
  refine lp rfl (p_as rfl) ?_
  refine lp rfl (p_as rfl) ?_
  refine lj_seq ?_
  refine cj_seq ?_
  refine cj_reg ?_
  refine lp rfl (p_mv rfl) ?_
  obtain ⟨y3, hy3, hm⟩ := bindS hm
  refine r_call [] cf113 rfl rfl (ok_strings_Cut y2.2.1 (ByteArray.mk [47].toArray) hy3) rfl rfl .nil (fun _ => rfl) rfl (fun _ => ?_)
  refine lp rfl (p_mv rfl) ?_
  refine lp rfl (p_ext rfl rfl) ?_
  refine lp rfl (p_ext rfl rfl) ?_
  refine lp rfl (p_ext rfl rfl) ?_
  refine lp rfl (p_as rfl) ?_
  refine lp rfl (p_as rfl) ?_
  refine lp rfl (p_as rfl) ?_
  refine lj_seq ?_
  refine cj_seq ?_
  refine cj_reg ?_
  obtain ⟨y4, hy4, hm⟩ := bindS hm
  refine r_call [] cf110 rfl rfl (ok_chord_rootWords  hy4) rfl rfl .nil (fun _ => rfl) rfl (fun s5 => ?_)
  refine lp rfl (p_mv rfl) ?_
  obtain ⟨y6, hy6, hm⟩ := bindS hm
  refine r_call [] cf114 rfl rfl (ok_slices_Index_string_string s5 y4 y2.1 hy6) rfl rfl (.cons (.row 0 rfl) .nil) (fun _ => rfl) rfl (fun _ => ?_)
  obtain ⟨y7, hy7, hm⟩ := bindS hm
  refine r_call [] cf111 rfl rfl (ok_chord_kindWords  hy7) rfl rfl .nil (fun _ => rfl) rfl (fun s8 => ?_)
  refine lp rfl (p_mv rfl) ?_
  obtain ⟨y9, hy9, hm⟩ := bindS hm
  refine r_call [] cf114 rfl rfl (ok_slices_Index_string_string s8 y7 y3.1 hy9) rfl rfl (.cons (.row 0 rfl) .nil) (fun _ => rfl) rfl (fun _ => ?_)
  refine lp rfl (p_bld [.int .i64 y6, .int .i64 y9, .int .i64 0] rfl (fun _ => by kernel_rfl)) ?_
  refine r_al ty28 rfl (fun b10 => ?_)
  refine r_sb (vs := [.int .i64 y6, .int .i64 y9, .int .i64 0]) (j := 0) ty28 rfl rfl rfl rfl rfl rfl rfl ?_
  refine lj_seq ?_
  refine cj_seq ?_
  refine cj_seq ?_
  refine cj_reg ?_
  obtain ⟨k13, hk13, hm⟩ := bindS hm
  have hRk13 : ∀ t, k13 = .inr t → some t = some r := fun t e => by rw [e] at hm; exact hm
  refine lj_join (σ := Bool) (γ := Unit) (fun u11 => k13 = .inl u11) (fun u11 g12 => [(2, .pointer (some ⟨b1, 0, none⟩)), (3, .int .i64 0), (8, .string y3.2.1), (9, .bool y3.2.2), (10, .pointer (some ⟨b10, 0, none⟩)), (45, .bool u11)]) (fun u11 g12 => Sat w0 (keys ([] : List Ent)) A [.box b10 28 [.int .i64 y6, .int .i64 y9, .int .i64 0], .box b1 28 [.int .i64 0, .int .i64 0, .int .i64 0]]) (fun u11 g12 hq => ?_) (fun J cnk13 => ?_)
  · have hm := Sum.fin_l hq hm
    refine cj_if (b := u11) rfl (fun hb => ?_) (fun hb => ?_)
    · have hm := ifB_t hb hm
      refine cj_seq ?_
      refine cj_reg ?_
      refine lp rfl (p_bld [.int .i64 0, .int .i64 0, .int .i64 0] rfl (fun _ => by kernel_rfl)) ?_
      refine r_sb (vs := [.int .i64 0, .int .i64 0, .int .i64 0]) (j := 1) ty28 rfl rfl rfl rfl rfl rfl rfl ?_
      refine lp rfl (p_as rfl) ?_
      refine lj_seq ?_
      obtain rfl := Option.some.inj hm
      exact cj_rt () [] Tryd.results57 (.agg (k := 1) ty28 rfl rfl rfl (.tmp rfl .nil)) rfl rfl
    · have hm := ifB_f hb hm
      refine cj_skip ?_
      refine nj_seq ?_
      refine cj_seq ?_
      refine cj_seq ?_
      refine cj_reg ?_
      refine lp rfl (p_mv rfl) ?_
      refine lj_seq ?_
      obtain ⟨k17, hk17, hm⟩ := bindS hm
      have hRk17 : ∀ t, k17 = .inr t → some t = some r := fun t e => by rw [e] at hm; exact hm
      refine cj_joinK (σ := Int) (γ := Unit) (fun u15 => k17 = .inl u15) (fun u15 g16 => [(2, .pointer (some ⟨b1, 0, none⟩)), (3, .int .i64 0), (10, .pointer (some ⟨b10, 0, none⟩))]) (fun u15 g16 => Sat w0 (keys ([] : List Ent)) A [.box b10 28 [.int .i64 y6, .int .i64 y9, .int .i64 u15], .box b1 28 [.int .i64 0, .int .i64 0, .int .i64 0]]) (fun u15 g16 hq => ?_) (fun J cnk17 => ?_)
      · have hm := Sum.fin_l hq hm
        refine cj_seq ?_
        refine cj_seq ?_
        refine cj_reg ?_
        refine lp rfl (p_lbw ty28 rfl (j := 0) rfl rfl) ?_
        obtain ⟨y22, hy22, hm⟩ := bindS hm
        refine r_call [] cf61 rfl rfl (ok_chord_CheckChord (TChord.mk y6 y9 u15) hy22) rfl rfl .nil (fun _ => rfl) rfl (fun _ => ?_)
        refine lp rfl (p_as rfl) ?_
        refine lj_seq ?_
        refine cj_seq ?_
        refine cj_reg ?_
        refine lp rfl (p_mv rfl) ?_
        refine lp rfl (p_neq rfl rfl) ?_
        refine lj_seq ?_
        refine cj_if (b := y22 != 0) rfl (fun hb => ?_) (fun hb => ?_)
        · have hm := ifB_t hb hm
          refine cj_seq ?_
          refine cj_reg ?_
          refine lp rfl (p_bld [.int .i64 0, .int .i64 0, .int .i64 0] rfl (fun _ => by kernel_rfl)) ?_
          refine lp rfl (p_mv rfl) ?_
          refine r_sb (vs := [.int .i64 0, .int .i64 0, .int .i64 0]) (j := 1) ty28 rfl rfl rfl rfl rfl rfl rfl ?_
          refine lp rfl (p_as rfl) ?_
          refine lj_seq ?_
          obtain rfl := Option.some.inj hm
          exact cj_rt () [] Tryd.results57 (.agg (k := 1) ty28 rfl rfl rfl (.tmp rfl .nil)) rfl rfl
        · have hm := ifB_f hb hm
          refine cj_skip ?_
          refine nj_seq ?_
          refine cj_seq ?_
          refine cj_reg ?_
          refine lp rfl (p_lbw ty28 rfl (j := 0) rfl rfl) ?_
          refine r_sb (vs := [.int .i64 y6, .int .i64 y9, .int .i64 u15]) (j := 1) ty28 rfl rfl rfl rfl rfl rfl rfl ?_
          refine lp rfl (p_as rfl) ?_
          refine lj_seq ?_
          obtain rfl := Option.some.inj hm
          exact cj_rt () [] Tryd.results57 (.agg (k := 1) ty28 rfl rfl rfl (.tmp rfl .nil)) rfl rfl
      · have hm := hk17
        refine cj_if (b := y3.2.2) rfl (fun hb => ?_) (fun hb => ?_)
        · have hm := ifB_t hb hm
          refine cj_seq ?_
          refine cj_reg ?_
          refine lp rfl (p_mv rfl) ?_
          obtain ⟨y18, hy18, hm⟩ := bindS hm
          refine r_call [] cf115 rfl rfl (ok_kit_Number y3.2.1 15 hy18) rfl rfl .nil (fun _ => rfl) rfl (fun _ => ?_)
          refine lp rfl (p_mv rfl) ?_
          refine lp rfl (p_ext rfl rfl) ?_
          refine lp rfl (p_ext rfl rfl) ?_
          refine lp rfl (p_as rfl) ?_
          refine lp rfl (p_as rfl) ?_
          refine lj_seq ?_
          refine cj_seq ?_
          refine cj_seq ?_
          refine cj_reg ?_
          obtain ⟨k21, hk21, hm⟩ := bindS hm
          have hRk21 : ∀ t, k21 = .inr t → some t = some k17 := fun t e => by rw [e] at hm; exact hm
          refine lj_join (σ := Bool) (γ := Unit) (fun u19 => k21 = .inl u19) (fun u19 g20 => [(2, .pointer (some ⟨b1, 0, none⟩)), (3, .int .i64 0), (10, .pointer (some ⟨b10, 0, none⟩)), (11, .int .i64 y18.1), (58, .bool u19)]) (fun u19 g20 => Sat w0 (keys ([] : List Ent)) A [.box b10 28 [.int .i64 y6, .int .i64 y9, .int .i64 0], .box b1 28 [.int .i64 0, .int .i64 0, .int .i64 0]]) (fun u19 g20 hq => ?_) (fun J cnk21 => ?_)
          · have hm := Sum.fin_l hq hm
            refine cj_if (b := u19) rfl (fun hb => ?_) (fun hb => ?_)
            · have hm := ifB_t hb hm
              refine cj_seq ?_
              refine cj_reg ?_
              refine lp rfl (p_bld [.int .i64 0, .int .i64 0, .int .i64 0] rfl (fun _ => by kernel_rfl)) ?_
              refine r_sb (vs := [.int .i64 0, .int .i64 0, .int .i64 0]) (j := 1) ty28 rfl rfl rfl rfl rfl rfl rfl ?_
              refine lp rfl (p_as rfl) ?_
              refine lj_seq ?_
              have hm := hRk17 _ (Option.some.inj hm).symm
              obtain rfl := Option.some.inj hm
              exact cj_rt () [] Tryd.results57 (.agg (k := 1) ty28 rfl rfl rfl (.tmp rfl .nil)) rfl rfl
            · have hm := ifB_f hb hm
              refine cj_skip ?_
              refine nj_seq ?_
              refine cj_reg ?_
              refine lp rfl (p_mv rfl) ?_
              refine lp rfl (p_fab fl28_2 rfl) ?_
              refine r_sb (vs := [.int .i64 y18.1]) (j := 0) ty3 rfl rfl rfl rfl rfl rfl rfl ?_
              refine lj_nil ?_
              exact cnk17 _ _ y18.1 () (Option.some.inj hm).symm ⟨rfl, rfl, rfl, trivial⟩ (fun _ h => h.picks [0, 0] rfl)
          · have hm := hk21
            refine lp rfl (p_mv rfl) ?_
            refine lp rfl (p_not rfl) ?_
            refine lp rfl (p_mv rfl) ?_
            refine lcase (i := 55) (!y18.2) rfl (fun hb => ?_) (fun hb => ?_)
            · have hm := ifB_t hb hm
              refine ls false rfl rfl rfl rfl ?_
              refine ls false rfl rfl rfl rfl ?_
              refine lp rfl (p_pkt rfl rfl) ?_
              refine lj_nil ?_
              exact cnk21 _ _ true () (Option.some.inj hm).symm ⟨rfl, rfl, rfl, rfl, rfl, trivial⟩ (fun _ h => h.picks [0, 0] rfl)
            · have hm := ifB_f hb hm
              refine lg false rfl rfl rfl ?_
              refine lp rfl (p_mv rfl) ?_
              refine lg false rfl rfl rfl ?_
              refine lp rfl (p_lss rfl rfl) ?_
              refine lp rfl (p_pkf rfl rfl) ?_
              refine lj_nil ?_
              exact cnk21 _ _ (decide (y18.1 < 1)) () (Option.some.inj hm).symm ⟨rfl, rfl, rfl, rfl, rfl, trivial⟩ (fun _ h => h.picks [0, 0] rfl)
        · have hm := ifB_f hb hm
          refine cj_skip ?_
          exact cnk17 _ _ 0 () (Option.some.inj hm).symm ⟨rfl, rfl, rfl, trivial⟩ (fun _ h => h.picks [0, 0] rfl)
  · have hm := hk13
    refine lp rfl (p_mv rfl) ?_
    refine lp rfl (p_not rfl) ?_
    refine lp rfl (p_mv rfl) ?_
    refine lcase (i := 35) (!y2.2.2) rfl (fun hb => ?_) (fun hb => ?_)
    · have hm := ifB_t hb hm
      refine ls false rfl rfl rfl rfl ?_
      refine ls false rfl rfl rfl rfl ?_
      refine ls false rfl rfl rfl rfl ?_
      refine lp rfl (p_pkt rfl rfl) ?_
      refine lp rfl (p_mv rfl) ?_
      refine ls false rfl rfl rfl rfl ?_
      refine ls false rfl rfl rfl rfl ?_
      refine ls false rfl rfl rfl rfl ?_
      refine ls false rfl rfl rfl rfl ?_
      refine lp rfl (p_pkt rfl rfl) ?_
      refine lj_nil ?_
      exact cnk13 _ _ true () (Option.some.inj hm).symm ⟨rfl, rfl, rfl, rfl, rfl, rfl, trivial⟩ (fun _ h => h.picks [0, 2] rfl)
    · have hm := ifB_f hb hm
      refine lg false rfl rfl rfl ?_
      refine lp rfl (p_fab fl28_0 rfl) ?_
      refine lg false rfl rfl rfl ?_
      refine lp rfl (p_lbs ty3 rfl (j := 0) rfl rfl) ?_
      refine lg false rfl rfl rfl ?_
      refine lp rfl (p_lss rfl rfl) ?_
      refine lp rfl (p_pkf rfl rfl) ?_
      refine lp rfl (p_mv rfl) ?_
      refine lcase (i := 40) (decide (y6 < 0)) rfl (fun hb => ?_) (fun hb => ?_)
      · have hm := ifB_t hb hm
        refine ls false rfl rfl rfl rfl ?_
        refine ls false rfl rfl rfl rfl ?_
        refine ls false rfl rfl rfl rfl ?_
        refine ls false rfl rfl rfl rfl ?_
        refine lp rfl (p_pkt rfl rfl) ?_
        refine lj_nil ?_
        exact cnk13 _ _ true () (Option.some.inj hm).symm ⟨rfl, rfl, rfl, rfl, rfl, rfl, trivial⟩ (fun _ h => h.picks [0, 2] rfl)
      · have hm := ifB_f hb hm
        refine lg false rfl rfl rfl ?_
        refine lp rfl (p_fab fl28_1 rfl) ?_
        refine lg false rfl rfl rfl ?_
        refine lp rfl (p_lbs ty3 rfl (j := 0) rfl rfl) ?_
        refine lg false rfl rfl rfl ?_
        obtain ⟨y14, hy14, hm⟩ := bindS hm
        refine r_call [] cf100 rfl rfl (ok_chord_isKind y9 hy14) rfl rfl .nil (fun _ => rfl) rfl (fun _ => ?_)
        refine lg false rfl rfl rfl ?_
        refine lp rfl (p_not rfl) ?_
        refine lp rfl (p_pkf rfl rfl) ?_
        refine lj_nil ?_
        exact cnk13 _ _ (!y14) () (Option.some.inj hm).symm ⟨rfl, rfl, rfl, rfl, rfl, rfl, trivial⟩ (fun _ h => h.picks [0, 2] rfl)
theorem ok_gleeref2_in (a0 : Int) (a1 : Int) (a2 : Int) {r : Bool} (hm : m_gleeref2_in a0 a1 a2 = some r) :
    Ctr Tryd.prog 77 [.int .i64 a0, .int .i64 a1, .int .i64 a2].toArray ([] : List Ent) [] (X := Unit) (fun _ => .bool r) (fun _ => []) := by
  unfold m_gleeref2_in at hm
  refine ctr_mk (vs := [(0, .int .i64 a0), (1, .int .i64 a1), (2, .int .i64 a2)]) Tryd.func77 rfl Tryd.ntmps77 rfl ⟨rfl, rfl, rfl, trivial⟩ (fun w0 A => ?_)
  refine cj_seq ?_
  refine cj_reg ?_
  refine lp rfl (p_as rfl) ?_
  refine lj_seq ?_
  refine cj_seq ?_
  refine cj_reg ?_
  refine lp rfl (p_mv rfl) ?_
  refine lp rfl (p_mv rfl) ?_
  refine lp rfl (p_leq rfl rfl) ?_
  refine lp rfl (p_mv rfl) ?_
  refine lcase (i := 10) (decide (a1 ≤ a0)) rfl (fun hb => ?_) (fun hb => ?_)
  · have hm := ifB_t hb hm
    refine lg true rfl rfl rfl ?_
    refine lp rfl (p_mv rfl) ?_
    refine lg true rfl rfl rfl ?_
    refine lp rfl (p_mv rfl) ?_
    refine lg true rfl rfl rfl ?_
    refine lp rfl (p_leq rfl rfl) ?_
    refine lp rfl (p_pkt rfl rfl) ?_
    refine lp rfl (p_as rfl) ?_
    refine lj_seq ?_
    obtain rfl := Option.some.inj hm
    exact cj_rt () [] Tryd.results77 (.tmp rfl .nil) rfl rfl
  · have hm := ifB_f hb hm
    refine ls true rfl rfl rfl rfl ?_
    refine ls true rfl rfl rfl rfl ?_
    refine ls true rfl rfl rfl rfl ?_
    refine lp rfl (p_pkf rfl rfl) ?_
    refine lp rfl (p_as rfl) ?_
    refine lj_seq ?_
    obtain rfl := Option.some.inj hm
    exact cj_rt () [] Tryd.results77 (.tmp rfl .nil) rfl rfl
theorem ok_gleeref2_kindTones (a0 : Int) {r : (List Int)} (hm : m_gleeref2_kindTones a0 = some r) :
    Ctr Tryd.prog 78 [.int .i64 a0].toArray ([] : List Ent) [] (X := SV) (fun s => s.v) (fun s => [.ro (RdS R3 (SV.v s) r)]) := by
  unfold m_gleeref2_kindTones at hm
  refine ctr_mk (vs := [(0, .int .i64 a0)]) Tryd.func78 rfl Tryd.ntmps78 rfl ⟨rfl, trivial⟩ (fun w0 A => ?_)
  refine cj_seq ?_
  refine cj_reg ?_
  refine lp rfl (p_as rfl) ?_
  refine lj_seq ?_
  refine cj_seq ?_
  refine cj_reg ?_
  refine r_bs R3 [0, 4, 7] rfl rfl rfl (fun _ => by kernel_rfl) rfl (fun s1 => ?_)
  refine r_bs R3 [0, 3, 7] rfl rfl rfl (fun _ => by kernel_rfl) rfl (fun s2 => ?_)
  refine r_bs R3 [0, 3, 6] rfl rfl rfl (fun _ => by kernel_rfl) rfl (fun s3 => ?_)
  refine r_bs R3 [0, 4, 8] rfl rfl rfl (fun _ => by kernel_rfl) rfl (fun s4 => ?_)
  refine r_bs R3 [0, 4, 7, 10] rfl rfl rfl (fun _ => by kernel_rfl) rfl (fun s5 => ?_)
  refine r_bs R3 [0, 4, 7, 11] rfl rfl rfl (fun _ => by kernel_rfl) rfl (fun s6 => ?_)
  refine r_bs R3 [0, 3, 7, 10] rfl rfl rfl (fun _ => by kernel_rfl) rfl (fun s7 => ?_)
  refine r_fz 6 rfl ?_
  refine r_fz 6 rfl ?_
  refine r_fz 6 rfl ?_
  refine r_fz 6 rfl ?_
  refine r_fz 6 rfl ?_
  refine r_fz 6 rfl ?_
  refine r_fz 6 rfl ?_
  refine r_fact (F := Lk N22 [[], [0, 4, 7], [0, 3, 7], [0, 3, 6], [0, 4, 8], [0, 4, 7, 10], [0, 4, 7, 11], [0, 3, 7, 10]] [([], nilS), ([0, 4, 7], s1), ([0, 3, 7], s2), ([0, 3, 6], s3), ([0, 4, 8], s4), ([0, 4, 7, 10], s5), ([0, 4, 7, 11], s6), ([0, 3, 7, 10], s7)]) (.imp (.and (.nilS R3) (.imp (.and (.ro 6 rfl) (.imp (.and (.ro 5 rfl) (.imp (.and (.ro 4 rfl) (.imp (.and (.ro 3 rfl) (.imp (.and (.ro 2 rfl) (.imp (.and (.ro 1 rfl) (.imp (.and (.ro 0 rfl) (.nilL N22)) (fun _ h => Lk.cons h.1 h.2))) (fun _ h => Lk.cons h.1 h.2))) (fun _ h => Lk.cons h.1 h.2))) (fun _ h => Lk.cons h.1 h.2))) (fun _ h => Lk.cons h.1 h.2))) (fun _ h => Lk.cons h.1 h.2))) (fun _ h => Lk.cons h.1 h.2))) (fun _ h => Lk.cons h.1 h.2)) ?_
  have hLs8 : (([([], nilS), ([0, 4, 7], s1), ([0, 3, 7], s2), ([0, 3, 6], s3), ([0, 4, 8], s4), ([0, 4, 7, 10], s5), ([0, 4, 7, 11], s6), ([0, 3, 7, 10], s7)] : List ((List Int) × SV)).map Prod.fst) = ([[], [0, 4, 7], [0, 3, 7], [0, 3, 6], [0, 4, 8], [0, 4, 7, 10], [0, 4, 7, 11], [0, 3, 7, 10]] : List (List Int)) := rfl
  refine r_bs N22.R [([], nilS), ([0, 4, 7], s1), ([0, 3, 7], s2), ([0, 3, 6], s3), ([0, 4, 8], s4), ([0, 4, 7, 10], s5), ([0, 4, 7, 11], s6), ([0, 3, 7, 10], s7)] rfl rfl rfl (fun _ => by kernel_rfl) rfl (fun s8 => ?_)
  refine lp rfl (p_mv rfl) ?_
  obtain ⟨e12, he12, hm⟩ := bindS hm
  obtain ⟨ge12, he12G⟩ := lk_getI hLs8 he12
  refine lp rfl (p_idx Tryd.underlying56 ty22 rfl rfl (.row 0 rfl) he12G) ?_
  refine lp rfl (p_lde (o := 0) ty22 rfl rfl (.row 0 rfl) (getI_spec he12G).2 rfl) ?_
  refine lp rfl (p_as rfl) ?_
  refine lj_seq ?_
  obtain rfl := Option.some.inj hm
  refine cj_fact (F := RdS R3 (SV.v ge12) e12) (.imp (.ro 1 rfl) (fun _ h => (Lk.at_ h (getI_spec he12G).2))) ?_
  exact cj_rt ge12 [0] Tryd.results78 (.tmp rfl .nil) rfl rfl
theorem ok_gleeref2_ChordFault (a0 : TChord) {r : Int} (hm : m_gleeref2_ChordFault a0 = some r) :
    Ctr Tryd.prog 19 [.agg (R28.enc a0).toArray].toArray ([] : List Ent) [] (X := Unit) (fun _ => .int .i64 r) (fun _ => []) := by
  unfold m_gleeref2_ChordFault at hm
  refine ctr_mk (vs := [(0, .agg (R28.enc a0).toArray)]) Tryd.func19 rfl Tryd.ntmps19 rfl ⟨rfl, trivial⟩ (fun w0 A => ?_)
  refine cj_seq ?_
  refine cj_reg ?_
  refine r_bx (cs := [.int .i64 a0.Root, .int .i64 a0.Kind, .int .i64 a0.Turn]) rfl rfl rfl (fun b1 => ?_)
  refine lp rfl (p_as rfl) ?_
  refine lj_seq ?_
  refine cj_seq ?_
  refine cj_blk ?_
  refine cj_seq ?_
  refine cj_reg ?_
  refine lp rfl (p_fab fl28_0 rfl) ?_
  refine lp rfl (p_lbs ty3 rfl (j := 0) rfl rfl) ?_
  obtain ⟨y2, hy2, hm⟩ := bindS hm
  refine r_call [] cf77 rfl rfl (ok_gleeref2_in a0.Root 0 11 hy2) rfl rfl .nil (fun _ => rfl) rfl (fun _ => ?_)
  refine lp rfl (p_not rfl) ?_
  refine lp rfl (p_as rfl) ?_
  refine lj_seq ?_
  refine cj_if (b := !y2) rfl (fun hb => ?_) (fun hb => ?_)
  · have hm := ifB_t hb hm
    refine cj_seq ?_
    refine cj_reg ?_
    refine lp rfl (p_as rfl) ?_
    refine lj_seq ?_
    obtain rfl := Option.some.inj hm
    exact cj_rt () [] Tryd.results19 (.tmp rfl .nil) rfl rfl
  · have hm := ifB_f hb hm
    refine cj_seq ?_
    refine cj_reg ?_
    refine lp rfl (p_fab fl28_1 rfl) ?_
    refine lp rfl (p_lbs ty3 rfl (j := 0) rfl rfl) ?_
    obtain ⟨y3, hy3, hm⟩ := bindS hm
    refine r_call [] cf77 rfl rfl (ok_gleeref2_in a0.Kind 1 7 hy3) rfl rfl .nil (fun _ => rfl) rfl (fun _ => ?_)
    refine lp rfl (p_not rfl) ?_
    refine lp rfl (p_as rfl) ?_
    refine lj_seq ?_
    refine cj_if (b := !y3) rfl (fun hb => ?_) (fun hb => ?_)
    · have hm := ifB_t hb hm
      refine cj_seq ?_
      refine cj_reg ?_
      refine lp rfl (p_as rfl) ?_
      refine lj_seq ?_
      obtain rfl := Option.some.inj hm
      exact cj_rt () [] Tryd.results19 (.tmp rfl .nil) rfl rfl
    · have hm := ifB_f hb hm
      refine cj_seq ?_
      obtain ⟨y4, hy4, hm⟩ := bindS hm
      obtain ⟨y6, hy6, hm⟩ := bindS hm
      refine cj_anyT [0, 1, 2, 3, 6, 8, 9] [] (Sat w0 (keys ([] : List Ent)) A [.box b1 28 [.int .i64 a0.Root, .int .i64 a0.Kind, .int .i64 a0.Turn]]) (Sat w0 (keys ([] : List Ent)) A [.box b1 28 [.int .i64 a0.Root, .int .i64 a0.Kind, .int .i64 a0.Turn]]) (by kernel_rfl) ?_
      refine at_take2 0 rfl (by kernel_rfl) (by kernel_rfl) (by kernel_rfl) (fun _ h => h.picks [0] rfl) rfl rfl (p_fab fl28_2 rfl) (fun _ h => h.picks [0] rfl) ?_
      refine at_take2 1 rfl (by kernel_rfl) (by kernel_rfl) (by kernel_rfl) (fun _ h => h.picks [0] rfl) rfl rfl (p_lbs ty3 rfl (j := 0) rfl rfl) (fun _ h => h.picks [0] rfl) ?_
      refine at_take2 2 rfl (by kernel_rfl) (by kernel_rfl) (by kernel_rfl) (fun _ h => h.picks [0] rfl) rfl rfl (p_fab fl28_1 rfl) (fun _ h => h.picks [0] rfl) ?_
      refine at_take2 3 rfl (by kernel_rfl) (by kernel_rfl) (by kernel_rfl) (fun _ h => h.picks [0] rfl) rfl rfl (p_lbs ty3 rfl (j := 0) rfl rfl) (fun _ h => h.picks [0] rfl) ?_
      refine at_each (rs := [4]) (by kernel_rfl) (by decide) ?_
      refine (.cons rfl (fun I cnI => ?_) .nil)
      · refine r_callN [] cf78 rfl rfl (ok_gleeref2_kindTones a0.Kind hy4) rfl rfl .nil rfl (fun s7 => ?_)
        refine lj_nil ?_
        refine cnI _ _ (sof1 rfl rfl (fun _ h => h.picks [1] rfl)) ?_
        refine at_each (rs := [5]) (by kernel_rfl) (by decide) ?_
        refine (.cons rfl (fun I cnI => ?_) .nil)
        · refine lp rfl (p_len Tryd.underlying22 rfl (.ro 0 rfl)) ?_
          refine lj_nil ?_
          refine cnI _ _ (sof1 rfl rfl (fun _ h => h.picks [1] rfl)) ?_
          refine at_take2 6 rfl (by kernel_rfl) (by kernel_rfl) (by kernel_rfl) (fun _ h => h.picks [0] rfl) rfl rfl (p_sub rfl rfl) (fun _ h => h.picks [1] rfl) ?_
          refine at_each (rs := [7]) (by kernel_rfl) (by decide) ?_
          refine (.cons rfl (fun I cnI => ?_) .nil)
          · refine r_call [] cf77 rfl rfl (ok_gleeref2_in a0.Turn 0 (w64 ((y4.length : Int) - 1)) hy6) rfl rfl .nil (fun _ => rfl) rfl (fun _ => ?_)
            refine lj_nil ?_
            refine cnI _ _ (sof1 rfl rfl (fun _ h => h.picks [1] rfl)) ?_
            refine at_take2 8 rfl (by kernel_rfl) (by kernel_rfl) (by kernel_rfl) (fun _ h => h.picks [0] rfl) rfl rfl (p_not rfl) (fun _ h => h.picks [1] rfl) ?_
            refine at_take2 9 rfl (by kernel_rfl) (by kernel_rfl) (by kernel_rfl) (fun _ h => h.picks [0] rfl) rfl rfl (p_as rfl) (fun _ h => h.picks [1] rfl) ?_
            refine at_done (by kernel_rfl) ?_
            refine nj_seq ?_
            refine cj_if (b := !y6) rfl (fun hb => ?_) (fun hb => ?_)
            · have hm := ifB_t hb hm
              refine cj_seq ?_
              refine cj_reg ?_
              refine lp rfl (p_as rfl) ?_
              refine lj_seq ?_
              obtain rfl := Option.some.inj hm
              exact cj_rt () [] Tryd.results19 (.tmp rfl .nil) rfl rfl
            · have hm := ifB_f hb hm
              refine cj_skip ?_
              refine nj_blk ?_
              refine nj_seq ?_
              refine cj_seq ?_
              refine cj_reg ?_
              refine lp rfl (p_as rfl) ?_
              refine lj_seq ?_
              obtain rfl := Option.some.inj hm
              exact cj_rt () [] Tryd.results19 (.tmp rfl .nil) rfl rfl
theorem ok_gleeref2_TonesOf (a0 : TChord) {r : (List Int)} (hm : m_gleeref2_TonesOf a0 = some r) :
    Ctr Tryd.prog 58 [.agg (R28.enc a0).toArray].toArray ([] : List Ent) [] (X := SV) (fun s => s.v) (fun s => [.ro (RdS R3 (SV.v s) r)]) := by
  unfold m_gleeref2_TonesOf at hm
  refine ctr_mk (vs := [(0, .agg (R28.enc a0).toArray)]) Tryd.func58 rfl Tryd.ntmps58 rfl ⟨rfl, trivial⟩ (fun w0 A => ?_)
  refine cj_seq ?_
  refine cj_reg ?_
  refine r_bx (cs := [.int .i64 a0.Root, .int .i64 a0.Kind, .int .i64 a0.Turn]) rfl rfl rfl (fun b1 => ?_)
  refine lp rfl (p_as rfl) ?_
  refine lj_seq ?_
  refine cj_seq ?_
  refine cj_reg ?_
  refine lp rfl (p_as rfl) ?_
  refine lj_seq ?_
  refine cj_seq ?_
  refine cj_seq ?_
  refine cj_reg ?_
  refine lp rfl (p_fab fl28_1 rfl) ?_
  refine lp rfl (p_lbs ty3 rfl (j := 0) rfl rfl) ?_
  obtain ⟨y2, hy2, hm⟩ := bindS hm
  refine r_callN [] cf78 rfl rfl (ok_gleeref2_kindTones a0.Kind hy2) rfl rfl .nil rfl (fun s3 => ?_)
  refine lp rfl (p_len Tryd.underlying22 rfl (.ro 0 rfl)) ?_
  refine lp rfl (p_mv rfl) ?_
  refine lj_seq ?_
  refine cj_nil R3 ?_
  obtain ⟨f11, hf11, hm⟩ := bindS hm
  refine cj_range (γ := SV) (m := (y2.length : Int)) hf11 nilS (fun u8 g9 => [(1, .pointer (some ⟨b1, 0, none⟩)), (2, .slice none 0 0), (3, g9.v), (8, s3.v)]) (fun u8 g9 => Sat w0 (keys ([] : List Ent)) A [.ro (RdS R3 (SV.v s3) y2), .box b1 28 [.int .i64 a0.Root, .int .i64 a0.Kind, .int .i64 a0.Turn], .row R3 (SV.v g9) u8]) ⟨rfl, rfl, rfl, rfl, rfl, rfl, trivial⟩ (fun _ h => h.picks [1, 1, 0] rfl) (nat_lt _) (fun _ h => (FactAt.get (.ro 1 rfl) h).1) (fun _ _ => ⟨rfl, rfl, rfl, rfl⟩) ⟨rfl, rfl, rfl, rfl, rfl⟩ rfl rfl rfl (fun u8 g9 e => ?_) (fun aftk10 i4 x5 u8 g9 k10 hx6 hs J hJk10 hBk10 hX I cnk10 => ?_)
  · have hm := Flow.fin_b e hm
    refine nj_seq ?_
    refine cj_seq ?_
    refine cj_tail 12 (by kernel_rfl) (by kernel_rfl) ?_
    refine s_p rfl (p_mv rfl) ?_
    refine s_p rfl (p_fab fl28_2 rfl) ?_
    refine s_p rfl (p_lbs ty3 rfl (j := 1) rfl rfl) ?_
    refine s_p rfl (p_mv rfl) ?_
    refine s_p rfl (p_len Tryd.underlying22 rfl (.row 2 rfl)) ?_
    refine s_p rfl (p_mv rfl) ?_
    refine s_p rfl (p_len Tryd.underlying22 rfl (.row 2 rfl)) ?_
    obtain ⟨q17, hq17, hm⟩ := bindS hm
    refine s_p rfl (p_cut3 Tryd.underlying22 ty3 rfl rfl rfl rfl rfl (.row 2 rfl) rfl hq17) ?_
    refine s_p rfl (p_mv rfl) ?_
    refine s_p rfl (p_fab fl28_2 rfl) ?_
    refine s_p rfl (p_lbs ty3 rfl (j := 1) rfl rfl) ?_
    obtain ⟨q18, hq18, hm⟩ := bindS hm
    refine s_p rfl (p_cut Tryd.underlying22 ty3 rfl rfl rfl rfl rfl (.row 2 rfl) rfl rfl hq18) ?_
    refine s_nil ?_
    refine r_fz 2 rfl ?_
    obtain ⟨q19, hq19, hm⟩ := bindS hm
    refine r_appF Tryd.underlying22 ty3 rfl rfl rfl (.imp (.ro 0 rfl) (fun _ h => h.cut3 hq17)) rfl (.imp (.ro 0 rfl) (fun _ h => h.cut hq18)) hq19 rfl (fun s20 => ?_)
    refine lp rfl (p_as rfl) ?_
    refine lj_seq ?_
    obtain rfl := Option.some.inj hm
    exact cj_rt s20 [0] Tryd.results58 (.tmp rfl .nil) rfl rfl
  · have hRk10 : ∀ t, k10 = .ret t → some t = some r := fun t e => by rw [hX t e] at hm; exact hm
    have hm := hs
    refine cj_seq ?_
    refine cj_reg ?_
    refine lp rfl (p_idx Tryd.underlying22 ty3 rfl rfl (.ro 0 rfl) (getI_nat.trans hx6)) ?_
    refine lp rfl (p_lde (o := 0) ty3 rfl rfl (.ro 0 rfl) hx6 rfl) ?_
    refine lp rfl (p_as rfl) ?_
    refine lj_seq ?_
    refine cj_reg ?_
    refine lp rfl (p_mv rfl) ?_
    refine lp rfl (p_fab fl28_0 rfl) ?_
    refine lp rfl (p_lbs ty3 rfl (j := 1) rfl rfl) ?_
    refine lp rfl (p_mv rfl) ?_
    refine lp rfl (p_add rfl rfl) ?_
    refine lp rfl (p_rem rfl rfl (by decide)) ?_
    refine r_bs R3 [(w64 (a0.Root + x5)).tmod 12] rfl rfl rfl (fun _ => by kernel_rfl) rfl (fun s13 => ?_)
    obtain ⟨q14, hq14, hm⟩ := bindS hm
    refine r_app (k := 3) Tryd.underlying22 ty3 rfl rfl rfl rfl (.row 0 rfl) hq14 rfl (fun s15 => ?_)
    refine lp rfl (p_as rfl) ?_
    refine lj_nil ?_
    refine nj_blk ?_
    exact cnk10 _ _ q14 s15 (hJk10 _ (Option.some.inj hm).symm) ⟨rfl, rfl, rfl, rfl, rfl, rfl, trivial⟩ (fun _ h => h.picks [1, 1, 1] rfl)
theorem ok_stringslite_TrimPrefix (a0 : ByteArray) (a1 : ByteArray) {r : ByteArray} (hm : m_stringslite_TrimPrefix a0 a1 = some r) :
    Ctr Tryd.prog 175 [.string a0, .string a1].toArray ([] : List Ent) [] (X := Unit) (fun _ => .string r) (fun _ => []) := by
  unfold m_stringslite_TrimPrefix at hm
  refine ctr_mk (vs := [(0, .string a0), (1, .string a1)]) Tryd.func175 rfl Tryd.ntmps175 rfl ⟨rfl, rfl, trivial⟩ (fun w0 A => ?_)
  refine cj_seq ?_
  refine cj_reg ?_
  refine lp rfl (p_as rfl) ?_
  refine lj_seq ?_
  refine cj_seq ?_
  refine cj_seq ?_
  refine cj_reg ?_
  refine lp rfl (p_mv rfl) ?_
  refine lp rfl (p_mv rfl) ?_
  obtain ⟨y1, hy1, hm⟩ := bindS hm
  refine r_call [] cf199 rfl rfl (ok_stringslite_HasPrefix a0 a1 hy1) rfl rfl .nil (fun _ => rfl) rfl (fun _ => ?_)
  refine lj_seq ?_
  refine cj_if (b := y1) rfl (fun hb => ?_) (fun hb => ?_)
  · have hm := ifB_t hb hm
    refine cj_seq ?_
    refine cj_reg ?_
    refine lp rfl (p_mv rfl) ?_
    refine lp rfl (p_mv rfl) ?_
    refine lp rfl (p_lens Tryd.underlying9 rfl) ?_
    obtain ⟨c2, hc2, hm⟩ := bindS hm
    refine lp rfl (p_strs Tryd.underlying9 rfl rfl rfl rfl rfl rfl rfl hc2) ?_
    refine lp rfl (p_as rfl) ?_
    refine lj_seq ?_
    obtain rfl := Option.some.inj hm
    exact cj_rt () [] Tryd.results175 (.tmp rfl .nil) rfl rfl
  · have hm := ifB_f hb hm
    refine cj_skip ?_
    refine nj_seq ?_
    refine cj_seq ?_
    refine cj_reg ?_
    refine lp rfl (p_mv rfl) ?_
    refine lp rfl (p_as rfl) ?_
    refine lj_seq ?_
    obtain rfl := Option.some.inj hm
    exact cj_rt () [] Tryd.results175 (.tmp rfl .nil) rfl rfl
theorem ok_strings_TrimPrefix (a0 : ByteArray) (a1 : ByteArray) {r : ByteArray} (hm : m_strings_TrimPrefix a0 a1 = some r) :
    Ctr Tryd.prog 146 [.string a0, .string a1].toArray ([] : List Ent) [] (X := Unit) (fun _ => .string r) (fun _ => []) := by
  unfold m_strings_TrimPrefix at hm
  refine ctr_mk (vs := [(0, .string a0), (1, .string a1)]) Tryd.func146 rfl Tryd.ntmps146 rfl ⟨rfl, rfl, trivial⟩ (fun w0 A => ?_)
  refine cj_seq ?_
  refine cj_reg ?_
  refine lp rfl (p_as rfl) ?_
  refine lj_seq ?_
  refine cj_seq ?_
  refine cj_reg ?_
  refine lp rfl (p_mv rfl) ?_
  refine lp rfl (p_mv rfl) ?_
  obtain ⟨y1, hy1, hm⟩ := bindS hm
  refine r_call [] cf175 rfl rfl (ok_stringslite_TrimPrefix a0 a1 hy1) rfl rfl .nil (fun _ => rfl) rfl (fun _ => ?_)
  refine lp rfl (p_as rfl) ?_
  refine lj_seq ?_
  obtain rfl := Option.some.inj hm
  exact cj_rt () [] Tryd.results146 (.tmp rfl .nil) rfl rfl
theorem ok_strings_IndexByte (a0 : ByteArray) (a1 : Int) {r : Int} (hm : m_strings_IndexByte a0 a1 = some r) :
    Ctr Tryd.prog 176 [.string a0, .int .u8 a1].toArray ([] : List Ent) [] (X := Unit) (fun _ => .int .i64 r) (fun _ => []) := by
  unfold m_strings_IndexByte at hm
  refine ctr_mk (vs := [(0, .string a0), (1, .int .u8 a1)]) Tryd.func176 rfl Tryd.ntmps176 rfl ⟨rfl, rfl, trivial⟩ (fun w0 A => ?_)
  refine cj_seq ?_
  refine cj_reg ?_
  refine lp rfl (p_as rfl) ?_
  refine lj_seq ?_
  refine cj_seq ?_
  refine cj_reg ?_
  refine lp rfl (p_mv rfl) ?_
  refine lp rfl (p_mv rfl) ?_
  obtain ⟨y1, hy1, hm⟩ := bindS hm
  refine r_call [] cf195 rfl rfl (ok_stringslite_IndexByte a0 a1 hy1) rfl rfl .nil (fun _ => rfl) rfl (fun _ => ?_)
  refine lp rfl (p_as rfl) ?_
  refine lj_seq ?_
  obtain rfl := Option.some.inj hm
  exact cj_rt () [] Tryd.results176 (.tmp rfl .nil) rfl rfl
theorem ok_gleeref2_only (a0 : ByteArray) (a1 : ByteArray) {r : Bool} (hm : m_gleeref2_only a0 a1 = some r) :
    Ctr Tryd.prog 147 [.string a0, .string a1].toArray ([] : List Ent) [] (X := Unit) (fun _ => .bool r) (fun _ => []) := by
  unfold m_gleeref2_only at hm
  refine ctr_mk (vs := [(0, .string a0), (1, .string a1)]) Tryd.func147 rfl Tryd.ntmps147 rfl ⟨rfl, rfl, trivial⟩ (fun w0 A => ?_)
  refine cj_seq ?_
  refine cj_reg ?_
  refine lp rfl (p_as rfl) ?_
  refine lj_seq ?_
  refine cj_seq ?_
  refine cj_seq ?_
  refine cj_reg ?_
  refine lp rfl (p_mv rfl) ?_
  refine lp rfl (p_lens Tryd.underlying9 rfl) ?_
  refine lp rfl (p_mv rfl) ?_
  refine lj_seq ?_
  obtain ⟨L10, hL10, hm⟩ := bindS hm
  obtain ⟨f7, hf7, hm⟩ := bindS hm
  refine cj_range (γ := Unit) (m := (a0.size : Int)) hf7 () (fun u4 g5 => [(0, .string a0), (1, .string a1), (4, .bool false)]) (fun u4 g5 => Sat w0 (keys ([] : List Ent)) A []) ⟨rfl, rfl, rfl, rfl, rfl, trivial⟩ (fun _ h => h.picks [] rfl) (rangeI_spec hL10).1 (fun _ _ => (rangeI_spec hL10).2) (fun _ _ => ⟨rfl, rfl, rfl, rfl⟩) ⟨rfl, rfl, rfl, rfl, rfl⟩ rfl rfl rfl (fun u4 g5 e => ?_) (fun aftk6 i1 x2 u4 g5 k6 hx3 hs J hJk6 hBk6 hX I cnk6 => ?_)
  · have hm := Flow.fin_b e hm
    refine nj_seq ?_
    refine cj_seq ?_
    refine cj_reg ?_
    refine lp rfl (p_as rfl) ?_
    refine lj_seq ?_
    obtain rfl := Option.some.inj hm
    exact cj_rt () [] Tryd.results147 (.tmp rfl .nil) rfl rfl
  · have hRk6 : ∀ t, k6 = .ret t → some t = some r := fun t e => by rw [hX t e] at hm; exact hm
    have hm := hs
    refine cj_seq ?_
    refine cj_reg ?_
    refine lp rfl (p_mv rfl) ?_
    refine lp rfl (p_as rfl) ?_
    refine lj_seq ?_
    refine cj_seq ?_
    refine cj_reg ?_
    refine lp rfl (p_mv rfl) ?_
    refine lp rfl (p_mv rfl) ?_
    refine lp rfl (p_mv rfl) ?_
    obtain ⟨c8, hc8, hm⟩ := bindS hm
    refine lp rfl (p_stri Tryd.underlying9 rfl rfl hc8) ?_
    obtain ⟨y9, hy9, hm⟩ := bindS hm
    refine r_call [] cf176 rfl rfl (ok_strings_IndexByte a1 c8 hy9) rfl rfl .nil (fun _ => rfl) rfl (fun _ => ?_)
    refine lp rfl (p_lss rfl rfl) ?_
    refine lj_seq ?_
    refine cj_if (b := decide (y9 < 0)) rfl (fun hb => ?_) (fun hb => ?_)
    · have hm := ifB_t hb hm
      refine cj_seq ?_
      refine cj_reg ?_
      refine lp rfl (p_as rfl) ?_
      refine lj_seq ?_
      have hm := hRk6 _ (Option.some.inj hm).symm
      obtain rfl := Option.some.inj hm
      exact cj_rt () [] Tryd.results147 (.tmp rfl .nil) rfl rfl
    · have hm := ifB_f hb hm
      refine cj_skip ?_
      refine nj_blk ?_
      exact cnk6 _ _ () () (hJk6 _ (Option.some.inj hm).symm) ⟨rfl, rfl, rfl, rfl, rfl, trivial⟩ (fun _ h => h.picks [] rfl)
theorem ok_gleeref2_Number (a0 : ByteArray) (a1 : Int) {r : Int × Bool} (hm : m_gleeref2_Number a0 a1 = some r) :
    Ctr Tryd.prog 118 [.string a0, .int .i64 a1].toArray ([] : List Ent) [PowT] (X := Unit) (fun _ => .tuple [.int .i64 r.1, .bool r.2].toArray) (fun _ => []) := by
  unfold m_gleeref2_Number at hm
  refine ctr_mk (vs := [(0, .string a0), (1, .int .i64 a1)]) Tryd.func118 rfl Tryd.ntmps118 rfl ⟨rfl, rfl, trivial⟩ (fun w0 A => ?_)
  refine cj_seq ?_
  refine cj_reg ?_
  refine lp rfl (p_as rfl) ?_
  refine lp rfl (p_as rfl) ?_
  refine lj_seq ?_
  refine cj_seq ?_
  refine cj_reg ?_
  refine lp rfl (p_mv rfl) ?_
  obtain ⟨y1, hy1, hm⟩ := bindS hm
  refine r_call [] cf146 rfl rfl (ok_strings_TrimPrefix a0 (ByteArray.mk [45].toArray) hy1) rfl rfl .nil (fun _ => rfl) rfl (fun _ => ?_)
  refine lp rfl (p_as rfl) ?_
  refine lj_seq ?_
  refine cj_seq ?_
  refine cj_seq ?_
  refine cj_reg ?_
  obtain ⟨k4, hk4, hm⟩ := bindS hm
  have hRk4 : ∀ t, k4 = .inr t → some t = some r := fun t e => by rw [e] at hm; exact hm
  refine lj_join (σ := Bool) (γ := Unit) (fun u2 => k4 = .inl u2) (fun u2 g3 => [(0, .string a0), (4, .int .i64 0), (5, .bool false), (23, .bool u2)]) (fun u2 g3 => Sat w0 (keys ([] : List Ent)) A [.ro PowT]) (fun u2 g3 hq => ?_) (fun J cnk4 => ?_)
  · have hm := Sum.fin_l hq hm
    refine cj_if (b := u2) rfl (fun hb => ?_) (fun hb => ?_)
    · have hm := ifB_t hb hm
      refine cj_seq ?_
      refine cj_reg ?_
      refine lp rfl (p_as rfl) ?_
      refine lp rfl (p_as rfl) ?_
      refine lj_seq ?_
      obtain rfl := Option.some.inj hm
      exact cj_rt () [] Tryd.results118 (.tmp rfl (.tmp rfl .nil)) rfl rfl
    · have hm := ifB_f hb hm
      refine cj_skip ?_
      refine nj_seq ?_
      refine cj_seq ?_
      refine cj_reg ?_
      refine lp rfl (p_mv rfl) ?_
      obtain ⟨y6, hy6, hm⟩ := bindS hm
      refine r_call [] cf145 rfl rfl (ok_strconv_Atoi a0 hy6) rfl rfl .nil (fun _ => rfl) rfl (fun _ => ?_)
      refine lp rfl (p_mv rfl) ?_
      refine lp rfl (p_ext rfl rfl) ?_
      refine lp rfl (p_ext rfl rfl) ?_
      refine lp rfl (p_as rfl) ?_
      refine lp rfl (p_as rfl) ?_
      refine lj_seq ?_
      refine cj_seq ?_
      refine cj_reg ?_
      refine lp rfl (p_mv rfl) ?_
      refine lp rfl (p_mv rfl) ?_
      refine lp rfl (p_eqni Tryd.underlying161 (by kernel_rfl) rfl) ?_
      refine lp rfl (p_mv rfl) ?_
      refine lg true rfl rfl rfl ?_
      refine lp rfl (p_mv rfl) ?_
      refine lg true rfl rfl rfl ?_
      obtain ⟨y7, hy7, hm⟩ := bindS hm
      refine r_call [] cf112 rfl rfl (ok_strconv_Itoa y6.1 hy7) rfl rfl (.cons (.ro 0 rfl) .nil) (fun _ => rfl) rfl (fun _ => ?_)
      refine lg true rfl rfl rfl ?_
      refine lp rfl (p_mv rfl) ?_
      refine lg true rfl rfl rfl ?_
      refine lp rfl (p_eqs rfl rfl) ?_
      refine lp rfl (p_pkt rfl rfl) ?_
      refine lp rfl (p_as rfl) ?_
      refine lp rfl (p_as rfl) ?_
      refine lj_seq ?_
      obtain rfl := Option.some.inj hm
      exact cj_rt () [] Tryd.results118 (.tmp rfl (.tmp rfl .nil)) rfl rfl
  · have hm := hk4
    refine lp rfl (p_mv rfl) ?_
    refine lp rfl (p_eqs rfl rfl) ?_
    refine lp rfl (p_mv rfl) ?_
    refine lcase (i := 13) (y1.toList == ByteArray.empty.toList) rfl (fun hb => ?_) (fun hb => ?_)
    · have hm := ifB_t hb hm
      refine ls false rfl rfl rfl rfl ?_
      refine ls false rfl rfl rfl rfl ?_
      refine ls false rfl rfl rfl rfl ?_
      refine ls false rfl rfl rfl rfl ?_
      refine lp rfl (p_pkt rfl rfl) ?_
      refine lp rfl (p_mv rfl) ?_
      refine ls false rfl rfl rfl rfl ?_
      refine ls false rfl rfl rfl rfl ?_
      refine ls false rfl rfl rfl rfl ?_
      refine lp rfl (p_pkt rfl rfl) ?_
      refine lj_nil ?_
      exact cnk4 _ _ true () (Option.some.inj hm).symm ⟨rfl, rfl, rfl, rfl, trivial⟩ (fun _ h => h.picks [0] rfl)
    · have hm := ifB_f hb hm
      refine lg false rfl rfl rfl ?_
      refine lp rfl (p_mv rfl) ?_
      refine lg false rfl rfl rfl ?_
      refine lp rfl (p_lens Tryd.underlying9 rfl) ?_
      refine lg false rfl rfl rfl ?_
      refine lp rfl (p_mv rfl) ?_
      refine lg false rfl rfl rfl ?_
      refine lp rfl (p_gtr rfl rfl) ?_
      refine lp rfl (p_pkf rfl rfl) ?_
      refine lp rfl (p_mv rfl) ?_
      refine lcase (i := 19) (decide ((y1.size : Int) > a1)) rfl (fun hb => ?_) (fun hb => ?_)
      · have hm := ifB_t hb hm
        refine ls false rfl rfl rfl rfl ?_
        refine ls false rfl rfl rfl rfl ?_
        refine ls false rfl rfl rfl rfl ?_
        refine lp rfl (p_pkt rfl rfl) ?_
        refine lj_nil ?_
        exact cnk4 _ _ true () (Option.some.inj hm).symm ⟨rfl, rfl, rfl, rfl, trivial⟩ (fun _ h => h.picks [0] rfl)
      · have hm := ifB_f hb hm
        refine lg false rfl rfl rfl ?_
        refine lp rfl (p_mv rfl) ?_
        refine lg false rfl rfl rfl ?_
        obtain ⟨y5, hy5, hm⟩ := bindS hm
        refine r_call [] cf147 rfl rfl (ok_gleeref2_only y1 (ByteArray.mk [48, 49, 50, 51, 52, 53, 54, 55, 56, 57].toArray) hy5) rfl rfl .nil (fun _ => rfl) rfl (fun _ => ?_)
        refine lg false rfl rfl rfl ?_
        refine lp rfl (p_not rfl) ?_
        refine lp rfl (p_pkf rfl rfl) ?_
        refine lj_nil ?_
        exact cnk4 _ _ (!y5) () (Option.some.inj hm).symm ⟨rfl, rfl, rfl, rfl, trivial⟩ (fun _ h => h.picks [0] rfl)
theorem ok_gleeref2_ParsedOf (a0 : ByteArray) {r : TChord × Int} (hm : m_gleeref2_ParsedOf a0 = some r) :
    Ctr Tryd.prog 60 [.string a0].toArray ([] : List Ent) [PowT] (X := Unit) (fun _ => .tuple [.agg (R28.enc r.1).toArray, .int .i64 r.2].toArray) (fun _ => []) := by
  unfold m_gleeref2_ParsedOf at hm
  refine ctr_mk (vs := [(0, .string a0)]) Tryd.func60 rfl Tryd.ntmps60 rfl ⟨rfl, trivial⟩ (fun w0 A => ?_)
  refine cj_seq ?_
  refine cj_reg ?_
  refine r_al ty28 rfl (fun b1 => ?_)
  refine lp rfl (p_as rfl) ?_
  refine lj_seq ?_
  refine cj_seq ?_
  refine cj_reg ?_
  refine lp rfl (p_mv rfl) ?_
  obtain ⟨y2, hy2, hm⟩ := bindS hm
  refine r_call [] cf113 rfl rfl (ok_strings_Cut a0 (ByteArray.mk [32].toArray) hy2) rfl rfl .nil (fun _ => rfl) rfl (fun _ => ?_)
  refine lp rfl (p_mv rfl) ?_
  refine lp rfl (p_ext rfl rfl) ?_
  refine lp rfl (p_ext rfl rfl) ?_
  refine lp rfl (p_ext rfl rfl) ?_
  refine lp rfl (p_as rfl) ?_
  refine lp rfl (p_as rfl) ?_
  refine lp rfl (p_as rfl) ?_
  refine lj_seq ?_
  refine cj_seq ?_
  refine cj_reg ?_
  refine lp rfl (p_mv rfl) ?_
  obtain ⟨y3, hy3, hm⟩ := bindS hm
  refine r_call [] cf113 rfl rfl (ok_strings_Cut y2.2.1 (ByteArray.mk [47].toArray) hy3) rfl rfl .nil (fun _ => rfl) rfl (fun _ => ?_)
  refine lp rfl (p_mv rfl) ?_
  refine lp rfl (p_ext rfl rfl) ?_
  refine lp rfl (p_ext rfl rfl) ?_
  refine lp rfl (p_ext rfl rfl) ?_
  refine lp rfl (p_as rfl) ?_
  refine lp rfl (p_as rfl) ?_
  refine lp rfl (p_as rfl) ?_
  refine lj_seq ?_
  refine cj_seq ?_
  refine cj_reg ?_
  obtain ⟨y4, hy4, hm⟩ := bindS hm
  refine r_call [] cf116 rfl rfl (ok_gleeref2_roots  hy4) rfl rfl .nil (fun _ => rfl) rfl (fun s5 => ?_)
  refine lp rfl (p_mv rfl) ?_
  obtain ⟨y6, hy6, hm⟩ := bindS hm
  refine r_call [] cf114 rfl rfl (ok_slices_Index_string_string s5 y4 y2.1 hy6) rfl rfl (.cons (.row 0 rfl) .nil) (fun _ => rfl) rfl (fun _ => ?_)
  obtain ⟨y7, hy7, hm⟩ := bindS hm
  refine r_call [] cf117 rfl rfl (ok_gleeref2_kinds  hy7) rfl rfl .nil (fun _ => rfl) rfl (fun s8 => ?_)
  refine lp rfl (p_mv rfl) ?_
  obtain ⟨y9, hy9, hm⟩ := bindS hm
  refine r_call [] cf114 rfl rfl (ok_slices_Index_string_string s8 y7 y3.1 hy9) rfl rfl (.cons (.row 0 rfl) .nil) (fun _ => rfl) rfl (fun _ => ?_)
  refine lp rfl (p_bld [.int .i64 y6, .int .i64 y9, .int .i64 0] rfl (fun _ => by kernel_rfl)) ?_
  refine r_al ty28 rfl (fun b10 => ?_)
  refine r_sb (vs := [.int .i64 y6, .int .i64 y9, .int .i64 0]) (j := 0) ty28 rfl rfl rfl rfl rfl rfl rfl ?_
  refine lj_seq ?_
  refine cj_seq ?_
  refine cj_reg ?_
  refine lp rfl (p_as rfl) ?_
  refine lj_seq ?_
  refine cj_seq ?_
  refine cj_seq ?_
  refine cj_reg ?_
  refine lp rfl (p_mv rfl) ?_
  refine lj_seq ?_
  obtain ⟨k13, hk13, hm⟩ := bindS hm
  have hRk13 : ∀ t, k13 = .inr t → some t = some r := fun t e => by rw [e] at hm; exact hm
  refine cj_joinK (σ := (Bool × Int)) (γ := Unit) (fun u11 => k13 = .inl u11) (fun u11 g12 => [(2, .pointer (some ⟨b1, 0, none⟩)), (3, .int .i64 0), (6, .bool y2.2.2), (10, .pointer (some ⟨b10, 0, none⟩)), (11, .bool u11.1)]) (fun u11 g12 => Sat w0 (keys ([] : List Ent)) A [.box b10 28 [.int .i64 y6, .int .i64 y9, .int .i64 u11.2], .box b1 28 [.int .i64 0, .int .i64 0, .int .i64 0], .ro PowT]) (fun u11 g12 hq => ?_) (fun J cnk13 => ?_)
  · have hm := Sum.fin_l hq hm
    refine cj_seq ?_
    refine cj_seq ?_
    refine cj_reg ?_
    obtain ⟨k17, hk17, hm⟩ := bindS hm
    have hRk17 : ∀ t, k17 = .inr t → some t = some r := fun t e => by rw [e] at hm; exact hm
    refine lj_join (σ := Bool) (γ := Unit) (fun u15 => k17 = .inl u15) (fun u15 g16 => [(2, .pointer (some ⟨b1, 0, none⟩)), (3, .int .i64 0), (10, .pointer (some ⟨b10, 0, none⟩)), (60, .bool u15)]) (fun u15 g16 => Sat w0 (keys ([] : List Ent)) A [.box b10 28 [.int .i64 y6, .int .i64 y9, .int .i64 u11.2], .box b1 28 [.int .i64 0, .int .i64 0, .int .i64 0], .ro PowT]) (fun u15 g16 hq => ?_) (fun J cnk17 => ?_)
    · have hm := Sum.fin_l hq hm
      refine cj_if (b := u15) rfl (fun hb => ?_) (fun hb => ?_)
      · have hm := ifB_t hb hm
        refine cj_seq ?_
        refine cj_reg ?_
        refine lp rfl (p_bld [.int .i64 0, .int .i64 0, .int .i64 0] rfl (fun _ => by kernel_rfl)) ?_
        refine r_sb (vs := [.int .i64 0, .int .i64 0, .int .i64 0]) (j := 1) ty28 rfl rfl rfl rfl rfl rfl rfl ?_
        refine lp rfl (p_as rfl) ?_
        refine lj_seq ?_
        obtain rfl := Option.some.inj hm
        exact cj_rt () [] Tryd.results60 (.agg (k := 1) ty28 rfl rfl rfl (.tmp rfl .nil)) rfl rfl
      · have hm := ifB_f hb hm
        refine cj_skip ?_
        refine nj_seq ?_
        refine cj_seq ?_
        refine cj_seq ?_
        refine cj_reg ?_
        refine lp rfl (p_lbw ty28 rfl (j := 0) rfl rfl) ?_
        obtain ⟨y18, hy18, hm⟩ := bindS hm
        refine r_call [] cf19 rfl rfl (ok_gleeref2_ChordFault (TChord.mk y6 y9 u11.2) hy18) rfl rfl .nil (fun _ => rfl) rfl (fun _ => ?_)
        refine lp rfl (p_as rfl) ?_
        refine lj_seq ?_
        refine cj_seq ?_
        refine cj_reg ?_
        refine lp rfl (p_mv rfl) ?_
        refine lp rfl (p_neq rfl rfl) ?_
        refine lj_seq ?_
        refine cj_if (b := y18 != 0) rfl (fun hb => ?_) (fun hb => ?_)
        · have hm := ifB_t hb hm
          refine cj_seq ?_
          refine cj_reg ?_
          refine lp rfl (p_bld [.int .i64 0, .int .i64 0, .int .i64 0] rfl (fun _ => by kernel_rfl)) ?_
          refine lp rfl (p_mv rfl) ?_
          refine r_sb (vs := [.int .i64 0, .int .i64 0, .int .i64 0]) (j := 1) ty28 rfl rfl rfl rfl rfl rfl rfl ?_
          refine lp rfl (p_as rfl) ?_
          refine lj_seq ?_
          obtain rfl := Option.some.inj hm
          exact cj_rt () [] Tryd.results60 (.agg (k := 1) ty28 rfl rfl rfl (.tmp rfl .nil)) rfl rfl
        · have hm := ifB_f hb hm
          refine cj_skip ?_
          refine nj_seq ?_
          refine cj_seq ?_
          refine cj_reg ?_
          refine lp rfl (p_lbw ty28 rfl (j := 0) rfl rfl) ?_
          refine r_sb (vs := [.int .i64 y6, .int .i64 y9, .int .i64 u11.2]) (j := 1) ty28 rfl rfl rfl rfl rfl rfl rfl ?_
          refine lp rfl (p_as rfl) ?_
          refine lj_seq ?_
          obtain rfl := Option.some.inj hm
          exact cj_rt () [] Tryd.results60 (.agg (k := 1) ty28 rfl rfl rfl (.tmp rfl .nil)) rfl rfl
    · have hm := hk17
      refine lp rfl (p_mv rfl) ?_
      refine lp rfl (p_not rfl) ?_
      refine lp rfl (p_mv rfl) ?_
      refine lcase (i := 47) (!y2.2.2) rfl (fun hb => ?_) (fun hb => ?_)
      · have hm := ifB_t hb hm
        refine ls false rfl rfl rfl rfl ?_
        refine ls false rfl rfl rfl rfl ?_
        refine ls false rfl rfl rfl rfl ?_
        refine lp rfl (p_pkt rfl rfl) ?_
        refine lp rfl (p_mv rfl) ?_
        refine ls false rfl rfl rfl rfl ?_
        refine ls false rfl rfl rfl rfl ?_
        refine ls false rfl rfl rfl rfl ?_
        refine lp rfl (p_pkt rfl rfl) ?_
        refine lp rfl (p_mv rfl) ?_
        refine ls false rfl rfl rfl rfl ?_
        refine ls false rfl rfl rfl rfl ?_
        refine lp rfl (p_pkt rfl rfl) ?_
        refine lj_nil ?_
        exact cnk17 _ _ true () (Option.some.inj hm).symm ⟨rfl, rfl, rfl, rfl, trivial⟩ (fun _ h => h.picks [0, 0, 0] rfl)
      · have hm := ifB_f hb hm
        refine lg false rfl rfl rfl ?_
        refine lp rfl (p_fab fl28_0 rfl) ?_
        refine lg false rfl rfl rfl ?_
        refine lp rfl (p_lbs ty3 rfl (j := 0) rfl rfl) ?_
        refine lg false rfl rfl rfl ?_
        refine lp rfl (p_lss rfl rfl) ?_
        refine lp rfl (p_pkf rfl rfl) ?_
        refine lp rfl (p_mv rfl) ?_
        refine lcase (i := 52) (decide (y6 < 0)) rfl (fun hb => ?_) (fun hb => ?_)
        · have hm := ifB_t hb hm
          refine ls false rfl rfl rfl rfl ?_
          refine ls false rfl rfl rfl rfl ?_
          refine ls false rfl rfl rfl rfl ?_
          refine lp rfl (p_pkt rfl rfl) ?_
          refine lp rfl (p_mv rfl) ?_
          refine ls false rfl rfl rfl rfl ?_
          refine ls false rfl rfl rfl rfl ?_
          refine lp rfl (p_pkt rfl rfl) ?_
          refine lj_nil ?_
          exact cnk17 _ _ true () (Option.some.inj hm).symm ⟨rfl, rfl, rfl, rfl, trivial⟩ (fun _ h => h.picks [0, 0, 0] rfl)
        · have hm := ifB_f hb hm
          refine lg false rfl rfl rfl ?_
          refine lp rfl (p_fab fl28_1 rfl) ?_
          refine lg false rfl rfl rfl ?_
          refine lp rfl (p_lbs ty3 rfl (j := 0) rfl rfl) ?_
          refine lg false rfl rfl rfl ?_
          refine lp rfl (p_lss rfl rfl) ?_
          refine lp rfl (p_pkf rfl rfl) ?_
          refine lp rfl (p_mv rfl) ?_
          refine lcase (i := 57) (decide (y9 < 1)) rfl (fun hb => ?_) (fun hb => ?_)
          · have hm := ifB_t hb hm
            refine ls false rfl rfl rfl rfl ?_
            refine ls false rfl rfl rfl rfl ?_
            refine lp rfl (p_pkt rfl rfl) ?_
            refine lj_nil ?_
            exact cnk17 _ _ true () (Option.some.inj hm).symm ⟨rfl, rfl, rfl, rfl, trivial⟩ (fun _ h => h.picks [0, 0, 0] rfl)
          · have hm := ifB_f hb hm
            refine lg false rfl rfl rfl ?_
            refine lp rfl (p_mv rfl) ?_
            refine lg false rfl rfl rfl ?_
            refine lp rfl (p_not rfl) ?_
            refine lp rfl (p_pkf rfl rfl) ?_
            refine lj_nil ?_
            exact cnk17 _ _ (!u11.1) () (Option.some.inj hm).symm ⟨rfl, rfl, rfl, rfl, trivial⟩ (fun _ h => h.picks [0, 0, 0] rfl)
  · have hm := hk13
    refine cj_if (b := y3.2.2) rfl (fun hb => ?_) (fun hb => ?_)
    · have hm := ifB_t hb hm
      refine cj_seq ?_
      refine cj_reg ?_
      refine lp rfl (p_mv rfl) ?_
      obtain ⟨y14, hy14, hm⟩ := bindS hm
      refine r_call [] cf118 rfl rfl (ok_gleeref2_Number y3.2.1 15 hy14) rfl rfl (.cons (.ro 4 rfl) .nil) (fun _ => rfl) rfl (fun _ => ?_)
      refine lp rfl (p_mv rfl) ?_
      refine lp rfl (p_ext rfl rfl) ?_
      refine lp rfl (p_ext rfl rfl) ?_
      refine lp rfl (p_fab fl28_2 rfl) ?_
      refine r_sb (vs := [.int .i64 y14.1]) (j := 0) ty3 rfl rfl rfl rfl rfl rfl rfl ?_
      refine lp rfl (p_as rfl) ?_
      refine lj_seq ?_
      refine cj_reg ?_
      refine lp rfl (p_mv rfl) ?_
      refine lp rfl (p_mv rfl) ?_
      refine lcase (i := 40) y14.2 rfl (fun hb => ?_) (fun hb => ?_)
      · have hm := ifB_t hb hm
        refine lg true rfl rfl rfl ?_
        refine lp rfl (p_fab fl28_2 rfl) ?_
        refine lg true rfl rfl rfl ?_
        refine lp rfl (p_lbs ty3 rfl (j := 0) rfl rfl) ?_
        refine lg true rfl rfl rfl ?_
        refine lp rfl (p_gtr rfl rfl) ?_
        refine lp rfl (p_pkt rfl rfl) ?_
        refine lp rfl (p_as rfl) ?_
        refine lj_nil ?_
        exact cnk13 _ _ (decide (y14.1 > 0), y14.1) () (Option.some.inj hm).symm ⟨rfl, rfl, rfl, rfl, rfl, trivial⟩ (fun _ h => h.picks [0, 2, 2] rfl)
      · have hm := ifB_f hb hm
        refine ls true rfl rfl rfl rfl ?_
        refine ls true rfl rfl rfl rfl ?_
        refine ls true rfl rfl rfl rfl ?_
        refine lp rfl (p_pkf rfl rfl) ?_
        refine lp rfl (p_as rfl) ?_
        refine lj_nil ?_
        exact cnk13 _ _ (false, y14.1) () (Option.some.inj hm).symm ⟨rfl, rfl, rfl, rfl, rfl, trivial⟩ (fun _ h => h.picks [0, 2, 2] rfl)
    · have hm := ifB_f hb hm
      refine cj_skip ?_
      exact cnk13 _ _ (true, 0) () (Option.some.inj hm).symm ⟨rfl, rfl, rfl, rfl, rfl, trivial⟩ (fun _ h => h.picks [0, 2, 2] rfl)
theorem ok_slices_Equal_int_int (s0_ : SV) (a0 : (List Int)) (s1_ : SV) (a1 : (List Int)) {r : Bool} (hm : m_slices_Equal_int_int a0 a1 = some r) :
    Ctr Tryd.prog 27 [s0_.v, s1_.v].toArray ([] : List Ent) [RdS R3 (SV.v s0_) a0, RdS R3 (SV.v s1_) a1] (X := Unit) (fun _ => .bool r) (fun _ => []) := by
  unfold m_slices_Equal_int_int at hm
  refine ctr_mk (vs := [(0, s0_.v), (1, s1_.v)]) Tryd.func27 rfl Tryd.ntmps27 rfl ⟨rfl, rfl, trivial⟩ (fun w0 A => ?_)
  refine cj_seq ?_
  refine cj_reg ?_
  refine lp rfl (p_as rfl) ?_
  refine lj_seq ?_
  refine cj_seq ?_
  refine cj_seq ?_
  refine cj_reg ?_
  refine lp rfl (p_mv rfl) ?_
  refine lp rfl (p_len Tryd.underlying22 rfl (.ro 0 rfl)) ?_
  refine lp rfl (p_mv rfl) ?_
  refine lp rfl (p_len Tryd.underlying22 rfl (.ro 1 rfl)) ?_
  refine lp rfl (p_neq rfl rfl) ?_
  refine lj_seq ?_
  refine cj_if (b := (a0.length : Int) != (a1.length : Int)) rfl (fun hb => ?_) (fun hb => ?_)
  · have hm := ifB_t hb hm
    refine cj_seq ?_
    refine cj_reg ?_
    refine lp rfl (p_as rfl) ?_
    refine lj_seq ?_
    obtain rfl := Option.some.inj hm
    exact cj_rt () [] Tryd.results27 (.tmp rfl .nil) rfl rfl
  · have hm := ifB_f hb hm
    refine cj_skip ?_
    refine nj_seq ?_
    refine cj_seq ?_
    refine cj_seq ?_
    refine cj_reg ?_
    refine lp rfl (p_mv rfl) ?_
    refine lp rfl (p_len Tryd.underlying22 rfl (.ro 0 rfl)) ?_
    refine lp rfl (p_mv rfl) ?_
    refine lj_seq ?_
    obtain ⟨f7, hf7, hm⟩ := bindS hm
    refine cj_range (γ := Unit) (m := (a0.length : Int)) hf7 () (fun u4 g5 => [(0, s0_.v), (1, s1_.v), (4, .bool false)]) (fun u4 g5 => Sat w0 (keys ([] : List Ent)) A [.ro (RdS R3 (SV.v s0_) a0), .ro (RdS R3 (SV.v s1_) a1)]) ⟨rfl, rfl, rfl, rfl, rfl, trivial⟩ (fun _ h => h.picks [0, 0] rfl) (nat_lt _) (fun _ h => (FactAt.get (.ro 0 rfl) h).1) (fun _ _ => ⟨rfl, rfl, rfl, rfl⟩) ⟨rfl, rfl, rfl, rfl, rfl⟩ rfl rfl rfl (fun u4 g5 e => ?_) (fun aftk6 i1 x2 u4 g5 k6 hx3 hs J hJk6 hBk6 hX I cnk6 => ?_)
    · have hm := Flow.fin_b e hm
      refine nj_seq ?_
      refine cj_seq ?_
      refine cj_reg ?_
      refine lp rfl (p_as rfl) ?_
      refine lj_seq ?_
      obtain rfl := Option.some.inj hm
      exact cj_rt () [] Tryd.results27 (.tmp rfl .nil) rfl rfl
    · have hRk6 : ∀ t, k6 = .ret t → some t = some r := fun t e => by rw [hX t e] at hm; exact hm
      have hm := hs
      refine cj_seq ?_
      refine cj_reg ?_
      refine lp rfl (p_mv rfl) ?_
      refine lp rfl (p_as rfl) ?_
      refine lj_seq ?_
      refine cj_seq ?_
      refine cj_quiet (by kernel_rfl) (by kernel_rfl) ?_
      refine q_p rfl (p_mv rfl) ?_
      refine q_p rfl (p_mv rfl) ?_
      refine q_p rfl (p_idx Tryd.underlying22 ty3 rfl rfl (.ro 0 rfl) (getI_nat.trans hx3)) ?_
      refine q_p rfl (p_lde (o := 0) ty3 rfl rfl (.ro 0 rfl) hx3 rfl) ?_
      refine q_p rfl (p_mv rfl) ?_
      refine q_p rfl (p_mv rfl) ?_
      obtain ⟨e8, he8, hm⟩ := bindS hm
      refine q_p rfl (p_idx Tryd.underlying22 ty3 rfl rfl (.ro 1 rfl) he8) ?_
      refine q_p rfl (p_lde (o := 0) ty3 rfl rfl (.ro 1 rfl) (getI_spec he8).2 rfl) ?_
      refine q_p rfl (p_neq rfl rfl) ?_
      refine q_nil ?_
      refine nj_seq ?_
      refine cj_if (b := x2 != e8) rfl (fun hb => ?_) (fun hb => ?_)
      · have hm := ifB_t hb hm
        refine cj_seq ?_
        refine cj_reg ?_
        refine lp rfl (p_as rfl) ?_
        refine lj_seq ?_
        have hm := hRk6 _ (Option.some.inj hm).symm
        obtain rfl := Option.some.inj hm
        exact cj_rt () [] Tryd.results27 (.tmp rfl .nil) rfl rfl
      · have hm := ifB_f hb hm
        refine cj_skip ?_
        refine nj_blk ?_
        exact cnk6 _ _ () () (hJk6 _ (Option.some.inj hm).symm) ⟨rfl, rfl, rfl, rfl, rfl, trivial⟩ (fun _ h => h.picks [0, 0] rfl)
theorem ok_gleelaw2_sounded  {r : Bool} (hm : m_gleelaw2_sounded  = some r) :
    Ctr Tryd.prog 28 [].toArray ([] : List Ent) [PowT] (X := Unit) (fun _ => .bool r) (fun _ => []) := by
  unfold m_gleelaw2_sounded at hm
  refine ctr_mk (vs := []) Tryd.func28 rfl Tryd.ntmps28 rfl trivial (fun w0 A => ?_)
  refine cj_seq ?_
  refine cj_reg ?_
  refine lp rfl (p_as rfl) ?_
  refine lj_seq ?_
  refine cj_seq ?_
  refine cj_reg ?_
  refine lp rfl (p_bld [.int .i64 1, .int .i64 2, .int .i64 1] rfl (fun _ => by kernel_rfl)) ?_
  obtain ⟨y1, hy1, hm⟩ := bindS hm
  refine r_call [] cf56 rfl rfl (ok_chord_Name (TChord.mk 1 2 1) hy1) rfl rfl (.cons (.ro 0 rfl) .nil) (fun _ => rfl) rfl (fun _ => ?_)
  refine lp rfl (p_mv rfl) ?_
  refine lp rfl (p_ext rfl rfl) ?_
  refine lp rfl (p_ext rfl rfl) ?_
  refine lp rfl (p_as rfl) ?_
  refine lp rfl (p_as rfl) ?_
  refine lj_seq ?_
  refine cj_seq ?_
  refine cj_reg ?_
  refine lp rfl (p_mv rfl) ?_
  refine lp rfl (p_eql rfl rfl) ?_
  refine lp rfl (p_mv rfl) ?_
  refine lcase (i := 10) (y1.2 == 0) rfl (fun hb => ?_) (fun hb => ?_)
  · have hm := ifB_t hb hm
    refine lg true rfl rfl rfl ?_
    refine lp rfl (p_mv rfl) ?_
    refine lg true rfl rfl rfl ?_
    refine lp rfl (p_eqs rfl rfl) ?_
    refine lp rfl (p_pkt rfl rfl) ?_
    refine lp rfl (p_as rfl) ?_
    refine lj_seq ?_
    obtain rfl := Option.some.inj hm
    exact cj_rt () [] Tryd.results28 (.tmp rfl .nil) rfl rfl
  · have hm := ifB_f hb hm
    refine ls true rfl rfl rfl rfl ?_
    refine ls true rfl rfl rfl rfl ?_
    refine lp rfl (p_pkf rfl rfl) ?_
    refine lp rfl (p_as rfl) ?_
    refine lj_seq ?_
    obtain rfl := Option.some.inj hm
    exact cj_rt () [] Tryd.results28 (.tmp rfl .nil) rfl rfl
theorem ok_gleelaw2_ChordsNamed (s0_ : SV) (a0 : (List Int)) {r : Bool} (hm : m_gleelaw2_ChordsNamed a0 = some r) :
    Ctr Tryd.prog 7 [s0_.v].toArray ([] : List Ent) [RdS R3 (SV.v s0_) a0, PowT] (X := Unit) (fun _ => .bool r) (fun _ => []) := by
  unfold m_gleelaw2_ChordsNamed at hm
  refine ctr_mk (vs := [(0, s0_.v)]) Tryd.func7 rfl Tryd.ntmps7 rfl ⟨rfl, trivial⟩ (fun w0 A => ?_)
  refine cj_seq ?_
  refine cj_reg ?_
  refine lp rfl (p_as rfl) ?_
  refine lj_seq ?_
  refine cj_seq ?_
  refine cj_reg ?_
  refine lp rfl (p_mv rfl) ?_
  refine lp rfl (p_bld [s0_.v, .int .i64 0] rfl (fun _ => by kernel_rfl)) ?_
  refine r_bx (cs := [s0_.v, .int .i64 0]) rfl rfl rfl (fun b1 => ?_)
  refine lp rfl (p_as rfl) ?_
  refine lj_seq ?_
  refine cj_seq ?_
  refine cj_reg ?_
  refine lp rfl (p_mv rfl) ?_
  obtain ⟨y2, hy2, hm⟩ := bindS hm
  refine r_call [0] cf9 rfl rfl (ok_gleemake_Stream_AChord b1 s0_ a0 0 hy2) rfl rfl (.cons (.ro 0 rfl) .nil) (fun _ => rfl) rfl (fun _ => ?_)
  refine lp rfl (p_mv rfl) ?_
  obtain ⟨y3, hy3, hm⟩ := bindS hm
  refine r_call [0] cf54 rfl rfl (ok_gleemake_Stream_ChordText b1 s0_ a0 y2.2 hy3) rfl rfl (.cons (.ro 0 rfl) (.cons (.ro 1 rfl) .nil)) (fun _ => rfl) rfl (fun _ => ?_)
  refine r_al ty28 rfl (fun b4 => ?_)
  refine r_sb (vs := [.int .i64 y2.1.Root, .int .i64 y2.1.Kind, .int .i64 y2.1.Turn]) (j := 0) ty28 rfl rfl rfl rfl rfl rfl rfl ?_
  refine lp rfl (p_as rfl) ?_
  refine lj_seq ?_
  refine cj_seq ?_
  refine cj_reg ?_
  refine lp rfl (p_lbw ty28 rfl (j := 0) rfl rfl) ?_
  obtain ⟨y5, hy5, hm⟩ := bindS hm
  refine r_call [] cf55 rfl rfl (ok_chord_Tones y2.1 hy5) rfl rfl .nil (fun _ => rfl) rfl (fun s6 => ?_)
  refine lp rfl (p_mv rfl) ?_
  refine lp rfl (p_ext rfl rfl) ?_
  refine lp rfl (p_ext rfl rfl) ?_
  refine lp rfl (p_as rfl) ?_
  refine lp rfl (p_as rfl) ?_
  refine lj_seq ?_
  refine cj_seq ?_
  refine cj_reg ?_
  refine lp rfl (p_lbw ty28 rfl (j := 1) rfl rfl) ?_
  obtain ⟨y7, hy7, hm⟩ := bindS hm
  refine r_call [] cf56 rfl rfl (ok_chord_Name y2.1 hy7) rfl rfl (.cons (.ro 4 rfl) .nil) (fun _ => rfl) rfl (fun _ => ?_)
  refine lp rfl (p_mv rfl) ?_
  refine lp rfl (p_ext rfl rfl) ?_
  refine lp rfl (p_ext rfl rfl) ?_
  refine lp rfl (p_as rfl) ?_
  refine lp rfl (p_as rfl) ?_
  refine lj_seq ?_
  refine cj_seq ?_
  refine cj_reg ?_
  refine lp rfl (p_mv rfl) ?_
  obtain ⟨y8, hy8, hm⟩ := bindS hm
  refine r_call [] cf57 rfl rfl (ok_chord_Parse y3.1 hy8) rfl rfl .nil (fun _ => rfl) rfl (fun _ => ?_)
  refine lp rfl (p_mv rfl) ?_
  refine lp rfl (p_ext rfl rfl) ?_
  refine lp rfl (p_ext rfl rfl) ?_
  refine r_al ty28 rfl (fun b9 => ?_)
  refine r_sb (vs := [.int .i64 y8.1.Root, .int .i64 y8.1.Kind, .int .i64 y8.1.Turn]) (j := 0) ty28 rfl rfl rfl rfl rfl rfl rfl ?_
  refine lp rfl (p_as rfl) ?_
  refine lj_seq ?_
  refine cj_seq ?_
  refine cj_reg ?_
  refine lp rfl (p_lbw ty28 rfl (j := 2) rfl rfl) ?_
  obtain ⟨y10, hy10, hm⟩ := bindS hm
  refine r_call [] cf19 rfl rfl (ok_gleeref2_ChordFault y2.1 hy10) rfl rfl .nil (fun _ => rfl) rfl (fun _ => ?_)
  refine lp rfl (p_as rfl) ?_
  refine lj_seq ?_
  refine cj_seq ?_
  refine cj_reg ?_
  refine lp rfl (p_as rfl) ?_
  refine lj_seq ?_
  refine cj_seq ?_
  refine cj_reg ?_
  refine lp rfl (p_as rfl) ?_
  refine lj_seq ?_
  refine cj_seq ?_
  refine cj_seq ?_
  refine cj_reg ?_
  refine lp rfl (p_mv rfl) ?_
  refine lp rfl (p_eql rfl rfl) ?_
  refine lj_seq ?_
  obtain ⟨k14, hk14, hm⟩ := bindS hm
  have hRk14 : ∀ t, k14 = .inr t → some t = some r := fun t e => by rw [e] at hm; exact hm
  refine cj_joinK (σ := (ByteArray × (List Int))) (γ := SV) (fun u11 => k14 = .inl u11) (fun u11 g12 => [(2, .bool false), (4, .pointer (some ⟨b4, 0, none⟩)), (5, .string y3.1), (6, s6.v), (7, .int .i64 y5.2), (8, .string y7.1), (9, .int .i64 y7.2), (10, .pointer (some ⟨b9, 0, none⟩)), (11, .int .i64 y8.2), (12, .int .i64 y10), (13, g12.v), (14, .string u11.1)]) (fun u11 g12 => Sat w0 (keys ([] : List Ent)) A [.box b9 28 [.int .i64 y8.1.Root, .int .i64 y8.1.Kind, .int .i64 y8.1.Turn], .row R3 (SV.v s6) y5.1, .box b4 28 [.int .i64 y2.1.Root, .int .i64 y2.1.Kind, .int .i64 y2.1.Turn], .ro PowT, .ro (RdS R3 (SV.v g12) u11.2)]) (fun u11 g12 hq => ?_) (fun J cnk14 => ?_)
  · have hm := Sum.fin_l hq hm
    refine cj_seq ?_
    refine cj_reg ?_
    refine lp rfl (p_mv rfl) ?_
    obtain ⟨y21, hy21, hm⟩ := bindS hm
    refine r_call [] cf60 rfl rfl (ok_gleeref2_ParsedOf y3.1 hy21) rfl rfl (.cons (.ro 3 rfl) .nil) (fun _ => rfl) rfl (fun _ => ?_)
    refine lp rfl (p_mv rfl) ?_
    refine lp rfl (p_ext rfl rfl) ?_
    refine lp rfl (p_ext rfl rfl) ?_
    refine r_al ty28 rfl (fun b22 => ?_)
    refine r_sb (vs := [.int .i64 y21.1.Root, .int .i64 y21.1.Kind, .int .i64 y21.1.Turn]) (j := 0) ty28 rfl rfl rfl rfl rfl rfl rfl ?_
    refine lp rfl (p_as rfl) ?_
    refine lj_seq ?_
    refine cj_seq ?_
    refine cj_reg ?_
    refine lp rfl (p_lbw ty28 rfl (j := 3) rfl rfl) ?_
    obtain ⟨y23, hy23, hm⟩ := bindS hm
    refine r_call [] cf61 rfl rfl (ok_chord_CheckChord y2.1 hy23) rfl rfl .nil (fun _ => rfl) rfl (fun _ => ?_)
    refine lp rfl (p_mv rfl) ?_
    refine lp rfl (p_eql rfl rfl) ?_
    refine lp rfl (p_mv rfl) ?_
    refine lcase (i := 56) (y23 == y10) rfl (fun hb => ?_) (fun hb => ?_)
    · have hm := ifB_t hb hm
      refine lg true rfl rfl rfl ?_
      refine lp rfl (p_mv rfl) ?_
      refine lg true rfl rfl rfl ?_
      refine lp rfl (p_mv rfl) ?_
      refine lg true rfl rfl rfl ?_
      refine lp rfl (p_eql rfl rfl) ?_
      refine lp rfl (p_pkt rfl rfl) ?_
      refine lp rfl (p_mv rfl) ?_
      refine lcase (i := 61) (y5.2 == y10) rfl (fun hb => ?_) (fun hb => ?_)
      · have hm := ifB_t hb hm
        refine lg true rfl rfl rfl ?_
        refine lp rfl (p_mv rfl) ?_
        refine lg true rfl rfl rfl ?_
        refine lp rfl (p_mv rfl) ?_
        refine lg true rfl rfl rfl ?_
        obtain ⟨y24, hy24, hm⟩ := bindS hm
        refine r_call [] cf27 rfl rfl (ok_slices_Equal_int_int s6 y5.1 g12 u11.2 hy24) rfl rfl (.cons (.row 2 rfl) (.cons (.ro 5 rfl) .nil)) (fun _ => rfl) rfl (fun _ => ?_)
        refine lp rfl (p_pkt rfl rfl) ?_
        refine lp rfl (p_mv rfl) ?_
        refine lcase (i := 66) y24 rfl (fun hb => ?_) (fun hb => ?_)
        · have hm := ifB_t hb hm
          refine lg true rfl rfl rfl ?_
          refine lp rfl (p_mv rfl) ?_
          refine lg true rfl rfl rfl ?_
          refine lp rfl (p_mv rfl) ?_
          refine lg true rfl rfl rfl ?_
          refine lp rfl (p_eql rfl rfl) ?_
          refine lp rfl (p_pkt rfl rfl) ?_
          refine lp rfl (p_mv rfl) ?_
          refine lcase (i := 71) (y7.2 == y10) rfl (fun hb => ?_) (fun hb => ?_)
          · have hm := ifB_t hb hm
            refine lg true rfl rfl rfl ?_
            refine lp rfl (p_mv rfl) ?_
            refine lg true rfl rfl rfl ?_
            refine lp rfl (p_mv rfl) ?_
            refine lg true rfl rfl rfl ?_
            refine lp rfl (p_eqs rfl rfl) ?_
            refine lp rfl (p_pkt rfl rfl) ?_
            refine lp rfl (p_mv rfl) ?_
            refine lcase (i := 76) (y7.1.toList == u11.1.toList) rfl (fun hb => ?_) (fun hb => ?_)
            · have hm := ifB_t hb hm
              refine lg true rfl rfl rfl ?_
              refine lp rfl (p_mv rfl) ?_
              refine lg true rfl rfl rfl ?_
              refine lp rfl (p_mv rfl) ?_
              refine lg true rfl rfl rfl ?_
              refine lp rfl (p_eql rfl rfl) ?_
              refine lp rfl (p_pkt rfl rfl) ?_
              refine lp rfl (p_mv rfl) ?_
              refine lcase (i := 81) (y8.2 == y21.2) rfl (fun hb => ?_) (fun hb => ?_)
              · have hm := ifB_t hb hm
                refine lg true rfl rfl rfl ?_
                refine lp rfl (p_lbw ty28 rfl (j := 1) rfl rfl) ?_
                refine lg true rfl rfl rfl ?_
                refine lp rfl (p_lbw ty28 rfl (j := 0) rfl rfl) ?_
                refine lg true rfl rfl rfl ?_
                refine lp rfl (p_eqst (by kernel_rfl) rfl rfl (eqst28 y8.1 y21.1)) ?_
                refine lp rfl (p_pkt rfl rfl) ?_
                refine lp rfl (p_mv rfl) ?_
                refine lcase (i := 86) (decide (y8.1 = y21.1)) rfl (fun hb => ?_) (fun hb => ?_)
                · have hm := ifB_t hb hm
                  refine lg true rfl rfl rfl ?_
                  obtain ⟨y25, hy25, hm⟩ := bindS hm
                  refine r_call [] cf28 rfl rfl (ok_gleelaw2_sounded  hy25) rfl rfl (.cons (.ro 4 rfl) .nil) (fun _ => rfl) rfl (fun _ => ?_)
                  refine lp rfl (p_pkt rfl rfl) ?_
                  refine lp rfl (p_as rfl) ?_
                  refine lj_seq ?_
                  obtain rfl := Option.some.inj hm
                  exact cj_rt () [] Tryd.results7 (.tmp rfl .nil) rfl rfl
                · have hm := ifB_f hb hm
                  refine ls true rfl rfl rfl rfl ?_
                  refine lp rfl (p_pkf rfl rfl) ?_
                  refine lp rfl (p_as rfl) ?_
                  refine lj_seq ?_
                  obtain rfl := Option.some.inj hm
                  exact cj_rt () [] Tryd.results7 (.tmp rfl .nil) rfl rfl
              · have hm := ifB_f hb hm
                refine ls true rfl rfl rfl rfl ?_
                refine ls true rfl rfl rfl rfl ?_
                refine ls true rfl rfl rfl rfl ?_
                refine lp rfl (p_pkf rfl rfl) ?_
                refine lp rfl (p_mv rfl) ?_
                refine ls true rfl rfl rfl rfl ?_
                refine lp rfl (p_pkf rfl rfl) ?_
                refine lp rfl (p_as rfl) ?_
                refine lj_seq ?_
                obtain rfl := Option.some.inj hm
                exact cj_rt () [] Tryd.results7 (.tmp rfl .nil) rfl rfl
            · have hm := ifB_f hb hm
              refine ls true rfl rfl rfl rfl ?_
              refine ls true rfl rfl rfl rfl ?_
              refine ls true rfl rfl rfl rfl ?_
              refine lp rfl (p_pkf rfl rfl) ?_
              refine lp rfl (p_mv rfl) ?_
              refine ls true rfl rfl rfl rfl ?_
              refine ls true rfl rfl rfl rfl ?_
              refine ls true rfl rfl rfl rfl ?_
              refine lp rfl (p_pkf rfl rfl) ?_
              refine lp rfl (p_mv rfl) ?_
              refine ls true rfl rfl rfl rfl ?_
              refine lp rfl (p_pkf rfl rfl) ?_
              refine lp rfl (p_as rfl) ?_
              refine lj_seq ?_
              obtain rfl := Option.some.inj hm
              exact cj_rt () [] Tryd.results7 (.tmp rfl .nil) rfl rfl
          · have hm := ifB_f hb hm
            refine ls true rfl rfl rfl rfl ?_
            refine ls true rfl rfl rfl rfl ?_
            refine ls true rfl rfl rfl rfl ?_
            refine lp rfl (p_pkf rfl rfl) ?_
            refine lp rfl (p_mv rfl) ?_
            refine ls true rfl rfl rfl rfl ?_
            refine ls true rfl rfl rfl rfl ?_
            refine ls true rfl rfl rfl rfl ?_
            refine lp rfl (p_pkf rfl rfl) ?_
            refine lp rfl (p_mv rfl) ?_
            refine ls true rfl rfl rfl rfl ?_
            refine ls true rfl rfl rfl rfl ?_
            refine ls true rfl rfl rfl rfl ?_
            refine lp rfl (p_pkf rfl rfl) ?_
            refine lp rfl (p_mv rfl) ?_
            refine ls true rfl rfl rfl rfl ?_
            refine lp rfl (p_pkf rfl rfl) ?_
            refine lp rfl (p_as rfl) ?_
            refine lj_seq ?_
            obtain rfl := Option.some.inj hm
            exact cj_rt () [] Tryd.results7 (.tmp rfl .nil) rfl rfl
        · have hm := ifB_f hb hm
          refine ls true rfl rfl rfl rfl ?_
          refine ls true rfl rfl rfl rfl ?_
          refine ls true rfl rfl rfl rfl ?_
          refine lp rfl (p_pkf rfl rfl) ?_
          refine lp rfl (p_mv rfl) ?_
          refine ls true rfl rfl rfl rfl ?_
          refine ls true rfl rfl rfl rfl ?_
          refine ls true rfl rfl rfl rfl ?_
          refine lp rfl (p_pkf rfl rfl) ?_
          refine lp rfl (p_mv rfl) ?_
          refine ls true rfl rfl rfl rfl ?_
          refine ls true rfl rfl rfl rfl ?_
          refine ls true rfl rfl rfl rfl ?_
          refine lp rfl (p_pkf rfl rfl) ?_
          refine lp rfl (p_mv rfl) ?_
          refine ls true rfl rfl rfl rfl ?_
          refine ls true rfl rfl rfl rfl ?_
          refine ls true rfl rfl rfl rfl ?_
          refine lp rfl (p_pkf rfl rfl) ?_
          refine lp rfl (p_mv rfl) ?_
          refine ls true rfl rfl rfl rfl ?_
          refine lp rfl (p_pkf rfl rfl) ?_
          refine lp rfl (p_as rfl) ?_
          refine lj_seq ?_
          obtain rfl := Option.some.inj hm
          exact cj_rt () [] Tryd.results7 (.tmp rfl .nil) rfl rfl
      · have hm := ifB_f hb hm
        refine ls true rfl rfl rfl rfl ?_
        refine ls true rfl rfl rfl rfl ?_
        refine ls true rfl rfl rfl rfl ?_
        refine lp rfl (p_pkf rfl rfl) ?_
        refine lp rfl (p_mv rfl) ?_
        refine ls true rfl rfl rfl rfl ?_
        refine ls true rfl rfl rfl rfl ?_
        refine ls true rfl rfl rfl rfl ?_
        refine lp rfl (p_pkf rfl rfl) ?_
        refine lp rfl (p_mv rfl) ?_
        refine ls true rfl rfl rfl rfl ?_
        refine ls true rfl rfl rfl rfl ?_
        refine ls true rfl rfl rfl rfl ?_
        refine lp rfl (p_pkf rfl rfl) ?_
        refine lp rfl (p_mv rfl) ?_
        refine ls true rfl rfl rfl rfl ?_
        refine ls true rfl rfl rfl rfl ?_
        refine ls true rfl rfl rfl rfl ?_
        refine lp rfl (p_pkf rfl rfl) ?_
        refine lp rfl (p_mv rfl) ?_
        refine ls true rfl rfl rfl rfl ?_
        refine ls true rfl rfl rfl rfl ?_
        refine ls true rfl rfl rfl rfl ?_
        refine lp rfl (p_pkf rfl rfl) ?_
        refine lp rfl (p_mv rfl) ?_
        refine ls true rfl rfl rfl rfl ?_
        refine lp rfl (p_pkf rfl rfl) ?_
        refine lp rfl (p_as rfl) ?_
        refine lj_seq ?_
        obtain rfl := Option.some.inj hm
        exact cj_rt () [] Tryd.results7 (.tmp rfl .nil) rfl rfl
    · have hm := ifB_f hb hm
      refine ls true rfl rfl rfl rfl ?_
      refine ls true rfl rfl rfl rfl ?_
      refine ls true rfl rfl rfl rfl ?_
      refine lp rfl (p_pkf rfl rfl) ?_
      refine lp rfl (p_mv rfl) ?_
      refine ls true rfl rfl rfl rfl ?_
      refine ls true rfl rfl rfl rfl ?_
      refine ls true rfl rfl rfl rfl ?_
      refine lp rfl (p_pkf rfl rfl) ?_
      refine lp rfl (p_mv rfl) ?_
      refine ls true rfl rfl rfl rfl ?_
      refine ls true rfl rfl rfl rfl ?_
      refine ls true rfl rfl rfl rfl ?_
      refine lp rfl (p_pkf rfl rfl) ?_
      refine lp rfl (p_mv rfl) ?_
      refine ls true rfl rfl rfl rfl ?_
      refine ls true rfl rfl rfl rfl ?_
      refine ls true rfl rfl rfl rfl ?_
      refine lp rfl (p_pkf rfl rfl) ?_
      refine lp rfl (p_mv rfl) ?_
      refine ls true rfl rfl rfl rfl ?_
      refine ls true rfl rfl rfl rfl ?_
      refine ls true rfl rfl rfl rfl ?_
      refine lp rfl (p_pkf rfl rfl) ?_
      refine lp rfl (p_mv rfl) ?_
      refine ls true rfl rfl rfl rfl ?_
      refine ls true rfl rfl rfl rfl ?_
      refine ls true rfl rfl rfl rfl ?_
      refine lp rfl (p_pkf rfl rfl) ?_
      refine lp rfl (p_mv rfl) ?_
      refine ls true rfl rfl rfl rfl ?_
      refine lp rfl (p_pkf rfl rfl) ?_
      refine lp rfl (p_as rfl) ?_
      refine lj_seq ?_
      obtain rfl := Option.some.inj hm
      exact cj_rt () [] Tryd.results7 (.tmp rfl .nil) rfl rfl
  · have hm := hk14
    refine cj_if (b := y10 == 0) rfl (fun hb => ?_) (fun hb => ?_)
    · have hm := ifB_t hb hm
      obtain ⟨y15, hy15, hm⟩ := bindS hm
      obtain ⟨y17, hy17, hm⟩ := bindS hm
      refine cj_anyT [0, 2, 4, 5] [] (Sat w0 (keys ([] : List Ent)) A [.box b9 28 [.int .i64 y8.1.Root, .int .i64 y8.1.Kind, .int .i64 y8.1.Turn], .row R3 (SV.v s6) y5.1, .box b4 28 [.int .i64 y2.1.Root, .int .i64 y2.1.Kind, .int .i64 y2.1.Turn], .box b1 25 [s0_.v, .int .i64 y3.2], .ro (RdS R3 (SV.v s0_) a0), .ro PowT]) (Sat w0 (keys ([] : List Ent)) A [.box b9 28 [.int .i64 y8.1.Root, .int .i64 y8.1.Kind, .int .i64 y8.1.Turn], .row R3 (SV.v s6) y5.1, .box b4 28 [.int .i64 y2.1.Root, .int .i64 y2.1.Kind, .int .i64 y2.1.Turn], .box b1 25 [s0_.v, .int .i64 y3.2], .ro (RdS R3 (SV.v s0_) a0), .ro PowT]) (by kernel_rfl) ?_
      refine at_take2 0 rfl (by kernel_rfl) (by kernel_rfl) (by kernel_rfl) (fun _ h => h.picks [0, 0, 0, 0, 0, 0] rfl) rfl rfl (p_lbw ty28 rfl (j := 2) rfl rfl) (fun _ h => h.picks [0, 0, 0, 0, 0, 0] rfl) ?_
      refine at_take2 2 rfl (by kernel_rfl) (by kernel_rfl) (by kernel_rfl) (fun _ h => h.picks [0, 0, 0, 0, 0, 0] rfl) rfl rfl (p_lbw ty28 rfl (j := 2) rfl rfl) (fun _ h => h.picks [0, 0, 0, 0, 0, 0] rfl) ?_
      refine at_each (rs := [1]) (by kernel_rfl) (by decide) ?_
      refine (.cons rfl (fun I cnI => ?_) .nil)
      · refine r_callN [] cf58 rfl rfl (ok_gleeref2_TonesOf y2.1 hy15) rfl rfl .nil rfl (fun s18 => ?_)
        refine lj_nil ?_
        refine cnI _ _ (sof1 rfl rfl (fun _ h => h.picks [1, 1, 1, 1, 1, 1] rfl)) ?_
        refine at_each (rs := [3]) (by kernel_rfl) (by decide) ?_
        refine (.cons rfl (fun I cnI => ?_) .nil)
        · refine r_call [] cf59 rfl rfl (ok_gleeref2_NameOf y2.1 hy17) rfl rfl (.cons (.ro 6 rfl) .nil) (fun _ => rfl) rfl (fun _ => ?_)
          refine lj_nil ?_
          refine cnI _ _ (sof1 rfl rfl (fun _ h => h.picks [1, 1, 1, 1, 1, 1] rfl)) ?_
          refine at_take2 4 rfl (by kernel_rfl) (by kernel_rfl) (by kernel_rfl) (fun _ h => h.picks [0, 0, 0, 0, 0, 0] rfl) rfl rfl (p_as rfl) (fun _ h => h.picks [1, 1, 1, 1, 1, 1] rfl) ?_
          refine at_take2 5 rfl (by kernel_rfl) (by kernel_rfl) (by kernel_rfl) (fun _ h => h.picks [0, 0, 0, 0, 0, 0] rfl) rfl rfl (p_as rfl) (fun _ h => h.picks [1, 1, 1, 1, 1, 1] rfl) ?_
          refine at_done (by kernel_rfl) ?_
          exact cnk14 _ _ (y17, y15) s18 (Option.some.inj hm).symm ⟨rfl, rfl, rfl, rfl, rfl, rfl, rfl, rfl, rfl, rfl, rfl, rfl, trivial⟩ (fun _ h => h.picks [1, 1, 1, 3, 0] rfl)
    · have hm := ifB_f hb hm
      refine cj_skip ?_
      refine nj_fact (F := RdS R3 (SV.v nilS) []) (.nilS R3) ?_
      exact cnk14 _ _ (ByteArray.empty, []) nilS (Option.some.inj hm).symm ⟨rfl, rfl, rfl, rfl, rfl, rfl, rfl, rfl, rfl, rfl, rfl, rfl, trivial⟩ (fun _ h => h.picks [1, 1, 1, 3, 0] rfl)
end Go.Proofs.YtndkkkgkmeijlaaDoor
