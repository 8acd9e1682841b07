/- The walks. Written by program. -/
import Derived.Test.YtgjbeigeejhfkaaDoorD
import Derived.Test.YtgjbeigeejhfkaaDoorX
namespace Go.Proofs.YtgjbeigeejhfkaaDoor
open Go Go.J Go.G
set_option maxRecDepth 100000
set_option linter.unusedVariables false
theorem ok_gleemake_Below (a0 : Int) (a1 : Int) {r : Int} (hm : m_gleemake_Below a0 a1 = some r) :
    Ctr Tryd.prog 49 [.int .i64 a0, .int .i64 a1].toArray ([] : List Ent) [] (X := Unit) (fun _ => .int .i64 r) (fun _ => []) := by
  unfold m_gleemake_Below at hm
  refine ctr_mk (vs := [(0, .int .i64 a0), (1, .int .i64 a1)]) Tryd.func49 rfl Tryd.ntmps49 rfl ⟨rfl, rfl, trivial⟩ (fun w0 A => ?_)
  refine cj_seq ?_
  refine cj_reg ?_
  refine lp rfl (p_as rfl) ?_
  refine lj_seq ?_
  refine cj_seq ?_
  refine cj_seq ?_
  refine cj_reg ?_
  refine lp rfl (p_mv rfl) ?_
  refine lp rfl (p_lss rfl rfl) ?_
  refine lj_seq ?_
  refine cj_if (b := decide (a1 < 1)) rfl (fun hb => ?_) (fun hb => ?_)
  · have hm := ifB_t hb hm
    refine cj_seq ?_
    refine cj_reg ?_
    refine lp rfl (p_as rfl) ?_
    refine lj_seq ?_
    obtain rfl := Option.some.inj hm
    exact cj_rt () [] Tryd.results49 (.tmp rfl .nil) rfl rfl
  · have hm := ifB_f hb hm
    refine cj_skip ?_
    refine nj_seq ?_
    refine cj_seq ?_
    refine cj_reg ?_
    refine lp rfl (p_mv rfl) ?_
    refine lp rfl (p_mv rfl) ?_
    obtain ⟨z1, hz1, hm⟩ := bindS hm
    refine lp rfl (p_remM hz1 rfl rfl) ?_
    refine lp rfl (p_as rfl) ?_
    refine lj_seq ?_
    refine cj_seq ?_
    refine cj_seq ?_
    refine cj_reg ?_
    refine lp rfl (p_mv rfl) ?_
    refine lp rfl (p_lss rfl rfl) ?_
    refine lj_seq ?_
    refine cj_if (b := decide (z1 < 0)) rfl (fun hb => ?_) (fun hb => ?_)
    · have hm := ifB_t hb hm
      refine cj_reg ?_
      refine lp rfl (p_mv rfl) ?_
      refine lp rfl (p_mv rfl) ?_
      refine lp rfl (p_add rfl rfl) ?_
      refine lp rfl (p_as rfl) ?_
      refine lj_seq ?_
      refine cj_seq ?_
      refine cj_reg ?_
      refine lp rfl (p_mv rfl) ?_
      refine lp rfl (p_as rfl) ?_
      refine lj_seq ?_
      obtain rfl := Option.some.inj hm
      exact cj_rt () [] Tryd.results49 (.tmp rfl .nil) rfl rfl
    · have hm := ifB_f hb hm
      refine cj_skip ?_
      refine nj_seq ?_
      refine cj_seq ?_
      refine cj_reg ?_
      refine lp rfl (p_mv rfl) ?_
      refine lp rfl (p_as rfl) ?_
      refine lj_seq ?_
      obtain rfl := Option.some.inj hm
      exact cj_rt () [] Tryd.results49 (.tmp rfl .nil) rfl rfl
theorem ok_gleemake_Stream_Next (b0_ : Nat) (s0_0_ : SV) (a0_0 : (List Int)) (a0_1 : Int) (a1 : Int) {r : Int × Int} (hm : m_gleemake_Stream_Next a0_0 a0_1 a1 = some r) :
    Ctr Tryd.prog 22 [.pointer (some ⟨b0_, 0, none⟩), .int .i64 a1].toArray [.box b0_ 25 [s0_0_.v, .int .i64 a0_1]] [RdS R3 (SV.v s0_0_) a0_0] (X := Unit) (fun _ => .int .i64 r.1) (fun _ => [.box b0_ 25 [s0_0_.v, .int .i64 r.2]]) := by
  unfold m_gleemake_Stream_Next at hm
  refine ctr_mk (vs := [(0, .pointer (some ⟨b0_, 0, none⟩)), (1, .int .i64 a1)]) Tryd.func22 rfl Tryd.ntmps22 rfl ⟨rfl, rfl, trivial⟩ (fun w0 A => ?_)
  refine cj_seq ?_
  refine cj_reg ?_
  refine lp rfl (p_as rfl) ?_
  refine lj_seq ?_
  refine cj_seq ?_
  refine cj_reg ?_
  refine lp rfl (p_mv rfl) ?_
  refine lp rfl (p_nc rfl) ?_
  refine lp rfl (p_fab fl25_1 rfl) ?_
  refine lp rfl (p_lbs ty3 rfl (j := 0) rfl rfl) ?_
  refine lp rfl (p_add rfl rfl) ?_
  refine lp rfl (p_nc rfl) ?_
  refine lp rfl (p_fab fl25_1 rfl) ?_
  refine r_sb (vs := [.int .i64 (w64 (a0_1 + 1))]) (j := 0) ty3 rfl rfl rfl rfl rfl rfl rfl ?_
  refine lj_seq ?_
  refine cj_seq ?_
  refine cj_seq ?_
  refine cj_reg ?_
  refine lp rfl (p_mv rfl) ?_
  refine lp rfl (p_nc rfl) ?_
  refine lp rfl (p_fab fl25_0 rfl) ?_
  refine lp rfl (p_lbs ty22 rfl (j := 0) rfl rfl) ?_
  refine lp rfl (p_len Tryd.underlying22 rfl (.ro 1 rfl)) ?_
  refine lp rfl (p_eql rfl rfl) ?_
  refine lj_seq ?_
  refine cj_if (b := (a0_0.length : Int) == 0) rfl (fun hb => ?_) (fun hb => ?_)
  · have hm := ifB_t hb hm
    refine cj_seq ?_
    refine cj_reg ?_
    refine lp rfl (p_mv rfl) ?_
    refine lp rfl (p_nc rfl) ?_
    refine lp rfl (p_fab fl25_1 rfl) ?_
    refine lp rfl (p_lbs ty3 rfl (j := 0) rfl rfl) ?_
    refine lp rfl (p_mul rfl rfl) ?_
    refine lp rfl (p_mv rfl) ?_
    obtain ⟨y1, hy1, hm⟩ := bindS hm
    refine r_call [] cf49 rfl rfl (ok_gleemake_Below (w64 ((w64 (a0_1 + 1)) * 7919)) a1 hy1) rfl rfl .nil (fun _ => rfl) rfl (fun _ => ?_)
    refine lp rfl (p_as rfl) ?_
    refine lj_seq ?_
    obtain rfl := Option.some.inj hm
    exact cj_rt () [0] Tryd.results22 (.tmp rfl .nil) rfl rfl
  · have hm := ifB_f hb hm
    refine cj_skip ?_
    refine nj_seq ?_
    refine cj_seq ?_
    refine cj_quiet (by kernel_rfl) (by kernel_rfl) ?_
    refine q_p rfl (p_mv rfl) ?_
    refine q_p rfl (p_nc rfl) ?_
    refine q_p rfl (p_fab fl25_1 rfl) ?_
    refine q_p rfl (p_lbs ty3 rfl (j := 0) rfl rfl) ?_
    refine q_p rfl (p_sub rfl rfl) ?_
    refine q_p rfl (p_mv rfl) ?_
    refine q_p rfl (p_nc rfl) ?_
    refine q_p rfl (p_fab fl25_0 rfl) ?_
    refine q_p rfl (p_lbs ty22 rfl (j := 0) rfl rfl) ?_
    refine q_p rfl (p_len Tryd.underlying22 rfl (.ro 1 rfl)) ?_
    obtain ⟨z2, hz2, hm⟩ := bindS hm
    refine q_p rfl (p_remM hz2 rfl rfl) ?_
    refine q_p rfl (p_as rfl) ?_
    refine q_nil ?_
    refine nj_seq ?_
    refine cj_seq ?_
    refine cj_quiet (by kernel_rfl) (by kernel_rfl) ?_
    refine q_p rfl (p_mv rfl) ?_
    refine q_p rfl (p_nc rfl) ?_
    refine q_p rfl (p_fab fl25_1 rfl) ?_
    refine q_p rfl (p_lbs ty3 rfl (j := 0) rfl rfl) ?_
    refine q_p rfl (p_sub rfl rfl) ?_
    refine q_p rfl (p_mv rfl) ?_
    refine q_p rfl (p_nc rfl) ?_
    refine q_p rfl (p_fab fl25_0 rfl) ?_
    refine q_p rfl (p_lbs ty22 rfl (j := 0) rfl rfl) ?_
    refine q_p rfl (p_len Tryd.underlying22 rfl (.ro 1 rfl)) ?_
    obtain ⟨z3, hz3, hm⟩ := bindS hm
    refine q_p rfl (p_quoM hz3 rfl rfl) ?_
    refine q_p rfl (p_as rfl) ?_
    refine q_nil ?_
    refine nj_seq ?_
    refine cj_seq ?_
    refine cj_reg ?_
    refine lp rfl (p_mv rfl) ?_
    refine lp rfl (p_nc rfl) ?_
    refine lp rfl (p_fab fl25_0 rfl) ?_
    refine lp rfl (p_lbs ty22 rfl (j := 0) rfl rfl) ?_
    refine lp rfl (p_mv rfl) ?_
    obtain ⟨e4, he4, hm⟩ := bindS hm
    refine lp rfl (p_idx Tryd.underlying22 ty3 rfl rfl (.ro 1 rfl) he4) ?_
    refine lp rfl (p_lde (o := 0) ty3 rfl rfl (.ro 1 rfl) (getI_spec he4).2 rfl) ?_
    obtain ⟨y5, hy5, hm⟩ := bindS hm
    refine r_call [] cf49 rfl rfl (ok_gleemake_Below e4 1073741824 hy5) rfl rfl .nil (fun _ => rfl) rfl (fun _ => ?_)
    refine lp rfl (p_mv rfl) ?_
    refine lp rfl (p_mv rfl) ?_
    refine lp rfl (p_add rfl rfl) ?_
    refine lp rfl (p_mul rfl rfl) ?_
    refine lp rfl (p_add rfl rfl) ?_
    refine lp rfl (p_mv rfl) ?_
    obtain ⟨y6, hy6, hm⟩ := bindS hm
    refine r_call [] cf49 rfl rfl (ok_gleemake_Below (w64 (y5 + (w64 (z3 * (w64 (7919 + z2)))))) a1 hy6) rfl rfl .nil (fun _ => rfl) rfl (fun _ => ?_)
    refine lp rfl (p_as rfl) ?_
    refine lj_seq ?_
    obtain rfl := Option.some.inj hm
    exact cj_rt () [0] Tryd.results22 (.tmp rfl .nil) rfl rfl
theorem ok_gleemake_Stream_Pick (b0_ : Nat) (s0_0_ : SV) (a0_0 : (List Int)) (a0_1 : Int) (s1_ : SV) (a1 : (List Int)) {r : Int × Int} (hm : m_gleemake_Stream_Pick a0_0 a0_1 a1 = some r) :
    Ctr Tryd.prog 48 [.pointer (some ⟨b0_, 0, none⟩), s1_.v].toArray [.box b0_ 25 [s0_0_.v, .int .i64 a0_1]] [RdS R3 (SV.v s0_0_) a0_0, RdS R3 (SV.v s1_) a1] (X := Unit) (fun _ => .int .i64 r.1) (fun _ => [.box b0_ 25 [s0_0_.v, .int .i64 r.2]]) := by
  unfold m_gleemake_Stream_Pick at hm
  refine ctr_mk (vs := [(0, .pointer (some ⟨b0_, 0, none⟩)), (1, s1_.v)]) Tryd.func48 rfl Tryd.ntmps48 rfl ⟨rfl, rfl, trivial⟩ (fun w0 A => ?_)
  refine cj_seq ?_
  refine cj_reg ?_
  refine lp rfl (p_as rfl) ?_
  refine lj_seq ?_
  refine cj_seq ?_
  refine cj_reg ?_
  refine lp rfl (p_mv rfl) ?_
  refine lp rfl (p_mv rfl) ?_
  refine lp rfl (p_mv rfl) ?_
  refine lp rfl (p_len Tryd.underlying22 rfl (.ro 2 rfl)) ?_
  obtain ⟨y1, hy1, hm⟩ := bindS hm
  refine r_call [0] cf22 rfl rfl (ok_gleemake_Stream_Next b0_ s0_0_ a0_0 a0_1 (a1.length : Int) hy1) rfl rfl (.cons (.ro 0 rfl) .nil) (fun _ => rfl) rfl (fun _ => ?_)
  obtain ⟨e2, he2, hm⟩ := bindS hm
  refine lp rfl (p_idx Tryd.underlying22 ty3 rfl rfl (.ro 2 rfl) he2) ?_
  refine lp rfl (p_lde (o := 0) ty3 rfl rfl (.ro 2 rfl) (getI_spec he2).2 rfl) ?_
  refine lp rfl (p_as rfl) ?_
  refine lj_seq ?_
  obtain rfl := Option.some.inj hm
  exact cj_rt () [0] Tryd.results48 (.tmp rfl .nil) rfl rfl
theorem ok_gleemake_Stream_Flip (b0_ : Nat) (s0_0_ : SV) (a0_0 : (List Int)) (a0_1 : Int) (a1 : Int) {r : Bool × Int} (hm : m_gleemake_Stream_Flip a0_0 a0_1 a1 = some r) :
    Ctr Tryd.prog 14 [.pointer (some ⟨b0_, 0, none⟩), .int .i64 a1].toArray [.box b0_ 25 [s0_0_.v, .int .i64 a0_1]] [RdS R3 (SV.v s0_0_) a0_0] (X := Unit) (fun _ => .bool r.1) (fun _ => [.box b0_ 25 [s0_0_.v, .int .i64 r.2]]) := by
  unfold m_gleemake_Stream_Flip at hm
  refine ctr_mk (vs := [(0, .pointer (some ⟨b0_, 0, none⟩)), (1, .int .i64 a1)]) Tryd.func14 rfl Tryd.ntmps14 rfl ⟨rfl, rfl, trivial⟩ (fun w0 A => ?_)
  refine cj_seq ?_
  refine cj_reg ?_
  refine lp rfl (p_as rfl) ?_
  refine lj_seq ?_
  refine cj_seq ?_
  refine cj_reg ?_
  refine lp rfl (p_mv rfl) ?_
  refine lp rfl (p_mv rfl) ?_
  obtain ⟨y1, hy1, hm⟩ := bindS hm
  refine r_call [0] cf22 rfl rfl (ok_gleemake_Stream_Next b0_ s0_0_ a0_0 a0_1 a1 hy1) rfl rfl (.cons (.ro 0 rfl) .nil) (fun _ => rfl) rfl (fun _ => ?_)
  refine lp rfl (p_eql rfl rfl) ?_
  refine lp rfl (p_as rfl) ?_
  refine lj_seq ?_
  obtain rfl := Option.some.inj hm
  exact cj_rt () [0] Tryd.results14 (.tmp rfl .nil) rfl rfl
theorem ok_gleemake_Stream_Some (b0_ : Nat) (s0_0_ : SV) (a0_0 : (List Int)) (a0_1 : Int) (s1_ : SV) (a1 : (List ByteArray)) {r : ByteArray × Int} (hm : m_gleemake_Stream_Some a0_0 a0_1 a1 = some r) :
    Ctr Tryd.prog 15 [.pointer (some ⟨b0_, 0, none⟩), s1_.v].toArray [.box b0_ 25 [s0_0_.v, .int .i64 a0_1]] [RdS R3 (SV.v s0_0_) a0_0, RdS R9 (SV.v s1_) a1] (X := Unit) (fun _ => .string r.1) (fun _ => [.box b0_ 25 [s0_0_.v, .int .i64 r.2]]) := by
  unfold m_gleemake_Stream_Some at hm
  refine ctr_mk (vs := [(0, .pointer (some ⟨b0_, 0, none⟩)), (1, s1_.v)]) Tryd.func15 rfl Tryd.ntmps15 rfl ⟨rfl, rfl, trivial⟩ (fun w0 A => ?_)
  refine cj_seq ?_
  refine cj_reg ?_
  refine lp rfl (p_as rfl) ?_
  refine lj_seq ?_
  refine cj_seq ?_
  refine cj_reg ?_
  refine lp rfl (p_mv rfl) ?_
  refine lp rfl (p_mv rfl) ?_
  refine lp rfl (p_mv rfl) ?_
  refine lp rfl (p_len Tryd.underlying30 rfl (.ro 2 rfl)) ?_
  obtain ⟨y1, hy1, hm⟩ := bindS hm
  refine r_call [0] cf22 rfl rfl (ok_gleemake_Stream_Next b0_ s0_0_ a0_0 a0_1 (a1.length : Int) hy1) rfl rfl (.cons (.ro 0 rfl) .nil) (fun _ => rfl) rfl (fun _ => ?_)
  obtain ⟨e2, he2, hm⟩ := bindS hm
  refine lp rfl (p_idx Tryd.underlying30 ty9 rfl rfl (.ro 2 rfl) he2) ?_
  refine lp rfl (p_lde (o := 0) ty9 rfl rfl (.ro 2 rfl) (getI_spec he2).2 rfl) ?_
  refine lp rfl (p_as rfl) ?_
  refine lj_seq ?_
  obtain rfl := Option.some.inj hm
  exact cj_rt () [0] Tryd.results15 (.tmp rfl .nil) rfl rfl
theorem ok_gleemake_Stream_RightProgram (b0_ : Nat) (s0_0_ : SV) (a0_0 : (List Int)) (a0_1 : Int) (a1 : Int) {r : TProgram × Int} (hm : m_gleemake_Stream_RightProgram a0_0 a0_1 a1 = some r) :
    Ctr Tryd.prog 21 [.pointer (some ⟨b0_, 0, none⟩), .int .i64 a1].toArray [.box b0_ 25 [s0_0_.v, .int .i64 a0_1]] [RdS R3 (SV.v s0_0_) a0_0] (X := (SV × List (TItem × SV))) (fun s => .agg [s.1.v, .int .i64 r.1.Change, .int .i64 r.1.Clap, .int .i64 r.1.Break, .int .i64 r.1.Half].toArray) (fun s => [.row N46.R (SV.v s.1) s.2, .ro (Lk N46 r.1.Items s.2), .box b0_ 25 [s0_0_.v, .int .i64 r.2]]) := by
  unfold m_gleemake_Stream_RightProgram at hm
  refine ctr_mk (vs := [(0, .pointer (some ⟨b0_, 0, none⟩)), (1, .int .i64 a1)]) Tryd.func21 rfl Tryd.ntmps21 rfl ⟨rfl, rfl, trivial⟩ (fun w0 A => ?_)
  refine cj_seq ?_
  refine cj_reg ?_
  refine r_al ty28 rfl (fun b1 => ?_)
  refine lj_seq ?_
  refine cj_seq ?_
  refine cj_reg ?_
  refine lp rfl (p_mv rfl) ?_
  refine r_bs R3 [0, 30, 50] rfl rfl rfl (fun _ => by kernel_rfl) rfl (fun s2 => ?_)
  obtain ⟨y3, hy3, hm⟩ := bindS hm
  refine r_call [2] cf48 rfl rfl (ok_gleemake_Stream_Pick b0_ s0_0_ a0_0 a0_1 s2 [0, 30, 50] hy3) rfl rfl (.cons (.ro 2 rfl) (.cons (.row 0 rfl) .nil)) (fun _ => rfl) rfl (fun _ => ?_)
  refine lp rfl (p_mv rfl) ?_
  refine r_bs R3 [0, 10, 30] rfl rfl rfl (fun _ => by kernel_rfl) rfl (fun s4 => ?_)
  obtain ⟨y5, hy5, hm⟩ := bindS hm
  refine r_call [1] cf48 rfl rfl (ok_gleemake_Stream_Pick b0_ s0_0_ a0_0 y3.2 s4 [0, 10, 30] hy5) rfl rfl (.cons (.ro 3 rfl) (.cons (.row 0 rfl) .nil)) (fun _ => rfl) rfl (fun _ => ?_)
  refine lp rfl (p_mv rfl) ?_
  refine r_bs R3 [0, 100] rfl rfl rfl (fun _ => by kernel_rfl) rfl (fun s6 => ?_)
  obtain ⟨y7, hy7, hm⟩ := bindS hm
  refine r_call [1] cf48 rfl rfl (ok_gleemake_Stream_Pick b0_ s0_0_ a0_0 y5.2 s6 [0, 100] hy7) rfl rfl (.cons (.ro 4 rfl) (.cons (.row 0 rfl) .nil)) (fun _ => rfl) rfl (fun _ => ?_)
  refine lp rfl (p_bld [.slice none 0 0, .int .i64 y3.1, .int .i64 y5.1, .int .i64 y7.1, .int .i64 (-1)] rfl (fun _ => by kernel_rfl)) ?_
  refine r_al ty28 rfl (fun b8 => ?_)
  refine r_sb (vs := [.slice none 0 0, .int .i64 y3.1, .int .i64 y5.1, .int .i64 y7.1, .int .i64 (-1)]) (j := 0) ty28 rfl rfl rfl rfl rfl rfl rfl ?_
  refine lj_seq ?_
  refine cj_seq ?_
  refine cj_seq ?_
  refine cj_reg ?_
  refine r_bs R9 [(ByteArray.mk [99].toArray), (ByteArray.mk [97].toArray), (ByteArray.mk [100].toArray), (ByteArray.mk [98].toArray), (ByteArray.mk [101].toArray)] rfl rfl rfl (fun _ => by kernel_rfl) rfl (fun s9 => ?_)
  refine lp rfl (p_mv rfl) ?_
  obtain ⟨q10, hq10, hm⟩ := bindS hm
  refine lp rfl (p_cut Tryd.underlying30 ty9 rfl rfl rfl rfl rfl (.row 0 rfl) rfl rfl hq10) ?_
  refine lp rfl (p_len Tryd.underlying30 rfl (.imp (.row 0 rfl) (fun _ h => h.cut hq10))) ?_
  refine lp rfl (p_mv rfl) ?_
  refine lj_seq ?_
  refine cj_fact (F := Lk N46 [] []) (.nilL N46) ?_
  refine cj_nil N46.R ?_
  obtain ⟨f18, hf18, hm⟩ := bindS hm
  refine cj_range (γ := (SV × List (TItem × SV))) (m := (q10.length : Int)) hf18 (nilS, []) (fun u15 g16 => [(0, .pointer (some ⟨b0_, 0, none⟩)), (4, .pointer (some ⟨b1, 0, none⟩)), (5, .pointer (some ⟨b8, 0, none⟩)), (23, (s9.sub R9.sz (0 : Int).toNat a1.toNat).v)]) (fun u15 g16 => Sat w0 (keys [.box b0_ 25 [s0_0_.v, .int .i64 a0_1]]) A [.row R9 (SV.v s9) [(ByteArray.mk [99].toArray), (ByteArray.mk [97].toArray), (ByteArray.mk [100].toArray), (ByteArray.mk [98].toArray), (ByteArray.mk [101].toArray)], .box b8 28 [g16.1.v, .int .i64 y3.1, .int .i64 y5.1, .int .i64 y7.1, .int .i64 (-1)], .box b0_ 25 [s0_0_.v, .int .i64 u15.1], .box b1 28 [.slice none 0 0, .int .i64 0, .int .i64 0, .int .i64 0, .int .i64 0], .ro (RdS R3 (SV.v s0_0_) a0_0), .row N46.R (SV.v g16.1) g16.2, .ro (Lk N46 u15.2 g16.2)]) ⟨rfl, rfl, rfl, rfl, rfl, rfl, trivial⟩ (fun _ h => h.picks [2, 2, 2, 5, 5, 0, 0] rfl) (nat_lt _) (fun _ h => (FactAt.get (F := RdS R9 (SV.v (s9.sub R9.sz (0 : Int).toNat a1.toNat)) q10) (.imp (.row 2 rfl) (fun _ h => h.cut hq10)) h).1) (fun _ _ => ⟨rfl, rfl, rfl, rfl⟩) ⟨rfl, rfl, rfl, rfl, rfl⟩ rfl rfl rfl (fun u15 g16 e => ?_) (fun aftk17 i11 x12 u15 g16 k17 hx13 hs J hJk17 hBk17 hX I cnk17 => ?_)
  · have hm := Flow.fin_b e hm
    refine nj_pure (F := Lk N46 u15.2 g16.2) (.ro 6 rfl) (fun _ h => h.1) (fun hLu15_K50 => ?_)
    refine nj_seq ?_
    refine cj_seq ?_
    refine cj_seq ?_
    refine cj_reg ?_
    obtain ⟨k53, hk53, hm⟩ := bindS hm
    have hRk53 : ∀ t, k53 = .inr t → some t = some r := fun t e => by rw [e] at hm; exact hm
    refine lj_join (σ := (Bool × Int)) (γ := Unit) (fun u51 => k53 = .inl u51) (fun u51 g52 => [(0, .pointer (some ⟨b0_, 0, none⟩)), (4, .pointer (some ⟨b1, 0, none⟩)), (5, .pointer (some ⟨b8, 0, none⟩)), (74, .bool u51.1)]) (fun u51 g52 => Sat w0 (keys [.box b0_ 25 [s0_0_.v, .int .i64 a0_1]]) A [.box b8 28 [g16.1.v, .int .i64 y3.1, .int .i64 y5.1, .int .i64 y7.1, .int .i64 (-1)], .box b0_ 25 [s0_0_.v, .int .i64 u51.2], .box b1 28 [.slice none 0 0, .int .i64 0, .int .i64 0, .int .i64 0, .int .i64 0], .ro (RdS R3 (SV.v s0_0_) a0_0), .row N46.R (SV.v g16.1) g16.2, .ro (Lk N46 u15.2 g16.2)]) (fun u51 g52 hq => ?_) (fun J cnk53 => ?_)
    · have hm := Sum.fin_l hq hm
      refine cj_if (b := u51.1) rfl (fun hb => ?_) (fun hb => ?_)
      · have hm := ifB_t hb hm
        refine cj_reg ?_
        refine lp rfl (p_mv rfl) ?_
        refine lp rfl (p_fab fl28_0 rfl) ?_
        refine lp rfl (p_lbs ty26 rfl (j := 0) rfl rfl) ?_
        refine lp rfl (p_lenG hLu15_K50 Tryd.underlying26 rfl (.row 4 rfl)) ?_
        refine lp rfl (p_sub rfl rfl) ?_
        obtain ⟨y55, hy55, hm⟩ := bindS hm
        refine r_call [1] cf22 rfl rfl (ok_gleemake_Stream_Next b0_ s0_0_ a0_0 u51.2 (w64 ((u15.2.length : Int) - 1)) hy55) rfl rfl (.cons (.ro 2 rfl) .nil) (fun _ => rfl) rfl (fun _ => ?_)
        refine lp rfl (p_fab fl28_4 rfl) ?_
        refine r_sb (vs := [.int .i64 y55.1]) (j := 1) ty3 rfl rfl rfl rfl rfl rfl rfl ?_
        refine lj_seq ?_
        refine cj_seq ?_
        refine cj_reg ?_
        refine lp rfl (p_lbw ty28 rfl (j := 1) rfl rfl) ?_
        refine r_sb (vs := [g16.1.v, .int .i64 y3.1, .int .i64 y5.1, .int .i64 y7.1, .int .i64 y55.1]) (j := 2) ty28 rfl rfl rfl rfl rfl rfl rfl ?_
        refine lj_seq ?_
        obtain rfl := Option.some.inj hm
        exact cj_rt (g16.1, g16.2) [4, 4, 0] Tryd.results21 (.agg (k := 2) ty28 rfl rfl rfl .nil) rfl rfl
      · have hm := ifB_f hb hm
        refine cj_skip ?_
        refine nj_seq ?_
        refine cj_seq ?_
        refine cj_reg ?_
        refine lp rfl (p_lbw ty28 rfl (j := 0) rfl rfl) ?_
        refine r_sb (vs := [g16.1.v, .int .i64 y3.1, .int .i64 y5.1, .int .i64 y7.1, .int .i64 (-1)]) (j := 2) ty28 rfl rfl rfl rfl rfl rfl rfl ?_
        refine lj_seq ?_
        obtain rfl := Option.some.inj hm
        exact cj_rt (g16.1, g16.2) [4, 4, 1] Tryd.results21 (.agg (k := 2) ty28 rfl rfl rfl .nil) rfl rfl
    · have hm := hk53
      refine lp rfl (p_fab fl28_0 rfl) ?_
      refine lp rfl (p_lbs ty26 rfl (j := 1) rfl rfl) ?_
      refine lp rfl (p_lenG hLu15_K50 Tryd.underlying26 rfl (.row 5 rfl)) ?_
      refine lp rfl (p_gtr rfl rfl) ?_
      refine lp rfl (p_mv rfl) ?_
      refine lcase (i := 71) (decide ((u15.2.length : Int) > 1)) rfl (fun hb => ?_) (fun hb => ?_)
      · have hm := ifB_t hb hm
        refine lg true rfl rfl rfl ?_
        refine lp rfl (p_mv rfl) ?_
        refine lg true rfl rfl rfl ?_
        obtain ⟨y54, hy54, hm⟩ := bindS hm
        refine r_call [2] cf14 rfl rfl (ok_gleemake_Stream_Flip b0_ s0_0_ a0_0 u15.1 2 hy54) rfl rfl (.cons (.ro 3 rfl) .nil) (fun _ => rfl) rfl (fun _ => ?_)
        refine lp rfl (p_pkt rfl rfl) ?_
        refine lj_nil ?_
        exact cnk53 _ _ (y54.1, y54.2) () (Option.some.inj hm).symm ⟨rfl, rfl, rfl, rfl, trivial⟩ (fun _ h => h.picks [2, 0, 1, 1, 1, 1] rfl)
      · have hm := ifB_f hb hm
        refine ls true rfl rfl rfl rfl ?_
        refine ls true rfl rfl rfl rfl ?_
        refine lp rfl (p_pkf rfl rfl) ?_
        refine lj_nil ?_
        exact cnk53 _ _ (false, u15.1) () (Option.some.inj hm).symm ⟨rfl, rfl, rfl, rfl, trivial⟩ (fun _ h => h.picks [1, 1, 1, 1, 1, 1] rfl)
  · have hRk17 : ∀ t, k17 = .ret t → some t = some r := fun t e => by rw [hX t e] at hm; exact hm
    have hm := hs
    refine cj_pure (F := Lk N46 u15.2 g16.2) (.ro 6 rfl) (fun _ h => h.1) (fun hLu15_K19 => ?_)
    refine cj_seq ?_
    refine cj_reg ?_
    refine lp rfl (p_idx Tryd.underlying30 ty9 rfl rfl (.imp (.row 0 rfl) (fun _ h => h.cut hq10)) (getI_nat.trans hx13)) ?_
    refine lp rfl (p_lde (o := 0) ty9 rfl rfl (.imp (.row 0 rfl) (fun _ h => h.cut hq10)) hx13 rfl) ?_
    refine lp rfl (p_as rfl) ?_
    refine lj_seq ?_
    refine cj_seq ?_
    refine cj_seq ?_
    refine cj_reg ?_
    refine lp rfl (p_mv rfl) ?_
    obtain ⟨y20, hy20, hm⟩ := bindS hm
    refine r_call [2] cf14 rfl rfl (ok_gleemake_Stream_Flip b0_ s0_0_ a0_0 u15.1 6 hy20) rfl rfl (.cons (.ro 3 rfl) .nil) (fun _ => rfl) rfl (fun _ => ?_)
    refine lj_seq ?_
    refine cj_if (b := y20.1) rfl (fun hb => ?_) (fun hb => ?_)
    · have hm := ifB_t hb hm
      refine cj_exit rfl ?_
      exact cnk17 _ _ (y20.2, u15.2) (g16.1, g16.2) (hJk17 _ (Option.some.inj hm).symm) ⟨rfl, rfl, rfl, rfl, rfl, rfl, trivial⟩ (fun _ h => h.picks [1, 1, 0, 0, 0, 0, 0] rfl)
    · have hm := ifB_f hb hm
      refine cj_skip ?_
      refine nj_seq ?_
      refine cj_seq ?_
      refine cj_reg ?_
      refine lp rfl (p_mv rfl) ?_
      refine lp rfl (p_mv rfl) ?_
      refine r_bs R9 [(ByteArray.mk [114, 111, 119, 115].toArray), (ByteArray.mk [114, 111, 119, 115].toArray), (ByteArray.mk [99, 105, 114, 99, 108, 101].toArray)] rfl rfl rfl (fun _ => by kernel_rfl) rfl (fun s21 => ?_)
      obtain ⟨y22, hy22, hm⟩ := bindS hm
      refine r_call [1] cf15 rfl rfl (ok_gleemake_Stream_Some b0_ s0_0_ a0_0 y20.2 s21 [(ByteArray.mk [114, 111, 119, 115].toArray), (ByteArray.mk [114, 111, 119, 115].toArray), (ByteArray.mk [99, 105, 114, 99, 108, 101].toArray)] hy22) rfl rfl (.cons (.ro 4 rfl) (.cons (.row 0 rfl) .nil)) (fun _ => rfl) rfl (fun _ => ?_)
      refine lp rfl (p_mv rfl) ?_
      refine r_bs R3 [50, 100, 100, 200] rfl rfl rfl (fun _ => by kernel_rfl) rfl (fun s23 => ?_)
      obtain ⟨y24, hy24, hm⟩ := bindS hm
      refine r_call [1] cf48 rfl rfl (ok_gleemake_Stream_Pick b0_ s0_0_ a0_0 y22.2 s23 [50, 100, 100, 200] hy24) rfl rfl (.cons (.ro 5 rfl) (.cons (.row 0 rfl) .nil)) (fun _ => rfl) rfl (fun _ => ?_)
      refine lp rfl (p_bld [.string x12, .string y22.1, .int .i64 y24.1, .slice none 0 0] rfl (fun _ => by kernel_rfl)) ?_
      refine r_al ty46 rfl (fun b25 => ?_)
      refine r_sb (vs := [.string x12, .string y22.1, .int .i64 y24.1, .slice none 0 0]) (j := 0) ty46 rfl rfl rfl rfl rfl rfl rfl ?_
      refine lj_seq ?_
      refine cj_seq ?_
      refine cj_seq ?_
      refine cj_reg ?_
      refine r_bs R9 [(ByteArray.mk [97, 108, 116, 111].toArray), (ByteArray.mk [98, 97, 115, 115].toArray), (ByteArray.mk [115, 111, 108, 105].toArray)] rfl rfl rfl (fun _ => by kernel_rfl) rfl (fun s26 => ?_)
      refine lp rfl (p_len Tryd.underlying30 rfl (.row 0 rfl)) ?_
      refine lp rfl (p_mv rfl) ?_
      refine lj_seq ?_
      refine cj_nil R9 ?_
      obtain ⟨f34, hf34, hm⟩ := bindS hm
      refine cj_range (γ := SV) (m := ([(ByteArray.mk [97, 108, 116, 111].toArray), (ByteArray.mk [98, 97, 115, 115].toArray), (ByteArray.mk [115, 111, 108, 105].toArray)].length : Int)) hf34 nilS (fun u31 g32 => [(0, .pointer (some ⟨b0_, 0, none⟩)), (4, .pointer (some ⟨b1, 0, none⟩)), (5, .pointer (some ⟨b8, 0, none⟩)), (8, .pointer (some ⟨b25, 0, none⟩)), (23, (s9.sub R9.sz (0 : Int).toNat a1.toNat).v), (24, .int .i64 (q10.length : Int)), (25, .int .i64 (i11 : Int)), (39, s26.v)]) (fun u31 g32 => Sat w0 (keys [.box b0_ 25 [s0_0_.v, .int .i64 a0_1]]) A [.row R9 (SV.v s26) [(ByteArray.mk [97, 108, 116, 111].toArray), (ByteArray.mk [98, 97, 115, 115].toArray), (ByteArray.mk [115, 111, 108, 105].toArray)], .box b25 46 [.string x12, .string y22.1, .int .i64 y24.1, g32.v], .box b0_ 25 [s0_0_.v, .int .i64 u31.1], .row R9 (SV.v s9) [(ByteArray.mk [99].toArray), (ByteArray.mk [97].toArray), (ByteArray.mk [100].toArray), (ByteArray.mk [98].toArray), (ByteArray.mk [101].toArray)], .box b8 28 [g16.1.v, .int .i64 y3.1, .int .i64 y5.1, .int .i64 y7.1, .int .i64 (-1)], .box b1 28 [.slice none 0 0, .int .i64 0, .int .i64 0, .int .i64 0, .int .i64 0], .ro (RdS R3 (SV.v s0_0_) a0_0), .row N46.R (SV.v g16.1) g16.2, .ro (Lk N46 u15.2 g16.2), .row R9 (SV.v g32) u31.2]) ⟨rfl, rfl, rfl, rfl, rfl, rfl, rfl, rfl, rfl, rfl, trivial⟩ (fun _ h => h.picks [1, 1, 1, 3, 3, 3, 3, 3, 3, 0] rfl) (nat_lt _) (fun _ h => (FactAt.get (F := RdS R9 (SV.v s26) [(ByteArray.mk [97, 108, 116, 111].toArray), (ByteArray.mk [98, 97, 115, 115].toArray), (ByteArray.mk [115, 111, 108, 105].toArray)]) (.row 1 rfl) h).1) (fun _ _ => ⟨rfl, rfl, rfl, rfl⟩) ⟨rfl, rfl, rfl, rfl, rfl⟩ rfl rfl rfl (fun u31 g32 e => ?_) (fun aftk33 i27 x28 u31 g32 k33 hx29 hs J hJk33 hBk33 hX I cnk33 => ?_)
      · have hm := Flow.fin_b e hm
        refine nj_seq ?_
        refine cj_seq ?_
        refine cj_seq ?_
        refine cj_reg ?_
        refine lp rfl (p_fab fl46_3 rfl) ?_
        refine lp rfl (p_lbs ty30 rfl (j := 1) rfl rfl) ?_
        refine lp rfl (p_len Tryd.underlying30 rfl (.row 9 rfl)) ?_
        refine lp rfl (p_eql rfl rfl) ?_
        refine lj_seq ?_
        obtain ⟨k44, hk44, hm⟩ := bindS hm
        have hRk44 : ∀ t, k44 = .inr t → some t = some k17 := fun t e => by rw [e] at hm; exact hm
        refine cj_joinK (σ := (List ByteArray)) (γ := SV) (fun u41 => k44 = .inl u41) (fun u41 g42 => [(0, .pointer (some ⟨b0_, 0, none⟩)), (4, .pointer (some ⟨b1, 0, none⟩)), (5, .pointer (some ⟨b8, 0, none⟩)), (8, .pointer (some ⟨b25, 0, none⟩)), (23, (s9.sub R9.sz (0 : Int).toNat a1.toNat).v), (24, .int .i64 (q10.length : Int)), (25, .int .i64 (i11 : Int))]) (fun u41 g42 => Sat w0 (keys [.box b0_ 25 [s0_0_.v, .int .i64 a0_1]]) A [.box b25 46 [.string x12, .string y22.1, .int .i64 y24.1, g42.v], .box b0_ 25 [s0_0_.v, .int .i64 u31.1], .row R9 (SV.v s9) [(ByteArray.mk [99].toArray), (ByteArray.mk [97].toArray), (ByteArray.mk [100].toArray), (ByteArray.mk [98].toArray), (ByteArray.mk [101].toArray)], .box b8 28 [g16.1.v, .int .i64 y3.1, .int .i64 y5.1, .int .i64 y7.1, .int .i64 (-1)], .box b1 28 [.slice none 0 0, .int .i64 0, .int .i64 0, .int .i64 0, .int .i64 0], .ro (RdS R3 (SV.v s0_0_) a0_0), .row N46.R (SV.v g16.1) g16.2, .ro (Lk N46 u15.2 g16.2), .row R9 (SV.v g42) u41]) (fun u41 g42 hq => ?_) (fun J cnk44 => ?_)
        · have hm := Sum.fin_l hq hm
          refine cj_reg ?_
          refine lp rfl (p_fab fl28_0 rfl) ?_
          refine lp rfl (p_lbs ty26 rfl (j := 3) rfl rfl) ?_
          refine lp rfl (p_lbw ty46 rfl (j := 0) rfl rfl) ?_
          refine r_fz 8 rfl ?_
          refine r_fact (F := Lk N46 [(TItem.mk x12 y22.1 y24.1 u41)] [((TItem.mk x12 y22.1 y24.1 u41), g42)]) (.imp (.and (.ro 0 rfl) (.nilL N46)) (fun _ h => Lk.cons h.1 h.2)) ?_
          have hLs46 : (([((TItem.mk x12 y22.1 y24.1 u41), g42)] : List (TItem × SV)).map Prod.fst) = ([(TItem.mk x12 y22.1 y24.1 u41)] : List TItem) := rfl
          refine r_bs N46.R [((TItem.mk x12 y22.1 y24.1 u41), g42)] rfl rfl rfl (fun _ => by kernel_rfl) rfl (fun s46 => ?_)
          obtain ⟨q47, hq47, hm⟩ := bindS hm
          refine r_fact (F := Lk N46 q47 (g16.2 ++ [((TItem.mk x12 y22.1 y24.1 u41), g42)])) (.imp (.and (.ro 10 rfl) (.ro 1 rfl)) (fun _ h => Lk.app hq47 h.1 h.2)) ?_
          refine r_app (k := 10) Tryd.underlying26 ty46 rfl rfl rfl rfl (.row 1 rfl) (lk_app hq47 hLu15_K19 hLs46) rfl (fun s48 => ?_)
          refine lp rfl (p_fab fl28_0 rfl) ?_
          refine r_sb (vs := [s48.v]) (j := 7) ty26 rfl rfl rfl rfl rfl rfl rfl ?_
          refine lj_nil ?_
          refine nj_blk ?_
          exact cnk17 _ _ (u31.1, q47) (s48, (g16.2 ++ [((TItem.mk x12 y22.1 y24.1 u41), g42)])) (hJk17 _ (Option.some.inj hm).symm) ⟨rfl, rfl, rfl, rfl, rfl, rfl, trivial⟩ (fun _ h => h.picks [6, 6, 5, 5, 5, 5, 0] rfl)
        · have hm := hk44
          refine cj_if (b := (u31.2.length : Int) == 0) rfl (fun hb => ?_) (fun hb => ?_)
          · have hm := ifB_t hb hm
            refine cj_reg ?_
            refine r_bs R9 [(ByteArray.mk [97, 108, 116, 111].toArray)] rfl rfl rfl (fun _ => by kernel_rfl) rfl (fun s45 => ?_)
            refine lp rfl (p_fab fl46_3 rfl) ?_
            refine r_sb (vs := [s45.v]) (j := 2) ty30 rfl rfl rfl rfl rfl rfl rfl ?_
            refine lj_nil ?_
            exact cnk44 _ _ [(ByteArray.mk [97, 108, 116, 111].toArray)] s45 (Option.some.inj hm).symm ⟨rfl, rfl, rfl, rfl, rfl, rfl, rfl, trivial⟩ (fun _ h => h.picks [2, 2, 2, 2, 2, 2, 2, 2, 0] rfl)
          · have hm := ifB_f hb hm
            refine cj_skip ?_
            exact cnk44 _ _ u31.2 g32 (Option.some.inj hm).symm ⟨rfl, rfl, rfl, rfl, rfl, rfl, rfl, trivial⟩ (fun _ h => h.picks [1, 1, 1, 1, 1, 1, 1, 1, 1] rfl)
      · have hRk33 : ∀ t, k33 = .ret t → some t = some k17 := fun t e => by rw [hX t e] at hm; exact hm
        have hm := hs
        refine cj_seq ?_
        refine cj_reg ?_
        refine lp rfl (p_idx Tryd.underlying30 ty9 rfl rfl (.row 0 rfl) (getI_nat.trans hx29)) ?_
        refine lp rfl (p_lde (o := 0) ty9 rfl rfl (.row 0 rfl) hx29 rfl) ?_
        refine lp rfl (p_as rfl) ?_
        refine lj_seq ?_
        refine cj_seq ?_
        refine cj_reg ?_
        refine lp rfl (p_mv rfl) ?_
        obtain ⟨y36, hy36, hm⟩ := bindS hm
        refine r_call [2] cf14 rfl rfl (ok_gleemake_Stream_Flip b0_ s0_0_ a0_0 u31.1 2 hy36) rfl rfl (.cons (.ro 5 rfl) .nil) (fun _ => rfl) rfl (fun _ => ?_)
        refine lj_seq ?_
        refine cj_if (b := y36.1) rfl (fun hb => ?_) (fun hb => ?_)
        · have hm := ifB_t hb hm
          refine cj_reg ?_
          refine lp rfl (p_fab fl46_3 rfl) ?_
          refine lp rfl (p_lbs ty30 rfl (j := 2) rfl rfl) ?_
          refine lp rfl (p_mv rfl) ?_
          refine r_bs R9 [x28] rfl rfl rfl (fun _ => by kernel_rfl) rfl (fun s37 => ?_)
          obtain ⟨q38, hq38, hm⟩ := bindS hm
          refine r_app (k := 10) Tryd.underlying30 ty9 rfl rfl rfl rfl (.row 0 rfl) hq38 rfl (fun s39 => ?_)
          refine lp rfl (p_fab fl46_3 rfl) ?_
          refine r_sb (vs := [s39.v]) (j := 3) ty30 rfl rfl rfl rfl rfl rfl rfl ?_
          refine lj_nil ?_
          refine nj_blk ?_
          exact cnk33 _ _ (y36.2, q38) s39 (hJk33 _ (Option.some.inj hm).symm) ⟨rfl, rfl, rfl, rfl, rfl, rfl, rfl, rfl, rfl, rfl, trivial⟩ (fun _ h => h.picks [2, 2, 1, 1, 1, 1, 1, 1, 1, 1] rfl)
        · have hm := ifB_f hb hm
          refine cj_skip ?_
          refine nj_blk ?_
          exact cnk33 _ _ (y36.2, u31.2) g32 (hJk33 _ (Option.some.inj hm).symm) ⟨rfl, rfl, rfl, rfl, rfl, rfl, rfl, rfl, rfl, rfl, trivial⟩ (fun _ h => h.picks [1, 1, 0, 0, 0, 0, 0, 0, 0, 0] rfl)
theorem ok_gleemake_Stream_Range (b0_ : Nat) (s0_0_ : SV) (a0_0 : (List Int)) (a0_1 : Int) (a1 : Int) (a2 : Int) {r : Int × Int} (hm : m_gleemake_Stream_Range a0_0 a0_1 a1 a2 = some r) :
    Ctr Tryd.prog 16 [.pointer (some ⟨b0_, 0, none⟩), .int .i64 a1, .int .i64 a2].toArray [.box b0_ 25 [s0_0_.v, .int .i64 a0_1]] [RdS R3 (SV.v s0_0_) a0_0] (X := Unit) (fun _ => .int .i64 r.1) (fun _ => [.box b0_ 25 [s0_0_.v, .int .i64 r.2]]) := by
  unfold m_gleemake_Stream_Range at hm
  refine ctr_mk (vs := [(0, .pointer (some ⟨b0_, 0, none⟩)), (1, .int .i64 a1), (2, .int .i64 a2)]) Tryd.func16 rfl Tryd.ntmps16 rfl ⟨rfl, rfl, rfl, trivial⟩ (fun w0 A => ?_)
  refine cj_seq ?_
  refine cj_reg ?_
  refine lp rfl (p_as rfl) ?_
  refine lj_seq ?_
  refine cj_seq ?_
  refine cj_seq ?_
  refine cj_reg ?_
  refine lp rfl (p_mv rfl) ?_
  refine lp rfl (p_mv rfl) ?_
  refine lp rfl (p_lss rfl rfl) ?_
  refine lj_seq ?_
  refine cj_if (b := decide (a2 < a1)) rfl (fun hb => ?_) (fun hb => ?_)
  · have hm := ifB_t hb hm
    refine cj_seq ?_
    refine cj_reg ?_
    refine lp rfl (p_mv rfl) ?_
    refine lp rfl (p_as rfl) ?_
    refine lj_seq ?_
    obtain rfl := Option.some.inj hm
    exact cj_rt () [0] Tryd.results16 (.tmp rfl .nil) rfl rfl
  · have hm := ifB_f hb hm
    refine cj_skip ?_
    refine nj_seq ?_
    refine cj_seq ?_
    refine cj_reg ?_
    refine lp rfl (p_mv rfl) ?_
    refine lp rfl (p_mv rfl) ?_
    refine lp rfl (p_mv rfl) ?_
    refine lp rfl (p_mv rfl) ?_
    refine lp rfl (p_sub rfl rfl) ?_
    refine lp rfl (p_add rfl rfl) ?_
    obtain ⟨y1, hy1, hm⟩ := bindS hm
    refine r_call [0] cf22 rfl rfl (ok_gleemake_Stream_Next b0_ s0_0_ a0_0 a0_1 (w64 ((w64 (a2 - a1)) + 1)) hy1) rfl rfl (.cons (.ro 0 rfl) .nil) (fun _ => rfl) rfl (fun _ => ?_)
    refine lp rfl (p_add rfl rfl) ?_
    refine lp rfl (p_as rfl) ?_
    refine lj_seq ?_
    obtain rfl := Option.some.inj hm
    exact cj_rt () [0] Tryd.results16 (.tmp rfl .nil) rfl rfl
theorem ok_gleemake_Stream_Odd (b0_ : Nat) (s0_0_ : SV) (a0_0 : (List Int)) (a0_1 : Int) (a1 : Int) (a2 : Int) {r : Int × Int} (hm : m_gleemake_Stream_Odd a0_0 a0_1 a1 a2 = some r) :
    Ctr Tryd.prog 23 [.pointer (some ⟨b0_, 0, none⟩), .int .i64 a1, .int .i64 a2].toArray [.box b0_ 25 [s0_0_.v, .int .i64 a0_1]] [RdS R3 (SV.v s0_0_) a0_0] (X := Unit) (fun _ => .int .i64 r.1) (fun _ => [.box b0_ 25 [s0_0_.v, .int .i64 r.2]]) := by
  unfold m_gleemake_Stream_Odd at hm
  refine ctr_mk (vs := [(0, .pointer (some ⟨b0_, 0, none⟩)), (1, .int .i64 a1), (2, .int .i64 a2)]) Tryd.func23 rfl Tryd.ntmps23 rfl ⟨rfl, rfl, rfl, trivial⟩ (fun w0 A => ?_)
  refine cj_seq ?_
  refine cj_reg ?_
  refine lp rfl (p_as rfl) ?_
  refine lj_seq ?_
  refine cj_seq ?_
  refine cj_seq ?_
  refine cj_reg ?_
  refine lp rfl (p_mv rfl) ?_
  obtain ⟨y1, hy1, hm⟩ := bindS hm
  refine r_call [0] cf14 rfl rfl (ok_gleemake_Stream_Flip b0_ s0_0_ a0_0 a0_1 12 hy1) rfl rfl (.cons (.ro 0 rfl) .nil) (fun _ => rfl) rfl (fun _ => ?_)
  refine lj_seq ?_
  refine cj_if (b := y1.1) rfl (fun hb => ?_) (fun hb => ?_)
  · have hm := ifB_t hb hm
    refine cj_seq ?_
    refine cj_reg ?_
    refine lp rfl (p_mv rfl) ?_
    refine lp rfl (p_mv rfl) ?_
    refine lp rfl (p_sub rfl rfl) ?_
    refine lp rfl (p_mv rfl) ?_
    refine lp rfl (p_add rfl rfl) ?_
    refine lp rfl (p_mv rfl) ?_
    refine lp rfl (p_mv rfl) ?_
    refine r_bs R3 [w64 (a1 - 1), w64 (a2 + 1), a1, a2, (-1099511627776), 1099511627776] rfl rfl rfl (fun _ => by kernel_rfl) rfl (fun s2 => ?_)
    obtain ⟨y3, hy3, hm⟩ := bindS hm
    refine r_call [1] cf48 rfl rfl (ok_gleemake_Stream_Pick b0_ s0_0_ a0_0 y1.2 s2 [w64 (a1 - 1), w64 (a2 + 1), a1, a2, (-1099511627776), 1099511627776] hy3) rfl rfl (.cons (.ro 1 rfl) (.cons (.row 0 rfl) .nil)) (fun _ => rfl) rfl (fun _ => ?_)
    refine lp rfl (p_as rfl) ?_
    refine lj_seq ?_
    obtain rfl := Option.some.inj hm
    exact cj_rt () [0] Tryd.results23 (.tmp rfl .nil) rfl rfl
  · have hm := ifB_f hb hm
    refine cj_skip ?_
    refine nj_seq ?_
    refine cj_seq ?_
    refine cj_reg ?_
    refine lp rfl (p_mv rfl) ?_
    refine lp rfl (p_mv rfl) ?_
    refine lp rfl (p_mv rfl) ?_
    obtain ⟨y4, hy4, hm⟩ := bindS hm
    refine r_call [0] cf16 rfl rfl (ok_gleemake_Stream_Range b0_ s0_0_ a0_0 y1.2 a1 a2 hy4) rfl rfl (.cons (.ro 0 rfl) .nil) (fun _ => rfl) rfl (fun _ => ?_)
    refine lp rfl (p_as rfl) ?_
    refine lj_seq ?_
    obtain rfl := Option.some.inj hm
    exact cj_rt () [0] Tryd.results23 (.tmp rfl .nil) rfl rfl
theorem ok_slices_Clone_string_string (s0_ : SV) (a0 : (List ByteArray)) {r : (List ByteArray)} (hm : m_slices_Clone_string_string a0 = some r) :
    Ctr Tryd.prog 24 [s0_.v].toArray ([] : List Ent) [RdS R9 (SV.v s0_) a0] (X := SV) (fun s => s.v) (fun s => [.row R9 (SV.v s) r]) := by
  unfold m_slices_Clone_string_string at hm
  refine ctr_mk (vs := [(0, s0_.v)]) Tryd.func24 rfl Tryd.ntmps24 rfl ⟨rfl, trivial⟩ (fun w0 A => ?_)
  refine cj_seq ?_
  refine cj_reg ?_
  refine lp rfl (p_as rfl) ?_
  refine lj_seq ?_
  refine cj_seq ?_
  refine cj_seq ?_
  refine cj_reg ?_
  refine lp rfl (p_mv rfl) ?_
  refine lp rfl (p_eqnil Tryd.underlying30 rfl rfl) ?_
  refine lj_seq ?_
  refine cj_if (b := s0_.a.isNone) rfl (fun hb => ?_) (fun hb => ?_)
  · refine cj_pure (F := RdS R9 (SV.v s0_) a0) (.ro 0 rfl) (fun _ h => h.nil_of hb) (fun h5 => ?_)
    have hm : some [] = some r := by rw [h5, appM_nn] at hm; exact hm
    refine cj_seq ?_
    refine cj_reg ?_
    refine lp rfl (p_as rfl) ?_
    refine lj_seq ?_
    obtain rfl := Option.some.inj hm
    refine cj_nil R9 ?_
    exact cj_rt nilS [0] Tryd.results24 (.tmp rfl .nil) rfl rfl
  · refine cj_skip ?_
    refine nj_seq ?_
    refine cj_seq ?_
    refine cj_reg ?_
    refine r_bs R9 ([] : List ByteArray) rfl rfl rfl (fun _ => by kernel_rfl) rfl (fun s2 => ?_)
    refine lp rfl (p_mv rfl) ?_
    obtain ⟨q3, hq3, hm⟩ := bindS hm
    refine r_app (k := 0) Tryd.underlying30 ty9 rfl rfl rfl rfl (.ro 1 rfl) hq3 rfl (fun s4 => ?_)
    refine lp rfl (p_as rfl) ?_
    refine lj_seq ?_
    obtain rfl := Option.some.inj hm
    exact cj_rt s4 [0] Tryd.results24 (.tmp rfl .nil) rfl rfl
theorem ok_gleemake_Stream_AProgram (b0_ : Nat) (s0_0_ : SV) (a0_0 : (List Int)) (a0_1 : Int) (a1 : Int) {r : TProgram × Int} (hm : m_gleemake_Stream_AProgram a0_0 a0_1 a1 = some r) :
    Ctr Tryd.prog 4 [.pointer (some ⟨b0_, 0, none⟩), .int .i64 a1].toArray [.box b0_ 25 [s0_0_.v, .int .i64 a0_1]] [RdS R3 (SV.v s0_0_) a0_0] (X := (SV × List (TItem × SV))) (fun s => .agg [s.1.v, .int .i64 r.1.Change, .int .i64 r.1.Clap, .int .i64 r.1.Break, .int .i64 r.1.Half].toArray) (fun s => [.row N46.R (SV.v s.1) s.2, .ro (Lk N46 r.1.Items s.2), .box b0_ 25 [s0_0_.v, .int .i64 r.2]]) := by
  unfold m_gleemake_Stream_AProgram at hm
  refine ctr_mk (vs := [(0, .pointer (some ⟨b0_, 0, none⟩)), (1, .int .i64 a1)]) Tryd.func4 rfl Tryd.ntmps4 rfl ⟨rfl, rfl, trivial⟩ (fun w0 A => ?_)
  refine cj_seq ?_
  refine cj_reg ?_
  refine r_al ty28 rfl (fun b1 => ?_)
  refine lj_seq ?_
  refine cj_seq ?_
  refine cj_reg ?_
  refine lp rfl (p_mv rfl) ?_
  refine lp rfl (p_mv rfl) ?_
  obtain ⟨y2, hy2, hm⟩ := bindS hm
  refine r_callN [1] cf21 rfl rfl (ok_gleemake_Stream_RightProgram b0_ s0_0_ a0_0 a0_1 a1 hy2) rfl rfl (.cons (.ro 1 rfl) .nil) rfl (fun ⟨s3, xg4⟩ => ?_)
  refine r_pure (F := Lk N46 y2.1.Items xg4) (.ro 1 rfl) (fun _ h => h.1) (fun hLs3 => ?_)
  refine r_al ty28 rfl (fun b5 => ?_)
  refine r_sb (vs := [s3.v, .int .i64 y2.1.Change, .int .i64 y2.1.Clap, .int .i64 y2.1.Break, .int .i64 y2.1.Half]) (j := 0) ty28 rfl rfl rfl rfl rfl rfl rfl ?_
  refine lj_seq ?_
  refine cj_seq ?_
  refine cj_seq ?_
  refine cj_reg ?_
  refine lp rfl (p_mv rfl) ?_
  obtain ⟨y6, hy6, hm⟩ := bindS hm
  refine r_call [3] cf14 rfl rfl (ok_gleemake_Stream_Flip b0_ s0_0_ a0_0 y2.2 12 hy6) rfl rfl (.cons (.ro 4 rfl) .nil) (fun _ => rfl) rfl (fun _ => ?_)
  refine lj_seq ?_
  refine cj_if (b := y6.1) rfl (fun hb => ?_) (fun hb => ?_)
  · have hm := ifB_t hb hm
    refine cj_seq ?_
    refine cj_reg ?_
    refine lp rfl (p_mv rfl) ?_
    obtain ⟨y7, hy7, hm⟩ := bindS hm
    refine r_call [0] cf22 rfl rfl (ok_gleemake_Stream_Next b0_ s0_0_ a0_0 y6.2 3 hy7) rfl rfl (.cons (.ro 4 rfl) .nil) (fun _ => rfl) rfl (fun _ => ?_)
    refine lj_seq ?_
    refine cj_blk ?_
    refine cj_seq ?_
    refine cj_reg ?_
    refine lp rfl (p_eql rfl rfl) ?_
    refine lp rfl (p_as rfl) ?_
    refine lj_seq ?_
    refine cj_if (b := y7.1 == 0) rfl (fun hb => ?_) (fun hb => ?_)
    · have hm := ifB_t hb hm
      refine cj_reg ?_
      refine lp rfl (p_mv rfl) ?_
      obtain ⟨y8, hy8, hm⟩ := bindS hm
      refine r_call [0] cf23 rfl rfl (ok_gleemake_Stream_Odd b0_ s0_0_ a0_0 y7.2 (-1) 4 hy8) rfl rfl (.cons (.ro 4 rfl) .nil) (fun _ => rfl) rfl (fun _ => ?_)
      refine lp rfl (p_fab fl28_4 rfl) ?_
      refine r_sb (vs := [.int .i64 y8.1]) (j := 1) ty3 rfl rfl rfl rfl rfl rfl rfl ?_
      refine lj_nil ?_
      refine nj_blk ?_
      refine nj_seq ?_
      refine cj_seq ?_
      refine cj_reg ?_
      refine lp rfl (p_lbw ty28 rfl (j := 1) rfl rfl) ?_
      refine r_sb (vs := [s3.v, .int .i64 y2.1.Change, .int .i64 y2.1.Clap, .int .i64 y2.1.Break, .int .i64 y8.1]) (j := 4) ty28 rfl rfl rfl rfl rfl rfl rfl ?_
      refine lj_seq ?_
      obtain rfl := Option.some.inj hm
      exact cj_rt (s3, xg4) [2, 2, 0] Tryd.results4 (.agg (k := 4) ty28 rfl rfl rfl .nil) rfl rfl
    · have hm := ifB_f hb hm
      refine cj_seq ?_
      refine cj_reg ?_
      refine lp rfl (p_eql rfl rfl) ?_
      refine lp rfl (p_as rfl) ?_
      refine lj_seq ?_
      refine cj_if (b := y7.1 == 1) rfl (fun hb => ?_) (fun hb => ?_)
      · have hm := ifB_t hb hm
        refine cj_reg ?_
        refine lp rfl (p_mv rfl) ?_
        obtain ⟨y9, hy9, hm⟩ := bindS hm
        refine r_call [0] cf23 rfl rfl (ok_gleemake_Stream_Odd b0_ s0_0_ a0_0 y7.2 0 86400000 hy9) rfl rfl (.cons (.ro 4 rfl) .nil) (fun _ => rfl) rfl (fun _ => ?_)
        refine lp rfl (p_mv rfl) ?_
        obtain ⟨y10, hy10, hm⟩ := bindS hm
        refine r_call [0] cf23 rfl rfl (ok_gleemake_Stream_Odd b0_ s0_0_ a0_0 y9.2 0 86400000 hy10) rfl rfl (.cons (.ro 4 rfl) .nil) (fun _ => rfl) rfl (fun _ => ?_)
        refine lp rfl (p_mv rfl) ?_
        obtain ⟨y11, hy11, hm⟩ := bindS hm
        refine r_call [0] cf23 rfl rfl (ok_gleemake_Stream_Odd b0_ s0_0_ a0_0 y10.2 0 86400000 hy11) rfl rfl (.cons (.ro 4 rfl) .nil) (fun _ => rfl) rfl (fun _ => ?_)
        refine lp rfl (p_fab fl28_1 rfl) ?_
        refine r_sb (vs := [.int .i64 y9.1]) (j := 1) ty3 rfl rfl rfl rfl rfl rfl rfl ?_
        refine lp rfl (p_fab fl28_2 rfl) ?_
        refine r_sb (vs := [.int .i64 y10.1]) (j := 1) ty3 rfl rfl rfl rfl rfl rfl rfl ?_
        refine lp rfl (p_fab fl28_3 rfl) ?_
        refine r_sb (vs := [.int .i64 y11.1]) (j := 1) ty3 rfl rfl rfl rfl rfl rfl rfl ?_
        refine lj_nil ?_
        refine nj_blk ?_
        refine nj_seq ?_
        refine cj_seq ?_
        refine cj_reg ?_
        refine lp rfl (p_lbw ty28 rfl (j := 1) rfl rfl) ?_
        refine r_sb (vs := [s3.v, .int .i64 y9.1, .int .i64 y10.1, .int .i64 y11.1, .int .i64 y2.1.Half]) (j := 4) ty28 rfl rfl rfl rfl rfl rfl rfl ?_
        refine lj_seq ?_
        obtain rfl := Option.some.inj hm
        exact cj_rt (s3, xg4) [2, 2, 0] Tryd.results4 (.agg (k := 4) ty28 rfl rfl rfl .nil) rfl rfl
      · have hm := ifB_f hb hm
        refine cj_seq ?_
        refine cj_reg ?_
        refine lp rfl (p_fab fl28_0 rfl) ?_
        refine lp rfl (p_lbs ty26 rfl (j := 1) rfl rfl) ?_
        refine lp rfl (p_lenG hLs3 Tryd.underlying26 rfl (.row 2 rfl)) ?_
        refine lp rfl (p_gtr rfl rfl) ?_
        refine lj_seq ?_
        refine cj_if (b := decide ((y2.1.Items.length : Int) > 0)) rfl (fun hb => ?_) (fun hb => ?_)
        · have hm := ifB_t hb hm
          refine cj_seq ?_
          obtain ⟨y12, hy12, hm⟩ := bindS hm
          obtain ⟨e13, he13, hm⟩ := bindS hm
          obtain ⟨ge13, he13G⟩ := lk_getI hLs3 he13
          refine cj_anyT [0, 1, 2, 3, 4, 5, 7, 8] [] (Sat w0 (keys [.box b0_ 25 [s0_0_.v, .int .i64 a0_1]]) A [.box b5 28 [s3.v, .int .i64 y2.1.Change, .int .i64 y2.1.Clap, .int .i64 y2.1.Break, .int .i64 y2.1.Half], .row N46.R (SV.v s3) xg4, .ro (Lk N46 y2.1.Items xg4), .box b1 28 [.slice none 0 0, .int .i64 0, .int .i64 0, .int .i64 0, .int .i64 0], .ro (RdS R3 (SV.v s0_0_) a0_0)]) (Sat w0 (keys [.box b0_ 25 [s0_0_.v, .int .i64 a0_1]]) A [.box b5 28 [s3.v, .int .i64 y2.1.Change, .int .i64 y2.1.Clap, .int .i64 y2.1.Break, .int .i64 y2.1.Half], .row N46.R (SV.v s3) xg4, .ro (Lk N46 y2.1.Items xg4), .box b1 28 [.slice none 0 0, .int .i64 0, .int .i64 0, .int .i64 0, .int .i64 0], .ro (RdS R3 (SV.v s0_0_) a0_0)]) (by kernel_rfl) ?_
          refine at_take2 0 rfl (by kernel_rfl) (by kernel_rfl) (by kernel_rfl) (fun _ h => h.picks [0, 0, 0, 0, 0] rfl) rfl rfl (p_fab fl28_0 rfl) (fun _ h => h.picks [1, 1, 1, 1, 1] rfl) ?_
          refine at_take2 1 rfl (by kernel_rfl) (by kernel_rfl) (by kernel_rfl) (fun _ h => h.picks [0, 0, 0, 0, 0] rfl) rfl rfl (p_lbs ty26 rfl (j := 0) rfl rfl) (fun _ h => h.picks [1, 1, 1, 1, 1] rfl) ?_
          refine at_take2 2 rfl (by kernel_rfl) (by kernel_rfl) (by kernel_rfl) (fun _ h => h.picks [0, 0, 0, 0, 0] rfl) rfl rfl (p_mv rfl) (fun _ h => h.picks [1, 1, 1, 1, 1] rfl) ?_
          refine at_take2 3 rfl (by kernel_rfl) (by kernel_rfl) (by kernel_rfl) (fun _ h => h.picks [0, 0, 0, 0, 0] rfl) rfl rfl (p_fab fl28_0 rfl) (fun _ h => h.picks [1, 1, 1, 1, 1] rfl) ?_
          refine at_take2 4 rfl (by kernel_rfl) (by kernel_rfl) (by kernel_rfl) (fun _ h => h.picks [0, 0, 0, 0, 0] rfl) rfl rfl (p_lbs ty26 rfl (j := 0) rfl rfl) (fun _ h => h.picks [1, 1, 1, 1, 1] rfl) ?_
          refine at_take2 5 rfl (by kernel_rfl) (by kernel_rfl) (by kernel_rfl) (fun _ h => h.picks [0, 0, 0, 0, 0] rfl) rfl rfl (p_lenG hLs3 Tryd.underlying26 rfl (.row 1 rfl)) (fun _ h => h.picks [1, 1, 1, 1, 1] rfl) ?_
          refine at_each (rs := [6]) (by kernel_rfl) (by decide) ?_
          refine (.cons rfl (fun I cnI => ?_) .nil)
          · refine r_call [0] cf22 rfl rfl (ok_gleemake_Stream_Next b0_ s0_0_ a0_0 y7.2 (y2.1.Items.length : Int) hy12) rfl rfl (.cons (.ro 4 rfl) .nil) (fun _ => rfl) rfl (fun _ => ?_)
            refine lj_nil ?_
            refine cnI _ _ (sof1 rfl rfl (fun _ h => h.picks [1, 1, 1, 1, 1] rfl)) ?_
            refine at_take2 7 rfl (by kernel_rfl) (by kernel_rfl) (by kernel_rfl) (fun _ h => h.picks [0, 0, 0, 0, 0] rfl) rfl rfl (p_idx Tryd.underlying26 ty46 rfl rfl (.row 1 rfl) he13G) (fun _ h => h.picks [1, 1, 1, 1, 1] rfl) ?_
            refine at_take2 8 rfl (by kernel_rfl) (by kernel_rfl) (by kernel_rfl) (fun _ h => h.picks [0, 0, 0, 0, 0] rfl) rfl rfl (p_as rfl) (fun _ h => h.picks [1, 1, 1, 1, 1] rfl) ?_
            refine at_done (by kernel_rfl) ?_
            refine nj_seq ?_
            refine cj_pure (F := RdS N46.R (SV.v s3) xg4) (.row 2 rfl) (fun _ h => h.some_of (getI_spec he13G).2) (fun hp79 => ?_)
            refine cj_pure (F := RdS N46.R (SV.v s3) xg4) (.row 2 rfl) (fun _ h => h.pures) (fun hq80 => ?_)
            obtain ⟨y67, hy67, hm⟩ := bindS hm
            obtain ⟨y68, hy68, hm⟩ := bindS hm
            obtain ⟨y69, hy69, hm⟩ := bindS hm
            obtain ⟨y72, hy72, hm⟩ := bindS hm
            obtain ⟨q74, hq74, hm⟩ := bindS hm
            refine cj_anyT [0, 1, 2, 3, 4, 5, 6, 7, 10, 12, 13, 14, 15, 17, 22, 23, 25, 26, 28, 29] [24, 25, 26, 27, 28, 29, 30] (Sat w0 (keys [.box b0_ 25 [s0_0_.v, .int .i64 a0_1]]) A [.box b5 28 [s3.v, .int .i64 y2.1.Change, .int .i64 y2.1.Clap, .int .i64 y2.1.Break, .int .i64 y2.1.Half], .row N46.R (SV.v s3) xg4, .ro (Lk N46 y2.1.Items xg4), .box b1 28 [.slice none 0 0, .int .i64 0, .int .i64 0, .int .i64 0, .int .i64 0], .ro (RdS R3 (SV.v s0_0_) a0_0)]) (Sat w0 (keys [.box b0_ 25 [s0_0_.v, .int .i64 a0_1]]) A [.box b5 28 [s3.v, .int .i64 y2.1.Change, .int .i64 y2.1.Clap, .int .i64 y2.1.Break, .int .i64 y2.1.Half], .ro (Lk N46 y2.1.Items xg4), .box b1 28 [.slice none 0 0, .int .i64 0, .int .i64 0, .int .i64 0, .int .i64 0], .ro (RdS R3 (SV.v s0_0_) a0_0)]) (by kernel_rfl) ?_
            refine at_take2 0 rfl (by kernel_rfl) (by kernel_rfl) (by kernel_rfl) (fun _ h => h.picks [0, 1, 1, 1] rfl) rfl rfl (p_mv rfl) (fun _ h => h.picks [1, 2, 2, 2] rfl) ?_
            refine at_take2 1 rfl (by kernel_rfl) (by kernel_rfl) (by kernel_rfl) (fun _ h => h.picks [0, 1, 1, 1] rfl) rfl rfl (p_mv rfl) (fun _ h => h.picks [1, 2, 2, 2] rfl) ?_
            refine at_take2 2 rfl (by kernel_rfl) (by kernel_rfl) (by kernel_rfl) (fun _ h => h.picks [0, 1, 1, 1] rfl) rfl rfl (p_mv rfl) (fun _ h => h.picks [1, 2, 2, 2] rfl) ?_
            refine at_take2 3 rfl (by kernel_rfl) (by kernel_rfl) (by kernel_rfl) (fun _ h => h.picks [0, 1, 1, 1] rfl) rfl rfl (p_mv rfl) (fun _ h => h.picks [1, 2, 2, 2] rfl) ?_
            refine at_take2 4 rfl (by kernel_rfl) (by kernel_rfl) (by kernel_rfl) (fun _ h => h.picks [0, 1, 1, 1] rfl) rfl rfl (p_mv rfl) (fun _ h => h.picks [1, 2, 2, 2] rfl) ?_
            refine at_take2 5 rfl (by kernel_rfl) (by kernel_rfl) (by kernel_rfl) (fun _ h => h.picks [0, 1, 1, 1] rfl) rfl rfl (p_ncs rfl hp79) (fun _ h => h.picks [1, 2, 2, 2] rfl) ?_
            refine at_take2 6 rfl (by kernel_rfl) (by kernel_rfl) (by kernel_rfl) (fun _ h => h.picks [0, 1, 1, 1] rfl) rfl rfl (p_fas fl46_0 rfl hp79) (fun _ h => h.picks [1, 2, 2, 2] rfl) ?_
            refine at_take1 7 rfl (by kernel_rfl) (by kernel_rfl) (by kernel_rfl) (by kernel_rfl) rfl rfl (p_lde (o := 0) ty9 rfl rfl (.row 1 rfl) (getI_spec he13G).2 rfl) (fun _ h => h.picks [1, 1, 1, 1, 1] rfl) ?_
            refine at_take2 10 rfl (by kernel_rfl) (by kernel_rfl) (by kernel_rfl) (fun _ h => h.picks [0, 1, 1, 1] rfl) rfl rfl (p_mv rfl) (fun _ h => h.picks [1, 2, 2, 2] rfl) ?_
            refine at_take2 12 rfl (by kernel_rfl) (by kernel_rfl) (by kernel_rfl) (fun _ h => h.picks [0, 1, 1, 1] rfl) rfl rfl (p_mv rfl) (fun _ h => h.picks [1, 2, 2, 2] rfl) ?_
            refine at_take2 13 rfl (by kernel_rfl) (by kernel_rfl) (by kernel_rfl) (fun _ h => h.picks [0, 1, 1, 1] rfl) rfl rfl (p_ncs rfl hp79) (fun _ h => h.picks [1, 2, 2, 2] rfl) ?_
            refine at_take2 14 rfl (by kernel_rfl) (by kernel_rfl) (by kernel_rfl) (fun _ h => h.picks [0, 1, 1, 1] rfl) rfl rfl (p_fas fl46_3 rfl hp79) (fun _ h => h.picks [1, 2, 2, 2] rfl) ?_
            refine at_take1 15 rfl (by kernel_rfl) (by kernel_rfl) (by kernel_rfl) (by kernel_rfl) rfl rfl (p_lde (o := 3) ty30 rfl rfl (.row 1 rfl) (getI_spec he13G).2 rfl) (fun _ h => h.picks [1, 1, 1, 1, 1] rfl) ?_
            refine at_take2 17 rfl (by kernel_rfl) (by kernel_rfl) (by kernel_rfl) (fun _ h => h.picks [0, 1, 1, 1] rfl) rfl rfl (p_mv rfl) (fun _ h => h.picks [1, 2, 2, 2] rfl) ?_
            refine at_each (rs := [8, 18]) (by kernel_rfl) (by decide) ?_
            refine (.cons rfl (fun I cnI => ?_) (.cons rfl (fun I cnI => ?_) .nil))
            · refine r_bs R9 [e13.Key, ByteArray.empty, (ByteArray.mk [97].toArray)] rfl rfl rfl (fun _ => by kernel_rfl) rfl (fun s81 => ?_)
              refine lj_nil ?_
              refine cnI _ _ (sof1 rfl rfl (fun _ h => h.picks [2, 2, 2, 2, 2] rfl)) ?_
              refine at_each (rs := [9, 18]) (by kernel_rfl) (by decide) ?_
              refine (.cons rfl (fun I cnI => ?_) (.cons rfl (fun I cnI => ?_) .nil))
              · refine r_call [1] cf15 rfl rfl (ok_gleemake_Stream_Some b0_ s0_0_ a0_0 y12.2 s81 [e13.Key, ByteArray.empty, (ByteArray.mk [97].toArray)] hy67) rfl rfl (.cons (.ro 5 rfl) (.cons (.row 0 rfl) .nil)) (fun _ => rfl) rfl (fun _ => ?_)
                refine lj_nil ?_
                refine cnI _ _ (sof1 rfl rfl (fun _ h => h.picks [2, 2, 2, 2, 2] rfl)) ?_
                refine at_each (rs := [11, 18]) (by kernel_rfl) (by decide) ?_
                refine (.cons rfl (fun I cnI => ?_) (.cons rfl (fun I cnI => ?_) .nil))
                · refine r_call [0] cf23 rfl rfl (ok_gleemake_Stream_Odd b0_ s0_0_ a0_0 y67.2 1 86400000 hy68) rfl rfl (.cons (.ro 5 rfl) .nil) (fun _ => rfl) rfl (fun _ => ?_)
                  refine lj_nil ?_
                  refine cnI _ _ (sof1 rfl rfl (fun _ h => h.picks [2, 2, 2, 2, 2] rfl)) ?_
                  refine at_each (rs := [16, 18]) (by kernel_rfl) (by decide) ?_
                  refine (.cons rfl (fun I cnI => ?_) (.cons rfl (fun I cnI => ?_) .nil))
                  · refine r_call [] cf24 rfl rfl (ok_slices_Clone_string_string ge13 e13.Parts hy69) rfl rfl (.cons (.imp (.ro 4 rfl) (fun _ h => (Lk.at_ h (getI_spec he13G).2))) .nil) (fun _ => rfl) rfl (fun s82 => ?_)
                    refine lj_nil ?_
                    refine cnI _ _ (sof1 rfl rfl (fun _ h => h.picks [3, 3, 3, 3, 3] rfl)) ?_
                    refine at_each (rs := [18]) (by kernel_rfl) (by decide) ?_
                    refine (.cons rfl (fun I cnI => ?_) .nil)
                    · refine r_bs R9 [(ByteArray.mk [122, 122].toArray), ByteArray.empty, (ByteArray.mk [97, 108, 116, 111].toArray)] rfl rfl rfl (fun _ => by kernel_rfl) rfl (fun s83 => ?_)
                      refine lj_nil ?_
                      refine cnI _ _ (sof1 rfl rfl (fun _ h => h.picks [4, 4, 4, 4, 4] rfl)) ?_
                      refine at_each (rs := [19]) (by kernel_rfl) (by decide) ?_
                      refine (.cons rfl (fun I cnI => ?_) .nil)
                      · refine r_call [2] cf15 rfl rfl (ok_gleemake_Stream_Some b0_ s0_0_ a0_0 y68.2 s83 [(ByteArray.mk [122, 122].toArray), ByteArray.empty, (ByteArray.mk [97, 108, 116, 111].toArray)] hy72) rfl rfl (.cons (.ro 7 rfl) (.cons (.row 0 rfl) .nil)) (fun _ => rfl) rfl (fun _ => ?_)
                        refine lj_nil ?_
                        refine cnI _ _ (sof1 rfl rfl (fun _ h => h.picks [4, 4, 4, 4, 4] rfl)) ?_
                        refine at_each (rs := [20]) (by kernel_rfl) (by decide) ?_
                        refine (.cons rfl (fun I cnI => ?_) .nil)
                        · refine r_bs R9 [y72.1] rfl rfl rfl (fun _ => by kernel_rfl) rfl (fun s84 => ?_)
                          refine lj_nil ?_
                          refine cnI _ _ (sof1 rfl rfl (fun _ h => h.picks [5, 5, 5, 5, 5] rfl)) ?_
                          refine at_each (rs := [21]) (by kernel_rfl) (by decide) ?_
                          refine (.cons rfl (fun I cnI => ?_) .nil)
                          · refine r_app (k := 3) Tryd.underlying30 ty9 rfl rfl rfl rfl (.row 0 rfl) hq74 rfl (fun s85 => ?_)
                            refine lj_nil ?_
                            refine cnI _ _ (sof1 rfl rfl (fun _ h => h.picks [5, 5, 5, 5, 5] rfl)) ?_
                            refine at_take2 22 rfl (by kernel_rfl) (by kernel_rfl) (by kernel_rfl) (fun _ h => h.picks [0, 1, 1, 1] rfl) rfl rfl (p_ncs rfl hp79) (fun _ h => h.picks [5, 6, 6, 6] rfl) ?_
                            refine at_take2 23 rfl (by kernel_rfl) (by kernel_rfl) (by kernel_rfl) (fun _ h => h.picks [0, 1, 1, 1] rfl) rfl rfl (p_fas fl46_0 rfl hp79) (fun _ h => h.picks [5, 6, 6, 6] rfl) ?_
                            refine at_each (rs := [24]) (by kernel_rfl) (by decide) ?_
                            refine (.cons rfl (fun I cnI => ?_) .nil)
                            · refine r_fact (F := Lk N46 (y2.1.Items.set y12.1.toNat (TItem.mk y67.1 e13.Places e13.Long e13.Parts)) (xg4.set y12.1.toNat ((TItem.mk y67.1 e13.Places e13.Long e13.Parts), ge13))) (.imp (.and (.ro 7 rfl) (.imp (.ro 7 rfl) (fun _ h => (Lk.at_ h (getI_spec he13G).2)))) (fun _ h => Lk.set h.1 h.2)) ?_
                              refine r_ste (k := 7) (o := 0) (vs := [.string y67.1]) ty9 rfl rfl rfl rfl rfl rfl rfl (getI_spec he13G).2 ((TItem.mk y67.1 e13.Places e13.Long e13.Parts), ge13) rfl rfl ?_
                              refine lj_nil ?_
                              refine cnI _ _ (sof2 rfl rfl (fun _ h => h.picks [6, 7, 7, 7] rfl)) ?_
                              refine at_take2 25 rfl (by kernel_rfl) (by kernel_rfl) (by kernel_rfl) (fun _ h => h.picks [0, 1, 1, 1] rfl) rfl rfl (p_ncs rfl hp79) (fun _ h => h.picks [6, 7, 7, 7] rfl) ?_
                              refine at_take2 26 rfl (by kernel_rfl) (by kernel_rfl) (by kernel_rfl) (fun _ h => h.picks [0, 1, 1, 1] rfl) rfl rfl (p_fas fl46_2 rfl hp79) (fun _ h => h.picks [6, 7, 7, 7] rfl) ?_
                              refine at_each (rs := [27]) (by kernel_rfl) (by decide) ?_
                              refine (.cons rfl (fun I cnI => ?_) .nil)
                              · refine r_fact (F := Lk N46 ((y2.1.Items.set y12.1.toNat (TItem.mk y67.1 e13.Places e13.Long e13.Parts)).set y12.1.toNat (TItem.mk y67.1 e13.Places y68.1 e13.Parts)) ((xg4.set y12.1.toNat ((TItem.mk y67.1 e13.Places e13.Long e13.Parts), ge13)).set y12.1.toNat ((TItem.mk y67.1 e13.Places y68.1 e13.Parts), ge13))) (.imp (.and (.ro 0 rfl) (.imp (.ro 8 rfl) (fun _ h => (Lk.at_ h (getI_spec he13G).2)))) (fun _ h => Lk.set h.1 h.2)) ?_
                                refine r_ste (k := 8) (o := 2) (vs := [.int .i64 y68.1]) ty3 rfl rfl rfl rfl rfl rfl rfl (set_he (getI_spec he13G).2) ((TItem.mk y67.1 e13.Places y68.1 e13.Parts), ge13) rfl rfl ?_
                                refine lj_nil ?_
                                refine cnI _ _ (sof2 rfl rfl (fun _ h => h.picks [7, 8, 8, 8] rfl)) ?_
                                refine at_take2 28 rfl (by kernel_rfl) (by kernel_rfl) (by kernel_rfl) (fun _ h => h.picks [0, 1, 1, 1] rfl) rfl rfl (p_ncs rfl hp79) (fun _ h => h.picks [7, 8, 8, 8] rfl) ?_
                                refine at_take2 29 rfl (by kernel_rfl) (by kernel_rfl) (by kernel_rfl) (fun _ h => h.picks [0, 1, 1, 1] rfl) rfl rfl (p_fas fl46_3 rfl hp79) (fun _ h => h.picks [7, 8, 8, 8] rfl) ?_
                                refine at_each (rs := [30]) (by kernel_rfl) (by decide) ?_
                                refine (.cons rfl (fun I cnI => ?_) .nil)
                                · refine r_fz 5 rfl ?_
                                  refine r_fact (F := Lk N46 (((y2.1.Items.set y12.1.toNat (TItem.mk y67.1 e13.Places e13.Long e13.Parts)).set y12.1.toNat (TItem.mk y67.1 e13.Places y68.1 e13.Parts)).set y12.1.toNat (TItem.mk y67.1 e13.Places y68.1 q74)) (((xg4.set y12.1.toNat ((TItem.mk y67.1 e13.Places e13.Long e13.Parts), ge13)).set y12.1.toNat ((TItem.mk y67.1 e13.Places y68.1 e13.Parts), ge13)).set y12.1.toNat ((TItem.mk y67.1 e13.Places y68.1 q74), s85))) (.imp (.and (.ro 1 rfl) (.ro 0 rfl)) (fun _ h => Lk.set h.1 h.2)) ?_
                                  refine r_ste (k := 9) (o := 3) (vs := [s85.v]) ty30 rfl rfl rfl rfl rfl rfl rfl (set_he (set_he (getI_spec he13G).2)) ((TItem.mk y67.1 e13.Places y68.1 q74), s85) rfl rfl ?_
                                  refine lj_nil ?_
                                  refine cnI _ _ (sof2 rfl rfl (fun _ h => h.picks [8, 9, 9, 9] rfl)) ?_
                                  refine at_done (by kernel_rfl) ?_
                                  refine nj_blk ?_
                                  refine nj_seq ?_
                                  refine cj_seq ?_
                                  refine cj_reg ?_
                                  refine lp rfl (p_lbw ty28 rfl (j := 8) rfl rfl) ?_
                                  refine r_sb (vs := [s3.v, .int .i64 y2.1.Change, .int .i64 y2.1.Clap, .int .i64 y2.1.Break, .int .i64 y2.1.Half]) (j := 11) ty28 rfl rfl rfl rfl rfl rfl rfl ?_
                                  refine lj_seq ?_
                                  obtain rfl := Option.some.inj hm
                                  exact cj_rt (s3, (((xg4.set y12.1.toNat ((TItem.mk y67.1 e13.Places e13.Long e13.Parts), ge13)).set y12.1.toNat ((TItem.mk y67.1 e13.Places y68.1 e13.Parts), ge13)).set y12.1.toNat ((TItem.mk y67.1 e13.Places y68.1 q74), s85))) [9, 0, 4] Tryd.results4 (.agg (k := 11) ty28 rfl rfl rfl .nil) rfl rfl
                  · refine r_bs R9 [(ByteArray.mk [122, 122].toArray), ByteArray.empty, (ByteArray.mk [97, 108, 116, 111].toArray)] rfl rfl rfl (fun _ => by kernel_rfl) rfl (fun s89 => ?_)
                    refine lj_nil ?_
                    refine cnI _ _ (sof1 rfl rfl (fun _ h => h.picks [3, 3, 3, 3, 3] rfl)) ?_
                    refine at_each (rs := [16]) (by kernel_rfl) (by decide) ?_
                    refine (.cons rfl (fun I cnI => ?_) .nil)
                    · refine r_call [] cf24 rfl rfl (ok_slices_Clone_string_string ge13 e13.Parts hy69) rfl rfl (.cons (.imp (.ro 5 rfl) (fun _ h => (Lk.at_ h (getI_spec he13G).2))) .nil) (fun _ => rfl) rfl (fun s90 => ?_)
                      refine lj_nil ?_
                      refine cnI _ _ (sof1 rfl rfl (fun _ h => h.picks [4, 4, 4, 4, 4] rfl)) ?_
                      refine at_each (rs := [19]) (by kernel_rfl) (by decide) ?_
                      refine (.cons rfl (fun I cnI => ?_) .nil)
                      · refine r_call [2] cf15 rfl rfl (ok_gleemake_Stream_Some b0_ s0_0_ a0_0 y68.2 s89 [(ByteArray.mk [122, 122].toArray), ByteArray.empty, (ByteArray.mk [97, 108, 116, 111].toArray)] hy72) rfl rfl (.cons (.ro 7 rfl) (.cons (.row 1 rfl) .nil)) (fun _ => rfl) rfl (fun _ => ?_)
                        refine lj_nil ?_
                        refine cnI _ _ (sof1 rfl rfl (fun _ h => h.picks [4, 4, 4, 4, 4] rfl)) ?_
                        refine at_each (rs := [20]) (by kernel_rfl) (by decide) ?_
                        refine (.cons rfl (fun I cnI => ?_) .nil)
                        · refine r_bs R9 [y72.1] rfl rfl rfl (fun _ => by kernel_rfl) rfl (fun s91 => ?_)
                          refine lj_nil ?_
                          refine cnI _ _ (sof1 rfl rfl (fun _ h => h.picks [5, 5, 5, 5, 5] rfl)) ?_
                          refine at_each (rs := [21]) (by kernel_rfl) (by decide) ?_
                          refine (.cons rfl (fun I cnI => ?_) .nil)
                          · refine r_app (k := 2) Tryd.underlying30 ty9 rfl rfl rfl rfl (.row 0 rfl) hq74 rfl (fun s92 => ?_)
                            refine lj_nil ?_
                            refine cnI _ _ (sof1 rfl rfl (fun _ h => h.picks [5, 5, 5, 5, 5] rfl)) ?_
                            refine at_take2 22 rfl (by kernel_rfl) (by kernel_rfl) (by kernel_rfl) (fun _ h => h.picks [0, 1, 1, 1] rfl) rfl rfl (p_ncs rfl hp79) (fun _ h => h.picks [5, 6, 6, 6] rfl) ?_
                            refine at_take2 23 rfl (by kernel_rfl) (by kernel_rfl) (by kernel_rfl) (fun _ h => h.picks [0, 1, 1, 1] rfl) rfl rfl (p_fas fl46_0 rfl hp79) (fun _ h => h.picks [5, 6, 6, 6] rfl) ?_
                            refine at_each (rs := [24]) (by kernel_rfl) (by decide) ?_
                            refine (.cons rfl (fun I cnI => ?_) .nil)
                            · refine r_fact (F := Lk N46 (y2.1.Items.set y12.1.toNat (TItem.mk y67.1 e13.Places e13.Long e13.Parts)) (xg4.set y12.1.toNat ((TItem.mk y67.1 e13.Places e13.Long e13.Parts), ge13))) (.imp (.and (.ro 7 rfl) (.imp (.ro 7 rfl) (fun _ h => (Lk.at_ h (getI_spec he13G).2)))) (fun _ h => Lk.set h.1 h.2)) ?_
                              refine r_ste (k := 7) (o := 0) (vs := [.string y67.1]) ty9 rfl rfl rfl rfl rfl rfl rfl (getI_spec he13G).2 ((TItem.mk y67.1 e13.Places e13.Long e13.Parts), ge13) rfl rfl ?_
                              refine lj_nil ?_
                              refine cnI _ _ (sof2 rfl rfl (fun _ h => h.picks [6, 7, 7, 7] rfl)) ?_
                              refine at_take2 25 rfl (by kernel_rfl) (by kernel_rfl) (by kernel_rfl) (fun _ h => h.picks [0, 1, 1, 1] rfl) rfl rfl (p_ncs rfl hp79) (fun _ h => h.picks [6, 7, 7, 7] rfl) ?_
                              refine at_take2 26 rfl (by kernel_rfl) (by kernel_rfl) (by kernel_rfl) (fun _ h => h.picks [0, 1, 1, 1] rfl) rfl rfl (p_fas fl46_2 rfl hp79) (fun _ h => h.picks [6, 7, 7, 7] rfl) ?_
                              refine at_each (rs := [27]) (by kernel_rfl) (by decide) ?_
                              refine (.cons rfl (fun I cnI => ?_) .nil)
                              · refine r_fact (F := Lk N46 ((y2.1.Items.set y12.1.toNat (TItem.mk y67.1 e13.Places e13.Long e13.Parts)).set y12.1.toNat (TItem.mk y67.1 e13.Places y68.1 e13.Parts)) ((xg4.set y12.1.toNat ((TItem.mk y67.1 e13.Places e13.Long e13.Parts), ge13)).set y12.1.toNat ((TItem.mk y67.1 e13.Places y68.1 e13.Parts), ge13))) (.imp (.and (.ro 0 rfl) (.imp (.ro 8 rfl) (fun _ h => (Lk.at_ h (getI_spec he13G).2)))) (fun _ h => Lk.set h.1 h.2)) ?_
                                refine r_ste (k := 8) (o := 2) (vs := [.int .i64 y68.1]) ty3 rfl rfl rfl rfl rfl rfl rfl (set_he (getI_spec he13G).2) ((TItem.mk y67.1 e13.Places y68.1 e13.Parts), ge13) rfl rfl ?_
                                refine lj_nil ?_
                                refine cnI _ _ (sof2 rfl rfl (fun _ h => h.picks [7, 8, 8, 8] rfl)) ?_
                                refine at_take2 28 rfl (by kernel_rfl) (by kernel_rfl) (by kernel_rfl) (fun _ h => h.picks [0, 1, 1, 1] rfl) rfl rfl (p_ncs rfl hp79) (fun _ h => h.picks [7, 8, 8, 8] rfl) ?_
                                refine at_take2 29 rfl (by kernel_rfl) (by kernel_rfl) (by kernel_rfl) (fun _ h => h.picks [0, 1, 1, 1] rfl) rfl rfl (p_fas fl46_3 rfl hp79) (fun _ h => h.picks [7, 8, 8, 8] rfl) ?_
                                refine at_each (rs := [30]) (by kernel_rfl) (by decide) ?_
                                refine (.cons rfl (fun I cnI => ?_) .nil)
                                · refine r_fz 4 rfl ?_
                                  refine r_fact (F := Lk N46 (((y2.1.Items.set y12.1.toNat (TItem.mk y67.1 e13.Places e13.Long e13.Parts)).set y12.1.toNat (TItem.mk y67.1 e13.Places y68.1 e13.Parts)).set y12.1.toNat (TItem.mk y67.1 e13.Places y68.1 q74)) (((xg4.set y12.1.toNat ((TItem.mk y67.1 e13.Places e13.Long e13.Parts), ge13)).set y12.1.toNat ((TItem.mk y67.1 e13.Places y68.1 e13.Parts), ge13)).set y12.1.toNat ((TItem.mk y67.1 e13.Places y68.1 q74), s92))) (.imp (.and (.ro 1 rfl) (.ro 0 rfl)) (fun _ h => Lk.set h.1 h.2)) ?_
                                  refine r_ste (k := 9) (o := 3) (vs := [s92.v]) ty30 rfl rfl rfl rfl rfl rfl rfl (set_he (set_he (getI_spec he13G).2)) ((TItem.mk y67.1 e13.Places y68.1 q74), s92) rfl rfl ?_
                                  refine lj_nil ?_
                                  refine cnI _ _ (sof2 rfl rfl (fun _ h => h.picks [8, 9, 9, 9] rfl)) ?_
                                  refine at_done (by kernel_rfl) ?_
                                  refine nj_blk ?_
                                  refine nj_seq ?_
                                  refine cj_seq ?_
                                  refine cj_reg ?_
                                  refine lp rfl (p_lbw ty28 rfl (j := 8) rfl rfl) ?_
                                  refine r_sb (vs := [s3.v, .int .i64 y2.1.Change, .int .i64 y2.1.Clap, .int .i64 y2.1.Break, .int .i64 y2.1.Half]) (j := 11) ty28 rfl rfl rfl rfl rfl rfl rfl ?_
                                  refine lj_seq ?_
                                  obtain rfl := Option.some.inj hm
                                  exact cj_rt (s3, (((xg4.set y12.1.toNat ((TItem.mk y67.1 e13.Places e13.Long e13.Parts), ge13)).set y12.1.toNat ((TItem.mk y67.1 e13.Places y68.1 e13.Parts), ge13)).set y12.1.toNat ((TItem.mk y67.1 e13.Places y68.1 q74), s92))) [9, 0, 4] Tryd.results4 (.agg (k := 11) ty28 rfl rfl rfl .nil) rfl rfl
                · refine r_bs R9 [(ByteArray.mk [122, 122].toArray), ByteArray.empty, (ByteArray.mk [97, 108, 116, 111].toArray)] rfl rfl rfl (fun _ => by kernel_rfl) rfl (fun s96 => ?_)
                  refine lj_nil ?_
                  refine cnI _ _ (sof1 rfl rfl (fun _ h => h.picks [3, 3, 3, 3, 3] rfl)) ?_
                  refine at_each (rs := [11]) (by kernel_rfl) (by decide) ?_
                  refine (.cons rfl (fun I cnI => ?_) .nil)
                  · refine r_call [1] cf23 rfl rfl (ok_gleemake_Stream_Odd b0_ s0_0_ a0_0 y67.2 1 86400000 hy68) rfl rfl (.cons (.ro 6 rfl) .nil) (fun _ => rfl) rfl (fun _ => ?_)
                    refine lj_nil ?_
                    refine cnI _ _ (sof1 rfl rfl (fun _ h => h.picks [3, 3, 3, 3, 3] rfl)) ?_
                    refine at_each (rs := [16]) (by kernel_rfl) (by decide) ?_
                    refine (.cons rfl (fun I cnI => ?_) .nil)
                    · refine r_call [] cf24 rfl rfl (ok_slices_Clone_string_string ge13 e13.Parts hy69) rfl rfl (.cons (.imp (.ro 5 rfl) (fun _ h => (Lk.at_ h (getI_spec he13G).2))) .nil) (fun _ => rfl) rfl (fun s97 => ?_)
                      refine lj_nil ?_
                      refine cnI _ _ (sof1 rfl rfl (fun _ h => h.picks [4, 4, 4, 4, 4] rfl)) ?_
                      refine at_each (rs := [19]) (by kernel_rfl) (by decide) ?_
                      refine (.cons rfl (fun I cnI => ?_) .nil)
                      · refine r_call [1] cf15 rfl rfl (ok_gleemake_Stream_Some b0_ s0_0_ a0_0 y68.2 s96 [(ByteArray.mk [122, 122].toArray), ByteArray.empty, (ByteArray.mk [97, 108, 116, 111].toArray)] hy72) rfl rfl (.cons (.ro 7 rfl) (.cons (.row 1 rfl) .nil)) (fun _ => rfl) rfl (fun _ => ?_)
                        refine lj_nil ?_
                        refine cnI _ _ (sof1 rfl rfl (fun _ h => h.picks [4, 4, 4, 4, 4] rfl)) ?_
                        refine at_each (rs := [20]) (by kernel_rfl) (by decide) ?_
                        refine (.cons rfl (fun I cnI => ?_) .nil)
                        · refine r_bs R9 [y72.1] rfl rfl rfl (fun _ => by kernel_rfl) rfl (fun s98 => ?_)
                          refine lj_nil ?_
                          refine cnI _ _ (sof1 rfl rfl (fun _ h => h.picks [5, 5, 5, 5, 5] rfl)) ?_
                          refine at_each (rs := [21]) (by kernel_rfl) (by decide) ?_
                          refine (.cons rfl (fun I cnI => ?_) .nil)
                          · refine r_app (k := 2) Tryd.underlying30 ty9 rfl rfl rfl rfl (.row 0 rfl) hq74 rfl (fun s99 => ?_)
                            refine lj_nil ?_
                            refine cnI _ _ (sof1 rfl rfl (fun _ h => h.picks [5, 5, 5, 5, 5] rfl)) ?_
                            refine at_take2 22 rfl (by kernel_rfl) (by kernel_rfl) (by kernel_rfl) (fun _ h => h.picks [0, 1, 1, 1] rfl) rfl rfl (p_ncs rfl hp79) (fun _ h => h.picks [5, 6, 6, 6] rfl) ?_
                            refine at_take2 23 rfl (by kernel_rfl) (by kernel_rfl) (by kernel_rfl) (fun _ h => h.picks [0, 1, 1, 1] rfl) rfl rfl (p_fas fl46_0 rfl hp79) (fun _ h => h.picks [5, 6, 6, 6] rfl) ?_
                            refine at_each (rs := [24]) (by kernel_rfl) (by decide) ?_
                            refine (.cons rfl (fun I cnI => ?_) .nil)
                            · refine r_fact (F := Lk N46 (y2.1.Items.set y12.1.toNat (TItem.mk y67.1 e13.Places e13.Long e13.Parts)) (xg4.set y12.1.toNat ((TItem.mk y67.1 e13.Places e13.Long e13.Parts), ge13))) (.imp (.and (.ro 7 rfl) (.imp (.ro 7 rfl) (fun _ h => (Lk.at_ h (getI_spec he13G).2)))) (fun _ h => Lk.set h.1 h.2)) ?_
                              refine r_ste (k := 7) (o := 0) (vs := [.string y67.1]) ty9 rfl rfl rfl rfl rfl rfl rfl (getI_spec he13G).2 ((TItem.mk y67.1 e13.Places e13.Long e13.Parts), ge13) rfl rfl ?_
                              refine lj_nil ?_
                              refine cnI _ _ (sof2 rfl rfl (fun _ h => h.picks [6, 7, 7, 7] rfl)) ?_
                              refine at_take2 25 rfl (by kernel_rfl) (by kernel_rfl) (by kernel_rfl) (fun _ h => h.picks [0, 1, 1, 1] rfl) rfl rfl (p_ncs rfl hp79) (fun _ h => h.picks [6, 7, 7, 7] rfl) ?_
                              refine at_take2 26 rfl (by kernel_rfl) (by kernel_rfl) (by kernel_rfl) (fun _ h => h.picks [0, 1, 1, 1] rfl) rfl rfl (p_fas fl46_2 rfl hp79) (fun _ h => h.picks [6, 7, 7, 7] rfl) ?_
                              refine at_each (rs := [27]) (by kernel_rfl) (by decide) ?_
                              refine (.cons rfl (fun I cnI => ?_) .nil)
                              · refine r_fact (F := Lk N46 ((y2.1.Items.set y12.1.toNat (TItem.mk y67.1 e13.Places e13.Long e13.Parts)).set y12.1.toNat (TItem.mk y67.1 e13.Places y68.1 e13.Parts)) ((xg4.set y12.1.toNat ((TItem.mk y67.1 e13.Places e13.Long e13.Parts), ge13)).set y12.1.toNat ((TItem.mk y67.1 e13.Places y68.1 e13.Parts), ge13))) (.imp (.and (.ro 0 rfl) (.imp (.ro 8 rfl) (fun _ h => (Lk.at_ h (getI_spec he13G).2)))) (fun _ h => Lk.set h.1 h.2)) ?_
                                refine r_ste (k := 8) (o := 2) (vs := [.int .i64 y68.1]) ty3 rfl rfl rfl rfl rfl rfl rfl (set_he (getI_spec he13G).2) ((TItem.mk y67.1 e13.Places y68.1 e13.Parts), ge13) rfl rfl ?_
                                refine lj_nil ?_
                                refine cnI _ _ (sof2 rfl rfl (fun _ h => h.picks [7, 8, 8, 8] rfl)) ?_
                                refine at_take2 28 rfl (by kernel_rfl) (by kernel_rfl) (by kernel_rfl) (fun _ h => h.picks [0, 1, 1, 1] rfl) rfl rfl (p_ncs rfl hp79) (fun _ h => h.picks [7, 8, 8, 8] rfl) ?_
                                refine at_take2 29 rfl (by kernel_rfl) (by kernel_rfl) (by kernel_rfl) (fun _ h => h.picks [0, 1, 1, 1] rfl) rfl rfl (p_fas fl46_3 rfl hp79) (fun _ h => h.picks [7, 8, 8, 8] rfl) ?_
                                refine at_each (rs := [30]) (by kernel_rfl) (by decide) ?_
                                refine (.cons rfl (fun I cnI => ?_) .nil)
                                · refine r_fz 4 rfl ?_
                                  refine r_fact (F := Lk N46 (((y2.1.Items.set y12.1.toNat (TItem.mk y67.1 e13.Places e13.Long e13.Parts)).set y12.1.toNat (TItem.mk y67.1 e13.Places y68.1 e13.Parts)).set y12.1.toNat (TItem.mk y67.1 e13.Places y68.1 q74)) (((xg4.set y12.1.toNat ((TItem.mk y67.1 e13.Places e13.Long e13.Parts), ge13)).set y12.1.toNat ((TItem.mk y67.1 e13.Places y68.1 e13.Parts), ge13)).set y12.1.toNat ((TItem.mk y67.1 e13.Places y68.1 q74), s99))) (.imp (.and (.ro 1 rfl) (.ro 0 rfl)) (fun _ h => Lk.set h.1 h.2)) ?_
                                  refine r_ste (k := 9) (o := 3) (vs := [s99.v]) ty30 rfl rfl rfl rfl rfl rfl rfl (set_he (set_he (getI_spec he13G).2)) ((TItem.mk y67.1 e13.Places y68.1 q74), s99) rfl rfl ?_
                                  refine lj_nil ?_
                                  refine cnI _ _ (sof2 rfl rfl (fun _ h => h.picks [8, 9, 9, 9] rfl)) ?_
                                  refine at_done (by kernel_rfl) ?_
                                  refine nj_blk ?_
                                  refine nj_seq ?_
                                  refine cj_seq ?_
                                  refine cj_reg ?_
                                  refine lp rfl (p_lbw ty28 rfl (j := 8) rfl rfl) ?_
                                  refine r_sb (vs := [s3.v, .int .i64 y2.1.Change, .int .i64 y2.1.Clap, .int .i64 y2.1.Break, .int .i64 y2.1.Half]) (j := 11) ty28 rfl rfl rfl rfl rfl rfl rfl ?_
                                  refine lj_seq ?_
                                  obtain rfl := Option.some.inj hm
                                  exact cj_rt (s3, (((xg4.set y12.1.toNat ((TItem.mk y67.1 e13.Places e13.Long e13.Parts), ge13)).set y12.1.toNat ((TItem.mk y67.1 e13.Places y68.1 e13.Parts), ge13)).set y12.1.toNat ((TItem.mk y67.1 e13.Places y68.1 q74), s99))) [9, 0, 4] Tryd.results4 (.agg (k := 11) ty28 rfl rfl rfl .nil) rfl rfl
              · refine r_bs R9 [(ByteArray.mk [122, 122].toArray), ByteArray.empty, (ByteArray.mk [97, 108, 116, 111].toArray)] rfl rfl rfl (fun _ => by kernel_rfl) rfl (fun s103 => ?_)
                refine lj_nil ?_
                refine cnI _ _ (sof1 rfl rfl (fun _ h => h.picks [3, 3, 3, 3, 3] rfl)) ?_
                refine at_each (rs := [9]) (by kernel_rfl) (by decide) ?_
                refine (.cons rfl (fun I cnI => ?_) .nil)
                · refine r_call [2] cf15 rfl rfl (ok_gleemake_Stream_Some b0_ s0_0_ a0_0 y12.2 s81 [e13.Key, ByteArray.empty, (ByteArray.mk [97].toArray)] hy67) rfl rfl (.cons (.ro 6 rfl) (.cons (.row 1 rfl) .nil)) (fun _ => rfl) rfl (fun _ => ?_)
                  refine lj_nil ?_
                  refine cnI _ _ (sof1 rfl rfl (fun _ h => h.picks [3, 3, 3, 3, 3] rfl)) ?_
                  refine at_each (rs := [11]) (by kernel_rfl) (by decide) ?_
                  refine (.cons rfl (fun I cnI => ?_) .nil)
                  · refine r_call [0] cf23 rfl rfl (ok_gleemake_Stream_Odd b0_ s0_0_ a0_0 y67.2 1 86400000 hy68) rfl rfl (.cons (.ro 6 rfl) .nil) (fun _ => rfl) rfl (fun _ => ?_)
                    refine lj_nil ?_
                    refine cnI _ _ (sof1 rfl rfl (fun _ h => h.picks [3, 3, 3, 3, 3] rfl)) ?_
                    refine at_each (rs := [16]) (by kernel_rfl) (by decide) ?_
                    refine (.cons rfl (fun I cnI => ?_) .nil)
                    · refine r_call [] cf24 rfl rfl (ok_slices_Clone_string_string ge13 e13.Parts hy69) rfl rfl (.cons (.imp (.ro 5 rfl) (fun _ h => (Lk.at_ h (getI_spec he13G).2))) .nil) (fun _ => rfl) rfl (fun s104 => ?_)
                      refine lj_nil ?_
                      refine cnI _ _ (sof1 rfl rfl (fun _ h => h.picks [4, 4, 4, 4, 4] rfl)) ?_
                      refine at_each (rs := [19]) (by kernel_rfl) (by decide) ?_
                      refine (.cons rfl (fun I cnI => ?_) .nil)
                      · refine r_call [1] cf15 rfl rfl (ok_gleemake_Stream_Some b0_ s0_0_ a0_0 y68.2 s103 [(ByteArray.mk [122, 122].toArray), ByteArray.empty, (ByteArray.mk [97, 108, 116, 111].toArray)] hy72) rfl rfl (.cons (.ro 7 rfl) (.cons (.row 1 rfl) .nil)) (fun _ => rfl) rfl (fun _ => ?_)
                        refine lj_nil ?_
                        refine cnI _ _ (sof1 rfl rfl (fun _ h => h.picks [4, 4, 4, 4, 4] rfl)) ?_
                        refine at_each (rs := [20]) (by kernel_rfl) (by decide) ?_
                        refine (.cons rfl (fun I cnI => ?_) .nil)
                        · refine r_bs R9 [y72.1] rfl rfl rfl (fun _ => by kernel_rfl) rfl (fun s105 => ?_)
                          refine lj_nil ?_
                          refine cnI _ _ (sof1 rfl rfl (fun _ h => h.picks [5, 5, 5, 5, 5] rfl)) ?_
                          refine at_each (rs := [21]) (by kernel_rfl) (by decide) ?_
                          refine (.cons rfl (fun I cnI => ?_) .nil)
                          · refine r_app (k := 2) Tryd.underlying30 ty9 rfl rfl rfl rfl (.row 0 rfl) hq74 rfl (fun s106 => ?_)
                            refine lj_nil ?_
                            refine cnI _ _ (sof1 rfl rfl (fun _ h => h.picks [5, 5, 5, 5, 5] rfl)) ?_
                            refine at_take2 22 rfl (by kernel_rfl) (by kernel_rfl) (by kernel_rfl) (fun _ h => h.picks [0, 1, 1, 1] rfl) rfl rfl (p_ncs rfl hp79) (fun _ h => h.picks [5, 6, 6, 6] rfl) ?_
                            refine at_take2 23 rfl (by kernel_rfl) (by kernel_rfl) (by kernel_rfl) (fun _ h => h.picks [0, 1, 1, 1] rfl) rfl rfl (p_fas fl46_0 rfl hp79) (fun _ h => h.picks [5, 6, 6, 6] rfl) ?_
                            refine at_each (rs := [24]) (by kernel_rfl) (by decide) ?_
                            refine (.cons rfl (fun I cnI => ?_) .nil)
                            · refine r_fact (F := Lk N46 (y2.1.Items.set y12.1.toNat (TItem.mk y67.1 e13.Places e13.Long e13.Parts)) (xg4.set y12.1.toNat ((TItem.mk y67.1 e13.Places e13.Long e13.Parts), ge13))) (.imp (.and (.ro 7 rfl) (.imp (.ro 7 rfl) (fun _ h => (Lk.at_ h (getI_spec he13G).2)))) (fun _ h => Lk.set h.1 h.2)) ?_
                              refine r_ste (k := 7) (o := 0) (vs := [.string y67.1]) ty9 rfl rfl rfl rfl rfl rfl rfl (getI_spec he13G).2 ((TItem.mk y67.1 e13.Places e13.Long e13.Parts), ge13) rfl rfl ?_
                              refine lj_nil ?_
                              refine cnI _ _ (sof2 rfl rfl (fun _ h => h.picks [6, 7, 7, 7] rfl)) ?_
                              refine at_take2 25 rfl (by kernel_rfl) (by kernel_rfl) (by kernel_rfl) (fun _ h => h.picks [0, 1, 1, 1] rfl) rfl rfl (p_ncs rfl hp79) (fun _ h => h.picks [6, 7, 7, 7] rfl) ?_
                              refine at_take2 26 rfl (by kernel_rfl) (by kernel_rfl) (by kernel_rfl) (fun _ h => h.picks [0, 1, 1, 1] rfl) rfl rfl (p_fas fl46_2 rfl hp79) (fun _ h => h.picks [6, 7, 7, 7] rfl) ?_
                              refine at_each (rs := [27]) (by kernel_rfl) (by decide) ?_
                              refine (.cons rfl (fun I cnI => ?_) .nil)
                              · refine r_fact (F := Lk N46 ((y2.1.Items.set y12.1.toNat (TItem.mk y67.1 e13.Places e13.Long e13.Parts)).set y12.1.toNat (TItem.mk y67.1 e13.Places y68.1 e13.Parts)) ((xg4.set y12.1.toNat ((TItem.mk y67.1 e13.Places e13.Long e13.Parts), ge13)).set y12.1.toNat ((TItem.mk y67.1 e13.Places y68.1 e13.Parts), ge13))) (.imp (.and (.ro 0 rfl) (.imp (.ro 8 rfl) (fun _ h => (Lk.at_ h (getI_spec he13G).2)))) (fun _ h => Lk.set h.1 h.2)) ?_
                                refine r_ste (k := 8) (o := 2) (vs := [.int .i64 y68.1]) ty3 rfl rfl rfl rfl rfl rfl rfl (set_he (getI_spec he13G).2) ((TItem.mk y67.1 e13.Places y68.1 e13.Parts), ge13) rfl rfl ?_
                                refine lj_nil ?_
                                refine cnI _ _ (sof2 rfl rfl (fun _ h => h.picks [7, 8, 8, 8] rfl)) ?_
                                refine at_take2 28 rfl (by kernel_rfl) (by kernel_rfl) (by kernel_rfl) (fun _ h => h.picks [0, 1, 1, 1] rfl) rfl rfl (p_ncs rfl hp79) (fun _ h => h.picks [7, 8, 8, 8] rfl) ?_
                                refine at_take2 29 rfl (by kernel_rfl) (by kernel_rfl) (by kernel_rfl) (fun _ h => h.picks [0, 1, 1, 1] rfl) rfl rfl (p_fas fl46_3 rfl hp79) (fun _ h => h.picks [7, 8, 8, 8] rfl) ?_
                                refine at_each (rs := [30]) (by kernel_rfl) (by decide) ?_
                                refine (.cons rfl (fun I cnI => ?_) .nil)
                                · refine r_fz 4 rfl ?_
                                  refine r_fact (F := Lk N46 (((y2.1.Items.set y12.1.toNat (TItem.mk y67.1 e13.Places e13.Long e13.Parts)).set y12.1.toNat (TItem.mk y67.1 e13.Places y68.1 e13.Parts)).set y12.1.toNat (TItem.mk y67.1 e13.Places y68.1 q74)) (((xg4.set y12.1.toNat ((TItem.mk y67.1 e13.Places e13.Long e13.Parts), ge13)).set y12.1.toNat ((TItem.mk y67.1 e13.Places y68.1 e13.Parts), ge13)).set y12.1.toNat ((TItem.mk y67.1 e13.Places y68.1 q74), s106))) (.imp (.and (.ro 1 rfl) (.ro 0 rfl)) (fun _ h => Lk.set h.1 h.2)) ?_
                                  refine r_ste (k := 9) (o := 3) (vs := [s106.v]) ty30 rfl rfl rfl rfl rfl rfl rfl (set_he (set_he (getI_spec he13G).2)) ((TItem.mk y67.1 e13.Places y68.1 q74), s106) rfl rfl ?_
                                  refine lj_nil ?_
                                  refine cnI _ _ (sof2 rfl rfl (fun _ h => h.picks [8, 9, 9, 9] rfl)) ?_
                                  refine at_done (by kernel_rfl) ?_
                                  refine nj_blk ?_
                                  refine nj_seq ?_
                                  refine cj_seq ?_
                                  refine cj_reg ?_
                                  refine lp rfl (p_lbw ty28 rfl (j := 8) rfl rfl) ?_
                                  refine r_sb (vs := [s3.v, .int .i64 y2.1.Change, .int .i64 y2.1.Clap, .int .i64 y2.1.Break, .int .i64 y2.1.Half]) (j := 11) ty28 rfl rfl rfl rfl rfl rfl rfl ?_
                                  refine lj_seq ?_
                                  obtain rfl := Option.some.inj hm
                                  exact cj_rt (s3, (((xg4.set y12.1.toNat ((TItem.mk y67.1 e13.Places e13.Long e13.Parts), ge13)).set y12.1.toNat ((TItem.mk y67.1 e13.Places y68.1 e13.Parts), ge13)).set y12.1.toNat ((TItem.mk y67.1 e13.Places y68.1 q74), s106))) [9, 0, 4] Tryd.results4 (.agg (k := 11) ty28 rfl rfl rfl .nil) rfl rfl
            · refine r_bs R9 [(ByteArray.mk [122, 122].toArray), ByteArray.empty, (ByteArray.mk [97, 108, 116, 111].toArray)] rfl rfl rfl (fun _ => by kernel_rfl) rfl (fun s110 => ?_)
              refine lj_nil ?_
              refine cnI _ _ (sof1 rfl rfl (fun _ h => h.picks [2, 2, 2, 2, 2] rfl)) ?_
              refine at_each (rs := [8]) (by kernel_rfl) (by decide) ?_
              refine (.cons rfl (fun I cnI => ?_) .nil)
              · refine r_bs R9 [e13.Key, ByteArray.empty, (ByteArray.mk [97].toArray)] rfl rfl rfl (fun _ => by kernel_rfl) rfl (fun s111 => ?_)
                refine lj_nil ?_
                refine cnI _ _ (sof1 rfl rfl (fun _ h => h.picks [3, 3, 3, 3, 3] rfl)) ?_
                refine at_each (rs := [9]) (by kernel_rfl) (by decide) ?_
                refine (.cons rfl (fun I cnI => ?_) .nil)
                · refine r_call [2] cf15 rfl rfl (ok_gleemake_Stream_Some b0_ s0_0_ a0_0 y12.2 s111 [e13.Key, ByteArray.empty, (ByteArray.mk [97].toArray)] hy67) rfl rfl (.cons (.ro 6 rfl) (.cons (.row 0 rfl) .nil)) (fun _ => rfl) rfl (fun _ => ?_)
                  refine lj_nil ?_
                  refine cnI _ _ (sof1 rfl rfl (fun _ h => h.picks [3, 3, 3, 3, 3] rfl)) ?_
                  refine at_each (rs := [11]) (by kernel_rfl) (by decide) ?_
                  refine (.cons rfl (fun I cnI => ?_) .nil)
                  · refine r_call [0] cf23 rfl rfl (ok_gleemake_Stream_Odd b0_ s0_0_ a0_0 y67.2 1 86400000 hy68) rfl rfl (.cons (.ro 6 rfl) .nil) (fun _ => rfl) rfl (fun _ => ?_)
                    refine lj_nil ?_
                    refine cnI _ _ (sof1 rfl rfl (fun _ h => h.picks [3, 3, 3, 3, 3] rfl)) ?_
                    refine at_each (rs := [16]) (by kernel_rfl) (by decide) ?_
                    refine (.cons rfl (fun I cnI => ?_) .nil)
                    · refine r_call [] cf24 rfl rfl (ok_slices_Clone_string_string ge13 e13.Parts hy69) rfl rfl (.cons (.imp (.ro 5 rfl) (fun _ h => (Lk.at_ h (getI_spec he13G).2))) .nil) (fun _ => rfl) rfl (fun s112 => ?_)
                      refine lj_nil ?_
                      refine cnI _ _ (sof1 rfl rfl (fun _ h => h.picks [4, 4, 4, 4, 4] rfl)) ?_
                      refine at_each (rs := [19]) (by kernel_rfl) (by decide) ?_
                      refine (.cons rfl (fun I cnI => ?_) .nil)
                      · refine r_call [1] cf15 rfl rfl (ok_gleemake_Stream_Some b0_ s0_0_ a0_0 y68.2 s110 [(ByteArray.mk [122, 122].toArray), ByteArray.empty, (ByteArray.mk [97, 108, 116, 111].toArray)] hy72) rfl rfl (.cons (.ro 7 rfl) (.cons (.row 2 rfl) .nil)) (fun _ => rfl) rfl (fun _ => ?_)
                        refine lj_nil ?_
                        refine cnI _ _ (sof1 rfl rfl (fun _ h => h.picks [4, 4, 4, 4, 4] rfl)) ?_
                        refine at_each (rs := [20]) (by kernel_rfl) (by decide) ?_
                        refine (.cons rfl (fun I cnI => ?_) .nil)
                        · refine r_bs R9 [y72.1] rfl rfl rfl (fun _ => by kernel_rfl) rfl (fun s113 => ?_)
                          refine lj_nil ?_
                          refine cnI _ _ (sof1 rfl rfl (fun _ h => h.picks [5, 5, 5, 5, 5] rfl)) ?_
                          refine at_each (rs := [21]) (by kernel_rfl) (by decide) ?_
                          refine (.cons rfl (fun I cnI => ?_) .nil)
                          · refine r_app (k := 2) Tryd.underlying30 ty9 rfl rfl rfl rfl (.row 0 rfl) hq74 rfl (fun s114 => ?_)
                            refine lj_nil ?_
                            refine cnI _ _ (sof1 rfl rfl (fun _ h => h.picks [5, 5, 5, 5, 5] rfl)) ?_
                            refine at_take2 22 rfl (by kernel_rfl) (by kernel_rfl) (by kernel_rfl) (fun _ h => h.picks [0, 1, 1, 1] rfl) rfl rfl (p_ncs rfl hp79) (fun _ h => h.picks [5, 6, 6, 6] rfl) ?_
                            refine at_take2 23 rfl (by kernel_rfl) (by kernel_rfl) (by kernel_rfl) (fun _ h => h.picks [0, 1, 1, 1] rfl) rfl rfl (p_fas fl46_0 rfl hp79) (fun _ h => h.picks [5, 6, 6, 6] rfl) ?_
                            refine at_each (rs := [24]) (by kernel_rfl) (by decide) ?_
                            refine (.cons rfl (fun I cnI => ?_) .nil)
                            · refine r_fact (F := Lk N46 (y2.1.Items.set y12.1.toNat (TItem.mk y67.1 e13.Places e13.Long e13.Parts)) (xg4.set y12.1.toNat ((TItem.mk y67.1 e13.Places e13.Long e13.Parts), ge13))) (.imp (.and (.ro 7 rfl) (.imp (.ro 7 rfl) (fun _ h => (Lk.at_ h (getI_spec he13G).2)))) (fun _ h => Lk.set h.1 h.2)) ?_
                              refine r_ste (k := 7) (o := 0) (vs := [.string y67.1]) ty9 rfl rfl rfl rfl rfl rfl rfl (getI_spec he13G).2 ((TItem.mk y67.1 e13.Places e13.Long e13.Parts), ge13) rfl rfl ?_
                              refine lj_nil ?_
                              refine cnI _ _ (sof2 rfl rfl (fun _ h => h.picks [6, 7, 7, 7] rfl)) ?_
                              refine at_take2 25 rfl (by kernel_rfl) (by kernel_rfl) (by kernel_rfl) (fun _ h => h.picks [0, 1, 1, 1] rfl) rfl rfl (p_ncs rfl hp79) (fun _ h => h.picks [6, 7, 7, 7] rfl) ?_
                              refine at_take2 26 rfl (by kernel_rfl) (by kernel_rfl) (by kernel_rfl) (fun _ h => h.picks [0, 1, 1, 1] rfl) rfl rfl (p_fas fl46_2 rfl hp79) (fun _ h => h.picks [6, 7, 7, 7] rfl) ?_
                              refine at_each (rs := [27]) (by kernel_rfl) (by decide) ?_
                              refine (.cons rfl (fun I cnI => ?_) .nil)
                              · refine r_fact (F := Lk N46 ((y2.1.Items.set y12.1.toNat (TItem.mk y67.1 e13.Places e13.Long e13.Parts)).set y12.1.toNat (TItem.mk y67.1 e13.Places y68.1 e13.Parts)) ((xg4.set y12.1.toNat ((TItem.mk y67.1 e13.Places e13.Long e13.Parts), ge13)).set y12.1.toNat ((TItem.mk y67.1 e13.Places y68.1 e13.Parts), ge13))) (.imp (.and (.ro 0 rfl) (.imp (.ro 8 rfl) (fun _ h => (Lk.at_ h (getI_spec he13G).2)))) (fun _ h => Lk.set h.1 h.2)) ?_
                                refine r_ste (k := 8) (o := 2) (vs := [.int .i64 y68.1]) ty3 rfl rfl rfl rfl rfl rfl rfl (set_he (getI_spec he13G).2) ((TItem.mk y67.1 e13.Places y68.1 e13.Parts), ge13) rfl rfl ?_
                                refine lj_nil ?_
                                refine cnI _ _ (sof2 rfl rfl (fun _ h => h.picks [7, 8, 8, 8] rfl)) ?_
                                refine at_take2 28 rfl (by kernel_rfl) (by kernel_rfl) (by kernel_rfl) (fun _ h => h.picks [0, 1, 1, 1] rfl) rfl rfl (p_ncs rfl hp79) (fun _ h => h.picks [7, 8, 8, 8] rfl) ?_
                                refine at_take2 29 rfl (by kernel_rfl) (by kernel_rfl) (by kernel_rfl) (fun _ h => h.picks [0, 1, 1, 1] rfl) rfl rfl (p_fas fl46_3 rfl hp79) (fun _ h => h.picks [7, 8, 8, 8] rfl) ?_
                                refine at_each (rs := [30]) (by kernel_rfl) (by decide) ?_
                                refine (.cons rfl (fun I cnI => ?_) .nil)
                                · refine r_fz 4 rfl ?_
                                  refine r_fact (F := Lk N46 (((y2.1.Items.set y12.1.toNat (TItem.mk y67.1 e13.Places e13.Long e13.Parts)).set y12.1.toNat (TItem.mk y67.1 e13.Places y68.1 e13.Parts)).set y12.1.toNat (TItem.mk y67.1 e13.Places y68.1 q74)) (((xg4.set y12.1.toNat ((TItem.mk y67.1 e13.Places e13.Long e13.Parts), ge13)).set y12.1.toNat ((TItem.mk y67.1 e13.Places y68.1 e13.Parts), ge13)).set y12.1.toNat ((TItem.mk y67.1 e13.Places y68.1 q74), s114))) (.imp (.and (.ro 1 rfl) (.ro 0 rfl)) (fun _ h => Lk.set h.1 h.2)) ?_
                                  refine r_ste (k := 9) (o := 3) (vs := [s114.v]) ty30 rfl rfl rfl rfl rfl rfl rfl (set_he (set_he (getI_spec he13G).2)) ((TItem.mk y67.1 e13.Places y68.1 q74), s114) rfl rfl ?_
                                  refine lj_nil ?_
                                  refine cnI _ _ (sof2 rfl rfl (fun _ h => h.picks [8, 9, 9, 9] rfl)) ?_
                                  refine at_done (by kernel_rfl) ?_
                                  refine nj_blk ?_
                                  refine nj_seq ?_
                                  refine cj_seq ?_
                                  refine cj_reg ?_
                                  refine lp rfl (p_lbw ty28 rfl (j := 8) rfl rfl) ?_
                                  refine r_sb (vs := [s3.v, .int .i64 y2.1.Change, .int .i64 y2.1.Clap, .int .i64 y2.1.Break, .int .i64 y2.1.Half]) (j := 11) ty28 rfl rfl rfl rfl rfl rfl rfl ?_
                                  refine lj_seq ?_
                                  obtain rfl := Option.some.inj hm
                                  exact cj_rt (s3, (((xg4.set y12.1.toNat ((TItem.mk y67.1 e13.Places e13.Long e13.Parts), ge13)).set y12.1.toNat ((TItem.mk y67.1 e13.Places y68.1 e13.Parts), ge13)).set y12.1.toNat ((TItem.mk y67.1 e13.Places y68.1 q74), s114))) [9, 0, 4] Tryd.results4 (.agg (k := 11) ty28 rfl rfl rfl .nil) rfl rfl
        · have hm := ifB_f hb hm
          refine cj_skip ?_
          refine nj_blk ?_
          refine nj_seq ?_
          refine cj_seq ?_
          refine cj_reg ?_
          refine lp rfl (p_lbw ty28 rfl (j := 1) rfl rfl) ?_
          refine r_sb (vs := [s3.v, .int .i64 y2.1.Change, .int .i64 y2.1.Clap, .int .i64 y2.1.Break, .int .i64 y2.1.Half]) (j := 4) ty28 rfl rfl rfl rfl rfl rfl rfl ?_
          refine lj_seq ?_
          obtain rfl := Option.some.inj hm
          exact cj_rt (s3, xg4) [2, 2, 0] Tryd.results4 (.agg (k := 4) ty28 rfl rfl rfl .nil) rfl rfl
  · have hm := ifB_f hb hm
    refine cj_skip ?_
    refine nj_seq ?_
    refine cj_seq ?_
    refine cj_reg ?_
    refine lp rfl (p_lbw ty28 rfl (j := 1) rfl rfl) ?_
    refine r_sb (vs := [s3.v, .int .i64 y2.1.Change, .int .i64 y2.1.Clap, .int .i64 y2.1.Break, .int .i64 y2.1.Half]) (j := 4) ty28 rfl rfl rfl rfl rfl rfl rfl ?_
    refine lj_seq ?_
    obtain rfl := Option.some.inj hm
    exact cj_rt (s3, xg4) [2, 2, 0] Tryd.results4 (.agg (k := 4) ty28 rfl rfl rfl .nil) rfl rfl
theorem ok_kit_IsKey (a0 : ByteArray) {r : Bool} (hm : m_kit_IsKey a0 = some r) :
    Ctr Tryd.prog 65 [.string a0].toArray ([] : List Ent) [] (X := Unit) (fun _ => .bool r) (fun _ => []) := by
  unfold m_kit_IsKey at hm
  refine ctr_mk (vs := [(0, .string a0)]) Tryd.func65 rfl Tryd.ntmps65 rfl ⟨rfl, trivial⟩ (fun w0 A => ?_)
  refine cj_seq ?_
  refine cj_reg ?_
  refine lp rfl (p_as rfl) ?_
  refine lj_seq ?_
  refine cj_seq ?_
  refine cj_reg ?_
  refine lp rfl (p_mv rfl) ?_
  refine lp rfl (p_nes rfl rfl) ?_
  refine lp rfl (p_mv rfl) ?_
  refine lcase (i := 5) (!(a0.toList == ByteArray.empty.toList)) rfl (fun hb => ?_) (fun hb => ?_)
  · have hm := ifB_t hb hm
    refine lg true rfl rfl rfl ?_
    refine lp rfl (p_mv rfl) ?_
    refine lg true rfl rfl rfl ?_
    refine lp rfl (p_lens Tryd.underlying9 rfl) ?_
    refine lg true rfl rfl rfl ?_
    refine lp rfl (p_leq rfl rfl) ?_
    refine lp rfl (p_pkt rfl rfl) ?_
    refine lp rfl (p_mv rfl) ?_
    refine lcase (i := 10) (decide ((a0.size : Int) ≤ 40)) rfl (fun hb => ?_) (fun hb => ?_)
    · have hm := ifB_t hb hm
      refine lg true rfl rfl rfl ?_
      refine lp rfl (p_mv rfl) ?_
      refine lg true rfl rfl rfl ?_
      obtain ⟨c1, hc1, hm⟩ := bindS hm
      refine lp rfl (p_stri Tryd.underlying9 rfl rfl hc1) ?_
      refine lg true rfl rfl rfl ?_
      obtain ⟨y2, hy2, hm⟩ := bindS hm
      refine r_call [] cf76 rfl rfl (ok_strings_IndexByte (ByteArray.mk [97, 98, 99, 100, 101, 102, 103, 104, 105, 106, 107, 108, 109, 110, 111, 112, 113, 114, 115, 116, 117, 118, 119, 120, 121, 122].toArray) c1 hy2) rfl rfl .nil (fun _ => rfl) rfl (fun _ => ?_)
      refine lg true rfl rfl rfl ?_
      refine lp rfl (p_geq rfl rfl) ?_
      refine lp rfl (p_pkt rfl rfl) ?_
      refine lp rfl (p_mv rfl) ?_
      refine lcase (i := 16) (decide (y2 ≥ 0)) rfl (fun hb => ?_) (fun hb => ?_)
      · have hm := ifB_t hb hm
        refine lg true rfl rfl rfl ?_
        refine lp rfl (p_mv rfl) ?_
        refine lg true rfl rfl rfl ?_
        obtain ⟨y3, hy3, hm⟩ := bindS hm
        refine r_call [] cf77 rfl rfl (ok_strings_Trim a0 (ByteArray.mk [97, 98, 99, 100, 101, 102, 103, 104, 105, 106, 107, 108, 109, 110, 111, 112, 113, 114, 115, 116, 117, 118, 119, 120, 121, 122, 48, 49, 50, 51, 52, 53, 54, 55, 56, 57, 45, 95].toArray) hy3) rfl rfl .nil (fun _ => rfl) rfl (fun _ => ?_)
        refine lg true rfl rfl rfl ?_
        refine lp rfl (p_eqs rfl rfl) ?_
        refine lp rfl (p_pkt rfl rfl) ?_
        refine lp rfl (p_as rfl) ?_
        refine lj_seq ?_
        obtain rfl := Option.some.inj hm
        exact cj_rt () [] Tryd.results65 (.tmp rfl .nil) rfl rfl
      · have hm := ifB_f hb hm
        refine ls true rfl rfl rfl rfl ?_
        refine ls true rfl rfl rfl rfl ?_
        refine ls true rfl rfl rfl rfl ?_
        refine lp rfl (p_pkf rfl rfl) ?_
        refine lp rfl (p_as rfl) ?_
        refine lj_seq ?_
        obtain rfl := Option.some.inj hm
        exact cj_rt () [] Tryd.results65 (.tmp rfl .nil) rfl rfl
    · have hm := ifB_f hb hm
      refine ls true rfl rfl rfl rfl ?_
      refine ls true rfl rfl rfl rfl ?_
      refine ls true rfl rfl rfl rfl ?_
      refine ls true rfl rfl rfl rfl ?_
      refine lp rfl (p_pkf rfl rfl) ?_
      refine lp rfl (p_mv rfl) ?_
      refine ls true rfl rfl rfl rfl ?_
      refine ls true rfl rfl rfl rfl ?_
      refine ls true rfl rfl rfl rfl ?_
      refine lp rfl (p_pkf rfl rfl) ?_
      refine lp rfl (p_as rfl) ?_
      refine lj_seq ?_
      obtain rfl := Option.some.inj hm
      exact cj_rt () [] Tryd.results65 (.tmp rfl .nil) rfl rfl
  · have hm := ifB_f hb hm
    refine ls true rfl rfl rfl rfl ?_
    refine ls true rfl rfl rfl rfl ?_
    refine ls true rfl rfl rfl rfl ?_
    refine lp rfl (p_pkf rfl rfl) ?_
    refine lp rfl (p_mv rfl) ?_
    refine ls true rfl rfl rfl rfl ?_
    refine ls true rfl rfl rfl rfl ?_
    refine ls true rfl rfl rfl rfl ?_
    refine ls true rfl rfl rfl rfl ?_
    refine lp rfl (p_pkf rfl rfl) ?_
    refine lp rfl (p_mv rfl) ?_
    refine ls true rfl rfl rfl rfl ?_
    refine ls true rfl rfl rfl rfl ?_
    refine ls true rfl rfl rfl rfl ?_
    refine lp rfl (p_pkf rfl rfl) ?_
    refine lp rfl (p_as rfl) ?_
    refine lj_seq ?_
    obtain rfl := Option.some.inj hm
    exact cj_rt () [] Tryd.results65 (.tmp rfl .nil) rfl rfl
theorem ok_concert_CheckItems_1 (a0 : TItem) (s0_3_ : SV) (b1_ : Nat) (a1_0 : ByteArray) (a1_1 : ByteArray) (a1_2 : Int) (s1_3_ : SV) (a1_3 : (List ByteArray)) {r : Bool} (hm : m_concert_CheckItems_1 a0 a1_0 a1_1 a1_2 a1_3 = some r) :
    Ctr Tryd.prog 67 [.agg [.string a0.Key, .string a0.Places, .int .i64 a0.Long, s0_3_.v].toArray, .pointer (some ⟨b1_, 0, none⟩)].toArray ([] : List Ent) [RdS R9 (SV.v s0_3_) a0.Parts, BoxS b1_ 46 [.string a1_0, .string a1_1, .int .i64 a1_2, s1_3_.v], RdS R9 (SV.v s1_3_) a1_3] (X := Unit) (fun _ => .bool r) (fun _ => []) := by
  unfold m_concert_CheckItems_1 at hm
  refine ctr_mk (vs := [(0, .agg [.string a0.Key, .string a0.Places, .int .i64 a0.Long, s0_3_.v].toArray), (1, .pointer (some ⟨b1_, 0, none⟩))]) Tryd.func67 rfl Tryd.ntmps67 rfl ⟨rfl, rfl, trivial⟩ (fun w0 A => ?_)
  refine cj_seq ?_
  refine cj_reg ?_
  refine r_bx (cs := [.string a0.Key, .string a0.Places, .int .i64 a0.Long, s0_3_.v]) rfl rfl rfl (fun b1 => ?_)
  refine lp rfl (p_as rfl) ?_
  refine lj_seq ?_
  refine cj_seq ?_
  refine cj_reg ?_
  refine lp rfl (p_fab fl46_0 rfl) ?_
  refine lp rfl (p_lbs ty9 rfl (j := 0) rfl rfl) ?_
  refine lp rfl (p_fab fl46_0 rfl) ?_
  refine lp rfl (p_rbs ty9 rfl (.ro 2 rfl) rfl) ?_
  refine lp rfl (p_eqs rfl rfl) ?_
  refine lp rfl (p_as rfl) ?_
  refine lj_seq ?_
  obtain rfl := Option.some.inj hm
  exact cj_rt () [] Tryd.results67 (.tmp rfl .nil) rfl rfl
theorem ok_slices_IndexFunc_api_Item_api_Item__concert_CheckItems_1 (s0_ : SV) (xg0_ : List (TItem × SV)) (a0 : (List TItem)) (b1_c0_ : Nat) (a1_c0_0 : ByteArray) (a1_c0_1 : ByteArray) (a1_c0_2 : Int) (s1_c0_3_ : SV) (a1_c0_3 : (List ByteArray)) {r : Int} (hm : m_slices_IndexFunc_api_Item_api_Item__concert_CheckItems_1 a0 a1_c0_0 a1_c0_1 a1_c0_2 a1_c0_3 = some r) :
    Ctr Tryd.prog 61 [s0_.v, .func (.func 67) #[] [.pointer (some ⟨b1_c0_, 0, none⟩)].toArray].toArray ([] : List Ent) [Lk N46 a0 xg0_, RdS N46.R (SV.v s0_) xg0_, BoxS b1_c0_ 46 [.string a1_c0_0, .string a1_c0_1, .int .i64 a1_c0_2, s1_c0_3_.v], RdS R9 (SV.v s1_c0_3_) a1_c0_3] (X := Unit) (fun _ => .int .i64 r) (fun _ => []) := by
  unfold m_slices_IndexFunc_api_Item_api_Item__concert_CheckItems_1 at hm
  refine ctr_mk (vs := [(0, s0_.v), (1, .func (.func 67) #[] [.pointer (some ⟨b1_c0_, 0, none⟩)].toArray)]) Tryd.func61 rfl Tryd.ntmps61 rfl ⟨rfl, rfl, trivial⟩ (fun w0 A => ?_)
  refine cj_pure (F := Lk N46 a0 xg0_) (.ro 0 rfl) (fun _ h => h.1) (fun hL0_ => ?_)
  refine cj_seq ?_
  refine cj_reg ?_
  refine lp rfl (p_as rfl) ?_
  refine lj_seq ?_
  refine cj_seq ?_
  refine cj_seq ?_
  refine cj_reg ?_
  refine lp rfl (p_mv rfl) ?_
  refine lp rfl (p_lenG hL0_ Tryd.underlying26 rfl (.ro 1 rfl)) ?_
  refine lp rfl (p_mv rfl) ?_
  refine lj_seq ?_
  obtain ⟨f7, hf7, hm⟩ := bindS hm
  refine cj_range (γ := Unit) (m := (a0.length : Int)) hf7 () (fun u4 g5 => [(0, s0_.v), (1, .func (.func 67) #[] [.pointer (some ⟨b1_c0_, 0, none⟩)].toArray), (4, .int .i64 0)]) (fun u4 g5 => Sat w0 (keys ([] : List Ent)) A [.ro (Lk N46 a0 xg0_), .ro (RdS N46.R (SV.v s0_) xg0_), .ro (BoxS b1_c0_ 46 [.string a1_c0_0, .string a1_c0_1, .int .i64 a1_c0_2, s1_c0_3_.v]), .ro (RdS R9 (SV.v s1_c0_3_) a1_c0_3)]) ⟨rfl, rfl, rfl, rfl, rfl, trivial⟩ (fun _ h => h.picks [0, 0, 0, 0] rfl) (nat_lt _) (fun _ h => by have h1 := (FactAt.get (F := RdS N46.R (SV.v s0_) xg0_) (.ro 1 rfl) h).1; rw [lk_len hL0_] at h1; exact h1) (fun _ _ => ⟨rfl, rfl, rfl, rfl⟩) ⟨rfl, rfl, rfl, rfl, rfl⟩ rfl rfl rfl (fun u4 g5 e => ?_) (fun aftk6 i1 x2 u4 g5 k6 hx3 hs J hJk6 hBk6 hX I cnk6 => ?_)
  · have hm := Flow.fin_b e hm
    refine nj_seq ?_
    refine cj_seq ?_
    refine cj_reg ?_
    refine lp rfl (p_as rfl) ?_
    refine lj_seq ?_
    obtain rfl := Option.some.inj hm
    exact cj_rt () [] Tryd.results61 (.tmp rfl .nil) rfl rfl
  · have hRk6 : ∀ t, k6 = .ret t → some t = some r := fun t e => by rw [hX t e] at hm; exact hm
    have hm := hs
    refine cj_seq ?_
    refine cj_reg ?_
    refine lp rfl (p_mv rfl) ?_
    refine lp rfl (p_as rfl) ?_
    refine lj_seq ?_
    refine cj_seq ?_
    refine cj_reg ?_
    refine lp rfl (p_mv rfl) ?_
    refine lp rfl (p_mv rfl) ?_
    refine lp rfl (p_mv rfl) ?_
    obtain ⟨gx2, hx3G⟩ := lk_get hL0_ hx3
    refine lp rfl (p_idx Tryd.underlying26 ty46 rfl rfl (.ro 1 rfl) (getI_nat.trans hx3G)) ?_
    refine lp rfl (p_leaN (cs := [.string x2.Key, .string x2.Places, .int .i64 x2.Long, gx2.v]) ty46 rfl (.ro 1 rfl) hx3G rfl) ?_
    obtain ⟨y8, hy8, hm⟩ := bindS hm
    refine r_call [] cf67 rfl rfl (ok_concert_CheckItems_1 x2 gx2 b1_c0_ a1_c0_0 a1_c0_1 a1_c0_2 s1_c0_3_ a1_c0_3 hy8) rfl rfl (.cons (.imp (.ro 0 rfl) (fun _ h => (Lk.at_ h hx3G))) (.cons (.ro 2 rfl) (.cons (.ro 3 rfl) .nil))) (fun _ => rfl) rfl (fun _ => ?_)
    refine lj_seq ?_
    refine cj_if (b := y8) rfl (fun hb => ?_) (fun hb => ?_)
    · have hm := ifB_t hb hm
      refine cj_seq ?_
      refine cj_reg ?_
      refine lp rfl (p_mv rfl) ?_
      refine lp rfl (p_as rfl) ?_
      refine lj_seq ?_
      have hm := hRk6 _ (Option.some.inj hm).symm
      obtain rfl := Option.some.inj hm
      exact cj_rt () [] Tryd.results61 (.tmp rfl .nil) rfl rfl
    · have hm := ifB_f hb hm
      refine cj_skip ?_
      refine nj_blk ?_
      exact cnk6 _ _ () () (hJk6 _ (Option.some.inj hm).symm) ⟨rfl, rfl, rfl, rfl, rfl, trivial⟩ (fun _ h => h.picks [0, 0, 0, 0] rfl)
theorem ok_slices_ContainsFunc_api_Item_api_Item__concert_CheckItems_1 (s0_ : SV) (xg0_ : List (TItem × SV)) (a0 : (List TItem)) (b1_c0_ : Nat) (a1_c0_0 : ByteArray) (a1_c0_1 : ByteArray) (a1_c0_2 : Int) (s1_c0_3_ : SV) (a1_c0_3 : (List ByteArray)) {r : Bool} (hm : m_slices_ContainsFunc_api_Item_api_Item__concert_CheckItems_1 a0 a1_c0_0 a1_c0_1 a1_c0_2 a1_c0_3 = some r) :
    Ctr Tryd.prog 66 [s0_.v, .func (.func 67) #[] [.pointer (some ⟨b1_c0_, 0, none⟩)].toArray].toArray ([] : List Ent) [Lk N46 a0 xg0_, RdS N46.R (SV.v s0_) xg0_, BoxS b1_c0_ 46 [.string a1_c0_0, .string a1_c0_1, .int .i64 a1_c0_2, s1_c0_3_.v], RdS R9 (SV.v s1_c0_3_) a1_c0_3] (X := Unit) (fun _ => .bool r) (fun _ => []) := by
  unfold m_slices_ContainsFunc_api_Item_api_Item__concert_CheckItems_1 at hm
  refine ctr_mk (vs := [(0, s0_.v), (1, .func (.func 67) #[] [.pointer (some ⟨b1_c0_, 0, none⟩)].toArray)]) Tryd.func66 rfl Tryd.ntmps66 rfl ⟨rfl, rfl, trivial⟩ (fun w0 A => ?_)
  refine cj_pure (F := Lk N46 a0 xg0_) (.ro 0 rfl) (fun _ h => h.1) (fun hL0_ => ?_)
  refine cj_seq ?_
  refine cj_reg ?_
  refine lp rfl (p_as rfl) ?_
  refine lj_seq ?_
  refine cj_seq ?_
  refine cj_reg ?_
  refine lp rfl (p_mv rfl) ?_
  refine lp rfl (p_mv rfl) ?_
  obtain ⟨y1, hy1, hm⟩ := bindS hm
  refine r_call [] cf61 rfl rfl (ok_slices_IndexFunc_api_Item_api_Item__concert_CheckItems_1 s0_ xg0_ a0 b1_c0_ a1_c0_0 a1_c0_1 a1_c0_2 s1_c0_3_ a1_c0_3 hy1) rfl rfl (.cons (.ro 0 rfl) (.cons (.ro 1 rfl) (.cons (.ro 2 rfl) (.cons (.ro 3 rfl) .nil)))) (fun _ => rfl) rfl (fun _ => ?_)
  refine lp rfl (p_geq rfl rfl) ?_
  refine lp rfl (p_as rfl) ?_
  refine lj_seq ?_
  obtain rfl := Option.some.inj hm
  exact cj_rt () [] Tryd.results66 (.tmp rfl .nil) rfl rfl
theorem ok_kit_Outside (a0 : Int) (a1 : Int) (a2 : Int) {r : Bool} (hm : m_kit_Outside a0 a1 a2 = some r) :
    Ctr Tryd.prog 51 [.int .i64 a0, .int .i64 a1, .int .i64 a2].toArray ([] : List Ent) [] (X := Unit) (fun _ => .bool r) (fun _ => []) := by
  unfold m_kit_Outside at hm
  refine ctr_mk (vs := [(0, .int .i64 a0), (1, .int .i64 a1), (2, .int .i64 a2)]) Tryd.func51 rfl Tryd.ntmps51 rfl ⟨rfl, rfl, rfl, trivial⟩ (fun w0 A => ?_)
  refine cj_seq ?_
  refine cj_reg ?_
  refine lp rfl (p_as rfl) ?_
  refine lj_seq ?_
  refine cj_seq ?_
  refine cj_reg ?_
  refine lp rfl (p_mv rfl) ?_
  refine lp rfl (p_mv rfl) ?_
  refine lp rfl (p_lss rfl rfl) ?_
  refine lp rfl (p_mv rfl) ?_
  refine lcase (i := 10) (decide (a0 < a1)) rfl (fun hb => ?_) (fun hb => ?_)
  · have hm := ifB_t hb hm
    refine ls false rfl rfl rfl rfl ?_
    refine ls false rfl rfl rfl rfl ?_
    refine ls false rfl rfl rfl rfl ?_
    refine lp rfl (p_pkt rfl rfl) ?_
    refine lp rfl (p_as rfl) ?_
    refine lj_seq ?_
    obtain rfl := Option.some.inj hm
    exact cj_rt () [] Tryd.results51 (.tmp rfl .nil) rfl rfl
  · have hm := ifB_f hb hm
    refine lg false rfl rfl rfl ?_
    refine lp rfl (p_mv rfl) ?_
    refine lg false rfl rfl rfl ?_
    refine lp rfl (p_mv rfl) ?_
    refine lg false rfl rfl rfl ?_
    refine lp rfl (p_gtr rfl rfl) ?_
    refine lp rfl (p_pkf rfl rfl) ?_
    refine lp rfl (p_as rfl) ?_
    refine lj_seq ?_
    obtain rfl := Option.some.inj hm
    exact cj_rt () [] Tryd.results51 (.tmp rfl .nil) rfl rfl
theorem ok_concert_partsFault (s0_ : SV) (a0 : (List ByteArray)) {r : Int} (hm : m_concert_partsFault a0 = some r) :
    Ctr Tryd.prog 68 [s0_.v].toArray ([] : List Ent) [RdS R9 (SV.v s0_) a0] (X := Unit) (fun _ => .int .i64 r) (fun _ => []) := by
  unfold m_concert_partsFault at hm
  refine ctr_mk (vs := [(0, s0_.v)]) Tryd.func68 rfl Tryd.ntmps68 rfl ⟨rfl, trivial⟩ (fun w0 A => ?_)
  refine cj_seq ?_
  refine cj_reg ?_
  refine lp rfl (p_as rfl) ?_
  refine lj_seq ?_
  refine cj_seq ?_
  refine cj_seq ?_
  refine cj_reg ?_
  refine lp rfl (p_mv rfl) ?_
  refine lp rfl (p_len Tryd.underlying30 rfl (.ro 0 rfl)) ?_
  refine lp rfl (p_eql rfl rfl) ?_
  refine lj_seq ?_
  refine cj_if (b := (a0.length : Int) == 0) rfl (fun hb => ?_) (fun hb => ?_)
  · have hm := ifB_t hb hm
    refine cj_seq ?_
    refine cj_reg ?_
    refine lp rfl (p_as rfl) ?_
    refine lj_seq ?_
    obtain rfl := Option.some.inj hm
    exact cj_rt () [] Tryd.results68 (.tmp rfl .nil) rfl rfl
  · have hm := ifB_f hb hm
    refine cj_skip ?_
    refine nj_seq ?_
    refine cj_seq ?_
    refine cj_seq ?_
    refine cj_reg ?_
    refine lp rfl (p_mv rfl) ?_
    refine lp rfl (p_len Tryd.underlying30 rfl (.ro 0 rfl)) ?_
    refine lp rfl (p_gtr rfl rfl) ?_
    refine lj_seq ?_
    refine cj_if (b := decide ((a0.length : Int) > 12)) rfl (fun hb => ?_) (fun hb => ?_)
    · have hm := ifB_t hb hm
      refine cj_seq ?_
      refine cj_reg ?_
      refine lp rfl (p_as rfl) ?_
      refine lj_seq ?_
      obtain rfl := Option.some.inj hm
      exact cj_rt () [] Tryd.results68 (.tmp rfl .nil) rfl rfl
    · have hm := ifB_f hb hm
      refine cj_skip ?_
      refine nj_seq ?_
      refine cj_seq ?_
      refine cj_seq ?_
      refine cj_reg ?_
      refine lp rfl (p_mv rfl) ?_
      refine lp rfl (p_len Tryd.underlying30 rfl (.ro 0 rfl)) ?_
      refine lp rfl (p_mv rfl) ?_
      refine lj_seq ?_
      obtain ⟨f7, hf7, hm⟩ := bindS hm
      refine cj_range (γ := Unit) (m := (a0.length : Int)) hf7 () (fun u4 g5 => [(0, s0_.v), (2, .int .i64 0), (11, s0_.v)]) (fun u4 g5 => Sat w0 (keys ([] : List Ent)) A [.ro (RdS R9 (SV.v s0_) a0)]) ⟨rfl, rfl, rfl, rfl, rfl, trivial⟩ (fun _ h => h.picks [0] rfl) (nat_lt _) (fun _ h => (FactAt.get (F := RdS R9 (SV.v s0_) a0) (.ro 0 rfl) h).1) (fun _ _ => ⟨rfl, rfl, rfl, rfl⟩) ⟨rfl, rfl, rfl, rfl, rfl⟩ rfl rfl rfl (fun u4 g5 e => ?_) (fun aftk6 i1 x2 u4 g5 k6 hx3 hs J hJk6 hBk6 hX I cnk6 => ?_)
      · have hm := Flow.fin_b e hm
        refine nj_seq ?_
        refine cj_seq ?_
        refine cj_reg ?_
        refine lp rfl (p_as rfl) ?_
        refine lj_seq ?_
        obtain rfl := Option.some.inj hm
        exact cj_rt () [] Tryd.results68 (.tmp rfl .nil) rfl rfl
      · have hRk6 : ∀ t, k6 = .ret t → some t = some r := fun t e => by rw [hX t e] at hm; exact hm
        have hm := hs
        refine cj_seq ?_
        refine cj_reg ?_
        refine lp rfl (p_mv rfl) ?_
        refine lp rfl (p_idx Tryd.underlying30 ty9 rfl rfl (.ro 0 rfl) (getI_nat.trans hx3)) ?_
        refine lp rfl (p_lde (o := 0) ty9 rfl rfl (.ro 0 rfl) hx3 rfl) ?_
        refine lp rfl (p_as rfl) ?_
        refine lp rfl (p_as rfl) ?_
        refine lj_seq ?_
        refine cj_seq ?_
        refine cj_seq ?_
        refine cj_reg ?_
        refine lp rfl (p_mv rfl) ?_
        obtain ⟨y8, hy8, hm⟩ := bindS hm
        refine r_call [] cf65 rfl rfl (ok_kit_IsKey x2 hy8) rfl rfl .nil (fun _ => rfl) rfl (fun _ => ?_)
        refine lp rfl (p_not rfl) ?_
        refine lj_seq ?_
        refine cj_if (b := !y8) rfl (fun hb => ?_) (fun hb => ?_)
        · have hm := ifB_t hb hm
          refine cj_seq ?_
          refine cj_reg ?_
          refine lp rfl (p_as rfl) ?_
          refine lj_seq ?_
          have hm := hRk6 _ (Option.some.inj hm).symm
          obtain rfl := Option.some.inj hm
          exact cj_rt () [] Tryd.results68 (.tmp rfl .nil) rfl rfl
        · have hm := ifB_f hb hm
          refine cj_skip ?_
          refine nj_seq ?_
          refine cj_seq ?_
          refine cj_reg ?_
          obtain ⟨k11, hk11, hm⟩ := bindS hm
          have hRk11 : ∀ t, k11 = .inr t → some t = some k6 := fun t e => by rw [e] at hm; exact hm
          refine lj_join (σ := Bool) (γ := Unit) (fun u9 => k11 = .inl u9) (fun u9 g10 => [(0, s0_.v), (2, .int .i64 0), (11, s0_.v), (12, .int .i64 (a0.length : Int)), (13, .int .i64 (i1 : Int)), (31, .bool u9)]) (fun u9 g10 => Sat w0 (keys ([] : List Ent)) A [.ro (RdS R9 (SV.v s0_) a0)]) (fun u9 g10 hq => ?_) (fun J cnk11 => ?_)
          · have hm := Sum.fin_l hq hm
            refine cj_if (b := u9) rfl (fun hb => ?_) (fun hb => ?_)
            · have hm := ifB_t hb hm
              refine cj_seq ?_
              refine cj_reg ?_
              refine lp rfl (p_as rfl) ?_
              refine lj_seq ?_
              have hm := hRk6 _ (Option.some.inj hm).symm
              obtain rfl := Option.some.inj hm
              exact cj_rt () [] Tryd.results68 (.tmp rfl .nil) rfl rfl
            · have hm := ifB_f hb hm
              refine cj_skip ?_
              refine nj_blk ?_
              exact cnk6 _ _ () () (hJk6 _ (Option.some.inj hm).symm) ⟨rfl, rfl, rfl, rfl, rfl, trivial⟩ (fun _ h => h.picks [0] rfl)
          · have hm := hk11
            refine lp rfl (p_mv rfl) ?_
            refine lp rfl (p_gtr rfl rfl) ?_
            refine lp rfl (p_mv rfl) ?_
            refine lcase (i := 23) (decide ((i1 : Int) > 0)) rfl (fun hb => ?_) (fun hb => ?_)
            · have hm := ifB_t hb hm
              refine lg true rfl rfl rfl ?_
              refine lp rfl (p_mv rfl) ?_
              refine lg true rfl rfl rfl ?_
              refine lp rfl (p_mv rfl) ?_
              refine lg true rfl rfl rfl ?_
              refine lp rfl (p_mv rfl) ?_
              refine lg true rfl rfl rfl ?_
              refine lp rfl (p_sub rfl rfl) ?_
              refine lg true rfl rfl rfl ?_
              obtain ⟨e12, he12, hm⟩ := bindS hm
              refine lp rfl (p_idx Tryd.underlying30 ty9 rfl rfl (.ro 0 rfl) he12) ?_
              refine lg true rfl rfl rfl ?_
              refine lp rfl (p_lde (o := 0) ty9 rfl rfl (.ro 0 rfl) (getI_spec he12).2 rfl) ?_
              refine lg true rfl rfl rfl ?_
              refine lp rfl (p_les rfl rfl) ?_
              refine lp rfl (p_pkt rfl rfl) ?_
              refine lj_nil ?_
              exact cnk11 _ _ (Op.bytesLess x2.toList e12.toList || x2.toList == e12.toList) () (Option.some.inj hm).symm ⟨rfl, rfl, rfl, rfl, rfl, rfl, trivial⟩ (fun _ h => h.picks [0] rfl)
            · have hm := ifB_f hb hm
              refine ls true rfl rfl rfl rfl ?_
              refine ls true rfl rfl rfl rfl ?_
              refine ls true rfl rfl rfl rfl ?_
              refine ls true rfl rfl rfl rfl ?_
              refine ls true rfl rfl rfl rfl ?_
              refine ls true rfl rfl rfl rfl ?_
              refine ls true rfl rfl rfl rfl ?_
              refine lp rfl (p_pkf rfl rfl) ?_
              refine lj_nil ?_
              exact cnk11 _ _ false () (Option.some.inj hm).symm ⟨rfl, rfl, rfl, rfl, rfl, rfl, trivial⟩ (fun _ h => h.picks [0] rfl)
theorem ok_concert_CheckItems (s0_ : SV) (xg0_ : List (TItem × SV)) (a0 : (List TItem)) {r : Int} (hm : m_concert_CheckItems a0 = some r) :
    Ctr Tryd.prog 50 [s0_.v].toArray ([] : List Ent) [Lk N46 a0 xg0_, RdS N46.R (SV.v s0_) xg0_] (X := Unit) (fun _ => .int .i64 r) (fun _ => []) := by
  unfold m_concert_CheckItems at hm
  refine ctr_mk (vs := [(0, s0_.v)]) Tryd.func50 rfl Tryd.ntmps50 rfl ⟨rfl, trivial⟩ (fun w0 A => ?_)
  refine cj_pure (F := Lk N46 a0 xg0_) (.ro 0 rfl) (fun _ h => h.1) (fun hL0_ => ?_)
  refine cj_seq ?_
  refine cj_reg ?_
  refine lp rfl (p_as rfl) ?_
  refine lj_seq ?_
  refine cj_seq ?_
  refine cj_seq ?_
  refine cj_reg ?_
  refine lp rfl (p_mv rfl) ?_
  refine lp rfl (p_lenG hL0_ Tryd.underlying26 rfl (.ro 1 rfl)) ?_
  refine lp rfl (p_gtr rfl rfl) ?_
  refine lj_seq ?_
  refine cj_if (b := decide ((a0.length : Int) > 60)) rfl (fun hb => ?_) (fun hb => ?_)
  · have hm := ifB_t hb hm
    refine cj_seq ?_
    refine cj_reg ?_
    refine lp rfl (p_as rfl) ?_
    refine lj_seq ?_
    obtain rfl := Option.some.inj hm
    exact cj_rt () [] Tryd.results50 (.tmp rfl .nil) rfl rfl
  · have hm := ifB_f hb hm
    refine cj_skip ?_
    refine nj_seq ?_
    refine cj_seq ?_
    refine cj_seq ?_
    refine cj_reg ?_
    refine lp rfl (p_mv rfl) ?_
    refine lp rfl (p_lenG hL0_ Tryd.underlying26 rfl (.ro 1 rfl)) ?_
    refine lp rfl (p_mv rfl) ?_
    refine lj_seq ?_
    obtain ⟨f7, hf7, hm⟩ := bindS hm
    refine cj_range (γ := Unit) (m := (a0.length : Int)) hf7 () (fun u4 g5 => [(0, s0_.v), (2, .int .i64 0), (9, s0_.v)]) (fun u4 g5 => Sat w0 (keys ([] : List Ent)) A [.ro (Lk N46 a0 xg0_), .ro (RdS N46.R (SV.v s0_) xg0_)]) ⟨rfl, rfl, rfl, rfl, rfl, trivial⟩ (fun _ h => h.picks [0, 0] rfl) (nat_lt _) (fun _ h => by have h1 := (FactAt.get (F := RdS N46.R (SV.v s0_) xg0_) (.ro 1 rfl) h).1; rw [lk_len hL0_] at h1; exact h1) (fun _ _ => ⟨rfl, rfl, rfl, rfl⟩) ⟨rfl, rfl, rfl, rfl, rfl⟩ rfl rfl rfl (fun u4 g5 e => ?_) (fun aftk6 i1 x2 u4 g5 k6 hx3 hs J hJk6 hBk6 hX I cnk6 => ?_)
    · have hm := Flow.fin_b e hm
      refine nj_seq ?_
      refine cj_seq ?_
      refine cj_reg ?_
      refine lp rfl (p_as rfl) ?_
      refine lj_seq ?_
      obtain rfl := Option.some.inj hm
      exact cj_rt () [] Tryd.results50 (.tmp rfl .nil) rfl rfl
    · have hRk6 : ∀ t, k6 = .ret t → some t = some r := fun t e => by rw [hX t e] at hm; exact hm
      have hm := hs
      refine cj_seq ?_
      refine cj_reg ?_
      refine lp rfl (p_mv rfl) ?_
      obtain ⟨gx2, hx3G⟩ := lk_get hL0_ hx3
      refine lp rfl (p_idx Tryd.underlying26 ty46 rfl rfl (.ro 1 rfl) (getI_nat.trans hx3G)) ?_
      refine lp rfl (p_leaN (cs := [.string x2.Key, .string x2.Places, .int .i64 x2.Long, gx2.v]) ty46 rfl (.ro 1 rfl) hx3G rfl) ?_
      refine r_al ty46 rfl (fun b8 => ?_)
      refine lp rfl (p_as rfl) ?_
      refine r_sb (vs := [.string x2.Key, .string x2.Places, .int .i64 x2.Long, gx2.v]) (j := 0) ty46 rfl rfl rfl rfl rfl rfl rfl ?_
      refine lj_seq ?_
      refine cj_seq ?_
      refine cj_blk ?_
      refine cj_seq ?_
      refine cj_reg ?_
      obtain ⟨k11, hk11, hm⟩ := bindS hm
      have hRk11 : ∀ t, k11 = .inr t → some t = some k6 := fun t e => by rw [e] at hm; exact hm
      refine lj_join (σ := Bool) (γ := Unit) (fun u9 => k11 = .inl u9) (fun u9 g10 => [(0, s0_.v), (2, .int .i64 0), (3, .int .i64 (i1 : Int)), (4, .pointer (some ⟨b8, 0, none⟩)), (9, s0_.v), (10, .int .i64 (a0.length : Int)), (11, .int .i64 (i1 : Int)), (16, .bool u9)]) (fun u9 g10 => Sat w0 (keys ([] : List Ent)) A [.box b8 46 [.string x2.Key, .string x2.Places, .int .i64 x2.Long, gx2.v], .ro (Lk N46 a0 xg0_), .ro (RdS N46.R (SV.v s0_) xg0_)]) (fun u9 g10 hq => ?_) (fun J cnk11 => ?_)
      · have hm := Sum.fin_l hq hm
        refine cj_if (b := u9) rfl (fun hb => ?_) (fun hb => ?_)
        · have hm := ifB_t hb hm
          refine cj_seq ?_
          refine cj_reg ?_
          refine lp rfl (p_as rfl) ?_
          refine lj_seq ?_
          have hm := hRk6 _ (Option.some.inj hm).symm
          obtain rfl := Option.some.inj hm
          exact cj_rt () [] Tryd.results50 (.tmp rfl .nil) rfl rfl
        · have hm := ifB_f hb hm
          refine cj_seq ?_
          refine cj_reg ?_
          refine lp rfl (p_mv rfl) ?_
          refine lp rfl (p_mv rfl) ?_
          obtain ⟨q14, hq14, hm⟩ := bindS hm
          obtain ⟨q14G, hq14G, hLq14, hsq14⟩ := lk_cut hL0_ hq14
          refine lp rfl (p_cut Tryd.underlying26 ty46 rfl rfl rfl rfl rfl (.ro 2 rfl) rfl rfl hq14G) ?_
          refine lp rfl (p_fn (cv := [.pointer (some ⟨b8, 0, none⟩)]) rfl) ?_
          obtain ⟨y15, hy15, hm⟩ := bindS hm
          refine r_call [] cf66 rfl rfl (ok_slices_ContainsFunc_api_Item_api_Item__concert_CheckItems_1 (s0_.sub N46.R.sz (0 : Int).toNat (i1 : Int).toNat) q14G q14 b8 x2.Key x2.Places x2.Long gx2 x2.Parts hy15) rfl rfl (.cons (.imp (.ro 1 rfl) (fun _ h => Lk.sub h hLq14 hsq14)) (.cons (.imp (.ro 2 rfl) (fun _ h => h.cut hq14G)) (.cons (.imp (.box 0 rfl) (fun _ h => h)) (.cons (.imp (.ro 1 rfl) (fun _ h => (Lk.at_ h hx3G))) .nil)))) (fun _ => rfl) rfl (fun _ => ?_)
          refine lp rfl (p_as rfl) ?_
          refine lj_seq ?_
          refine cj_if (b := y15) rfl (fun hb => ?_) (fun hb => ?_)
          · have hm := ifB_t hb hm
            refine cj_seq ?_
            refine cj_reg ?_
            refine lp rfl (p_as rfl) ?_
            refine lj_seq ?_
            have hm := hRk6 _ (Option.some.inj hm).symm
            obtain rfl := Option.some.inj hm
            exact cj_rt () [] Tryd.results50 (.tmp rfl .nil) rfl rfl
          · have hm := ifB_f hb hm
            refine cj_seq ?_
            refine cj_reg ?_
            refine lp rfl (p_fab fl46_2 rfl) ?_
            refine lp rfl (p_lbs ty3 rfl (j := 0) rfl rfl) ?_
            obtain ⟨y16, hy16, hm⟩ := bindS hm
            refine r_call [] cf51 rfl rfl (ok_kit_Outside x2.Long 1 86400000 hy16) rfl rfl .nil (fun _ => rfl) rfl (fun _ => ?_)
            refine lp rfl (p_as rfl) ?_
            refine lj_seq ?_
            refine cj_if (b := y16) rfl (fun hb => ?_) (fun hb => ?_)
            · have hm := ifB_t hb hm
              refine cj_seq ?_
              refine cj_reg ?_
              refine lp rfl (p_as rfl) ?_
              refine lj_seq ?_
              have hm := hRk6 _ (Option.some.inj hm).symm
              obtain rfl := Option.some.inj hm
              exact cj_rt () [] Tryd.results50 (.tmp rfl .nil) rfl rfl
            · have hm := ifB_f hb hm
              refine cj_skip ?_
              refine nj_blk ?_
              refine nj_seq ?_
              refine cj_seq ?_
              refine cj_reg ?_
              refine lp rfl (p_fab fl46_3 rfl) ?_
              refine lp rfl (p_lbs ty30 rfl (j := 0) rfl rfl) ?_
              obtain ⟨y17, hy17, hm⟩ := bindS hm
              refine r_call [] cf68 rfl rfl (ok_concert_partsFault gx2 x2.Parts hy17) rfl rfl (.cons (.imp (.ro 1 rfl) (fun _ h => (Lk.at_ h hx3G))) .nil) (fun _ => rfl) rfl (fun _ => ?_)
              refine lp rfl (p_as rfl) ?_
              refine lj_seq ?_
              refine cj_seq ?_
              refine cj_reg ?_
              refine lp rfl (p_mv rfl) ?_
              refine lp rfl (p_neq rfl rfl) ?_
              refine lj_seq ?_
              refine cj_if (b := y17 != 0) rfl (fun hb => ?_) (fun hb => ?_)
              · have hm := ifB_t hb hm
                refine cj_seq ?_
                refine cj_reg ?_
                refine lp rfl (p_mv rfl) ?_
                refine lp rfl (p_as rfl) ?_
                refine lj_seq ?_
                have hm := hRk6 _ (Option.some.inj hm).symm
                obtain rfl := Option.some.inj hm
                exact cj_rt () [] Tryd.results50 (.tmp rfl .nil) rfl rfl
              · have hm := ifB_f hb hm
                refine cj_skip ?_
                refine nj_blk ?_
                exact cnk6 _ _ () () (hJk6 _ (Option.some.inj hm).symm) ⟨rfl, rfl, rfl, rfl, rfl, trivial⟩ (fun _ h => h.picks [1, 1] rfl)
      · have hm := hk11
        refine lp rfl (p_fab fl46_0 rfl) ?_
        refine lp rfl (p_lbs ty9 rfl (j := 0) rfl rfl) ?_
        obtain ⟨y12, hy12, hm⟩ := bindS hm
        refine r_call [] cf65 rfl rfl (ok_kit_IsKey x2.Key hy12) rfl rfl .nil (fun _ => rfl) rfl (fun _ => ?_)
        refine lp rfl (p_not rfl) ?_
        refine lp rfl (p_mv rfl) ?_
        refine lcase (i := 21) (!y12) rfl (fun hb => ?_) (fun hb => ?_)
        · have hm := ifB_t hb hm
          refine ls false rfl rfl rfl rfl ?_
          refine ls false rfl rfl rfl rfl ?_
          refine ls false rfl rfl rfl rfl ?_
          refine ls false rfl rfl rfl rfl ?_
          refine lp rfl (p_pkt rfl rfl) ?_
          refine lp rfl (p_as rfl) ?_
          refine lj_nil ?_
          exact cnk11 _ _ true () (Option.some.inj hm).symm ⟨rfl, rfl, rfl, rfl, rfl, rfl, rfl, rfl, trivial⟩ (fun _ h => h.picks [0, 0, 0] rfl)
        · have hm := ifB_f hb hm
          refine lg false rfl rfl rfl ?_
          refine lp rfl (p_fab fl46_1 rfl) ?_
          refine lg false rfl rfl rfl ?_
          refine lp rfl (p_lbs ty9 rfl (j := 0) rfl rfl) ?_
          refine lg false rfl rfl rfl ?_
          obtain ⟨y13, hy13, hm⟩ := bindS hm
          refine r_call [] cf65 rfl rfl (ok_kit_IsKey x2.Places hy13) rfl rfl .nil (fun _ => rfl) rfl (fun _ => ?_)
          refine lg false rfl rfl rfl ?_
          refine lp rfl (p_not rfl) ?_
          refine lp rfl (p_pkf rfl rfl) ?_
          refine lp rfl (p_as rfl) ?_
          refine lj_nil ?_
          exact cnk11 _ _ (!y13) () (Option.some.inj hm).symm ⟨rfl, rfl, rfl, rfl, rfl, rfl, rfl, rfl, trivial⟩ (fun _ h => h.picks [0, 0, 0] rfl)
theorem ok_concert_CheckProgram (a0 : TProgram) (s0_0_ : SV) (xg0_0_ : List (TItem × SV)) {r : Int} (hm : m_concert_CheckProgram a0 = some r) :
    Ctr Tryd.prog 25 [.agg [s0_0_.v, .int .i64 a0.Change, .int .i64 a0.Clap, .int .i64 a0.Break, .int .i64 a0.Half].toArray].toArray ([] : List Ent) [Lk N46 a0.Items xg0_0_, RdS N46.R (SV.v s0_0_) xg0_0_] (X := Unit) (fun _ => .int .i64 r) (fun _ => []) := by
  unfold m_concert_CheckProgram at hm
  refine ctr_mk (vs := [(0, .agg [s0_0_.v, .int .i64 a0.Change, .int .i64 a0.Clap, .int .i64 a0.Break, .int .i64 a0.Half].toArray)]) Tryd.func25 rfl Tryd.ntmps25 rfl ⟨rfl, trivial⟩ (fun w0 A => ?_)
  refine cj_pure (F := Lk N46 a0.Items xg0_0_) (.ro 0 rfl) (fun _ h => h.1) (fun hL0_0_ => ?_)
  refine cj_seq ?_
  refine cj_reg ?_
  refine r_bx (cs := [s0_0_.v, .int .i64 a0.Change, .int .i64 a0.Clap, .int .i64 a0.Break, .int .i64 a0.Half]) rfl rfl rfl (fun b1 => ?_)
  refine lp rfl (p_as rfl) ?_
  refine lj_seq ?_
  refine cj_seq ?_
  refine cj_seq ?_
  refine cj_reg ?_
  refine lp rfl (p_fab fl28_0 rfl) ?_
  refine lp rfl (p_lbs ty26 rfl (j := 0) rfl rfl) ?_
  obtain ⟨y2, hy2, hm⟩ := bindS hm
  refine r_call [] cf50 rfl rfl (ok_concert_CheckItems s0_0_ xg0_0_ a0.Items hy2) rfl rfl (.cons (.ro 1 rfl) (.cons (.ro 2 rfl) .nil)) (fun _ => rfl) rfl (fun _ => ?_)
  refine lp rfl (p_as rfl) ?_
  refine lj_seq ?_
  refine cj_seq ?_
  refine cj_reg ?_
  refine lp rfl (p_mv rfl) ?_
  refine lp rfl (p_neq rfl rfl) ?_
  refine lj_seq ?_
  refine cj_if (b := y2 != 0) rfl (fun hb => ?_) (fun hb => ?_)
  · have hm := ifB_t hb hm
    refine cj_seq ?_
    refine cj_reg ?_
    refine lp rfl (p_mv rfl) ?_
    refine lp rfl (p_as rfl) ?_
    refine lj_seq ?_
    obtain rfl := Option.some.inj hm
    exact cj_rt () [] Tryd.results25 (.tmp rfl .nil) rfl rfl
  · have hm := ifB_f hb hm
    refine cj_skip ?_
    refine nj_seq ?_
    refine cj_seq ?_
    refine cj_seq ?_
    refine cj_reg ?_
    obtain ⟨k5, hk5, hm⟩ := bindS hm
    have hRk5 : ∀ t, k5 = .inr t → some t = some r := fun t e => by rw [e] at hm; exact hm
    refine lj_join (σ := Bool) (γ := Unit) (fun u3 => k5 = .inl u3) (fun u3 g4 => [(2, .int .i64 0), (32, .bool u3)]) (fun u3 g4 => Sat w0 (keys ([] : List Ent)) A []) (fun u3 g4 hq => ?_) (fun J cnk5 => ?_)
    · have hm := Sum.fin_l hq hm
      refine cj_if (b := u3) rfl (fun hb => ?_) (fun hb => ?_)
      · have hm := ifB_t hb hm
        refine cj_seq ?_
        refine cj_reg ?_
        refine lp rfl (p_as rfl) ?_
        refine lj_seq ?_
        obtain rfl := Option.some.inj hm
        exact cj_rt () [] Tryd.results25 (.tmp rfl .nil) rfl rfl
      · have hm := ifB_f hb hm
        refine cj_skip ?_
        refine nj_seq ?_
        refine cj_seq ?_
        refine cj_reg ?_
        refine lp rfl (p_as rfl) ?_
        refine lj_seq ?_
        obtain rfl := Option.some.inj hm
        exact cj_rt () [] Tryd.results25 (.tmp rfl .nil) rfl rfl
    · have hm := hk5
      refine lp rfl (p_fab fl28_1 rfl) ?_
      refine lp rfl (p_lbs ty3 rfl (j := 0) rfl rfl) ?_
      obtain ⟨y6, hy6, hm⟩ := bindS hm
      refine r_call [] cf51 rfl rfl (ok_kit_Outside a0.Change 0 86400000 hy6) rfl rfl .nil (fun _ => rfl) rfl (fun _ => ?_)
      refine lp rfl (p_mv rfl) ?_
      refine lcase (i := 13) y6 rfl (fun hb => ?_) (fun hb => ?_)
      · have hm := ifB_t hb hm
        refine ls false rfl rfl rfl rfl ?_
        refine ls false rfl rfl rfl rfl ?_
        refine ls false rfl rfl rfl rfl ?_
        refine lp rfl (p_pkt rfl rfl) ?_
        refine lp rfl (p_mv rfl) ?_
        refine ls false rfl rfl rfl rfl ?_
        refine ls false rfl rfl rfl rfl ?_
        refine ls false rfl rfl rfl rfl ?_
        refine lp rfl (p_pkt rfl rfl) ?_
        refine lp rfl (p_mv rfl) ?_
        refine ls false rfl rfl rfl rfl ?_
        refine ls false rfl rfl rfl rfl ?_
        refine ls false rfl rfl rfl rfl ?_
        refine ls false rfl rfl rfl rfl ?_
        refine ls false rfl rfl rfl rfl ?_
        refine ls false rfl rfl rfl rfl ?_
        refine ls false rfl rfl rfl rfl ?_
        refine ls false rfl rfl rfl rfl ?_
        refine lp rfl (p_pkt rfl rfl) ?_
        refine lj_nil ?_
        exact cnk5 _ _ true () (Option.some.inj hm).symm ⟨rfl, rfl, trivial⟩ (fun _ h => h.picks [] rfl)
      · have hm := ifB_f hb hm
        refine lg false rfl rfl rfl ?_
        refine lp rfl (p_fab fl28_2 rfl) ?_
        refine lg false rfl rfl rfl ?_
        refine lp rfl (p_lbs ty3 rfl (j := 0) rfl rfl) ?_
        refine lg false rfl rfl rfl ?_
        obtain ⟨y7, hy7, hm⟩ := bindS hm
        refine r_call [] cf51 rfl rfl (ok_kit_Outside a0.Clap 0 86400000 hy7) rfl rfl .nil (fun _ => rfl) rfl (fun _ => ?_)
        refine lp rfl (p_pkf rfl rfl) ?_
        refine lp rfl (p_mv rfl) ?_
        refine lcase (i := 18) y7 rfl (fun hb => ?_) (fun hb => ?_)
        · have hm := ifB_t hb hm
          refine ls false rfl rfl rfl rfl ?_
          refine ls false rfl rfl rfl rfl ?_
          refine ls false rfl rfl rfl rfl ?_
          refine lp rfl (p_pkt rfl rfl) ?_
          refine lp rfl (p_mv rfl) ?_
          refine ls false rfl rfl rfl rfl ?_
          refine ls false rfl rfl rfl rfl ?_
          refine ls false rfl rfl rfl rfl ?_
          refine ls false rfl rfl rfl rfl ?_
          refine ls false rfl rfl rfl rfl ?_
          refine ls false rfl rfl rfl rfl ?_
          refine ls false rfl rfl rfl rfl ?_
          refine ls false rfl rfl rfl rfl ?_
          refine lp rfl (p_pkt rfl rfl) ?_
          refine lj_nil ?_
          exact cnk5 _ _ true () (Option.some.inj hm).symm ⟨rfl, rfl, trivial⟩ (fun _ h => h.picks [] rfl)
        · have hm := ifB_f hb hm
          refine lg false rfl rfl rfl ?_
          refine lp rfl (p_fab fl28_3 rfl) ?_
          refine lg false rfl rfl rfl ?_
          refine lp rfl (p_lbs ty3 rfl (j := 0) rfl rfl) ?_
          refine lg false rfl rfl rfl ?_
          obtain ⟨y8, hy8, hm⟩ := bindS hm
          refine r_call [] cf51 rfl rfl (ok_kit_Outside a0.Break 0 86400000 hy8) rfl rfl .nil (fun _ => rfl) rfl (fun _ => ?_)
          refine lp rfl (p_pkf rfl rfl) ?_
          refine lp rfl (p_mv rfl) ?_
          refine lcase (i := 23) y8 rfl (fun hb => ?_) (fun hb => ?_)
          · have hm := ifB_t hb hm
            refine ls false rfl rfl rfl rfl ?_
            refine ls false rfl rfl rfl rfl ?_
            refine ls false rfl rfl rfl rfl ?_
            refine ls false rfl rfl rfl rfl ?_
            refine ls false rfl rfl rfl rfl ?_
            refine ls false rfl rfl rfl rfl ?_
            refine ls false rfl rfl rfl rfl ?_
            refine ls false rfl rfl rfl rfl ?_
            refine lp rfl (p_pkt rfl rfl) ?_
            refine lj_nil ?_
            exact cnk5 _ _ true () (Option.some.inj hm).symm ⟨rfl, rfl, trivial⟩ (fun _ h => h.picks [] rfl)
          · have hm := ifB_f hb hm
            refine lg false rfl rfl rfl ?_
            refine lp rfl (p_fab fl28_4 rfl) ?_
            refine lg false rfl rfl rfl ?_
            refine lp rfl (p_lbs ty3 rfl (j := 0) rfl rfl) ?_
            refine lg false rfl rfl rfl ?_
            refine lp rfl (p_fab fl28_0 rfl) ?_
            refine lg false rfl rfl rfl ?_
            refine lp rfl (p_lbs ty26 rfl (j := 0) rfl rfl) ?_
            refine lg false rfl rfl rfl ?_
            refine lp rfl (p_lenG hL0_0_ Tryd.underlying26 rfl (.ro 2 rfl)) ?_
            refine lg false rfl rfl rfl ?_
            refine lp rfl (p_sub rfl rfl) ?_
            refine lg false rfl rfl rfl ?_
            refine lp rfl (p_max rfl rfl) ?_
            refine lg false rfl rfl rfl ?_
            obtain ⟨y9, hy9, hm⟩ := bindS hm
            refine r_call [] cf51 rfl rfl (ok_kit_Outside a0.Half (-1) (max (-1) (w64 ((a0.Items.length : Int) - 2))) hy9) rfl rfl .nil (fun _ => rfl) rfl (fun _ => ?_)
            refine lp rfl (p_pkf rfl rfl) ?_
            refine lj_nil ?_
            exact cnk5 _ _ y9 () (Option.some.inj hm).symm ⟨rfl, rfl, trivial⟩ (fun _ h => h.picks [] rfl)
theorem ok_slices_Clone_api_Item_api_Item (s0_ : SV) (xg0_ : List (TItem × SV)) (a0 : (List TItem)) {r : (List TItem)} (hm : m_slices_Clone_api_Item_api_Item a0 = some r) :
    Ctr Tryd.prog 26 [s0_.v].toArray ([] : List Ent) [Lk N46 a0 xg0_, RdS N46.R (SV.v s0_) xg0_] (X := (SV × List (TItem × SV))) (fun s => s.1.v) (fun s => [.row N46.R (SV.v s.1) s.2, .ro (Lk N46 r s.2)]) := by
  unfold m_slices_Clone_api_Item_api_Item at hm
  refine ctr_mk (vs := [(0, s0_.v)]) Tryd.func26 rfl Tryd.ntmps26 rfl ⟨rfl, trivial⟩ (fun w0 A => ?_)
  refine cj_pure (F := Lk N46 a0 xg0_) (.ro 0 rfl) (fun _ h => h.1) (fun hL0_ => ?_)
  refine cj_seq ?_
  refine cj_reg ?_
  refine lp rfl (p_as rfl) ?_
  refine lj_seq ?_
  refine cj_seq ?_
  refine cj_seq ?_
  refine cj_reg ?_
  refine lp rfl (p_mv rfl) ?_
  refine lp rfl (p_eqnil Tryd.underlying26 rfl rfl) ?_
  refine lj_seq ?_
  refine cj_if (b := s0_.a.isNone) rfl (fun hb => ?_) (fun hb => ?_)
  · refine cj_pure (F := RdS N46.R (SV.v s0_) xg0_) (.ro 1 rfl) (fun _ h => h.nil_of hb) (fun h6 => ?_)
    have h6 := (lk_nil hL0_ h6)
    have hm : some [] = some r := by rw [h6, appM_nn] at hm; exact hm
    refine cj_seq ?_
    refine cj_reg ?_
    refine lp rfl (p_as rfl) ?_
    refine lj_seq ?_
    obtain rfl := Option.some.inj hm
    refine cj_fact (F := Lk N46 [] []) (.nilL N46) ?_
    refine cj_nil N46.R ?_
    exact cj_rt (nilS, []) [0, 0] Tryd.results26 (.tmp rfl .nil) rfl rfl
  · refine cj_skip ?_
    refine nj_seq ?_
    refine cj_seq ?_
    refine cj_reg ?_
    refine r_fact (F := Lk N46 [] []) (.nilL N46) ?_
    refine r_bs N46.R ([] : List (TItem × SV)) rfl rfl rfl (fun _ => by kernel_rfl) rfl (fun s2 => ?_)
    refine lp rfl (p_mv rfl) ?_
    obtain ⟨q3, hq3, hm⟩ := bindS hm
    refine r_fact (F := Lk N46 q3 (([] : List (TItem × SV)) ++ xg0_)) (.imp (.and (.ro 1 rfl) (.ro 2 rfl)) (fun _ h => Lk.app hq3 h.1 h.2)) ?_
    refine r_app (k := 1) Tryd.underlying26 ty46 rfl rfl rfl rfl (.ro 4 rfl) (lk_app hq3 rfl hL0_) rfl (fun s4 => ?_)
    refine lp rfl (p_as rfl) ?_
    refine lj_seq ?_
    obtain rfl := Option.some.inj hm
    exact cj_rt (s4, (([] : List (TItem × SV)) ++ xg0_)) [1, 0] Tryd.results26 (.tmp rfl .nil) rfl rfl
theorem ok_concert_change (a0 : TProgram) (s0_0_ : SV) (xg0_0_ : List (TItem × SV)) (a1 : TItem) (s1_3_ : SV) (a2 : TItem) (s2_3_ : SV) {r : Int} (hm : m_concert_change a0 a1 a2 = some r) :
    Ctr Tryd.prog 78 [.agg [s0_0_.v, .int .i64 a0.Change, .int .i64 a0.Clap, .int .i64 a0.Break, .int .i64 a0.Half].toArray, .agg [.string a1.Key, .string a1.Places, .int .i64 a1.Long, s1_3_.v].toArray, .agg [.string a2.Key, .string a2.Places, .int .i64 a2.Long, s2_3_.v].toArray].toArray ([] : List Ent) [Lk N46 a0.Items xg0_0_, RdS N46.R (SV.v s0_0_) xg0_0_, RdS R9 (SV.v s1_3_) a1.Parts, RdS R9 (SV.v s2_3_) a2.Parts] (X := Unit) (fun _ => .int .i64 r) (fun _ => []) := by
  unfold m_concert_change at hm
  refine ctr_mk (vs := [(0, .agg [s0_0_.v, .int .i64 a0.Change, .int .i64 a0.Clap, .int .i64 a0.Break, .int .i64 a0.Half].toArray), (1, .agg [.string a1.Key, .string a1.Places, .int .i64 a1.Long, s1_3_.v].toArray), (2, .agg [.string a2.Key, .string a2.Places, .int .i64 a2.Long, s2_3_.v].toArray)]) Tryd.func78 rfl Tryd.ntmps78 rfl ⟨rfl, rfl, rfl, trivial⟩ (fun w0 A => ?_)
  refine cj_pure (F := Lk N46 a0.Items xg0_0_) (.ro 0 rfl) (fun _ h => h.1) (fun hL0_0_ => ?_)
  refine cj_seq ?_
  refine cj_reg ?_
  refine r_bx (cs := [s0_0_.v, .int .i64 a0.Change, .int .i64 a0.Clap, .int .i64 a0.Break, .int .i64 a0.Half]) rfl rfl rfl (fun b1 => ?_)
  refine r_bx (cs := [.string a1.Key, .string a1.Places, .int .i64 a1.Long, s1_3_.v]) rfl rfl rfl (fun b2 => ?_)
  refine r_bx (cs := [.string a2.Key, .string a2.Places, .int .i64 a2.Long, s2_3_.v]) rfl rfl rfl (fun b3 => ?_)
  refine lp rfl (p_as rfl) ?_
  refine lj_seq ?_
  refine cj_seq ?_
  refine cj_seq ?_
  refine cj_reg ?_
  refine lp rfl (p_fab fl46_1 rfl) ?_
  refine lp rfl (p_lbs ty9 rfl (j := 1) rfl rfl) ?_
  refine lp rfl (p_fab fl46_1 rfl) ?_
  refine lp rfl (p_lbs ty9 rfl (j := 0) rfl rfl) ?_
  refine lp rfl (p_nes rfl rfl) ?_
  refine lj_seq ?_
  refine cj_if (b := !(a1.Places.toList == a2.Places.toList)) rfl (fun hb => ?_) (fun hb => ?_)
  · have hm := ifB_t hb hm
    refine cj_seq ?_
    refine cj_reg ?_
    refine lp rfl (p_fab fl28_1 rfl) ?_
    refine lp rfl (p_lbs ty3 rfl (j := 2) rfl rfl) ?_
    refine lp rfl (p_as rfl) ?_
    refine lj_seq ?_
    obtain rfl := Option.some.inj hm
    exact cj_rt () [] Tryd.results78 (.tmp rfl .nil) rfl rfl
  · have hm := ifB_f hb hm
    refine cj_skip ?_
    refine nj_seq ?_
    refine cj_seq ?_
    refine cj_reg ?_
    refine lp rfl (p_fab fl28_2 rfl) ?_
    refine lp rfl (p_lbs ty3 rfl (j := 2) rfl rfl) ?_
    refine lp rfl (p_as rfl) ?_
    refine lj_seq ?_
    obtain rfl := Option.some.inj hm
    exact cj_rt () [] Tryd.results78 (.tmp rfl .nil) rfl rfl
theorem ok_concert_behind (a0 : TProgram) (s0_0_ : SV) (xg0_0_ : List (TItem × SV)) (a1 : Int) {r : Int} (hm : m_concert_behind a0 a1 = some r) :
    Ctr Tryd.prog 69 [.agg [s0_0_.v, .int .i64 a0.Change, .int .i64 a0.Clap, .int .i64 a0.Break, .int .i64 a0.Half].toArray, .int .i64 a1].toArray ([] : List Ent) [Lk N46 a0.Items xg0_0_, RdS N46.R (SV.v s0_0_) xg0_0_] (X := Unit) (fun _ => .int .i64 r) (fun _ => []) := by
  unfold m_concert_behind at hm
  refine ctr_mk (vs := [(0, .agg [s0_0_.v, .int .i64 a0.Change, .int .i64 a0.Clap, .int .i64 a0.Break, .int .i64 a0.Half].toArray), (1, .int .i64 a1)]) Tryd.func69 rfl Tryd.ntmps69 rfl ⟨rfl, rfl, trivial⟩ (fun w0 A => ?_)
  refine cj_pure (F := Lk N46 a0.Items xg0_0_) (.ro 0 rfl) (fun _ h => h.1) (fun hL0_0_ => ?_)
  refine cj_seq ?_
  refine cj_reg ?_
  refine r_bx (cs := [s0_0_.v, .int .i64 a0.Change, .int .i64 a0.Clap, .int .i64 a0.Break, .int .i64 a0.Half]) rfl rfl rfl (fun b1 => ?_)
  refine lp rfl (p_as rfl) ?_
  refine lj_seq ?_
  refine cj_seq ?_
  refine cj_seq ?_
  refine cj_reg ?_
  refine lp rfl (p_mv rfl) ?_
  refine lp rfl (p_fab fl28_4 rfl) ?_
  refine lp rfl (p_lbs ty3 rfl (j := 0) rfl rfl) ?_
  refine lp rfl (p_eql rfl rfl) ?_
  refine lj_seq ?_
  refine cj_if (b := a1 == a0.Half) rfl (fun hb => ?_) (fun hb => ?_)
  · have hm := ifB_t hb hm
    refine cj_seq ?_
    refine cj_reg ?_
    refine lp rfl (p_fab fl28_3 rfl) ?_
    refine lp rfl (p_lbs ty3 rfl (j := 0) rfl rfl) ?_
    refine lp rfl (p_as rfl) ?_
    refine lj_seq ?_
    obtain rfl := Option.some.inj hm
    exact cj_rt () [] Tryd.results69 (.tmp rfl .nil) rfl rfl
  · have hm := ifB_f hb hm
    refine cj_skip ?_
    refine nj_seq ?_
    refine cj_seq ?_
    refine cj_quiet (by kernel_rfl) (by kernel_rfl) ?_
    refine q_p rfl (p_lbw ty28 rfl (j := 0) rfl rfl) ?_
    refine q_p rfl (p_fab fl28_0 rfl) ?_
    refine q_p rfl (p_lbs ty26 rfl (j := 0) rfl rfl) ?_
    refine q_p rfl (p_mv rfl) ?_
    obtain ⟨e2, he2, hm⟩ := bindS hm
    obtain ⟨ge2, he2G⟩ := lk_getI hL0_0_ he2
    refine q_p rfl (p_idx Tryd.underlying26 ty46 rfl rfl (.ro 2 rfl) he2G) ?_
    refine q_p rfl (p_leaN (cs := [.string e2.Key, .string e2.Places, .int .i64 e2.Long, ge2.v]) ty46 rfl (.ro 2 rfl) (getI_spec he2G).2 rfl) ?_
    refine q_p rfl (p_fab fl28_0 rfl) ?_
    refine q_p rfl (p_lbs ty26 rfl (j := 0) rfl rfl) ?_
    refine q_p rfl (p_mv rfl) ?_
    refine q_p rfl (p_add rfl rfl) ?_
    obtain ⟨e3, he3, hm⟩ := bindS hm
    obtain ⟨ge3, he3G⟩ := lk_getI hL0_0_ he3
    refine q_p rfl (p_idx Tryd.underlying26 ty46 rfl rfl (.ro 2 rfl) he3G) ?_
    refine q_p rfl (p_leaN (cs := [.string e3.Key, .string e3.Places, .int .i64 e3.Long, ge3.v]) ty46 rfl (.ro 2 rfl) (getI_spec he3G).2 rfl) ?_
    obtain ⟨y4, hy4, hm⟩ := bindS hm
    refine q_call (.int .i64 y4) cf78 rfl rfl (ok_concert_change a0 s0_0_ xg0_0_ e2 ge2 e3 ge3 hy4) (.cons (.ro 1 rfl) (.cons (.ro 2 rfl) (.cons (.imp (.ro 1 rfl) (fun _ h => (Lk.at_ h (getI_spec he2G).2))) (.cons (.imp (.ro 1 rfl) (fun _ h => (Lk.at_ h (getI_spec he3G).2))) .nil)))) (fun _ => rfl) (fun _ => rfl) rfl ?_
    refine q_p rfl (p_as rfl) ?_
    refine q_nil ?_
    refine nj_seq ?_
    obtain rfl := Option.some.inj hm
    exact cj_rt () [] Tryd.results69 (.tmp rfl .nil) rfl rfl
theorem ok_concert_begins (a0 : TProgram) (s0_0_ : SV) (xg0_0_ : List (TItem × SV)) {r : (List Int) × Int} (hm : m_concert_begins a0 = some r) :
    Ctr Tryd.prog 52 [.agg [s0_0_.v, .int .i64 a0.Change, .int .i64 a0.Clap, .int .i64 a0.Break, .int .i64 a0.Half].toArray].toArray ([] : List Ent) [Lk N46 a0.Items xg0_0_, RdS N46.R (SV.v s0_0_) xg0_0_] (X := SV) (fun s => .tuple [s.v, .int .i64 r.2].toArray) (fun s => [.row R3 (SV.v s) r.1]) := by
  unfold m_concert_begins at hm
  refine ctr_mk (vs := [(0, .agg [s0_0_.v, .int .i64 a0.Change, .int .i64 a0.Clap, .int .i64 a0.Break, .int .i64 a0.Half].toArray)]) Tryd.func52 rfl Tryd.ntmps52 rfl ⟨rfl, trivial⟩ (fun w0 A => ?_)
  refine cj_pure (F := Lk N46 a0.Items xg0_0_) (.ro 0 rfl) (fun _ h => h.1) (fun hL0_0_ => ?_)
  refine cj_seq ?_
  refine cj_reg ?_
  refine r_bx (cs := [s0_0_.v, .int .i64 a0.Change, .int .i64 a0.Clap, .int .i64 a0.Break, .int .i64 a0.Half]) rfl rfl rfl (fun b1 => ?_)
  refine lp rfl (p_as rfl) ?_
  refine lp rfl (p_as rfl) ?_
  refine lj_seq ?_
  refine cj_seq ?_
  refine cj_reg ?_
  refine lp rfl (p_as rfl) ?_
  refine lj_seq ?_
  refine cj_seq ?_
  refine cj_reg ?_
  refine lp rfl (p_as rfl) ?_
  refine lj_seq ?_
  refine cj_seq ?_
  refine cj_seq ?_
  refine cj_reg ?_
  refine lp rfl (p_fab fl28_0 rfl) ?_
  refine lp rfl (p_lbs ty26 rfl (j := 0) rfl rfl) ?_
  refine lp rfl (p_lenG hL0_0_ Tryd.underlying26 rfl (.ro 2 rfl)) ?_
  refine lp rfl (p_mv rfl) ?_
  refine lj_seq ?_
  refine cj_nil R3 ?_
  obtain ⟨f9, hf9, hm⟩ := bindS hm
  refine cj_range (γ := SV) (m := (a0.Items.length : Int)) hf9 nilS (fun u6 g7 => [(1, .pointer (some ⟨b1, 0, none⟩)), (2, .slice none 0 0), (3, .int .i64 0), (4, g7.v), (5, .int .i64 u6.1), (9, s0_0_.v)]) (fun u6 g7 => Sat w0 (keys ([] : List Ent)) A [.box b1 28 [s0_0_.v, .int .i64 a0.Change, .int .i64 a0.Clap, .int .i64 a0.Break, .int .i64 a0.Half], .ro (Lk N46 a0.Items xg0_0_), .ro (RdS N46.R (SV.v s0_0_) xg0_0_), .row R3 (SV.v g7) u6.2]) ⟨rfl, rfl, rfl, rfl, rfl, rfl, rfl, rfl, trivial⟩ (fun _ h => h.picks [1, 1, 1, 0] rfl) (nat_lt _) (fun _ h => by have h1 := (FactAt.get (F := RdS N46.R (SV.v s0_0_) xg0_0_) (.ro 3 rfl) h).1; rw [lk_len hL0_0_] at h1; exact h1) (fun _ _ => ⟨rfl, rfl, rfl, rfl⟩) ⟨rfl, rfl, rfl, rfl, rfl⟩ rfl rfl rfl (fun u6 g7 e => ?_) (fun aftk8 i2 x3 u6 g7 k8 hx4 hs J hJk8 hBk8 hX I cnk8 => ?_)
  · have hm := Flow.fin_b e hm
    refine nj_seq ?_
    refine cj_seq ?_
    refine cj_reg ?_
    refine lp rfl (p_mv rfl) ?_
    refine lp rfl (p_mv rfl) ?_
    refine lp rfl (p_as rfl) ?_
    refine lp rfl (p_as rfl) ?_
    refine lj_seq ?_
    obtain rfl := Option.some.inj hm
    exact cj_rt g7 [3] Tryd.results52 (.tmp rfl (.tmp rfl .nil)) rfl rfl
  · have hRk8 : ∀ t, k8 = .ret t → some t = some r := fun t e => by rw [hX t e] at hm; exact hm
    have hm := hs
    refine cj_seq ?_
    refine cj_reg ?_
    refine lp rfl (p_mv rfl) ?_
    obtain ⟨gx3, hx4G⟩ := lk_get hL0_0_ hx4
    refine lp rfl (p_idx Tryd.underlying26 ty46 rfl rfl (.ro 2 rfl) (getI_nat.trans hx4G)) ?_
    refine lp rfl (p_leaN (cs := [.string x3.Key, .string x3.Places, .int .i64 x3.Long, gx3.v]) ty46 rfl (.ro 2 rfl) hx4G rfl) ?_
    refine r_al ty46 rfl (fun b11 => ?_)
    refine lp rfl (p_as rfl) ?_
    refine r_sb (vs := [.string x3.Key, .string x3.Places, .int .i64 x3.Long, gx3.v]) (j := 0) ty46 rfl rfl rfl rfl rfl rfl rfl ?_
    refine lj_seq ?_
    refine cj_seq ?_
    refine cj_reg ?_
    refine lp rfl (p_mv rfl) ?_
    refine lp rfl (p_mv rfl) ?_
    refine r_bs R3 [u6.1] rfl rfl rfl (fun _ => by kernel_rfl) rfl (fun s12 => ?_)
    obtain ⟨q13, hq13, hm⟩ := bindS hm
    refine r_app (k := 5) Tryd.underlying22 ty3 rfl rfl rfl rfl (.row 0 rfl) hq13 rfl (fun s14 => ?_)
    refine lp rfl (p_as rfl) ?_
    refine lj_seq ?_
    refine cj_seq ?_
    refine cj_reg ?_
    refine lp rfl (p_mv rfl) ?_
    refine lp rfl (p_fab fl46_2 rfl) ?_
    refine lp rfl (p_lbs ty3 rfl (j := 1) rfl rfl) ?_
    refine lp rfl (p_add rfl rfl) ?_
    refine lp rfl (p_as rfl) ?_
    refine lj_seq ?_
    refine cj_seq ?_
    refine cj_reg ?_
    refine lp rfl (p_mv rfl) ?_
    refine lp rfl (p_add rfl rfl) ?_
    refine lp rfl (p_fab fl28_0 rfl) ?_
    refine lp rfl (p_lbs ty26 rfl (j := 2) rfl rfl) ?_
    refine lp rfl (p_lenG hL0_0_ Tryd.underlying26 rfl (.ro 4 rfl)) ?_
    refine lp rfl (p_lss rfl rfl) ?_
    refine lj_seq ?_
    refine cj_if (b := decide ((w64 ((i2 : Int) + 1)) < (a0.Items.length : Int))) rfl (fun hb => ?_) (fun hb => ?_)
    · have hm := ifB_t hb hm
      refine cj_reg ?_
      refine lp rfl (p_mv rfl) ?_
      refine lp rfl (p_lbw ty28 rfl (j := 2) rfl rfl) ?_
      refine lp rfl (p_mv rfl) ?_
      obtain ⟨y15, hy15, hm⟩ := bindS hm
      refine r_call [] cf69 rfl rfl (ok_concert_behind a0 s0_0_ xg0_0_ (i2 : Int) hy15) rfl rfl (.cons (.ro 3 rfl) (.cons (.ro 4 rfl) .nil)) (fun _ => rfl) rfl (fun _ => ?_)
      refine lp rfl (p_add rfl rfl) ?_
      refine lp rfl (p_as rfl) ?_
      refine lj_nil ?_
      refine nj_blk ?_
      exact cnk8 _ _ (w64 ((w64 (u6.1 + x3.Long)) + y15), q13) s14 (hJk8 _ (Option.some.inj hm).symm) ⟨rfl, rfl, rfl, rfl, rfl, rfl, rfl, rfl, trivial⟩ (fun _ h => h.picks [2, 2, 2, 2] rfl)
    · have hm := ifB_f hb hm
      refine cj_skip ?_
      refine nj_blk ?_
      exact cnk8 _ _ (w64 (u6.1 + x3.Long), q13) s14 (hJk8 _ (Option.some.inj hm).symm) ⟨rfl, rfl, rfl, rfl, rfl, rfl, rfl, rfl, trivial⟩ (fun _ h => h.picks [2, 2, 2, 2] rfl)
theorem ok_slices_Index_string_string (s0_ : SV) (a0 : (List ByteArray)) (a1 : ByteArray) {r : Int} (hm : m_slices_Index_string_string a0 a1 = some r) :
    Ctr Tryd.prog 64 [s0_.v, .string a1].toArray ([] : List Ent) [RdS R9 (SV.v s0_) a0] (X := Unit) (fun _ => .int .i64 r) (fun _ => []) := by
  unfold m_slices_Index_string_string at hm
  refine ctr_mk (vs := [(0, s0_.v), (1, .string a1)]) Tryd.func64 rfl Tryd.ntmps64 rfl ⟨rfl, rfl, trivial⟩ (fun w0 A => ?_)
  refine cj_seq ?_
  refine cj_reg ?_
  refine lp rfl (p_as rfl) ?_
  refine lj_seq ?_
  refine cj_seq ?_
  refine cj_seq ?_
  refine cj_reg ?_
  refine lp rfl (p_mv rfl) ?_
  refine lp rfl (p_len Tryd.underlying30 rfl (.ro 0 rfl)) ?_
  refine lp rfl (p_mv rfl) ?_
  refine lj_seq ?_
  obtain ⟨f7, hf7, hm⟩ := bindS hm
  refine cj_range (γ := Unit) (m := (a0.length : Int)) hf7 () (fun u4 g5 => [(0, s0_.v), (1, .string a1), (4, .int .i64 0)]) (fun u4 g5 => Sat w0 (keys ([] : List Ent)) A [.ro (RdS R9 (SV.v s0_) a0)]) ⟨rfl, rfl, rfl, rfl, rfl, trivial⟩ (fun _ h => h.picks [0] rfl) (nat_lt _) (fun _ h => (FactAt.get (F := RdS R9 (SV.v s0_) a0) (.ro 0 rfl) h).1) (fun _ _ => ⟨rfl, rfl, rfl, rfl⟩) ⟨rfl, rfl, rfl, rfl, rfl⟩ rfl rfl rfl (fun u4 g5 e => ?_) (fun aftk6 i1 x2 u4 g5 k6 hx3 hs J hJk6 hBk6 hX I cnk6 => ?_)
  · have hm := Flow.fin_b e hm
    refine nj_seq ?_
    refine cj_seq ?_
    refine cj_reg ?_
    refine lp rfl (p_as rfl) ?_
    refine lj_seq ?_
    obtain rfl := Option.some.inj hm
    exact cj_rt () [] Tryd.results64 (.tmp rfl .nil) rfl rfl
  · have hRk6 : ∀ t, k6 = .ret t → some t = some r := fun t e => by rw [hX t e] at hm; exact hm
    have hm := hs
    refine cj_seq ?_
    refine cj_reg ?_
    refine lp rfl (p_mv rfl) ?_
    refine lp rfl (p_as rfl) ?_
    refine lj_seq ?_
    refine cj_seq ?_
    refine cj_reg ?_
    refine lp rfl (p_mv rfl) ?_
    refine lp rfl (p_mv rfl) ?_
    refine lp rfl (p_mv rfl) ?_
    refine lp rfl (p_idx Tryd.underlying30 ty9 rfl rfl (.ro 0 rfl) (getI_nat.trans hx3)) ?_
    refine lp rfl (p_lde (o := 0) ty9 rfl rfl (.ro 0 rfl) hx3 rfl) ?_
    refine lp rfl (p_eqs rfl rfl) ?_
    refine lj_seq ?_
    refine cj_if (b := a1.toList == x2.toList) rfl (fun hb => ?_) (fun hb => ?_)
    · have hm := ifB_t hb hm
      refine cj_seq ?_
      refine cj_reg ?_
      refine lp rfl (p_mv rfl) ?_
      refine lp rfl (p_as rfl) ?_
      refine lj_seq ?_
      have hm := hRk6 _ (Option.some.inj hm).symm
      obtain rfl := Option.some.inj hm
      exact cj_rt () [] Tryd.results64 (.tmp rfl .nil) rfl rfl
    · have hm := ifB_f hb hm
      refine cj_skip ?_
      refine nj_blk ?_
      exact cnk6 _ _ () () (hJk6 _ (Option.some.inj hm).symm) ⟨rfl, rfl, rfl, rfl, rfl, trivial⟩ (fun _ h => h.picks [0] rfl)
theorem ok_slices_Contains_string_string (s0_ : SV) (a0 : (List ByteArray)) (a1 : ByteArray) {r : Bool} (hm : m_slices_Contains_string_string a0 a1 = some r) :
    Ctr Tryd.prog 43 [s0_.v, .string a1].toArray ([] : List Ent) [RdS R9 (SV.v s0_) a0] (X := Unit) (fun _ => .bool r) (fun _ => []) := by
  unfold m_slices_Contains_string_string at hm
  refine ctr_mk (vs := [(0, s0_.v), (1, .string a1)]) Tryd.func43 rfl Tryd.ntmps43 rfl ⟨rfl, rfl, trivial⟩ (fun w0 A => ?_)
  refine cj_seq ?_
  refine cj_reg ?_
  refine lp rfl (p_as rfl) ?_
  refine lj_seq ?_
  refine cj_seq ?_
  refine cj_reg ?_
  refine lp rfl (p_mv rfl) ?_
  refine lp rfl (p_mv rfl) ?_
  obtain ⟨y1, hy1, hm⟩ := bindS hm
  refine r_call [] cf64 rfl rfl (ok_slices_Index_string_string s0_ a0 a1 hy1) rfl rfl (.cons (.ro 0 rfl) .nil) (fun _ => rfl) rfl (fun _ => ?_)
  refine lp rfl (p_geq rfl rfl) ?_
  refine lp rfl (p_as rfl) ?_
  refine lj_seq ?_
  obtain rfl := Option.some.inj hm
  exact cj_rt () [] Tryd.results43 (.tmp rfl .nil) rfl rfl
theorem ok_concert_common_1 (a0 : ByteArray) (b1_ : Nat) (a1_0 : ByteArray) (a1_1 : ByteArray) (a1_2 : Int) (s1_3_ : SV) (a1_3 : (List ByteArray)) {r : Bool} (hm : m_concert_common_1 a0 a1_0 a1_1 a1_2 a1_3 = some r) :
    Ctr Tryd.prog 70 [.string a0, .pointer (some ⟨b1_, 0, none⟩)].toArray ([] : List Ent) [BoxS b1_ 46 [.string a1_0, .string a1_1, .int .i64 a1_2, s1_3_.v], RdS R9 (SV.v s1_3_) a1_3] (X := Unit) (fun _ => .bool r) (fun _ => []) := by
  unfold m_concert_common_1 at hm
  refine ctr_mk (vs := [(0, .string a0), (1, .pointer (some ⟨b1_, 0, none⟩))]) Tryd.func70 rfl Tryd.ntmps70 rfl ⟨rfl, rfl, trivial⟩ (fun w0 A => ?_)
  refine cj_seq ?_
  refine cj_reg ?_
  refine lp rfl (p_as rfl) ?_
  refine lj_seq ?_
  refine cj_seq ?_
  refine cj_reg ?_
  refine lp rfl (p_fab fl46_3 rfl) ?_
  refine lp rfl (p_rbs ty30 rfl (.ro 0 rfl) rfl) ?_
  refine lp rfl (p_mv rfl) ?_
  obtain ⟨y1, hy1, hm⟩ := bindS hm
  refine r_call [] cf43 rfl rfl (ok_slices_Contains_string_string s1_3_ a1_3 a0 hy1) rfl rfl (.cons (.ro 1 rfl) .nil) (fun _ => rfl) rfl (fun _ => ?_)
  refine lp rfl (p_as rfl) ?_
  refine lj_seq ?_
  obtain rfl := Option.some.inj hm
  exact cj_rt () [] Tryd.results70 (.tmp rfl .nil) rfl rfl
theorem ok_slices_IndexFunc_string_string__concert_common_1 (s0_ : SV) (a0 : (List ByteArray)) (b1_c0_ : Nat) (a1_c0_0 : ByteArray) (a1_c0_1 : ByteArray) (a1_c0_2 : Int) (s1_c0_3_ : SV) (a1_c0_3 : (List ByteArray)) {r : Int} (hm : m_slices_IndexFunc_string_string__concert_common_1 a0 a1_c0_0 a1_c0_1 a1_c0_2 a1_c0_3 = some r) :
    Ctr Tryd.prog 74 [s0_.v, .func (.func 70) #[] [.pointer (some ⟨b1_c0_, 0, none⟩)].toArray].toArray ([] : List Ent) [RdS R9 (SV.v s0_) a0, BoxS b1_c0_ 46 [.string a1_c0_0, .string a1_c0_1, .int .i64 a1_c0_2, s1_c0_3_.v], RdS R9 (SV.v s1_c0_3_) a1_c0_3] (X := Unit) (fun _ => .int .i64 r) (fun _ => []) := by
  unfold m_slices_IndexFunc_string_string__concert_common_1 at hm
  refine ctr_mk (vs := [(0, s0_.v), (1, .func (.func 70) #[] [.pointer (some ⟨b1_c0_, 0, none⟩)].toArray)]) Tryd.func74 rfl Tryd.ntmps74 rfl ⟨rfl, rfl, trivial⟩ (fun w0 A => ?_)
  refine cj_seq ?_
  refine cj_reg ?_
  refine lp rfl (p_as rfl) ?_
  refine lj_seq ?_
  refine cj_seq ?_
  refine cj_seq ?_
  refine cj_reg ?_
  refine lp rfl (p_mv rfl) ?_
  refine lp rfl (p_len Tryd.underlying30 rfl (.ro 0 rfl)) ?_
  refine lp rfl (p_mv rfl) ?_
  refine lj_seq ?_
  obtain ⟨f7, hf7, hm⟩ := bindS hm
  refine cj_range (γ := Unit) (m := (a0.length : Int)) hf7 () (fun u4 g5 => [(0, s0_.v), (1, .func (.func 70) #[] [.pointer (some ⟨b1_c0_, 0, none⟩)].toArray), (4, .int .i64 0)]) (fun u4 g5 => Sat w0 (keys ([] : List Ent)) A [.ro (RdS R9 (SV.v s0_) a0), .ro (BoxS b1_c0_ 46 [.string a1_c0_0, .string a1_c0_1, .int .i64 a1_c0_2, s1_c0_3_.v]), .ro (RdS R9 (SV.v s1_c0_3_) a1_c0_3)]) ⟨rfl, rfl, rfl, rfl, rfl, trivial⟩ (fun _ h => h.picks [0, 0, 0] rfl) (nat_lt _) (fun _ h => (FactAt.get (F := RdS R9 (SV.v s0_) a0) (.ro 0 rfl) h).1) (fun _ _ => ⟨rfl, rfl, rfl, rfl⟩) ⟨rfl, rfl, rfl, rfl, rfl⟩ rfl rfl rfl (fun u4 g5 e => ?_) (fun aftk6 i1 x2 u4 g5 k6 hx3 hs J hJk6 hBk6 hX I cnk6 => ?_)
  · have hm := Flow.fin_b e hm
    refine nj_seq ?_
    refine cj_seq ?_
    refine cj_reg ?_
    refine lp rfl (p_as rfl) ?_
    refine lj_seq ?_
    obtain rfl := Option.some.inj hm
    exact cj_rt () [] Tryd.results74 (.tmp rfl .nil) rfl rfl
  · have hRk6 : ∀ t, k6 = .ret t → some t = some r := fun t e => by rw [hX t e] at hm; exact hm
    have hm := hs
    refine cj_seq ?_
    refine cj_reg ?_
    refine lp rfl (p_mv rfl) ?_
    refine lp rfl (p_as rfl) ?_
    refine lj_seq ?_
    refine cj_seq ?_
    refine cj_reg ?_
    refine lp rfl (p_mv rfl) ?_
    refine lp rfl (p_mv rfl) ?_
    refine lp rfl (p_mv rfl) ?_
    refine lp rfl (p_idx Tryd.underlying30 ty9 rfl rfl (.ro 0 rfl) (getI_nat.trans hx3)) ?_
    refine lp rfl (p_lde (o := 0) ty9 rfl rfl (.ro 0 rfl) hx3 rfl) ?_
    obtain ⟨y8, hy8, hm⟩ := bindS hm
    refine r_call [] cf70 rfl rfl (ok_concert_common_1 x2 b1_c0_ a1_c0_0 a1_c0_1 a1_c0_2 s1_c0_3_ a1_c0_3 hy8) rfl rfl (.cons (.ro 1 rfl) (.cons (.ro 2 rfl) .nil)) (fun _ => rfl) rfl (fun _ => ?_)
    refine lj_seq ?_
    refine cj_if (b := y8) rfl (fun hb => ?_) (fun hb => ?_)
    · have hm := ifB_t hb hm
      refine cj_seq ?_
      refine cj_reg ?_
      refine lp rfl (p_mv rfl) ?_
      refine lp rfl (p_as rfl) ?_
      refine lj_seq ?_
      have hm := hRk6 _ (Option.some.inj hm).symm
      obtain rfl := Option.some.inj hm
      exact cj_rt () [] Tryd.results74 (.tmp rfl .nil) rfl rfl
    · have hm := ifB_f hb hm
      refine cj_skip ?_
      refine nj_blk ?_
      exact cnk6 _ _ () () (hJk6 _ (Option.some.inj hm).symm) ⟨rfl, rfl, rfl, rfl, rfl, trivial⟩ (fun _ h => h.picks [0, 0, 0] rfl)
theorem ok_slices_ContainsFunc_string_string__concert_common_1 (s0_ : SV) (a0 : (List ByteArray)) (b1_c0_ : Nat) (a1_c0_0 : ByteArray) (a1_c0_1 : ByteArray) (a1_c0_2 : Int) (s1_c0_3_ : SV) (a1_c0_3 : (List ByteArray)) {r : Bool} (hm : m_slices_ContainsFunc_string_string__concert_common_1 a0 a1_c0_0 a1_c0_1 a1_c0_2 a1_c0_3 = some r) :
    Ctr Tryd.prog 58 [s0_.v, .func (.func 70) #[] [.pointer (some ⟨b1_c0_, 0, none⟩)].toArray].toArray ([] : List Ent) [RdS R9 (SV.v s0_) a0, BoxS b1_c0_ 46 [.string a1_c0_0, .string a1_c0_1, .int .i64 a1_c0_2, s1_c0_3_.v], RdS R9 (SV.v s1_c0_3_) a1_c0_3] (X := Unit) (fun _ => .bool r) (fun _ => []) := by
  unfold m_slices_ContainsFunc_string_string__concert_common_1 at hm
  refine ctr_mk (vs := [(0, s0_.v), (1, .func (.func 70) #[] [.pointer (some ⟨b1_c0_, 0, none⟩)].toArray)]) Tryd.func58 rfl Tryd.ntmps58 rfl ⟨rfl, rfl, trivial⟩ (fun w0 A => ?_)
  refine cj_seq ?_
  refine cj_reg ?_
  refine lp rfl (p_as rfl) ?_
  refine lj_seq ?_
  refine cj_seq ?_
  refine cj_reg ?_
  refine lp rfl (p_mv rfl) ?_
  refine lp rfl (p_mv rfl) ?_
  obtain ⟨y1, hy1, hm⟩ := bindS hm
  refine r_call [] cf74 rfl rfl (ok_slices_IndexFunc_string_string__concert_common_1 s0_ a0 b1_c0_ a1_c0_0 a1_c0_1 a1_c0_2 s1_c0_3_ a1_c0_3 hy1) rfl rfl (.cons (.ro 0 rfl) (.cons (.ro 1 rfl) (.cons (.ro 2 rfl) .nil))) (fun _ => rfl) rfl (fun _ => ?_)
  refine lp rfl (p_geq rfl rfl) ?_
  refine lp rfl (p_as rfl) ?_
  refine lj_seq ?_
  obtain rfl := Option.some.inj hm
  exact cj_rt () [] Tryd.results58 (.tmp rfl .nil) rfl rfl
theorem ok_concert_common (a0 : TItem) (s0_3_ : SV) (a1 : TItem) (s1_3_ : SV) {r : Bool} (hm : m_concert_common a0 a1 = some r) :
    Ctr Tryd.prog 53 [.agg [.string a0.Key, .string a0.Places, .int .i64 a0.Long, s0_3_.v].toArray, .agg [.string a1.Key, .string a1.Places, .int .i64 a1.Long, s1_3_.v].toArray].toArray ([] : List Ent) [RdS R9 (SV.v s0_3_) a0.Parts, RdS R9 (SV.v s1_3_) a1.Parts] (X := Unit) (fun _ => .bool r) (fun _ => []) := by
  unfold m_concert_common at hm
  refine ctr_mk (vs := [(0, .agg [.string a0.Key, .string a0.Places, .int .i64 a0.Long, s0_3_.v].toArray), (1, .agg [.string a1.Key, .string a1.Places, .int .i64 a1.Long, s1_3_.v].toArray)]) Tryd.func53 rfl Tryd.ntmps53 rfl ⟨rfl, rfl, trivial⟩ (fun w0 A => ?_)
  refine cj_seq ?_
  refine cj_reg ?_
  refine r_bx (cs := [.string a0.Key, .string a0.Places, .int .i64 a0.Long, s0_3_.v]) rfl rfl rfl (fun b1 => ?_)
  refine r_bx (cs := [.string a1.Key, .string a1.Places, .int .i64 a1.Long, s1_3_.v]) rfl rfl rfl (fun b2 => ?_)
  refine lp rfl (p_as rfl) ?_
  refine lj_seq ?_
  refine cj_seq ?_
  refine cj_reg ?_
  refine lp rfl (p_fab fl46_3 rfl) ?_
  refine lp rfl (p_lbs ty30 rfl (j := 1) rfl rfl) ?_
  refine lp rfl (p_fn (cv := [.pointer (some ⟨b2, 0, none⟩)]) rfl) ?_
  obtain ⟨y3, hy3, hm⟩ := bindS hm
  refine r_call [] cf58 rfl rfl (ok_slices_ContainsFunc_string_string__concert_common_1 s0_3_ a0.Parts b2 a1.Key a1.Places a1.Long s1_3_ a1.Parts hy3) rfl rfl (.cons (.ro 2 rfl) (.cons (.imp (.box 0 rfl) (fun _ h => h)) (.cons (.ro 3 rfl) .nil))) (fun _ => rfl) rfl (fun _ => ?_)
  refine lp rfl (p_as rfl) ?_
  refine lj_seq ?_
  obtain rfl := Option.some.inj hm
  exact cj_rt () [] Tryd.results53 (.tmp rfl .nil) rfl rfl
theorem ok_concert_rankOf (a0 : TProgram) (s0_0_ : SV) (xg0_0_ : List (TItem × SV)) {r : Tconcert_rank} (hm : m_concert_rankOf a0 = some r) :
    Ctr Tryd.prog 29 [.agg [s0_0_.v, .int .i64 a0.Change, .int .i64 a0.Clap, .int .i64 a0.Break, .int .i64 a0.Half].toArray].toArray ([] : List Ent) [Lk N46 a0.Items xg0_0_, RdS N46.R (SV.v s0_0_) xg0_0_] (X := SV) (fun s => .agg [.int .i64 r.long_, .int .i64 r.pairs, s.v].toArray) (fun s => [.row R9 (SV.v s) r.keys]) := by
  unfold m_concert_rankOf at hm
  refine ctr_mk (vs := [(0, .agg [s0_0_.v, .int .i64 a0.Change, .int .i64 a0.Clap, .int .i64 a0.Break, .int .i64 a0.Half].toArray)]) Tryd.func29 rfl Tryd.ntmps29 rfl ⟨rfl, trivial⟩ (fun w0 A => ?_)
  refine cj_pure (F := Lk N46 a0.Items xg0_0_) (.ro 0 rfl) (fun _ h => h.1) (fun hL0_0_ => ?_)
  refine cj_seq ?_
  refine cj_reg ?_
  refine r_bx (cs := [s0_0_.v, .int .i64 a0.Change, .int .i64 a0.Clap, .int .i64 a0.Break, .int .i64 a0.Half]) rfl rfl rfl (fun b1 => ?_)
  refine r_al ty60 rfl (fun b2 => ?_)
  refine lj_seq ?_
  refine cj_seq ?_
  refine cj_reg ?_
  refine r_al ty60 rfl (fun b3 => ?_)
  refine lj_seq ?_
  refine cj_seq ?_
  refine cj_reg ?_
  refine lp rfl (p_lbw ty28 rfl (j := 2) rfl rfl) ?_
  obtain ⟨y4, hy4, hm⟩ := bindS hm
  refine r_call [] cf52 rfl rfl (ok_concert_begins a0 s0_0_ xg0_0_ hy4) rfl rfl (.cons (.ro 3 rfl) (.cons (.ro 4 rfl) .nil)) (fun _ => rfl) rfl (fun s5 => ?_)
  refine lp rfl (p_mv rfl) ?_
  refine lp rfl (p_ext rfl rfl) ?_
  refine lp rfl (p_ext rfl rfl) ?_
  refine lp rfl (p_fab fl60_0 rfl) ?_
  refine r_sb (vs := [.int .i64 y4.2]) (j := 1) ty3 rfl rfl rfl rfl rfl rfl rfl ?_
  refine lj_seq ?_
  refine cj_seq ?_
  refine cj_seq ?_
  refine cj_reg ?_
  refine lp rfl (p_fab fl28_0 rfl) ?_
  refine lp rfl (p_lbs ty26 rfl (j := 3) rfl rfl) ?_
  refine lp rfl (p_lenG hL0_0_ Tryd.underlying26 rfl (.ro 5 rfl)) ?_
  refine lp rfl (p_mv rfl) ?_
  refine lj_seq ?_
  refine cj_nil R9 ?_
  obtain ⟨f13, hf13, hm⟩ := bindS hm
  refine cj_range (γ := SV) (m := (a0.Items.length : Int)) hf13 nilS (fun u10 g11 => [(1, .pointer (some ⟨b1, 0, none⟩)), (2, .pointer (some ⟨b2, 0, none⟩)), (3, .pointer (some ⟨b3, 0, none⟩)), (13, s0_0_.v)]) (fun u10 g11 => Sat w0 (keys ([] : List Ent)) A [.box b3 60 [.int .i64 y4.2, .int .i64 u10.1, g11.v], .box b2 60 [.int .i64 0, .int .i64 0, .slice none 0 0], .box b1 28 [s0_0_.v, .int .i64 a0.Change, .int .i64 a0.Clap, .int .i64 a0.Break, .int .i64 a0.Half], .ro (Lk N46 a0.Items xg0_0_), .ro (RdS N46.R (SV.v s0_0_) xg0_0_), .row R9 (SV.v g11) u10.2]) ⟨rfl, rfl, rfl, rfl, rfl, rfl, trivial⟩ (fun _ h => h.picks [2, 2, 2, 2, 2, 0] rfl) (nat_lt _) (fun _ h => by have h1 := (FactAt.get (F := RdS N46.R (SV.v s0_0_) xg0_0_) (.ro 6 rfl) h).1; rw [lk_len hL0_0_] at h1; exact h1) (fun _ _ => ⟨rfl, rfl, rfl, rfl⟩) ⟨rfl, rfl, rfl, rfl, rfl⟩ rfl rfl rfl (fun u10 g11 e => ?_) (fun aftk12 i6 x7 u10 g11 k12 hx8 hs J hJk12 hBk12 hX I cnk12 => ?_)
  · have hm := Flow.fin_b e hm
    refine nj_seq ?_
    refine cj_seq ?_
    refine cj_reg ?_
    refine lp rfl (p_lbw ty60 rfl (j := 0) rfl rfl) ?_
    refine r_sb (vs := [.int .i64 y4.2, .int .i64 u10.1, g11.v]) (j := 1) ty60 rfl rfl rfl rfl rfl rfl rfl ?_
    refine lj_seq ?_
    obtain rfl := Option.some.inj hm
    exact cj_rt g11 [5] Tryd.results29 (.agg (k := 1) ty60 rfl rfl rfl .nil) rfl rfl
  · have hRk12 : ∀ t, k12 = .ret t → some t = some r := fun t e => by rw [hX t e] at hm; exact hm
    have hm := hs
    refine cj_seq ?_
    refine cj_reg ?_
    refine lp rfl (p_mv rfl) ?_
    obtain ⟨gx7, hx8G⟩ := lk_get hL0_0_ hx8
    refine lp rfl (p_idx Tryd.underlying26 ty46 rfl rfl (.ro 4 rfl) (getI_nat.trans hx8G)) ?_
    refine lp rfl (p_leaN (cs := [.string x7.Key, .string x7.Places, .int .i64 x7.Long, gx7.v]) ty46 rfl (.ro 4 rfl) hx8G rfl) ?_
    refine r_al ty46 rfl (fun b15 => ?_)
    refine lp rfl (p_as rfl) ?_
    refine r_sb (vs := [.string x7.Key, .string x7.Places, .int .i64 x7.Long, gx7.v]) (j := 0) ty46 rfl rfl rfl rfl rfl rfl rfl ?_
    refine lj_seq ?_
    refine cj_seq ?_
    refine cj_reg ?_
    refine lp rfl (p_fab fl60_2 rfl) ?_
    refine lp rfl (p_lbs ty30 rfl (j := 1) rfl rfl) ?_
    refine lp rfl (p_fab fl46_0 rfl) ?_
    refine lp rfl (p_lbs ty9 rfl (j := 0) rfl rfl) ?_
    refine r_bs R9 [x7.Key] rfl rfl rfl (fun _ => by kernel_rfl) rfl (fun s16 => ?_)
    obtain ⟨q17, hq17, hm⟩ := bindS hm
    refine r_app (k := 7) Tryd.underlying30 ty9 rfl rfl rfl rfl (.row 0 rfl) hq17 rfl (fun s18 => ?_)
    refine lp rfl (p_fab fl60_2 rfl) ?_
    refine r_sb (vs := [s18.v]) (j := 2) ty30 rfl rfl rfl rfl rfl rfl rfl ?_
    refine lj_seq ?_
    refine cj_seq ?_
    refine cj_quiet (by kernel_rfl) (by kernel_rfl) ?_
    refine q_p rfl (p_mv rfl) ?_
    refine q_p rfl (p_gtr rfl rfl) ?_
    refine q_p rfl (p_mv rfl) ?_
    refine q_case (i := 29) (decide ((i6 : Int) > 0)) rfl (fun hb => ?_) (fun hb => ?_)
    · have hm := ifB_t hb hm
      refine q_g true rfl rfl rfl ?_
      refine q_p rfl (p_mv rfl) ?_
      refine q_g true rfl rfl rfl ?_
      refine q_p rfl (p_sub rfl rfl) ?_
      refine q_g true rfl rfl rfl ?_
      refine q_p rfl (p_fab fl28_4 rfl) ?_
      refine q_g true rfl rfl rfl ?_
      refine q_p rfl (p_lbs ty3 rfl (j := 4) rfl rfl) ?_
      refine q_g true rfl rfl rfl ?_
      refine q_p rfl (p_neq rfl rfl) ?_
      refine q_p rfl (p_pkt rfl rfl) ?_
      refine q_p rfl (p_mv rfl) ?_
      refine q_case (i := 36) ((w64 ((i6 : Int) - 1)) != a0.Half) rfl (fun hb => ?_) (fun hb => ?_)
      · have hm := ifB_t hb hm
        refine q_g true rfl rfl rfl ?_
        refine q_p rfl (p_fab fl28_0 rfl) ?_
        refine q_g true rfl rfl rfl ?_
        refine q_p rfl (p_lbs ty26 rfl (j := 4) rfl rfl) ?_
        refine q_g true rfl rfl rfl ?_
        refine q_p rfl (p_mv rfl) ?_
        refine q_g true rfl rfl rfl ?_
        refine q_p rfl (p_sub rfl rfl) ?_
        refine q_g true rfl rfl rfl ?_
        obtain ⟨e19, he19, hm⟩ := bindS hm
        obtain ⟨ge19, he19G⟩ := lk_getI hL0_0_ he19
        refine q_p rfl (p_idx Tryd.underlying26 ty46 rfl rfl (.ro 6 rfl) he19G) ?_
        refine q_g true rfl rfl rfl ?_
        refine q_p rfl (p_leaN (cs := [.string e19.Key, .string e19.Places, .int .i64 e19.Long, ge19.v]) ty46 rfl (.ro 6 rfl) (getI_spec he19G).2 rfl) ?_
        refine q_g true rfl rfl rfl ?_
        refine q_p rfl (p_lbw ty46 rfl (j := 1) rfl rfl) ?_
        refine q_g true rfl rfl rfl ?_
        obtain ⟨y20, hy20, hm⟩ := bindS hm
        refine q_call (.bool y20) cf53 rfl rfl (ok_concert_common e19 ge19 x7 gx7 hy20) (.cons (.imp (.ro 5 rfl) (fun _ h => (Lk.at_ h (getI_spec he19G).2))) (.cons (.imp (.ro 5 rfl) (fun _ h => (Lk.at_ h hx8G))) .nil)) (fun _ => rfl) (fun _ => rfl) rfl ?_
        refine q_p rfl (p_pkt rfl rfl) ?_
        refine q_nil ?_
        refine nj_seq ?_
        refine cj_if (b := y20) rfl (fun hb => ?_) (fun hb => ?_)
        · have hm := ifB_t hb hm
          refine cj_reg ?_
          refine lp rfl (p_fab fl60_1 rfl) ?_
          refine lp rfl (p_lbs ty3 rfl (j := 2) rfl rfl) ?_
          refine lp rfl (p_add rfl rfl) ?_
          refine lp rfl (p_fab fl60_1 rfl) ?_
          refine r_sb (vs := [.int .i64 (w64 (u10.1 + 1))]) (j := 2) ty3 rfl rfl rfl rfl rfl rfl rfl ?_
          refine lj_nil ?_
          refine nj_blk ?_
          exact cnk12 _ _ (w64 (u10.1 + 1), q17) s18 (hJk12 _ (Option.some.inj hm).symm) ⟨rfl, rfl, rfl, rfl, rfl, rfl, trivial⟩ (fun _ h => h.picks [2, 2, 2, 2, 2, 2] rfl)
        · have hm := ifB_f hb hm
          refine cj_skip ?_
          refine nj_blk ?_
          exact cnk12 _ _ (u10.1, q17) s18 (hJk12 _ (Option.some.inj hm).symm) ⟨rfl, rfl, rfl, rfl, rfl, rfl, trivial⟩ (fun _ h => h.picks [2, 2, 2, 2, 2, 2] rfl)
      · have hm := ifB_f hb hm
        refine q_s true rfl rfl rfl rfl ?_
        refine q_s true rfl rfl rfl rfl ?_
        refine q_s true rfl rfl rfl rfl ?_
        refine q_s true rfl rfl rfl rfl ?_
        refine q_s true rfl rfl rfl rfl ?_
        refine q_s true rfl rfl rfl rfl ?_
        refine q_s true rfl rfl rfl rfl ?_
        refine q_s true rfl rfl rfl rfl ?_
        refine q_p rfl (p_pkf rfl rfl) ?_
        refine q_nil ?_
        refine nj_seq ?_
        refine cj_if_f rfl ?_
        refine cj_skip ?_
        refine nj_blk ?_
        exact cnk12 _ _ (u10.1, q17) s18 (hJk12 _ (Option.some.inj hm).symm) ⟨rfl, rfl, rfl, rfl, rfl, rfl, trivial⟩ (fun _ h => h.picks [2, 2, 2, 2, 2, 2] rfl)
    · have hm := ifB_f hb hm
      refine q_s true rfl rfl rfl rfl ?_
      refine q_s true rfl rfl rfl rfl ?_
      refine q_s true rfl rfl rfl rfl ?_
      refine q_s true rfl rfl rfl rfl ?_
      refine q_s true rfl rfl rfl rfl ?_
      refine q_p rfl (p_pkf rfl rfl) ?_
      refine q_p rfl (p_mv rfl) ?_
      refine q_s true rfl rfl rfl rfl ?_
      refine q_s true rfl rfl rfl rfl ?_
      refine q_s true rfl rfl rfl rfl ?_
      refine q_s true rfl rfl rfl rfl ?_
      refine q_s true rfl rfl rfl rfl ?_
      refine q_s true rfl rfl rfl rfl ?_
      refine q_s true rfl rfl rfl rfl ?_
      refine q_s true rfl rfl rfl rfl ?_
      refine q_p rfl (p_pkf rfl rfl) ?_
      refine q_nil ?_
      refine nj_seq ?_
      refine cj_if_f rfl ?_
      refine cj_skip ?_
      refine nj_blk ?_
      exact cnk12 _ _ (u10.1, q17) s18 (hJk12 _ (Option.some.inj hm).symm) ⟨rfl, rfl, rfl, rfl, rfl, rfl, trivial⟩ (fun _ h => h.picks [2, 2, 2, 2, 2, 2] rfl)
theorem ok_cmp_isNaN_string (a0 : ByteArray) {r : Bool} (hm : m_cmp_isNaN_string a0 = some r) :
    Ctr Tryd.prog 75 [.string a0].toArray ([] : List Ent) [] (X := Unit) (fun _ => .bool r) (fun _ => []) := by
  unfold m_cmp_isNaN_string at hm
  refine ctr_mk (vs := [(0, .string a0)]) Tryd.func75 rfl Tryd.ntmps75 rfl ⟨rfl, trivial⟩ (fun w0 A => ?_)
  refine cj_seq ?_
  refine cj_reg ?_
  refine lp rfl (p_as rfl) ?_
  refine lj_seq ?_
  refine cj_seq ?_
  refine cj_reg ?_
  refine lp rfl (p_mv rfl) ?_
  refine lp rfl (p_mv rfl) ?_
  refine lp rfl (p_nes rfl rfl) ?_
  refine lp rfl (p_as rfl) ?_
  refine lj_seq ?_
  obtain rfl := Option.some.inj hm
  exact cj_rt () [] Tryd.results75 (.tmp rfl .nil) rfl rfl
theorem ok_cmp_Compare_string (a0 : ByteArray) (a1 : ByteArray) {r : Int} (hm : m_cmp_Compare_string a0 a1 = some r) :
    Ctr Tryd.prog 60 [.string a0, .string a1].toArray ([] : List Ent) [] (X := Unit) (fun _ => .int .i64 r) (fun _ => []) := by
  unfold m_cmp_Compare_string at hm
  refine ctr_mk (vs := [(0, .string a0), (1, .string a1)]) Tryd.func60 rfl Tryd.ntmps60 rfl ⟨rfl, rfl, trivial⟩ (fun w0 A => ?_)
  refine cj_seq ?_
  refine cj_reg ?_
  refine lp rfl (p_as rfl) ?_
  refine lj_seq ?_
  refine cj_seq ?_
  refine cj_reg ?_
  refine lp rfl (p_mv rfl) ?_
  obtain ⟨y1, hy1, hm⟩ := bindS hm
  refine r_call [] cf75 rfl rfl (ok_cmp_isNaN_string a0 hy1) rfl rfl .nil (fun _ => rfl) rfl (fun _ => ?_)
  refine lp rfl (p_as rfl) ?_
  refine lj_seq ?_
  refine cj_seq ?_
  refine cj_reg ?_
  refine lp rfl (p_mv rfl) ?_
  obtain ⟨y2, hy2, hm⟩ := bindS hm
  refine r_call [] cf75 rfl rfl (ok_cmp_isNaN_string a1 hy2) rfl rfl .nil (fun _ => rfl) rfl (fun _ => ?_)
  refine lp rfl (p_as rfl) ?_
  refine lj_seq ?_
  refine cj_seq ?_
  refine cj_seq ?_
  refine cj_reg ?_
  refine lp rfl (p_mv rfl) ?_
  refine lj_seq ?_
  refine cj_if (b := y1) rfl (fun hb => ?_) (fun hb => ?_)
  · have hm := ifB_t hb hm
    refine cj_seq ?_
    refine cj_seq ?_
    refine cj_reg ?_
    refine lp rfl (p_mv rfl) ?_
    refine lj_seq ?_
    refine cj_if (b := y2) rfl (fun hb => ?_) (fun hb => ?_)
    · have hm := ifB_t hb hm
      refine cj_seq ?_
      refine cj_reg ?_
      refine lp rfl (p_as rfl) ?_
      refine lj_seq ?_
      obtain rfl := Option.some.inj hm
      exact cj_rt () [] Tryd.results60 (.tmp rfl .nil) rfl rfl
    · have hm := ifB_f hb hm
      refine cj_skip ?_
      refine nj_seq ?_
      refine cj_seq ?_
      refine cj_reg ?_
      refine lp rfl (p_as rfl) ?_
      refine lj_seq ?_
      obtain rfl := Option.some.inj hm
      exact cj_rt () [] Tryd.results60 (.tmp rfl .nil) rfl rfl
  · have hm := ifB_f hb hm
    refine cj_skip ?_
    refine nj_seq ?_
    refine cj_seq ?_
    refine cj_seq ?_
    refine cj_reg ?_
    refine lp rfl (p_mv rfl) ?_
    refine lj_seq ?_
    refine cj_if (b := y2) rfl (fun hb => ?_) (fun hb => ?_)
    · have hm := ifB_t hb hm
      refine cj_seq ?_
      refine cj_reg ?_
      refine lp rfl (p_as rfl) ?_
      refine lj_seq ?_
      obtain rfl := Option.some.inj hm
      exact cj_rt () [] Tryd.results60 (.tmp rfl .nil) rfl rfl
    · have hm := ifB_f hb hm
      refine cj_skip ?_
      refine nj_seq ?_
      refine cj_seq ?_
      refine cj_seq ?_
      refine cj_reg ?_
      refine lp rfl (p_mv rfl) ?_
      refine lp rfl (p_mv rfl) ?_
      refine lp rfl (p_lts rfl rfl) ?_
      refine lj_seq ?_
      refine cj_if (b := Op.bytesLess a0.toList a1.toList) rfl (fun hb => ?_) (fun hb => ?_)
      · have hm := ifB_t hb hm
        refine cj_seq ?_
        refine cj_reg ?_
        refine lp rfl (p_as rfl) ?_
        refine lj_seq ?_
        obtain rfl := Option.some.inj hm
        exact cj_rt () [] Tryd.results60 (.tmp rfl .nil) rfl rfl
      · have hm := ifB_f hb hm
        refine cj_skip ?_
        refine nj_seq ?_
        refine cj_seq ?_
        refine cj_seq ?_
        refine cj_reg ?_
        refine lp rfl (p_mv rfl) ?_
        refine lp rfl (p_mv rfl) ?_
        refine lp rfl (p_gts rfl rfl) ?_
        refine lj_seq ?_
        refine cj_if (b := !(Op.bytesLess a0.toList a1.toList || a0.toList == a1.toList)) rfl (fun hb => ?_) (fun hb => ?_)
        · have hm := ifB_t hb hm
          refine cj_seq ?_
          refine cj_reg ?_
          refine lp rfl (p_as rfl) ?_
          refine lj_seq ?_
          obtain rfl := Option.some.inj hm
          exact cj_rt () [] Tryd.results60 (.tmp rfl .nil) rfl rfl
        · have hm := ifB_f hb hm
          refine cj_skip ?_
          refine nj_seq ?_
          refine cj_seq ?_
          refine cj_reg ?_
          refine lp rfl (p_as rfl) ?_
          refine lj_seq ?_
          obtain rfl := Option.some.inj hm
          exact cj_rt () [] Tryd.results60 (.tmp rfl .nil) rfl rfl
theorem ok_slices_Compare_string_string (s0_ : SV) (a0 : (List ByteArray)) (s1_ : SV) (a1 : (List ByteArray)) {r : Int} (hm : m_slices_Compare_string_string a0 a1 = some r) :
    Ctr Tryd.prog 38 [s0_.v, s1_.v].toArray ([] : List Ent) [RdS R9 (SV.v s0_) a0, RdS R9 (SV.v s1_) a1] (X := Unit) (fun _ => .int .i64 r) (fun _ => []) := by
  unfold m_slices_Compare_string_string at hm
  refine ctr_mk (vs := [(0, s0_.v), (1, s1_.v)]) Tryd.func38 rfl Tryd.ntmps38 rfl ⟨rfl, rfl, trivial⟩ (fun w0 A => ?_)
  refine cj_seq ?_
  refine cj_reg ?_
  refine lp rfl (p_as rfl) ?_
  refine lj_seq ?_
  refine cj_seq ?_
  refine cj_seq ?_
  refine cj_reg ?_
  refine lp rfl (p_mv rfl) ?_
  refine lp rfl (p_len Tryd.underlying30 rfl (.ro 0 rfl)) ?_
  refine lp rfl (p_mv rfl) ?_
  refine lj_seq ?_
  obtain ⟨f7, hf7, hm⟩ := bindS hm
  refine cj_range (γ := Unit) (m := (a0.length : Int)) hf7 () (fun u4 g5 => [(0, s0_.v), (1, s1_.v), (4, .int .i64 0), (9, s0_.v)]) (fun u4 g5 => Sat w0 (keys ([] : List Ent)) A [.ro (RdS R9 (SV.v s0_) a0), .ro (RdS R9 (SV.v s1_) a1)]) ⟨rfl, rfl, rfl, rfl, rfl, rfl, trivial⟩ (fun _ h => h.picks [0, 0] rfl) (nat_lt _) (fun _ h => (FactAt.get (F := RdS R9 (SV.v s0_) a0) (.ro 0 rfl) h).1) (fun _ _ => ⟨rfl, rfl, rfl, rfl⟩) ⟨rfl, rfl, rfl, rfl, rfl⟩ rfl rfl rfl (fun u4 g5 e => ?_) (fun aftk6 i1 x2 u4 g5 k6 hx3 hs J hJk6 hBk6 hX I cnk6 => ?_)
  · have hm := Flow.fin_b e hm
    refine nj_seq ?_
    refine cj_seq ?_
    refine cj_seq ?_
    refine cj_reg ?_
    refine lp rfl (p_mv rfl) ?_
    refine lp rfl (p_len Tryd.underlying30 rfl (.ro 0 rfl)) ?_
    refine lp rfl (p_mv rfl) ?_
    refine lp rfl (p_len Tryd.underlying30 rfl (.ro 1 rfl)) ?_
    refine lp rfl (p_lss rfl rfl) ?_
    refine lj_seq ?_
    refine cj_if (b := decide ((a0.length : Int) < (a1.length : Int))) rfl (fun hb => ?_) (fun hb => ?_)
    · have hm := ifB_t hb hm
      refine cj_seq ?_
      refine cj_reg ?_
      refine lp rfl (p_as rfl) ?_
      refine lj_seq ?_
      obtain rfl := Option.some.inj hm
      exact cj_rt () [] Tryd.results38 (.tmp rfl .nil) rfl rfl
    · have hm := ifB_f hb hm
      refine cj_skip ?_
      refine nj_seq ?_
      refine cj_seq ?_
      refine cj_reg ?_
      refine lp rfl (p_as rfl) ?_
      refine lj_seq ?_
      obtain rfl := Option.some.inj hm
      exact cj_rt () [] Tryd.results38 (.tmp rfl .nil) rfl rfl
  · have hRk6 : ∀ t, k6 = .ret t → some t = some r := fun t e => by rw [hX t e] at hm; exact hm
    have hm := hs
    refine cj_seq ?_
    refine cj_reg ?_
    refine lp rfl (p_mv rfl) ?_
    refine lp rfl (p_idx Tryd.underlying30 ty9 rfl rfl (.ro 0 rfl) (getI_nat.trans hx3)) ?_
    refine lp rfl (p_lde (o := 0) ty9 rfl rfl (.ro 0 rfl) hx3 rfl) ?_
    refine lp rfl (p_as rfl) ?_
    refine lp rfl (p_as rfl) ?_
    refine lj_seq ?_
    refine cj_seq ?_
    refine cj_seq ?_
    refine cj_reg ?_
    refine lp rfl (p_mv rfl) ?_
    refine lp rfl (p_mv rfl) ?_
    refine lp rfl (p_len Tryd.underlying30 rfl (.ro 1 rfl)) ?_
    refine lp rfl (p_geq rfl rfl) ?_
    refine lj_seq ?_
    refine cj_if (b := decide ((i1 : Int) ≥ (a1.length : Int))) rfl (fun hb => ?_) (fun hb => ?_)
    · have hm := ifB_t hb hm
      refine cj_seq ?_
      refine cj_reg ?_
      refine lp rfl (p_as rfl) ?_
      refine lj_seq ?_
      have hm := hRk6 _ (Option.some.inj hm).symm
      obtain rfl := Option.some.inj hm
      exact cj_rt () [] Tryd.results38 (.tmp rfl .nil) rfl rfl
    · have hm := ifB_f hb hm
      refine cj_skip ?_
      refine nj_seq ?_
      refine cj_seq ?_
      refine cj_reg ?_
      refine lp rfl (p_mv rfl) ?_
      refine lp rfl (p_mv rfl) ?_
      obtain ⟨e8, he8, hm⟩ := bindS hm
      refine lp rfl (p_idx Tryd.underlying30 ty9 rfl rfl (.ro 1 rfl) he8) ?_
      refine lp rfl (p_lde (o := 0) ty9 rfl rfl (.ro 1 rfl) (getI_spec he8).2 rfl) ?_
      refine lp rfl (p_as rfl) ?_
      refine lj_seq ?_
      refine cj_seq ?_
      refine cj_reg ?_
      refine lp rfl (p_mv rfl) ?_
      refine lp rfl (p_mv rfl) ?_
      obtain ⟨y9, hy9, hm⟩ := bindS hm
      refine r_call [] cf60 rfl rfl (ok_cmp_Compare_string x2 e8 hy9) rfl rfl .nil (fun _ => rfl) rfl (fun _ => ?_)
      refine lp rfl (p_as rfl) ?_
      refine lj_seq ?_
      refine cj_seq ?_
      refine cj_reg ?_
      refine lp rfl (p_mv rfl) ?_
      refine lp rfl (p_neq rfl rfl) ?_
      refine lj_seq ?_
      refine cj_if (b := y9 != 0) rfl (fun hb => ?_) (fun hb => ?_)
      · have hm := ifB_t hb hm
        refine cj_seq ?_
        refine cj_reg ?_
        refine lp rfl (p_mv rfl) ?_
        refine lp rfl (p_as rfl) ?_
        refine lj_seq ?_
        have hm := hRk6 _ (Option.some.inj hm).symm
        obtain rfl := Option.some.inj hm
        exact cj_rt () [] Tryd.results38 (.tmp rfl .nil) rfl rfl
      · have hm := ifB_f hb hm
        refine cj_skip ?_
        refine nj_blk ?_
        exact cnk6 _ _ () () (hJk6 _ (Option.some.inj hm).symm) ⟨rfl, rfl, rfl, rfl, rfl, rfl, trivial⟩ (fun _ h => h.picks [0, 0] rfl)
theorem ok_concert_rank_less (a0 : Tconcert_rank) (s0_2_ : SV) (a1 : Tconcert_rank) (s1_2_ : SV) {r : Bool} (hm : m_concert_rank_less a0 a1 = some r) :
    Ctr Tryd.prog 30 [.agg [.int .i64 a0.long_, .int .i64 a0.pairs, s0_2_.v].toArray, .agg [.int .i64 a1.long_, .int .i64 a1.pairs, s1_2_.v].toArray].toArray ([] : List Ent) [RdS R9 (SV.v s0_2_) a0.keys, RdS R9 (SV.v s1_2_) a1.keys] (X := Unit) (fun _ => .bool r) (fun _ => []) := by
  unfold m_concert_rank_less at hm
  refine ctr_mk (vs := [(0, .agg [.int .i64 a0.long_, .int .i64 a0.pairs, s0_2_.v].toArray), (1, .agg [.int .i64 a1.long_, .int .i64 a1.pairs, s1_2_.v].toArray)]) Tryd.func30 rfl Tryd.ntmps30 rfl ⟨rfl, rfl, trivial⟩ (fun w0 A => ?_)
  refine cj_seq ?_
  refine cj_reg ?_
  refine r_bx (cs := [.int .i64 a0.long_, .int .i64 a0.pairs, s0_2_.v]) rfl rfl rfl (fun b1 => ?_)
  refine r_bx (cs := [.int .i64 a1.long_, .int .i64 a1.pairs, s1_2_.v]) rfl rfl rfl (fun b2 => ?_)
  refine lp rfl (p_as rfl) ?_
  refine lj_seq ?_
  refine cj_seq ?_
  refine cj_seq ?_
  refine cj_reg ?_
  refine lp rfl (p_fab fl60_0 rfl) ?_
  refine lp rfl (p_lbs ty3 rfl (j := 1) rfl rfl) ?_
  refine lp rfl (p_fab fl60_0 rfl) ?_
  refine lp rfl (p_lbs ty3 rfl (j := 0) rfl rfl) ?_
  refine lp rfl (p_neq rfl rfl) ?_
  refine lj_seq ?_
  refine cj_if (b := a0.long_ != a1.long_) rfl (fun hb => ?_) (fun hb => ?_)
  · have hm := ifB_t hb hm
    refine cj_seq ?_
    refine cj_reg ?_
    refine lp rfl (p_fab fl60_0 rfl) ?_
    refine lp rfl (p_lbs ty3 rfl (j := 1) rfl rfl) ?_
    refine lp rfl (p_fab fl60_0 rfl) ?_
    refine lp rfl (p_lbs ty3 rfl (j := 0) rfl rfl) ?_
    refine lp rfl (p_lss rfl rfl) ?_
    refine lp rfl (p_as rfl) ?_
    refine lj_seq ?_
    obtain rfl := Option.some.inj hm
    exact cj_rt () [] Tryd.results30 (.tmp rfl .nil) rfl rfl
  · have hm := ifB_f hb hm
    refine cj_skip ?_
    refine nj_seq ?_
    refine cj_seq ?_
    refine cj_seq ?_
    refine cj_reg ?_
    refine lp rfl (p_fab fl60_1 rfl) ?_
    refine lp rfl (p_lbs ty3 rfl (j := 1) rfl rfl) ?_
    refine lp rfl (p_fab fl60_1 rfl) ?_
    refine lp rfl (p_lbs ty3 rfl (j := 0) rfl rfl) ?_
    refine lp rfl (p_neq rfl rfl) ?_
    refine lj_seq ?_
    refine cj_if (b := a0.pairs != a1.pairs) rfl (fun hb => ?_) (fun hb => ?_)
    · have hm := ifB_t hb hm
      refine cj_seq ?_
      refine cj_reg ?_
      refine lp rfl (p_fab fl60_1 rfl) ?_
      refine lp rfl (p_lbs ty3 rfl (j := 1) rfl rfl) ?_
      refine lp rfl (p_fab fl60_1 rfl) ?_
      refine lp rfl (p_lbs ty3 rfl (j := 0) rfl rfl) ?_
      refine lp rfl (p_lss rfl rfl) ?_
      refine lp rfl (p_as rfl) ?_
      refine lj_seq ?_
      obtain rfl := Option.some.inj hm
      exact cj_rt () [] Tryd.results30 (.tmp rfl .nil) rfl rfl
    · have hm := ifB_f hb hm
      refine cj_skip ?_
      refine nj_seq ?_
      refine cj_seq ?_
      refine cj_reg ?_
      refine lp rfl (p_fab fl60_2 rfl) ?_
      refine lp rfl (p_lbs ty30 rfl (j := 1) rfl rfl) ?_
      refine lp rfl (p_fab fl60_2 rfl) ?_
      refine lp rfl (p_lbs ty30 rfl (j := 0) rfl rfl) ?_
      obtain ⟨y3, hy3, hm⟩ := bindS hm
      refine r_call [] cf38 rfl rfl (ok_slices_Compare_string_string s0_2_ a0.keys s1_2_ a1.keys hy3) rfl rfl (.cons (.ro 2 rfl) (.cons (.ro 3 rfl) .nil)) (fun _ => rfl) rfl (fun _ => ?_)
      refine lp rfl (p_lss rfl rfl) ?_
      refine lp rfl (p_as rfl) ?_
      refine lj_seq ?_
      obtain rfl := Option.some.inj hm
      exact cj_rt () [] Tryd.results30 (.tmp rfl .nil) rfl rfl
theorem ok_concert_Order_1 (b0_ : Nat) (s0_0_ : SV) (xg0_0_ : List (TItem × SV)) (a0_0 : (List TItem)) (a0_1 : Int) (a0_2 : Int) (a0_3 : Int) (a0_4 : Int) (b1_ : Nat) (a1_0 : Bool) (b2_ : Nat) (a2_0 : Int) (a2_1 : Int) (s2_2_ : SV) (a2_2 : (List ByteArray)) {r : Bool × Int × Int × (List ByteArray)} (hm : m_concert_Order_1 a0_0 a0_1 a0_2 a0_3 a0_4 a1_0 a2_0 a2_1 a2_2 = some r) :
    Ctr Tryd.prog 28 [.pointer (some ⟨b0_, 0, none⟩), .pointer (some ⟨b1_, 0, none⟩), .pointer (some ⟨b2_, 0, none⟩)].toArray [.box b1_ 4 [.bool a1_0], .box b2_ 60 [.int .i64 a2_0, .int .i64 a2_1, s2_2_.v], .row R9 (SV.v s2_2_) a2_2] [BoxS b0_ 28 [s0_0_.v, .int .i64 a0_1, .int .i64 a0_2, .int .i64 a0_3, .int .i64 a0_4], Lk N46 a0_0 xg0_0_, RdS N46.R (SV.v s0_0_) xg0_0_] (X := SV) (fun s => .tuple [].toArray) (fun s => [.row R9 (SV.v s) r.2.2.2, .box b1_ 4 [.bool r.1], .box b2_ 60 [.int .i64 r.2.1, .int .i64 r.2.2.1, s.v]]) := by
  unfold m_concert_Order_1 at hm
  refine ctr_mk (vs := [(0, .pointer (some ⟨b0_, 0, none⟩)), (1, .pointer (some ⟨b1_, 0, none⟩)), (2, .pointer (some ⟨b2_, 0, none⟩))]) Tryd.func28 rfl Tryd.ntmps28 rfl ⟨rfl, rfl, rfl, trivial⟩ (fun w0 A => ?_)
  refine cj_pure (F := Lk N46 a0_0 xg0_0_) (.ro 4 rfl) (fun _ h => h.1) (fun hL0_0_ => ?_)
  refine cj_seq ?_
  refine cj_reg ?_
  refine lp rfl (p_rba ty28 rfl (.ro 3 rfl) rfl) ?_
  obtain ⟨y1, hy1, hm⟩ := bindS hm
  refine r_call [] cf29 rfl rfl (ok_concert_rankOf (TProgram.mk a0_0 a0_1 a0_2 a0_3 a0_4) s0_0_ xg0_0_ hy1) rfl rfl (.cons (.ro 4 rfl) (.cons (.ro 5 rfl) .nil)) (fun _ => rfl) rfl (fun s2 => ?_)
  refine r_al ty60 rfl (fun b3 => ?_)
  refine r_sb (vs := [.int .i64 y1.long_, .int .i64 y1.pairs, s2.v]) (j := 0) ty60 rfl rfl rfl rfl rfl rfl rfl ?_
  refine lj_seq ?_
  refine cj_seq ?_
  refine cj_reg ?_
  obtain ⟨k6, hk6, hm⟩ := bindS hm
  have hRk6 : ∀ t, k6 = .inr t → some t = some r := fun t e => by rw [e] at hm; exact hm
  refine lj_join (σ := Bool) (γ := Unit) (fun u4 => k6 = .inl u4) (fun u4 g5 => [(1, .pointer (some ⟨b1_, 0, none⟩)), (2, .pointer (some ⟨b2_, 0, none⟩)), (3, .pointer (some ⟨b3, 0, none⟩)), (12, .bool u4)]) (fun u4 g5 => Sat w0 (keys [.box b1_ 4 [.bool a1_0], .box b2_ 60 [.int .i64 a2_0, .int .i64 a2_1, s2_2_.v], .row R9 (SV.v s2_2_) a2_2]) A [.box b3 60 [.int .i64 y1.long_, .int .i64 y1.pairs, s2.v], .row R9 (SV.v s2) y1.keys, .box b1_ 4 [.bool a1_0], .box b2_ 60 [.int .i64 a2_0, .int .i64 a2_1, s2_2_.v], .row R9 (SV.v s2_2_) a2_2]) (fun u4 g5 hq => ?_) (fun J cnk6 => ?_)
  · have hm := Sum.fin_l hq hm
    refine cj_if (b := u4) rfl (fun hb => ?_) (fun hb => ?_)
    · have hm := ifB_t hb hm
      refine cj_reg ?_
      refine lp rfl (p_lbw ty60 rfl (j := 0) rfl rfl) ?_
      refine r_sb (vs := [.int .i64 y1.long_, .int .i64 y1.pairs, s2.v]) (j := 3) ty60 rfl rfl rfl rfl rfl rfl rfl ?_
      refine r_sb (vs := [.bool true]) (j := 2) ty4 rfl rfl rfl rfl rfl rfl rfl ?_
      refine lj_nil ?_
      obtain rfl := Option.some.inj hm
      exact nj_rt s2 [1, 1, 1] Tryd.results28 .nil rfl rfl
    · have hm := ifB_f hb hm
      refine cj_skip ?_
      obtain rfl := Option.some.inj hm
      exact nj_rt s2_2_ [4, 2, 2] Tryd.results28 .nil rfl rfl
  · have hm := hk6
    refine lp rfl (p_lbs ty4 rfl (j := 2) rfl rfl) ?_
    refine lp rfl (p_not rfl) ?_
    refine lp rfl (p_mv rfl) ?_
    refine lcase (i := 8) (!a1_0) rfl (fun hb => ?_) (fun hb => ?_)
    · have hm := ifB_t hb hm
      refine ls false rfl rfl rfl rfl ?_
      refine ls false rfl rfl rfl rfl ?_
      refine ls false rfl rfl rfl rfl ?_
      refine lp rfl (p_pkt rfl rfl) ?_
      refine lj_nil ?_
      exact cnk6 _ _ true () (Option.some.inj hm).symm ⟨rfl, rfl, rfl, rfl, trivial⟩ (fun _ h => h.picks [0, 0, 0, 0, 0] rfl)
    · have hm := ifB_f hb hm
      refine lg false rfl rfl rfl ?_
      refine lp rfl (p_lbw ty60 rfl (j := 0) rfl rfl) ?_
      refine lg false rfl rfl rfl ?_
      refine lp rfl (p_lbw ty60 rfl (j := 3) rfl rfl) ?_
      refine lg false rfl rfl rfl ?_
      obtain ⟨y7, hy7, hm⟩ := bindS hm
      refine r_call [] cf30 rfl rfl (ok_concert_rank_less y1 s2 (Tconcert_rank.mk a2_0 a2_1 a2_2) s2_2_ hy7) rfl rfl (.cons (.row 1 rfl) (.cons (.row 4 rfl) .nil)) (fun _ => rfl) rfl (fun _ => ?_)
      refine lp rfl (p_pkf rfl rfl) ?_
      refine lj_nil ?_
      exact cnk6 _ _ y7 () (Option.some.inj hm).symm ⟨rfl, rfl, rfl, rfl, trivial⟩ (fun _ h => h.picks [0, 0, 0, 0, 0] rfl)
theorem ok_concert_orders__al__concert_Order_1_b (self_ : (Int → (List TItem) → Int → Int → Int → Int → Bool → Int → Int → (List ByteArray) → Option ((List TItem) × Bool × Int × Int × (List ByteArray)))) (ih_ : ∀ (a1 : Int) (b2_c0_ : Nat) (s2_c0_0_ : SV) (xg2_c0_0_ : List (TItem × SV)) (a2_c0_0 : (List TItem)) (a2_c0_1 : Int) (a2_c0_2 : Int) (a2_c0_3 : Int) (a2_c0_4 : Int) (b2_c1_ : Nat) (a2_c1_0 : Bool) (b2_c2_ : Nat) (a2_c2_0 : Int) (a2_c2_1 : Int) (s2_c2_2_ : SV) (a2_c2_2 : (List ByteArray)) {r : (List TItem) × Bool × Int × Int × (List ByteArray)} (hm : self_ a1 a2_c0_0 a2_c0_1 a2_c0_2 a2_c0_3 a2_c0_4 a2_c1_0 a2_c2_0 a2_c2_1 a2_c2_2 = some r),
    Ctr Tryd.prog 27 [s2_c0_0_.v, .int .i64 a1, .func (.func 28) #[] [.pointer (some ⟨b2_c0_, 0, none⟩), .pointer (some ⟨b2_c1_, 0, none⟩), .pointer (some ⟨b2_c2_, 0, none⟩)].toArray].toArray [.row N46.R (SV.v s2_c0_0_) xg2_c0_0_, .box b2_c1_ 4 [.bool a2_c1_0], .box b2_c2_ 60 [.int .i64 a2_c2_0, .int .i64 a2_c2_1, s2_c2_2_.v], .row R9 (SV.v s2_c2_2_) a2_c2_2] [BoxS b2_c0_ 28 [s2_c0_0_.v, .int .i64 a2_c0_1, .int .i64 a2_c0_2, .int .i64 a2_c0_3, .int .i64 a2_c0_4], Lk N46 a2_c0_0 xg2_c0_0_] (X := (SV × List (TItem × SV))) (fun s => .tuple [].toArray) (fun s => [.row R9 (SV.v s.1) r.2.2.2.2, .row N46.R (SV.v s2_c0_0_) s.2, .ro (Lk N46 r.1 s.2), .box b2_c1_ 4 [.bool r.2.1], .box b2_c2_ 60 [.int .i64 r.2.2.1, .int .i64 r.2.2.2.1, s.1.v]])) (a1 : Int) (b2_c0_ : Nat) (s2_c0_0_ : SV) (xg2_c0_0_ : List (TItem × SV)) (a2_c0_0 : (List TItem)) (a2_c0_1 : Int) (a2_c0_2 : Int) (a2_c0_3 : Int) (a2_c0_4 : Int) (b2_c1_ : Nat) (a2_c1_0 : Bool) (b2_c2_ : Nat) (a2_c2_0 : Int) (a2_c2_1 : Int) (s2_c2_2_ : SV) (a2_c2_2 : (List ByteArray)) {r : (List TItem) × Bool × Int × Int × (List ByteArray)} (hm : m_concert_orders__al__concert_Order_1_b self_ a1 a2_c0_0 a2_c0_1 a2_c0_2 a2_c0_3 a2_c0_4 a2_c1_0 a2_c2_0 a2_c2_1 a2_c2_2 = some r) :
    Ctr Tryd.prog 27 [s2_c0_0_.v, .int .i64 a1, .func (.func 28) #[] [.pointer (some ⟨b2_c0_, 0, none⟩), .pointer (some ⟨b2_c1_, 0, none⟩), .pointer (some ⟨b2_c2_, 0, none⟩)].toArray].toArray [.row N46.R (SV.v s2_c0_0_) xg2_c0_0_, .box b2_c1_ 4 [.bool a2_c1_0], .box b2_c2_ 60 [.int .i64 a2_c2_0, .int .i64 a2_c2_1, s2_c2_2_.v], .row R9 (SV.v s2_c2_2_) a2_c2_2] [BoxS b2_c0_ 28 [s2_c0_0_.v, .int .i64 a2_c0_1, .int .i64 a2_c0_2, .int .i64 a2_c0_3, .int .i64 a2_c0_4], Lk N46 a2_c0_0 xg2_c0_0_] (X := (SV × List (TItem × SV))) (fun s => .tuple [].toArray) (fun s => [.row R9 (SV.v s.1) r.2.2.2.2, .row N46.R (SV.v s2_c0_0_) s.2, .ro (Lk N46 r.1 s.2), .box b2_c1_ 4 [.bool r.2.1], .box b2_c2_ 60 [.int .i64 r.2.2.1, .int .i64 r.2.2.2.1, s.1.v]]) := by
  unfold m_concert_orders__al__concert_Order_1_b at hm
  refine ctr_mk (vs := [(0, s2_c0_0_.v), (1, .int .i64 a1), (2, .func (.func 28) #[] [.pointer (some ⟨b2_c0_, 0, none⟩), .pointer (some ⟨b2_c1_, 0, none⟩), .pointer (some ⟨b2_c2_, 0, none⟩)].toArray)]) Tryd.func27 rfl Tryd.ntmps27 rfl ⟨rfl, rfl, rfl, trivial⟩ (fun w0 A => ?_)
  refine cj_pure (F := Lk N46 a2_c0_0 xg2_c0_0_) (.ro 5 rfl) (fun _ h => h.1) (fun hL2_c0_0_ => ?_)
  refine cj_seq ?_
  refine cj_seq ?_
  refine cj_reg ?_
  refine lp rfl (p_mv rfl) ?_
  refine lp rfl (p_mv rfl) ?_
  refine lp rfl (p_lenG hL2_c0_0_ Tryd.underlying26 rfl (.row 0 rfl)) ?_
  refine lp rfl (p_eql rfl rfl) ?_
  refine lj_seq ?_
  refine cj_if (b := a1 == (a2_c0_0.length : Int)) rfl (fun hb => ?_) (fun hb => ?_)
  · have hm := ifB_t hb hm
    refine cj_seq ?_
    refine cj_reg ?_
    refine lp rfl (p_mv rfl) ?_
    obtain ⟨y1, hy1, hm⟩ := bindS hm
    refine r_call [1, 1, 1] cf28 rfl rfl (ok_concert_Order_1 b2_c0_ s2_c0_0_ xg2_c0_0_ a2_c0_0 a2_c0_1 a2_c0_2 a2_c0_3 a2_c0_4 b2_c1_ a2_c1_0 b2_c2_ a2_c2_0 a2_c2_1 s2_c2_2_ a2_c2_2 hy1) rfl rfl (.cons (.ro 1 rfl) (.cons (.ro 2 rfl) (.cons (.row 0 rfl) .nil))) (fun _ => rfl) rfl (fun s2 => ?_)
    refine lj_seq ?_
    obtain rfl := Option.some.inj hm
    exact cj_rt (s2, xg2_c0_0_) [0, 2, 3, 0, 0] Tryd.results27 .nil rfl rfl
  · have hm := ifB_f hb hm
    refine cj_skip ?_
    refine nj_seq ?_
    refine cj_seq ?_
    refine cj_reg ?_
    refine lp rfl (p_mv rfl) ?_
    refine lp rfl (p_as rfl) ?_
    refine lj_seq ?_
    obtain ⟨f6, hf6, hm⟩ := bindS hm
    refine cj_whileA (γ := (List (TItem × SV) × SV)) hf6 (xg2_c0_0_, s2_c2_2_) (fun u3 g4 => [(0, s2_c0_0_.v), (1, .int .i64 a1), (2, .func (.func 28) #[] [.pointer (some ⟨b2_c0_, 0, none⟩), .pointer (some ⟨b2_c1_, 0, none⟩), .pointer (some ⟨b2_c2_, 0, none⟩)].toArray), (6, .int .i64 u3.1)]) (fun u3 g4 => Sat w0 (keys [.row N46.R (SV.v s2_c0_0_) xg2_c0_0_, .box b2_c1_ 4 [.bool a2_c1_0], .box b2_c2_ 60 [.int .i64 a2_c2_0, .int .i64 a2_c2_1, s2_c2_2_.v], .row R9 (SV.v s2_c2_2_) a2_c2_2]) A [.box b2_c1_ 4 [.bool u3.2.1], .box b2_c2_ 60 [.int .i64 u3.2.2.1, .int .i64 u3.2.2.2.1, g4.2.v], .ro (BoxS b2_c0_ 28 [s2_c0_0_.v, .int .i64 a2_c0_1, .int .i64 a2_c0_2, .int .i64 a2_c0_3, .int .i64 a2_c0_4]), .row N46.R (SV.v s2_c0_0_) g4.1, .ro (Lk N46 u3.2.2.2.2.1 g4.1), .row R9 (SV.v g4.2) u3.2.2.2.2.2]) ⟨rfl, rfl, rfl, rfl, trivial⟩ (fun _ h => h.picks [1, 1, 2, 0, 1, 0] rfl) (fun u3 g4 e => ?_) (fun aftk5 u3 g4 k5 hs J hJk5 hBk5 hX I cnk5 => ?_)
    · have hm := Flow.fin_b e hm
      refine nj_pure (F := Lk N46 u3.2.2.2.2.1 g4.1) (.ro 4 rfl) (fun _ h => h.1) (fun hLu3_s2_c0_0_ => ?_)
      obtain rfl := Option.some.inj hm
      exact nj_rt (g4.2, g4.1) [5, 3, 3, 0, 0] Tryd.results27 .nil rfl rfl
    · have hRk5 : ∀ t, k5 = .ret t → some t = some r := fun t e => by rw [hX t e] at hm; exact hm
      have hm := hs
      refine cj_pure (F := Lk N46 u3.2.2.2.2.1 g4.1) (.ro 4 rfl) (fun _ h => h.1) (fun hLu3_s2_c0_0_ => ?_)
      refine cj_seq ?_
      refine cj_seq ?_
      refine cj_reg ?_
      refine lp rfl (p_mv rfl) ?_
      refine lp rfl (p_mv rfl) ?_
      refine lp rfl (p_lenG hLu3_s2_c0_0_ Tryd.underlying26 rfl (.row 3 rfl)) ?_
      refine lp rfl (p_lss rfl rfl) ?_
      refine lj_seq ?_
      refine cj_if (b := decide (u3.1 < (u3.2.2.2.2.1.length : Int))) rfl (fun hb => ?_) (fun hb => ?_)
      · have hm := ifB_t hb hm
        refine cj_skip ?_
        refine nj_seq ?_
        refine cj_seq ?_
        refine cj_blk ?_
        refine cj_seq ?_
        refine cj_pure (F := RdS N46.R (SV.v s2_c0_0_) g4.1) (.row 3 rfl) (fun _ h => h.pures) (fun hq25 => ?_)
        obtain ⟨e7, he7, hm⟩ := bindS hm
        obtain ⟨ge7, he7G⟩ := lk_getI hLu3_s2_c0_0_ he7
        obtain ⟨e8, he8, hm⟩ := bindS hm
        obtain ⟨ge8, he8G⟩ := lk_getI hLu3_s2_c0_0_ he8
        obtain ⟨e9, he9, hm⟩ := bindS hm
        obtain ⟨ge9, he9G⟩ := lk_getI hLu3_s2_c0_0_ he9
        obtain ⟨e11, he11, hm⟩ := bindS hm
        obtain ⟨ge11, he11G⟩ := lk_getI (lk_set hLu3_s2_c0_0_) he11
        refine cj_anyT [0, 1, 2, 3, 4, 5, 6, 7, 8, 9, 11, 12] [13, 14, 15] (Sat w0 (keys [.row N46.R (SV.v s2_c0_0_) xg2_c0_0_, .box b2_c1_ 4 [.bool a2_c1_0], .box b2_c2_ 60 [.int .i64 a2_c2_0, .int .i64 a2_c2_1, s2_c2_2_.v], .row R9 (SV.v s2_c2_2_) a2_c2_2]) A [.box b2_c1_ 4 [.bool u3.2.1], .box b2_c2_ 60 [.int .i64 u3.2.2.1, .int .i64 u3.2.2.2.1, g4.2.v], .ro (BoxS b2_c0_ 28 [s2_c0_0_.v, .int .i64 a2_c0_1, .int .i64 a2_c0_2, .int .i64 a2_c0_3, .int .i64 a2_c0_4]), .row N46.R (SV.v s2_c0_0_) g4.1, .ro (Lk N46 u3.2.2.2.2.1 g4.1), .row R9 (SV.v g4.2) u3.2.2.2.2.2]) (Sat w0 (keys [.row N46.R (SV.v s2_c0_0_) xg2_c0_0_, .box b2_c1_ 4 [.bool a2_c1_0], .box b2_c2_ 60 [.int .i64 a2_c2_0, .int .i64 a2_c2_1, s2_c2_2_.v], .row R9 (SV.v s2_c2_2_) a2_c2_2]) A [.box b2_c1_ 4 [.bool u3.2.1], .box b2_c2_ 60 [.int .i64 u3.2.2.1, .int .i64 u3.2.2.2.1, g4.2.v], .ro (BoxS b2_c0_ 28 [s2_c0_0_.v, .int .i64 a2_c0_1, .int .i64 a2_c0_2, .int .i64 a2_c0_3, .int .i64 a2_c0_4]), .ro (Lk N46 u3.2.2.2.2.1 g4.1), .row R9 (SV.v g4.2) u3.2.2.2.2.2]) (by kernel_rfl) ?_
        refine at_take2 0 rfl (by kernel_rfl) (by kernel_rfl) (by kernel_rfl) (fun _ h => h.picks [0, 0, 0, 1, 1] rfl) rfl rfl (p_mv rfl) (fun _ h => h.picks [0, 0, 0, 1, 1] rfl) ?_
        refine at_take2 1 rfl (by kernel_rfl) (by kernel_rfl) (by kernel_rfl) (fun _ h => h.picks [0, 0, 0, 1, 1] rfl) rfl rfl (p_mv rfl) (fun _ h => h.picks [0, 0, 0, 1, 1] rfl) ?_
        refine at_take2 2 rfl (by kernel_rfl) (by kernel_rfl) (by kernel_rfl) (fun _ h => h.picks [0, 0, 0, 1, 1] rfl) rfl rfl (p_mv rfl) (fun _ h => h.picks [0, 0, 0, 1, 1] rfl) ?_
        refine at_take2 3 rfl (by kernel_rfl) (by kernel_rfl) (by kernel_rfl) (fun _ h => h.picks [0, 0, 0, 1, 1] rfl) rfl rfl (p_mv rfl) (fun _ h => h.picks [0, 0, 0, 1, 1] rfl) ?_
        refine at_take2 4 rfl (by kernel_rfl) (by kernel_rfl) (by kernel_rfl) (fun _ h => h.picks [0, 0, 0, 1, 1] rfl) rfl rfl (p_mv rfl) (fun _ h => h.picks [0, 0, 0, 1, 1] rfl) ?_
        refine at_take2 5 rfl (by kernel_rfl) (by kernel_rfl) (by kernel_rfl) (fun _ h => h.picks [0, 0, 0, 1, 1] rfl) rfl rfl (p_mv rfl) (fun _ h => h.picks [0, 0, 0, 1, 1] rfl) ?_
        refine at_take1 6 rfl (by kernel_rfl) (by kernel_rfl) (by kernel_rfl) (by kernel_rfl) rfl rfl (p_idxP (R := N46.R) Tryd.underlying26 ty46 rfl rfl hq25 he7G) (fun _ h => h.picks [0, 0, 0, 0, 0, 0] rfl) ?_
        refine at_take1 7 rfl (by kernel_rfl) (by kernel_rfl) (by kernel_rfl) (by kernel_rfl) rfl rfl (p_leaN (cs := [.string e7.Key, .string e7.Places, .int .i64 e7.Long, ge7.v]) ty46 rfl (.row 3 rfl) (getI_spec he7G).2 rfl) (fun _ h => h.picks [0, 0, 0, 0, 0, 0] rfl) ?_
        refine at_take2 8 rfl (by kernel_rfl) (by kernel_rfl) (by kernel_rfl) (fun _ h => h.picks [0, 0, 0, 1, 1] rfl) rfl rfl (p_mv rfl) (fun _ h => h.picks [0, 0, 0, 1, 1] rfl) ?_
        refine at_take2 9 rfl (by kernel_rfl) (by kernel_rfl) (by kernel_rfl) (fun _ h => h.picks [0, 0, 0, 1, 1] rfl) rfl rfl (p_mv rfl) (fun _ h => h.picks [0, 0, 0, 1, 1] rfl) ?_
        refine at_each (rs := [10]) (by kernel_rfl) (by decide) ?_
        refine (.cons rfl (fun I cnI => ?_) .nil)
        · refine lp rfl (p_idxP (R := N46.R) Tryd.underlying26 ty46 rfl rfl hq25 he8G) ?_
          refine lj_nil ?_
          refine cnI _ _ (sof1 rfl rfl (fun _ h => h.picks [0, 0, 0, 0, 0, 0] rfl)) ?_
          refine at_take1 11 rfl (by kernel_rfl) (by kernel_rfl) (by kernel_rfl) (by kernel_rfl) rfl rfl (p_leaN (cs := [.string e8.Key, .string e8.Places, .int .i64 e8.Long, ge8.v]) ty46 rfl (.row 3 rfl) (getI_spec he8G).2 rfl) (fun _ h => h.picks [0, 0, 0, 0, 0, 0] rfl) ?_
          refine at_take1 12 rfl (by kernel_rfl) (by kernel_rfl) (by kernel_rfl) (by kernel_rfl) rfl rfl (p_idxP (R := N46.R) Tryd.underlying26 ty46 rfl rfl hq25 he9G) (fun _ h => h.picks [0, 0, 0, 0, 0, 0] rfl) ?_
          refine at_each (rs := [13]) (by kernel_rfl) (by decide) ?_
          refine (.cons rfl (fun I cnI => ?_) .nil)
          · refine r_fact (F := Lk N46 (u3.2.2.2.2.1.set a1.toNat e7) (g4.1.set a1.toNat (e7, ge7))) (.imp (.and (.ro 4 rfl) (.imp (.ro 4 rfl) (fun _ h => (Lk.at_ h (getI_spec he7G).2)))) (fun _ h => Lk.set h.1 h.2)) ?_
            refine r_ste (k := 4) (o := 0) (vs := [.string e7.Key, .string e7.Places, .int .i64 e7.Long, ge7.v]) ty46 rfl rfl rfl rfl rfl rfl rfl (getI_spec he9G).2 (e7, ge7) rfl rfl ?_
            refine lj_nil ?_
            refine cnI _ _ (sof2 rfl rfl (fun _ h => h.picks [1, 1, 1, 2, 2] rfl)) ?_
            refine at_each (rs := [14]) (by kernel_rfl) (by decide) ?_
            refine (.cons rfl (fun I cnI => ?_) .nil)
            · refine lp rfl (p_idx Tryd.underlying26 ty46 rfl rfl (.row 4 rfl) he11G) ?_
              refine lj_nil ?_
              refine cnI _ _ (sof2 rfl rfl (fun _ h => h.picks [1, 1, 1, 2, 2] rfl)) ?_
              refine at_each (rs := [15]) (by kernel_rfl) (by decide) ?_
              refine (.cons rfl (fun I cnI => ?_) .nil)
              · refine r_fact (F := Lk N46 ((u3.2.2.2.2.1.set a1.toNat e7).set u3.1.toNat e8) ((g4.1.set a1.toNat (e7, ge7)).set u3.1.toNat (e8, ge8))) (.imp (.and (.ro 0 rfl) (.imp (.ro 5 rfl) (fun _ h => (Lk.at_ h (getI_spec he8G).2)))) (fun _ h => Lk.set h.1 h.2)) ?_
                refine r_ste (k := 5) (o := 0) (vs := [.string e8.Key, .string e8.Places, .int .i64 e8.Long, ge8.v]) ty46 rfl rfl rfl rfl rfl rfl rfl (getI_spec he11G).2 (e8, ge8) rfl rfl ?_
                refine lj_nil ?_
                refine cnI _ _ (sof2 rfl rfl (fun _ h => h.picks [2, 2, 2, 3, 3] rfl)) ?_
                refine at_done (by kernel_rfl) ?_
                refine nj_seq ?_
                refine cj_seq ?_
                refine cj_reg ?_
                refine lp rfl (p_mv rfl) ?_
                refine lp rfl (p_mv rfl) ?_
                refine lp rfl (p_add rfl rfl) ?_
                refine lp rfl (p_mv rfl) ?_
                obtain ⟨y28, hy28, hm⟩ := bindS hm
                refine r_callN [5, 2, 2, 4] cf27 rfl rfl (ih_ (w64 (a1 + 1)) b2_c0_ s2_c0_0_ ((g4.1.set a1.toNat (e7, ge7)).set u3.1.toNat (e8, ge8)) ((u3.2.2.2.2.1.set a1.toNat e7).set u3.1.toNat e8) a2_c0_1 a2_c0_2 a2_c0_3 a2_c0_4 b2_c1_ u3.2.1 b2_c2_ u3.2.2.1 u3.2.2.2.1 g4.2 u3.2.2.2.2.2 hy28) rfl rfl (.cons (.ro 2 rfl) (.cons (.ro 0 rfl) .nil)) rfl (fun ⟨s29, xg30⟩ => ?_)
                refine r_pure (F := Lk N46 y28.1 xg30) (.ro 2 rfl) (fun _ h => h.1) (fun hLxg30 => ?_)
                refine lj_seq ?_
                refine cj_pure (F := RdS N46.R (SV.v s2_c0_0_) xg30) (.row 1 rfl) (fun _ h => h.pures) (fun hq37 => ?_)
                obtain ⟨e31, he31, hm⟩ := bindS hm
                obtain ⟨ge31, he31G⟩ := lk_getI hLxg30 he31
                obtain ⟨e32, he32, hm⟩ := bindS hm
                obtain ⟨ge32, he32G⟩ := lk_getI hLxg30 he32
                obtain ⟨e33, he33, hm⟩ := bindS hm
                obtain ⟨ge33, he33G⟩ := lk_getI hLxg30 he33
                obtain ⟨e35, he35, hm⟩ := bindS hm
                obtain ⟨ge35, he35G⟩ := lk_getI (lk_set hLxg30) he35
                refine cj_anyT [0, 1, 2, 3, 4, 5, 6, 7, 8, 9, 11, 12] [13, 14, 15] (Sat w0 (keys [.row N46.R (SV.v s2_c0_0_) xg2_c0_0_, .box b2_c1_ 4 [.bool a2_c1_0], .box b2_c2_ 60 [.int .i64 a2_c2_0, .int .i64 a2_c2_1, s2_c2_2_.v], .row R9 (SV.v s2_c2_2_) a2_c2_2]) A [.row R9 (SV.v s29) y28.2.2.2.2, .row N46.R (SV.v s2_c0_0_) xg30, .ro (Lk N46 y28.1 xg30), .box b2_c1_ 4 [.bool y28.2.1], .box b2_c2_ 60 [.int .i64 y28.2.2.1, .int .i64 y28.2.2.2.1, s29.v], .ro (Lk N46 ((u3.2.2.2.2.1.set a1.toNat e7).set u3.1.toNat e8) ((g4.1.set a1.toNat (e7, ge7)).set u3.1.toNat (e8, ge8))), .ro (Lk N46 (u3.2.2.2.2.1.set a1.toNat e7) (g4.1.set a1.toNat (e7, ge7))), .ro (BoxS b2_c0_ 28 [s2_c0_0_.v, .int .i64 a2_c0_1, .int .i64 a2_c0_2, .int .i64 a2_c0_3, .int .i64 a2_c0_4]), .ro (Lk N46 u3.2.2.2.2.1 g4.1)]) (Sat w0 (keys [.row N46.R (SV.v s2_c0_0_) xg2_c0_0_, .box b2_c1_ 4 [.bool a2_c1_0], .box b2_c2_ 60 [.int .i64 a2_c2_0, .int .i64 a2_c2_1, s2_c2_2_.v], .row R9 (SV.v s2_c2_2_) a2_c2_2]) A [.row R9 (SV.v s29) y28.2.2.2.2, .ro (Lk N46 y28.1 xg30), .box b2_c1_ 4 [.bool y28.2.1], .box b2_c2_ 60 [.int .i64 y28.2.2.1, .int .i64 y28.2.2.2.1, s29.v], .ro (Lk N46 ((u3.2.2.2.2.1.set a1.toNat e7).set u3.1.toNat e8) ((g4.1.set a1.toNat (e7, ge7)).set u3.1.toNat (e8, ge8))), .ro (Lk N46 (u3.2.2.2.2.1.set a1.toNat e7) (g4.1.set a1.toNat (e7, ge7))), .ro (BoxS b2_c0_ 28 [s2_c0_0_.v, .int .i64 a2_c0_1, .int .i64 a2_c0_2, .int .i64 a2_c0_3, .int .i64 a2_c0_4]), .ro (Lk N46 u3.2.2.2.2.1 g4.1)]) (by kernel_rfl) ?_
                refine at_take2 0 rfl (by kernel_rfl) (by kernel_rfl) (by kernel_rfl) (fun _ h => h.picks [0, 1, 1, 1, 1, 1, 1, 1] rfl) rfl rfl (p_mv rfl) (fun _ h => h.picks [0, 1, 1, 1, 1, 1, 1, 1] rfl) ?_
                refine at_take2 1 rfl (by kernel_rfl) (by kernel_rfl) (by kernel_rfl) (fun _ h => h.picks [0, 1, 1, 1, 1, 1, 1, 1] rfl) rfl rfl (p_mv rfl) (fun _ h => h.picks [0, 1, 1, 1, 1, 1, 1, 1] rfl) ?_
                refine at_take2 2 rfl (by kernel_rfl) (by kernel_rfl) (by kernel_rfl) (fun _ h => h.picks [0, 1, 1, 1, 1, 1, 1, 1] rfl) rfl rfl (p_mv rfl) (fun _ h => h.picks [0, 1, 1, 1, 1, 1, 1, 1] rfl) ?_
                refine at_take2 3 rfl (by kernel_rfl) (by kernel_rfl) (by kernel_rfl) (fun _ h => h.picks [0, 1, 1, 1, 1, 1, 1, 1] rfl) rfl rfl (p_mv rfl) (fun _ h => h.picks [0, 1, 1, 1, 1, 1, 1, 1] rfl) ?_
                refine at_take2 4 rfl (by kernel_rfl) (by kernel_rfl) (by kernel_rfl) (fun _ h => h.picks [0, 1, 1, 1, 1, 1, 1, 1] rfl) rfl rfl (p_mv rfl) (fun _ h => h.picks [0, 1, 1, 1, 1, 1, 1, 1] rfl) ?_
                refine at_take2 5 rfl (by kernel_rfl) (by kernel_rfl) (by kernel_rfl) (fun _ h => h.picks [0, 1, 1, 1, 1, 1, 1, 1] rfl) rfl rfl (p_mv rfl) (fun _ h => h.picks [0, 1, 1, 1, 1, 1, 1, 1] rfl) ?_
                refine at_take1 6 rfl (by kernel_rfl) (by kernel_rfl) (by kernel_rfl) (by kernel_rfl) rfl rfl (p_idxP (R := N46.R) Tryd.underlying26 ty46 rfl rfl hq37 he31G) (fun _ h => h.picks [0, 0, 0, 0, 0, 0, 0, 0, 0] rfl) ?_
                refine at_take1 7 rfl (by kernel_rfl) (by kernel_rfl) (by kernel_rfl) (by kernel_rfl) rfl rfl (p_leaN (cs := [.string e31.Key, .string e31.Places, .int .i64 e31.Long, ge31.v]) ty46 rfl (.row 1 rfl) (getI_spec he31G).2 rfl) (fun _ h => h.picks [0, 0, 0, 0, 0, 0, 0, 0, 0] rfl) ?_
                refine at_take2 8 rfl (by kernel_rfl) (by kernel_rfl) (by kernel_rfl) (fun _ h => h.picks [0, 1, 1, 1, 1, 1, 1, 1] rfl) rfl rfl (p_mv rfl) (fun _ h => h.picks [0, 1, 1, 1, 1, 1, 1, 1] rfl) ?_
                refine at_take2 9 rfl (by kernel_rfl) (by kernel_rfl) (by kernel_rfl) (fun _ h => h.picks [0, 1, 1, 1, 1, 1, 1, 1] rfl) rfl rfl (p_mv rfl) (fun _ h => h.picks [0, 1, 1, 1, 1, 1, 1, 1] rfl) ?_
                refine at_each (rs := [10]) (by kernel_rfl) (by decide) ?_
                refine (.cons rfl (fun I cnI => ?_) .nil)
                · refine lp rfl (p_idxP (R := N46.R) Tryd.underlying26 ty46 rfl rfl hq37 he32G) ?_
                  refine lj_nil ?_
                  refine cnI _ _ (sof1 rfl rfl (fun _ h => h.picks [0, 0, 0, 0, 0, 0, 0, 0, 0] rfl)) ?_
                  refine at_take1 11 rfl (by kernel_rfl) (by kernel_rfl) (by kernel_rfl) (by kernel_rfl) rfl rfl (p_leaN (cs := [.string e32.Key, .string e32.Places, .int .i64 e32.Long, ge32.v]) ty46 rfl (.row 1 rfl) (getI_spec he32G).2 rfl) (fun _ h => h.picks [0, 0, 0, 0, 0, 0, 0, 0, 0] rfl) ?_
                  refine at_take1 12 rfl (by kernel_rfl) (by kernel_rfl) (by kernel_rfl) (by kernel_rfl) rfl rfl (p_idxP (R := N46.R) Tryd.underlying26 ty46 rfl rfl hq37 he33G) (fun _ h => h.picks [0, 0, 0, 0, 0, 0, 0, 0, 0] rfl) ?_
                  refine at_each (rs := [13]) (by kernel_rfl) (by decide) ?_
                  refine (.cons rfl (fun I cnI => ?_) .nil)
                  · refine r_fact (F := Lk N46 (y28.1.set a1.toNat e31) (xg30.set a1.toNat (e31, ge31))) (.imp (.and (.ro 2 rfl) (.imp (.ro 2 rfl) (fun _ h => (Lk.at_ h (getI_spec he31G).2)))) (fun _ h => Lk.set h.1 h.2)) ?_
                    refine r_ste (k := 2) (o := 0) (vs := [.string e31.Key, .string e31.Places, .int .i64 e31.Long, ge31.v]) ty46 rfl rfl rfl rfl rfl rfl rfl (getI_spec he33G).2 (e31, ge31) rfl rfl ?_
                    refine lj_nil ?_
                    refine cnI _ _ (sof2 rfl rfl (fun _ h => h.picks [1, 2, 2, 2, 2, 2, 2, 2] rfl)) ?_
                    refine at_each (rs := [14]) (by kernel_rfl) (by decide) ?_
                    refine (.cons rfl (fun I cnI => ?_) .nil)
                    · refine lp rfl (p_idx Tryd.underlying26 ty46 rfl rfl (.row 2 rfl) he35G) ?_
                      refine lj_nil ?_
                      refine cnI _ _ (sof2 rfl rfl (fun _ h => h.picks [1, 2, 2, 2, 2, 2, 2, 2] rfl)) ?_
                      refine at_each (rs := [15]) (by kernel_rfl) (by decide) ?_
                      refine (.cons rfl (fun I cnI => ?_) .nil)
                      · refine r_fact (F := Lk N46 ((y28.1.set a1.toNat e31).set u3.1.toNat e32) ((xg30.set a1.toNat (e31, ge31)).set u3.1.toNat (e32, ge32))) (.imp (.and (.ro 0 rfl) (.imp (.ro 3 rfl) (fun _ h => (Lk.at_ h (getI_spec he32G).2)))) (fun _ h => Lk.set h.1 h.2)) ?_
                        refine r_ste (k := 3) (o := 0) (vs := [.string e32.Key, .string e32.Places, .int .i64 e32.Long, ge32.v]) ty46 rfl rfl rfl rfl rfl rfl rfl (getI_spec he35G).2 (e32, ge32) rfl rfl ?_
                        refine lj_nil ?_
                        refine cnI _ _ (sof2 rfl rfl (fun _ h => h.picks [2, 3, 3, 3, 3, 3, 3, 3] rfl)) ?_
                        refine at_done (by kernel_rfl) ?_
                        refine nj_blk ?_
                        refine nj_seq ?_
                        refine cj_reg ?_
                        refine lp rfl (p_mv rfl) ?_
                        refine lp rfl (p_add rfl rfl) ?_
                        refine lp rfl (p_as rfl) ?_
                        refine lj_nil ?_
                        exact cnk5 _ _ (w64 (u3.1 + 1), y28.2.1, y28.2.2.1, y28.2.2.2.1, ((y28.1.set a1.toNat e31).set u3.1.toNat e32), y28.2.2.2.2) (((xg30.set a1.toNat (e31, ge31)).set u3.1.toNat (e32, ge32)), s29) (hJk5 _ (Option.some.inj hm).symm) ⟨rfl, rfl, rfl, rfl, trivial⟩ (fun _ h => h.picks [5, 5, 7, 3, 0, 1] rfl)
      · have hm := ifB_f hb hm
        refine cj_exit rfl ?_
        exact (aftk5 (u3.1, u3.2.1, u3.2.2.1, u3.2.2.2.1, u3.2.2.2.2.1, u3.2.2.2.2.2) (g4.1, g4.2) (hBk5 _ (Option.some.inj hm).symm)).sub ⟨rfl, rfl, rfl, rfl, trivial⟩ (fun _ h => h.picks [0, 0, 0, 0, 0, 0] rfl)
theorem ok_concert_orders__al__concert_Order_1 (fu_ : Nat) : ∀ (a1 : Int) (b2_c0_ : Nat) (s2_c0_0_ : SV) (xg2_c0_0_ : List (TItem × SV)) (a2_c0_0 : (List TItem)) (a2_c0_1 : Int) (a2_c0_2 : Int) (a2_c0_3 : Int) (a2_c0_4 : Int) (b2_c1_ : Nat) (a2_c1_0 : Bool) (b2_c2_ : Nat) (a2_c2_0 : Int) (a2_c2_1 : Int) (s2_c2_2_ : SV) (a2_c2_2 : (List ByteArray)) {r : (List TItem) × Bool × Int × Int × (List ByteArray)} (hm : m_concert_orders__al__concert_Order_1 fu_ a1 a2_c0_0 a2_c0_1 a2_c0_2 a2_c0_3 a2_c0_4 a2_c1_0 a2_c2_0 a2_c2_1 a2_c2_2 = some r),
    Ctr Tryd.prog 27 [s2_c0_0_.v, .int .i64 a1, .func (.func 28) #[] [.pointer (some ⟨b2_c0_, 0, none⟩), .pointer (some ⟨b2_c1_, 0, none⟩), .pointer (some ⟨b2_c2_, 0, none⟩)].toArray].toArray [.row N46.R (SV.v s2_c0_0_) xg2_c0_0_, .box b2_c1_ 4 [.bool a2_c1_0], .box b2_c2_ 60 [.int .i64 a2_c2_0, .int .i64 a2_c2_1, s2_c2_2_.v], .row R9 (SV.v s2_c2_2_) a2_c2_2] [BoxS b2_c0_ 28 [s2_c0_0_.v, .int .i64 a2_c0_1, .int .i64 a2_c0_2, .int .i64 a2_c0_3, .int .i64 a2_c0_4], Lk N46 a2_c0_0 xg2_c0_0_] (X := (SV × List (TItem × SV))) (fun s => .tuple [].toArray) (fun s => [.row R9 (SV.v s.1) r.2.2.2.2, .row N46.R (SV.v s2_c0_0_) s.2, .ro (Lk N46 r.1 s.2), .box b2_c1_ 4 [.bool r.2.1], .box b2_c2_ 60 [.int .i64 r.2.2.1, .int .i64 r.2.2.2.1, s.1.v]]) := by
  induction fu_ with
  | zero => intro a1 b2_c0_ s2_c0_0_ xg2_c0_0_ a2_c0_0 a2_c0_1 a2_c0_2 a2_c0_3 a2_c0_4 b2_c1_ a2_c1_0 b2_c2_ a2_c2_0 a2_c2_1 s2_c2_2_ a2_c2_2 r hm; exact absurd hm (by simp [m_concert_orders__al__concert_Order_1])
  | succ n ih => exact ok_concert_orders__al__concert_Order_1_b (m_concert_orders__al__concert_Order_1 n) ih
theorem ok_concert_Order (a0 : TProgram) (s0_0_ : SV) (xg0_0_ : List (TItem × SV)) {r : (List ByteArray) × Int × Int} (hm : m_concert_Order a0 = some r) :
    Ctr Tryd.prog 5 [.agg [s0_0_.v, .int .i64 a0.Change, .int .i64 a0.Clap, .int .i64 a0.Break, .int .i64 a0.Half].toArray].toArray ([] : List Ent) [Lk N46 a0.Items xg0_0_, RdS N46.R (SV.v s0_0_) xg0_0_] (X := SV) (fun s => .tuple [s.v, .int .i64 r.2.1, .int .i64 r.2.2].toArray) (fun s => [.row R9 (SV.v s) r.1]) := by
  unfold m_concert_Order at hm
  refine ctr_mk (vs := [(0, .agg [s0_0_.v, .int .i64 a0.Change, .int .i64 a0.Clap, .int .i64 a0.Break, .int .i64 a0.Half].toArray)]) Tryd.func5 rfl Tryd.ntmps5 rfl ⟨rfl, trivial⟩ (fun w0 A => ?_)
  refine cj_pure (F := Lk N46 a0.Items xg0_0_) (.ro 0 rfl) (fun _ h => h.1) (fun hL0_0_ => ?_)
  refine cj_seq ?_
  refine cj_reg ?_
  refine r_bx (cs := [s0_0_.v, .int .i64 a0.Change, .int .i64 a0.Clap, .int .i64 a0.Break, .int .i64 a0.Half]) rfl rfl rfl (fun b1 => ?_)
  refine lp rfl (p_as rfl) ?_
  refine lp rfl (p_as rfl) ?_
  refine lp rfl (p_as rfl) ?_
  refine lj_seq ?_
  refine cj_seq ?_
  refine cj_seq ?_
  refine cj_reg ?_
  refine lp rfl (p_lbw ty28 rfl (j := 0) rfl rfl) ?_
  obtain ⟨y2, hy2, hm⟩ := bindS hm
  refine r_call [] cf25 rfl rfl (ok_concert_CheckProgram a0 s0_0_ xg0_0_ hy2) rfl rfl (.cons (.ro 1 rfl) (.cons (.ro 2 rfl) .nil)) (fun _ => rfl) rfl (fun _ => ?_)
  refine lp rfl (p_as rfl) ?_
  refine lj_seq ?_
  refine cj_seq ?_
  refine cj_reg ?_
  refine lp rfl (p_mv rfl) ?_
  refine lp rfl (p_neq rfl rfl) ?_
  refine lj_seq ?_
  refine cj_if (b := y2 != 0) rfl (fun hb => ?_) (fun hb => ?_)
  · have hm := ifB_t hb hm
    refine cj_seq ?_
    refine cj_reg ?_
    refine lp rfl (p_mv rfl) ?_
    refine lp rfl (p_as rfl) ?_
    refine lp rfl (p_as rfl) ?_
    refine lp rfl (p_as rfl) ?_
    refine lj_seq ?_
    obtain rfl := Option.some.inj hm
    refine cj_nil R9 ?_
    exact cj_rt nilS [0] Tryd.results5 (.tmp rfl (.tmp rfl (.tmp rfl .nil))) rfl rfl
  · have hm := ifB_f hb hm
    refine cj_skip ?_
    refine nj_seq ?_
    refine cj_seq ?_
    refine cj_seq ?_
    refine cj_reg ?_
    refine lp rfl (p_fab fl28_0 rfl) ?_
    refine lp rfl (p_lbs ty26 rfl (j := 0) rfl rfl) ?_
    refine lp rfl (p_lenG hL0_0_ Tryd.underlying26 rfl (.ro 2 rfl)) ?_
    refine lp rfl (p_gtr rfl rfl) ?_
    refine lj_seq ?_
    refine cj_if (b := decide ((a0.Items.length : Int) > 7)) rfl (fun hb => ?_) (fun hb => ?_)
    · have hm := ifB_t hb hm
      refine cj_seq ?_
      refine cj_reg ?_
      refine lp rfl (p_as rfl) ?_
      refine lp rfl (p_as rfl) ?_
      refine lp rfl (p_as rfl) ?_
      refine lj_seq ?_
      obtain rfl := Option.some.inj hm
      refine cj_nil R9 ?_
      exact cj_rt nilS [0] Tryd.results5 (.tmp rfl (.tmp rfl (.tmp rfl .nil))) rfl rfl
    · have hm := ifB_f hb hm
      refine cj_skip ?_
      refine nj_seq ?_
      refine cj_seq ?_
      refine cj_reg ?_
      refine lp rfl (p_fab fl28_0 rfl) ?_
      refine lp rfl (p_lbs ty26 rfl (j := 0) rfl rfl) ?_
      obtain ⟨y5, hy5, hm⟩ := bindS hm
      refine r_callN [] cf26 rfl rfl (ok_slices_Clone_api_Item_api_Item s0_0_ xg0_0_ a0.Items hy5) rfl rfl (.cons (.ro 1 rfl) (.cons (.ro 2 rfl) .nil)) rfl (fun ⟨s6, xg7⟩ => ?_)
      refine r_pure (F := Lk N46 y5 xg7) (.ro 1 rfl) (fun _ h => h.1) (fun hLs6 => ?_)
      refine lp rfl (p_fab fl28_0 rfl) ?_
      refine r_sb (vs := [s6.v]) (j := 2) ty26 rfl rfl rfl rfl rfl rfl rfl ?_
      refine lj_seq ?_
      refine cj_seq ?_
      refine cj_reg ?_
      refine lp rfl (p_bld [.int .i64 0, .int .i64 0, .slice none 0 0] rfl (fun _ => by kernel_rfl)) ?_
      refine r_al ty60 rfl (fun b8 => ?_)
      refine r_al ty4 rfl (fun b9 => ?_)
      refine r_sb (vs := [.int .i64 0, .int .i64 0, .slice none 0 0]) (j := 1) ty60 rfl rfl rfl rfl rfl rfl rfl ?_
      refine r_sb (vs := [.bool false]) (j := 0) ty4 rfl rfl rfl rfl rfl rfl rfl ?_
      refine lj_seq ?_
      refine cj_seq ?_
      refine cj_reg ?_
      refine lp rfl (p_fab fl28_0 rfl) ?_
      refine lp rfl (p_lbs ty26 rfl (j := 4) rfl rfl) ?_
      refine lp rfl (p_fn (cv := [.pointer (some ⟨b1, 0, none⟩), .pointer (some ⟨b9, 0, none⟩), .pointer (some ⟨b8, 0, none⟩)]) rfl) ?_
      refine r_fzb 4 rfl ?_
      refine r_nil R9 ?_
      obtain ⟨y11, hy11, hm⟩ := bindS hm
      refine r_callN [4, 2, 2, 0] cf27 rfl rfl (ok_concert_orders__al__concert_Order_1 FUEL 0 b1 s6 xg7 y5 a0.Change a0.Clap a0.Break a0.Half b9 false b8 0 0 nilS [] hy11) rfl rfl (.cons (.ro 0 rfl) (.cons (.ro 1 rfl) .nil)) rfl (fun ⟨s12, xg13⟩ => ?_)
      refine r_pure (F := Lk N46 y11.1 xg13) (.ro 2 rfl) (fun _ h => h.1) (fun hLxg13 => ?_)
      refine lj_seq ?_
      refine cj_seq ?_
      refine cj_quiet (by kernel_rfl) (by kernel_rfl) ?_
      refine q_p rfl (p_fab fl60_2 rfl) ?_
      refine q_p rfl (p_lbs ty30 rfl (j := 4) rfl rfl) ?_
      refine q_p rfl (p_fab fl60_0 rfl) ?_
      refine q_p rfl (p_lbs ty3 rfl (j := 4) rfl rfl) ?_
      refine q_p rfl (p_as rfl) ?_
      refine q_p rfl (p_as rfl) ?_
      refine q_p rfl (p_as rfl) ?_
      refine q_nil ?_
      refine nj_seq ?_
      obtain rfl := Option.some.inj hm
      exact cj_rt s12 [0] Tryd.results5 (.tmp rfl (.tmp rfl (.tmp rfl .nil))) rfl rfl
theorem ok_concert_longOf (a0 : TProgram) (s0_0_ : SV) (xg0_0_ : List (TItem × SV)) (s1_ : SV) (xg1_ : List (TItem × SV)) (a1 : (List TItem)) {r : Int} (hm : m_concert_longOf a0 a1 = some r) :
    Ctr Tryd.prog 31 [.agg [s0_0_.v, .int .i64 a0.Change, .int .i64 a0.Clap, .int .i64 a0.Break, .int .i64 a0.Half].toArray, s1_.v].toArray ([] : List Ent) [Lk N46 a0.Items xg0_0_, RdS N46.R (SV.v s0_0_) xg0_0_, Lk N46 a1 xg1_, RdS N46.R (SV.v s1_) xg1_] (X := Unit) (fun _ => .int .i64 r) (fun _ => []) := by
  unfold m_concert_longOf at hm
  refine ctr_mk (vs := [(0, .agg [s0_0_.v, .int .i64 a0.Change, .int .i64 a0.Clap, .int .i64 a0.Break, .int .i64 a0.Half].toArray), (1, s1_.v)]) Tryd.func31 rfl Tryd.ntmps31 rfl ⟨rfl, rfl, trivial⟩ (fun w0 A => ?_)
  refine cj_pure (F := Lk N46 a0.Items xg0_0_) (.ro 0 rfl) (fun _ h => h.1) (fun hL0_0_ => ?_)
  refine cj_pure (F := Lk N46 a1 xg1_) (.ro 2 rfl) (fun _ h => h.1) (fun hL1_ => ?_)
  refine cj_seq ?_
  refine cj_reg ?_
  refine r_bx (cs := [s0_0_.v, .int .i64 a0.Change, .int .i64 a0.Clap, .int .i64 a0.Break, .int .i64 a0.Half]) rfl rfl rfl (fun b1 => ?_)
  refine lp rfl (p_as rfl) ?_
  refine lj_seq ?_
  refine cj_seq ?_
  refine cj_reg ?_
  refine lp rfl (p_mv rfl) ?_
  refine lp rfl (p_fab fl28_0 rfl) ?_
  refine r_sb (vs := [s1_.v]) (j := 0) ty26 rfl rfl rfl rfl rfl rfl rfl ?_
  refine lp rfl (p_fab fl28_4 rfl) ?_
  refine r_sb (vs := [.int .i64 (-1)]) (j := 0) ty3 rfl rfl rfl rfl rfl rfl rfl ?_
  refine lj_seq ?_
  refine cj_seq ?_
  refine cj_reg ?_
  refine lp rfl (p_lbw ty28 rfl (j := 0) rfl rfl) ?_
  obtain ⟨y2, hy2, hm⟩ := bindS hm
  refine r_call [] cf52 rfl rfl (ok_concert_begins (TProgram.mk a1 a0.Change a0.Clap a0.Break (-1)) s1_ xg1_ hy2) rfl rfl (.cons (.ro 3 rfl) (.cons (.ro 4 rfl) .nil)) (fun _ => rfl) rfl (fun s3 => ?_)
  refine lp rfl (p_mv rfl) ?_
  refine lp rfl (p_ext rfl rfl) ?_
  refine lp rfl (p_ext rfl rfl) ?_
  refine lp rfl (p_as rfl) ?_
  refine lp rfl (p_as rfl) ?_
  refine lj_seq ?_
  refine cj_seq ?_
  refine cj_reg ?_
  refine lp rfl (p_mv rfl) ?_
  refine lp rfl (p_as rfl) ?_
  refine lj_seq ?_
  obtain rfl := Option.some.inj hm
  exact cj_rt () [] Tryd.results31 (.tmp rfl .nil) rfl rfl
theorem ok_concert_Half (a0 : TProgram) (s0_0_ : SV) (xg0_0_ : List (TItem × SV)) {r : Int × Int × Int} (hm : m_concert_Half a0 = some r) :
    Ctr Tryd.prog 6 [.agg [s0_0_.v, .int .i64 a0.Change, .int .i64 a0.Clap, .int .i64 a0.Break, .int .i64 a0.Half].toArray].toArray ([] : List Ent) [Lk N46 a0.Items xg0_0_, RdS N46.R (SV.v s0_0_) xg0_0_] (X := Unit) (fun _ => .tuple [.int .i64 r.1, .int .i64 r.2.1, .int .i64 r.2.2].toArray) (fun _ => []) := by
  unfold m_concert_Half at hm
  refine ctr_mk (vs := [(0, .agg [s0_0_.v, .int .i64 a0.Change, .int .i64 a0.Clap, .int .i64 a0.Break, .int .i64 a0.Half].toArray)]) Tryd.func6 rfl Tryd.ntmps6 rfl ⟨rfl, trivial⟩ (fun w0 A => ?_)
  refine cj_pure (F := Lk N46 a0.Items xg0_0_) (.ro 0 rfl) (fun _ h => h.1) (fun hL0_0_ => ?_)
  refine cj_seq ?_
  refine cj_reg ?_
  refine r_bx (cs := [s0_0_.v, .int .i64 a0.Change, .int .i64 a0.Clap, .int .i64 a0.Break, .int .i64 a0.Half]) rfl rfl rfl (fun b1 => ?_)
  refine lp rfl (p_as rfl) ?_
  refine lp rfl (p_as rfl) ?_
  refine lp rfl (p_as rfl) ?_
  refine lj_seq ?_
  refine cj_seq ?_
  refine cj_seq ?_
  refine cj_reg ?_
  refine lp rfl (p_lbw ty28 rfl (j := 0) rfl rfl) ?_
  obtain ⟨y2, hy2, hm⟩ := bindS hm
  refine r_call [] cf25 rfl rfl (ok_concert_CheckProgram a0 s0_0_ xg0_0_ hy2) rfl rfl (.cons (.ro 1 rfl) (.cons (.ro 2 rfl) .nil)) (fun _ => rfl) rfl (fun _ => ?_)
  refine lp rfl (p_as rfl) ?_
  refine lj_seq ?_
  refine cj_seq ?_
  refine cj_reg ?_
  refine lp rfl (p_mv rfl) ?_
  refine lp rfl (p_neq rfl rfl) ?_
  refine lj_seq ?_
  refine cj_if (b := y2 != 0) rfl (fun hb => ?_) (fun hb => ?_)
  · have hm := ifB_t hb hm
    refine cj_seq ?_
    refine cj_reg ?_
    refine lp rfl (p_mv rfl) ?_
    refine lp rfl (p_as rfl) ?_
    refine lp rfl (p_as rfl) ?_
    refine lp rfl (p_as rfl) ?_
    refine lj_seq ?_
    obtain rfl := Option.some.inj hm
    exact cj_rt () [] Tryd.results6 (.tmp rfl (.tmp rfl (.tmp rfl .nil))) rfl rfl
  · have hm := ifB_f hb hm
    refine cj_skip ?_
    refine nj_seq ?_
    refine cj_seq ?_
    refine cj_seq ?_
    refine cj_reg ?_
    refine lp rfl (p_fab fl28_0 rfl) ?_
    refine lp rfl (p_lbs ty26 rfl (j := 0) rfl rfl) ?_
    refine lp rfl (p_lenG hL0_0_ Tryd.underlying26 rfl (.ro 2 rfl)) ?_
    refine lp rfl (p_lss rfl rfl) ?_
    refine lj_seq ?_
    refine cj_if (b := decide ((a0.Items.length : Int) < 2)) rfl (fun hb => ?_) (fun hb => ?_)
    · have hm := ifB_t hb hm
      refine cj_seq ?_
      refine cj_reg ?_
      refine lp rfl (p_as rfl) ?_
      refine lp rfl (p_as rfl) ?_
      refine lp rfl (p_as rfl) ?_
      refine lj_seq ?_
      obtain rfl := Option.some.inj hm
      exact cj_rt () [] Tryd.results6 (.tmp rfl (.tmp rfl (.tmp rfl .nil))) rfl rfl
    · have hm := ifB_f hb hm
      refine cj_skip ?_
      refine nj_seq ?_
      refine cj_seq ?_
      refine cj_reg ?_
      refine lp rfl (p_as rfl) ?_
      refine lp rfl (p_as rfl) ?_
      refine lj_seq ?_
      refine cj_seq ?_
      refine cj_seq ?_
      refine cj_reg ?_
      refine lp rfl (p_fab fl28_0 rfl) ?_
      refine lp rfl (p_lbs ty26 rfl (j := 0) rfl rfl) ?_
      refine lp rfl (p_lenG hL0_0_ Tryd.underlying26 rfl (.ro 2 rfl)) ?_
      refine lp rfl (p_sub rfl rfl) ?_
      refine lp rfl (p_mv rfl) ?_
      refine lj_seq ?_
      obtain ⟨L17, hL17, hm⟩ := bindS hm
      obtain ⟨f9, hf9, hm⟩ := bindS hm
      refine cj_range (γ := Unit) (m := w64 ((a0.Items.length : Int) - 1)) hf9 () (fun u6 g7 => [(1, .pointer (some ⟨b1, 0, none⟩)), (2, .int .i64 0), (3, .int .i64 0), (4, .int .i64 0), (6, .int .i64 u6.1), (7, .int .i64 u6.2)]) (fun u6 g7 => Sat w0 (keys ([] : List Ent)) A [.box b1 28 [s0_0_.v, .int .i64 a0.Change, .int .i64 a0.Clap, .int .i64 a0.Break, .int .i64 a0.Half], .ro (Lk N46 a0.Items xg0_0_), .ro (RdS N46.R (SV.v s0_0_) xg0_0_)]) ⟨rfl, rfl, rfl, rfl, rfl, rfl, rfl, rfl, trivial⟩ (fun _ h => h.picks [0, 0, 0] rfl) (rangeI_spec hL17).1 (fun _ _ => (rangeI_spec hL17).2) (fun _ _ => ⟨rfl, rfl, rfl, rfl⟩) ⟨rfl, rfl, rfl, rfl, rfl⟩ rfl rfl rfl (fun u6 g7 e => ?_) (fun aftk8 i3 x4 u6 g7 k8 hx5 hs J hJk8 hBk8 hX I cnk8 => ?_)
      · have hm := Flow.fin_b e hm
        refine nj_seq ?_
        refine cj_seq ?_
        refine cj_reg ?_
        refine lp rfl (p_mv rfl) ?_
        refine lp rfl (p_mv rfl) ?_
        refine lp rfl (p_as rfl) ?_
        refine lp rfl (p_as rfl) ?_
        refine lp rfl (p_as rfl) ?_
        refine lj_seq ?_
        obtain rfl := Option.some.inj hm
        exact cj_rt () [] Tryd.results6 (.tmp rfl (.tmp rfl (.tmp rfl .nil))) rfl rfl
      · have hRk8 : ∀ t, k8 = .ret t → some t = some r := fun t e => by rw [hX t e] at hm; exact hm
        have hm := hs
        refine cj_seq ?_
        refine cj_reg ?_
        refine lp rfl (p_mv rfl) ?_
        refine lp rfl (p_as rfl) ?_
        refine lj_seq ?_
        refine cj_seq ?_
        refine cj_quiet (by kernel_rfl) (by kernel_rfl) ?_
        refine q_p rfl (p_lbw ty28 rfl (j := 0) rfl rfl) ?_
        refine q_p rfl (p_fab fl28_0 rfl) ?_
        refine q_p rfl (p_lbs ty26 rfl (j := 0) rfl rfl) ?_
        refine q_p rfl (p_mv rfl) ?_
        refine q_p rfl (p_add rfl rfl) ?_
        obtain ⟨q10, hq10, hm⟩ := bindS hm
        obtain ⟨q10G, hq10G, hLq10, hsq10⟩ := lk_cut hL0_0_ hq10
        refine q_p rfl (p_cut Tryd.underlying26 ty46 rfl rfl rfl rfl rfl (.ro 2 rfl) rfl rfl hq10G) ?_
        obtain ⟨y11, hy11, hm⟩ := bindS hm
        refine q_call (.int .i64 y11) cf31 rfl rfl (ok_concert_longOf a0 s0_0_ xg0_0_ (s0_0_.sub N46.R.sz (0 : Int).toNat (w64 ((i3 : Int) + 1)).toNat) q10G q10 hy11) (.cons (.ro 1 rfl) (.cons (.ro 2 rfl) (.cons (.imp (.ro 1 rfl) (fun _ h => Lk.sub h hLq10 hsq10)) (.cons (.imp (.ro 2 rfl) (fun _ h => h.cut hq10G)) .nil)))) (fun _ => rfl) (fun _ => rfl) rfl ?_
        refine q_p rfl (p_lbw ty28 rfl (j := 0) rfl rfl) ?_
        refine q_p rfl (p_fab fl28_0 rfl) ?_
        refine q_p rfl (p_lbs ty26 rfl (j := 0) rfl rfl) ?_
        refine q_p rfl (p_mv rfl) ?_
        refine q_p rfl (p_add rfl rfl) ?_
        obtain ⟨q12, hq12, hm⟩ := bindS hm
        obtain ⟨q12G, hq12G, hLq12, hsq12⟩ := lk_cut hL0_0_ hq12
        refine q_p rfl (p_cut Tryd.underlying26 ty46 rfl rfl rfl rfl rfl (.ro 2 rfl) rfl (congrArg Int.ofNat (lk_len hL0_0_)) hq12G) ?_
        obtain ⟨y13, hy13, hm⟩ := bindS hm
        refine q_call (.int .i64 y13) cf31 rfl rfl (ok_concert_longOf a0 s0_0_ xg0_0_ (s0_0_.sub N46.R.sz (w64 ((i3 : Int) + 1)).toNat (a0.Items.length : Int).toNat) q12G q12 hy13) (.cons (.ro 1 rfl) (.cons (.ro 2 rfl) (.cons (.imp (.ro 1 rfl) (fun _ h => Lk.sub h hLq12 hsq12)) (.cons (.imp (.ro 2 rfl) (fun _ h => h.cut hq12G)) .nil)))) (fun _ => rfl) (fun _ => rfl) rfl ?_
        refine q_p rfl (p_as rfl) ?_
        refine q_p rfl (p_as rfl) ?_
        refine q_nil ?_
        refine nj_seq ?_
        refine cj_seq ?_
        refine cj_reg ?_
        refine lp rfl (p_mv rfl) ?_
        refine lp rfl (p_mv rfl) ?_
        refine lp rfl (p_sub rfl rfl) ?_
        refine lp rfl (p_mv rfl) ?_
        refine lp rfl (p_mv rfl) ?_
        refine lp rfl (p_sub rfl rfl) ?_
        refine lp rfl (p_max rfl rfl) ?_
        refine lp rfl (p_as rfl) ?_
        refine lj_seq ?_
        refine cj_seq ?_
        refine cj_reg ?_
        obtain ⟨k16, hk16, hm⟩ := bindS hm
        have hRk16 : ∀ t, k16 = .inr t → some t = some k8 := fun t e => by rw [e] at hm; exact hm
        refine lj_join (σ := Bool) (γ := Unit) (fun u14 => k16 = .inl u14) (fun u14 g15 => [(1, .pointer (some ⟨b1, 0, none⟩)), (2, .int .i64 0), (3, .int .i64 0), (4, .int .i64 0), (6, .int .i64 u6.1), (7, .int .i64 u6.2), (8, .int .i64 (i3 : Int)), (11, .int .i64 (max (w64 (y11 - y13)) (w64 (y13 - y11)))), (24, .int .i64 (w64 ((a0.Items.length : Int) - 1))), (25, .int .i64 (i3 : Int)), (55, .bool u14)]) (fun u14 g15 => Sat w0 (keys ([] : List Ent)) A [.box b1 28 [s0_0_.v, .int .i64 a0.Change, .int .i64 a0.Clap, .int .i64 a0.Break, .int .i64 a0.Half], .ro (Lk N46 a0.Items xg0_0_), .ro (RdS N46.R (SV.v s0_0_) xg0_0_)]) (fun u14 g15 hq => ?_) (fun J cnk16 => ?_)
        · have hm := Sum.fin_l hq hm
          refine cj_if (b := u14) rfl (fun hb => ?_) (fun hb => ?_)
          · have hm := ifB_t hb hm
            refine cj_reg ?_
            refine lp rfl (p_mv rfl) ?_
            refine lp rfl (p_mv rfl) ?_
            refine lp rfl (p_as rfl) ?_
            refine lp rfl (p_as rfl) ?_
            refine lj_nil ?_
            refine nj_blk ?_
            exact cnk8 _ _ ((i3 : Int), max (w64 (y11 - y13)) (w64 (y13 - y11))) () (hJk8 _ (Option.some.inj hm).symm) ⟨rfl, rfl, rfl, rfl, rfl, rfl, rfl, rfl, trivial⟩ (fun _ h => h.picks [0, 0, 0] rfl)
          · have hm := ifB_f hb hm
            refine cj_skip ?_
            refine nj_blk ?_
            exact cnk8 _ _ (u6.1, u6.2) () (hJk8 _ (Option.some.inj hm).symm) ⟨rfl, rfl, rfl, rfl, rfl, rfl, rfl, rfl, trivial⟩ (fun _ h => h.picks [0, 0, 0] rfl)
        · have hm := hk16
          refine lp rfl (p_mv rfl) ?_
          refine lp rfl (p_lss rfl rfl) ?_
          refine lp rfl (p_mv rfl) ?_
          refine lcase (i := 51) (decide (u6.1 < 0)) rfl (fun hb => ?_) (fun hb => ?_)
          · have hm := ifB_t hb hm
            refine ls false rfl rfl rfl rfl ?_
            refine ls false rfl rfl rfl rfl ?_
            refine ls false rfl rfl rfl rfl ?_
            refine lp rfl (p_pkt rfl rfl) ?_
            refine lj_nil ?_
            exact cnk16 _ _ true () (Option.some.inj hm).symm ⟨rfl, rfl, rfl, rfl, rfl, rfl, rfl, rfl, rfl, rfl, rfl, trivial⟩ (fun _ h => h.picks [0, 0, 0] rfl)
          · have hm := ifB_f hb hm
            refine lg false rfl rfl rfl ?_
            refine lp rfl (p_mv rfl) ?_
            refine lg false rfl rfl rfl ?_
            refine lp rfl (p_mv rfl) ?_
            refine lg false rfl rfl rfl ?_
            refine lp rfl (p_lss rfl rfl) ?_
            refine lp rfl (p_pkf rfl rfl) ?_
            refine lj_nil ?_
            exact cnk16 _ _ (decide ((max (w64 (y11 - y13)) (w64 (y13 - y11))) < u6.2)) () (Option.some.inj hm).symm ⟨rfl, rfl, rfl, rfl, rfl, rfl, rfl, rfl, rfl, rfl, rfl, trivial⟩ (fun _ h => h.picks [0, 0, 0] rfl)
theorem ok_gleeref2_in (a0 : Int) (a1 : Int) (a2 : Int) {r : Bool} (hm : m_gleeref2_in a0 a1 a2 = some r) :
    Ctr Tryd.prog 33 [.int .i64 a0, .int .i64 a1, .int .i64 a2].toArray ([] : List Ent) [] (X := Unit) (fun _ => .bool r) (fun _ => []) := by
  unfold m_gleeref2_in at hm
  refine ctr_mk (vs := [(0, .int .i64 a0), (1, .int .i64 a1), (2, .int .i64 a2)]) Tryd.func33 rfl Tryd.ntmps33 rfl ⟨rfl, rfl, rfl, trivial⟩ (fun w0 A => ?_)
  refine cj_seq ?_
  refine cj_reg ?_
  refine lp rfl (p_as rfl) ?_
  refine lj_seq ?_
  refine cj_seq ?_
  refine cj_reg ?_
  refine lp rfl (p_mv rfl) ?_
  refine lp rfl (p_mv rfl) ?_
  refine lp rfl (p_leq rfl rfl) ?_
  refine lp rfl (p_mv rfl) ?_
  refine lcase (i := 10) (decide (a1 ≤ a0)) rfl (fun hb => ?_) (fun hb => ?_)
  · have hm := ifB_t hb hm
    refine lg true rfl rfl rfl ?_
    refine lp rfl (p_mv rfl) ?_
    refine lg true rfl rfl rfl ?_
    refine lp rfl (p_mv rfl) ?_
    refine lg true rfl rfl rfl ?_
    refine lp rfl (p_leq rfl rfl) ?_
    refine lp rfl (p_pkt rfl rfl) ?_
    refine lp rfl (p_as rfl) ?_
    refine lj_seq ?_
    obtain rfl := Option.some.inj hm
    exact cj_rt () [] Tryd.results33 (.tmp rfl .nil) rfl rfl
  · have hm := ifB_f hb hm
    refine ls true rfl rfl rfl rfl ?_
    refine ls true rfl rfl rfl rfl ?_
    refine ls true rfl rfl rfl rfl ?_
    refine lp rfl (p_pkf rfl rfl) ?_
    refine lp rfl (p_as rfl) ?_
    refine lj_seq ?_
    obtain rfl := Option.some.inj hm
    exact cj_rt () [] Tryd.results33 (.tmp rfl .nil) rfl rfl
theorem ok_gleeref2_only (a0 : ByteArray) (a1 : ByteArray) {r : Bool} (hm : m_gleeref2_only a0 a1 = some r) :
    Ctr Tryd.prog 71 [.string a0, .string a1].toArray ([] : List Ent) [] (X := Unit) (fun _ => .bool r) (fun _ => []) := by
  unfold m_gleeref2_only at hm
  refine ctr_mk (vs := [(0, .string a0), (1, .string a1)]) Tryd.func71 rfl Tryd.ntmps71 rfl ⟨rfl, rfl, trivial⟩ (fun w0 A => ?_)
  refine cj_seq ?_
  refine cj_reg ?_
  refine lp rfl (p_as rfl) ?_
  refine lj_seq ?_
  refine cj_seq ?_
  refine cj_seq ?_
  refine cj_reg ?_
  refine lp rfl (p_mv rfl) ?_
  refine lp rfl (p_lens Tryd.underlying9 rfl) ?_
  refine lp rfl (p_mv rfl) ?_
  refine lj_seq ?_
  obtain ⟨L10, hL10, hm⟩ := bindS hm
  obtain ⟨f7, hf7, hm⟩ := bindS hm
  refine cj_range (γ := Unit) (m := (a0.size : Int)) hf7 () (fun u4 g5 => [(0, .string a0), (1, .string a1), (4, .bool false)]) (fun u4 g5 => Sat w0 (keys ([] : List Ent)) A []) ⟨rfl, rfl, rfl, rfl, rfl, trivial⟩ (fun _ h => h.picks [] rfl) (rangeI_spec hL10).1 (fun _ _ => (rangeI_spec hL10).2) (fun _ _ => ⟨rfl, rfl, rfl, rfl⟩) ⟨rfl, rfl, rfl, rfl, rfl⟩ rfl rfl rfl (fun u4 g5 e => ?_) (fun aftk6 i1 x2 u4 g5 k6 hx3 hs J hJk6 hBk6 hX I cnk6 => ?_)
  · have hm := Flow.fin_b e hm
    refine nj_seq ?_
    refine cj_seq ?_
    refine cj_reg ?_
    refine lp rfl (p_as rfl) ?_
    refine lj_seq ?_
    obtain rfl := Option.some.inj hm
    exact cj_rt () [] Tryd.results71 (.tmp rfl .nil) rfl rfl
  · have hRk6 : ∀ t, k6 = .ret t → some t = some r := fun t e => by rw [hX t e] at hm; exact hm
    have hm := hs
    refine cj_seq ?_
    refine cj_reg ?_
    refine lp rfl (p_mv rfl) ?_
    refine lp rfl (p_as rfl) ?_
    refine lj_seq ?_
    refine cj_seq ?_
    refine cj_reg ?_
    refine lp rfl (p_mv rfl) ?_
    refine lp rfl (p_mv rfl) ?_
    refine lp rfl (p_mv rfl) ?_
    obtain ⟨c8, hc8, hm⟩ := bindS hm
    refine lp rfl (p_stri Tryd.underlying9 rfl rfl hc8) ?_
    obtain ⟨y9, hy9, hm⟩ := bindS hm
    refine r_call [] cf76 rfl rfl (ok_strings_IndexByte a1 c8 hy9) rfl rfl .nil (fun _ => rfl) rfl (fun _ => ?_)
    refine lp rfl (p_lss rfl rfl) ?_
    refine lj_seq ?_
    refine cj_if (b := decide (y9 < 0)) rfl (fun hb => ?_) (fun hb => ?_)
    · have hm := ifB_t hb hm
      refine cj_seq ?_
      refine cj_reg ?_
      refine lp rfl (p_as rfl) ?_
      refine lj_seq ?_
      have hm := hRk6 _ (Option.some.inj hm).symm
      obtain rfl := Option.some.inj hm
      exact cj_rt () [] Tryd.results71 (.tmp rfl .nil) rfl rfl
    · have hm := ifB_f hb hm
      refine cj_skip ?_
      refine nj_blk ?_
      exact cnk6 _ _ () () (hJk6 _ (Option.some.inj hm).symm) ⟨rfl, rfl, rfl, rfl, rfl, trivial⟩ (fun _ h => h.picks [] rfl)
theorem ok_gleeref2_Key (a0 : ByteArray) {r : Bool} (hm : m_gleeref2_Key a0 = some r) :
    Ctr Tryd.prog 54 [.string a0].toArray ([] : List Ent) [] (X := Unit) (fun _ => .bool r) (fun _ => []) := by
  unfold m_gleeref2_Key at hm
  refine ctr_mk (vs := [(0, .string a0)]) Tryd.func54 rfl Tryd.ntmps54 rfl ⟨rfl, trivial⟩ (fun w0 A => ?_)
  refine cj_seq ?_
  refine cj_reg ?_
  refine lp rfl (p_as rfl) ?_
  refine lj_seq ?_
  refine cj_seq ?_
  refine cj_reg ?_
  refine lp rfl (p_mv rfl) ?_
  refine lp rfl (p_lens Tryd.underlying9 rfl) ?_
  obtain ⟨y1, hy1, hm⟩ := bindS hm
  refine r_call [] cf33 rfl rfl (ok_gleeref2_in (a0.size : Int) 1 40 hy1) rfl rfl .nil (fun _ => rfl) rfl (fun _ => ?_)
  refine lp rfl (p_mv rfl) ?_
  refine lcase (i := 6) y1 rfl (fun hb => ?_) (fun hb => ?_)
  · have hm := ifB_t hb hm
    refine lg true rfl rfl rfl ?_
    refine lp rfl (p_mv rfl) ?_
    refine lg true rfl rfl rfl ?_
    obtain ⟨c2, hc2, hm⟩ := bindS hm
    refine lp rfl (p_strs Tryd.underlying9 rfl rfl rfl rfl rfl rfl rfl hc2) ?_
    refine lg true rfl rfl rfl ?_
    obtain ⟨y3, hy3, hm⟩ := bindS hm
    refine r_call [] cf71 rfl rfl (ok_gleeref2_only c2 (ByteArray.mk [97, 98, 99, 100, 101, 102, 103, 104, 105, 106, 107, 108, 109, 110, 111, 112, 113, 114, 115, 116, 117, 118, 119, 120, 121, 122].toArray) hy3) rfl rfl .nil (fun _ => rfl) rfl (fun _ => ?_)
    refine lp rfl (p_pkt rfl rfl) ?_
    refine lp rfl (p_mv rfl) ?_
    refine lcase (i := 11) y3 rfl (fun hb => ?_) (fun hb => ?_)
    · have hm := ifB_t hb hm
      refine lg true rfl rfl rfl ?_
      refine lp rfl (p_mv rfl) ?_
      refine lg true rfl rfl rfl ?_
      obtain ⟨y4, hy4, hm⟩ := bindS hm
      refine r_call [] cf71 rfl rfl (ok_gleeref2_only a0 (ByteArray.mk [97, 98, 99, 100, 101, 102, 103, 104, 105, 106, 107, 108, 109, 110, 111, 112, 113, 114, 115, 116, 117, 118, 119, 120, 121, 122, 48, 49, 50, 51, 52, 53, 54, 55, 56, 57, 45, 95].toArray) hy4) rfl rfl .nil (fun _ => rfl) rfl (fun _ => ?_)
      refine lp rfl (p_pkt rfl rfl) ?_
      refine lp rfl (p_as rfl) ?_
      refine lj_seq ?_
      obtain rfl := Option.some.inj hm
      exact cj_rt () [] Tryd.results54 (.tmp rfl .nil) rfl rfl
    · have hm := ifB_f hb hm
      refine ls true rfl rfl rfl rfl ?_
      refine ls true rfl rfl rfl rfl ?_
      refine lp rfl (p_pkf rfl rfl) ?_
      refine lp rfl (p_as rfl) ?_
      refine lj_seq ?_
      obtain rfl := Option.some.inj hm
      exact cj_rt () [] Tryd.results54 (.tmp rfl .nil) rfl rfl
  · have hm := ifB_f hb hm
    refine ls true rfl rfl rfl rfl ?_
    refine ls true rfl rfl rfl rfl ?_
    refine ls true rfl rfl rfl rfl ?_
    refine lp rfl (p_pkf rfl rfl) ?_
    refine lp rfl (p_mv rfl) ?_
    refine ls true rfl rfl rfl rfl ?_
    refine ls true rfl rfl rfl rfl ?_
    refine lp rfl (p_pkf rfl rfl) ?_
    refine lp rfl (p_as rfl) ?_
    refine lj_seq ?_
    obtain rfl := Option.some.inj hm
    exact cj_rt () [] Tryd.results54 (.tmp rfl .nil) rfl rfl
theorem ok_gleeref2_ItemAt_1 (a0 : TItem) (s0_3_ : SV) (b1_ : Nat) (a1_0 : ByteArray) {r : Bool} (hm : m_gleeref2_ItemAt_1 a0 a1_0 = some r) :
    Ctr Tryd.prog 62 [.agg [.string a0.Key, .string a0.Places, .int .i64 a0.Long, s0_3_.v].toArray, .pointer (some ⟨b1_, 0, none⟩)].toArray ([] : List Ent) [RdS R9 (SV.v s0_3_) a0.Parts, BoxS b1_ 9 [.string a1_0]] (X := Unit) (fun _ => .bool r) (fun _ => []) := by
  unfold m_gleeref2_ItemAt_1 at hm
  refine ctr_mk (vs := [(0, .agg [.string a0.Key, .string a0.Places, .int .i64 a0.Long, s0_3_.v].toArray), (1, .pointer (some ⟨b1_, 0, none⟩))]) Tryd.func62 rfl Tryd.ntmps62 rfl ⟨rfl, rfl, trivial⟩ (fun w0 A => ?_)
  refine cj_seq ?_
  refine cj_reg ?_
  refine r_bx (cs := [.string a0.Key, .string a0.Places, .int .i64 a0.Long, s0_3_.v]) rfl rfl rfl (fun b1 => ?_)
  refine lp rfl (p_as rfl) ?_
  refine lj_seq ?_
  refine cj_seq ?_
  refine cj_reg ?_
  refine lp rfl (p_fab fl46_0 rfl) ?_
  refine lp rfl (p_lbs ty9 rfl (j := 0) rfl rfl) ?_
  refine lp rfl (p_rbs ty9 rfl (.ro 2 rfl) rfl) ?_
  refine lp rfl (p_eqs rfl rfl) ?_
  refine lp rfl (p_as rfl) ?_
  refine lj_seq ?_
  obtain rfl := Option.some.inj hm
  exact cj_rt () [] Tryd.results62 (.tmp rfl .nil) rfl rfl
theorem ok_slices_IndexFunc_api_Item_api_Item__gleeref2_ItemAt_1 (s0_ : SV) (xg0_ : List (TItem × SV)) (a0 : (List TItem)) (b1_c0_ : Nat) (a1_c0_0 : ByteArray) {r : Int} (hm : m_slices_IndexFunc_api_Item_api_Item__gleeref2_ItemAt_1 a0 a1_c0_0 = some r) :
    Ctr Tryd.prog 61 [s0_.v, .func (.func 62) #[] [.pointer (some ⟨b1_c0_, 0, none⟩)].toArray].toArray ([] : List Ent) [Lk N46 a0 xg0_, RdS N46.R (SV.v s0_) xg0_, BoxS b1_c0_ 9 [.string a1_c0_0]] (X := Unit) (fun _ => .int .i64 r) (fun _ => []) := by
  unfold m_slices_IndexFunc_api_Item_api_Item__gleeref2_ItemAt_1 at hm
  refine ctr_mk (vs := [(0, s0_.v), (1, .func (.func 62) #[] [.pointer (some ⟨b1_c0_, 0, none⟩)].toArray)]) Tryd.func61 rfl Tryd.ntmps61 rfl ⟨rfl, rfl, trivial⟩ (fun w0 A => ?_)
  refine cj_pure (F := Lk N46 a0 xg0_) (.ro 0 rfl) (fun _ h => h.1) (fun hL0_ => ?_)
  refine cj_seq ?_
  refine cj_reg ?_
  refine lp rfl (p_as rfl) ?_
  refine lj_seq ?_
  refine cj_seq ?_
  refine cj_seq ?_
  refine cj_reg ?_
  refine lp rfl (p_mv rfl) ?_
  refine lp rfl (p_lenG hL0_ Tryd.underlying26 rfl (.ro 1 rfl)) ?_
  refine lp rfl (p_mv rfl) ?_
  refine lj_seq ?_
  obtain ⟨f7, hf7, hm⟩ := bindS hm
  refine cj_range (γ := Unit) (m := (a0.length : Int)) hf7 () (fun u4 g5 => [(0, s0_.v), (1, .func (.func 62) #[] [.pointer (some ⟨b1_c0_, 0, none⟩)].toArray), (4, .int .i64 0)]) (fun u4 g5 => Sat w0 (keys ([] : List Ent)) A [.ro (Lk N46 a0 xg0_), .ro (RdS N46.R (SV.v s0_) xg0_), .ro (BoxS b1_c0_ 9 [.string a1_c0_0])]) ⟨rfl, rfl, rfl, rfl, rfl, trivial⟩ (fun _ h => h.picks [0, 0, 0] rfl) (nat_lt _) (fun _ h => by have h1 := (FactAt.get (F := RdS N46.R (SV.v s0_) xg0_) (.ro 1 rfl) h).1; rw [lk_len hL0_] at h1; exact h1) (fun _ _ => ⟨rfl, rfl, rfl, rfl⟩) ⟨rfl, rfl, rfl, rfl, rfl⟩ rfl rfl rfl (fun u4 g5 e => ?_) (fun aftk6 i1 x2 u4 g5 k6 hx3 hs J hJk6 hBk6 hX I cnk6 => ?_)
  · have hm := Flow.fin_b e hm
    refine nj_seq ?_
    refine cj_seq ?_
    refine cj_reg ?_
    refine lp rfl (p_as rfl) ?_
    refine lj_seq ?_
    obtain rfl := Option.some.inj hm
    exact cj_rt () [] Tryd.results61 (.tmp rfl .nil) rfl rfl
  · have hRk6 : ∀ t, k6 = .ret t → some t = some r := fun t e => by rw [hX t e] at hm; exact hm
    have hm := hs
    refine cj_seq ?_
    refine cj_reg ?_
    refine lp rfl (p_mv rfl) ?_
    refine lp rfl (p_as rfl) ?_
    refine lj_seq ?_
    refine cj_seq ?_
    refine cj_reg ?_
    refine lp rfl (p_mv rfl) ?_
    refine lp rfl (p_mv rfl) ?_
    refine lp rfl (p_mv rfl) ?_
    obtain ⟨gx2, hx3G⟩ := lk_get hL0_ hx3
    refine lp rfl (p_idx Tryd.underlying26 ty46 rfl rfl (.ro 1 rfl) (getI_nat.trans hx3G)) ?_
    refine lp rfl (p_leaN (cs := [.string x2.Key, .string x2.Places, .int .i64 x2.Long, gx2.v]) ty46 rfl (.ro 1 rfl) hx3G rfl) ?_
    obtain ⟨y8, hy8, hm⟩ := bindS hm
    refine r_call [] cf62 rfl rfl (ok_gleeref2_ItemAt_1 x2 gx2 b1_c0_ a1_c0_0 hy8) rfl rfl (.cons (.imp (.ro 0 rfl) (fun _ h => (Lk.at_ h hx3G))) (.cons (.ro 2 rfl) .nil)) (fun _ => rfl) rfl (fun _ => ?_)
    refine lj_seq ?_
    refine cj_if (b := y8) rfl (fun hb => ?_) (fun hb => ?_)
    · have hm := ifB_t hb hm
      refine cj_seq ?_
      refine cj_reg ?_
      refine lp rfl (p_mv rfl) ?_
      refine lp rfl (p_as rfl) ?_
      refine lj_seq ?_
      have hm := hRk6 _ (Option.some.inj hm).symm
      obtain rfl := Option.some.inj hm
      exact cj_rt () [] Tryd.results61 (.tmp rfl .nil) rfl rfl
    · have hm := ifB_f hb hm
      refine cj_skip ?_
      refine nj_blk ?_
      exact cnk6 _ _ () () (hJk6 _ (Option.some.inj hm).symm) ⟨rfl, rfl, rfl, rfl, rfl, trivial⟩ (fun _ h => h.picks [0, 0, 0] rfl)
theorem ok_gleeref2_ItemAt (s0_ : SV) (xg0_ : List (TItem × SV)) (a0 : (List TItem)) (a1 : ByteArray) {r : Int} (hm : m_gleeref2_ItemAt a0 a1 = some r) :
    Ctr Tryd.prog 41 [s0_.v, .string a1].toArray ([] : List Ent) [Lk N46 a0 xg0_, RdS N46.R (SV.v s0_) xg0_] (X := Unit) (fun _ => .int .i64 r) (fun _ => []) := by
  unfold m_gleeref2_ItemAt at hm
  refine ctr_mk (vs := [(0, s0_.v), (1, .string a1)]) Tryd.func41 rfl Tryd.ntmps41 rfl ⟨rfl, rfl, trivial⟩ (fun w0 A => ?_)
  refine cj_pure (F := Lk N46 a0 xg0_) (.ro 0 rfl) (fun _ h => h.1) (fun hL0_ => ?_)
  refine cj_seq ?_
  refine cj_reg ?_
  refine r_bx (cs := [.string a1]) rfl rfl rfl (fun b1 => ?_)
  refine lp rfl (p_as rfl) ?_
  refine lj_seq ?_
  refine cj_seq ?_
  refine cj_reg ?_
  refine lp rfl (p_mv rfl) ?_
  refine lp rfl (p_fn (cv := [.pointer (some ⟨b1, 0, none⟩)]) rfl) ?_
  obtain ⟨y2, hy2, hm⟩ := bindS hm
  refine r_call [] cf61 rfl rfl (ok_slices_IndexFunc_api_Item_api_Item__gleeref2_ItemAt_1 s0_ xg0_ a0 b1 a1 hy2) rfl rfl (.cons (.ro 1 rfl) (.cons (.ro 2 rfl) (.cons (.imp (.box 0 rfl) (fun _ h => h)) .nil))) (fun _ => rfl) rfl (fun _ => ?_)
  refine lp rfl (p_as rfl) ?_
  refine lj_seq ?_
  obtain rfl := Option.some.inj hm
  exact cj_rt () [] Tryd.results41 (.tmp rfl .nil) rfl rfl
theorem ok_gleeref2_Rising (s0_ : SV) (a0 : (List ByteArray)) {r : Int} (hm : m_gleeref2_Rising a0 = some r) :
    Ctr Tryd.prog 55 [s0_.v].toArray ([] : List Ent) [RdS R9 (SV.v s0_) a0] (X := Unit) (fun _ => .int .i64 r) (fun _ => []) := by
  unfold m_gleeref2_Rising at hm
  refine ctr_mk (vs := [(0, s0_.v)]) Tryd.func55 rfl Tryd.ntmps55 rfl ⟨rfl, trivial⟩ (fun w0 A => ?_)
  refine cj_seq ?_
  refine cj_reg ?_
  refine lp rfl (p_as rfl) ?_
  refine lj_seq ?_
  refine cj_seq ?_
  refine cj_seq ?_
  refine cj_reg ?_
  refine lp rfl (p_mv rfl) ?_
  refine lp rfl (p_len Tryd.underlying30 rfl (.ro 0 rfl)) ?_
  refine lp rfl (p_mv rfl) ?_
  refine lj_seq ?_
  obtain ⟨f7, hf7, hm⟩ := bindS hm
  refine cj_range (γ := Unit) (m := (a0.length : Int)) hf7 () (fun u4 g5 => [(0, s0_.v), (2, .int .i64 0), (5, s0_.v)]) (fun u4 g5 => Sat w0 (keys ([] : List Ent)) A [.ro (RdS R9 (SV.v s0_) a0)]) ⟨rfl, rfl, rfl, rfl, rfl, trivial⟩ (fun _ h => h.picks [0] rfl) (nat_lt _) (fun _ h => (FactAt.get (F := RdS R9 (SV.v s0_) a0) (.ro 0 rfl) h).1) (fun _ _ => ⟨rfl, rfl, rfl, rfl⟩) ⟨rfl, rfl, rfl, rfl, rfl⟩ rfl rfl rfl (fun u4 g5 e => ?_) (fun aftk6 i1 x2 u4 g5 k6 hx3 hs J hJk6 hBk6 hX I cnk6 => ?_)
  · have hm := Flow.fin_b e hm
    refine nj_seq ?_
    refine cj_seq ?_
    refine cj_reg ?_
    refine lp rfl (p_as rfl) ?_
    refine lj_seq ?_
    obtain rfl := Option.some.inj hm
    exact cj_rt () [] Tryd.results55 (.tmp rfl .nil) rfl rfl
  · have hRk6 : ∀ t, k6 = .ret t → some t = some r := fun t e => by rw [hX t e] at hm; exact hm
    have hm := hs
    refine cj_seq ?_
    refine cj_reg ?_
    refine lp rfl (p_mv rfl) ?_
    refine lp rfl (p_idx Tryd.underlying30 ty9 rfl rfl (.ro 0 rfl) (getI_nat.trans hx3)) ?_
    refine lp rfl (p_lde (o := 0) ty9 rfl rfl (.ro 0 rfl) hx3 rfl) ?_
    refine lp rfl (p_as rfl) ?_
    refine lp rfl (p_as rfl) ?_
    refine lj_seq ?_
    refine cj_seq ?_
    refine cj_seq ?_
    refine cj_reg ?_
    refine lp rfl (p_mv rfl) ?_
    obtain ⟨y8, hy8, hm⟩ := bindS hm
    refine r_call [] cf54 rfl rfl (ok_gleeref2_Key x2 hy8) rfl rfl .nil (fun _ => rfl) rfl (fun _ => ?_)
    refine lp rfl (p_not rfl) ?_
    refine lj_seq ?_
    refine cj_if (b := !y8) rfl (fun hb => ?_) (fun hb => ?_)
    · have hm := ifB_t hb hm
      refine cj_seq ?_
      refine cj_reg ?_
      refine lp rfl (p_as rfl) ?_
      refine lj_seq ?_
      have hm := hRk6 _ (Option.some.inj hm).symm
      obtain rfl := Option.some.inj hm
      exact cj_rt () [] Tryd.results55 (.tmp rfl .nil) rfl rfl
    · have hm := ifB_f hb hm
      refine cj_skip ?_
      refine nj_seq ?_
      refine cj_seq ?_
      refine cj_reg ?_
      obtain ⟨k11, hk11, hm⟩ := bindS hm
      have hRk11 : ∀ t, k11 = .inr t → some t = some k6 := fun t e => by rw [e] at hm; exact hm
      refine lj_join (σ := Bool) (γ := Unit) (fun u9 => k11 = .inl u9) (fun u9 g10 => [(0, s0_.v), (2, .int .i64 0), (5, s0_.v), (6, .int .i64 (a0.length : Int)), (7, .int .i64 (i1 : Int)), (25, .bool u9)]) (fun u9 g10 => Sat w0 (keys ([] : List Ent)) A [.ro (RdS R9 (SV.v s0_) a0)]) (fun u9 g10 hq => ?_) (fun J cnk11 => ?_)
      · have hm := Sum.fin_l hq hm
        refine cj_if (b := u9) rfl (fun hb => ?_) (fun hb => ?_)
        · have hm := ifB_t hb hm
          refine cj_seq ?_
          refine cj_reg ?_
          refine lp rfl (p_as rfl) ?_
          refine lj_seq ?_
          have hm := hRk6 _ (Option.some.inj hm).symm
          obtain rfl := Option.some.inj hm
          exact cj_rt () [] Tryd.results55 (.tmp rfl .nil) rfl rfl
        · have hm := ifB_f hb hm
          refine cj_skip ?_
          refine nj_blk ?_
          exact cnk6 _ _ () () (hJk6 _ (Option.some.inj hm).symm) ⟨rfl, rfl, rfl, rfl, rfl, trivial⟩ (fun _ h => h.picks [0] rfl)
      · have hm := hk11
        refine lp rfl (p_mv rfl) ?_
        refine lp rfl (p_gtr rfl rfl) ?_
        refine lp rfl (p_mv rfl) ?_
        refine lcase (i := 17) (decide ((i1 : Int) > 0)) rfl (fun hb => ?_) (fun hb => ?_)
        · have hm := ifB_t hb hm
          refine lg true rfl rfl rfl ?_
          refine lp rfl (p_mv rfl) ?_
          refine lg true rfl rfl rfl ?_
          refine lp rfl (p_mv rfl) ?_
          refine lg true rfl rfl rfl ?_
          refine lp rfl (p_mv rfl) ?_
          refine lg true rfl rfl rfl ?_
          refine lp rfl (p_sub rfl rfl) ?_
          refine lg true rfl rfl rfl ?_
          obtain ⟨e12, he12, hm⟩ := bindS hm
          refine lp rfl (p_idx Tryd.underlying30 ty9 rfl rfl (.ro 0 rfl) he12) ?_
          refine lg true rfl rfl rfl ?_
          refine lp rfl (p_lde (o := 0) ty9 rfl rfl (.ro 0 rfl) (getI_spec he12).2 rfl) ?_
          refine lg true rfl rfl rfl ?_
          refine lp rfl (p_les rfl rfl) ?_
          refine lp rfl (p_pkt rfl rfl) ?_
          refine lj_nil ?_
          exact cnk11 _ _ (Op.bytesLess x2.toList e12.toList || x2.toList == e12.toList) () (Option.some.inj hm).symm ⟨rfl, rfl, rfl, rfl, rfl, rfl, trivial⟩ (fun _ h => h.picks [0] rfl)
        · have hm := ifB_f hb hm
          refine ls true rfl rfl rfl rfl ?_
          refine ls true rfl rfl rfl rfl ?_
          refine ls true rfl rfl rfl rfl ?_
          refine ls true rfl rfl rfl rfl ?_
          refine ls true rfl rfl rfl rfl ?_
          refine ls true rfl rfl rfl rfl ?_
          refine ls true rfl rfl rfl rfl ?_
          refine lp rfl (p_pkf rfl rfl) ?_
          refine lj_nil ?_
          exact cnk11 _ _ false () (Option.some.inj hm).symm ⟨rfl, rfl, rfl, rfl, rfl, rfl, trivial⟩ (fun _ h => h.picks [0] rfl)
end Go.Proofs.YtgjbeigeejhfkaaDoor
