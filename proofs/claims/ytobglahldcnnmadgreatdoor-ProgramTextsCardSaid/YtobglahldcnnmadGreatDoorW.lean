/- The walks. Written by program. -/
import Derived.Test.YtobglahldcnnmadGreatDoorD
import Derived.Test.YtobglahldcnnmadGreatDoorXX
namespace Go.Proofs.YtobglahldcnnmadGreatDoor
open Go Go.J Go.G
set_option maxRecDepth 100000
set_option linter.unusedVariables false
set_option linter.unusedSimpArgs false
theorem ok_gleemake_Below (a0 : Int) (a1 : Int) {r : Int} (hm : m_gleemake_Below a0 a1 = some r) :
  Ctr Tryz.prog 43 [.int .i64 a0, .int .i64 a1].toArray ([] : List Ent) [] (X := Unit) (fun _ => .int .i64 r) (fun _ => []) := by
 unfold m_gleemake_Below at hm
 refine ctr_mk (vs := [(0, .int .i64 a0), (1, .int .i64 a1)]) Tryz.func43 rfl Tryz.ntmps43 rfl ⟨rfl, rfl, trivial⟩ (fun w0 A => ?_)
 refine cj_seq ?_
 refine cj_reg ?_
 refine lp rfl (p_as rfl) ?_
 refine lj_seq ?_
 refine cj_seq ?_
 refine cj_seq ?_
 refine cj_reg ?_
 refine lp rfl (p_mv rfl) ?_
 refine lp rfl (p_lss rfl rfl) ?_
 refine lj_seq ?_
 refine cj_if (b := decide (a1 < 1)) rfl (fun hb => ?_) (fun hb => ?_)
 ·have hm := ifB_t hb hm
  refine cj_seq ?_
  refine cj_reg ?_
  refine lp rfl (p_as rfl) ?_
  refine lj_seq ?_
  obtain rfl := Option.some.inj hm
  exact cj_rt () [] Tryz.results43 (.tmp rfl .nil) rfl rfl
 ·have hm := ifB_f hb hm
  refine cj_skip ?_
  refine nj_seq ?_
  refine cj_seq ?_
  refine cj_reg ?_
  refine lp rfl (p_mv rfl) ?_
  refine lp rfl (p_mv rfl) ?_
  obtain ⟨z1, hz1, hm⟩ := bindS hm
  refine lp rfl (p_remM hz1 rfl rfl) ?_
  refine lp rfl (p_as rfl) ?_
  refine lj_seq ?_
  refine cj_seq ?_
  refine cj_seq ?_
  refine cj_reg ?_
  refine lp rfl (p_mv rfl) ?_
  refine lp rfl (p_lss rfl rfl) ?_
  refine lj_seq ?_
  refine cj_if (b := decide (z1 < 0)) rfl (fun hb => ?_) (fun hb => ?_)
  ·have hm := ifB_t hb hm
   refine cj_reg ?_
   refine lp rfl (p_mv rfl) ?_
   refine lp rfl (p_mv rfl) ?_
   refine lp rfl (p_add rfl rfl) ?_
   refine lp rfl (p_as rfl) ?_
   refine lj_seq ?_
   refine cj_seq ?_
   refine cj_reg ?_
   refine lp rfl (p_mv rfl) ?_
   refine lp rfl (p_as rfl) ?_
   refine lj_seq ?_
   obtain rfl := Option.some.inj hm
   exact cj_rt () [] Tryz.results43 (.tmp rfl .nil) rfl rfl
  ·have hm := ifB_f hb hm
   refine cj_skip ?_
   refine nj_seq ?_
   refine cj_seq ?_
   refine cj_reg ?_
   refine lp rfl (p_mv rfl) ?_
   refine lp rfl (p_as rfl) ?_
   refine lj_seq ?_
   obtain rfl := Option.some.inj hm
   exact cj_rt () [] Tryz.results43 (.tmp rfl .nil) rfl rfl
theorem ok_gleemake_Stream_Next (b0_ : Nat) (s0_0_ : SV) (a0_0 : (List Int)) (a0_1 : Int) (a1 : Int) {r : Int × Int} (hm : m_gleemake_Stream_Next a0_0 a0_1 a1 = some r) :
  Ctr Tryz.prog 15 [.pointer (some ⟨b0_, 0, none⟩), .int .i64 a1].toArray [.box b0_ 25 [s0_0_.v, .int .i64 a0_1]] [RdS R3 (SV.v s0_0_) a0_0] (X := Unit) (fun _ => .int .i64 r.1) (fun _ => [.box b0_ 25 [s0_0_.v, .int .i64 r.2]]) := by
 unfold m_gleemake_Stream_Next at hm
 refine ctr_mk (vs := [(0, .pointer (some ⟨b0_, 0, none⟩)), (1, .int .i64 a1)]) Tryz.func15 rfl Tryz.ntmps15 rfl ⟨rfl, rfl, trivial⟩ (fun w0 A => ?_)
 refine cj_seq ?_
 refine cj_reg ?_
 refine lp rfl (p_as rfl) ?_
 refine lj_seq ?_
 refine cj_seq ?_
 refine cj_reg ?_
 refine lp rfl (p_mv rfl) ?_
 refine lp rfl (p_nc rfl) ?_
 refine lp rfl (p_fab fl25_1 rfl) ?_
 refine lp rfl (p_lbs ty3 rfl (j := 0) rfl rfl) ?_
 refine lp rfl (p_add rfl rfl) ?_
 refine lp rfl (p_nc rfl) ?_
 refine lp rfl (p_fab fl25_1 rfl) ?_
 refine r_sb (vs := [.int .i64 (w64 (a0_1 + 1))]) (j := 0) ty3 rfl rfl rfl rfl rfl rfl rfl ?_
 refine lj_seq ?_
 refine cj_seq ?_
 refine cj_seq ?_
 refine cj_reg ?_
 refine lp rfl (p_mv rfl) ?_
 refine lp rfl (p_nc rfl) ?_
 refine lp rfl (p_fab fl25_0 rfl) ?_
 refine lp rfl (p_lbs ty22 rfl (j := 0) rfl rfl) ?_
 refine lp rfl (p_len Tryz.underlying22 rfl (.ro 1 rfl)) ?_
 refine lp rfl (p_eql rfl rfl) ?_
 refine lj_seq ?_
 refine cj_if (b := (a0_0.length : Int) == 0) rfl (fun hb => ?_) (fun hb => ?_)
 ·have hm := ifB_t hb hm
  refine cj_seq ?_
  refine cj_reg ?_
  refine lp rfl (p_mv rfl) ?_
  refine lp rfl (p_nc rfl) ?_
  refine lp rfl (p_fab fl25_1 rfl) ?_
  refine lp rfl (p_lbs ty3 rfl (j := 0) rfl rfl) ?_
  refine lp rfl (p_mul rfl rfl) ?_
  refine lp rfl (p_mv rfl) ?_
  obtain ⟨y1, hy1, hm⟩ := bindS hm
  refine r_call [] cf43 rfl rfl (ok_gleemake_Below (w64 ((w64 (a0_1 + 1)) * 7919)) a1 hy1) rfl rfl .nil (fun _ => rfl) rfl (fun _ => ?_)
  refine lp rfl (p_as rfl) ?_
  refine lj_seq ?_
  obtain rfl := Option.some.inj hm
  exact cj_rt () [0] Tryz.results15 (.tmp rfl .nil) rfl rfl
 ·have hm := ifB_f hb hm
  refine cj_skip ?_
  refine nj_seq ?_
  refine cj_seq ?_
  refine cj_quiet (by kernel_rfl) (by kernel_rfl) ?_
  refine q_p rfl (p_mv rfl) ?_
  refine q_p rfl (p_nc rfl) ?_
  refine q_p rfl (p_fab fl25_1 rfl) ?_
  refine q_p rfl (p_lbs ty3 rfl (j := 0) rfl rfl) ?_
  refine q_p rfl (p_sub rfl rfl) ?_
  refine q_p rfl (p_mv rfl) ?_
  refine q_p rfl (p_nc rfl) ?_
  refine q_p rfl (p_fab fl25_0 rfl) ?_
  refine q_p rfl (p_lbs ty22 rfl (j := 0) rfl rfl) ?_
  refine q_p rfl (p_len Tryz.underlying22 rfl (.ro 1 rfl)) ?_
  obtain ⟨z2, hz2, hm⟩ := bindS hm
  refine q_p rfl (p_remM hz2 rfl rfl) ?_
  refine q_p rfl (p_as rfl) ?_
  refine q_nil ?_
  refine nj_seq ?_
  refine cj_seq ?_
  refine cj_quiet (by kernel_rfl) (by kernel_rfl) ?_
  refine q_p rfl (p_mv rfl) ?_
  refine q_p rfl (p_nc rfl) ?_
  refine q_p rfl (p_fab fl25_1 rfl) ?_
  refine q_p rfl (p_lbs ty3 rfl (j := 0) rfl rfl) ?_
  refine q_p rfl (p_sub rfl rfl) ?_
  refine q_p rfl (p_mv rfl) ?_
  refine q_p rfl (p_nc rfl) ?_
  refine q_p rfl (p_fab fl25_0 rfl) ?_
  refine q_p rfl (p_lbs ty22 rfl (j := 0) rfl rfl) ?_
  refine q_p rfl (p_len Tryz.underlying22 rfl (.ro 1 rfl)) ?_
  obtain ⟨z3, hz3, hm⟩ := bindS hm
  refine q_p rfl (p_quoM hz3 rfl rfl) ?_
  refine q_p rfl (p_as rfl) ?_
  refine q_nil ?_
  refine nj_seq ?_
  refine cj_seq ?_
  refine cj_reg ?_
  refine lp rfl (p_mv rfl) ?_
  refine lp rfl (p_nc rfl) ?_
  refine lp rfl (p_fab fl25_0 rfl) ?_
  refine lp rfl (p_lbs ty22 rfl (j := 0) rfl rfl) ?_
  refine lp rfl (p_mv rfl) ?_
  obtain ⟨e4, he4, hm⟩ := bindS hm
  refine lp rfl (p_idx Tryz.underlying22 ty3 rfl rfl (.ro 1 rfl) he4) ?_
  refine lp rfl (p_lde (o := 0) ty3 rfl rfl (.ro 1 rfl) (getI_spec he4).2 rfl) ?_
  obtain ⟨y5, hy5, hm⟩ := bindS hm
  refine r_call [] cf43 rfl rfl (ok_gleemake_Below e4 1073741824 hy5) rfl rfl .nil (fun _ => rfl) rfl (fun _ => ?_)
  refine lp rfl (p_mv rfl) ?_
  refine lp rfl (p_mv rfl) ?_
  refine lp rfl (p_add rfl rfl) ?_
  refine lp rfl (p_mul rfl rfl) ?_
  refine lp rfl (p_add rfl rfl) ?_
  refine lp rfl (p_mv rfl) ?_
  obtain ⟨y6, hy6, hm⟩ := bindS hm
  refine r_call [] cf43 rfl rfl (ok_gleemake_Below (w64 (y5 + (w64 (z3 * (w64 (7919 + z2)))))) a1 hy6) rfl rfl .nil (fun _ => rfl) rfl (fun _ => ?_)
  refine lp rfl (p_as rfl) ?_
  refine lj_seq ?_
  obtain rfl := Option.some.inj hm
  exact cj_rt () [0] Tryz.results15 (.tmp rfl .nil) rfl rfl
theorem ok_gleemake_Stream_Pick (b0_ : Nat) (s0_0_ : SV) (a0_0 : (List Int)) (a0_1 : Int) (s1_ : SV) (a1 : (List Int)) {r : Int × Int} (hm : m_gleemake_Stream_Pick a0_0 a0_1 a1 = some r) :
  Ctr Tryz.prog 19 [.pointer (some ⟨b0_, 0, none⟩), s1_.v].toArray [.box b0_ 25 [s0_0_.v, .int .i64 a0_1]] [RdS R3 (SV.v s0_0_) a0_0, RdS R3 (SV.v s1_) a1] (X := Unit) (fun _ => .int .i64 r.1) (fun _ => [.box b0_ 25 [s0_0_.v, .int .i64 r.2]]) := by
 unfold m_gleemake_Stream_Pick at hm
 refine ctr_mk (vs := [(0, .pointer (some ⟨b0_, 0, none⟩)), (1, s1_.v)]) Tryz.func19 rfl Tryz.ntmps19 rfl ⟨rfl, rfl, trivial⟩ (fun w0 A => ?_)
 refine cj_seq ?_
 refine cj_reg ?_
 refine lp rfl (p_as rfl) ?_
 refine lj_seq ?_
 refine cj_seq ?_
 refine cj_reg ?_
 refine lp rfl (p_mv rfl) ?_
 refine lp rfl (p_mv rfl) ?_
 refine lp rfl (p_mv rfl) ?_
 refine lp rfl (p_len Tryz.underlying22 rfl (.ro 2 rfl)) ?_
 obtain ⟨y1, hy1, hm⟩ := bindS hm
 refine r_call [0] cf15 rfl rfl (ok_gleemake_Stream_Next b0_ s0_0_ a0_0 a0_1 (a1.length : Int) hy1) rfl rfl (.cons (.ro 0 rfl) .nil) (fun _ => rfl) rfl (fun _ => ?_)
 obtain ⟨e2, he2, hm⟩ := bindS hm
 refine lp rfl (p_idx Tryz.underlying22 ty3 rfl rfl (.ro 2 rfl) he2) ?_
 refine lp rfl (p_lde (o := 0) ty3 rfl rfl (.ro 2 rfl) (getI_spec he2).2 rfl) ?_
 refine lp rfl (p_as rfl) ?_
 refine lj_seq ?_
 obtain rfl := Option.some.inj hm
 exact cj_rt () [0] Tryz.results19 (.tmp rfl .nil) rfl rfl
theorem ok_gleemake_Stream_Flip (b0_ : Nat) (s0_0_ : SV) (a0_0 : (List Int)) (a0_1 : Int) (a1 : Int) {r : Bool × Int} (hm : m_gleemake_Stream_Flip a0_0 a0_1 a1 = some r) :
  Ctr Tryz.prog 14 [.pointer (some ⟨b0_, 0, none⟩), .int .i64 a1].toArray [.box b0_ 25 [s0_0_.v, .int .i64 a0_1]] [RdS R3 (SV.v s0_0_) a0_0] (X := Unit) (fun _ => .bool r.1) (fun _ => [.box b0_ 25 [s0_0_.v, .int .i64 r.2]]) := by
 unfold m_gleemake_Stream_Flip at hm
 refine ctr_mk (vs := [(0, .pointer (some ⟨b0_, 0, none⟩)), (1, .int .i64 a1)]) Tryz.func14 rfl Tryz.ntmps14 rfl ⟨rfl, rfl, trivial⟩ (fun w0 A => ?_)
 refine cj_seq ?_
 refine cj_reg ?_
 refine lp rfl (p_as rfl) ?_
 refine lj_seq ?_
 refine cj_seq ?_
 refine cj_reg ?_
 refine lp rfl (p_mv rfl) ?_
 refine lp rfl (p_mv rfl) ?_
 obtain ⟨y1, hy1, hm⟩ := bindS hm
 refine r_call [0] cf15 rfl rfl (ok_gleemake_Stream_Next b0_ s0_0_ a0_0 a0_1 a1 hy1) rfl rfl (.cons (.ro 0 rfl) .nil) (fun _ => rfl) rfl (fun _ => ?_)
 refine lp rfl (p_eql rfl rfl) ?_
 refine lp rfl (p_as rfl) ?_
 refine lj_seq ?_
 obtain rfl := Option.some.inj hm
 exact cj_rt () [0] Tryz.results14 (.tmp rfl .nil) rfl rfl
theorem ok_gleemake_Stream_Some (b0_ : Nat) (s0_0_ : SV) (a0_0 : (List Int)) (a0_1 : Int) (s1_ : SV) (a1 : (List ByteArray)) {r : ByteArray × Int} (hm : m_gleemake_Stream_Some a0_0 a0_1 a1 = some r) :
  Ctr Tryz.prog 17 [.pointer (some ⟨b0_, 0, none⟩), s1_.v].toArray [.box b0_ 25 [s0_0_.v, .int .i64 a0_1]] [RdS R3 (SV.v s0_0_) a0_0, RdS R9 (SV.v s1_) a1] (X := Unit) (fun _ => .string r.1) (fun _ => [.box b0_ 25 [s0_0_.v, .int .i64 r.2]]) := by
 unfold m_gleemake_Stream_Some at hm
 refine ctr_mk (vs := [(0, .pointer (some ⟨b0_, 0, none⟩)), (1, s1_.v)]) Tryz.func17 rfl Tryz.ntmps17 rfl ⟨rfl, rfl, trivial⟩ (fun w0 A => ?_)
 refine cj_seq ?_
 refine cj_reg ?_
 refine lp rfl (p_as rfl) ?_
 refine lj_seq ?_
 refine cj_seq ?_
 refine cj_reg ?_
 refine lp rfl (p_mv rfl) ?_
 refine lp rfl (p_mv rfl) ?_
 refine lp rfl (p_mv rfl) ?_
 refine lp rfl (p_len Tryz.underlying45 rfl (.ro 2 rfl)) ?_
 obtain ⟨y1, hy1, hm⟩ := bindS hm
 refine r_call [0] cf15 rfl rfl (ok_gleemake_Stream_Next b0_ s0_0_ a0_0 a0_1 (a1.length : Int) hy1) rfl rfl (.cons (.ro 0 rfl) .nil) (fun _ => rfl) rfl (fun _ => ?_)
 obtain ⟨e2, he2, hm⟩ := bindS hm
 refine lp rfl (p_idx Tryz.underlying45 ty9 rfl rfl (.ro 2 rfl) he2) ?_
 refine lp rfl (p_lde (o := 0) ty9 rfl rfl (.ro 2 rfl) (getI_spec he2).2 rfl) ?_
 refine lp rfl (p_as rfl) ?_
 refine lj_seq ?_
 obtain rfl := Option.some.inj hm
 exact cj_rt () [0] Tryz.results17 (.tmp rfl .nil) rfl rfl
theorem ok_gleemake_Stream_RightProgram (b0_ : Nat) (s0_0_ : SV) (a0_0 : (List Int)) (a0_1 : Int) (a1 : Int) {r : TProgram × Int} (hm : m_gleemake_Stream_RightProgram a0_0 a0_1 a1 = some r) :
  Ctr Tryz.prog 13 [.pointer (some ⟨b0_, 0, none⟩), .int .i64 a1].toArray [.box b0_ 25 [s0_0_.v, .int .i64 a0_1]] [RdS R3 (SV.v s0_0_) a0_0] (X := (SV × List (TItem × SV))) (fun s => .agg [s.1.v, .int .i64 r.1.Change, .int .i64 r.1.Clap, .int .i64 r.1.Break, .int .i64 r.1.Half].toArray) (fun s => [.row N47.R (SV.v s.1) s.2, .ro (Lk N47 r.1.Items s.2), .box b0_ 25 [s0_0_.v, .int .i64 r.2]]) := by
 unfold m_gleemake_Stream_RightProgram at hm
 refine ctr_mk (vs := [(0, .pointer (some ⟨b0_, 0, none⟩)), (1, .int .i64 a1)]) Tryz.func13 rfl Tryz.ntmps13 rfl ⟨rfl, rfl, trivial⟩ (fun w0 A => ?_)
 refine cj_seq ?_
 refine cj_reg ?_
 refine r_al ty28 rfl (fun b1 => ?_)
 refine lj_seq ?_
 refine cj_seq ?_
 refine cj_reg ?_
 refine lp rfl (p_mv rfl) ?_
 refine r_bs R3 [0, 30, 50] rfl rfl rfl (fun _ => by kernel_rfl) rfl (fun s2 => ?_)
 obtain ⟨y3, hy3, hm⟩ := bindS hm
 refine r_call [2] cf19 rfl rfl (ok_gleemake_Stream_Pick b0_ s0_0_ a0_0 a0_1 s2 [0, 30, 50] hy3) rfl rfl (.cons (.ro 2 rfl) (.cons (.row 0 rfl) .nil)) (fun _ => rfl) rfl (fun _ => ?_)
 refine lp rfl (p_mv rfl) ?_
 refine r_bs R3 [0, 10, 30] rfl rfl rfl (fun _ => by kernel_rfl) rfl (fun s4 => ?_)
 obtain ⟨y5, hy5, hm⟩ := bindS hm
 refine r_call [1] cf19 rfl rfl (ok_gleemake_Stream_Pick b0_ s0_0_ a0_0 y3.2 s4 [0, 10, 30] hy5) rfl rfl (.cons (.ro 3 rfl) (.cons (.row 0 rfl) .nil)) (fun _ => rfl) rfl (fun _ => ?_)
 refine lp rfl (p_mv rfl) ?_
 refine r_bs R3 [0, 100] rfl rfl rfl (fun _ => by kernel_rfl) rfl (fun s6 => ?_)
 obtain ⟨y7, hy7, hm⟩ := bindS hm
 refine r_call [1] cf19 rfl rfl (ok_gleemake_Stream_Pick b0_ s0_0_ a0_0 y5.2 s6 [0, 100] hy7) rfl rfl (.cons (.ro 4 rfl) (.cons (.row 0 rfl) .nil)) (fun _ => rfl) rfl (fun _ => ?_)
 refine lp rfl (p_bld [.slice none 0 0, .int .i64 y3.1, .int .i64 y5.1, .int .i64 y7.1, .int .i64 (-1)] rfl (fun _ => by kernel_rfl)) ?_
 refine r_al ty28 rfl (fun b8 => ?_)
 refine r_sb (vs := [.slice none 0 0, .int .i64 y3.1, .int .i64 y5.1, .int .i64 y7.1, .int .i64 (-1)]) (j := 0) ty28 rfl rfl rfl rfl rfl rfl rfl ?_
 refine lj_seq ?_
 refine cj_seq ?_
 refine cj_seq ?_
 refine cj_reg ?_
 refine r_bs R9 [(ByteArray.mk [99].toArray), (ByteArray.mk [97].toArray), (ByteArray.mk [100].toArray), (ByteArray.mk [98].toArray), (ByteArray.mk [101].toArray)] rfl rfl rfl (fun _ => by kernel_rfl) rfl (fun s9 => ?_)
 refine lp rfl (p_mv rfl) ?_
 obtain ⟨q10, hq10, hm⟩ := bindS hm
 refine lp rfl (p_cut Tryz.underlying45 ty9 rfl rfl rfl rfl rfl (.row 0 rfl) rfl rfl hq10) ?_
 refine lp rfl (p_len Tryz.underlying45 rfl (.imp (.row 0 rfl) (fun _ h => h.cut hq10))) ?_
 refine lp rfl (p_mv rfl) ?_
 refine lj_seq ?_
 refine cj_fact (F := Lk N47 [] []) (.nilL N47) ?_
 refine cj_nil N47.R ?_
 obtain ⟨f18, hf18, hm⟩ := bindS hm
 refine cj_range (γ := (SV × List (TItem × SV))) (m := (q10.length : Int)) hf18 (nilS, []) (fun u15 g16 => [(0, .pointer (some ⟨b0_, 0, none⟩)), (4, .pointer (some ⟨b1, 0, none⟩)), (5, .pointer (some ⟨b8, 0, none⟩)), (23, (s9.sub R9.sz (0 : Int).toNat a1.toNat).v)]) (fun u15 g16 => Sat w0 (keys [.box b0_ 25 [s0_0_.v, .int .i64 a0_1]]) A [.row R9 (SV.v s9) [(ByteArray.mk [99].toArray), (ByteArray.mk [97].toArray), (ByteArray.mk [100].toArray), (ByteArray.mk [98].toArray), (ByteArray.mk [101].toArray)], .box b8 28 [g16.1.v, .int .i64 y3.1, .int .i64 y5.1, .int .i64 y7.1, .int .i64 (-1)], .box b0_ 25 [s0_0_.v, .int .i64 u15.1], .box b1 28 [.slice none 0 0, .int .i64 0, .int .i64 0, .int .i64 0, .int .i64 0], .ro (RdS R3 (SV.v s0_0_) a0_0), .row N47.R (SV.v g16.1) g16.2, .ro (Lk N47 u15.2 g16.2)]) ⟨rfl, rfl, rfl, rfl, rfl, rfl, trivial⟩ (fun _ h => h.picks [2, 2, 2, 5, 5, 0, 0] rfl) (nat_lt _) (fun _ h => (FactAt.get (F := RdS R9 (SV.v (s9.sub R9.sz (0 : Int).toNat a1.toNat)) q10) (.imp (.row 2 rfl) (fun _ h => h.cut hq10)) h).1) (fun _ _ => ⟨rfl, rfl, rfl, rfl⟩) ⟨rfl, rfl, rfl, rfl, rfl⟩ rfl rfl rfl (fun u15 g16 e => ?_) (fun aftk17 i11 x12 u15 g16 k17 hx13 hs J hJk17 hBk17 hX I cnk17 => ?_)
 ·have hm := Flow.fin_b e hm
  refine nj_pure (F := Lk N47 u15.2 g16.2) (.ro 6 rfl) (fun _ h => h.1) (fun hLu15_K50 => ?_)
  refine nj_seq ?_
  refine cj_seq ?_
  refine cj_seq ?_
  refine cj_reg ?_
  obtain ⟨k53, hk53, hm⟩ := bindS hm
  have hRk53 : ∀ t, k53 = .inr t → some t = some r := fun t e => by rw [e] at hm; exact hm
  refine lj_join (σ := (Bool × Int)) (γ := Unit) (fun u51 => k53 = .inl u51) (fun u51 g52 => [(0, .pointer (some ⟨b0_, 0, none⟩)), (4, .pointer (some ⟨b1, 0, none⟩)), (5, .pointer (some ⟨b8, 0, none⟩)), (74, .bool u51.1)]) (fun u51 g52 => Sat w0 (keys [.box b0_ 25 [s0_0_.v, .int .i64 a0_1]]) A [.box b8 28 [g16.1.v, .int .i64 y3.1, .int .i64 y5.1, .int .i64 y7.1, .int .i64 (-1)], .box b0_ 25 [s0_0_.v, .int .i64 u51.2], .box b1 28 [.slice none 0 0, .int .i64 0, .int .i64 0, .int .i64 0, .int .i64 0], .ro (RdS R3 (SV.v s0_0_) a0_0), .row N47.R (SV.v g16.1) g16.2, .ro (Lk N47 u15.2 g16.2)]) (fun u51 g52 hq => ?_) (fun J cnk53 => ?_)
  ·have hm := Sum.fin_l hq hm
   refine cj_if (b := u51.1) rfl (fun hb => ?_) (fun hb => ?_)
   ·have hm := ifB_t hb hm
    refine cj_reg ?_
    refine lp rfl (p_mv rfl) ?_
    refine lp rfl (p_fab fl28_0 rfl) ?_
    refine lp rfl (p_lbs ty26 rfl (j := 0) rfl rfl) ?_
    refine lp rfl (p_lenG hLu15_K50 Tryz.underlying26 rfl (.row 4 rfl)) ?_
    refine lp rfl (p_sub rfl rfl) ?_
    obtain ⟨y55, hy55, hm⟩ := bindS hm
    refine r_call [1] cf15 rfl rfl (ok_gleemake_Stream_Next b0_ s0_0_ a0_0 u51.2 (w64 ((u15.2.length : Int) - 1)) hy55) rfl rfl (.cons (.ro 2 rfl) .nil) (fun _ => rfl) rfl (fun _ => ?_)
    refine lp rfl (p_fab fl28_4 rfl) ?_
    refine r_sb (vs := [.int .i64 y55.1]) (j := 1) ty3 rfl rfl rfl rfl rfl rfl rfl ?_
    refine lj_seq ?_
    refine cj_seq ?_
    refine cj_reg ?_
    refine lp rfl (p_lbw ty28 rfl (j := 1) rfl rfl) ?_
    refine r_sb (vs := [g16.1.v, .int .i64 y3.1, .int .i64 y5.1, .int .i64 y7.1, .int .i64 y55.1]) (j := 2) ty28 rfl rfl rfl rfl rfl rfl rfl ?_
    refine lj_seq ?_
    obtain rfl := Option.some.inj hm
    exact cj_rt (g16.1, g16.2) [4, 4, 0] Tryz.results13 (.agg (k := 2) ty28 rfl rfl rfl .nil) rfl rfl
   ·have hm := ifB_f hb hm
    refine cj_skip ?_
    refine nj_seq ?_
    refine cj_seq ?_
    refine cj_reg ?_
    refine lp rfl (p_lbw ty28 rfl (j := 0) rfl rfl) ?_
    refine r_sb (vs := [g16.1.v, .int .i64 y3.1, .int .i64 y5.1, .int .i64 y7.1, .int .i64 (-1)]) (j := 2) ty28 rfl rfl rfl rfl rfl rfl rfl ?_
    refine lj_seq ?_
    obtain rfl := Option.some.inj hm
    exact cj_rt (g16.1, g16.2) [4, 4, 1] Tryz.results13 (.agg (k := 2) ty28 rfl rfl rfl .nil) rfl rfl
  ·have hm := hk53
   refine lp rfl (p_fab fl28_0 rfl) ?_
   refine lp rfl (p_lbs ty26 rfl (j := 1) rfl rfl) ?_
   refine lp rfl (p_lenG hLu15_K50 Tryz.underlying26 rfl (.row 5 rfl)) ?_
   refine lp rfl (p_gtr rfl rfl) ?_
   refine lp rfl (p_mv rfl) ?_
   refine lcase (i := 71) (decide ((u15.2.length : Int) > 1)) rfl (fun hb => ?_) (fun hb => ?_)
   ·have hm := ifB_t hb hm
    refine lg true rfl rfl rfl ?_
    refine lp rfl (p_mv rfl) ?_
    refine lg true rfl rfl rfl ?_
    obtain ⟨y54, hy54, hm⟩ := bindS hm
    refine r_call [2] cf14 rfl rfl (ok_gleemake_Stream_Flip b0_ s0_0_ a0_0 u15.1 2 hy54) rfl rfl (.cons (.ro 3 rfl) .nil) (fun _ => rfl) rfl (fun _ => ?_)
    refine lp rfl (p_pkt rfl rfl) ?_
    refine lj_nil ?_
    exact cnk53 _ _ (y54.1, y54.2) () (Option.some.inj hm).symm ⟨rfl, rfl, rfl, rfl, trivial⟩ (fun _ h => h.picks [2, 0, 1, 1, 1, 1] rfl)
   ·have hm := ifB_f hb hm
    refine ls true rfl rfl rfl rfl ?_
    refine ls true rfl rfl rfl rfl ?_
    refine lp rfl (p_pkf rfl rfl) ?_
    refine lj_nil ?_
    exact cnk53 _ _ (false, u15.1) () (Option.some.inj hm).symm ⟨rfl, rfl, rfl, rfl, trivial⟩ (fun _ h => h.picks [1, 1, 1, 1, 1, 1] rfl)
 ·have hRk17 : ∀ t, k17 = .ret t → some t = some r := fun t e => by rw [hX t e] at hm; exact hm
  have hm := hs
  refine cj_pure (F := Lk N47 u15.2 g16.2) (.ro 6 rfl) (fun _ h => h.1) (fun hLu15_K19 => ?_)
  refine cj_seq ?_
  refine cj_reg ?_
  refine lp rfl (p_idx Tryz.underlying45 ty9 rfl rfl (.imp (.row 0 rfl) (fun _ h => h.cut hq10)) (getI_nat.trans hx13)) ?_
  refine lp rfl (p_lde (o := 0) ty9 rfl rfl (.imp (.row 0 rfl) (fun _ h => h.cut hq10)) hx13 rfl) ?_
  refine lp rfl (p_as rfl) ?_
  refine lj_seq ?_
  refine cj_seq ?_
  refine cj_seq ?_
  refine cj_reg ?_
  refine lp rfl (p_mv rfl) ?_
  obtain ⟨y20, hy20, hm⟩ := bindS hm
  refine r_call [2] cf14 rfl rfl (ok_gleemake_Stream_Flip b0_ s0_0_ a0_0 u15.1 6 hy20) rfl rfl (.cons (.ro 3 rfl) .nil) (fun _ => rfl) rfl (fun _ => ?_)
  refine lj_seq ?_
  refine cj_if (b := y20.1) rfl (fun hb => ?_) (fun hb => ?_)
  ·have hm := ifB_t hb hm
   refine cj_exit rfl ?_
   exact cnk17 _ _ (y20.2, u15.2) (g16.1, g16.2) (hJk17 _ (Option.some.inj hm).symm) ⟨rfl, rfl, rfl, rfl, rfl, rfl, trivial⟩ (fun _ h => h.picks [1, 1, 0, 0, 0, 0, 0] rfl)
  ·have hm := ifB_f hb hm
   refine cj_skip ?_
   refine nj_seq ?_
   refine cj_seq ?_
   refine cj_reg ?_
   refine lp rfl (p_mv rfl) ?_
   refine lp rfl (p_mv rfl) ?_
   refine r_bs R9 [(ByteArray.mk [114, 111, 119, 115].toArray), (ByteArray.mk [114, 111, 119, 115].toArray), (ByteArray.mk [99, 105, 114, 99, 108, 101].toArray)] rfl rfl rfl (fun _ => by kernel_rfl) rfl (fun s21 => ?_)
   obtain ⟨y22, hy22, hm⟩ := bindS hm
   refine r_call [1] cf17 rfl rfl (ok_gleemake_Stream_Some b0_ s0_0_ a0_0 y20.2 s21 [(ByteArray.mk [114, 111, 119, 115].toArray), (ByteArray.mk [114, 111, 119, 115].toArray), (ByteArray.mk [99, 105, 114, 99, 108, 101].toArray)] hy22) rfl rfl (.cons (.ro 4 rfl) (.cons (.row 0 rfl) .nil)) (fun _ => rfl) rfl (fun _ => ?_)
   refine lp rfl (p_mv rfl) ?_
   refine r_bs R3 [50, 100, 100, 200] rfl rfl rfl (fun _ => by kernel_rfl) rfl (fun s23 => ?_)
   obtain ⟨y24, hy24, hm⟩ := bindS hm
   refine r_call [1] cf19 rfl rfl (ok_gleemake_Stream_Pick b0_ s0_0_ a0_0 y22.2 s23 [50, 100, 100, 200] hy24) rfl rfl (.cons (.ro 5 rfl) (.cons (.row 0 rfl) .nil)) (fun _ => rfl) rfl (fun _ => ?_)
   refine lp rfl (p_bld [.string x12, .string y22.1, .int .i64 y24.1, .slice none 0 0] rfl (fun _ => by kernel_rfl)) ?_
   refine r_al ty47 rfl (fun b25 => ?_)
   refine r_sb (vs := [.string x12, .string y22.1, .int .i64 y24.1, .slice none 0 0]) (j := 0) ty47 rfl rfl rfl rfl rfl rfl rfl ?_
   refine lj_seq ?_
   refine cj_seq ?_
   refine cj_seq ?_
   refine cj_reg ?_
   refine r_bs R9 [(ByteArray.mk [97, 108, 116, 111].toArray), (ByteArray.mk [98, 97, 115, 115].toArray), (ByteArray.mk [115, 111, 108, 105].toArray)] rfl rfl rfl (fun _ => by kernel_rfl) rfl (fun s26 => ?_)
   refine lp rfl (p_len Tryz.underlying45 rfl (.row 0 rfl)) ?_
   refine lp rfl (p_mv rfl) ?_
   refine lj_seq ?_
   refine cj_nil R9 ?_
   obtain ⟨f34, hf34, hm⟩ := bindS hm
   refine cj_range (γ := SV) (m := ([(ByteArray.mk [97, 108, 116, 111].toArray), (ByteArray.mk [98, 97, 115, 115].toArray), (ByteArray.mk [115, 111, 108, 105].toArray)].length : Int)) hf34 nilS (fun u31 g32 => [(0, .pointer (some ⟨b0_, 0, none⟩)), (4, .pointer (some ⟨b1, 0, none⟩)), (5, .pointer (some ⟨b8, 0, none⟩)), (8, .pointer (some ⟨b25, 0, none⟩)), (23, (s9.sub R9.sz (0 : Int).toNat a1.toNat).v), (24, .int .i64 (q10.length : Int)), (25, .int .i64 (i11 : Int)), (39, s26.v)]) (fun u31 g32 => Sat w0 (keys [.box b0_ 25 [s0_0_.v, .int .i64 a0_1]]) A [.row R9 (SV.v s26) [(ByteArray.mk [97, 108, 116, 111].toArray), (ByteArray.mk [98, 97, 115, 115].toArray), (ByteArray.mk [115, 111, 108, 105].toArray)], .box b25 47 [.string x12, .string y22.1, .int .i64 y24.1, g32.v], .box b0_ 25 [s0_0_.v, .int .i64 u31.1], .row R9 (SV.v s9) [(ByteArray.mk [99].toArray), (ByteArray.mk [97].toArray), (ByteArray.mk [100].toArray), (ByteArray.mk [98].toArray), (ByteArray.mk [101].toArray)], .box b8 28 [g16.1.v, .int .i64 y3.1, .int .i64 y5.1, .int .i64 y7.1, .int .i64 (-1)], .box b1 28 [.slice none 0 0, .int .i64 0, .int .i64 0, .int .i64 0, .int .i64 0], .ro (RdS R3 (SV.v s0_0_) a0_0), .row N47.R (SV.v g16.1) g16.2, .ro (Lk N47 u15.2 g16.2), .row R9 (SV.v g32) u31.2]) ⟨rfl, rfl, rfl, rfl, rfl, rfl, rfl, rfl, rfl, rfl, trivial⟩ (fun _ h => h.picks [1, 1, 1, 3, 3, 3, 3, 3, 3, 0] rfl) (nat_lt _) (fun _ h => (FactAt.get (F := RdS R9 (SV.v s26) [(ByteArray.mk [97, 108, 116, 111].toArray), (ByteArray.mk [98, 97, 115, 115].toArray), (ByteArray.mk [115, 111, 108, 105].toArray)]) (.row 1 rfl) h).1) (fun _ _ => ⟨rfl, rfl, rfl, rfl⟩) ⟨rfl, rfl, rfl, rfl, rfl⟩ rfl rfl rfl (fun u31 g32 e => ?_) (fun aftk33 i27 x28 u31 g32 k33 hx29 hs J hJk33 hBk33 hX I cnk33 => ?_)
   ·have hm := Flow.fin_b e hm
    refine nj_seq ?_
    refine cj_seq ?_
    refine cj_seq ?_
    refine cj_reg ?_
    refine lp rfl (p_fab fl47_3 rfl) ?_
    refine lp rfl (p_lbs ty45 rfl (j := 1) rfl rfl) ?_
    refine lp rfl (p_len Tryz.underlying45 rfl (.row 9 rfl)) ?_
    refine lp rfl (p_eql rfl rfl) ?_
    refine lj_seq ?_
    obtain ⟨k44, hk44, hm⟩ := bindS hm
    have hRk44 : ∀ t, k44 = .inr t → some t = some k17 := fun t e => by rw [e] at hm; exact hm
    refine cj_joinK (σ := (List ByteArray)) (γ := SV) (fun u41 => k44 = .inl u41) (fun u41 g42 => [(0, .pointer (some ⟨b0_, 0, none⟩)), (4, .pointer (some ⟨b1, 0, none⟩)), (5, .pointer (some ⟨b8, 0, none⟩)), (8, .pointer (some ⟨b25, 0, none⟩)), (23, (s9.sub R9.sz (0 : Int).toNat a1.toNat).v), (24, .int .i64 (q10.length : Int)), (25, .int .i64 (i11 : Int))]) (fun u41 g42 => Sat w0 (keys [.box b0_ 25 [s0_0_.v, .int .i64 a0_1]]) A [.box b25 47 [.string x12, .string y22.1, .int .i64 y24.1, g42.v], .box b0_ 25 [s0_0_.v, .int .i64 u31.1], .row R9 (SV.v s9) [(ByteArray.mk [99].toArray), (ByteArray.mk [97].toArray), (ByteArray.mk [100].toArray), (ByteArray.mk [98].toArray), (ByteArray.mk [101].toArray)], .box b8 28 [g16.1.v, .int .i64 y3.1, .int .i64 y5.1, .int .i64 y7.1, .int .i64 (-1)], .box b1 28 [.slice none 0 0, .int .i64 0, .int .i64 0, .int .i64 0, .int .i64 0], .ro (RdS R3 (SV.v s0_0_) a0_0), .row N47.R (SV.v g16.1) g16.2, .ro (Lk N47 u15.2 g16.2), .row R9 (SV.v g42) u41]) (fun u41 g42 hq => ?_) (fun J cnk44 => ?_)
    ·have hm := Sum.fin_l hq hm
     refine cj_reg ?_
     refine lp rfl (p_fab fl28_0 rfl) ?_
     refine lp rfl (p_lbs ty26 rfl (j := 3) rfl rfl) ?_
     refine lp rfl (p_lbw ty47 rfl (j := 0) rfl rfl) ?_
     refine r_fz 8 rfl ?_
     refine r_fact (F := Lk N47 [(TItem.mk x12 y22.1 y24.1 u41)] [((TItem.mk x12 y22.1 y24.1 u41), g42)]) (.imp (.and (.ro 0 rfl) (.nilL N47)) (fun _ h => Lk.cons h.1 h.2)) ?_
     have hLs46 : (([((TItem.mk x12 y22.1 y24.1 u41), g42)] : List (TItem × SV)).map Prod.fst) = ([(TItem.mk x12 y22.1 y24.1 u41)] : List TItem) := rfl
     refine r_bs N47.R [((TItem.mk x12 y22.1 y24.1 u41), g42)] rfl rfl rfl (fun _ => by kernel_rfl) rfl (fun s46 => ?_)
     obtain ⟨q47, hq47, hm⟩ := bindS hm
     refine r_fact (F := Lk N47 q47 (g16.2 ++ [((TItem.mk x12 y22.1 y24.1 u41), g42)])) (.imp (.and (.ro 10 rfl) (.ro 1 rfl)) (fun _ h => Lk.app hq47 h.1 h.2)) ?_
     refine r_app (k := 10) Tryz.underlying26 ty47 rfl rfl rfl rfl (.row 1 rfl) (lk_app hq47 hLu15_K19 hLs46) rfl (fun s48 => ?_)
     refine lp rfl (p_fab fl28_0 rfl) ?_
     refine r_sb (vs := [s48.v]) (j := 7) ty26 rfl rfl rfl rfl rfl rfl rfl ?_
     refine lj_nil ?_
     refine nj_blk ?_
     exact cnk17 _ _ (u31.1, q47) (s48, (g16.2 ++ [((TItem.mk x12 y22.1 y24.1 u41), g42)])) (hJk17 _ (Option.some.inj hm).symm) ⟨rfl, rfl, rfl, rfl, rfl, rfl, trivial⟩ (fun _ h => h.picks [6, 6, 5, 5, 5, 5, 0] rfl)
    ·have hm := hk44
     refine cj_if (b := (u31.2.length : Int) == 0) rfl (fun hb => ?_) (fun hb => ?_)
     ·have hm := ifB_t hb hm
      refine cj_reg ?_
      refine r_bs R9 [(ByteArray.mk [97, 108, 116, 111].toArray)] rfl rfl rfl (fun _ => by kernel_rfl) rfl (fun s45 => ?_)
      refine lp rfl (p_fab fl47_3 rfl) ?_
      refine r_sb (vs := [s45.v]) (j := 2) ty45 rfl rfl rfl rfl rfl rfl rfl ?_
      refine lj_nil ?_
      exact cnk44 _ _ [(ByteArray.mk [97, 108, 116, 111].toArray)] s45 (Option.some.inj hm).symm ⟨rfl, rfl, rfl, rfl, rfl, rfl, rfl, trivial⟩ (fun _ h => h.picks [2, 2, 2, 2, 2, 2, 2, 2, 0] rfl)
     ·have hm := ifB_f hb hm
      refine cj_skip ?_
      exact cnk44 _ _ u31.2 g32 (Option.some.inj hm).symm ⟨rfl, rfl, rfl, rfl, rfl, rfl, rfl, trivial⟩ (fun _ h => h.picks [1, 1, 1, 1, 1, 1, 1, 1, 1] rfl)
   ·have hRk33 : ∀ t, k33 = .ret t → some t = some k17 := fun t e => by rw [hX t e] at hm; exact hm
    have hm := hs
    refine cj_seq ?_
    refine cj_reg ?_
    refine lp rfl (p_idx Tryz.underlying45 ty9 rfl rfl (.row 0 rfl) (getI_nat.trans hx29)) ?_
    refine lp rfl (p_lde (o := 0) ty9 rfl rfl (.row 0 rfl) hx29 rfl) ?_
    refine lp rfl (p_as rfl) ?_
    refine lj_seq ?_
    refine cj_seq ?_
    refine cj_reg ?_
    refine lp rfl (p_mv rfl) ?_
    obtain ⟨y36, hy36, hm⟩ := bindS hm
    refine r_call [2] cf14 rfl rfl (ok_gleemake_Stream_Flip b0_ s0_0_ a0_0 u31.1 2 hy36) rfl rfl (.cons (.ro 5 rfl) .nil) (fun _ => rfl) rfl (fun _ => ?_)
    refine lj_seq ?_
    refine cj_if (b := y36.1) rfl (fun hb => ?_) (fun hb => ?_)
    ·have hm := ifB_t hb hm
     refine cj_reg ?_
     refine lp rfl (p_fab fl47_3 rfl) ?_
     refine lp rfl (p_lbs ty45 rfl (j := 2) rfl rfl) ?_
     refine lp rfl (p_mv rfl) ?_
     refine r_bs R9 [x28] rfl rfl rfl (fun _ => by kernel_rfl) rfl (fun s37 => ?_)
     obtain ⟨q38, hq38, hm⟩ := bindS hm
     refine r_app (k := 10) Tryz.underlying45 ty9 rfl rfl rfl rfl (.row 0 rfl) hq38 rfl (fun s39 => ?_)
     refine lp rfl (p_fab fl47_3 rfl) ?_
     refine r_sb (vs := [s39.v]) (j := 3) ty45 rfl rfl rfl rfl rfl rfl rfl ?_
     refine lj_nil ?_
     refine nj_blk ?_
     exact cnk33 _ _ (y36.2, q38) s39 (hJk33 _ (Option.some.inj hm).symm) ⟨rfl, rfl, rfl, rfl, rfl, rfl, rfl, rfl, rfl, rfl, trivial⟩ (fun _ h => h.picks [2, 2, 1, 1, 1, 1, 1, 1, 1, 1] rfl)
    ·have hm := ifB_f hb hm
     refine cj_skip ?_
     refine nj_blk ?_
     exact cnk33 _ _ (y36.2, u31.2) g32 (hJk33 _ (Option.some.inj hm).symm) ⟨rfl, rfl, rfl, rfl, rfl, rfl, rfl, rfl, rfl, rfl, trivial⟩ (fun _ h => h.picks [1, 1, 0, 0, 0, 0, 0, 0, 0, 0] rfl)
theorem ok_gleemake_Stream_Range (b0_ : Nat) (s0_0_ : SV) (a0_0 : (List Int)) (a0_1 : Int) (a1 : Int) (a2 : Int) {r : Int × Int} (hm : m_gleemake_Stream_Range a0_0 a0_1 a1 a2 = some r) :
  Ctr Tryz.prog 44 [.pointer (some ⟨b0_, 0, none⟩), .int .i64 a1, .int .i64 a2].toArray [.box b0_ 25 [s0_0_.v, .int .i64 a0_1]] [RdS R3 (SV.v s0_0_) a0_0] (X := Unit) (fun _ => .int .i64 r.1) (fun _ => [.box b0_ 25 [s0_0_.v, .int .i64 r.2]]) := by
 unfold m_gleemake_Stream_Range at hm
 refine ctr_mk (vs := [(0, .pointer (some ⟨b0_, 0, none⟩)), (1, .int .i64 a1), (2, .int .i64 a2)]) Tryz.func44 rfl Tryz.ntmps44 rfl ⟨rfl, rfl, rfl, trivial⟩ (fun w0 A => ?_)
 refine cj_seq ?_
 refine cj_reg ?_
 refine lp rfl (p_as rfl) ?_
 refine lj_seq ?_
 refine cj_seq ?_
 refine cj_seq ?_
 refine cj_reg ?_
 refine lp rfl (p_mv rfl) ?_
 refine lp rfl (p_mv rfl) ?_
 refine lp rfl (p_lss rfl rfl) ?_
 refine lj_seq ?_
 refine cj_if (b := decide (a2 < a1)) rfl (fun hb => ?_) (fun hb => ?_)
 ·have hm := ifB_t hb hm
  refine cj_seq ?_
  refine cj_reg ?_
  refine lp rfl (p_mv rfl) ?_
  refine lp rfl (p_as rfl) ?_
  refine lj_seq ?_
  obtain rfl := Option.some.inj hm
  exact cj_rt () [0] Tryz.results44 (.tmp rfl .nil) rfl rfl
 ·have hm := ifB_f hb hm
  refine cj_skip ?_
  refine nj_seq ?_
  refine cj_seq ?_
  refine cj_reg ?_
  refine lp rfl (p_mv rfl) ?_
  refine lp rfl (p_mv rfl) ?_
  refine lp rfl (p_mv rfl) ?_
  refine lp rfl (p_mv rfl) ?_
  refine lp rfl (p_sub rfl rfl) ?_
  refine lp rfl (p_add rfl rfl) ?_
  obtain ⟨y1, hy1, hm⟩ := bindS hm
  refine r_call [0] cf15 rfl rfl (ok_gleemake_Stream_Next b0_ s0_0_ a0_0 a0_1 (w64 ((w64 (a2 - a1)) + 1)) hy1) rfl rfl (.cons (.ro 0 rfl) .nil) (fun _ => rfl) rfl (fun _ => ?_)
  refine lp rfl (p_add rfl rfl) ?_
  refine lp rfl (p_as rfl) ?_
  refine lj_seq ?_
  obtain rfl := Option.some.inj hm
  exact cj_rt () [0] Tryz.results44 (.tmp rfl .nil) rfl rfl
theorem ok_gleemake_Stream_Odd (b0_ : Nat) (s0_0_ : SV) (a0_0 : (List Int)) (a0_1 : Int) (a1 : Int) (a2 : Int) {r : Int × Int} (hm : m_gleemake_Stream_Odd a0_0 a0_1 a1 a2 = some r) :
  Ctr Tryz.prog 16 [.pointer (some ⟨b0_, 0, none⟩), .int .i64 a1, .int .i64 a2].toArray [.box b0_ 25 [s0_0_.v, .int .i64 a0_1]] [RdS R3 (SV.v s0_0_) a0_0] (X := Unit) (fun _ => .int .i64 r.1) (fun _ => [.box b0_ 25 [s0_0_.v, .int .i64 r.2]]) := by
 unfold m_gleemake_Stream_Odd at hm
 refine ctr_mk (vs := [(0, .pointer (some ⟨b0_, 0, none⟩)), (1, .int .i64 a1), (2, .int .i64 a2)]) Tryz.func16 rfl Tryz.ntmps16 rfl ⟨rfl, rfl, rfl, trivial⟩ (fun w0 A => ?_)
 refine cj_seq ?_
 refine cj_reg ?_
 refine lp rfl (p_as rfl) ?_
 refine lj_seq ?_
 refine cj_seq ?_
 refine cj_seq ?_
 refine cj_reg ?_
 refine lp rfl (p_mv rfl) ?_
 obtain ⟨y1, hy1, hm⟩ := bindS hm
 refine r_call [0] cf14 rfl rfl (ok_gleemake_Stream_Flip b0_ s0_0_ a0_0 a0_1 12 hy1) rfl rfl (.cons (.ro 0 rfl) .nil) (fun _ => rfl) rfl (fun _ => ?_)
 refine lj_seq ?_
 refine cj_if (b := y1.1) rfl (fun hb => ?_) (fun hb => ?_)
 ·have hm := ifB_t hb hm
  refine cj_seq ?_
  refine cj_reg ?_
  refine lp rfl (p_mv rfl) ?_
  refine lp rfl (p_mv rfl) ?_
  refine lp rfl (p_sub rfl rfl) ?_
  refine lp rfl (p_mv rfl) ?_
  refine lp rfl (p_add rfl rfl) ?_
  refine lp rfl (p_mv rfl) ?_
  refine lp rfl (p_mv rfl) ?_
  refine r_bs R3 [w64 (a1 - 1), w64 (a2 + 1), a1, a2, (-1099511627776), 1099511627776] rfl rfl rfl (fun _ => by kernel_rfl) rfl (fun s2 => ?_)
  obtain ⟨y3, hy3, hm⟩ := bindS hm
  refine r_call [1] cf19 rfl rfl (ok_gleemake_Stream_Pick b0_ s0_0_ a0_0 y1.2 s2 [w64 (a1 - 1), w64 (a2 + 1), a1, a2, (-1099511627776), 1099511627776] hy3) rfl rfl (.cons (.ro 1 rfl) (.cons (.row 0 rfl) .nil)) (fun _ => rfl) rfl (fun _ => ?_)
  refine lp rfl (p_as rfl) ?_
  refine lj_seq ?_
  obtain rfl := Option.some.inj hm
  exact cj_rt () [0] Tryz.results16 (.tmp rfl .nil) rfl rfl
 ·have hm := ifB_f hb hm
  refine cj_skip ?_
  refine nj_seq ?_
  refine cj_seq ?_
  refine cj_reg ?_
  refine lp rfl (p_mv rfl) ?_
  refine lp rfl (p_mv rfl) ?_
  refine lp rfl (p_mv rfl) ?_
  obtain ⟨y4, hy4, hm⟩ := bindS hm
  refine r_call [0] cf44 rfl rfl (ok_gleemake_Stream_Range b0_ s0_0_ a0_0 y1.2 a1 a2 hy4) rfl rfl (.cons (.ro 0 rfl) .nil) (fun _ => rfl) rfl (fun _ => ?_)
  refine lp rfl (p_as rfl) ?_
  refine lj_seq ?_
  obtain rfl := Option.some.inj hm
  exact cj_rt () [0] Tryz.results16 (.tmp rfl .nil) rfl rfl
theorem ok_slices_Clone_string_string (s0_ : SV) (a0 : (List ByteArray)) {r : (List ByteArray)} (hm : m_slices_Clone_string_string a0 = some r) :
  Ctr Tryz.prog 18 [s0_.v].toArray ([] : List Ent) [RdS R9 (SV.v s0_) a0] (X := SV) (fun s => s.v) (fun s => [.row R9 (SV.v s) r]) := by
 unfold m_slices_Clone_string_string at hm
 refine ctr_mk (vs := [(0, s0_.v)]) Tryz.func18 rfl Tryz.ntmps18 rfl ⟨rfl, trivial⟩ (fun w0 A => ?_)
 refine cj_seq ?_
 refine cj_reg ?_
 refine lp rfl (p_as rfl) ?_
 refine lj_seq ?_
 refine cj_seq ?_
 refine cj_seq ?_
 refine cj_reg ?_
 refine lp rfl (p_mv rfl) ?_
 refine lp rfl (p_eqnil Tryz.underlying45 rfl rfl) ?_
 refine lj_seq ?_
 refine cj_if (b := s0_.a.isNone) rfl (fun hb => ?_) (fun hb => ?_)
 ·refine cj_pure (F := RdS R9 (SV.v s0_) a0) (.ro 0 rfl) (fun _ h => h.nil_of hb) (fun h5 => ?_)
  have hm : some [] = some r := by rw [h5, appM_nn] at hm; exact hm
  refine cj_seq ?_
  refine cj_reg ?_
  refine lp rfl (p_as rfl) ?_
  refine lj_seq ?_
  obtain rfl := Option.some.inj hm
  refine cj_nil R9 ?_
  exact cj_rt nilS [0] Tryz.results18 (.tmp rfl .nil) rfl rfl
 ·refine cj_skip ?_
  refine nj_seq ?_
  refine cj_seq ?_
  refine cj_reg ?_
  refine r_bs R9 ([] : List ByteArray) rfl rfl rfl (fun _ => by kernel_rfl) rfl (fun s2 => ?_)
  refine lp rfl (p_mv rfl) ?_
  obtain ⟨q3, hq3, hm⟩ := bindS hm
  refine r_app (k := 0) Tryz.underlying45 ty9 rfl rfl rfl rfl (.ro 1 rfl) hq3 rfl (fun s4 => ?_)
  refine lp rfl (p_as rfl) ?_
  refine lj_seq ?_
  obtain rfl := Option.some.inj hm
  exact cj_rt s4 [0] Tryz.results18 (.tmp rfl .nil) rfl rfl
theorem ok_gleemake_Stream_AProgram (b0_ : Nat) (s0_0_ : SV) (a0_0 : (List Int)) (a0_1 : Int) (a1 : Int) {r : TProgram × Int} (hm : m_gleemake_Stream_AProgram a0_0 a0_1 a1 = some r) :
  Ctr Tryz.prog 4 [.pointer (some ⟨b0_, 0, none⟩), .int .i64 a1].toArray [.box b0_ 25 [s0_0_.v, .int .i64 a0_1]] [RdS R3 (SV.v s0_0_) a0_0] (X := (SV × List (TItem × SV))) (fun s => .agg [s.1.v, .int .i64 r.1.Change, .int .i64 r.1.Clap, .int .i64 r.1.Break, .int .i64 r.1.Half].toArray) (fun s => [.row N47.R (SV.v s.1) s.2, .ro (Lk N47 r.1.Items s.2), .box b0_ 25 [s0_0_.v, .int .i64 r.2]]) := by
 unfold m_gleemake_Stream_AProgram at hm
 refine ctr_mk (vs := [(0, .pointer (some ⟨b0_, 0, none⟩)), (1, .int .i64 a1)]) Tryz.func4 rfl Tryz.ntmps4 rfl ⟨rfl, rfl, trivial⟩ (fun w0 A => ?_)
 refine cj_seq ?_
 refine cj_reg ?_
 refine r_al ty28 rfl (fun b1 => ?_)
 refine lj_seq ?_
 refine cj_seq ?_
 refine cj_reg ?_
 refine lp rfl (p_mv rfl) ?_
 refine lp rfl (p_mv rfl) ?_
 obtain ⟨y2, hy2, hm⟩ := bindS hm
 refine r_callN [1] cf13 rfl rfl (ok_gleemake_Stream_RightProgram b0_ s0_0_ a0_0 a0_1 a1 hy2) rfl rfl (.cons (.ro 1 rfl) .nil) rfl (fun ⟨s3, xg4⟩ => ?_)
 refine r_pure (F := Lk N47 y2.1.Items xg4) (.ro 1 rfl) (fun _ h => h.1) (fun hLs3 => ?_)
 refine r_al ty28 rfl (fun b5 => ?_)
 refine r_sb (vs := [s3.v, .int .i64 y2.1.Change, .int .i64 y2.1.Clap, .int .i64 y2.1.Break, .int .i64 y2.1.Half]) (j := 0) ty28 rfl rfl rfl rfl rfl rfl rfl ?_
 refine lj_seq ?_
 refine cj_seq ?_
 refine cj_seq ?_
 refine cj_reg ?_
 refine lp rfl (p_mv rfl) ?_
 obtain ⟨y6, hy6, hm⟩ := bindS hm
 refine r_call [3] cf14 rfl rfl (ok_gleemake_Stream_Flip b0_ s0_0_ a0_0 y2.2 12 hy6) rfl rfl (.cons (.ro 4 rfl) .nil) (fun _ => rfl) rfl (fun _ => ?_)
 refine lj_seq ?_
 refine cj_if (b := y6.1) rfl (fun hb => ?_) (fun hb => ?_)
 ·have hm := ifB_t hb hm
  refine cj_seq ?_
  refine cj_reg ?_
  refine lp rfl (p_mv rfl) ?_
  obtain ⟨y7, hy7, hm⟩ := bindS hm
  refine r_call [0] cf15 rfl rfl (ok_gleemake_Stream_Next b0_ s0_0_ a0_0 y6.2 3 hy7) rfl rfl (.cons (.ro 4 rfl) .nil) (fun _ => rfl) rfl (fun _ => ?_)
  refine lj_seq ?_
  refine cj_blk ?_
  refine cj_seq ?_
  refine cj_reg ?_
  refine lp rfl (p_eql rfl rfl) ?_
  refine lp rfl (p_as rfl) ?_
  refine lj_seq ?_
  refine cj_if (b := y7.1 == 0) rfl (fun hb => ?_) (fun hb => ?_)
  ·have hm := ifB_t hb hm
   refine cj_reg ?_
   refine lp rfl (p_mv rfl) ?_
   obtain ⟨y8, hy8, hm⟩ := bindS hm
   refine r_call [0] cf16 rfl rfl (ok_gleemake_Stream_Odd b0_ s0_0_ a0_0 y7.2 (-1) 4 hy8) rfl rfl (.cons (.ro 4 rfl) .nil) (fun _ => rfl) rfl (fun _ => ?_)
   refine lp rfl (p_fab fl28_4 rfl) ?_
   refine r_sb (vs := [.int .i64 y8.1]) (j := 1) ty3 rfl rfl rfl rfl rfl rfl rfl ?_
   refine lj_nil ?_
   refine nj_blk ?_
   refine nj_seq ?_
   refine cj_seq ?_
   refine cj_reg ?_
   refine lp rfl (p_lbw ty28 rfl (j := 1) rfl rfl) ?_
   refine r_sb (vs := [s3.v, .int .i64 y2.1.Change, .int .i64 y2.1.Clap, .int .i64 y2.1.Break, .int .i64 y8.1]) (j := 4) ty28 rfl rfl rfl rfl rfl rfl rfl ?_
   refine lj_seq ?_
   obtain rfl := Option.some.inj hm
   exact cj_rt (s3, xg4) [2, 2, 0] Tryz.results4 (.agg (k := 4) ty28 rfl rfl rfl .nil) rfl rfl
  ·have hm := ifB_f hb hm
   refine cj_seq ?_
   refine cj_reg ?_
   refine lp rfl (p_eql rfl rfl) ?_
   refine lp rfl (p_as rfl) ?_
   refine lj_seq ?_
   refine cj_if (b := y7.1 == 1) rfl (fun hb => ?_) (fun hb => ?_)
   ·have hm := ifB_t hb hm
    refine cj_reg ?_
    refine lp rfl (p_mv rfl) ?_
    obtain ⟨y9, hy9, hm⟩ := bindS hm
    refine r_call [0] cf16 rfl rfl (ok_gleemake_Stream_Odd b0_ s0_0_ a0_0 y7.2 0 86400000 hy9) rfl rfl (.cons (.ro 4 rfl) .nil) (fun _ => rfl) rfl (fun _ => ?_)
    refine lp rfl (p_mv rfl) ?_
    obtain ⟨y10, hy10, hm⟩ := bindS hm
    refine r_call [0] cf16 rfl rfl (ok_gleemake_Stream_Odd b0_ s0_0_ a0_0 y9.2 0 86400000 hy10) rfl rfl (.cons (.ro 4 rfl) .nil) (fun _ => rfl) rfl (fun _ => ?_)
    refine lp rfl (p_mv rfl) ?_
    obtain ⟨y11, hy11, hm⟩ := bindS hm
    refine r_call [0] cf16 rfl rfl (ok_gleemake_Stream_Odd b0_ s0_0_ a0_0 y10.2 0 86400000 hy11) rfl rfl (.cons (.ro 4 rfl) .nil) (fun _ => rfl) rfl (fun _ => ?_)
    refine lp rfl (p_fab fl28_1 rfl) ?_
    refine r_sb (vs := [.int .i64 y9.1]) (j := 1) ty3 rfl rfl rfl rfl rfl rfl rfl ?_
    refine lp rfl (p_fab fl28_2 rfl) ?_
    refine r_sb (vs := [.int .i64 y10.1]) (j := 1) ty3 rfl rfl rfl rfl rfl rfl rfl ?_
    refine lp rfl (p_fab fl28_3 rfl) ?_
    refine r_sb (vs := [.int .i64 y11.1]) (j := 1) ty3 rfl rfl rfl rfl rfl rfl rfl ?_
    refine lj_nil ?_
    refine nj_blk ?_
    refine nj_seq ?_
    refine cj_seq ?_
    refine cj_reg ?_
    refine lp rfl (p_lbw ty28 rfl (j := 1) rfl rfl) ?_
    refine r_sb (vs := [s3.v, .int .i64 y9.1, .int .i64 y10.1, .int .i64 y11.1, .int .i64 y2.1.Half]) (j := 4) ty28 rfl rfl rfl rfl rfl rfl rfl ?_
    refine lj_seq ?_
    obtain rfl := Option.some.inj hm
    exact cj_rt (s3, xg4) [2, 2, 0] Tryz.results4 (.agg (k := 4) ty28 rfl rfl rfl .nil) rfl rfl
   ·have hm := ifB_f hb hm
    refine cj_seq ?_
    refine cj_reg ?_
    refine lp rfl (p_fab fl28_0 rfl) ?_
    refine lp rfl (p_lbs ty26 rfl (j := 1) rfl rfl) ?_
    refine lp rfl (p_lenG hLs3 Tryz.underlying26 rfl (.row 2 rfl)) ?_
    refine lp rfl (p_gtr rfl rfl) ?_
    refine lj_seq ?_
    refine cj_if (b := decide ((y2.1.Items.length : Int) > 0)) rfl (fun hb => ?_) (fun hb => ?_)
    ·have hm := ifB_t hb hm
     refine cj_seq ?_
     obtain ⟨y12, hy12, hm⟩ := bindS hm
     obtain ⟨e13, he13, hm⟩ := bindS hm
     obtain ⟨ge13, he13G⟩ := lk_getI hLs3 he13
     refine cj_anyT [0, 1, 2, 3, 4, 5, 7, 8] [] (Sat w0 (keys [.box b0_ 25 [s0_0_.v, .int .i64 a0_1]]) A [.box b5 28 [s3.v, .int .i64 y2.1.Change, .int .i64 y2.1.Clap, .int .i64 y2.1.Break, .int .i64 y2.1.Half], .row N47.R (SV.v s3) xg4, .ro (Lk N47 y2.1.Items xg4), .box b1 28 [.slice none 0 0, .int .i64 0, .int .i64 0, .int .i64 0, .int .i64 0], .ro (RdS R3 (SV.v s0_0_) a0_0)]) (Sat w0 (keys [.box b0_ 25 [s0_0_.v, .int .i64 a0_1]]) A [.box b5 28 [s3.v, .int .i64 y2.1.Change, .int .i64 y2.1.Clap, .int .i64 y2.1.Break, .int .i64 y2.1.Half], .row N47.R (SV.v s3) xg4, .ro (Lk N47 y2.1.Items xg4), .box b1 28 [.slice none 0 0, .int .i64 0, .int .i64 0, .int .i64 0, .int .i64 0], .ro (RdS R3 (SV.v s0_0_) a0_0)]) (by kernel_rfl) ?_
     refine at_take2 0 rfl (by kernel_rfl) (by kernel_rfl) (by kernel_rfl) (fun _ h => h.picks [0, 0, 0, 0, 0] rfl) rfl rfl (p_fab fl28_0 rfl) (fun _ h => h.picks [1, 1, 1, 1, 1] rfl) ?_
     refine at_take2 1 rfl (by kernel_rfl) (by kernel_rfl) (by kernel_rfl) (fun _ h => h.picks [0, 0, 0, 0, 0] rfl) rfl rfl (p_lbs ty26 rfl (j := 0) rfl rfl) (fun _ h => h.picks [1, 1, 1, 1, 1] rfl) ?_
     refine at_take2 2 rfl (by kernel_rfl) (by kernel_rfl) (by kernel_rfl) (fun _ h => h.picks [0, 0, 0, 0, 0] rfl) rfl rfl (p_mv rfl) (fun _ h => h.picks [1, 1, 1, 1, 1] rfl) ?_
     refine at_take2 3 rfl (by kernel_rfl) (by kernel_rfl) (by kernel_rfl) (fun _ h => h.picks [0, 0, 0, 0, 0] rfl) rfl rfl (p_fab fl28_0 rfl) (fun _ h => h.picks [1, 1, 1, 1, 1] rfl) ?_
     refine at_take2 4 rfl (by kernel_rfl) (by kernel_rfl) (by kernel_rfl) (fun _ h => h.picks [0, 0, 0, 0, 0] rfl) rfl rfl (p_lbs ty26 rfl (j := 0) rfl rfl) (fun _ h => h.picks [1, 1, 1, 1, 1] rfl) ?_
     refine at_take2 5 rfl (by kernel_rfl) (by kernel_rfl) (by kernel_rfl) (fun _ h => h.picks [0, 0, 0, 0, 0] rfl) rfl rfl (p_lenG hLs3 Tryz.underlying26 rfl (.row 1 rfl)) (fun _ h => h.picks [1, 1, 1, 1, 1] rfl) ?_
     refine at_each (rs := [6]) (by kernel_rfl) (by decide) ?_
     refine (.cons rfl (fun I cnI => ?_) .nil)
     ·refine r_call [0] cf15 rfl rfl (ok_gleemake_Stream_Next b0_ s0_0_ a0_0 y7.2 (y2.1.Items.length : Int) hy12) rfl rfl (.cons (.ro 4 rfl) .nil) (fun _ => rfl) rfl (fun _ => ?_)
      refine lj_nil ?_
      refine cnI _ _ (sof1 rfl rfl (fun _ h => h.picks [1, 1, 1, 1, 1] rfl)) ?_
      refine at_take2 7 rfl (by kernel_rfl) (by kernel_rfl) (by kernel_rfl) (fun _ h => h.picks [0, 0, 0, 0, 0] rfl) rfl rfl (p_idx Tryz.underlying26 ty47 rfl rfl (.row 1 rfl) he13G) (fun _ h => h.picks [1, 1, 1, 1, 1] rfl) ?_
      refine at_take2 8 rfl (by kernel_rfl) (by kernel_rfl) (by kernel_rfl) (fun _ h => h.picks [0, 0, 0, 0, 0] rfl) rfl rfl (p_as rfl) (fun _ h => h.picks [1, 1, 1, 1, 1] rfl) ?_
      refine at_done (by kernel_rfl) ?_
      refine nj_seq ?_
      refine cj_pure (F := RdS N47.R (SV.v s3) xg4) (.row 2 rfl) (fun _ h => h.some_of (getI_spec he13G).2) (fun hp79 => ?_)
      refine cj_pure (F := RdS N47.R (SV.v s3) xg4) (.row 2 rfl) (fun _ h => h.pures) (fun hq80 => ?_)
      obtain ⟨y67, hy67, hm⟩ := bindS hm
      obtain ⟨y68, hy68, hm⟩ := bindS hm
      obtain ⟨y69, hy69, hm⟩ := bindS hm
      obtain ⟨y72, hy72, hm⟩ := bindS hm
      obtain ⟨q74, hq74, hm⟩ := bindS hm
      refine cj_anyT [0, 1, 2, 3, 4, 5, 6, 7, 10, 12, 13, 14, 15, 17, 22, 23, 25, 26, 28, 29] [24, 25, 26, 27, 28, 29, 30] (Sat w0 (keys [.box b0_ 25 [s0_0_.v, .int .i64 a0_1]]) A [.box b5 28 [s3.v, .int .i64 y2.1.Change, .int .i64 y2.1.Clap, .int .i64 y2.1.Break, .int .i64 y2.1.Half], .row N47.R (SV.v s3) xg4, .ro (Lk N47 y2.1.Items xg4), .box b1 28 [.slice none 0 0, .int .i64 0, .int .i64 0, .int .i64 0, .int .i64 0], .ro (RdS R3 (SV.v s0_0_) a0_0)]) (Sat w0 (keys [.box b0_ 25 [s0_0_.v, .int .i64 a0_1]]) A [.box b5 28 [s3.v, .int .i64 y2.1.Change, .int .i64 y2.1.Clap, .int .i64 y2.1.Break, .int .i64 y2.1.Half], .ro (Lk N47 y2.1.Items xg4), .box b1 28 [.slice none 0 0, .int .i64 0, .int .i64 0, .int .i64 0, .int .i64 0], .ro (RdS R3 (SV.v s0_0_) a0_0)]) (by kernel_rfl) ?_
      refine at_take2 0 rfl (by kernel_rfl) (by kernel_rfl) (by kernel_rfl) (fun _ h => h.picks [0, 1, 1, 1] rfl) rfl rfl (p_mv rfl) (fun _ h => h.picks [1, 2, 2, 2] rfl) ?_
      refine at_take2 1 rfl (by kernel_rfl) (by kernel_rfl) (by kernel_rfl) (fun _ h => h.picks [0, 1, 1, 1] rfl) rfl rfl (p_mv rfl) (fun _ h => h.picks [1, 2, 2, 2] rfl) ?_
      refine at_take2 2 rfl (by kernel_rfl) (by kernel_rfl) (by kernel_rfl) (fun _ h => h.picks [0, 1, 1, 1] rfl) rfl rfl (p_mv rfl) (fun _ h => h.picks [1, 2, 2, 2] rfl) ?_
      refine at_take2 3 rfl (by kernel_rfl) (by kernel_rfl) (by kernel_rfl) (fun _ h => h.picks [0, 1, 1, 1] rfl) rfl rfl (p_mv rfl) (fun _ h => h.picks [1, 2, 2, 2] rfl) ?_
      refine at_take2 4 rfl (by kernel_rfl) (by kernel_rfl) (by kernel_rfl) (fun _ h => h.picks [0, 1, 1, 1] rfl) rfl rfl (p_mv rfl) (fun _ h => h.picks [1, 2, 2, 2] rfl) ?_
      refine at_take2 5 rfl (by kernel_rfl) (by kernel_rfl) (by kernel_rfl) (fun _ h => h.picks [0, 1, 1, 1] rfl) rfl rfl (p_ncs rfl hp79) (fun _ h => h.picks [1, 2, 2, 2] rfl) ?_
      refine at_take2 6 rfl (by kernel_rfl) (by kernel_rfl) (by kernel_rfl) (fun _ h => h.picks [0, 1, 1, 1] rfl) rfl rfl (p_fas fl47_0 rfl hp79) (fun _ h => h.picks [1, 2, 2, 2] rfl) ?_
      refine at_take1 7 rfl (by kernel_rfl) (by kernel_rfl) (by kernel_rfl) (by kernel_rfl) rfl rfl (p_lde (o := 0) ty9 rfl rfl (.row 1 rfl) (getI_spec he13G).2 rfl) (fun _ h => h.picks [1, 1, 1, 1, 1] rfl) ?_
      refine at_take2 10 rfl (by kernel_rfl) (by kernel_rfl) (by kernel_rfl) (fun _ h => h.picks [0, 1, 1, 1] rfl) rfl rfl (p_mv rfl) (fun _ h => h.picks [1, 2, 2, 2] rfl) ?_
      refine at_take2 12 rfl (by kernel_rfl) (by kernel_rfl) (by kernel_rfl) (fun _ h => h.picks [0, 1, 1, 1] rfl) rfl rfl (p_mv rfl) (fun _ h => h.picks [1, 2, 2, 2] rfl) ?_
      refine at_take2 13 rfl (by kernel_rfl) (by kernel_rfl) (by kernel_rfl) (fun _ h => h.picks [0, 1, 1, 1] rfl) rfl rfl (p_ncs rfl hp79) (fun _ h => h.picks [1, 2, 2, 2] rfl) ?_
      refine at_take2 14 rfl (by kernel_rfl) (by kernel_rfl) (by kernel_rfl) (fun _ h => h.picks [0, 1, 1, 1] rfl) rfl rfl (p_fas fl47_3 rfl hp79) (fun _ h => h.picks [1, 2, 2, 2] rfl) ?_
      refine at_take1 15 rfl (by kernel_rfl) (by kernel_rfl) (by kernel_rfl) (by kernel_rfl) rfl rfl (p_lde (o := 3) ty45 rfl rfl (.row 1 rfl) (getI_spec he13G).2 rfl) (fun _ h => h.picks [1, 1, 1, 1, 1] rfl) ?_
      refine at_take2 17 rfl (by kernel_rfl) (by kernel_rfl) (by kernel_rfl) (fun _ h => h.picks [0, 1, 1, 1] rfl) rfl rfl (p_mv rfl) (fun _ h => h.picks [1, 2, 2, 2] rfl) ?_
      refine at_each (rs := [8, 18]) (by kernel_rfl) (by decide) ?_
      refine (.cons rfl (fun I cnI => ?_) (.cons rfl (fun I cnI => ?_) .nil))
      ·refine r_bs R9 [e13.Key, ByteArray.empty, (ByteArray.mk [97].toArray)] rfl rfl rfl (fun _ => by kernel_rfl) rfl (fun s81 => ?_)
       refine lj_nil ?_
       refine cnI _ _ (sof1 rfl rfl (fun _ h => h.picks [2, 2, 2, 2, 2] rfl)) ?_
       refine at_each (rs := [9, 18]) (by kernel_rfl) (by decide) ?_
       refine (.cons rfl (fun I cnI => ?_) (.cons rfl (fun I cnI => ?_) .nil))
       ·refine r_call [1] cf17 rfl rfl (ok_gleemake_Stream_Some b0_ s0_0_ a0_0 y12.2 s81 [e13.Key, ByteArray.empty, (ByteArray.mk [97].toArray)] hy67) rfl rfl (.cons (.ro 5 rfl) (.cons (.row 0 rfl) .nil)) (fun _ => rfl) rfl (fun _ => ?_)
        refine lj_nil ?_
        refine cnI _ _ (sof1 rfl rfl (fun _ h => h.picks [2, 2, 2, 2, 2] rfl)) ?_
        refine at_each (rs := [11, 18]) (by kernel_rfl) (by decide) ?_
        refine (.cons rfl (fun I cnI => ?_) (.cons rfl (fun I cnI => ?_) .nil))
        ·refine r_call [0] cf16 rfl rfl (ok_gleemake_Stream_Odd b0_ s0_0_ a0_0 y67.2 1 86400000 hy68) rfl rfl (.cons (.ro 5 rfl) .nil) (fun _ => rfl) rfl (fun _ => ?_)
         refine lj_nil ?_
         refine cnI _ _ (sof1 rfl rfl (fun _ h => h.picks [2, 2, 2, 2, 2] rfl)) ?_
         refine at_each (rs := [16, 18]) (by kernel_rfl) (by decide) ?_
         refine (.cons rfl (fun I cnI => ?_) (.cons rfl (fun I cnI => ?_) .nil))
         ·refine r_call [] cf18 rfl rfl (ok_slices_Clone_string_string ge13 e13.Parts hy69) rfl rfl (.cons (.imp (.ro 4 rfl) (fun _ h => (Lk.at_ h (getI_spec he13G).2))) .nil) (fun _ => rfl) rfl (fun s82 => ?_)
          refine lj_nil ?_
          refine cnI _ _ (sof1 rfl rfl (fun _ h => h.picks [3, 3, 3, 3, 3] rfl)) ?_
          refine at_each (rs := [18]) (by kernel_rfl) (by decide) ?_
          refine (.cons rfl (fun I cnI => ?_) .nil)
          ·refine r_bs R9 [(ByteArray.mk [122, 122].toArray), ByteArray.empty, (ByteArray.mk [97, 108, 116, 111].toArray)] rfl rfl rfl (fun _ => by kernel_rfl) rfl (fun s83 => ?_)
           refine lj_nil ?_
           refine cnI _ _ (sof1 rfl rfl (fun _ h => h.picks [4, 4, 4, 4, 4] rfl)) ?_
           refine at_each (rs := [19]) (by kernel_rfl) (by decide) ?_
           refine (.cons rfl (fun I cnI => ?_) .nil)
           ·refine r_call [2] cf17 rfl rfl (ok_gleemake_Stream_Some b0_ s0_0_ a0_0 y68.2 s83 [(ByteArray.mk [122, 122].toArray), ByteArray.empty, (ByteArray.mk [97, 108, 116, 111].toArray)] hy72) rfl rfl (.cons (.ro 7 rfl) (.cons (.row 0 rfl) .nil)) (fun _ => rfl) rfl (fun _ => ?_)
            refine lj_nil ?_
            refine cnI _ _ (sof1 rfl rfl (fun _ h => h.picks [4, 4, 4, 4, 4] rfl)) ?_
            refine at_each (rs := [20]) (by kernel_rfl) (by decide) ?_
            refine (.cons rfl (fun I cnI => ?_) .nil)
            ·refine r_bs R9 [y72.1] rfl rfl rfl (fun _ => by kernel_rfl) rfl (fun s84 => ?_)
             refine lj_nil ?_
             refine cnI _ _ (sof1 rfl rfl (fun _ h => h.picks [5, 5, 5, 5, 5] rfl)) ?_
             refine at_each (rs := [21]) (by kernel_rfl) (by decide) ?_
             refine (.cons rfl (fun I cnI => ?_) .nil)
             ·refine r_app (k := 3) Tryz.underlying45 ty9 rfl rfl rfl rfl (.row 0 rfl) hq74 rfl (fun s85 => ?_)
              refine lj_nil ?_
              refine cnI _ _ (sof1 rfl rfl (fun _ h => h.picks [5, 5, 5, 5, 5] rfl)) ?_
              refine at_take2 22 rfl (by kernel_rfl) (by kernel_rfl) (by kernel_rfl) (fun _ h => h.picks [0, 1, 1, 1] rfl) rfl rfl (p_ncs rfl hp79) (fun _ h => h.picks [5, 6, 6, 6] rfl) ?_
              refine at_take2 23 rfl (by kernel_rfl) (by kernel_rfl) (by kernel_rfl) (fun _ h => h.picks [0, 1, 1, 1] rfl) rfl rfl (p_fas fl47_0 rfl hp79) (fun _ h => h.picks [5, 6, 6, 6] rfl) ?_
              refine at_each (rs := [24]) (by kernel_rfl) (by decide) ?_
              refine (.cons rfl (fun I cnI => ?_) .nil)
              ·refine r_fact (F := Lk N47 (y2.1.Items.set y12.1.toNat (TItem.mk y67.1 e13.Places e13.Long e13.Parts)) (xg4.set y12.1.toNat ((TItem.mk y67.1 e13.Places e13.Long e13.Parts), ge13))) (.imp (.and (.ro 7 rfl) (.imp (.ro 7 rfl) (fun _ h => (Lk.at_ h (getI_spec he13G).2)))) (fun _ h => Lk.set h.1 h.2)) ?_
               refine r_ste (k := 7) (o := 0) (vs := [.string y67.1]) ty9 rfl rfl rfl rfl rfl rfl rfl (getI_spec he13G).2 ((TItem.mk y67.1 e13.Places e13.Long e13.Parts), ge13) rfl rfl ?_
               refine lj_nil ?_
               refine cnI _ _ (sof2 rfl rfl (fun _ h => h.picks [6, 7, 7, 7] rfl)) ?_
               refine at_take2 25 rfl (by kernel_rfl) (by kernel_rfl) (by kernel_rfl) (fun _ h => h.picks [0, 1, 1, 1] rfl) rfl rfl (p_ncs rfl hp79) (fun _ h => h.picks [6, 7, 7, 7] rfl) ?_
               refine at_take2 26 rfl (by kernel_rfl) (by kernel_rfl) (by kernel_rfl) (fun _ h => h.picks [0, 1, 1, 1] rfl) rfl rfl (p_fas fl47_2 rfl hp79) (fun _ h => h.picks [6, 7, 7, 7] rfl) ?_
               refine at_each (rs := [27]) (by kernel_rfl) (by decide) ?_
               refine (.cons rfl (fun I cnI => ?_) .nil)
               ·refine r_fact (F := Lk N47 ((y2.1.Items.set y12.1.toNat (TItem.mk y67.1 e13.Places e13.Long e13.Parts)).set y12.1.toNat (TItem.mk y67.1 e13.Places y68.1 e13.Parts)) ((xg4.set y12.1.toNat ((TItem.mk y67.1 e13.Places e13.Long e13.Parts), ge13)).set y12.1.toNat ((TItem.mk y67.1 e13.Places y68.1 e13.Parts), ge13))) (.imp (.and (.ro 0 rfl) (.imp (.ro 8 rfl) (fun _ h => (Lk.at_ h (getI_spec he13G).2)))) (fun _ h => Lk.set h.1 h.2)) ?_
                refine r_ste (k := 8) (o := 2) (vs := [.int .i64 y68.1]) ty3 rfl rfl rfl rfl rfl rfl rfl (set_he (getI_spec he13G).2) ((TItem.mk y67.1 e13.Places y68.1 e13.Parts), ge13) rfl rfl ?_
                refine lj_nil ?_
                refine cnI _ _ (sof2 rfl rfl (fun _ h => h.picks [7, 8, 8, 8] rfl)) ?_
                refine at_take2 28 rfl (by kernel_rfl) (by kernel_rfl) (by kernel_rfl) (fun _ h => h.picks [0, 1, 1, 1] rfl) rfl rfl (p_ncs rfl hp79) (fun _ h => h.picks [7, 8, 8, 8] rfl) ?_
                refine at_take2 29 rfl (by kernel_rfl) (by kernel_rfl) (by kernel_rfl) (fun _ h => h.picks [0, 1, 1, 1] rfl) rfl rfl (p_fas fl47_3 rfl hp79) (fun _ h => h.picks [7, 8, 8, 8] rfl) ?_
                refine at_each (rs := [30]) (by kernel_rfl) (by decide) ?_
                refine (.cons rfl (fun I cnI => ?_) .nil)
                ·refine r_fz 5 rfl ?_
                 refine r_fact (F := Lk N47 (((y2.1.Items.set y12.1.toNat (TItem.mk y67.1 e13.Places e13.Long e13.Parts)).set y12.1.toNat (TItem.mk y67.1 e13.Places y68.1 e13.Parts)).set y12.1.toNat (TItem.mk y67.1 e13.Places y68.1 q74)) (((xg4.set y12.1.toNat ((TItem.mk y67.1 e13.Places e13.Long e13.Parts), ge13)).set y12.1.toNat ((TItem.mk y67.1 e13.Places y68.1 e13.Parts), ge13)).set y12.1.toNat ((TItem.mk y67.1 e13.Places y68.1 q74), s85))) (.imp (.and (.ro 1 rfl) (.ro 0 rfl)) (fun _ h => Lk.set h.1 h.2)) ?_
                 refine r_ste (k := 9) (o := 3) (vs := [s85.v]) ty45 rfl rfl rfl rfl rfl rfl rfl (set_he (set_he (getI_spec he13G).2)) ((TItem.mk y67.1 e13.Places y68.1 q74), s85) rfl rfl ?_
                 refine lj_nil ?_
                 refine cnI _ _ (sof2 rfl rfl (fun _ h => h.picks [8, 9, 9, 9] rfl)) ?_
                 refine at_done (by kernel_rfl) ?_
                 refine nj_blk ?_
                 refine nj_seq ?_
                 refine cj_seq ?_
                 refine cj_reg ?_
                 refine lp rfl (p_lbw ty28 rfl (j := 8) rfl rfl) ?_
                 refine r_sb (vs := [s3.v, .int .i64 y2.1.Change, .int .i64 y2.1.Clap, .int .i64 y2.1.Break, .int .i64 y2.1.Half]) (j := 11) ty28 rfl rfl rfl rfl rfl rfl rfl ?_
                 refine lj_seq ?_
                 obtain rfl := Option.some.inj hm
                 exact cj_rt (s3, (((xg4.set y12.1.toNat ((TItem.mk y67.1 e13.Places e13.Long e13.Parts), ge13)).set y12.1.toNat ((TItem.mk y67.1 e13.Places y68.1 e13.Parts), ge13)).set y12.1.toNat ((TItem.mk y67.1 e13.Places y68.1 q74), s85))) [9, 0, 4] Tryz.results4 (.agg (k := 11) ty28 rfl rfl rfl .nil) rfl rfl
         ·refine r_bs R9 [(ByteArray.mk [122, 122].toArray), ByteArray.empty, (ByteArray.mk [97, 108, 116, 111].toArray)] rfl rfl rfl (fun _ => by kernel_rfl) rfl (fun s89 => ?_)
          refine lj_nil ?_
          refine cnI _ _ (sof1 rfl rfl (fun _ h => h.picks [3, 3, 3, 3, 3] rfl)) ?_
          refine at_each (rs := [16]) (by kernel_rfl) (by decide) ?_
          refine (.cons rfl (fun I cnI => ?_) .nil)
          ·refine r_call [] cf18 rfl rfl (ok_slices_Clone_string_string ge13 e13.Parts hy69) rfl rfl (.cons (.imp (.ro 5 rfl) (fun _ h => (Lk.at_ h (getI_spec he13G).2))) .nil) (fun _ => rfl) rfl (fun s90 => ?_)
           refine lj_nil ?_
           refine cnI _ _ (sof1 rfl rfl (fun _ h => h.picks [4, 4, 4, 4, 4] rfl)) ?_
           refine at_each (rs := [19]) (by kernel_rfl) (by decide) ?_
           refine (.cons rfl (fun I cnI => ?_) .nil)
           ·refine r_call [2] cf17 rfl rfl (ok_gleemake_Stream_Some b0_ s0_0_ a0_0 y68.2 s89 [(ByteArray.mk [122, 122].toArray), ByteArray.empty, (ByteArray.mk [97, 108, 116, 111].toArray)] hy72) rfl rfl (.cons (.ro 7 rfl) (.cons (.row 1 rfl) .nil)) (fun _ => rfl) rfl (fun _ => ?_)
            refine lj_nil ?_
            refine cnI _ _ (sof1 rfl rfl (fun _ h => h.picks [4, 4, 4, 4, 4] rfl)) ?_
            refine at_each (rs := [20]) (by kernel_rfl) (by decide) ?_
            refine (.cons rfl (fun I cnI => ?_) .nil)
            ·refine r_bs R9 [y72.1] rfl rfl rfl (fun _ => by kernel_rfl) rfl (fun s91 => ?_)
             refine lj_nil ?_
             refine cnI _ _ (sof1 rfl rfl (fun _ h => h.picks [5, 5, 5, 5, 5] rfl)) ?_
             refine at_each (rs := [21]) (by kernel_rfl) (by decide) ?_
             refine (.cons rfl (fun I cnI => ?_) .nil)
             ·refine r_app (k := 2) Tryz.underlying45 ty9 rfl rfl rfl rfl (.row 0 rfl) hq74 rfl (fun s92 => ?_)
              refine lj_nil ?_
              refine cnI _ _ (sof1 rfl rfl (fun _ h => h.picks [5, 5, 5, 5, 5] rfl)) ?_
              refine at_take2 22 rfl (by kernel_rfl) (by kernel_rfl) (by kernel_rfl) (fun _ h => h.picks [0, 1, 1, 1] rfl) rfl rfl (p_ncs rfl hp79) (fun _ h => h.picks [5, 6, 6, 6] rfl) ?_
              refine at_take2 23 rfl (by kernel_rfl) (by kernel_rfl) (by kernel_rfl) (fun _ h => h.picks [0, 1, 1, 1] rfl) rfl rfl (p_fas fl47_0 rfl hp79) (fun _ h => h.picks [5, 6, 6, 6] rfl) ?_
              refine at_each (rs := [24]) (by kernel_rfl) (by decide) ?_
              refine (.cons rfl (fun I cnI => ?_) .nil)
              ·refine r_fact (F := Lk N47 (y2.1.Items.set y12.1.toNat (TItem.mk y67.1 e13.Places e13.Long e13.Parts)) (xg4.set y12.1.toNat ((TItem.mk y67.1 e13.Places e13.Long e13.Parts), ge13))) (.imp (.and (.ro 7 rfl) (.imp (.ro 7 rfl) (fun _ h => (Lk.at_ h (getI_spec he13G).2)))) (fun _ h => Lk.set h.1 h.2)) ?_
               refine r_ste (k := 7) (o := 0) (vs := [.string y67.1]) ty9 rfl rfl rfl rfl rfl rfl rfl (getI_spec he13G).2 ((TItem.mk y67.1 e13.Places e13.Long e13.Parts), ge13) rfl rfl ?_
               refine lj_nil ?_
               refine cnI _ _ (sof2 rfl rfl (fun _ h => h.picks [6, 7, 7, 7] rfl)) ?_
               refine at_take2 25 rfl (by kernel_rfl) (by kernel_rfl) (by kernel_rfl) (fun _ h => h.picks [0, 1, 1, 1] rfl) rfl rfl (p_ncs rfl hp79) (fun _ h => h.picks [6, 7, 7, 7] rfl) ?_
               refine at_take2 26 rfl (by kernel_rfl) (by kernel_rfl) (by kernel_rfl) (fun _ h => h.picks [0, 1, 1, 1] rfl) rfl rfl (p_fas fl47_2 rfl hp79) (fun _ h => h.picks [6, 7, 7, 7] rfl) ?_
               refine at_each (rs := [27]) (by kernel_rfl) (by decide) ?_
               refine (.cons rfl (fun I cnI => ?_) .nil)
               ·refine r_fact (F := Lk N47 ((y2.1.Items.set y12.1.toNat (TItem.mk y67.1 e13.Places e13.Long e13.Parts)).set y12.1.toNat (TItem.mk y67.1 e13.Places y68.1 e13.Parts)) ((xg4.set y12.1.toNat ((TItem.mk y67.1 e13.Places e13.Long e13.Parts), ge13)).set y12.1.toNat ((TItem.mk y67.1 e13.Places y68.1 e13.Parts), ge13))) (.imp (.and (.ro 0 rfl) (.imp (.ro 8 rfl) (fun _ h => (Lk.at_ h (getI_spec he13G).2)))) (fun _ h => Lk.set h.1 h.2)) ?_
                refine r_ste (k := 8) (o := 2) (vs := [.int .i64 y68.1]) ty3 rfl rfl rfl rfl rfl rfl rfl (set_he (getI_spec he13G).2) ((TItem.mk y67.1 e13.Places y68.1 e13.Parts), ge13) rfl rfl ?_
                refine lj_nil ?_
                refine cnI _ _ (sof2 rfl rfl (fun _ h => h.picks [7, 8, 8, 8] rfl)) ?_
                refine at_take2 28 rfl (by kernel_rfl) (by kernel_rfl) (by kernel_rfl) (fun _ h => h.picks [0, 1, 1, 1] rfl) rfl rfl (p_ncs rfl hp79) (fun _ h => h.picks [7, 8, 8, 8] rfl) ?_
                refine at_take2 29 rfl (by kernel_rfl) (by kernel_rfl) (by kernel_rfl) (fun _ h => h.picks [0, 1, 1, 1] rfl) rfl rfl (p_fas fl47_3 rfl hp79) (fun _ h => h.picks [7, 8, 8, 8] rfl) ?_
                refine at_each (rs := [30]) (by kernel_rfl) (by decide) ?_
                refine (.cons rfl (fun I cnI => ?_) .nil)
                ·refine r_fz 4 rfl ?_
                 refine r_fact (F := Lk N47 (((y2.1.Items.set y12.1.toNat (TItem.mk y67.1 e13.Places e13.Long e13.Parts)).set y12.1.toNat (TItem.mk y67.1 e13.Places y68.1 e13.Parts)).set y12.1.toNat (TItem.mk y67.1 e13.Places y68.1 q74)) (((xg4.set y12.1.toNat ((TItem.mk y67.1 e13.Places e13.Long e13.Parts), ge13)).set y12.1.toNat ((TItem.mk y67.1 e13.Places y68.1 e13.Parts), ge13)).set y12.1.toNat ((TItem.mk y67.1 e13.Places y68.1 q74), s92))) (.imp (.and (.ro 1 rfl) (.ro 0 rfl)) (fun _ h => Lk.set h.1 h.2)) ?_
                 refine r_ste (k := 9) (o := 3) (vs := [s92.v]) ty45 rfl rfl rfl rfl rfl rfl rfl (set_he (set_he (getI_spec he13G).2)) ((TItem.mk y67.1 e13.Places y68.1 q74), s92) rfl rfl ?_
                 refine lj_nil ?_
                 refine cnI _ _ (sof2 rfl rfl (fun _ h => h.picks [8, 9, 9, 9] rfl)) ?_
                 refine at_done (by kernel_rfl) ?_
                 refine nj_blk ?_
                 refine nj_seq ?_
                 refine cj_seq ?_
                 refine cj_reg ?_
                 refine lp rfl (p_lbw ty28 rfl (j := 8) rfl rfl) ?_
                 refine r_sb (vs := [s3.v, .int .i64 y2.1.Change, .int .i64 y2.1.Clap, .int .i64 y2.1.Break, .int .i64 y2.1.Half]) (j := 11) ty28 rfl rfl rfl rfl rfl rfl rfl ?_
                 refine lj_seq ?_
                 obtain rfl := Option.some.inj hm
                 exact cj_rt (s3, (((xg4.set y12.1.toNat ((TItem.mk y67.1 e13.Places e13.Long e13.Parts), ge13)).set y12.1.toNat ((TItem.mk y67.1 e13.Places y68.1 e13.Parts), ge13)).set y12.1.toNat ((TItem.mk y67.1 e13.Places y68.1 q74), s92))) [9, 0, 4] Tryz.results4 (.agg (k := 11) ty28 rfl rfl rfl .nil) rfl rfl
        ·refine r_bs R9 [(ByteArray.mk [122, 122].toArray), ByteArray.empty, (ByteArray.mk [97, 108, 116, 111].toArray)] rfl rfl rfl (fun _ => by kernel_rfl) rfl (fun s96 => ?_)
         refine lj_nil ?_
         refine cnI _ _ (sof1 rfl rfl (fun _ h => h.picks [3, 3, 3, 3, 3] rfl)) ?_
         refine at_each (rs := [11]) (by kernel_rfl) (by decide) ?_
         refine (.cons rfl (fun I cnI => ?_) .nil)
         ·refine r_call [1] cf16 rfl rfl (ok_gleemake_Stream_Odd b0_ s0_0_ a0_0 y67.2 1 86400000 hy68) rfl rfl (.cons (.ro 6 rfl) .nil) (fun _ => rfl) rfl (fun _ => ?_)
          refine lj_nil ?_
          refine cnI _ _ (sof1 rfl rfl (fun _ h => h.picks [3, 3, 3, 3, 3] rfl)) ?_
          refine at_each (rs := [16]) (by kernel_rfl) (by decide) ?_
          refine (.cons rfl (fun I cnI => ?_) .nil)
          ·refine r_call [] cf18 rfl rfl (ok_slices_Clone_string_string ge13 e13.Parts hy69) rfl rfl (.cons (.imp (.ro 5 rfl) (fun _ h => (Lk.at_ h (getI_spec he13G).2))) .nil) (fun _ => rfl) rfl (fun s97 => ?_)
           refine lj_nil ?_
           refine cnI _ _ (sof1 rfl rfl (fun _ h => h.picks [4, 4, 4, 4, 4] rfl)) ?_
           refine at_each (rs := [19]) (by kernel_rfl) (by decide) ?_
           refine (.cons rfl (fun I cnI => ?_) .nil)
           ·refine r_call [1] cf17 rfl rfl (ok_gleemake_Stream_Some b0_ s0_0_ a0_0 y68.2 s96 [(ByteArray.mk [122, 122].toArray), ByteArray.empty, (ByteArray.mk [97, 108, 116, 111].toArray)] hy72) rfl rfl (.cons (.ro 7 rfl) (.cons (.row 1 rfl) .nil)) (fun _ => rfl) rfl (fun _ => ?_)
            refine lj_nil ?_
            refine cnI _ _ (sof1 rfl rfl (fun _ h => h.picks [4, 4, 4, 4, 4] rfl)) ?_
            refine at_each (rs := [20]) (by kernel_rfl) (by decide) ?_
            refine (.cons rfl (fun I cnI => ?_) .nil)
            ·refine r_bs R9 [y72.1] rfl rfl rfl (fun _ => by kernel_rfl) rfl (fun s98 => ?_)
             refine lj_nil ?_
             refine cnI _ _ (sof1 rfl rfl (fun _ h => h.picks [5, 5, 5, 5, 5] rfl)) ?_
             refine at_each (rs := [21]) (by kernel_rfl) (by decide) ?_
             refine (.cons rfl (fun I cnI => ?_) .nil)
             ·refine r_app (k := 2) Tryz.underlying45 ty9 rfl rfl rfl rfl (.row 0 rfl) hq74 rfl (fun s99 => ?_)
              refine lj_nil ?_
              refine cnI _ _ (sof1 rfl rfl (fun _ h => h.picks [5, 5, 5, 5, 5] rfl)) ?_
              refine at_take2 22 rfl (by kernel_rfl) (by kernel_rfl) (by kernel_rfl) (fun _ h => h.picks [0, 1, 1, 1] rfl) rfl rfl (p_ncs rfl hp79) (fun _ h => h.picks [5, 6, 6, 6] rfl) ?_
              refine at_take2 23 rfl (by kernel_rfl) (by kernel_rfl) (by kernel_rfl) (fun _ h => h.picks [0, 1, 1, 1] rfl) rfl rfl (p_fas fl47_0 rfl hp79) (fun _ h => h.picks [5, 6, 6, 6] rfl) ?_
              refine at_each (rs := [24]) (by kernel_rfl) (by decide) ?_
              refine (.cons rfl (fun I cnI => ?_) .nil)
              ·refine r_fact (F := Lk N47 (y2.1.Items.set y12.1.toNat (TItem.mk y67.1 e13.Places e13.Long e13.Parts)) (xg4.set y12.1.toNat ((TItem.mk y67.1 e13.Places e13.Long e13.Parts), ge13))) (.imp (.and (.ro 7 rfl) (.imp (.ro 7 rfl) (fun _ h => (Lk.at_ h (getI_spec he13G).2)))) (fun _ h => Lk.set h.1 h.2)) ?_
               refine r_ste (k := 7) (o := 0) (vs := [.string y67.1]) ty9 rfl rfl rfl rfl rfl rfl rfl (getI_spec he13G).2 ((TItem.mk y67.1 e13.Places e13.Long e13.Parts), ge13) rfl rfl ?_
               refine lj_nil ?_
               refine cnI _ _ (sof2 rfl rfl (fun _ h => h.picks [6, 7, 7, 7] rfl)) ?_
               refine at_take2 25 rfl (by kernel_rfl) (by kernel_rfl) (by kernel_rfl) (fun _ h => h.picks [0, 1, 1, 1] rfl) rfl rfl (p_ncs rfl hp79) (fun _ h => h.picks [6, 7, 7, 7] rfl) ?_
               refine at_take2 26 rfl (by kernel_rfl) (by kernel_rfl) (by kernel_rfl) (fun _ h => h.picks [0, 1, 1, 1] rfl) rfl rfl (p_fas fl47_2 rfl hp79) (fun _ h => h.picks [6, 7, 7, 7] rfl) ?_
               refine at_each (rs := [27]) (by kernel_rfl) (by decide) ?_
               refine (.cons rfl (fun I cnI => ?_) .nil)
               ·refine r_fact (F := Lk N47 ((y2.1.Items.set y12.1.toNat (TItem.mk y67.1 e13.Places e13.Long e13.Parts)).set y12.1.toNat (TItem.mk y67.1 e13.Places y68.1 e13.Parts)) ((xg4.set y12.1.toNat ((TItem.mk y67.1 e13.Places e13.Long e13.Parts), ge13)).set y12.1.toNat ((TItem.mk y67.1 e13.Places y68.1 e13.Parts), ge13))) (.imp (.and (.ro 0 rfl) (.imp (.ro 8 rfl) (fun _ h => (Lk.at_ h (getI_spec he13G).2)))) (fun _ h => Lk.set h.1 h.2)) ?_
                refine r_ste (k := 8) (o := 2) (vs := [.int .i64 y68.1]) ty3 rfl rfl rfl rfl rfl rfl rfl (set_he (getI_spec he13G).2) ((TItem.mk y67.1 e13.Places y68.1 e13.Parts), ge13) rfl rfl ?_
                refine lj_nil ?_
                refine cnI _ _ (sof2 rfl rfl (fun _ h => h.picks [7, 8, 8, 8] rfl)) ?_
                refine at_take2 28 rfl (by kernel_rfl) (by kernel_rfl) (by kernel_rfl) (fun _ h => h.picks [0, 1, 1, 1] rfl) rfl rfl (p_ncs rfl hp79) (fun _ h => h.picks [7, 8, 8, 8] rfl) ?_
                refine at_take2 29 rfl (by kernel_rfl) (by kernel_rfl) (by kernel_rfl) (fun _ h => h.picks [0, 1, 1, 1] rfl) rfl rfl (p_fas fl47_3 rfl hp79) (fun _ h => h.picks [7, 8, 8, 8] rfl) ?_
                refine at_each (rs := [30]) (by kernel_rfl) (by decide) ?_
                refine (.cons rfl (fun I cnI => ?_) .nil)
                ·refine r_fz 4 rfl ?_
                 refine r_fact (F := Lk N47 (((y2.1.Items.set y12.1.toNat (TItem.mk y67.1 e13.Places e13.Long e13.Parts)).set y12.1.toNat (TItem.mk y67.1 e13.Places y68.1 e13.Parts)).set y12.1.toNat (TItem.mk y67.1 e13.Places y68.1 q74)) (((xg4.set y12.1.toNat ((TItem.mk y67.1 e13.Places e13.Long e13.Parts), ge13)).set y12.1.toNat ((TItem.mk y67.1 e13.Places y68.1 e13.Parts), ge13)).set y12.1.toNat ((TItem.mk y67.1 e13.Places y68.1 q74), s99))) (.imp (.and (.ro 1 rfl) (.ro 0 rfl)) (fun _ h => Lk.set h.1 h.2)) ?_
                 refine r_ste (k := 9) (o := 3) (vs := [s99.v]) ty45 rfl rfl rfl rfl rfl rfl rfl (set_he (set_he (getI_spec he13G).2)) ((TItem.mk y67.1 e13.Places y68.1 q74), s99) rfl rfl ?_
                 refine lj_nil ?_
                 refine cnI _ _ (sof2 rfl rfl (fun _ h => h.picks [8, 9, 9, 9] rfl)) ?_
                 refine at_done (by kernel_rfl) ?_
                 refine nj_blk ?_
                 refine nj_seq ?_
                 refine cj_seq ?_
                 refine cj_reg ?_
                 refine lp rfl (p_lbw ty28 rfl (j := 8) rfl rfl) ?_
                 refine r_sb (vs := [s3.v, .int .i64 y2.1.Change, .int .i64 y2.1.Clap, .int .i64 y2.1.Break, .int .i64 y2.1.Half]) (j := 11) ty28 rfl rfl rfl rfl rfl rfl rfl ?_
                 refine lj_seq ?_
                 obtain rfl := Option.some.inj hm
                 exact cj_rt (s3, (((xg4.set y12.1.toNat ((TItem.mk y67.1 e13.Places e13.Long e13.Parts), ge13)).set y12.1.toNat ((TItem.mk y67.1 e13.Places y68.1 e13.Parts), ge13)).set y12.1.toNat ((TItem.mk y67.1 e13.Places y68.1 q74), s99))) [9, 0, 4] Tryz.results4 (.agg (k := 11) ty28 rfl rfl rfl .nil) rfl rfl
       ·refine r_bs R9 [(ByteArray.mk [122, 122].toArray), ByteArray.empty, (ByteArray.mk [97, 108, 116, 111].toArray)] rfl rfl rfl (fun _ => by kernel_rfl) rfl (fun s103 => ?_)
        refine lj_nil ?_
        refine cnI _ _ (sof1 rfl rfl (fun _ h => h.picks [3, 3, 3, 3, 3] rfl)) ?_
        refine at_each (rs := [9]) (by kernel_rfl) (by decide) ?_
        refine (.cons rfl (fun I cnI => ?_) .nil)
        ·refine r_call [2] cf17 rfl rfl (ok_gleemake_Stream_Some b0_ s0_0_ a0_0 y12.2 s81 [e13.Key, ByteArray.empty, (ByteArray.mk [97].toArray)] hy67) rfl rfl (.cons (.ro 6 rfl) (.cons (.row 1 rfl) .nil)) (fun _ => rfl) rfl (fun _ => ?_)
         refine lj_nil ?_
         refine cnI _ _ (sof1 rfl rfl (fun _ h => h.picks [3, 3, 3, 3, 3] rfl)) ?_
         refine at_each (rs := [11]) (by kernel_rfl) (by decide) ?_
         refine (.cons rfl (fun I cnI => ?_) .nil)
         ·refine r_call [0] cf16 rfl rfl (ok_gleemake_Stream_Odd b0_ s0_0_ a0_0 y67.2 1 86400000 hy68) rfl rfl (.cons (.ro 6 rfl) .nil) (fun _ => rfl) rfl (fun _ => ?_)
          refine lj_nil ?_
          refine cnI _ _ (sof1 rfl rfl (fun _ h => h.picks [3, 3, 3, 3, 3] rfl)) ?_
          refine at_each (rs := [16]) (by kernel_rfl) (by decide) ?_
          refine (.cons rfl (fun I cnI => ?_) .nil)
          ·refine r_call [] cf18 rfl rfl (ok_slices_Clone_string_string ge13 e13.Parts hy69) rfl rfl (.cons (.imp (.ro 5 rfl) (fun _ h => (Lk.at_ h (getI_spec he13G).2))) .nil) (fun _ => rfl) rfl (fun s104 => ?_)
           refine lj_nil ?_
           refine cnI _ _ (sof1 rfl rfl (fun _ h => h.picks [4, 4, 4, 4, 4] rfl)) ?_
           refine at_each (rs := [19]) (by kernel_rfl) (by decide) ?_
           refine (.cons rfl (fun I cnI => ?_) .nil)
           ·refine r_call [1] cf17 rfl rfl (ok_gleemake_Stream_Some b0_ s0_0_ a0_0 y68.2 s103 [(ByteArray.mk [122, 122].toArray), ByteArray.empty, (ByteArray.mk [97, 108, 116, 111].toArray)] hy72) rfl rfl (.cons (.ro 7 rfl) (.cons (.row 1 rfl) .nil)) (fun _ => rfl) rfl (fun _ => ?_)
            refine lj_nil ?_
            refine cnI _ _ (sof1 rfl rfl (fun _ h => h.picks [4, 4, 4, 4, 4] rfl)) ?_
            refine at_each (rs := [20]) (by kernel_rfl) (by decide) ?_
            refine (.cons rfl (fun I cnI => ?_) .nil)
            ·refine r_bs R9 [y72.1] rfl rfl rfl (fun _ => by kernel_rfl) rfl (fun s105 => ?_)
             refine lj_nil ?_
             refine cnI _ _ (sof1 rfl rfl (fun _ h => h.picks [5, 5, 5, 5, 5] rfl)) ?_
             refine at_each (rs := [21]) (by kernel_rfl) (by decide) ?_
             refine (.cons rfl (fun I cnI => ?_) .nil)
             ·refine r_app (k := 2) Tryz.underlying45 ty9 rfl rfl rfl rfl (.row 0 rfl) hq74 rfl (fun s106 => ?_)
              refine lj_nil ?_
              refine cnI _ _ (sof1 rfl rfl (fun _ h => h.picks [5, 5, 5, 5, 5] rfl)) ?_
              refine at_take2 22 rfl (by kernel_rfl) (by kernel_rfl) (by kernel_rfl) (fun _ h => h.picks [0, 1, 1, 1] rfl) rfl rfl (p_ncs rfl hp79) (fun _ h => h.picks [5, 6, 6, 6] rfl) ?_
              refine at_take2 23 rfl (by kernel_rfl) (by kernel_rfl) (by kernel_rfl) (fun _ h => h.picks [0, 1, 1, 1] rfl) rfl rfl (p_fas fl47_0 rfl hp79) (fun _ h => h.picks [5, 6, 6, 6] rfl) ?_
              refine at_each (rs := [24]) (by kernel_rfl) (by decide) ?_
              refine (.cons rfl (fun I cnI => ?_) .nil)
              ·refine r_fact (F := Lk N47 (y2.1.Items.set y12.1.toNat (TItem.mk y67.1 e13.Places e13.Long e13.Parts)) (xg4.set y12.1.toNat ((TItem.mk y67.1 e13.Places e13.Long e13.Parts), ge13))) (.imp (.and (.ro 7 rfl) (.imp (.ro 7 rfl) (fun _ h => (Lk.at_ h (getI_spec he13G).2)))) (fun _ h => Lk.set h.1 h.2)) ?_
               refine r_ste (k := 7) (o := 0) (vs := [.string y67.1]) ty9 rfl rfl rfl rfl rfl rfl rfl (getI_spec he13G).2 ((TItem.mk y67.1 e13.Places e13.Long e13.Parts), ge13) rfl rfl ?_
               refine lj_nil ?_
               refine cnI _ _ (sof2 rfl rfl (fun _ h => h.picks [6, 7, 7, 7] rfl)) ?_
               refine at_take2 25 rfl (by kernel_rfl) (by kernel_rfl) (by kernel_rfl) (fun _ h => h.picks [0, 1, 1, 1] rfl) rfl rfl (p_ncs rfl hp79) (fun _ h => h.picks [6, 7, 7, 7] rfl) ?_
               refine at_take2 26 rfl (by kernel_rfl) (by kernel_rfl) (by kernel_rfl) (fun _ h => h.picks [0, 1, 1, 1] rfl) rfl rfl (p_fas fl47_2 rfl hp79) (fun _ h => h.picks [6, 7, 7, 7] rfl) ?_
               refine at_each (rs := [27]) (by kernel_rfl) (by decide) ?_
               refine (.cons rfl (fun I cnI => ?_) .nil)
               ·refine r_fact (F := Lk N47 ((y2.1.Items.set y12.1.toNat (TItem.mk y67.1 e13.Places e13.Long e13.Parts)).set y12.1.toNat (TItem.mk y67.1 e13.Places y68.1 e13.Parts)) ((xg4.set y12.1.toNat ((TItem.mk y67.1 e13.Places e13.Long e13.Parts), ge13)).set y12.1.toNat ((TItem.mk y67.1 e13.Places y68.1 e13.Parts), ge13))) (.imp (.and (.ro 0 rfl) (.imp (.ro 8 rfl) (fun _ h => (Lk.at_ h (getI_spec he13G).2)))) (fun _ h => Lk.set h.1 h.2)) ?_
                refine r_ste (k := 8) (o := 2) (vs := [.int .i64 y68.1]) ty3 rfl rfl rfl rfl rfl rfl rfl (set_he (getI_spec he13G).2) ((TItem.mk y67.1 e13.Places y68.1 e13.Parts), ge13) rfl rfl ?_
                refine lj_nil ?_
                refine cnI _ _ (sof2 rfl rfl (fun _ h => h.picks [7, 8, 8, 8] rfl)) ?_
                refine at_take2 28 rfl (by kernel_rfl) (by kernel_rfl) (by kernel_rfl) (fun _ h => h.picks [0, 1, 1, 1] rfl) rfl rfl (p_ncs rfl hp79) (fun _ h => h.picks [7, 8, 8, 8] rfl) ?_
                refine at_take2 29 rfl (by kernel_rfl) (by kernel_rfl) (by kernel_rfl) (fun _ h => h.picks [0, 1, 1, 1] rfl) rfl rfl (p_fas fl47_3 rfl hp79) (fun _ h => h.picks [7, 8, 8, 8] rfl) ?_
                refine at_each (rs := [30]) (by kernel_rfl) (by decide) ?_
                refine (.cons rfl (fun I cnI => ?_) .nil)
                ·refine r_fz 4 rfl ?_
                 refine r_fact (F := Lk N47 (((y2.1.Items.set y12.1.toNat (TItem.mk y67.1 e13.Places e13.Long e13.Parts)).set y12.1.toNat (TItem.mk y67.1 e13.Places y68.1 e13.Parts)).set y12.1.toNat (TItem.mk y67.1 e13.Places y68.1 q74)) (((xg4.set y12.1.toNat ((TItem.mk y67.1 e13.Places e13.Long e13.Parts), ge13)).set y12.1.toNat ((TItem.mk y67.1 e13.Places y68.1 e13.Parts), ge13)).set y12.1.toNat ((TItem.mk y67.1 e13.Places y68.1 q74), s106))) (.imp (.and (.ro 1 rfl) (.ro 0 rfl)) (fun _ h => Lk.set h.1 h.2)) ?_
                 refine r_ste (k := 9) (o := 3) (vs := [s106.v]) ty45 rfl rfl rfl rfl rfl rfl rfl (set_he (set_he (getI_spec he13G).2)) ((TItem.mk y67.1 e13.Places y68.1 q74), s106) rfl rfl ?_
                 refine lj_nil ?_
                 refine cnI _ _ (sof2 rfl rfl (fun _ h => h.picks [8, 9, 9, 9] rfl)) ?_
                 refine at_done (by kernel_rfl) ?_
                 refine nj_blk ?_
                 refine nj_seq ?_
                 refine cj_seq ?_
                 refine cj_reg ?_
                 refine lp rfl (p_lbw ty28 rfl (j := 8) rfl rfl) ?_
                 refine r_sb (vs := [s3.v, .int .i64 y2.1.Change, .int .i64 y2.1.Clap, .int .i64 y2.1.Break, .int .i64 y2.1.Half]) (j := 11) ty28 rfl rfl rfl rfl rfl rfl rfl ?_
                 refine lj_seq ?_
                 obtain rfl := Option.some.inj hm
                 exact cj_rt (s3, (((xg4.set y12.1.toNat ((TItem.mk y67.1 e13.Places e13.Long e13.Parts), ge13)).set y12.1.toNat ((TItem.mk y67.1 e13.Places y68.1 e13.Parts), ge13)).set y12.1.toNat ((TItem.mk y67.1 e13.Places y68.1 q74), s106))) [9, 0, 4] Tryz.results4 (.agg (k := 11) ty28 rfl rfl rfl .nil) rfl rfl
      ·refine r_bs R9 [(ByteArray.mk [122, 122].toArray), ByteArray.empty, (ByteArray.mk [97, 108, 116, 111].toArray)] rfl rfl rfl (fun _ => by kernel_rfl) rfl (fun s110 => ?_)
       refine lj_nil ?_
       refine cnI _ _ (sof1 rfl rfl (fun _ h => h.picks [2, 2, 2, 2, 2] rfl)) ?_
       refine at_each (rs := [8]) (by kernel_rfl) (by decide) ?_
       refine (.cons rfl (fun I cnI => ?_) .nil)
       ·refine r_bs R9 [e13.Key, ByteArray.empty, (ByteArray.mk [97].toArray)] rfl rfl rfl (fun _ => by kernel_rfl) rfl (fun s111 => ?_)
        refine lj_nil ?_
        refine cnI _ _ (sof1 rfl rfl (fun _ h => h.picks [3, 3, 3, 3, 3] rfl)) ?_
        refine at_each (rs := [9]) (by kernel_rfl) (by decide) ?_
        refine (.cons rfl (fun I cnI => ?_) .nil)
        ·refine r_call [2] cf17 rfl rfl (ok_gleemake_Stream_Some b0_ s0_0_ a0_0 y12.2 s111 [e13.Key, ByteArray.empty, (ByteArray.mk [97].toArray)] hy67) rfl rfl (.cons (.ro 6 rfl) (.cons (.row 0 rfl) .nil)) (fun _ => rfl) rfl (fun _ => ?_)
         refine lj_nil ?_
         refine cnI _ _ (sof1 rfl rfl (fun _ h => h.picks [3, 3, 3, 3, 3] rfl)) ?_
         refine at_each (rs := [11]) (by kernel_rfl) (by decide) ?_
         refine (.cons rfl (fun I cnI => ?_) .nil)
         ·refine r_call [0] cf16 rfl rfl (ok_gleemake_Stream_Odd b0_ s0_0_ a0_0 y67.2 1 86400000 hy68) rfl rfl (.cons (.ro 6 rfl) .nil) (fun _ => rfl) rfl (fun _ => ?_)
          refine lj_nil ?_
          refine cnI _ _ (sof1 rfl rfl (fun _ h => h.picks [3, 3, 3, 3, 3] rfl)) ?_
          refine at_each (rs := [16]) (by kernel_rfl) (by decide) ?_
          refine (.cons rfl (fun I cnI => ?_) .nil)
          ·refine r_call [] cf18 rfl rfl (ok_slices_Clone_string_string ge13 e13.Parts hy69) rfl rfl (.cons (.imp (.ro 5 rfl) (fun _ h => (Lk.at_ h (getI_spec he13G).2))) .nil) (fun _ => rfl) rfl (fun s112 => ?_)
           refine lj_nil ?_
           refine cnI _ _ (sof1 rfl rfl (fun _ h => h.picks [4, 4, 4, 4, 4] rfl)) ?_
           refine at_each (rs := [19]) (by kernel_rfl) (by decide) ?_
           refine (.cons rfl (fun I cnI => ?_) .nil)
           ·refine r_call [1] cf17 rfl rfl (ok_gleemake_Stream_Some b0_ s0_0_ a0_0 y68.2 s110 [(ByteArray.mk [122, 122].toArray), ByteArray.empty, (ByteArray.mk [97, 108, 116, 111].toArray)] hy72) rfl rfl (.cons (.ro 7 rfl) (.cons (.row 2 rfl) .nil)) (fun _ => rfl) rfl (fun _ => ?_)
            refine lj_nil ?_
            refine cnI _ _ (sof1 rfl rfl (fun _ h => h.picks [4, 4, 4, 4, 4] rfl)) ?_
            refine at_each (rs := [20]) (by kernel_rfl) (by decide) ?_
            refine (.cons rfl (fun I cnI => ?_) .nil)
            ·refine r_bs R9 [y72.1] rfl rfl rfl (fun _ => by kernel_rfl) rfl (fun s113 => ?_)
             refine lj_nil ?_
             refine cnI _ _ (sof1 rfl rfl (fun _ h => h.picks [5, 5, 5, 5, 5] rfl)) ?_
             refine at_each (rs := [21]) (by kernel_rfl) (by decide) ?_
             refine (.cons rfl (fun I cnI => ?_) .nil)
             ·refine r_app (k := 2) Tryz.underlying45 ty9 rfl rfl rfl rfl (.row 0 rfl) hq74 rfl (fun s114 => ?_)
              refine lj_nil ?_
              refine cnI _ _ (sof1 rfl rfl (fun _ h => h.picks [5, 5, 5, 5, 5] rfl)) ?_
              refine at_take2 22 rfl (by kernel_rfl) (by kernel_rfl) (by kernel_rfl) (fun _ h => h.picks [0, 1, 1, 1] rfl) rfl rfl (p_ncs rfl hp79) (fun _ h => h.picks [5, 6, 6, 6] rfl) ?_
              refine at_take2 23 rfl (by kernel_rfl) (by kernel_rfl) (by kernel_rfl) (fun _ h => h.picks [0, 1, 1, 1] rfl) rfl rfl (p_fas fl47_0 rfl hp79) (fun _ h => h.picks [5, 6, 6, 6] rfl) ?_
              refine at_each (rs := [24]) (by kernel_rfl) (by decide) ?_
              refine (.cons rfl (fun I cnI => ?_) .nil)
              ·refine r_fact (F := Lk N47 (y2.1.Items.set y12.1.toNat (TItem.mk y67.1 e13.Places e13.Long e13.Parts)) (xg4.set y12.1.toNat ((TItem.mk y67.1 e13.Places e13.Long e13.Parts), ge13))) (.imp (.and (.ro 7 rfl) (.imp (.ro 7 rfl) (fun _ h => (Lk.at_ h (getI_spec he13G).2)))) (fun _ h => Lk.set h.1 h.2)) ?_
               refine r_ste (k := 7) (o := 0) (vs := [.string y67.1]) ty9 rfl rfl rfl rfl rfl rfl rfl (getI_spec he13G).2 ((TItem.mk y67.1 e13.Places e13.Long e13.Parts), ge13) rfl rfl ?_
               refine lj_nil ?_
               refine cnI _ _ (sof2 rfl rfl (fun _ h => h.picks [6, 7, 7, 7] rfl)) ?_
               refine at_take2 25 rfl (by kernel_rfl) (by kernel_rfl) (by kernel_rfl) (fun _ h => h.picks [0, 1, 1, 1] rfl) rfl rfl (p_ncs rfl hp79) (fun _ h => h.picks [6, 7, 7, 7] rfl) ?_
               refine at_take2 26 rfl (by kernel_rfl) (by kernel_rfl) (by kernel_rfl) (fun _ h => h.picks [0, 1, 1, 1] rfl) rfl rfl (p_fas fl47_2 rfl hp79) (fun _ h => h.picks [6, 7, 7, 7] rfl) ?_
               refine at_each (rs := [27]) (by kernel_rfl) (by decide) ?_
               refine (.cons rfl (fun I cnI => ?_) .nil)
               ·refine r_fact (F := Lk N47 ((y2.1.Items.set y12.1.toNat (TItem.mk y67.1 e13.Places e13.Long e13.Parts)).set y12.1.toNat (TItem.mk y67.1 e13.Places y68.1 e13.Parts)) ((xg4.set y12.1.toNat ((TItem.mk y67.1 e13.Places e13.Long e13.Parts), ge13)).set y12.1.toNat ((TItem.mk y67.1 e13.Places y68.1 e13.Parts), ge13))) (.imp (.and (.ro 0 rfl) (.imp (.ro 8 rfl) (fun _ h => (Lk.at_ h (getI_spec he13G).2)))) (fun _ h => Lk.set h.1 h.2)) ?_
                refine r_ste (k := 8) (o := 2) (vs := [.int .i64 y68.1]) ty3 rfl rfl rfl rfl rfl rfl rfl (set_he (getI_spec he13G).2) ((TItem.mk y67.1 e13.Places y68.1 e13.Parts), ge13) rfl rfl ?_
                refine lj_nil ?_
                refine cnI _ _ (sof2 rfl rfl (fun _ h => h.picks [7, 8, 8, 8] rfl)) ?_
                refine at_take2 28 rfl (by kernel_rfl) (by kernel_rfl) (by kernel_rfl) (fun _ h => h.picks [0, 1, 1, 1] rfl) rfl rfl (p_ncs rfl hp79) (fun _ h => h.picks [7, 8, 8, 8] rfl) ?_
                refine at_take2 29 rfl (by kernel_rfl) (by kernel_rfl) (by kernel_rfl) (fun _ h => h.picks [0, 1, 1, 1] rfl) rfl rfl (p_fas fl47_3 rfl hp79) (fun _ h => h.picks [7, 8, 8, 8] rfl) ?_
                refine at_each (rs := [30]) (by kernel_rfl) (by decide) ?_
                refine (.cons rfl (fun I cnI => ?_) .nil)
                ·refine r_fz 4 rfl ?_
                 refine r_fact (F := Lk N47 (((y2.1.Items.set y12.1.toNat (TItem.mk y67.1 e13.Places e13.Long e13.Parts)).set y12.1.toNat (TItem.mk y67.1 e13.Places y68.1 e13.Parts)).set y12.1.toNat (TItem.mk y67.1 e13.Places y68.1 q74)) (((xg4.set y12.1.toNat ((TItem.mk y67.1 e13.Places e13.Long e13.Parts), ge13)).set y12.1.toNat ((TItem.mk y67.1 e13.Places y68.1 e13.Parts), ge13)).set y12.1.toNat ((TItem.mk y67.1 e13.Places y68.1 q74), s114))) (.imp (.and (.ro 1 rfl) (.ro 0 rfl)) (fun _ h => Lk.set h.1 h.2)) ?_
                 refine r_ste (k := 9) (o := 3) (vs := [s114.v]) ty45 rfl rfl rfl rfl rfl rfl rfl (set_he (set_he (getI_spec he13G).2)) ((TItem.mk y67.1 e13.Places y68.1 q74), s114) rfl rfl ?_
                 refine lj_nil ?_
                 refine cnI _ _ (sof2 rfl rfl (fun _ h => h.picks [8, 9, 9, 9] rfl)) ?_
                 refine at_done (by kernel_rfl) ?_
                 refine nj_blk ?_
                 refine nj_seq ?_
                 refine cj_seq ?_
                 refine cj_reg ?_
                 refine lp rfl (p_lbw ty28 rfl (j := 8) rfl rfl) ?_
                 refine r_sb (vs := [s3.v, .int .i64 y2.1.Change, .int .i64 y2.1.Clap, .int .i64 y2.1.Break, .int .i64 y2.1.Half]) (j := 11) ty28 rfl rfl rfl rfl rfl rfl rfl ?_
                 refine lj_seq ?_
                 obtain rfl := Option.some.inj hm
                 exact cj_rt (s3, (((xg4.set y12.1.toNat ((TItem.mk y67.1 e13.Places e13.Long e13.Parts), ge13)).set y12.1.toNat ((TItem.mk y67.1 e13.Places y68.1 e13.Parts), ge13)).set y12.1.toNat ((TItem.mk y67.1 e13.Places y68.1 q74), s114))) [9, 0, 4] Tryz.results4 (.agg (k := 11) ty28 rfl rfl rfl .nil) rfl rfl
    ·have hm := ifB_f hb hm
     refine cj_skip ?_
     refine nj_blk ?_
     refine nj_seq ?_
     refine cj_seq ?_
     refine cj_reg ?_
     refine lp rfl (p_lbw ty28 rfl (j := 1) rfl rfl) ?_
     refine r_sb (vs := [s3.v, .int .i64 y2.1.Change, .int .i64 y2.1.Clap, .int .i64 y2.1.Break, .int .i64 y2.1.Half]) (j := 4) ty28 rfl rfl rfl rfl rfl rfl rfl ?_
     refine lj_seq ?_
     obtain rfl := Option.some.inj hm
     exact cj_rt (s3, xg4) [2, 2, 0] Tryz.results4 (.agg (k := 4) ty28 rfl rfl rfl .nil) rfl rfl
 ·have hm := ifB_f hb hm
  refine cj_skip ?_
  refine nj_seq ?_
  refine cj_seq ?_
  refine cj_reg ?_
  refine lp rfl (p_lbw ty28 rfl (j := 1) rfl rfl) ?_
  refine r_sb (vs := [s3.v, .int .i64 y2.1.Change, .int .i64 y2.1.Clap, .int .i64 y2.1.Break, .int .i64 y2.1.Half]) (j := 4) ty28 rfl rfl rfl rfl rfl rfl rfl ?_
  refine lj_seq ?_
  obtain rfl := Option.some.inj hm
  exact cj_rt (s3, xg4) [2, 2, 0] Tryz.results4 (.agg (k := 4) ty28 rfl rfl rfl .nil) rfl rfl
theorem ok_gleeref2_Numbers (s0_ : SV) (a0 : (List Int)) {r : ByteArray} (hm : m_gleeref2_Numbers a0 = some r) :
  Ctr Tryz.prog 30 [s0_.v].toArray ([] : List Ent) [RdS R3 (SV.v s0_) a0, PowT] (X := Unit) (fun _ => .string r) (fun _ => []) := by
 unfold m_gleeref2_Numbers at hm
 refine ctr_mk (vs := [(0, s0_.v)]) Tryz.func30 rfl Tryz.ntmps30 rfl ⟨rfl, trivial⟩ (fun w0 A => ?_)
 refine cj_seq ?_
 refine cj_reg ?_
 refine lp rfl (p_as rfl) ?_
 refine lj_seq ?_
 refine cj_seq ?_
 refine cj_reg ?_
 refine lp rfl (p_as rfl) ?_
 refine lj_seq ?_
 refine cj_seq ?_
 refine cj_seq ?_
 refine cj_reg ?_
 refine lp rfl (p_mv rfl) ?_
 refine lp rfl (p_len Tryz.underlying22 rfl (.ro 0 rfl)) ?_
 refine lp rfl (p_mv rfl) ?_
 refine lj_seq ?_
 refine cj_nil R9 ?_
 obtain ⟨f8, hf8, hm⟩ := bindS hm
 refine cj_range (γ := SV) (m := (a0.length : Int)) hf8 nilS (fun u5 g6 => [(2, .string ByteArray.empty), (3, g6.v), (6, s0_.v)]) (fun u5 g6 => Sat w0 (keys ([] : List Ent)) A [.ro (RdS R3 (SV.v s0_) a0), .ro PowT, .row R9 (SV.v g6) u5]) ⟨rfl, rfl, rfl, rfl, rfl, trivial⟩ (fun _ h => h.picks [1, 1, 0] rfl) (nat_lt _) (fun _ h => (FactAt.get (F := RdS R3 (SV.v s0_) a0) (.ro 1 rfl) h).1) (fun _ _ => ⟨rfl, rfl, rfl, rfl⟩) ⟨rfl, rfl, rfl, rfl, rfl⟩ rfl rfl rfl (fun u5 g6 e => ?_) (fun aftk7 i1 x2 u5 g6 k7 hx3 hs J hJk7 hBk7 hX I cnk7 => ?_)
 ·have hm := Flow.fin_b e hm
  refine nj_seq ?_
  refine cj_seq ?_
  refine cj_reg ?_
  refine lp rfl (p_mv rfl) ?_
  obtain ⟨y15, hy15, hm⟩ := bindS hm
  refine r_call [] cf25 rfl rfl (ok_strings_Join g6 u5 (ByteArray.mk [32].toArray) hy15) rfl rfl (.cons (.row 2 rfl) .nil) (fun _ => rfl) rfl (fun _ => ?_)
  refine lp rfl (p_as rfl) ?_
  refine lj_seq ?_
  obtain rfl := Option.some.inj hm
  exact cj_rt () [] Tryz.results30 (.tmp rfl .nil) rfl rfl
 ·have hRk7 : ∀ t, k7 = .ret t → some t = some r := fun t e => by rw [hX t e] at hm; exact hm
  have hm := hs
  refine cj_seq ?_
  refine cj_reg ?_
  refine lp rfl (p_idx Tryz.underlying22 ty3 rfl rfl (.ro 0 rfl) (getI_nat.trans hx3)) ?_
  refine lp rfl (p_lde (o := 0) ty3 rfl rfl (.ro 0 rfl) hx3 rfl) ?_
  refine lp rfl (p_as rfl) ?_
  refine lj_seq ?_
  refine cj_reg ?_
  refine lp rfl (p_mv rfl) ?_
  refine lp rfl (p_mv rfl) ?_
  obtain ⟨y10, hy10, hm⟩ := bindS hm
  refine r_call [] cf24 rfl rfl (ok_strconv_Itoa x2 hy10) rfl rfl (.cons (.ro 1 rfl) .nil) (fun _ => rfl) rfl (fun _ => ?_)
  refine r_bs R9 [y10] rfl rfl rfl (fun _ => by kernel_rfl) rfl (fun s11 => ?_)
  obtain ⟨q12, hq12, hm⟩ := bindS hm
  refine r_app (k := 3) Tryz.underlying45 ty9 rfl rfl rfl rfl (.row 0 rfl) hq12 rfl (fun s13 => ?_)
  refine lp rfl (p_as rfl) ?_
  refine lj_nil ?_
  refine nj_blk ?_
  exact cnk7 _ _ q12 s13 (hJk7 _ (Option.some.inj hm).symm) ⟨rfl, rfl, rfl, rfl, rfl, trivial⟩ (fun _ h => h.picks [1, 1, 1] rfl)
theorem ok_gleeref2_ProgramLines (a0 : TProgram) (s0_0_ : SV) (xg0_0_ : List (TItem × SV)) {r : ByteArray} (hm : m_gleeref2_ProgramLines a0 = some r) :
  Ctr Tryz.prog 8 [.agg [s0_0_.v, .int .i64 a0.Change, .int .i64 a0.Clap, .int .i64 a0.Break, .int .i64 a0.Half].toArray].toArray ([] : List Ent) [Lk N47 a0.Items xg0_0_, RdS N47.R (SV.v s0_0_) xg0_0_, PowT] (X := Unit) (fun _ => .string r) (fun _ => []) := by
 unfold m_gleeref2_ProgramLines at hm
 refine ctr_mk (vs := [(0, .agg [s0_0_.v, .int .i64 a0.Change, .int .i64 a0.Clap, .int .i64 a0.Break, .int .i64 a0.Half].toArray)]) Tryz.func8 rfl Tryz.ntmps8 rfl ⟨rfl, trivial⟩ (fun w0 A => ?_)
 refine cj_pure (F := Lk N47 a0.Items xg0_0_) (.ro 0 rfl) (fun _ h => h.1) (fun hL0_0_ => ?_)
 refine cj_seq ?_
 refine cj_reg ?_
 refine r_bx (cs := [s0_0_.v, .int .i64 a0.Change, .int .i64 a0.Clap, .int .i64 a0.Break, .int .i64 a0.Half]) rfl rfl rfl (fun b1 => ?_)
 refine lp rfl (p_as rfl) ?_
 refine lj_seq ?_
 refine cj_seq ?_
 refine cj_reg ?_
 refine lp rfl (p_fab fl28_1 rfl) ?_
 refine lp rfl (p_lbs ty3 rfl (j := 0) rfl rfl) ?_
 refine lp rfl (p_fab fl28_2 rfl) ?_
 refine lp rfl (p_lbs ty3 rfl (j := 0) rfl rfl) ?_
 refine lp rfl (p_fab fl28_3 rfl) ?_
 refine lp rfl (p_lbs ty3 rfl (j := 0) rfl rfl) ?_
 refine lp rfl (p_fab fl28_4 rfl) ?_
 refine lp rfl (p_lbs ty3 rfl (j := 0) rfl rfl) ?_
 refine r_bs R3 [a0.Change, a0.Clap, a0.Break, a0.Half] rfl rfl rfl (fun _ => by kernel_rfl) rfl (fun s2 => ?_)
 obtain ⟨y3, hy3, hm⟩ := bindS hm
 refine r_call [] cf30 rfl rfl (ok_gleeref2_Numbers s2 [a0.Change, a0.Clap, a0.Break, a0.Half] hy3) rfl rfl (.cons (.row 0 rfl) (.cons (.ro 4 rfl) .nil)) (fun _ => rfl) rfl (fun _ => ?_)
 obtain ⟨c4, hc4, hm⟩ := bindS hm
 refine lp rfl (p_catM hc4 rfl rfl) ?_
 refine lp rfl (p_as rfl) ?_
 refine lj_seq ?_
 refine cj_seq ?_
 refine cj_seq ?_
 refine cj_reg ?_
 refine lp rfl (p_fab fl28_0 rfl) ?_
 refine lp rfl (p_lbs ty26 rfl (j := 1) rfl rfl) ?_
 refine lp rfl (p_lenG hL0_0_ Tryz.underlying26 rfl (.ro 3 rfl)) ?_
 refine lp rfl (p_mv rfl) ?_
 refine lj_seq ?_
 obtain ⟨f11, hf11, hm⟩ := bindS hm
 refine cj_range (γ := Unit) (m := (a0.Items.length : Int)) hf11 () (fun u8 g9 => [(2, .string ByteArray.empty), (3, .string u8), (18, s0_0_.v)]) (fun u8 g9 => Sat w0 (keys ([] : List Ent)) A [.ro (Lk N47 a0.Items xg0_0_), .ro (RdS N47.R (SV.v s0_0_) xg0_0_), .ro PowT]) ⟨rfl, rfl, rfl, rfl, rfl, trivial⟩ (fun _ h => h.picks [2, 2, 2] rfl) (nat_lt _) (fun _ h => by have h1 := (FactAt.get (F := RdS N47.R (SV.v s0_0_) xg0_0_) (.ro 3 rfl) h).1; rw [lk_len hL0_0_] at h1; exact h1) (fun _ _ => ⟨rfl, rfl, rfl, rfl⟩) ⟨rfl, rfl, rfl, rfl, rfl⟩ rfl rfl rfl (fun u8 g9 e => ?_) (fun aftk10 i5 x6 u8 g9 k10 hx7 hs J hJk10 hBk10 hX I cnk10 => ?_)
 ·have hm := Flow.fin_b e hm
  refine nj_seq ?_
  refine cj_seq ?_
  refine cj_reg ?_
  refine lp rfl (p_mv rfl) ?_
  refine lp rfl (p_as rfl) ?_
  refine lj_seq ?_
  obtain rfl := Option.some.inj hm
  exact cj_rt () [] Tryz.results8 (.tmp rfl .nil) rfl rfl
 ·have hRk10 : ∀ t, k10 = .ret t → some t = some r := fun t e => by rw [hX t e] at hm; exact hm
  have hm := hs
  refine cj_seq ?_
  refine cj_reg ?_
  obtain ⟨gx6, hx7G⟩ := lk_get hL0_0_ hx7
  refine lp rfl (p_idx Tryz.underlying26 ty47 rfl rfl (.ro 1 rfl) (getI_nat.trans hx7G)) ?_
  refine lp rfl (p_leaN (cs := [.string x6.Key, .string x6.Places, .int .i64 x6.Long, gx6.v]) ty47 rfl (.ro 1 rfl) hx7G rfl) ?_
  refine r_al ty47 rfl (fun b12 => ?_)
  refine r_sb (vs := [.string x6.Key, .string x6.Places, .int .i64 x6.Long, gx6.v]) (j := 0) ty47 rfl rfl rfl rfl rfl rfl rfl ?_
  refine lj_seq ?_
  refine cj_quiet (by kernel_rfl) (by kernel_rfl) ?_
  refine q_p rfl (p_mv rfl) ?_
  refine q_p rfl (p_fab fl47_0 rfl) ?_
  refine q_p rfl (p_lbs ty9 rfl (j := 0) rfl rfl) ?_
  obtain ⟨c13, hc13, hm⟩ := bindS hm
  refine q_p rfl (p_catM hc13 rfl rfl) ?_
  refine q_p rfl (p_fab fl47_1 rfl) ?_
  refine q_p rfl (p_lbs ty9 rfl (j := 0) rfl rfl) ?_
  obtain ⟨c14, hc14, hm⟩ := bindS hm
  refine q_p rfl (p_catM hc14 rfl rfl) ?_
  obtain ⟨c15, hc15, hm⟩ := bindS hm
  refine q_p rfl (p_catM hc15 rfl rfl) ?_
  refine q_p rfl (p_fab fl47_2 rfl) ?_
  refine q_p rfl (p_lbs ty3 rfl (j := 0) rfl rfl) ?_
  obtain ⟨y16, hy16, hm⟩ := bindS hm
  refine q_call (.string y16) cf24 rfl rfl (ok_strconv_Itoa x6.Long hy16) (.cons (.ro 3 rfl) .nil) (fun _ => rfl) (fun _ => rfl) rfl ?_
  obtain ⟨c17, hc17, hm⟩ := bindS hm
  refine q_p rfl (p_catM hc17 rfl rfl) ?_
  obtain ⟨c18, hc18, hm⟩ := bindS hm
  refine q_p rfl (p_catM hc18 rfl rfl) ?_
  refine q_p rfl (p_fab fl47_3 rfl) ?_
  refine q_p rfl (p_lbs ty45 rfl (j := 0) rfl rfl) ?_
  obtain ⟨y19, hy19, hm⟩ := bindS hm
  refine q_call (.string y19) cf25 rfl rfl (ok_strings_Join gx6 x6.Parts (ByteArray.mk [44].toArray) hy19) (.cons (.imp (.ro 1 rfl) (fun _ h => (Lk.at_ h hx7G))) .nil) (fun _ => rfl) (fun _ => rfl) rfl ?_
  obtain ⟨c20, hc20, hm⟩ := bindS hm
  refine q_p rfl (p_catM hc20 rfl rfl) ?_
  obtain ⟨c21, hc21, hm⟩ := bindS hm
  refine q_p rfl (p_catM hc21 rfl rfl) ?_
  obtain ⟨c22, hc22, hm⟩ := bindS hm
  refine q_p rfl (p_catM hc22 rfl rfl) ?_
  refine q_p rfl (p_as rfl) ?_
  refine q_nil ?_
  refine nj_blk ?_
  exact cnk10 _ _ c22 () (hJk10 _ (Option.some.inj hm).symm) ⟨rfl, rfl, rfl, rfl, rfl, trivial⟩ (fun _ h => h.picks [1, 1, 1] rfl)
theorem ok_gleemake_Stream_Changed (b0_ : Nat) (s0_0_ : SV) (a0_0 : (List Int)) (a0_1 : Int) (a1 : ByteArray) (a2 : ByteArray) {r : ByteArray × Int} (hm : m_gleemake_Stream_Changed a0_0 a0_1 a1 a2 = some r) :
  Ctr Tryz.prog 20 [.pointer (some ⟨b0_, 0, none⟩), .string a1, .string a2].toArray [.box b0_ 25 [s0_0_.v, .int .i64 a0_1]] [RdS R3 (SV.v s0_0_) a0_0] (X := Unit) (fun _ => .string r.1) (fun _ => [.box b0_ 25 [s0_0_.v, .int .i64 r.2]]) := by
 unfold m_gleemake_Stream_Changed at hm
 refine ctr_mk (vs := [(0, .pointer (some ⟨b0_, 0, none⟩)), (1, .string a1), (2, .string a2)]) Tryz.func20 rfl Tryz.ntmps20 rfl ⟨rfl, rfl, rfl, trivial⟩ (fun w0 A => ?_)
 refine cj_seq ?_
 refine cj_reg ?_
 refine lp rfl (p_as rfl) ?_
 refine lj_seq ?_
 refine cj_seq ?_
 refine cj_seq ?_
 refine cj_reg ?_
 obtain ⟨k3, hk3, hm⟩ := bindS hm
 have hRk3 : ∀ t, k3 = .inr t → some t = some r := fun t e => by rw [e] at hm; exact hm
 refine lj_join (σ := Bool) (γ := Unit) (fun u1 => k3 = .inl u1) (fun u1 g2 => [(0, .pointer (some ⟨b0_, 0, none⟩)), (1, .string a1), (2, .string a2), (6, .string ByteArray.empty), (14, .bool u1)]) (fun u1 g2 => Sat w0 (keys [.box b0_ 25 [s0_0_.v, .int .i64 a0_1]]) A [.box b0_ 25 [s0_0_.v, .int .i64 a0_1], .ro (RdS R3 (SV.v s0_0_) a0_0)]) (fun u1 g2 hq => ?_) (fun J cnk3 => ?_)
 ·have hm := Sum.fin_l hq hm
  refine cj_if (b := u1) rfl (fun hb => ?_) (fun hb => ?_)
  ·have hm := ifB_t hb hm
   refine cj_seq ?_
   refine cj_reg ?_
   refine lp rfl (p_mv rfl) ?_
   refine lp rfl (p_as rfl) ?_
   refine lj_seq ?_
   obtain rfl := Option.some.inj hm
   exact cj_rt () [0] Tryz.results20 (.tmp rfl .nil) rfl rfl
  ·have hm := ifB_f hb hm
   refine cj_skip ?_
   refine nj_seq ?_
   refine cj_seq ?_
   refine cj_reg ?_
   refine lp rfl (p_mv rfl) ?_
   refine lp rfl (p_mv rfl) ?_
   refine lp rfl (p_lens Tryz.underlying9 rfl) ?_
   obtain ⟨y4, hy4, hm⟩ := bindS hm
   refine r_call [0] cf15 rfl rfl (ok_gleemake_Stream_Next b0_ s0_0_ a0_0 a0_1 (a1.size : Int) hy4) rfl rfl (.cons (.ro 0 rfl) .nil) (fun _ => rfl) rfl (fun _ => ?_)
   refine lp rfl (p_as rfl) ?_
   refine lj_seq ?_
   refine cj_seq ?_
   refine cj_reg ?_
   refine lp rfl (p_mv rfl) ?_
   refine lp rfl (p_mv rfl) ?_
   refine lp rfl (p_mv rfl) ?_
   refine lp rfl (p_lens Tryz.underlying9 rfl) ?_
   obtain ⟨y5, hy5, hm⟩ := bindS hm
   refine r_call [0] cf15 rfl rfl (ok_gleemake_Stream_Next b0_ s0_0_ a0_0 y4.2 (a2.size : Int) hy5) rfl rfl (.cons (.ro 0 rfl) .nil) (fun _ => rfl) rfl (fun _ => ?_)
   obtain ⟨c6, hc6, hm⟩ := bindS hm
   refine lp rfl (p_stri Tryz.underlying9 rfl rfl hc6) ?_
   refine lp rfl (p_as rfl) ?_
   refine lj_seq ?_
   refine cj_seq ?_
   refine cj_seq ?_
   refine cj_reg ?_
   refine lp rfl (p_mv rfl) ?_
   obtain ⟨y7, hy7, hm⟩ := bindS hm
   refine r_call [0] cf15 rfl rfl (ok_gleemake_Stream_Next b0_ s0_0_ a0_0 y5.2 3 hy7) rfl rfl (.cons (.ro 0 rfl) .nil) (fun _ => rfl) rfl (fun _ => ?_)
   refine lj_seq ?_
   refine cj_blk ?_
   refine cj_seq ?_
   refine cj_reg ?_
   refine lp rfl (p_eql rfl rfl) ?_
   refine lp rfl (p_as rfl) ?_
   refine lj_seq ?_
   refine cj_if (b := y7.1 == 0) rfl (fun hb => ?_) (fun hb => ?_)
   ·have hm := ifB_t hb hm
    refine cj_seq ?_
    refine cj_quiet (by kernel_rfl) (by kernel_rfl) ?_
    refine q_p rfl (p_mv rfl) ?_
    refine q_p rfl (p_mv rfl) ?_
    obtain ⟨c8, hc8, hm⟩ := bindS hm
    refine q_p rfl (p_strs Tryz.underlying9 rfl rfl rfl rfl rfl rfl rfl hc8) ?_
    refine q_p rfl (p_mv rfl) ?_
    refine q_p rfl (p_cvi Tryz.underlying5 Tryz.underlying21 rfl) ?_
    refine q_p rfl (p_cvs Tryz.underlying21 Tryz.underlying9 rfl) ?_
    obtain ⟨c9, hc9, hm⟩ := bindS hm
    refine q_p rfl (p_catM hc9 rfl rfl) ?_
    refine q_p rfl (p_mv rfl) ?_
    refine q_p rfl (p_mv rfl) ?_
    refine q_p rfl (p_add rfl rfl) ?_
    obtain ⟨c10, hc10, hm⟩ := bindS hm
    refine q_p rfl (p_strs Tryz.underlying9 rfl rfl rfl rfl rfl rfl rfl hc10) ?_
    obtain ⟨c11, hc11, hm⟩ := bindS hm
    refine q_p rfl (p_catM hc11 rfl rfl) ?_
    refine q_p rfl (p_as rfl) ?_
    refine q_nil ?_
    refine nj_seq ?_
    obtain rfl := Option.some.inj hm
    exact cj_rt () [0] Tryz.results20 (.tmp rfl .nil) rfl rfl
   ·have hm := ifB_f hb hm
    refine cj_seq ?_
    refine cj_reg ?_
    refine lp rfl (p_eql rfl rfl) ?_
    refine lp rfl (p_as rfl) ?_
    refine lj_seq ?_
    refine cj_if (b := y7.1 == 1) rfl (fun hb => ?_) (fun hb => ?_)
    ·have hm := ifB_t hb hm
     refine cj_seq ?_
     refine cj_quiet (by kernel_rfl) (by kernel_rfl) ?_
     refine q_p rfl (p_mv rfl) ?_
     refine q_p rfl (p_mv rfl) ?_
     obtain ⟨c12, hc12, hm⟩ := bindS hm
     refine q_p rfl (p_strs Tryz.underlying9 rfl rfl rfl rfl rfl rfl rfl hc12) ?_
     refine q_p rfl (p_mv rfl) ?_
     refine q_p rfl (p_cvi Tryz.underlying5 Tryz.underlying21 rfl) ?_
     refine q_p rfl (p_cvs Tryz.underlying21 Tryz.underlying9 rfl) ?_
     obtain ⟨c13, hc13, hm⟩ := bindS hm
     refine q_p rfl (p_catM hc13 rfl rfl) ?_
     refine q_p rfl (p_mv rfl) ?_
     refine q_p rfl (p_mv rfl) ?_
     obtain ⟨c14, hc14, hm⟩ := bindS hm
     refine q_p rfl (p_strs Tryz.underlying9 rfl rfl rfl rfl rfl rfl rfl hc14) ?_
     obtain ⟨c15, hc15, hm⟩ := bindS hm
     refine q_p rfl (p_catM hc15 rfl rfl) ?_
     refine q_p rfl (p_as rfl) ?_
     refine q_nil ?_
     refine nj_seq ?_
     obtain rfl := Option.some.inj hm
     exact cj_rt () [0] Tryz.results20 (.tmp rfl .nil) rfl rfl
    ·have hm := ifB_f hb hm
     refine cj_skip ?_
     refine nj_blk ?_
     refine nj_seq ?_
     refine cj_seq ?_
     refine cj_quiet (by kernel_rfl) (by kernel_rfl) ?_
     refine q_p rfl (p_mv rfl) ?_
     refine q_p rfl (p_mv rfl) ?_
     obtain ⟨c16, hc16, hm⟩ := bindS hm
     refine q_p rfl (p_strs Tryz.underlying9 rfl rfl rfl rfl rfl rfl rfl hc16) ?_
     refine q_p rfl (p_mv rfl) ?_
     refine q_p rfl (p_mv rfl) ?_
     refine q_p rfl (p_add rfl rfl) ?_
     obtain ⟨c17, hc17, hm⟩ := bindS hm
     refine q_p rfl (p_strs Tryz.underlying9 rfl rfl rfl rfl rfl rfl rfl hc17) ?_
     obtain ⟨c18, hc18, hm⟩ := bindS hm
     refine q_p rfl (p_catM hc18 rfl rfl) ?_
     refine q_p rfl (p_as rfl) ?_
     refine q_nil ?_
     refine nj_seq ?_
     obtain rfl := Option.some.inj hm
     exact cj_rt () [0] Tryz.results20 (.tmp rfl .nil) rfl rfl
 ·have hm := hk3
  refine lp rfl (p_mv rfl) ?_
  refine lp rfl (p_eqs rfl rfl) ?_
  refine lp rfl (p_mv rfl) ?_
  refine lcase (i := 11) (a1.toList == ByteArray.empty.toList) rfl (fun hb => ?_) (fun hb => ?_)
  ·have hm := ifB_t hb hm
   refine ls false rfl rfl rfl rfl ?_
   refine ls false rfl rfl rfl rfl ?_
   refine lp rfl (p_pkt rfl rfl) ?_
   refine lj_nil ?_
   exact cnk3 _ _ true () (Option.some.inj hm).symm ⟨rfl, rfl, rfl, rfl, rfl, trivial⟩ (fun _ h => h.picks [0, 0] rfl)
  ·have hm := ifB_f hb hm
   refine lg false rfl rfl rfl ?_
   refine lp rfl (p_mv rfl) ?_
   refine lg false rfl rfl rfl ?_
   refine lp rfl (p_eqs rfl rfl) ?_
   refine lp rfl (p_pkf rfl rfl) ?_
   refine lj_nil ?_
   exact cnk3 _ _ (a2.toList == ByteArray.empty.toList) () (Option.some.inj hm).symm ⟨rfl, rfl, rfl, rfl, rfl, trivial⟩ (fun _ h => h.picks [0, 0] rfl)
theorem ok_gleemake_Stream_ProgramText (b0_ : Nat) (s0_0_ : SV) (a0_0 : (List Int)) (a0_1 : Int) {r : ByteArray × Int} (hm : m_gleemake_Stream_ProgramText a0_0 a0_1 = some r) :
  Ctr Tryz.prog 5 [.pointer (some ⟨b0_, 0, none⟩)].toArray [.box b0_ 25 [s0_0_.v, .int .i64 a0_1]] [RdS R3 (SV.v s0_0_) a0_0, PowT] (X := Unit) (fun _ => .string r.1) (fun _ => [.box b0_ 25 [s0_0_.v, .int .i64 r.2]]) := by
 unfold m_gleemake_Stream_ProgramText at hm
 refine ctr_mk (vs := [(0, .pointer (some ⟨b0_, 0, none⟩))]) Tryz.func5 rfl Tryz.ntmps5 rfl ⟨rfl, trivial⟩ (fun w0 A => ?_)
 refine cj_seq ?_
 refine cj_reg ?_
 refine lp rfl (p_as rfl) ?_
 refine lj_seq ?_
 refine cj_seq ?_
 refine cj_reg ?_
 refine lp rfl (p_mv rfl) ?_
 obtain ⟨y1, hy1, hm⟩ := bindS hm
 refine r_callN [0] cf13 rfl rfl (ok_gleemake_Stream_RightProgram b0_ s0_0_ a0_0 a0_1 3 hy1) rfl rfl (.cons (.ro 0 rfl) .nil) rfl (fun ⟨s2, xg3⟩ => ?_)
 refine r_pure (F := Lk N47 y1.1.Items xg3) (.ro 1 rfl) (fun _ h => h.1) (fun hLs2 => ?_)
 obtain ⟨y4, hy4, hm⟩ := bindS hm
 refine r_call [] cf8 rfl rfl (ok_gleeref2_ProgramLines y1.1 s2 xg3 hy4) rfl rfl (.cons (.ro 1 rfl) (.cons (.row 0 rfl) (.cons (.ro 4 rfl) .nil))) (fun _ => rfl) rfl (fun _ => ?_)
 refine lp rfl (p_as rfl) ?_
 refine lj_seq ?_
 refine cj_seq ?_
 refine cj_seq ?_
 refine cj_reg ?_
 refine lp rfl (p_mv rfl) ?_
 refine r_bs R3 [0, 0, 1, 2] rfl rfl rfl (fun _ => by kernel_rfl) rfl (fun s5 => ?_)
 obtain ⟨y6, hy6, hm⟩ := bindS hm
 refine r_call [3] cf19 rfl rfl (ok_gleemake_Stream_Pick b0_ s0_0_ a0_0 y1.2 s5 [0, 0, 1, 2] hy6) rfl rfl (.cons (.ro 3 rfl) (.cons (.row 0 rfl) .nil)) (fun _ => rfl) rfl (fun _ => ?_)
 refine lp rfl (p_mv rfl) ?_
 refine lj_seq ?_
 obtain ⟨L15, hL15, hm⟩ := bindS hm
 obtain ⟨f13, hf13, hm⟩ := bindS hm
 refine cj_range (γ := Unit) (m := y6.1) hf13 () (fun u10 g11 => [(0, .pointer (some ⟨b0_, 0, none⟩)), (2, .string ByteArray.empty), (3, .string u10.1)]) (fun u10 g11 => Sat w0 (keys [.box b0_ 25 [s0_0_.v, .int .i64 a0_1]]) A [.box b0_ 25 [s0_0_.v, .int .i64 u10.2], .ro (RdS R3 (SV.v s0_0_) a0_0), .ro PowT]) ⟨rfl, rfl, rfl, rfl, rfl, trivial⟩ (fun _ h => h.picks [0, 3, 3] rfl) (rangeI_spec hL15).1 (fun _ _ => (rangeI_spec hL15).2) (fun _ _ => ⟨rfl, rfl, rfl, rfl⟩) ⟨rfl, rfl, rfl, rfl, rfl⟩ rfl rfl rfl (fun u10 g11 e => ?_) (fun aftk12 i7 x8 u10 g11 k12 hx9 hs J hJk12 hBk12 hX I cnk12 => ?_)
 ·have hm := Flow.fin_b e hm
  refine nj_seq ?_
  refine cj_seq ?_
  refine cj_reg ?_
  refine lp rfl (p_mv rfl) ?_
  refine lp rfl (p_as rfl) ?_
  refine lj_seq ?_
  obtain rfl := Option.some.inj hm
  exact cj_rt () [0] Tryz.results5 (.tmp rfl .nil) rfl rfl
 ·have hRk12 : ∀ t, k12 = .ret t → some t = some r := fun t e => by rw [hX t e] at hm; exact hm
  have hm := hs
  refine cj_reg ?_
  refine lp rfl (p_mv rfl) ?_
  refine lp rfl (p_mv rfl) ?_
  obtain ⟨y14, hy14, hm⟩ := bindS hm
  refine r_call [0] cf20 rfl rfl (ok_gleemake_Stream_Changed b0_ s0_0_ a0_0 u10.2 u10.1 (ByteArray.mk [32, 10, 48, 45, 57, 44, 97, 98].toArray) hy14) rfl rfl (.cons (.ro 0 rfl) .nil) (fun _ => rfl) rfl (fun _ => ?_)
  refine lp rfl (p_as rfl) ?_
  refine lj_nil ?_
  refine nj_blk ?_
  exact cnk12 _ _ (y14.1, y14.2) () (hJk12 _ (Option.some.inj hm).symm) ⟨rfl, rfl, rfl, rfl, rfl, trivial⟩ (fun _ h => h.picks [0, 0, 0] rfl)
theorem ok_kit_IsKey (a0 : ByteArray) {r : Bool} (hm : m_kit_IsKey a0 = some r) :
  Ctr Tryz.prog 64 [.string a0].toArray ([] : List Ent) [] (X := Unit) (fun _ => .bool r) (fun _ => []) := by
 unfold m_kit_IsKey at hm
 refine ctr_mk (vs := [(0, .string a0)]) Tryz.func64 rfl Tryz.ntmps64 rfl ⟨rfl, trivial⟩ (fun w0 A => ?_)
 refine cj_seq ?_
 refine cj_reg ?_
 refine lp rfl (p_as rfl) ?_
 refine lj_seq ?_
 refine cj_seq ?_
 refine cj_reg ?_
 refine lp rfl (p_mv rfl) ?_
 refine lp rfl (p_nes rfl rfl) ?_
 refine lp rfl (p_mv rfl) ?_
 refine lcase (i := 5) (!(a0.toList == ByteArray.empty.toList)) rfl (fun hb => ?_) (fun hb => ?_)
 ·have hm := ifB_t hb hm
  refine lg true rfl rfl rfl ?_
  refine lp rfl (p_mv rfl) ?_
  refine lg true rfl rfl rfl ?_
  refine lp rfl (p_lens Tryz.underlying9 rfl) ?_
  refine lg true rfl rfl rfl ?_
  refine lp rfl (p_leq rfl rfl) ?_
  refine lp rfl (p_pkt rfl rfl) ?_
  refine lp rfl (p_mv rfl) ?_
  refine lcase (i := 10) (decide ((a0.size : Int) ≤ 40)) rfl (fun hb => ?_) (fun hb => ?_)
  ·have hm := ifB_t hb hm
   refine lg true rfl rfl rfl ?_
   refine lp rfl (p_mv rfl) ?_
   refine lg true rfl rfl rfl ?_
   obtain ⟨c1, hc1, hm⟩ := bindS hm
   refine lp rfl (p_stri Tryz.underlying9 rfl rfl hc1) ?_
   refine lg true rfl rfl rfl ?_
   obtain ⟨y2, hy2, hm⟩ := bindS hm
   refine r_call [] cf77 rfl rfl (ok_strings_IndexByte (ByteArray.mk [97, 98, 99, 100, 101, 102, 103, 104, 105, 106, 107, 108, 109, 110, 111, 112, 113, 114, 115, 116, 117, 118, 119, 120, 121, 122].toArray) c1 hy2) rfl rfl .nil (fun _ => rfl) rfl (fun _ => ?_)
   refine lg true rfl rfl rfl ?_
   refine lp rfl (p_geq rfl rfl) ?_
   refine lp rfl (p_pkt rfl rfl) ?_
   refine lp rfl (p_mv rfl) ?_
   refine lcase (i := 16) (decide (y2 ≥ 0)) rfl (fun hb => ?_) (fun hb => ?_)
   ·have hm := ifB_t hb hm
    refine lg true rfl rfl rfl ?_
    refine lp rfl (p_mv rfl) ?_
    refine lg true rfl rfl rfl ?_
    obtain ⟨y3, hy3, hm⟩ := bindS hm
    refine r_call [] cf84 rfl rfl (ok_strings_Trim a0 (ByteArray.mk [97, 98, 99, 100, 101, 102, 103, 104, 105, 106, 107, 108, 109, 110, 111, 112, 113, 114, 115, 116, 117, 118, 119, 120, 121, 122, 48, 49, 50, 51, 52, 53, 54, 55, 56, 57, 45, 95].toArray) hy3) rfl rfl .nil (fun _ => rfl) rfl (fun _ => ?_)
    refine lg true rfl rfl rfl ?_
    refine lp rfl (p_eqs rfl rfl) ?_
    refine lp rfl (p_pkt rfl rfl) ?_
    refine lp rfl (p_as rfl) ?_
    refine lj_seq ?_
    obtain rfl := Option.some.inj hm
    exact cj_rt () [] Tryz.results64 (.tmp rfl .nil) rfl rfl
   ·have hm := ifB_f hb hm
    refine ls true rfl rfl rfl rfl ?_
    refine ls true rfl rfl rfl rfl ?_
    refine ls true rfl rfl rfl rfl ?_
    refine lp rfl (p_pkf rfl rfl) ?_
    refine lp rfl (p_as rfl) ?_
    refine lj_seq ?_
    obtain rfl := Option.some.inj hm
    exact cj_rt () [] Tryz.results64 (.tmp rfl .nil) rfl rfl
  ·have hm := ifB_f hb hm
   refine ls true rfl rfl rfl rfl ?_
   refine ls true rfl rfl rfl rfl ?_
   refine ls true rfl rfl rfl rfl ?_
   refine ls true rfl rfl rfl rfl ?_
   refine lp rfl (p_pkf rfl rfl) ?_
   refine lp rfl (p_mv rfl) ?_
   refine ls true rfl rfl rfl rfl ?_
   refine ls true rfl rfl rfl rfl ?_
   refine ls true rfl rfl rfl rfl ?_
   refine lp rfl (p_pkf rfl rfl) ?_
   refine lp rfl (p_as rfl) ?_
   refine lj_seq ?_
   obtain rfl := Option.some.inj hm
   exact cj_rt () [] Tryz.results64 (.tmp rfl .nil) rfl rfl
 ·have hm := ifB_f hb hm
  refine ls true rfl rfl rfl rfl ?_
  refine ls true rfl rfl rfl rfl ?_
  refine ls true rfl rfl rfl rfl ?_
  refine lp rfl (p_pkf rfl rfl) ?_
  refine lp rfl (p_mv rfl) ?_
  refine ls true rfl rfl rfl rfl ?_
  refine ls true rfl rfl rfl rfl ?_
  refine ls true rfl rfl rfl rfl ?_
  refine ls true rfl rfl rfl rfl ?_
  refine lp rfl (p_pkf rfl rfl) ?_
  refine lp rfl (p_mv rfl) ?_
  refine ls true rfl rfl rfl rfl ?_
  refine ls true rfl rfl rfl rfl ?_
  refine ls true rfl rfl rfl rfl ?_
  refine lp rfl (p_pkf rfl rfl) ?_
  refine lp rfl (p_as rfl) ?_
  refine lj_seq ?_
  obtain rfl := Option.some.inj hm
  exact cj_rt () [] Tryz.results64 (.tmp rfl .nil) rfl rfl
theorem ok_concert_CheckItems_1 (a0 : TItem) (s0_3_ : SV) (b1_ : Nat) (a1_0 : ByteArray) (a1_1 : ByteArray) (a1_2 : Int) (s1_3_ : SV) (a1_3 : (List ByteArray)) {r : Bool} (hm : m_concert_CheckItems_1 a0 a1_0 a1_1 a1_2 a1_3 = some r) :
  Ctr Tryz.prog 66 [.agg [.string a0.Key, .string a0.Places, .int .i64 a0.Long, s0_3_.v].toArray, .pointer (some ⟨b1_, 0, none⟩)].toArray ([] : List Ent) [RdS R9 (SV.v s0_3_) a0.Parts, BoxS b1_ 47 [.string a1_0, .string a1_1, .int .i64 a1_2, s1_3_.v], RdS R9 (SV.v s1_3_) a1_3] (X := Unit) (fun _ => .bool r) (fun _ => []) := by
 unfold m_concert_CheckItems_1 at hm
 refine ctr_mk (vs := [(0, .agg [.string a0.Key, .string a0.Places, .int .i64 a0.Long, s0_3_.v].toArray), (1, .pointer (some ⟨b1_, 0, none⟩))]) Tryz.func66 rfl Tryz.ntmps66 rfl ⟨rfl, rfl, trivial⟩ (fun w0 A => ?_)
 refine cj_seq ?_
 refine cj_reg ?_
 refine r_bx (cs := [.string a0.Key, .string a0.Places, .int .i64 a0.Long, s0_3_.v]) rfl rfl rfl (fun b1 => ?_)
 refine lp rfl (p_as rfl) ?_
 refine lj_seq ?_
 refine cj_seq ?_
 refine cj_reg ?_
 refine lp rfl (p_fab fl47_0 rfl) ?_
 refine lp rfl (p_lbs ty9 rfl (j := 0) rfl rfl) ?_
 refine lp rfl (p_fab fl47_0 rfl) ?_
 refine lp rfl (p_rbs ty9 rfl (.ro 2 rfl) rfl) ?_
 refine lp rfl (p_eqs rfl rfl) ?_
 refine lp rfl (p_as rfl) ?_
 refine lj_seq ?_
 obtain rfl := Option.some.inj hm
 exact cj_rt () [] Tryz.results66 (.tmp rfl .nil) rfl rfl
theorem ok_slices_IndexFunc_api_Item_api_Item__concert_CheckItems_1 (s0_ : SV) (xg0_ : List (TItem × SV)) (a0 : (List TItem)) (b1_c0_ : Nat) (a1_c0_0 : ByteArray) (a1_c0_1 : ByteArray) (a1_c0_2 : Int) (s1_c0_3_ : SV) (a1_c0_3 : (List ByteArray)) {r : Int} (hm : m_slices_IndexFunc_api_Item_api_Item__concert_CheckItems_1 a0 a1_c0_0 a1_c0_1 a1_c0_2 a1_c0_3 = some r) :
  Ctr Tryz.prog 71 [s0_.v, .func (.func 66) #[] [.pointer (some ⟨b1_c0_, 0, none⟩)].toArray].toArray ([] : List Ent) [Lk N47 a0 xg0_, RdS N47.R (SV.v s0_) xg0_, BoxS b1_c0_ 47 [.string a1_c0_0, .string a1_c0_1, .int .i64 a1_c0_2, s1_c0_3_.v], RdS R9 (SV.v s1_c0_3_) a1_c0_3] (X := Unit) (fun _ => .int .i64 r) (fun _ => []) := by
 unfold m_slices_IndexFunc_api_Item_api_Item__concert_CheckItems_1 at hm
 refine ctr_mk (vs := [(0, s0_.v), (1, .func (.func 66) #[] [.pointer (some ⟨b1_c0_, 0, none⟩)].toArray)]) Tryz.func71 rfl Tryz.ntmps71 rfl ⟨rfl, rfl, trivial⟩ (fun w0 A => ?_)
 refine cj_pure (F := Lk N47 a0 xg0_) (.ro 0 rfl) (fun _ h => h.1) (fun hL0_ => ?_)
 refine cj_seq ?_
 refine cj_reg ?_
 refine lp rfl (p_as rfl) ?_
 refine lj_seq ?_
 refine cj_seq ?_
 refine cj_seq ?_
 refine cj_reg ?_
 refine lp rfl (p_mv rfl) ?_
 refine lp rfl (p_lenG hL0_ Tryz.underlying26 rfl (.ro 1 rfl)) ?_
 refine lp rfl (p_mv rfl) ?_
 refine lj_seq ?_
 obtain ⟨f7, hf7, hm⟩ := bindS hm
 refine cj_range (γ := Unit) (m := (a0.length : Int)) hf7 () (fun u4 g5 => [(0, s0_.v), (1, .func (.func 66) #[] [.pointer (some ⟨b1_c0_, 0, none⟩)].toArray), (4, .int .i64 0)]) (fun u4 g5 => Sat w0 (keys ([] : List Ent)) A [.ro (Lk N47 a0 xg0_), .ro (RdS N47.R (SV.v s0_) xg0_), .ro (BoxS b1_c0_ 47 [.string a1_c0_0, .string a1_c0_1, .int .i64 a1_c0_2, s1_c0_3_.v]), .ro (RdS R9 (SV.v s1_c0_3_) a1_c0_3)]) ⟨rfl, rfl, rfl, rfl, rfl, trivial⟩ (fun _ h => h.picks [0, 0, 0, 0] rfl) (nat_lt _) (fun _ h => by have h1 := (FactAt.get (F := RdS N47.R (SV.v s0_) xg0_) (.ro 1 rfl) h).1; rw [lk_len hL0_] at h1; exact h1) (fun _ _ => ⟨rfl, rfl, rfl, rfl⟩) ⟨rfl, rfl, rfl, rfl, rfl⟩ rfl rfl rfl (fun u4 g5 e => ?_) (fun aftk6 i1 x2 u4 g5 k6 hx3 hs J hJk6 hBk6 hX I cnk6 => ?_)
 ·have hm := Flow.fin_b e hm
  refine nj_seq ?_
  refine cj_seq ?_
  refine cj_reg ?_
  refine lp rfl (p_as rfl) ?_
  refine lj_seq ?_
  obtain rfl := Option.some.inj hm
  exact cj_rt () [] Tryz.results71 (.tmp rfl .nil) rfl rfl
 ·have hRk6 : ∀ t, k6 = .ret t → some t = some r := fun t e => by rw [hX t e] at hm; exact hm
  have hm := hs
  refine cj_seq ?_
  refine cj_reg ?_
  refine lp rfl (p_mv rfl) ?_
  refine lp rfl (p_as rfl) ?_
  refine lj_seq ?_
  refine cj_seq ?_
  refine cj_reg ?_
  refine lp rfl (p_mv rfl) ?_
  refine lp rfl (p_mv rfl) ?_
  refine lp rfl (p_mv rfl) ?_
  obtain ⟨gx2, hx3G⟩ := lk_get hL0_ hx3
  refine lp rfl (p_idx Tryz.underlying26 ty47 rfl rfl (.ro 1 rfl) (getI_nat.trans hx3G)) ?_
  refine lp rfl (p_leaN (cs := [.string x2.Key, .string x2.Places, .int .i64 x2.Long, gx2.v]) ty47 rfl (.ro 1 rfl) hx3G rfl) ?_
  obtain ⟨y8, hy8, hm⟩ := bindS hm
  refine r_call [] cf66 rfl rfl (ok_concert_CheckItems_1 x2 gx2 b1_c0_ a1_c0_0 a1_c0_1 a1_c0_2 s1_c0_3_ a1_c0_3 hy8) rfl rfl (.cons (.imp (.ro 0 rfl) (fun _ h => (Lk.at_ h hx3G))) (.cons (.ro 2 rfl) (.cons (.ro 3 rfl) .nil))) (fun _ => rfl) rfl (fun _ => ?_)
  refine lj_seq ?_
  refine cj_if (b := y8) rfl (fun hb => ?_) (fun hb => ?_)
  ·have hm := ifB_t hb hm
   refine cj_seq ?_
   refine cj_reg ?_
   refine lp rfl (p_mv rfl) ?_
   refine lp rfl (p_as rfl) ?_
   refine lj_seq ?_
   have hm := hRk6 _ (Option.some.inj hm).symm
   obtain rfl := Option.some.inj hm
   exact cj_rt () [] Tryz.results71 (.tmp rfl .nil) rfl rfl
  ·have hm := ifB_f hb hm
   refine cj_skip ?_
   refine nj_blk ?_
   exact cnk6 _ _ () () (hJk6 _ (Option.some.inj hm).symm) ⟨rfl, rfl, rfl, rfl, rfl, trivial⟩ (fun _ h => h.picks [0, 0, 0, 0] rfl)
theorem ok_slices_ContainsFunc_api_Item_api_Item__concert_CheckItems_1 (s0_ : SV) (xg0_ : List (TItem × SV)) (a0 : (List TItem)) (b1_c0_ : Nat) (a1_c0_0 : ByteArray) (a1_c0_1 : ByteArray) (a1_c0_2 : Int) (s1_c0_3_ : SV) (a1_c0_3 : (List ByteArray)) {r : Bool} (hm : m_slices_ContainsFunc_api_Item_api_Item__concert_CheckItems_1 a0 a1_c0_0 a1_c0_1 a1_c0_2 a1_c0_3 = some r) :
  Ctr Tryz.prog 65 [s0_.v, .func (.func 66) #[] [.pointer (some ⟨b1_c0_, 0, none⟩)].toArray].toArray ([] : List Ent) [Lk N47 a0 xg0_, RdS N47.R (SV.v s0_) xg0_, BoxS b1_c0_ 47 [.string a1_c0_0, .string a1_c0_1, .int .i64 a1_c0_2, s1_c0_3_.v], RdS R9 (SV.v s1_c0_3_) a1_c0_3] (X := Unit) (fun _ => .bool r) (fun _ => []) := by
 unfold m_slices_ContainsFunc_api_Item_api_Item__concert_CheckItems_1 at hm
 refine ctr_mk (vs := [(0, s0_.v), (1, .func (.func 66) #[] [.pointer (some ⟨b1_c0_, 0, none⟩)].toArray)]) Tryz.func65 rfl Tryz.ntmps65 rfl ⟨rfl, rfl, trivial⟩ (fun w0 A => ?_)
 refine cj_pure (F := Lk N47 a0 xg0_) (.ro 0 rfl) (fun _ h => h.1) (fun hL0_ => ?_)
 refine cj_seq ?_
 refine cj_reg ?_
 refine lp rfl (p_as rfl) ?_
 refine lj_seq ?_
 refine cj_seq ?_
 refine cj_reg ?_
 refine lp rfl (p_mv rfl) ?_
 refine lp rfl (p_mv rfl) ?_
 obtain ⟨y1, hy1, hm⟩ := bindS hm
 refine r_call [] cf71 rfl rfl (ok_slices_IndexFunc_api_Item_api_Item__concert_CheckItems_1 s0_ xg0_ a0 b1_c0_ a1_c0_0 a1_c0_1 a1_c0_2 s1_c0_3_ a1_c0_3 hy1) rfl rfl (.cons (.ro 0 rfl) (.cons (.ro 1 rfl) (.cons (.ro 2 rfl) (.cons (.ro 3 rfl) .nil)))) (fun _ => rfl) rfl (fun _ => ?_)
 refine lp rfl (p_geq rfl rfl) ?_
 refine lp rfl (p_as rfl) ?_
 refine lj_seq ?_
 obtain rfl := Option.some.inj hm
 exact cj_rt () [] Tryz.results65 (.tmp rfl .nil) rfl rfl
theorem ok_kit_Outside (a0 : Int) (a1 : Int) (a2 : Int) {r : Bool} (hm : m_kit_Outside a0 a1 a2 = some r) :
  Ctr Tryz.prog 46 [.int .i64 a0, .int .i64 a1, .int .i64 a2].toArray ([] : List Ent) [] (X := Unit) (fun _ => .bool r) (fun _ => []) := by
 unfold m_kit_Outside at hm
 refine ctr_mk (vs := [(0, .int .i64 a0), (1, .int .i64 a1), (2, .int .i64 a2)]) Tryz.func46 rfl Tryz.ntmps46 rfl ⟨rfl, rfl, rfl, trivial⟩ (fun w0 A => ?_)
 refine cj_seq ?_
 refine cj_reg ?_
 refine lp rfl (p_as rfl) ?_
 refine lj_seq ?_
 refine cj_seq ?_
 refine cj_reg ?_
 refine lp rfl (p_mv rfl) ?_
 refine lp rfl (p_mv rfl) ?_
 refine lp rfl (p_lss rfl rfl) ?_
 refine lp rfl (p_mv rfl) ?_
 refine lcase (i := 10) (decide (a0 < a1)) rfl (fun hb => ?_) (fun hb => ?_)
 ·have hm := ifB_t hb hm
  refine ls false rfl rfl rfl rfl ?_
  refine ls false rfl rfl rfl rfl ?_
  refine ls false rfl rfl rfl rfl ?_
  refine lp rfl (p_pkt rfl rfl) ?_
  refine lp rfl (p_as rfl) ?_
  refine lj_seq ?_
  obtain rfl := Option.some.inj hm
  exact cj_rt () [] Tryz.results46 (.tmp rfl .nil) rfl rfl
 ·have hm := ifB_f hb hm
  refine lg false rfl rfl rfl ?_
  refine lp rfl (p_mv rfl) ?_
  refine lg false rfl rfl rfl ?_
  refine lp rfl (p_mv rfl) ?_
  refine lg false rfl rfl rfl ?_
  refine lp rfl (p_gtr rfl rfl) ?_
  refine lp rfl (p_pkf rfl rfl) ?_
  refine lp rfl (p_as rfl) ?_
  refine lj_seq ?_
  obtain rfl := Option.some.inj hm
  exact cj_rt () [] Tryz.results46 (.tmp rfl .nil) rfl rfl
theorem ok_concert_partsFault (s0_ : SV) (a0 : (List ByteArray)) {r : Int} (hm : m_concert_partsFault a0 = some r) :
  Ctr Tryz.prog 67 [s0_.v].toArray ([] : List Ent) [RdS R9 (SV.v s0_) a0] (X := Unit) (fun _ => .int .i64 r) (fun _ => []) := by
 unfold m_concert_partsFault at hm
 refine ctr_mk (vs := [(0, s0_.v)]) Tryz.func67 rfl Tryz.ntmps67 rfl ⟨rfl, trivial⟩ (fun w0 A => ?_)
 refine cj_seq ?_
 refine cj_reg ?_
 refine lp rfl (p_as rfl) ?_
 refine lj_seq ?_
 refine cj_seq ?_
 refine cj_seq ?_
 refine cj_reg ?_
 refine lp rfl (p_mv rfl) ?_
 refine lp rfl (p_len Tryz.underlying45 rfl (.ro 0 rfl)) ?_
 refine lp rfl (p_eql rfl rfl) ?_
 refine lj_seq ?_
 refine cj_if (b := (a0.length : Int) == 0) rfl (fun hb => ?_) (fun hb => ?_)
 ·have hm := ifB_t hb hm
  refine cj_seq ?_
  refine cj_reg ?_
  refine lp rfl (p_as rfl) ?_
  refine lj_seq ?_
  obtain rfl := Option.some.inj hm
  exact cj_rt () [] Tryz.results67 (.tmp rfl .nil) rfl rfl
 ·have hm := ifB_f hb hm
  refine cj_skip ?_
  refine nj_seq ?_
  refine cj_seq ?_
  refine cj_seq ?_
  refine cj_reg ?_
  refine lp rfl (p_mv rfl) ?_
  refine lp rfl (p_len Tryz.underlying45 rfl (.ro 0 rfl)) ?_
  refine lp rfl (p_gtr rfl rfl) ?_
  refine lj_seq ?_
  refine cj_if (b := decide ((a0.length : Int) > 12)) rfl (fun hb => ?_) (fun hb => ?_)
  ·have hm := ifB_t hb hm
   refine cj_seq ?_
   refine cj_reg ?_
   refine lp rfl (p_as rfl) ?_
   refine lj_seq ?_
   obtain rfl := Option.some.inj hm
   exact cj_rt () [] Tryz.results67 (.tmp rfl .nil) rfl rfl
  ·have hm := ifB_f hb hm
   refine cj_skip ?_
   refine nj_seq ?_
   refine cj_seq ?_
   refine cj_seq ?_
   refine cj_reg ?_
   refine lp rfl (p_mv rfl) ?_
   refine lp rfl (p_len Tryz.underlying45 rfl (.ro 0 rfl)) ?_
   refine lp rfl (p_mv rfl) ?_
   refine lj_seq ?_
   obtain ⟨f7, hf7, hm⟩ := bindS hm
   refine cj_range (γ := Unit) (m := (a0.length : Int)) hf7 () (fun u4 g5 => [(0, s0_.v), (2, .int .i64 0), (11, s0_.v)]) (fun u4 g5 => Sat w0 (keys ([] : List Ent)) A [.ro (RdS R9 (SV.v s0_) a0)]) ⟨rfl, rfl, rfl, rfl, rfl, trivial⟩ (fun _ h => h.picks [0] rfl) (nat_lt _) (fun _ h => (FactAt.get (F := RdS R9 (SV.v s0_) a0) (.ro 0 rfl) h).1) (fun _ _ => ⟨rfl, rfl, rfl, rfl⟩) ⟨rfl, rfl, rfl, rfl, rfl⟩ rfl rfl rfl (fun u4 g5 e => ?_) (fun aftk6 i1 x2 u4 g5 k6 hx3 hs J hJk6 hBk6 hX I cnk6 => ?_)
   ·have hm := Flow.fin_b e hm
    refine nj_seq ?_
    refine cj_seq ?_
    refine cj_reg ?_
    refine lp rfl (p_as rfl) ?_
    refine lj_seq ?_
    obtain rfl := Option.some.inj hm
    exact cj_rt () [] Tryz.results67 (.tmp rfl .nil) rfl rfl
   ·have hRk6 : ∀ t, k6 = .ret t → some t = some r := fun t e => by rw [hX t e] at hm; exact hm
    have hm := hs
    refine cj_seq ?_
    refine cj_reg ?_
    refine lp rfl (p_mv rfl) ?_
    refine lp rfl (p_idx Tryz.underlying45 ty9 rfl rfl (.ro 0 rfl) (getI_nat.trans hx3)) ?_
    refine lp rfl (p_lde (o := 0) ty9 rfl rfl (.ro 0 rfl) hx3 rfl) ?_
    refine lp rfl (p_as rfl) ?_
    refine lp rfl (p_as rfl) ?_
    refine lj_seq ?_
    refine cj_seq ?_
    refine cj_seq ?_
    refine cj_reg ?_
    refine lp rfl (p_mv rfl) ?_
    obtain ⟨y8, hy8, hm⟩ := bindS hm
    refine r_call [] cf64 rfl rfl (ok_kit_IsKey x2 hy8) rfl rfl .nil (fun _ => rfl) rfl (fun _ => ?_)
    refine lp rfl (p_not rfl) ?_
    refine lj_seq ?_
    refine cj_if (b := !y8) rfl (fun hb => ?_) (fun hb => ?_)
    ·have hm := ifB_t hb hm
     refine cj_seq ?_
     refine cj_reg ?_
     refine lp rfl (p_as rfl) ?_
     refine lj_seq ?_
     have hm := hRk6 _ (Option.some.inj hm).symm
     obtain rfl := Option.some.inj hm
     exact cj_rt () [] Tryz.results67 (.tmp rfl .nil) rfl rfl
    ·have hm := ifB_f hb hm
     refine cj_skip ?_
     refine nj_seq ?_
     refine cj_seq ?_
     refine cj_reg ?_
     obtain ⟨k11, hk11, hm⟩ := bindS hm
     have hRk11 : ∀ t, k11 = .inr t → some t = some k6 := fun t e => by rw [e] at hm; exact hm
     refine lj_join (σ := Bool) (γ := Unit) (fun u9 => k11 = .inl u9) (fun u9 g10 => [(0, s0_.v), (2, .int .i64 0), (11, s0_.v), (12, .int .i64 (a0.length : Int)), (13, .int .i64 (i1 : Int)), (31, .bool u9)]) (fun u9 g10 => Sat w0 (keys ([] : List Ent)) A [.ro (RdS R9 (SV.v s0_) a0)]) (fun u9 g10 hq => ?_) (fun J cnk11 => ?_)
     ·have hm := Sum.fin_l hq hm
      refine cj_if (b := u9) rfl (fun hb => ?_) (fun hb => ?_)
      ·have hm := ifB_t hb hm
       refine cj_seq ?_
       refine cj_reg ?_
       refine lp rfl (p_as rfl) ?_
       refine lj_seq ?_
       have hm := hRk6 _ (Option.some.inj hm).symm
       obtain rfl := Option.some.inj hm
       exact cj_rt () [] Tryz.results67 (.tmp rfl .nil) rfl rfl
      ·have hm := ifB_f hb hm
       refine cj_skip ?_
       refine nj_blk ?_
       exact cnk6 _ _ () () (hJk6 _ (Option.some.inj hm).symm) ⟨rfl, rfl, rfl, rfl, rfl, trivial⟩ (fun _ h => h.picks [0] rfl)
     ·have hm := hk11
      refine lp rfl (p_mv rfl) ?_
      refine lp rfl (p_gtr rfl rfl) ?_
      refine lp rfl (p_mv rfl) ?_
      refine lcase (i := 23) (decide ((i1 : Int) > 0)) rfl (fun hb => ?_) (fun hb => ?_)
      ·have hm := ifB_t hb hm
       refine lg true rfl rfl rfl ?_
       refine lp rfl (p_mv rfl) ?_
       refine lg true rfl rfl rfl ?_
       refine lp rfl (p_mv rfl) ?_
       refine lg true rfl rfl rfl ?_
       refine lp rfl (p_mv rfl) ?_
       refine lg true rfl rfl rfl ?_
       refine lp rfl (p_sub rfl rfl) ?_
       refine lg true rfl rfl rfl ?_
       obtain ⟨e12, he12, hm⟩ := bindS hm
       refine lp rfl (p_idx Tryz.underlying45 ty9 rfl rfl (.ro 0 rfl) he12) ?_
       refine lg true rfl rfl rfl ?_
       refine lp rfl (p_lde (o := 0) ty9 rfl rfl (.ro 0 rfl) (getI_spec he12).2 rfl) ?_
       refine lg true rfl rfl rfl ?_
       refine lp rfl (p_les rfl rfl) ?_
       refine lp rfl (p_pkt rfl rfl) ?_
       refine lj_nil ?_
       exact cnk11 _ _ (Op.bytesLess x2.toList e12.toList || x2.toList == e12.toList) () (Option.some.inj hm).symm ⟨rfl, rfl, rfl, rfl, rfl, rfl, trivial⟩ (fun _ h => h.picks [0] rfl)
      ·have hm := ifB_f hb hm
       refine ls true rfl rfl rfl rfl ?_
       refine ls true rfl rfl rfl rfl ?_
       refine ls true rfl rfl rfl rfl ?_
       refine ls true rfl rfl rfl rfl ?_
       refine ls true rfl rfl rfl rfl ?_
       refine ls true rfl rfl rfl rfl ?_
       refine ls true rfl rfl rfl rfl ?_
       refine lp rfl (p_pkf rfl rfl) ?_
       refine lj_nil ?_
       exact cnk11 _ _ false () (Option.some.inj hm).symm ⟨rfl, rfl, rfl, rfl, rfl, rfl, trivial⟩ (fun _ h => h.picks [0] rfl)
theorem ok_concert_CheckItems (s0_ : SV) (xg0_ : List (TItem × SV)) (a0 : (List TItem)) {r : Int} (hm : m_concert_CheckItems a0 = some r) :
  Ctr Tryz.prog 45 [s0_.v].toArray ([] : List Ent) [Lk N47 a0 xg0_, RdS N47.R (SV.v s0_) xg0_] (X := Unit) (fun _ => .int .i64 r) (fun _ => []) := by
 unfold m_concert_CheckItems at hm
 refine ctr_mk (vs := [(0, s0_.v)]) Tryz.func45 rfl Tryz.ntmps45 rfl ⟨rfl, trivial⟩ (fun w0 A => ?_)
 refine cj_pure (F := Lk N47 a0 xg0_) (.ro 0 rfl) (fun _ h => h.1) (fun hL0_ => ?_)
 refine cj_seq ?_
 refine cj_reg ?_
 refine lp rfl (p_as rfl) ?_
 refine lj_seq ?_
 refine cj_seq ?_
 refine cj_seq ?_
 refine cj_reg ?_
 refine lp rfl (p_mv rfl) ?_
 refine lp rfl (p_lenG hL0_ Tryz.underlying26 rfl (.ro 1 rfl)) ?_
 refine lp rfl (p_gtr rfl rfl) ?_
 refine lj_seq ?_
 refine cj_if (b := decide ((a0.length : Int) > 60)) rfl (fun hb => ?_) (fun hb => ?_)
 ·have hm := ifB_t hb hm
  refine cj_seq ?_
  refine cj_reg ?_
  refine lp rfl (p_as rfl) ?_
  refine lj_seq ?_
  obtain rfl := Option.some.inj hm
  exact cj_rt () [] Tryz.results45 (.tmp rfl .nil) rfl rfl
 ·have hm := ifB_f hb hm
  refine cj_skip ?_
  refine nj_seq ?_
  refine cj_seq ?_
  refine cj_seq ?_
  refine cj_reg ?_
  refine lp rfl (p_mv rfl) ?_
  refine lp rfl (p_lenG hL0_ Tryz.underlying26 rfl (.ro 1 rfl)) ?_
  refine lp rfl (p_mv rfl) ?_
  refine lj_seq ?_
  obtain ⟨f7, hf7, hm⟩ := bindS hm
  refine cj_range (γ := Unit) (m := (a0.length : Int)) hf7 () (fun u4 g5 => [(0, s0_.v), (2, .int .i64 0), (9, s0_.v)]) (fun u4 g5 => Sat w0 (keys ([] : List Ent)) A [.ro (Lk N47 a0 xg0_), .ro (RdS N47.R (SV.v s0_) xg0_)]) ⟨rfl, rfl, rfl, rfl, rfl, trivial⟩ (fun _ h => h.picks [0, 0] rfl) (nat_lt _) (fun _ h => by have h1 := (FactAt.get (F := RdS N47.R (SV.v s0_) xg0_) (.ro 1 rfl) h).1; rw [lk_len hL0_] at h1; exact h1) (fun _ _ => ⟨rfl, rfl, rfl, rfl⟩) ⟨rfl, rfl, rfl, rfl, rfl⟩ rfl rfl rfl (fun u4 g5 e => ?_) (fun aftk6 i1 x2 u4 g5 k6 hx3 hs J hJk6 hBk6 hX I cnk6 => ?_)
  ·have hm := Flow.fin_b e hm
   refine nj_seq ?_
   refine cj_seq ?_
   refine cj_reg ?_
   refine lp rfl (p_as rfl) ?_
   refine lj_seq ?_
   obtain rfl := Option.some.inj hm
   exact cj_rt () [] Tryz.results45 (.tmp rfl .nil) rfl rfl
  ·have hRk6 : ∀ t, k6 = .ret t → some t = some r := fun t e => by rw [hX t e] at hm; exact hm
   have hm := hs
   refine cj_seq ?_
   refine cj_reg ?_
   refine lp rfl (p_mv rfl) ?_
   obtain ⟨gx2, hx3G⟩ := lk_get hL0_ hx3
   refine lp rfl (p_idx Tryz.underlying26 ty47 rfl rfl (.ro 1 rfl) (getI_nat.trans hx3G)) ?_
   refine lp rfl (p_leaN (cs := [.string x2.Key, .string x2.Places, .int .i64 x2.Long, gx2.v]) ty47 rfl (.ro 1 rfl) hx3G rfl) ?_
   refine r_al ty47 rfl (fun b8 => ?_)
   refine lp rfl (p_as rfl) ?_
   refine r_sb (vs := [.string x2.Key, .string x2.Places, .int .i64 x2.Long, gx2.v]) (j := 0) ty47 rfl rfl rfl rfl rfl rfl rfl ?_
   refine lj_seq ?_
   refine cj_seq ?_
   refine cj_blk ?_
   refine cj_seq ?_
   refine cj_reg ?_
   obtain ⟨k11, hk11, hm⟩ := bindS hm
   have hRk11 : ∀ t, k11 = .inr t → some t = some k6 := fun t e => by rw [e] at hm; exact hm
   refine lj_join (σ := Bool) (γ := Unit) (fun u9 => k11 = .inl u9) (fun u9 g10 => [(0, s0_.v), (2, .int .i64 0), (3, .int .i64 (i1 : Int)), (4, .pointer (some ⟨b8, 0, none⟩)), (9, s0_.v), (10, .int .i64 (a0.length : Int)), (11, .int .i64 (i1 : Int)), (16, .bool u9)]) (fun u9 g10 => Sat w0 (keys ([] : List Ent)) A [.box b8 47 [.string x2.Key, .string x2.Places, .int .i64 x2.Long, gx2.v], .ro (Lk N47 a0 xg0_), .ro (RdS N47.R (SV.v s0_) xg0_)]) (fun u9 g10 hq => ?_) (fun J cnk11 => ?_)
   ·have hm := Sum.fin_l hq hm
    refine cj_if (b := u9) rfl (fun hb => ?_) (fun hb => ?_)
    ·have hm := ifB_t hb hm
     refine cj_seq ?_
     refine cj_reg ?_
     refine lp rfl (p_as rfl) ?_
     refine lj_seq ?_
     have hm := hRk6 _ (Option.some.inj hm).symm
     obtain rfl := Option.some.inj hm
     exact cj_rt () [] Tryz.results45 (.tmp rfl .nil) rfl rfl
    ·have hm := ifB_f hb hm
     refine cj_seq ?_
     refine cj_reg ?_
     refine lp rfl (p_mv rfl) ?_
     refine lp rfl (p_mv rfl) ?_
     obtain ⟨q14, hq14, hm⟩ := bindS hm
     obtain ⟨q14G, hq14G, hLq14, hsq14⟩ := lk_cut hL0_ hq14
     refine lp rfl (p_cut Tryz.underlying26 ty47 rfl rfl rfl rfl rfl (.ro 2 rfl) rfl rfl hq14G) ?_
     refine lp rfl (p_fn (cv := [.pointer (some ⟨b8, 0, none⟩)]) rfl) ?_
     obtain ⟨y15, hy15, hm⟩ := bindS hm
     refine r_call [] cf65 rfl rfl (ok_slices_ContainsFunc_api_Item_api_Item__concert_CheckItems_1 (s0_.sub N47.R.sz (0 : Int).toNat (i1 : Int).toNat) q14G q14 b8 x2.Key x2.Places x2.Long gx2 x2.Parts hy15) rfl rfl (.cons (.imp (.ro 1 rfl) (fun _ h => Lk.sub h hLq14 hsq14)) (.cons (.imp (.ro 2 rfl) (fun _ h => h.cut hq14G)) (.cons (.imp (.box 0 rfl) (fun _ h => h)) (.cons (.imp (.ro 1 rfl) (fun _ h => (Lk.at_ h hx3G))) .nil)))) (fun _ => rfl) rfl (fun _ => ?_)
     refine lp rfl (p_as rfl) ?_
     refine lj_seq ?_
     refine cj_if (b := y15) rfl (fun hb => ?_) (fun hb => ?_)
     ·have hm := ifB_t hb hm
      refine cj_seq ?_
      refine cj_reg ?_
      refine lp rfl (p_as rfl) ?_
      refine lj_seq ?_
      have hm := hRk6 _ (Option.some.inj hm).symm
      obtain rfl := Option.some.inj hm
      exact cj_rt () [] Tryz.results45 (.tmp rfl .nil) rfl rfl
     ·have hm := ifB_f hb hm
      refine cj_seq ?_
      refine cj_reg ?_
      refine lp rfl (p_fab fl47_2 rfl) ?_
      refine lp rfl (p_lbs ty3 rfl (j := 0) rfl rfl) ?_
      obtain ⟨y16, hy16, hm⟩ := bindS hm
      refine r_call [] cf46 rfl rfl (ok_kit_Outside x2.Long 1 86400000 hy16) rfl rfl .nil (fun _ => rfl) rfl (fun _ => ?_)
      refine lp rfl (p_as rfl) ?_
      refine lj_seq ?_
      refine cj_if (b := y16) rfl (fun hb => ?_) (fun hb => ?_)
      ·have hm := ifB_t hb hm
       refine cj_seq ?_
       refine cj_reg ?_
       refine lp rfl (p_as rfl) ?_
       refine lj_seq ?_
       have hm := hRk6 _ (Option.some.inj hm).symm
       obtain rfl := Option.some.inj hm
       exact cj_rt () [] Tryz.results45 (.tmp rfl .nil) rfl rfl
      ·have hm := ifB_f hb hm
       refine cj_skip ?_
       refine nj_blk ?_
       refine nj_seq ?_
       refine cj_seq ?_
       refine cj_reg ?_
       refine lp rfl (p_fab fl47_3 rfl) ?_
       refine lp rfl (p_lbs ty45 rfl (j := 0) rfl rfl) ?_
       obtain ⟨y17, hy17, hm⟩ := bindS hm
       refine r_call [] cf67 rfl rfl (ok_concert_partsFault gx2 x2.Parts hy17) rfl rfl (.cons (.imp (.ro 1 rfl) (fun _ h => (Lk.at_ h hx3G))) .nil) (fun _ => rfl) rfl (fun _ => ?_)
       refine lp rfl (p_as rfl) ?_
       refine lj_seq ?_
       refine cj_seq ?_
       refine cj_reg ?_
       refine lp rfl (p_mv rfl) ?_
       refine lp rfl (p_neq rfl rfl) ?_
       refine lj_seq ?_
       refine cj_if (b := y17 != 0) rfl (fun hb => ?_) (fun hb => ?_)
       ·have hm := ifB_t hb hm
        refine cj_seq ?_
        refine cj_reg ?_
        refine lp rfl (p_mv rfl) ?_
        refine lp rfl (p_as rfl) ?_
        refine lj_seq ?_
        have hm := hRk6 _ (Option.some.inj hm).symm
        obtain rfl := Option.some.inj hm
        exact cj_rt () [] Tryz.results45 (.tmp rfl .nil) rfl rfl
       ·have hm := ifB_f hb hm
        refine cj_skip ?_
        refine nj_blk ?_
        exact cnk6 _ _ () () (hJk6 _ (Option.some.inj hm).symm) ⟨rfl, rfl, rfl, rfl, rfl, trivial⟩ (fun _ h => h.picks [1, 1] rfl)
   ·have hm := hk11
    refine lp rfl (p_fab fl47_0 rfl) ?_
    refine lp rfl (p_lbs ty9 rfl (j := 0) rfl rfl) ?_
    obtain ⟨y12, hy12, hm⟩ := bindS hm
    refine r_call [] cf64 rfl rfl (ok_kit_IsKey x2.Key hy12) rfl rfl .nil (fun _ => rfl) rfl (fun _ => ?_)
    refine lp rfl (p_not rfl) ?_
    refine lp rfl (p_mv rfl) ?_
    refine lcase (i := 21) (!y12) rfl (fun hb => ?_) (fun hb => ?_)
    ·have hm := ifB_t hb hm
     refine ls false rfl rfl rfl rfl ?_
     refine ls false rfl rfl rfl rfl ?_
     refine ls false rfl rfl rfl rfl ?_
     refine ls false rfl rfl rfl rfl ?_
     refine lp rfl (p_pkt rfl rfl) ?_
     refine lp rfl (p_as rfl) ?_
     refine lj_nil ?_
     exact cnk11 _ _ true () (Option.some.inj hm).symm ⟨rfl, rfl, rfl, rfl, rfl, rfl, rfl, rfl, trivial⟩ (fun _ h => h.picks [0, 0, 0] rfl)
    ·have hm := ifB_f hb hm
     refine lg false rfl rfl rfl ?_
     refine lp rfl (p_fab fl47_1 rfl) ?_
     refine lg false rfl rfl rfl ?_
     refine lp rfl (p_lbs ty9 rfl (j := 0) rfl rfl) ?_
     refine lg false rfl rfl rfl ?_
     obtain ⟨y13, hy13, hm⟩ := bindS hm
     refine r_call [] cf64 rfl rfl (ok_kit_IsKey x2.Places hy13) rfl rfl .nil (fun _ => rfl) rfl (fun _ => ?_)
     refine lg false rfl rfl rfl ?_
     refine lp rfl (p_not rfl) ?_
     refine lp rfl (p_pkf rfl rfl) ?_
     refine lp rfl (p_as rfl) ?_
     refine lj_nil ?_
     exact cnk11 _ _ (!y13) () (Option.some.inj hm).symm ⟨rfl, rfl, rfl, rfl, rfl, rfl, rfl, rfl, trivial⟩ (fun _ h => h.picks [0, 0, 0] rfl)
theorem ok_concert_CheckProgram (a0 : TProgram) (s0_0_ : SV) (xg0_0_ : List (TItem × SV)) {r : Int} (hm : m_concert_CheckProgram a0 = some r) :
  Ctr Tryz.prog 21 [.agg [s0_0_.v, .int .i64 a0.Change, .int .i64 a0.Clap, .int .i64 a0.Break, .int .i64 a0.Half].toArray].toArray ([] : List Ent) [Lk N47 a0.Items xg0_0_, RdS N47.R (SV.v s0_0_) xg0_0_] (X := Unit) (fun _ => .int .i64 r) (fun _ => []) := by
 unfold m_concert_CheckProgram at hm
 refine ctr_mk (vs := [(0, .agg [s0_0_.v, .int .i64 a0.Change, .int .i64 a0.Clap, .int .i64 a0.Break, .int .i64 a0.Half].toArray)]) Tryz.func21 rfl Tryz.ntmps21 rfl ⟨rfl, trivial⟩ (fun w0 A => ?_)
 refine cj_pure (F := Lk N47 a0.Items xg0_0_) (.ro 0 rfl) (fun _ h => h.1) (fun hL0_0_ => ?_)
 refine cj_seq ?_
 refine cj_reg ?_
 refine r_bx (cs := [s0_0_.v, .int .i64 a0.Change, .int .i64 a0.Clap, .int .i64 a0.Break, .int .i64 a0.Half]) rfl rfl rfl (fun b1 => ?_)
 refine lp rfl (p_as rfl) ?_
 refine lj_seq ?_
 refine cj_seq ?_
 refine cj_seq ?_
 refine cj_reg ?_
 refine lp rfl (p_fab fl28_0 rfl) ?_
 refine lp rfl (p_lbs ty26 rfl (j := 0) rfl rfl) ?_
 obtain ⟨y2, hy2, hm⟩ := bindS hm
 refine r_call [] cf45 rfl rfl (ok_concert_CheckItems s0_0_ xg0_0_ a0.Items hy2) rfl rfl (.cons (.ro 1 rfl) (.cons (.ro 2 rfl) .nil)) (fun _ => rfl) rfl (fun _ => ?_)
 refine lp rfl (p_as rfl) ?_
 refine lj_seq ?_
 refine cj_seq ?_
 refine cj_reg ?_
 refine lp rfl (p_mv rfl) ?_
 refine lp rfl (p_neq rfl rfl) ?_
 refine lj_seq ?_
 refine cj_if (b := y2 != 0) rfl (fun hb => ?_) (fun hb => ?_)
 ·have hm := ifB_t hb hm
  refine cj_seq ?_
  refine cj_reg ?_
  refine lp rfl (p_mv rfl) ?_
  refine lp rfl (p_as rfl) ?_
  refine lj_seq ?_
  obtain rfl := Option.some.inj hm
  exact cj_rt () [] Tryz.results21 (.tmp rfl .nil) rfl rfl
 ·have hm := ifB_f hb hm
  refine cj_skip ?_
  refine nj_seq ?_
  refine cj_seq ?_
  refine cj_seq ?_
  refine cj_reg ?_
  obtain ⟨k5, hk5, hm⟩ := bindS hm
  have hRk5 : ∀ t, k5 = .inr t → some t = some r := fun t e => by rw [e] at hm; exact hm
  refine lj_join (σ := Bool) (γ := Unit) (fun u3 => k5 = .inl u3) (fun u3 g4 => [(2, .int .i64 0), (32, .bool u3)]) (fun u3 g4 => Sat w0 (keys ([] : List Ent)) A []) (fun u3 g4 hq => ?_) (fun J cnk5 => ?_)
  ·have hm := Sum.fin_l hq hm
   refine cj_if (b := u3) rfl (fun hb => ?_) (fun hb => ?_)
   ·have hm := ifB_t hb hm
    refine cj_seq ?_
    refine cj_reg ?_
    refine lp rfl (p_as rfl) ?_
    refine lj_seq ?_
    obtain rfl := Option.some.inj hm
    exact cj_rt () [] Tryz.results21 (.tmp rfl .nil) rfl rfl
   ·have hm := ifB_f hb hm
    refine cj_skip ?_
    refine nj_seq ?_
    refine cj_seq ?_
    refine cj_reg ?_
    refine lp rfl (p_as rfl) ?_
    refine lj_seq ?_
    obtain rfl := Option.some.inj hm
    exact cj_rt () [] Tryz.results21 (.tmp rfl .nil) rfl rfl
  ·have hm := hk5
   refine lp rfl (p_fab fl28_1 rfl) ?_
   refine lp rfl (p_lbs ty3 rfl (j := 0) rfl rfl) ?_
   obtain ⟨y6, hy6, hm⟩ := bindS hm
   refine r_call [] cf46 rfl rfl (ok_kit_Outside a0.Change 0 86400000 hy6) rfl rfl .nil (fun _ => rfl) rfl (fun _ => ?_)
   refine lp rfl (p_mv rfl) ?_
   refine lcase (i := 13) y6 rfl (fun hb => ?_) (fun hb => ?_)
   ·have hm := ifB_t hb hm
    refine ls false rfl rfl rfl rfl ?_
    refine ls false rfl rfl rfl rfl ?_
    refine ls false rfl rfl rfl rfl ?_
    refine lp rfl (p_pkt rfl rfl) ?_
    refine lp rfl (p_mv rfl) ?_
    refine ls false rfl rfl rfl rfl ?_
    refine ls false rfl rfl rfl rfl ?_
    refine ls false rfl rfl rfl rfl ?_
    refine lp rfl (p_pkt rfl rfl) ?_
    refine lp rfl (p_mv rfl) ?_
    refine ls false rfl rfl rfl rfl ?_
    refine ls false rfl rfl rfl rfl ?_
    refine ls false rfl rfl rfl rfl ?_
    refine ls false rfl rfl rfl rfl ?_
    refine ls false rfl rfl rfl rfl ?_
    refine ls false rfl rfl rfl rfl ?_
    refine ls false rfl rfl rfl rfl ?_
    refine ls false rfl rfl rfl rfl ?_
    refine lp rfl (p_pkt rfl rfl) ?_
    refine lj_nil ?_
    exact cnk5 _ _ true () (Option.some.inj hm).symm ⟨rfl, rfl, trivial⟩ (fun _ h => h.picks [] rfl)
   ·have hm := ifB_f hb hm
    refine lg false rfl rfl rfl ?_
    refine lp rfl (p_fab fl28_2 rfl) ?_
    refine lg false rfl rfl rfl ?_
    refine lp rfl (p_lbs ty3 rfl (j := 0) rfl rfl) ?_
    refine lg false rfl rfl rfl ?_
    obtain ⟨y7, hy7, hm⟩ := bindS hm
    refine r_call [] cf46 rfl rfl (ok_kit_Outside a0.Clap 0 86400000 hy7) rfl rfl .nil (fun _ => rfl) rfl (fun _ => ?_)
    refine lp rfl (p_pkf rfl rfl) ?_
    refine lp rfl (p_mv rfl) ?_
    refine lcase (i := 18) y7 rfl (fun hb => ?_) (fun hb => ?_)
    ·have hm := ifB_t hb hm
     refine ls false rfl rfl rfl rfl ?_
     refine ls false rfl rfl rfl rfl ?_
     refine ls false rfl rfl rfl rfl ?_
     refine lp rfl (p_pkt rfl rfl) ?_
     refine lp rfl (p_mv rfl) ?_
     refine ls false rfl rfl rfl rfl ?_
     refine ls false rfl rfl rfl rfl ?_
     refine ls false rfl rfl rfl rfl ?_
     refine ls false rfl rfl rfl rfl ?_
     refine ls false rfl rfl rfl rfl ?_
     refine ls false rfl rfl rfl rfl ?_
     refine ls false rfl rfl rfl rfl ?_
     refine ls false rfl rfl rfl rfl ?_
     refine lp rfl (p_pkt rfl rfl) ?_
     refine lj_nil ?_
     exact cnk5 _ _ true () (Option.some.inj hm).symm ⟨rfl, rfl, trivial⟩ (fun _ h => h.picks [] rfl)
    ·have hm := ifB_f hb hm
     refine lg false rfl rfl rfl ?_
     refine lp rfl (p_fab fl28_3 rfl) ?_
     refine lg false rfl rfl rfl ?_
     refine lp rfl (p_lbs ty3 rfl (j := 0) rfl rfl) ?_
     refine lg false rfl rfl rfl ?_
     obtain ⟨y8, hy8, hm⟩ := bindS hm
     refine r_call [] cf46 rfl rfl (ok_kit_Outside a0.Break 0 86400000 hy8) rfl rfl .nil (fun _ => rfl) rfl (fun _ => ?_)
     refine lp rfl (p_pkf rfl rfl) ?_
     refine lp rfl (p_mv rfl) ?_
     refine lcase (i := 23) y8 rfl (fun hb => ?_) (fun hb => ?_)
     ·have hm := ifB_t hb hm
      refine ls false rfl rfl rfl rfl ?_
      refine ls false rfl rfl rfl rfl ?_
      refine ls false rfl rfl rfl rfl ?_
      refine ls false rfl rfl rfl rfl ?_
      refine ls false rfl rfl rfl rfl ?_
      refine ls false rfl rfl rfl rfl ?_
      refine ls false rfl rfl rfl rfl ?_
      refine ls false rfl rfl rfl rfl ?_
      refine lp rfl (p_pkt rfl rfl) ?_
      refine lj_nil ?_
      exact cnk5 _ _ true () (Option.some.inj hm).symm ⟨rfl, rfl, trivial⟩ (fun _ h => h.picks [] rfl)
     ·have hm := ifB_f hb hm
      refine lg false rfl rfl rfl ?_
      refine lp rfl (p_fab fl28_4 rfl) ?_
      refine lg false rfl rfl rfl ?_
      refine lp rfl (p_lbs ty3 rfl (j := 0) rfl rfl) ?_
      refine lg false rfl rfl rfl ?_
      refine lp rfl (p_fab fl28_0 rfl) ?_
      refine lg false rfl rfl rfl ?_
      refine lp rfl (p_lbs ty26 rfl (j := 0) rfl rfl) ?_
      refine lg false rfl rfl rfl ?_
      refine lp rfl (p_lenG hL0_0_ Tryz.underlying26 rfl (.ro 2 rfl)) ?_
      refine lg false rfl rfl rfl ?_
      refine lp rfl (p_sub rfl rfl) ?_
      refine lg false rfl rfl rfl ?_
      refine lp rfl (p_max rfl rfl) ?_
      refine lg false rfl rfl rfl ?_
      obtain ⟨y9, hy9, hm⟩ := bindS hm
      refine r_call [] cf46 rfl rfl (ok_kit_Outside a0.Half (-1) (max (-1) (w64 ((a0.Items.length : Int) - 2))) hy9) rfl rfl .nil (fun _ => rfl) rfl (fun _ => ?_)
      refine lp rfl (p_pkf rfl rfl) ?_
      refine lj_nil ?_
      exact cnk5 _ _ y9 () (Option.some.inj hm).symm ⟨rfl, rfl, trivial⟩ (fun _ h => h.picks [] rfl)
theorem ok_kit_Join (s0_ : SV) (a0 : (List ByteArray)) {r : ByteArray} (hm : m_kit_Join a0 = some r) :
  Ctr Tryz.prog 23 [s0_.v].toArray ([] : List Ent) [RdS R9 (SV.v s0_) a0] (X := Unit) (fun _ => .string r) (fun _ => []) := by
 unfold m_kit_Join at hm
 refine ctr_mk (vs := [(0, s0_.v)]) Tryz.func23 rfl Tryz.ntmps23 rfl ⟨rfl, trivial⟩ (fun w0 A => ?_)
 refine cj_seq ?_
 refine cj_reg ?_
 refine lp rfl (p_as rfl) ?_
 refine lj_seq ?_
 refine cj_seq ?_
 refine cj_reg ?_
 refine lp rfl (p_mv rfl) ?_
 obtain ⟨y1, hy1, hm⟩ := bindS hm
 refine r_call [] cf25 rfl rfl (ok_strings_Join s0_ a0 (ByteArray.mk [32].toArray) hy1) rfl rfl (.cons (.ro 0 rfl) .nil) (fun _ => rfl) rfl (fun _ => ?_)
 obtain ⟨c2, hc2, hm⟩ := bindS hm
 refine lp rfl (p_catM hc2 rfl rfl) ?_
 refine lp rfl (p_as rfl) ?_
 refine lj_seq ?_
 obtain rfl := Option.some.inj hm
 exact cj_rt () [] Tryz.results23 (.tmp rfl .nil) rfl rfl
theorem ok_concert_Text (a0 : TProgram) (s0_0_ : SV) (xg0_0_ : List (TItem × SV)) {r : ByteArray × Int} (hm : m_concert_Text a0 = some r) :
  Ctr Tryz.prog 6 [.agg [s0_0_.v, .int .i64 a0.Change, .int .i64 a0.Clap, .int .i64 a0.Break, .int .i64 a0.Half].toArray].toArray ([] : List Ent) [Lk N47 a0.Items xg0_0_, RdS N47.R (SV.v s0_0_) xg0_0_, PowT] (X := Unit) (fun _ => .tuple [.string r.1, .int .i64 r.2].toArray) (fun _ => []) := by
 unfold m_concert_Text at hm
 refine ctr_mk (vs := [(0, .agg [s0_0_.v, .int .i64 a0.Change, .int .i64 a0.Clap, .int .i64 a0.Break, .int .i64 a0.Half].toArray)]) Tryz.func6 rfl Tryz.ntmps6 rfl ⟨rfl, trivial⟩ (fun w0 A => ?_)
 refine cj_pure (F := Lk N47 a0.Items xg0_0_) (.ro 0 rfl) (fun _ h => h.1) (fun hL0_0_ => ?_)
 refine cj_seq ?_
 refine cj_reg ?_
 refine r_bx (cs := [s0_0_.v, .int .i64 a0.Change, .int .i64 a0.Clap, .int .i64 a0.Break, .int .i64 a0.Half]) rfl rfl rfl (fun b1 => ?_)
 refine lp rfl (p_as rfl) ?_
 refine lp rfl (p_as rfl) ?_
 refine lj_seq ?_
 refine cj_seq ?_
 refine cj_seq ?_
 refine cj_reg ?_
 refine lp rfl (p_lbw ty28 rfl (j := 0) rfl rfl) ?_
 obtain ⟨y2, hy2, hm⟩ := bindS hm
 refine r_call [] cf21 rfl rfl (ok_concert_CheckProgram a0 s0_0_ xg0_0_ hy2) rfl rfl (.cons (.ro 1 rfl) (.cons (.ro 2 rfl) .nil)) (fun _ => rfl) rfl (fun _ => ?_)
 refine lp rfl (p_as rfl) ?_
 refine lj_seq ?_
 refine cj_seq ?_
 refine cj_reg ?_
 refine lp rfl (p_mv rfl) ?_
 refine lp rfl (p_neq rfl rfl) ?_
 refine lj_seq ?_
 refine cj_if (b := y2 != 0) rfl (fun hb => ?_) (fun hb => ?_)
 ·have hm := ifB_t hb hm
  refine cj_seq ?_
  refine cj_reg ?_
  refine lp rfl (p_mv rfl) ?_
  refine lp rfl (p_as rfl) ?_
  refine lp rfl (p_as rfl) ?_
  refine lj_seq ?_
  obtain rfl := Option.some.inj hm
  exact cj_rt () [] Tryz.results6 (.tmp rfl (.tmp rfl .nil)) rfl rfl
 ·have hm := ifB_f hb hm
  refine cj_skip ?_
  refine nj_seq ?_
  refine cj_seq ?_
  refine cj_reg ?_
  refine r_alB ty55 5 rfl (fun b3 => ?_)
  refine lj_seq ?_
  refine cj_seq ?_
  obtain ⟨y4, hy4, hm⟩ := bindS hm
  obtain ⟨y5, hy5, hm⟩ := bindS hm
  obtain ⟨y6, hy6, hm⟩ := bindS hm
  obtain ⟨y7, hy7, hm⟩ := bindS hm
  obtain ⟨y9, hy9, hm⟩ := bindS hm
  obtain ⟨y10, hy10, hm⟩ := bindS hm
  refine cj_anyT [0, 1, 3, 4, 6, 7, 9, 10] [] (Sat w0 (keys ([] : List Ent)) A [.box b1 28 [s0_0_.v, .int .i64 a0.Change, .int .i64 a0.Clap, .int .i64 a0.Break, .int .i64 a0.Half], .ro (Lk N47 a0.Items xg0_0_), .ro (RdS N47.R (SV.v s0_0_) xg0_0_), .ro PowT]) (Sat w0 (keys ([] : List Ent)) A [.box b1 28 [s0_0_.v, .int .i64 a0.Change, .int .i64 a0.Clap, .int .i64 a0.Break, .int .i64 a0.Half], .ro (Lk N47 a0.Items xg0_0_), .ro (RdS N47.R (SV.v s0_0_) xg0_0_), .ro PowT]) (by kernel_rfl) ?_
  refine at_take2 0 rfl (by kernel_rfl) (by kernel_rfl) (by kernel_rfl) (fun _ h => h.picks [0, 0, 0, 0] rfl) rfl rfl (p_fab fl28_1 rfl) (fun _ h => h.picks [1, 1, 1, 1] rfl) ?_
  refine at_take2 1 rfl (by kernel_rfl) (by kernel_rfl) (by kernel_rfl) (fun _ h => h.picks [0, 0, 0, 0] rfl) rfl rfl (p_lbs ty3 rfl (j := 0) rfl rfl) (fun _ h => h.picks [1, 1, 1, 1] rfl) ?_
  refine at_take2 3 rfl (by kernel_rfl) (by kernel_rfl) (by kernel_rfl) (fun _ h => h.picks [0, 0, 0, 0] rfl) rfl rfl (p_fab fl28_2 rfl) (fun _ h => h.picks [1, 1, 1, 1] rfl) ?_
  refine at_take2 4 rfl (by kernel_rfl) (by kernel_rfl) (by kernel_rfl) (fun _ h => h.picks [0, 0, 0, 0] rfl) rfl rfl (p_lbs ty3 rfl (j := 0) rfl rfl) (fun _ h => h.picks [1, 1, 1, 1] rfl) ?_
  refine at_take2 6 rfl (by kernel_rfl) (by kernel_rfl) (by kernel_rfl) (fun _ h => h.picks [0, 0, 0, 0] rfl) rfl rfl (p_fab fl28_3 rfl) (fun _ h => h.picks [1, 1, 1, 1] rfl) ?_
  refine at_take2 7 rfl (by kernel_rfl) (by kernel_rfl) (by kernel_rfl) (fun _ h => h.picks [0, 0, 0, 0] rfl) rfl rfl (p_lbs ty3 rfl (j := 0) rfl rfl) (fun _ h => h.picks [1, 1, 1, 1] rfl) ?_
  refine at_take2 9 rfl (by kernel_rfl) (by kernel_rfl) (by kernel_rfl) (fun _ h => h.picks [0, 0, 0, 0] rfl) rfl rfl (p_fab fl28_4 rfl) (fun _ h => h.picks [1, 1, 1, 1] rfl) ?_
  refine at_take2 10 rfl (by kernel_rfl) (by kernel_rfl) (by kernel_rfl) (fun _ h => h.picks [0, 0, 0, 0] rfl) rfl rfl (p_lbs ty3 rfl (j := 0) rfl rfl) (fun _ h => h.picks [1, 1, 1, 1] rfl) ?_
  refine at_each (rs := [2]) (by kernel_rfl) (by decide) ?_
  refine (.cons rfl (fun I cnI => ?_) .nil)
  ·refine r_call [] cf24 rfl rfl (ok_strconv_Itoa a0.Change hy4) rfl rfl (.cons (.ro 4 rfl) .nil) (fun _ => rfl) rfl (fun _ => ?_)
   refine lj_nil ?_
   refine cnI _ _ (sof1 rfl rfl (fun _ h => h.picks [1, 1, 1, 1] rfl)) ?_
   refine at_each (rs := [5]) (by kernel_rfl) (by decide) ?_
   refine (.cons rfl (fun I cnI => ?_) .nil)
   ·refine r_call [] cf24 rfl rfl (ok_strconv_Itoa a0.Clap hy5) rfl rfl (.cons (.ro 4 rfl) .nil) (fun _ => rfl) rfl (fun _ => ?_)
    refine lj_nil ?_
    refine cnI _ _ (sof1 rfl rfl (fun _ h => h.picks [1, 1, 1, 1] rfl)) ?_
    refine at_each (rs := [8]) (by kernel_rfl) (by decide) ?_
    refine (.cons rfl (fun I cnI => ?_) .nil)
    ·refine r_call [] cf24 rfl rfl (ok_strconv_Itoa a0.Break hy6) rfl rfl (.cons (.ro 4 rfl) .nil) (fun _ => rfl) rfl (fun _ => ?_)
     refine lj_nil ?_
     refine cnI _ _ (sof1 rfl rfl (fun _ h => h.picks [1, 1, 1, 1] rfl)) ?_
     refine at_each (rs := [11]) (by kernel_rfl) (by decide) ?_
     refine (.cons rfl (fun I cnI => ?_) .nil)
     ·refine r_call [] cf24 rfl rfl (ok_strconv_Itoa a0.Half hy7) rfl rfl (.cons (.ro 4 rfl) .nil) (fun _ => rfl) rfl (fun _ => ?_)
      refine lj_nil ?_
      refine cnI _ _ (sof1 rfl rfl (fun _ h => h.picks [1, 1, 1, 1] rfl)) ?_
      refine at_each (rs := [12]) (by kernel_rfl) (by decide) ?_
      refine (.cons rfl (fun I cnI => ?_) .nil)
      ·refine r_bs R9 [y4, y5, y6, y7] rfl rfl rfl (fun _ => by kernel_rfl) rfl (fun s28 => ?_)
       refine lj_nil ?_
       refine cnI _ _ (sof1 rfl rfl (fun _ h => h.picks [2, 2, 2, 2] rfl)) ?_
       refine at_each (rs := [13]) (by kernel_rfl) (by decide) ?_
       refine (.cons rfl (fun I cnI => ?_) .nil)
       ·refine r_call [] cf23 rfl rfl (ok_kit_Join s28 [y4, y5, y6, y7] hy9) rfl rfl (.cons (.row 0 rfl) .nil) (fun _ => rfl) rfl (fun _ => ?_)
        refine lj_nil ?_
        refine cnI _ _ (sof1 rfl rfl (fun _ h => h.picks [2, 2, 2, 2] rfl)) ?_
        refine at_each (rs := [14]) (by kernel_rfl) (by decide) ?_
        refine (.cons rfl (fun I cnI => ?_) .nil)
        ·refine r_call [1] cf22 rfl rfl (ok_bWriteString b3 nilS ByteArray.empty y9 hy10) rfl rfl .nil (fun _ => rfl) rfl (fun s29 => ?_)
         refine lj_nil ?_
         refine cnI _ _ (sof1 rfl rfl (fun _ h => h.picks [2, 2, 2, 2] rfl)) ?_
         refine at_done (by kernel_rfl) ?_
         refine nj_seq ?_
         refine cj_seq ?_
         refine cj_seq ?_
         refine cj_reg ?_
         refine lp rfl (p_fab fl28_0 rfl) ?_
         refine lp rfl (p_lbs ty26 rfl (j := 2) rfl rfl) ?_
         refine lp rfl (p_lenG hL0_0_ Tryz.underlying26 rfl (.ro 4 rfl)) ?_
         refine lp rfl (p_mv rfl) ?_
         refine lj_seq ?_
         obtain ⟨f36, hf36, hm⟩ := bindS hm
         refine cj_range (γ := SV) (m := (a0.Items.length : Int)) hf36 s29 (fun u33 g34 => [(2, .string ByteArray.empty), (3, .int .i64 0), (5, .pointer (some ⟨b3, 0, none⟩)), (29, s0_0_.v)]) (fun u33 g34 => Sat w0 (keys ([] : List Ent)) A [.obj (bldO 55 5 b3 g34 u33.data.toList), .ro (Lk N47 a0.Items xg0_0_), .ro (RdS N47.R (SV.v s0_0_) xg0_0_), .ro PowT]) ⟨rfl, rfl, rfl, rfl, rfl, rfl, trivial⟩ (fun _ h => h.picks [0, 2, 2, 2] rfl) (nat_lt _) (fun _ h => by have h1 := (FactAt.get (F := RdS N47.R (SV.v s0_0_) xg0_0_) (.ro 4 rfl) h).1; rw [lk_len hL0_0_] at h1; exact h1) (fun _ _ => ⟨rfl, rfl, rfl, rfl⟩) ⟨rfl, rfl, rfl, rfl, rfl⟩ rfl rfl rfl (fun u33 g34 e => ?_) (fun aftk35 i30 x31 u33 g34 k35 hx32 hs J hJk35 hBk35 hX I cnk35 => ?_)
         ·have hm := Flow.fin_b e hm
          refine nj_seq ?_
          refine cj_seq ?_
          refine cj_seq ?_
          refine cj_reg ?_
          refine r_call [0] cf26 rfl rfl (ok_bLen b3 g34 u33) rfl rfl .nil (fun _ => rfl) rfl (fun _ => ?_)
          refine lp rfl (p_gtr rfl rfl) ?_
          refine lj_seq ?_
          refine cj_if (b := decide ((u33.size : Int) > 200000)) rfl (fun hb => ?_) (fun hb => ?_)
          ·have hm := ifB_t hb hm
           refine cj_seq ?_
           refine cj_reg ?_
           refine lp rfl (p_as rfl) ?_
           refine lp rfl (p_as rfl) ?_
           refine lj_seq ?_
           obtain rfl := Option.some.inj hm
           exact cj_rt () [] Tryz.results6 (.tmp rfl (.tmp rfl .nil)) rfl rfl
          ·have hm := ifB_f hb hm
           refine cj_skip ?_
           refine nj_seq ?_
           refine cj_seq ?_
           refine cj_reg ?_
           refine r_call [0] cf27 rfl rfl (ok_bString b3 g34 u33) rfl rfl .nil (fun _ => rfl) rfl (fun _ => ?_)
           refine lp rfl (p_as rfl) ?_
           refine lp rfl (p_as rfl) ?_
           refine lj_seq ?_
           obtain rfl := Option.some.inj hm
           exact cj_rt () [] Tryz.results6 (.tmp rfl (.tmp rfl .nil)) rfl rfl
         ·have hRk35 : ∀ t, k35 = .ret t → some t = some r := fun t e => by rw [hX t e] at hm; exact hm
          have hm := hs
          refine cj_seq ?_
          refine cj_reg ?_
          obtain ⟨gx31, hx32G⟩ := lk_get hL0_0_ hx32
          refine lp rfl (p_idx Tryz.underlying26 ty47 rfl rfl (.ro 2 rfl) (getI_nat.trans hx32G)) ?_
          refine lp rfl (p_leaN (cs := [.string x31.Key, .string x31.Places, .int .i64 x31.Long, gx31.v]) ty47 rfl (.ro 2 rfl) hx32G rfl) ?_
          refine r_al ty47 rfl (fun b37 => ?_)
          refine r_sb (vs := [.string x31.Key, .string x31.Places, .int .i64 x31.Long, gx31.v]) (j := 0) ty47 rfl rfl rfl rfl rfl rfl rfl ?_
          refine lj_seq ?_
          obtain ⟨y38, hy38, hm⟩ := bindS hm
          obtain ⟨y39, hy39, hm⟩ := bindS hm
          obtain ⟨y41, hy41, hm⟩ := bindS hm
          obtain ⟨y42, hy42, hm⟩ := bindS hm
          refine cj_anyT [0, 1, 2, 3, 4, 5, 7, 8] [] (Sat w0 (keys ([] : List Ent)) A [.box b37 47 [.string x31.Key, .string x31.Places, .int .i64 x31.Long, gx31.v], .ro (Lk N47 a0.Items xg0_0_), .ro (RdS N47.R (SV.v s0_0_) xg0_0_), .ro PowT]) (Sat w0 (keys ([] : List Ent)) A [.box b37 47 [.string x31.Key, .string x31.Places, .int .i64 x31.Long, gx31.v], .ro (Lk N47 a0.Items xg0_0_), .ro (RdS N47.R (SV.v s0_0_) xg0_0_), .ro PowT]) (by kernel_rfl) ?_
          refine at_take2 0 rfl (by kernel_rfl) (by kernel_rfl) (by kernel_rfl) (fun _ h => h.picks [0, 0, 0, 0] rfl) rfl rfl (p_fab fl47_0 rfl) (fun _ h => h.picks [0, 1, 1, 1] rfl) ?_
          refine at_take2 1 rfl (by kernel_rfl) (by kernel_rfl) (by kernel_rfl) (fun _ h => h.picks [0, 0, 0, 0] rfl) rfl rfl (p_lbs ty9 rfl (j := 0) rfl rfl) (fun _ h => h.picks [0, 1, 1, 1] rfl) ?_
          refine at_take2 2 rfl (by kernel_rfl) (by kernel_rfl) (by kernel_rfl) (fun _ h => h.picks [0, 0, 0, 0] rfl) rfl rfl (p_fab fl47_1 rfl) (fun _ h => h.picks [0, 1, 1, 1] rfl) ?_
          refine at_take2 3 rfl (by kernel_rfl) (by kernel_rfl) (by kernel_rfl) (fun _ h => h.picks [0, 0, 0, 0] rfl) rfl rfl (p_lbs ty9 rfl (j := 0) rfl rfl) (fun _ h => h.picks [0, 1, 1, 1] rfl) ?_
          refine at_take2 4 rfl (by kernel_rfl) (by kernel_rfl) (by kernel_rfl) (fun _ h => h.picks [0, 0, 0, 0] rfl) rfl rfl (p_fab fl47_2 rfl) (fun _ h => h.picks [0, 1, 1, 1] rfl) ?_
          refine at_take2 5 rfl (by kernel_rfl) (by kernel_rfl) (by kernel_rfl) (fun _ h => h.picks [0, 0, 0, 0] rfl) rfl rfl (p_lbs ty3 rfl (j := 0) rfl rfl) (fun _ h => h.picks [0, 1, 1, 1] rfl) ?_
          refine at_take2 7 rfl (by kernel_rfl) (by kernel_rfl) (by kernel_rfl) (fun _ h => h.picks [0, 0, 0, 0] rfl) rfl rfl (p_fab fl47_3 rfl) (fun _ h => h.picks [0, 1, 1, 1] rfl) ?_
          refine at_take2 8 rfl (by kernel_rfl) (by kernel_rfl) (by kernel_rfl) (fun _ h => h.picks [0, 0, 0, 0] rfl) rfl rfl (p_lbs ty45 rfl (j := 0) rfl rfl) (fun _ h => h.picks [0, 1, 1, 1] rfl) ?_
          refine at_each (rs := [6]) (by kernel_rfl) (by decide) ?_
          refine (.cons rfl (fun I cnI => ?_) .nil)
          ·refine r_call [] cf24 rfl rfl (ok_strconv_Itoa x31.Long hy38) rfl rfl (.cons (.ro 4 rfl) .nil) (fun _ => rfl) rfl (fun _ => ?_)
           refine lj_nil ?_
           refine cnI _ _ (sof1 rfl rfl (fun _ h => h.picks [0, 1, 1, 1] rfl)) ?_
           refine at_each (rs := [9]) (by kernel_rfl) (by decide) ?_
           refine (.cons rfl (fun I cnI => ?_) .nil)
           ·refine r_call [] cf25 rfl rfl (ok_strings_Join gx31 x31.Parts (ByteArray.mk [44].toArray) hy39) rfl rfl (.cons (.imp (.ro 2 rfl) (fun _ h => (Lk.at_ h hx32G))) .nil) (fun _ => rfl) rfl (fun _ => ?_)
            refine lj_nil ?_
            refine cnI _ _ (sof1 rfl rfl (fun _ h => h.picks [0, 1, 1, 1] rfl)) ?_
            refine at_each (rs := [10]) (by kernel_rfl) (by decide) ?_
            refine (.cons rfl (fun I cnI => ?_) .nil)
            ·refine r_bs R9 [x31.Key, x31.Places, y38, y39] rfl rfl rfl (fun _ => by kernel_rfl) rfl (fun s44 => ?_)
             refine lj_nil ?_
             refine cnI _ _ (sof1 rfl rfl (fun _ h => h.picks [1, 2, 2, 2] rfl)) ?_
             refine at_each (rs := [11]) (by kernel_rfl) (by decide) ?_
             refine (.cons rfl (fun I cnI => ?_) .nil)
             ·refine r_call [] cf23 rfl rfl (ok_kit_Join s44 [x31.Key, x31.Places, y38, y39] hy41) rfl rfl (.cons (.row 0 rfl) .nil) (fun _ => rfl) rfl (fun _ => ?_)
              refine lj_nil ?_
              refine cnI _ _ (sof1 rfl rfl (fun _ h => h.picks [1, 2, 2, 2] rfl)) ?_
              refine at_each (rs := [12]) (by kernel_rfl) (by decide) ?_
              refine (.cons rfl (fun I cnI => ?_) .nil)
              ·refine r_call [2] cf22 rfl rfl (ok_bWriteString b3 g34 u33 y41 hy42) rfl rfl .nil (fun _ => rfl) rfl (fun s45 => ?_)
               refine lj_nil ?_
               refine cnI _ _ (sof1 rfl rfl (fun _ h => h.picks [2, 2, 2, 2] rfl)) ?_
               refine at_done (by kernel_rfl) ?_
               refine nj_blk ?_
               exact cnk35 _ _ y42 s45 (hJk35 _ (Option.some.inj hm).symm) ⟨rfl, rfl, rfl, rfl, rfl, rfl, trivial⟩ (fun _ h => h.picks [0, 2, 2, 2] rfl)
theorem ok_gleeref2_in (a0 : Int) (a1 : Int) (a2 : Int) {r : Bool} (hm : m_gleeref2_in a0 a1 a2 = some r) :
  Ctr Tryz.prog 29 [.int .i64 a0, .int .i64 a1, .int .i64 a2].toArray ([] : List Ent) [] (X := Unit) (fun _ => .bool r) (fun _ => []) := by
 unfold m_gleeref2_in at hm
 refine ctr_mk (vs := [(0, .int .i64 a0), (1, .int .i64 a1), (2, .int .i64 a2)]) Tryz.func29 rfl Tryz.ntmps29 rfl ⟨rfl, rfl, rfl, trivial⟩ (fun w0 A => ?_)
 refine cj_seq ?_
 refine cj_reg ?_
 refine lp rfl (p_as rfl) ?_
 refine lj_seq ?_
 refine cj_seq ?_
 refine cj_reg ?_
 refine lp rfl (p_mv rfl) ?_
 refine lp rfl (p_mv rfl) ?_
 refine lp rfl (p_leq rfl rfl) ?_
 refine lp rfl (p_mv rfl) ?_
 refine lcase (i := 10) (decide (a1 ≤ a0)) rfl (fun hb => ?_) (fun hb => ?_)
 ·have hm := ifB_t hb hm
  refine lg true rfl rfl rfl ?_
  refine lp rfl (p_mv rfl) ?_
  refine lg true rfl rfl rfl ?_
  refine lp rfl (p_mv rfl) ?_
  refine lg true rfl rfl rfl ?_
  refine lp rfl (p_leq rfl rfl) ?_
  refine lp rfl (p_pkt rfl rfl) ?_
  refine lp rfl (p_as rfl) ?_
  refine lj_seq ?_
  obtain rfl := Option.some.inj hm
  exact cj_rt () [] Tryz.results29 (.tmp rfl .nil) rfl rfl
 ·have hm := ifB_f hb hm
  refine ls true rfl rfl rfl rfl ?_
  refine ls true rfl rfl rfl rfl ?_
  refine ls true rfl rfl rfl rfl ?_
  refine lp rfl (p_pkf rfl rfl) ?_
  refine lp rfl (p_as rfl) ?_
  refine lj_seq ?_
  obtain rfl := Option.some.inj hm
  exact cj_rt () [] Tryz.results29 (.tmp rfl .nil) rfl rfl
theorem ok_gleeref2_only (a0 : ByteArray) (a1 : ByteArray) {r : Bool} (hm : m_gleeref2_only a0 a1 = some r) :
  Ctr Tryz.prog 58 [.string a0, .string a1].toArray ([] : List Ent) [] (X := Unit) (fun _ => .bool r) (fun _ => []) := by
 unfold m_gleeref2_only at hm
 refine ctr_mk (vs := [(0, .string a0), (1, .string a1)]) Tryz.func58 rfl Tryz.ntmps58 rfl ⟨rfl, rfl, trivial⟩ (fun w0 A => ?_)
 refine cj_seq ?_
 refine cj_reg ?_
 refine lp rfl (p_as rfl) ?_
 refine lj_seq ?_
 refine cj_seq ?_
 refine cj_seq ?_
 refine cj_reg ?_
 refine lp rfl (p_mv rfl) ?_
 refine lp rfl (p_lens Tryz.underlying9 rfl) ?_
 refine lp rfl (p_mv rfl) ?_
 refine lj_seq ?_
 obtain ⟨L10, hL10, hm⟩ := bindS hm
 obtain ⟨f7, hf7, hm⟩ := bindS hm
 refine cj_range (γ := Unit) (m := (a0.size : Int)) hf7 () (fun u4 g5 => [(0, .string a0), (1, .string a1), (4, .bool false)]) (fun u4 g5 => Sat w0 (keys ([] : List Ent)) A []) ⟨rfl, rfl, rfl, rfl, rfl, trivial⟩ (fun _ h => h.picks [] rfl) (rangeI_spec hL10).1 (fun _ _ => (rangeI_spec hL10).2) (fun _ _ => ⟨rfl, rfl, rfl, rfl⟩) ⟨rfl, rfl, rfl, rfl, rfl⟩ rfl rfl rfl (fun u4 g5 e => ?_) (fun aftk6 i1 x2 u4 g5 k6 hx3 hs J hJk6 hBk6 hX I cnk6 => ?_)
 ·have hm := Flow.fin_b e hm
  refine nj_seq ?_
  refine cj_seq ?_
  refine cj_reg ?_
  refine lp rfl (p_as rfl) ?_
  refine lj_seq ?_
  obtain rfl := Option.some.inj hm
  exact cj_rt () [] Tryz.results58 (.tmp rfl .nil) rfl rfl
 ·have hRk6 : ∀ t, k6 = .ret t → some t = some r := fun t e => by rw [hX t e] at hm; exact hm
  have hm := hs
  refine cj_seq ?_
  refine cj_reg ?_
  refine lp rfl (p_mv rfl) ?_
  refine lp rfl (p_as rfl) ?_
  refine lj_seq ?_
  refine cj_seq ?_
  refine cj_reg ?_
  refine lp rfl (p_mv rfl) ?_
  refine lp rfl (p_mv rfl) ?_
  refine lp rfl (p_mv rfl) ?_
  obtain ⟨c8, hc8, hm⟩ := bindS hm
  refine lp rfl (p_stri Tryz.underlying9 rfl rfl hc8) ?_
  obtain ⟨y9, hy9, hm⟩ := bindS hm
  refine r_call [] cf77 rfl rfl (ok_strings_IndexByte a1 c8 hy9) rfl rfl .nil (fun _ => rfl) rfl (fun _ => ?_)
  refine lp rfl (p_lss rfl rfl) ?_
  refine lj_seq ?_
  refine cj_if (b := decide (y9 < 0)) rfl (fun hb => ?_) (fun hb => ?_)
  ·have hm := ifB_t hb hm
   refine cj_seq ?_
   refine cj_reg ?_
   refine lp rfl (p_as rfl) ?_
   refine lj_seq ?_
   have hm := hRk6 _ (Option.some.inj hm).symm
   obtain rfl := Option.some.inj hm
   exact cj_rt () [] Tryz.results58 (.tmp rfl .nil) rfl rfl
  ·have hm := ifB_f hb hm
   refine cj_skip ?_
   refine nj_blk ?_
   exact cnk6 _ _ () () (hJk6 _ (Option.some.inj hm).symm) ⟨rfl, rfl, rfl, rfl, rfl, trivial⟩ (fun _ h => h.picks [] rfl)
theorem ok_gleeref2_Key (a0 : ByteArray) {r : Bool} (hm : m_gleeref2_Key a0 = some r) :
  Ctr Tryz.prog 50 [.string a0].toArray ([] : List Ent) [] (X := Unit) (fun _ => .bool r) (fun _ => []) := by
 unfold m_gleeref2_Key at hm
 refine ctr_mk (vs := [(0, .string a0)]) Tryz.func50 rfl Tryz.ntmps50 rfl ⟨rfl, trivial⟩ (fun w0 A => ?_)
 refine cj_seq ?_
 refine cj_reg ?_
 refine lp rfl (p_as rfl) ?_
 refine lj_seq ?_
 refine cj_seq ?_
 refine cj_reg ?_
 refine lp rfl (p_mv rfl) ?_
 refine lp rfl (p_lens Tryz.underlying9 rfl) ?_
 obtain ⟨y1, hy1, hm⟩ := bindS hm
 refine r_call [] cf29 rfl rfl (ok_gleeref2_in (a0.size : Int) 1 40 hy1) rfl rfl .nil (fun _ => rfl) rfl (fun _ => ?_)
 refine lp rfl (p_mv rfl) ?_
 refine lcase (i := 6) y1 rfl (fun hb => ?_) (fun hb => ?_)
 ·have hm := ifB_t hb hm
  refine lg true rfl rfl rfl ?_
  refine lp rfl (p_mv rfl) ?_
  refine lg true rfl rfl rfl ?_
  obtain ⟨c2, hc2, hm⟩ := bindS hm
  refine lp rfl (p_strs Tryz.underlying9 rfl rfl rfl rfl rfl rfl rfl hc2) ?_
  refine lg true rfl rfl rfl ?_
  obtain ⟨y3, hy3, hm⟩ := bindS hm
  refine r_call [] cf58 rfl rfl (ok_gleeref2_only c2 (ByteArray.mk [97, 98, 99, 100, 101, 102, 103, 104, 105, 106, 107, 108, 109, 110, 111, 112, 113, 114, 115, 116, 117, 118, 119, 120, 121, 122].toArray) hy3) rfl rfl .nil (fun _ => rfl) rfl (fun _ => ?_)
  refine lp rfl (p_pkt rfl rfl) ?_
  refine lp rfl (p_mv rfl) ?_
  refine lcase (i := 11) y3 rfl (fun hb => ?_) (fun hb => ?_)
  ·have hm := ifB_t hb hm
   refine lg true rfl rfl rfl ?_
   refine lp rfl (p_mv rfl) ?_
   refine lg true rfl rfl rfl ?_
   obtain ⟨y4, hy4, hm⟩ := bindS hm
   refine r_call [] cf58 rfl rfl (ok_gleeref2_only a0 (ByteArray.mk [97, 98, 99, 100, 101, 102, 103, 104, 105, 106, 107, 108, 109, 110, 111, 112, 113, 114, 115, 116, 117, 118, 119, 120, 121, 122, 48, 49, 50, 51, 52, 53, 54, 55, 56, 57, 45, 95].toArray) hy4) rfl rfl .nil (fun _ => rfl) rfl (fun _ => ?_)
   refine lp rfl (p_pkt rfl rfl) ?_
   refine lp rfl (p_as rfl) ?_
   refine lj_seq ?_
   obtain rfl := Option.some.inj hm
   exact cj_rt () [] Tryz.results50 (.tmp rfl .nil) rfl rfl
  ·have hm := ifB_f hb hm
   refine ls true rfl rfl rfl rfl ?_
   refine ls true rfl rfl rfl rfl ?_
   refine lp rfl (p_pkf rfl rfl) ?_
   refine lp rfl (p_as rfl) ?_
   refine lj_seq ?_
   obtain rfl := Option.some.inj hm
   exact cj_rt () [] Tryz.results50 (.tmp rfl .nil) rfl rfl
 ·have hm := ifB_f hb hm
  refine ls true rfl rfl rfl rfl ?_
  refine ls true rfl rfl rfl rfl ?_
  refine ls true rfl rfl rfl rfl ?_
  refine lp rfl (p_pkf rfl rfl) ?_
  refine lp rfl (p_mv rfl) ?_
  refine ls true rfl rfl rfl rfl ?_
  refine ls true rfl rfl rfl rfl ?_
  refine lp rfl (p_pkf rfl rfl) ?_
  refine lp rfl (p_as rfl) ?_
  refine lj_seq ?_
  obtain rfl := Option.some.inj hm
  exact cj_rt () [] Tryz.results50 (.tmp rfl .nil) rfl rfl
theorem ok_gleeref2_ItemAt_1 (a0 : TItem) (s0_3_ : SV) (b1_ : Nat) (a1_0 : ByteArray) {r : Bool} (hm : m_gleeref2_ItemAt_1 a0 a1_0 = some r) :
  Ctr Tryz.prog 72 [.agg [.string a0.Key, .string a0.Places, .int .i64 a0.Long, s0_3_.v].toArray, .pointer (some ⟨b1_, 0, none⟩)].toArray ([] : List Ent) [RdS R9 (SV.v s0_3_) a0.Parts, BoxS b1_ 9 [.string a1_0]] (X := Unit) (fun _ => .bool r) (fun _ => []) := by
 unfold m_gleeref2_ItemAt_1 at hm
 refine ctr_mk (vs := [(0, .agg [.string a0.Key, .string a0.Places, .int .i64 a0.Long, s0_3_.v].toArray), (1, .pointer (some ⟨b1_, 0, none⟩))]) Tryz.func72 rfl Tryz.ntmps72 rfl ⟨rfl, rfl, trivial⟩ (fun w0 A => ?_)
 refine cj_seq ?_
 refine cj_reg ?_
 refine r_bx (cs := [.string a0.Key, .string a0.Places, .int .i64 a0.Long, s0_3_.v]) rfl rfl rfl (fun b1 => ?_)
 refine lp rfl (p_as rfl) ?_
 refine lj_seq ?_
 refine cj_seq ?_
 refine cj_reg ?_
 refine lp rfl (p_fab fl47_0 rfl) ?_
 refine lp rfl (p_lbs ty9 rfl (j := 0) rfl rfl) ?_
 refine lp rfl (p_rbs ty9 rfl (.ro 2 rfl) rfl) ?_
 refine lp rfl (p_eqs rfl rfl) ?_
 refine lp rfl (p_as rfl) ?_
 refine lj_seq ?_
 obtain rfl := Option.some.inj hm
 exact cj_rt () [] Tryz.results72 (.tmp rfl .nil) rfl rfl
theorem ok_slices_IndexFunc_api_Item_api_Item__gleeref2_ItemAt_1 (s0_ : SV) (xg0_ : List (TItem × SV)) (a0 : (List TItem)) (b1_c0_ : Nat) (a1_c0_0 : ByteArray) {r : Int} (hm : m_slices_IndexFunc_api_Item_api_Item__gleeref2_ItemAt_1 a0 a1_c0_0 = some r) :
  Ctr Tryz.prog 71 [s0_.v, .func (.func 72) #[] [.pointer (some ⟨b1_c0_, 0, none⟩)].toArray].toArray ([] : List Ent) [Lk N47 a0 xg0_, RdS N47.R (SV.v s0_) xg0_, BoxS b1_c0_ 9 [.string a1_c0_0]] (X := Unit) (fun _ => .int .i64 r) (fun _ => []) := by
 unfold m_slices_IndexFunc_api_Item_api_Item__gleeref2_ItemAt_1 at hm
 refine ctr_mk (vs := [(0, s0_.v), (1, .func (.func 72) #[] [.pointer (some ⟨b1_c0_, 0, none⟩)].toArray)]) Tryz.func71 rfl Tryz.ntmps71 rfl ⟨rfl, rfl, trivial⟩ (fun w0 A => ?_)
 refine cj_pure (F := Lk N47 a0 xg0_) (.ro 0 rfl) (fun _ h => h.1) (fun hL0_ => ?_)
 refine cj_seq ?_
 refine cj_reg ?_
 refine lp rfl (p_as rfl) ?_
 refine lj_seq ?_
 refine cj_seq ?_
 refine cj_seq ?_
 refine cj_reg ?_
 refine lp rfl (p_mv rfl) ?_
 refine lp rfl (p_lenG hL0_ Tryz.underlying26 rfl (.ro 1 rfl)) ?_
 refine lp rfl (p_mv rfl) ?_
 refine lj_seq ?_
 obtain ⟨f7, hf7, hm⟩ := bindS hm
 refine cj_range (γ := Unit) (m := (a0.length : Int)) hf7 () (fun u4 g5 => [(0, s0_.v), (1, .func (.func 72) #[] [.pointer (some ⟨b1_c0_, 0, none⟩)].toArray), (4, .int .i64 0)]) (fun u4 g5 => Sat w0 (keys ([] : List Ent)) A [.ro (Lk N47 a0 xg0_), .ro (RdS N47.R (SV.v s0_) xg0_), .ro (BoxS b1_c0_ 9 [.string a1_c0_0])]) ⟨rfl, rfl, rfl, rfl, rfl, trivial⟩ (fun _ h => h.picks [0, 0, 0] rfl) (nat_lt _) (fun _ h => by have h1 := (FactAt.get (F := RdS N47.R (SV.v s0_) xg0_) (.ro 1 rfl) h).1; rw [lk_len hL0_] at h1; exact h1) (fun _ _ => ⟨rfl, rfl, rfl, rfl⟩) ⟨rfl, rfl, rfl, rfl, rfl⟩ rfl rfl rfl (fun u4 g5 e => ?_) (fun aftk6 i1 x2 u4 g5 k6 hx3 hs J hJk6 hBk6 hX I cnk6 => ?_)
 ·have hm := Flow.fin_b e hm
  refine nj_seq ?_
  refine cj_seq ?_
  refine cj_reg ?_
  refine lp rfl (p_as rfl) ?_
  refine lj_seq ?_
  obtain rfl := Option.some.inj hm
  exact cj_rt () [] Tryz.results71 (.tmp rfl .nil) rfl rfl
 ·have hRk6 : ∀ t, k6 = .ret t → some t = some r := fun t e => by rw [hX t e] at hm; exact hm
  have hm := hs
  refine cj_seq ?_
  refine cj_reg ?_
  refine lp rfl (p_mv rfl) ?_
  refine lp rfl (p_as rfl) ?_
  refine lj_seq ?_
  refine cj_seq ?_
  refine cj_reg ?_
  refine lp rfl (p_mv rfl) ?_
  refine lp rfl (p_mv rfl) ?_
  refine lp rfl (p_mv rfl) ?_
  obtain ⟨gx2, hx3G⟩ := lk_get hL0_ hx3
  refine lp rfl (p_idx Tryz.underlying26 ty47 rfl rfl (.ro 1 rfl) (getI_nat.trans hx3G)) ?_
  refine lp rfl (p_leaN (cs := [.string x2.Key, .string x2.Places, .int .i64 x2.Long, gx2.v]) ty47 rfl (.ro 1 rfl) hx3G rfl) ?_
  obtain ⟨y8, hy8, hm⟩ := bindS hm
  refine r_call [] cf72 rfl rfl (ok_gleeref2_ItemAt_1 x2 gx2 b1_c0_ a1_c0_0 hy8) rfl rfl (.cons (.imp (.ro 0 rfl) (fun _ h => (Lk.at_ h hx3G))) (.cons (.ro 2 rfl) .nil)) (fun _ => rfl) rfl (fun _ => ?_)
  refine lj_seq ?_
  refine cj_if (b := y8) rfl (fun hb => ?_) (fun hb => ?_)
  ·have hm := ifB_t hb hm
   refine cj_seq ?_
   refine cj_reg ?_
   refine lp rfl (p_mv rfl) ?_
   refine lp rfl (p_as rfl) ?_
   refine lj_seq ?_
   have hm := hRk6 _ (Option.some.inj hm).symm
   obtain rfl := Option.some.inj hm
   exact cj_rt () [] Tryz.results71 (.tmp rfl .nil) rfl rfl
  ·have hm := ifB_f hb hm
   refine cj_skip ?_
   refine nj_blk ?_
   exact cnk6 _ _ () () (hJk6 _ (Option.some.inj hm).symm) ⟨rfl, rfl, rfl, rfl, rfl, trivial⟩ (fun _ h => h.picks [0, 0, 0] rfl)
theorem ok_gleeref2_ItemAt (s0_ : SV) (xg0_ : List (TItem × SV)) (a0 : (List TItem)) (a1 : ByteArray) {r : Int} (hm : m_gleeref2_ItemAt a0 a1 = some r) :
  Ctr Tryz.prog 51 [s0_.v, .string a1].toArray ([] : List Ent) [Lk N47 a0 xg0_, RdS N47.R (SV.v s0_) xg0_] (X := Unit) (fun _ => .int .i64 r) (fun _ => []) := by
 unfold m_gleeref2_ItemAt at hm
 refine ctr_mk (vs := [(0, s0_.v), (1, .string a1)]) Tryz.func51 rfl Tryz.ntmps51 rfl ⟨rfl, rfl, trivial⟩ (fun w0 A => ?_)
 refine cj_pure (F := Lk N47 a0 xg0_) (.ro 0 rfl) (fun _ h => h.1) (fun hL0_ => ?_)
 refine cj_seq ?_
 refine cj_reg ?_
 refine r_bx (cs := [.string a1]) rfl rfl rfl (fun b1 => ?_)
 refine lp rfl (p_as rfl) ?_
 refine lj_seq ?_
 refine cj_seq ?_
 refine cj_reg ?_
 refine lp rfl (p_mv rfl) ?_
 refine lp rfl (p_fn (cv := [.pointer (some ⟨b1, 0, none⟩)]) rfl) ?_
 obtain ⟨y2, hy2, hm⟩ := bindS hm
 refine r_call [] cf71 rfl rfl (ok_slices_IndexFunc_api_Item_api_Item__gleeref2_ItemAt_1 s0_ xg0_ a0 b1 a1 hy2) rfl rfl (.cons (.ro 1 rfl) (.cons (.ro 2 rfl) (.cons (.imp (.box 0 rfl) (fun _ h => h)) .nil))) (fun _ => rfl) rfl (fun _ => ?_)
 refine lp rfl (p_as rfl) ?_
 refine lj_seq ?_
 obtain rfl := Option.some.inj hm
 exact cj_rt () [] Tryz.results51 (.tmp rfl .nil) rfl rfl
theorem ok_gleeref2_Rising (s0_ : SV) (a0 : (List ByteArray)) {r : Int} (hm : m_gleeref2_Rising a0 = some r) :
  Ctr Tryz.prog 52 [s0_.v].toArray ([] : List Ent) [RdS R9 (SV.v s0_) a0] (X := Unit) (fun _ => .int .i64 r) (fun _ => []) := by
 unfold m_gleeref2_Rising at hm
 refine ctr_mk (vs := [(0, s0_.v)]) Tryz.func52 rfl Tryz.ntmps52 rfl ⟨rfl, trivial⟩ (fun w0 A => ?_)
 refine cj_seq ?_
 refine cj_reg ?_
 refine lp rfl (p_as rfl) ?_
 refine lj_seq ?_
 refine cj_seq ?_
 refine cj_seq ?_
 refine cj_reg ?_
 refine lp rfl (p_mv rfl) ?_
 refine lp rfl (p_len Tryz.underlying45 rfl (.ro 0 rfl)) ?_
 refine lp rfl (p_mv rfl) ?_
 refine lj_seq ?_
 obtain ⟨f7, hf7, hm⟩ := bindS hm
 refine cj_range (γ := Unit) (m := (a0.length : Int)) hf7 () (fun u4 g5 => [(0, s0_.v), (2, .int .i64 0), (5, s0_.v)]) (fun u4 g5 => Sat w0 (keys ([] : List Ent)) A [.ro (RdS R9 (SV.v s0_) a0)]) ⟨rfl, rfl, rfl, rfl, rfl, trivial⟩ (fun _ h => h.picks [0] rfl) (nat_lt _) (fun _ h => (FactAt.get (F := RdS R9 (SV.v s0_) a0) (.ro 0 rfl) h).1) (fun _ _ => ⟨rfl, rfl, rfl, rfl⟩) ⟨rfl, rfl, rfl, rfl, rfl⟩ rfl rfl rfl (fun u4 g5 e => ?_) (fun aftk6 i1 x2 u4 g5 k6 hx3 hs J hJk6 hBk6 hX I cnk6 => ?_)
 ·have hm := Flow.fin_b e hm
  refine nj_seq ?_
  refine cj_seq ?_
  refine cj_reg ?_
  refine lp rfl (p_as rfl) ?_
  refine lj_seq ?_
  obtain rfl := Option.some.inj hm
  exact cj_rt () [] Tryz.results52 (.tmp rfl .nil) rfl rfl
 ·have hRk6 : ∀ t, k6 = .ret t → some t = some r := fun t e => by rw [hX t e] at hm; exact hm
  have hm := hs
  refine cj_seq ?_
  refine cj_reg ?_
  refine lp rfl (p_mv rfl) ?_
  refine lp rfl (p_idx Tryz.underlying45 ty9 rfl rfl (.ro 0 rfl) (getI_nat.trans hx3)) ?_
  refine lp rfl (p_lde (o := 0) ty9 rfl rfl (.ro 0 rfl) hx3 rfl) ?_
  refine lp rfl (p_as rfl) ?_
  refine lp rfl (p_as rfl) ?_
  refine lj_seq ?_
  refine cj_seq ?_
  refine cj_seq ?_
  refine cj_reg ?_
  refine lp rfl (p_mv rfl) ?_
  obtain ⟨y8, hy8, hm⟩ := bindS hm
  refine r_call [] cf50 rfl rfl (ok_gleeref2_Key x2 hy8) rfl rfl .nil (fun _ => rfl) rfl (fun _ => ?_)
  refine lp rfl (p_not rfl) ?_
  refine lj_seq ?_
  refine cj_if (b := !y8) rfl (fun hb => ?_) (fun hb => ?_)
  ·have hm := ifB_t hb hm
   refine cj_seq ?_
   refine cj_reg ?_
   refine lp rfl (p_as rfl) ?_
   refine lj_seq ?_
   have hm := hRk6 _ (Option.some.inj hm).symm
   obtain rfl := Option.some.inj hm
   exact cj_rt () [] Tryz.results52 (.tmp rfl .nil) rfl rfl
  ·have hm := ifB_f hb hm
   refine cj_skip ?_
   refine nj_seq ?_
   refine cj_seq ?_
   refine cj_reg ?_
   obtain ⟨k11, hk11, hm⟩ := bindS hm
   have hRk11 : ∀ t, k11 = .inr t → some t = some k6 := fun t e => by rw [e] at hm; exact hm
   refine lj_join (σ := Bool) (γ := Unit) (fun u9 => k11 = .inl u9) (fun u9 g10 => [(0, s0_.v), (2, .int .i64 0), (5, s0_.v), (6, .int .i64 (a0.length : Int)), (7, .int .i64 (i1 : Int)), (25, .bool u9)]) (fun u9 g10 => Sat w0 (keys ([] : List Ent)) A [.ro (RdS R9 (SV.v s0_) a0)]) (fun u9 g10 hq => ?_) (fun J cnk11 => ?_)
   ·have hm := Sum.fin_l hq hm
    refine cj_if (b := u9) rfl (fun hb => ?_) (fun hb => ?_)
    ·have hm := ifB_t hb hm
     refine cj_seq ?_
     refine cj_reg ?_
     refine lp rfl (p_as rfl) ?_
     refine lj_seq ?_
     have hm := hRk6 _ (Option.some.inj hm).symm
     obtain rfl := Option.some.inj hm
     exact cj_rt () [] Tryz.results52 (.tmp rfl .nil) rfl rfl
    ·have hm := ifB_f hb hm
     refine cj_skip ?_
     refine nj_blk ?_
     exact cnk6 _ _ () () (hJk6 _ (Option.some.inj hm).symm) ⟨rfl, rfl, rfl, rfl, rfl, trivial⟩ (fun _ h => h.picks [0] rfl)
   ·have hm := hk11
    refine lp rfl (p_mv rfl) ?_
    refine lp rfl (p_gtr rfl rfl) ?_
    refine lp rfl (p_mv rfl) ?_
    refine lcase (i := 17) (decide ((i1 : Int) > 0)) rfl (fun hb => ?_) (fun hb => ?_)
    ·have hm := ifB_t hb hm
     refine lg true rfl rfl rfl ?_
     refine lp rfl (p_mv rfl) ?_
     refine lg true rfl rfl rfl ?_
     refine lp rfl (p_mv rfl) ?_
     refine lg true rfl rfl rfl ?_
     refine lp rfl (p_mv rfl) ?_
     refine lg true rfl rfl rfl ?_
     refine lp rfl (p_sub rfl rfl) ?_
     refine lg true rfl rfl rfl ?_
     obtain ⟨e12, he12, hm⟩ := bindS hm
     refine lp rfl (p_idx Tryz.underlying45 ty9 rfl rfl (.ro 0 rfl) he12) ?_
     refine lg true rfl rfl rfl ?_
     refine lp rfl (p_lde (o := 0) ty9 rfl rfl (.ro 0 rfl) (getI_spec he12).2 rfl) ?_
     refine lg true rfl rfl rfl ?_
     refine lp rfl (p_les rfl rfl) ?_
     refine lp rfl (p_pkt rfl rfl) ?_
     refine lj_nil ?_
     exact cnk11 _ _ (Op.bytesLess x2.toList e12.toList || x2.toList == e12.toList) () (Option.some.inj hm).symm ⟨rfl, rfl, rfl, rfl, rfl, rfl, trivial⟩ (fun _ h => h.picks [0] rfl)
    ·have hm := ifB_f hb hm
     refine ls true rfl rfl rfl rfl ?_
     refine ls true rfl rfl rfl rfl ?_
     refine ls true rfl rfl rfl rfl ?_
     refine ls true rfl rfl rfl rfl ?_
     refine ls true rfl rfl rfl rfl ?_
     refine ls true rfl rfl rfl rfl ?_
     refine ls true rfl rfl rfl rfl ?_
     refine lp rfl (p_pkf rfl rfl) ?_
     refine lj_nil ?_
     exact cnk11 _ _ false () (Option.some.inj hm).symm ⟨rfl, rfl, rfl, rfl, rfl, rfl, trivial⟩ (fun _ h => h.picks [0] rfl)
theorem ok_gleeref2_ItemsFault (s0_ : SV) (xg0_ : List (TItem × SV)) (a0 : (List TItem)) {r : Int} (hm : m_gleeref2_ItemsFault a0 = some r) :
  Ctr Tryz.prog 28 [s0_.v].toArray ([] : List Ent) [Lk N47 a0 xg0_, RdS N47.R (SV.v s0_) xg0_] (X := Unit) (fun _ => .int .i64 r) (fun _ => []) := by
 unfold m_gleeref2_ItemsFault at hm
 refine ctr_mk (vs := [(0, s0_.v)]) Tryz.func28 rfl Tryz.ntmps28 rfl ⟨rfl, trivial⟩ (fun w0 A => ?_)
 refine cj_pure (F := Lk N47 a0 xg0_) (.ro 0 rfl) (fun _ h => h.1) (fun hL0_ => ?_)
 refine cj_seq ?_
 refine cj_reg ?_
 refine lp rfl (p_as rfl) ?_
 refine lj_seq ?_
 refine cj_seq ?_
 refine cj_seq ?_
 refine cj_reg ?_
 refine lp rfl (p_mv rfl) ?_
 refine lp rfl (p_lenG hL0_ Tryz.underlying26 rfl (.ro 1 rfl)) ?_
 refine lp rfl (p_gtr rfl rfl) ?_
 refine lj_seq ?_
 refine cj_if (b := decide ((a0.length : Int) > 60)) rfl (fun hb => ?_) (fun hb => ?_)
 ·have hm := ifB_t hb hm
  refine cj_seq ?_
  refine cj_reg ?_
  refine lp rfl (p_as rfl) ?_
  refine lj_seq ?_
  obtain rfl := Option.some.inj hm
  exact cj_rt () [] Tryz.results28 (.tmp rfl .nil) rfl rfl
 ·have hm := ifB_f hb hm
  refine cj_skip ?_
  refine nj_seq ?_
  refine cj_seq ?_
  refine cj_seq ?_
  refine cj_reg ?_
  refine lp rfl (p_mv rfl) ?_
  refine lp rfl (p_lenG hL0_ Tryz.underlying26 rfl (.ro 1 rfl)) ?_
  refine lp rfl (p_mv rfl) ?_
  refine lj_seq ?_
  obtain ⟨f7, hf7, hm⟩ := bindS hm
  refine cj_range (γ := Unit) (m := (a0.length : Int)) hf7 () (fun u4 g5 => [(0, s0_.v), (2, .int .i64 0), (9, s0_.v)]) (fun u4 g5 => Sat w0 (keys ([] : List Ent)) A [.ro (Lk N47 a0 xg0_), .ro (RdS N47.R (SV.v s0_) xg0_)]) ⟨rfl, rfl, rfl, rfl, rfl, trivial⟩ (fun _ h => h.picks [0, 0] rfl) (nat_lt _) (fun _ h => by have h1 := (FactAt.get (F := RdS N47.R (SV.v s0_) xg0_) (.ro 1 rfl) h).1; rw [lk_len hL0_] at h1; exact h1) (fun _ _ => ⟨rfl, rfl, rfl, rfl⟩) ⟨rfl, rfl, rfl, rfl, rfl⟩ rfl rfl rfl (fun u4 g5 e => ?_) (fun aftk6 i1 x2 u4 g5 k6 hx3 hs J hJk6 hBk6 hX I cnk6 => ?_)
  ·have hm := Flow.fin_b e hm
   refine nj_seq ?_
   refine cj_seq ?_
   refine cj_reg ?_
   refine lp rfl (p_as rfl) ?_
   refine lj_seq ?_
   obtain rfl := Option.some.inj hm
   exact cj_rt () [] Tryz.results28 (.tmp rfl .nil) rfl rfl
  ·have hRk6 : ∀ t, k6 = .ret t → some t = some r := fun t e => by rw [hX t e] at hm; exact hm
   have hm := hs
   refine cj_seq ?_
   refine cj_reg ?_
   refine lp rfl (p_mv rfl) ?_
   obtain ⟨gx2, hx3G⟩ := lk_get hL0_ hx3
   refine lp rfl (p_idx Tryz.underlying26 ty47 rfl rfl (.ro 1 rfl) (getI_nat.trans hx3G)) ?_
   refine lp rfl (p_leaN (cs := [.string x2.Key, .string x2.Places, .int .i64 x2.Long, gx2.v]) ty47 rfl (.ro 1 rfl) hx3G rfl) ?_
   refine r_al ty47 rfl (fun b8 => ?_)
   refine lp rfl (p_as rfl) ?_
   refine r_sb (vs := [.string x2.Key, .string x2.Places, .int .i64 x2.Long, gx2.v]) (j := 0) ty47 rfl rfl rfl rfl rfl rfl rfl ?_
   refine lj_seq ?_
   refine cj_seq ?_
   refine cj_blk ?_
   refine cj_seq ?_
   refine cj_reg ?_
   obtain ⟨k11, hk11, hm⟩ := bindS hm
   have hRk11 : ∀ t, k11 = .inr t → some t = some k6 := fun t e => by rw [e] at hm; exact hm
   refine lj_join (σ := Bool) (γ := Unit) (fun u9 => k11 = .inl u9) (fun u9 g10 => [(0, s0_.v), (2, .int .i64 0), (3, .int .i64 (i1 : Int)), (4, .pointer (some ⟨b8, 0, none⟩)), (9, s0_.v), (10, .int .i64 (a0.length : Int)), (11, .int .i64 (i1 : Int)), (16, .bool u9)]) (fun u9 g10 => Sat w0 (keys ([] : List Ent)) A [.box b8 47 [.string x2.Key, .string x2.Places, .int .i64 x2.Long, gx2.v], .ro (Lk N47 a0 xg0_), .ro (RdS N47.R (SV.v s0_) xg0_)]) (fun u9 g10 hq => ?_) (fun J cnk11 => ?_)
   ·have hm := Sum.fin_l hq hm
    refine cj_if (b := u9) rfl (fun hb => ?_) (fun hb => ?_)
    ·have hm := ifB_t hb hm
     refine cj_seq ?_
     refine cj_reg ?_
     refine lp rfl (p_as rfl) ?_
     refine lj_seq ?_
     have hm := hRk6 _ (Option.some.inj hm).symm
     obtain rfl := Option.some.inj hm
     exact cj_rt () [] Tryz.results28 (.tmp rfl .nil) rfl rfl
    ·have hm := ifB_f hb hm
     refine cj_seq ?_
     refine cj_quiet (by kernel_rfl) (by kernel_rfl) ?_
     refine q_p rfl (p_mv rfl) ?_
     refine q_p rfl (p_mv rfl) ?_
     obtain ⟨q14, hq14, hm⟩ := bindS hm
     obtain ⟨q14G, hq14G, hLq14, hsq14⟩ := lk_cut hL0_ hq14
     refine q_p rfl (p_cut Tryz.underlying26 ty47 rfl rfl rfl rfl rfl (.ro 2 rfl) rfl rfl hq14G) ?_
     refine q_p rfl (p_fab fl47_0 rfl) ?_
     refine q_p rfl (p_lbs ty9 rfl (j := 0) rfl rfl) ?_
     obtain ⟨y15, hy15, hm⟩ := bindS hm
     refine q_call (.int .i64 y15) cf51 rfl rfl (ok_gleeref2_ItemAt (s0_.sub N47.R.sz (0 : Int).toNat (i1 : Int).toNat) q14G q14 x2.Key hy15) (.cons (.imp (.ro 1 rfl) (fun _ h => Lk.sub h hLq14 hsq14)) (.cons (.imp (.ro 2 rfl) (fun _ h => h.cut hq14G)) .nil)) (fun _ => rfl) (fun _ => rfl) rfl ?_
     refine q_p rfl (p_geq rfl rfl) ?_
     refine q_p rfl (p_as rfl) ?_
     refine q_nil ?_
     refine nj_seq ?_
     refine cj_if (b := decide (y15 ≥ 0)) rfl (fun hb => ?_) (fun hb => ?_)
     ·have hm := ifB_t hb hm
      refine cj_seq ?_
      refine cj_reg ?_
      refine lp rfl (p_as rfl) ?_
      refine lj_seq ?_
      have hm := hRk6 _ (Option.some.inj hm).symm
      obtain rfl := Option.some.inj hm
      exact cj_rt () [] Tryz.results28 (.tmp rfl .nil) rfl rfl
     ·have hm := ifB_f hb hm
      refine cj_seq ?_
      refine cj_reg ?_
      refine lp rfl (p_fab fl47_2 rfl) ?_
      refine lp rfl (p_lbs ty3 rfl (j := 0) rfl rfl) ?_
      obtain ⟨y16, hy16, hm⟩ := bindS hm
      refine r_call [] cf29 rfl rfl (ok_gleeref2_in x2.Long 1 86400000 hy16) rfl rfl .nil (fun _ => rfl) rfl (fun _ => ?_)
      refine lp rfl (p_not rfl) ?_
      refine lp rfl (p_as rfl) ?_
      refine lj_seq ?_
      refine cj_if (b := !y16) rfl (fun hb => ?_) (fun hb => ?_)
      ·have hm := ifB_t hb hm
       refine cj_seq ?_
       refine cj_reg ?_
       refine lp rfl (p_as rfl) ?_
       refine lj_seq ?_
       have hm := hRk6 _ (Option.some.inj hm).symm
       obtain rfl := Option.some.inj hm
       exact cj_rt () [] Tryz.results28 (.tmp rfl .nil) rfl rfl
      ·have hm := ifB_f hb hm
       refine cj_seq ?_
       refine cj_reg ?_
       refine lp rfl (p_fab fl47_3 rfl) ?_
       refine lp rfl (p_lbs ty45 rfl (j := 0) rfl rfl) ?_
       refine lp rfl (p_len Tryz.underlying45 rfl (.imp (.ro 1 rfl) (fun _ h => (Lk.at_ h hx3G)))) ?_
       refine lp rfl (p_eql rfl rfl) ?_
       refine lp rfl (p_as rfl) ?_
       refine lj_seq ?_
       refine cj_if (b := (x2.Parts.length : Int) == 0) rfl (fun hb => ?_) (fun hb => ?_)
       ·have hm := ifB_t hb hm
        refine cj_seq ?_
        refine cj_reg ?_
        refine lp rfl (p_as rfl) ?_
        refine lj_seq ?_
        have hm := hRk6 _ (Option.some.inj hm).symm
        obtain rfl := Option.some.inj hm
        exact cj_rt () [] Tryz.results28 (.tmp rfl .nil) rfl rfl
       ·have hm := ifB_f hb hm
        refine cj_seq ?_
        refine cj_reg ?_
        refine lp rfl (p_fab fl47_3 rfl) ?_
        refine lp rfl (p_lbs ty45 rfl (j := 0) rfl rfl) ?_
        refine lp rfl (p_len Tryz.underlying45 rfl (.imp (.ro 1 rfl) (fun _ h => (Lk.at_ h hx3G)))) ?_
        refine lp rfl (p_gtr rfl rfl) ?_
        refine lp rfl (p_as rfl) ?_
        refine lj_seq ?_
        refine cj_if (b := decide ((x2.Parts.length : Int) > 12)) rfl (fun hb => ?_) (fun hb => ?_)
        ·have hm := ifB_t hb hm
         refine cj_seq ?_
         refine cj_reg ?_
         refine lp rfl (p_as rfl) ?_
         refine lj_seq ?_
         have hm := hRk6 _ (Option.some.inj hm).symm
         obtain rfl := Option.some.inj hm
         exact cj_rt () [] Tryz.results28 (.tmp rfl .nil) rfl rfl
        ·have hm := ifB_f hb hm
         refine cj_skip ?_
         refine nj_blk ?_
         refine nj_seq ?_
         refine cj_seq ?_
         refine cj_reg ?_
         refine lp rfl (p_fab fl47_3 rfl) ?_
         refine lp rfl (p_lbs ty45 rfl (j := 0) rfl rfl) ?_
         obtain ⟨y17, hy17, hm⟩ := bindS hm
         refine r_call [] cf52 rfl rfl (ok_gleeref2_Rising gx2 x2.Parts hy17) rfl rfl (.cons (.imp (.ro 1 rfl) (fun _ h => (Lk.at_ h hx3G))) .nil) (fun _ => rfl) rfl (fun _ => ?_)
         refine lp rfl (p_as rfl) ?_
         refine lj_seq ?_
         refine cj_seq ?_
         refine cj_reg ?_
         refine lp rfl (p_mv rfl) ?_
         refine lp rfl (p_neq rfl rfl) ?_
         refine lj_seq ?_
         refine cj_if (b := y17 != 0) rfl (fun hb => ?_) (fun hb => ?_)
         ·have hm := ifB_t hb hm
          refine cj_seq ?_
          refine cj_reg ?_
          refine lp rfl (p_mv rfl) ?_
          refine lp rfl (p_as rfl) ?_
          refine lj_seq ?_
          have hm := hRk6 _ (Option.some.inj hm).symm
          obtain rfl := Option.some.inj hm
          exact cj_rt () [] Tryz.results28 (.tmp rfl .nil) rfl rfl
         ·have hm := ifB_f hb hm
          refine cj_skip ?_
          refine nj_blk ?_
          exact cnk6 _ _ () () (hJk6 _ (Option.some.inj hm).symm) ⟨rfl, rfl, rfl, rfl, rfl, trivial⟩ (fun _ h => h.picks [1, 1] rfl)
   ·have hm := hk11
    refine lp rfl (p_fab fl47_0 rfl) ?_
    refine lp rfl (p_lbs ty9 rfl (j := 0) rfl rfl) ?_
    obtain ⟨y12, hy12, hm⟩ := bindS hm
    refine r_call [] cf50 rfl rfl (ok_gleeref2_Key x2.Key hy12) rfl rfl .nil (fun _ => rfl) rfl (fun _ => ?_)
    refine lp rfl (p_not rfl) ?_
    refine lp rfl (p_mv rfl) ?_
    refine lcase (i := 21) (!y12) rfl (fun hb => ?_) (fun hb => ?_)
    ·have hm := ifB_t hb hm
     refine ls false rfl rfl rfl rfl ?_
     refine ls false rfl rfl rfl rfl ?_
     refine ls false rfl rfl rfl rfl ?_
     refine ls false rfl rfl rfl rfl ?_
     refine lp rfl (p_pkt rfl rfl) ?_
     refine lp rfl (p_as rfl) ?_
     refine lj_nil ?_
     exact cnk11 _ _ true () (Option.some.inj hm).symm ⟨rfl, rfl, rfl, rfl, rfl, rfl, rfl, rfl, trivial⟩ (fun _ h => h.picks [0, 0, 0] rfl)
    ·have hm := ifB_f hb hm
     refine lg false rfl rfl rfl ?_
     refine lp rfl (p_fab fl47_1 rfl) ?_
     refine lg false rfl rfl rfl ?_
     refine lp rfl (p_lbs ty9 rfl (j := 0) rfl rfl) ?_
     refine lg false rfl rfl rfl ?_
     obtain ⟨y13, hy13, hm⟩ := bindS hm
     refine r_call [] cf50 rfl rfl (ok_gleeref2_Key x2.Places hy13) rfl rfl .nil (fun _ => rfl) rfl (fun _ => ?_)
     refine lg false rfl rfl rfl ?_
     refine lp rfl (p_not rfl) ?_
     refine lp rfl (p_pkf rfl rfl) ?_
     refine lp rfl (p_as rfl) ?_
     refine lj_nil ?_
     exact cnk11 _ _ (!y13) () (Option.some.inj hm).symm ⟨rfl, rfl, rfl, rfl, rfl, rfl, rfl, rfl, trivial⟩ (fun _ h => h.picks [0, 0, 0] rfl)
theorem ok_gleeref2_ProgramFault (a0 : TProgram) (s0_0_ : SV) (xg0_0_ : List (TItem × SV)) {r : Int} (hm : m_gleeref2_ProgramFault a0 = some r) :
  Ctr Tryz.prog 7 [.agg [s0_0_.v, .int .i64 a0.Change, .int .i64 a0.Clap, .int .i64 a0.Break, .int .i64 a0.Half].toArray].toArray ([] : List Ent) [Lk N47 a0.Items xg0_0_, RdS N47.R (SV.v s0_0_) xg0_0_] (X := Unit) (fun _ => .int .i64 r) (fun _ => []) := by
 unfold m_gleeref2_ProgramFault at hm
 refine ctr_mk (vs := [(0, .agg [s0_0_.v, .int .i64 a0.Change, .int .i64 a0.Clap, .int .i64 a0.Break, .int .i64 a0.Half].toArray)]) Tryz.func7 rfl Tryz.ntmps7 rfl ⟨rfl, trivial⟩ (fun w0 A => ?_)
 refine cj_pure (F := Lk N47 a0.Items xg0_0_) (.ro 0 rfl) (fun _ h => h.1) (fun hL0_0_ => ?_)
 refine cj_seq ?_
 refine cj_reg ?_
 refine r_bx (cs := [s0_0_.v, .int .i64 a0.Change, .int .i64 a0.Clap, .int .i64 a0.Break, .int .i64 a0.Half]) rfl rfl rfl (fun b1 => ?_)
 refine lp rfl (p_as rfl) ?_
 refine lj_seq ?_
 refine cj_seq ?_
 refine cj_seq ?_
 refine cj_reg ?_
 refine lp rfl (p_fab fl28_0 rfl) ?_
 refine lp rfl (p_lbs ty26 rfl (j := 0) rfl rfl) ?_
 obtain ⟨y2, hy2, hm⟩ := bindS hm
 refine r_call [] cf28 rfl rfl (ok_gleeref2_ItemsFault s0_0_ xg0_0_ a0.Items hy2) rfl rfl (.cons (.ro 1 rfl) (.cons (.ro 2 rfl) .nil)) (fun _ => rfl) rfl (fun _ => ?_)
 refine lp rfl (p_as rfl) ?_
 refine lj_seq ?_
 refine cj_seq ?_
 refine cj_reg ?_
 refine lp rfl (p_mv rfl) ?_
 refine lp rfl (p_neq rfl rfl) ?_
 refine lj_seq ?_
 refine cj_if (b := y2 != 0) rfl (fun hb => ?_) (fun hb => ?_)
 ·have hm := ifB_t hb hm
  refine cj_seq ?_
  refine cj_reg ?_
  refine lp rfl (p_mv rfl) ?_
  refine lp rfl (p_as rfl) ?_
  refine lj_seq ?_
  obtain rfl := Option.some.inj hm
  exact cj_rt () [] Tryz.results7 (.tmp rfl .nil) rfl rfl
 ·have hm := ifB_f hb hm
  refine cj_skip ?_
  refine nj_seq ?_
  refine cj_seq ?_
  refine cj_seq ?_
  refine cj_reg ?_
  obtain ⟨k5, hk5, hm⟩ := bindS hm
  have hRk5 : ∀ t, k5 = .inr t → some t = some r := fun t e => by rw [e] at hm; exact hm
  refine lj_join (σ := Bool) (γ := Unit) (fun u3 => k5 = .inl u3) (fun u3 g4 => [(2, .int .i64 0), (36, .bool u3)]) (fun u3 g4 => Sat w0 (keys ([] : List Ent)) A []) (fun u3 g4 hq => ?_) (fun J cnk5 => ?_)
  ·have hm := Sum.fin_l hq hm
   refine cj_if (b := u3) rfl (fun hb => ?_) (fun hb => ?_)
   ·have hm := ifB_t hb hm
    refine cj_seq ?_
    refine cj_reg ?_
    refine lp rfl (p_as rfl) ?_
    refine lj_seq ?_
    obtain rfl := Option.some.inj hm
    exact cj_rt () [] Tryz.results7 (.tmp rfl .nil) rfl rfl
   ·have hm := ifB_f hb hm
    refine cj_skip ?_
    refine nj_seq ?_
    refine cj_seq ?_
    refine cj_reg ?_
    refine lp rfl (p_as rfl) ?_
    refine lj_seq ?_
    obtain rfl := Option.some.inj hm
    exact cj_rt () [] Tryz.results7 (.tmp rfl .nil) rfl rfl
  ·have hm := hk5
   refine lp rfl (p_fab fl28_1 rfl) ?_
   refine lp rfl (p_lbs ty3 rfl (j := 0) rfl rfl) ?_
   obtain ⟨y6, hy6, hm⟩ := bindS hm
   refine r_call [] cf29 rfl rfl (ok_gleeref2_in a0.Change 0 86400000 hy6) rfl rfl .nil (fun _ => rfl) rfl (fun _ => ?_)
   refine lp rfl (p_not rfl) ?_
   refine lp rfl (p_mv rfl) ?_
   refine lcase (i := 14) (!y6) rfl (fun hb => ?_) (fun hb => ?_)
   ·have hm := ifB_t hb hm
    refine ls false rfl rfl rfl rfl ?_
    refine ls false rfl rfl rfl rfl ?_
    refine ls false rfl rfl rfl rfl ?_
    refine ls false rfl rfl rfl rfl ?_
    refine lp rfl (p_pkt rfl rfl) ?_
    refine lp rfl (p_mv rfl) ?_
    refine ls false rfl rfl rfl rfl ?_
    refine ls false rfl rfl rfl rfl ?_
    refine ls false rfl rfl rfl rfl ?_
    refine ls false rfl rfl rfl rfl ?_
    refine lp rfl (p_pkt rfl rfl) ?_
    refine lp rfl (p_mv rfl) ?_
    refine ls false rfl rfl rfl rfl ?_
    refine ls false rfl rfl rfl rfl ?_
    refine ls false rfl rfl rfl rfl ?_
    refine ls false rfl rfl rfl rfl ?_
    refine ls false rfl rfl rfl rfl ?_
    refine ls false rfl rfl rfl rfl ?_
    refine ls false rfl rfl rfl rfl ?_
    refine ls false rfl rfl rfl rfl ?_
    refine ls false rfl rfl rfl rfl ?_
    refine lp rfl (p_pkt rfl rfl) ?_
    refine lj_nil ?_
    exact cnk5 _ _ true () (Option.some.inj hm).symm ⟨rfl, rfl, trivial⟩ (fun _ h => h.picks [] rfl)
   ·have hm := ifB_f hb hm
    refine lg false rfl rfl rfl ?_
    refine lp rfl (p_fab fl28_2 rfl) ?_
    refine lg false rfl rfl rfl ?_
    refine lp rfl (p_lbs ty3 rfl (j := 0) rfl rfl) ?_
    refine lg false rfl rfl rfl ?_
    obtain ⟨y7, hy7, hm⟩ := bindS hm
    refine r_call [] cf29 rfl rfl (ok_gleeref2_in a0.Clap 0 86400000 hy7) rfl rfl .nil (fun _ => rfl) rfl (fun _ => ?_)
    refine lg false rfl rfl rfl ?_
    refine lp rfl (p_not rfl) ?_
    refine lp rfl (p_pkf rfl rfl) ?_
    refine lp rfl (p_mv rfl) ?_
    refine lcase (i := 20) (!y7) rfl (fun hb => ?_) (fun hb => ?_)
    ·have hm := ifB_t hb hm
     refine ls false rfl rfl rfl rfl ?_
     refine ls false rfl rfl rfl rfl ?_
     refine ls false rfl rfl rfl rfl ?_
     refine ls false rfl rfl rfl rfl ?_
     refine lp rfl (p_pkt rfl rfl) ?_
     refine lp rfl (p_mv rfl) ?_
     refine ls false rfl rfl rfl rfl ?_
     refine ls false rfl rfl rfl rfl ?_
     refine ls false rfl rfl rfl rfl ?_
     refine ls false rfl rfl rfl rfl ?_
     refine ls false rfl rfl rfl rfl ?_
     refine ls false rfl rfl rfl rfl ?_
     refine ls false rfl rfl rfl rfl ?_
     refine ls false rfl rfl rfl rfl ?_
     refine ls false rfl rfl rfl rfl ?_
     refine lp rfl (p_pkt rfl rfl) ?_
     refine lj_nil ?_
     exact cnk5 _ _ true () (Option.some.inj hm).symm ⟨rfl, rfl, trivial⟩ (fun _ h => h.picks [] rfl)
    ·have hm := ifB_f hb hm
     refine lg false rfl rfl rfl ?_
     refine lp rfl (p_fab fl28_3 rfl) ?_
     refine lg false rfl rfl rfl ?_
     refine lp rfl (p_lbs ty3 rfl (j := 0) rfl rfl) ?_
     refine lg false rfl rfl rfl ?_
     obtain ⟨y8, hy8, hm⟩ := bindS hm
     refine r_call [] cf29 rfl rfl (ok_gleeref2_in a0.Break 0 86400000 hy8) rfl rfl .nil (fun _ => rfl) rfl (fun _ => ?_)
     refine lg false rfl rfl rfl ?_
     refine lp rfl (p_not rfl) ?_
     refine lp rfl (p_pkf rfl rfl) ?_
     refine lp rfl (p_mv rfl) ?_
     refine lcase (i := 26) (!y8) rfl (fun hb => ?_) (fun hb => ?_)
     ·have hm := ifB_t hb hm
      refine ls false rfl rfl rfl rfl ?_
      refine ls false rfl rfl rfl rfl ?_
      refine ls false rfl rfl rfl rfl ?_
      refine ls false rfl rfl rfl rfl ?_
      refine ls false rfl rfl rfl rfl ?_
      refine ls false rfl rfl rfl rfl ?_
      refine ls false rfl rfl rfl rfl ?_
      refine ls false rfl rfl rfl rfl ?_
      refine ls false rfl rfl rfl rfl ?_
      refine lp rfl (p_pkt rfl rfl) ?_
      refine lj_nil ?_
      exact cnk5 _ _ true () (Option.some.inj hm).symm ⟨rfl, rfl, trivial⟩ (fun _ h => h.picks [] rfl)
     ·have hm := ifB_f hb hm
      refine lg false rfl rfl rfl ?_
      refine lp rfl (p_fab fl28_4 rfl) ?_
      refine lg false rfl rfl rfl ?_
      refine lp rfl (p_lbs ty3 rfl (j := 0) rfl rfl) ?_
      refine lg false rfl rfl rfl ?_
      refine lp rfl (p_fab fl28_0 rfl) ?_
      refine lg false rfl rfl rfl ?_
      refine lp rfl (p_lbs ty26 rfl (j := 0) rfl rfl) ?_
      refine lg false rfl rfl rfl ?_
      refine lp rfl (p_lenG hL0_0_ Tryz.underlying26 rfl (.ro 2 rfl)) ?_
      refine lg false rfl rfl rfl ?_
      refine lp rfl (p_sub rfl rfl) ?_
      refine lg false rfl rfl rfl ?_
      refine lp rfl (p_max rfl rfl) ?_
      refine lg false rfl rfl rfl ?_
      obtain ⟨y9, hy9, hm⟩ := bindS hm
      refine r_call [] cf29 rfl rfl (ok_gleeref2_in a0.Half (-1) (max (-1) (w64 ((a0.Items.length : Int) - 2))) hy9) rfl rfl .nil (fun _ => rfl) rfl (fun _ => ?_)
      refine lg false rfl rfl rfl ?_
      refine lp rfl (p_not rfl) ?_
      refine lp rfl (p_pkf rfl rfl) ?_
      refine lj_nil ?_
      exact cnk5 _ _ (!y9) () (Option.some.inj hm).symm ⟨rfl, rfl, trivial⟩ (fun _ h => h.picks [] rfl)
theorem ok_stringslite_HasSuffix (a0 : ByteArray) (a1 : ByteArray) {r : Bool} (hm : m_stringslite_HasSuffix a0 a1 = some r) :
  Ctr Tryz.prog 90 [.string a0, .string a1].toArray ([] : List Ent) [] (X := Unit) (fun _ => .bool r) (fun _ => []) := by
 unfold m_stringslite_HasSuffix at hm
 refine ctr_mk (vs := [(0, .string a0), (1, .string a1)]) Tryz.func90 rfl Tryz.ntmps90 rfl ⟨rfl, rfl, trivial⟩ (fun w0 A => ?_)
 refine cj_seq ?_
 refine cj_reg ?_
 refine lp rfl (p_as rfl) ?_
 refine lj_seq ?_
 refine cj_seq ?_
 refine cj_reg ?_
 refine lp rfl (p_mv rfl) ?_
 refine lp rfl (p_lens Tryz.underlying9 rfl) ?_
 refine lp rfl (p_mv rfl) ?_
 refine lp rfl (p_lens Tryz.underlying9 rfl) ?_
 refine lp rfl (p_geq rfl rfl) ?_
 refine lp rfl (p_mv rfl) ?_
 refine lcase (i := 10) (decide ((a0.size : Int) ≥ (a1.size : Int))) rfl (fun hb => ?_) (fun hb => ?_)
 ·have hm := ifB_t hb hm
  refine lg true rfl rfl rfl ?_
  refine lp rfl (p_mv rfl) ?_
  refine lg true rfl rfl rfl ?_
  refine lp rfl (p_mv rfl) ?_
  refine lg true rfl rfl rfl ?_
  refine lp rfl (p_lens Tryz.underlying9 rfl) ?_
  refine lg true rfl rfl rfl ?_
  refine lp rfl (p_mv rfl) ?_
  refine lg true rfl rfl rfl ?_
  refine lp rfl (p_lens Tryz.underlying9 rfl) ?_
  refine lg true rfl rfl rfl ?_
  refine lp rfl (p_sub rfl rfl) ?_
  refine lg true rfl rfl rfl ?_
  obtain ⟨c1, hc1, hm⟩ := bindS hm
  refine lp rfl (p_strs Tryz.underlying9 rfl rfl rfl rfl rfl rfl rfl hc1) ?_
  refine lg true rfl rfl rfl ?_
  refine lp rfl (p_mv rfl) ?_
  refine lg true rfl rfl rfl ?_
  refine lp rfl (p_eqs rfl rfl) ?_
  refine lp rfl (p_pkt rfl rfl) ?_
  refine lp rfl (p_as rfl) ?_
  refine lj_seq ?_
  obtain rfl := Option.some.inj hm
  exact cj_rt () [] Tryz.results90 (.tmp rfl .nil) rfl rfl
 ·have hm := ifB_f hb hm
  refine ls true rfl rfl rfl rfl ?_
  refine ls true rfl rfl rfl rfl ?_
  refine ls true rfl rfl rfl rfl ?_
  refine ls true rfl rfl rfl rfl ?_
  refine ls true rfl rfl rfl rfl ?_
  refine ls true rfl rfl rfl rfl ?_
  refine ls true rfl rfl rfl rfl ?_
  refine ls true rfl rfl rfl rfl ?_
  refine ls true rfl rfl rfl rfl ?_
  refine lp rfl (p_pkf rfl rfl) ?_
  refine lp rfl (p_as rfl) ?_
  refine lj_seq ?_
  obtain rfl := Option.some.inj hm
  exact cj_rt () [] Tryz.results90 (.tmp rfl .nil) rfl rfl
theorem ok_stringslite_CutSuffix (a0 : ByteArray) (a1 : ByteArray) {r : ByteArray × Bool} (hm : m_stringslite_CutSuffix a0 a1 = some r) :
  Ctr Tryz.prog 73 [.string a0, .string a1].toArray ([] : List Ent) [] (X := Unit) (fun _ => .tuple [.string r.1, .bool r.2].toArray) (fun _ => []) := by
 unfold m_stringslite_CutSuffix at hm
 refine ctr_mk (vs := [(0, .string a0), (1, .string a1)]) Tryz.func73 rfl Tryz.ntmps73 rfl ⟨rfl, rfl, trivial⟩ (fun w0 A => ?_)
 refine cj_seq ?_
 refine cj_reg ?_
 refine lp rfl (p_as rfl) ?_
 refine lp rfl (p_as rfl) ?_
 refine lj_seq ?_
 refine cj_seq ?_
 refine cj_seq ?_
 refine cj_reg ?_
 refine lp rfl (p_mv rfl) ?_
 refine lp rfl (p_mv rfl) ?_
 obtain ⟨y1, hy1, hm⟩ := bindS hm
 refine r_call [] cf90 rfl rfl (ok_stringslite_HasSuffix a0 a1 hy1) rfl rfl .nil (fun _ => rfl) rfl (fun _ => ?_)
 refine lp rfl (p_not rfl) ?_
 refine lj_seq ?_
 refine cj_if (b := !y1) rfl (fun hb => ?_) (fun hb => ?_)
 ·have hm := ifB_t hb hm
  refine cj_seq ?_
  refine cj_reg ?_
  refine lp rfl (p_mv rfl) ?_
  refine lp rfl (p_as rfl) ?_
  refine lp rfl (p_as rfl) ?_
  refine lj_seq ?_
  obtain rfl := Option.some.inj hm
  exact cj_rt () [] Tryz.results73 (.tmp rfl (.tmp rfl .nil)) rfl rfl
 ·have hm := ifB_f hb hm
  refine cj_skip ?_
  refine nj_seq ?_
  refine cj_seq ?_
  refine cj_reg ?_
  refine lp rfl (p_mv rfl) ?_
  refine lp rfl (p_mv rfl) ?_
  refine lp rfl (p_lens Tryz.underlying9 rfl) ?_
  refine lp rfl (p_mv rfl) ?_
  refine lp rfl (p_lens Tryz.underlying9 rfl) ?_
  refine lp rfl (p_sub rfl rfl) ?_
  obtain ⟨c2, hc2, hm⟩ := bindS hm
  refine lp rfl (p_strs Tryz.underlying9 rfl rfl rfl rfl rfl rfl rfl hc2) ?_
  refine lp rfl (p_as rfl) ?_
  refine lp rfl (p_as rfl) ?_
  refine lj_seq ?_
  obtain rfl := Option.some.inj hm
  exact cj_rt () [] Tryz.results73 (.tmp rfl (.tmp rfl .nil)) rfl rfl
theorem ok_strings_CutSuffix (a0 : ByteArray) (a1 : ByteArray) {r : ByteArray × Bool} (hm : m_strings_CutSuffix a0 a1 = some r) :
  Ctr Tryz.prog 53 [.string a0, .string a1].toArray ([] : List Ent) [] (X := Unit) (fun _ => .tuple [.string r.1, .bool r.2].toArray) (fun _ => []) := by
 unfold m_strings_CutSuffix at hm
 refine ctr_mk (vs := [(0, .string a0), (1, .string a1)]) Tryz.func53 rfl Tryz.ntmps53 rfl ⟨rfl, rfl, trivial⟩ (fun w0 A => ?_)
 refine cj_seq ?_
 refine cj_reg ?_
 refine lp rfl (p_as rfl) ?_
 refine lp rfl (p_as rfl) ?_
 refine lj_seq ?_
 refine cj_seq ?_
 refine cj_reg ?_
 refine lp rfl (p_mv rfl) ?_
 refine lp rfl (p_mv rfl) ?_
 obtain ⟨y1, hy1, hm⟩ := bindS hm
 refine r_call [] cf73 rfl rfl (ok_stringslite_CutSuffix a0 a1 hy1) rfl rfl .nil (fun _ => rfl) rfl (fun _ => ?_)
 refine lp rfl (p_ext rfl rfl) ?_
 refine lp rfl (p_ext rfl rfl) ?_
 refine lp rfl (p_as rfl) ?_
 refine lp rfl (p_as rfl) ?_
 refine lj_seq ?_
 obtain rfl := Option.some.inj hm
 exact cj_rt () [] Tryz.results53 (.tmp rfl (.tmp rfl .nil)) rfl rfl
theorem ok_kit_Lines (a0 : ByteArray) {r : (List ByteArray) × Bool} (hm : m_kit_Lines a0 = some r) :
  Ctr Tryz.prog 31 [.string a0].toArray ([] : List Ent) [MaxT] (X := SV) (fun s => .tuple [s.v, .bool r.2].toArray) (fun s => [.row R9 (SV.v s) r.1]) := by
 unfold m_kit_Lines at hm
 refine ctr_mk (vs := [(0, .string a0)]) Tryz.func31 rfl Tryz.ntmps31 rfl ⟨rfl, trivial⟩ (fun w0 A => ?_)
 refine cj_seq ?_
 refine cj_reg ?_
 refine lp rfl (p_as rfl) ?_
 refine lp rfl (p_as rfl) ?_
 refine lj_seq ?_
 refine cj_seq ?_
 refine cj_seq ?_
 refine cj_reg ?_
 refine lp rfl (p_mv rfl) ?_
 refine lp rfl (p_eqs rfl rfl) ?_
 refine lj_seq ?_
 refine cj_if (b := a0.toList == ByteArray.empty.toList) rfl (fun hb => ?_) (fun hb => ?_)
 ·have hm := ifB_t hb hm
  refine cj_seq ?_
  refine cj_reg ?_
  refine lp rfl (p_as rfl) ?_
  refine lp rfl (p_as rfl) ?_
  refine lj_seq ?_
  obtain rfl := Option.some.inj hm
  refine cj_nil R9 ?_
  exact cj_rt nilS [0] Tryz.results31 (.tmp rfl (.tmp rfl .nil)) rfl rfl
 ·have hm := ifB_f hb hm
  refine cj_skip ?_
  refine nj_seq ?_
  refine cj_seq ?_
  refine cj_reg ?_
  refine lp rfl (p_mv rfl) ?_
  obtain ⟨y2, hy2, hm⟩ := bindS hm
  refine r_call [] cf53 rfl rfl (ok_strings_CutSuffix a0 (ByteArray.mk [10].toArray) hy2) rfl rfl .nil (fun _ => rfl) rfl (fun _ => ?_)
  refine lp rfl (p_mv rfl) ?_
  refine lp rfl (p_ext rfl rfl) ?_
  refine lp rfl (p_ext rfl rfl) ?_
  refine lp rfl (p_as rfl) ?_
  refine lp rfl (p_as rfl) ?_
  refine lj_seq ?_
  refine cj_seq ?_
  refine cj_reg ?_
  refine lp rfl (p_mv rfl) ?_
  obtain ⟨y3, hy3, hm⟩ := bindS hm
  refine r_call [] cf38 rfl rfl (ok_strings_Split y2.1 (ByteArray.mk [10].toArray) hy3) rfl rfl (.cons (.ro 0 rfl) .nil) (fun _ => rfl) rfl (fun s4 => ?_)
  refine lp rfl (p_mv rfl) ?_
  refine lp rfl (p_as rfl) ?_
  refine lp rfl (p_as rfl) ?_
  refine lj_seq ?_
  obtain rfl := Option.some.inj hm
  exact cj_rt s4 [0] Tryz.results31 (.tmp rfl (.tmp rfl .nil)) rfl rfl
theorem ok_kit_Words (a0 : ByteArray) {r : (List ByteArray) × Bool} (hm : m_kit_Words a0 = some r) :
  Ctr Tryz.prog 54 [.string a0].toArray ([] : List Ent) [MaxT] (X := SV) (fun s => .tuple [s.v, .bool r.2].toArray) (fun s => [.row R9 (SV.v s) r.1]) := by
 unfold m_kit_Words at hm
 refine ctr_mk (vs := [(0, .string a0)]) Tryz.func54 rfl Tryz.ntmps54 rfl ⟨rfl, trivial⟩ (fun w0 A => ?_)
 refine cj_seq ?_
 refine cj_reg ?_
 refine lp rfl (p_as rfl) ?_
 refine lp rfl (p_as rfl) ?_
 refine lj_seq ?_
 refine cj_seq ?_
 refine cj_reg ?_
 refine lp rfl (p_mv rfl) ?_
 obtain ⟨y1, hy1, hm⟩ := bindS hm
 refine r_call [] cf38 rfl rfl (ok_strings_Split a0 (ByteArray.mk [32].toArray) hy1) rfl rfl (.cons (.ro 0 rfl) .nil) (fun _ => rfl) rfl (fun s2 => ?_)
 refine lp rfl (p_as rfl) ?_
 refine lj_seq ?_
 refine cj_seq ?_
 refine cj_seq ?_
 refine cj_reg ?_
 refine lp rfl (p_mv rfl) ?_
 refine lp rfl (p_len Tryz.underlying45 rfl (.row 0 rfl)) ?_
 refine lp rfl (p_mv rfl) ?_
 refine lj_seq ?_
 obtain ⟨f9, hf9, hm⟩ := bindS hm
 refine cj_range (γ := Unit) (m := (y1.length : Int)) hf9 () (fun u6 g7 => [(2, .slice none 0 0), (3, .bool false), (4, s2.v), (9, s2.v)]) (fun u6 g7 => Sat w0 (keys ([] : List Ent)) A [.row R9 (SV.v s2) y1, .ro MaxT]) ⟨rfl, rfl, rfl, rfl, rfl, rfl, trivial⟩ (fun _ h => h.picks [0, 0] rfl) (nat_lt _) (fun _ h => (FactAt.get (F := RdS R9 (SV.v s2) y1) (.row 0 rfl) h).1) (fun _ _ => ⟨rfl, rfl, rfl, rfl⟩) ⟨rfl, rfl, rfl, rfl, rfl⟩ rfl rfl rfl (fun u6 g7 e => ?_) (fun aftk8 i3 x4 u6 g7 k8 hx5 hs J hJk8 hBk8 hX I cnk8 => ?_)
 ·have hm := Flow.fin_b e hm
  refine nj_seq ?_
  refine cj_seq ?_
  refine cj_reg ?_
  refine lp rfl (p_mv rfl) ?_
  refine lp rfl (p_as rfl) ?_
  refine lp rfl (p_as rfl) ?_
  refine lj_seq ?_
  obtain rfl := Option.some.inj hm
  exact cj_rt s2 [0] Tryz.results54 (.tmp rfl (.tmp rfl .nil)) rfl rfl
 ·have hRk8 : ∀ t, k8 = .ret t → some t = some r := fun t e => by rw [hX t e] at hm; exact hm
  have hm := hs
  refine cj_seq ?_
  refine cj_reg ?_
  refine lp rfl (p_idx Tryz.underlying45 ty9 rfl rfl (.row 0 rfl) (getI_nat.trans hx5)) ?_
  refine lp rfl (p_lde (o := 0) ty9 rfl rfl (.row 0 rfl) hx5 rfl) ?_
  refine lp rfl (p_as rfl) ?_
  refine lj_seq ?_
  refine cj_seq ?_
  refine cj_reg ?_
  refine lp rfl (p_mv rfl) ?_
  refine lp rfl (p_eqs rfl rfl) ?_
  refine lj_seq ?_
  refine cj_if (b := x4.toList == ByteArray.empty.toList) rfl (fun hb => ?_) (fun hb => ?_)
  ·have hm := ifB_t hb hm
   refine cj_seq ?_
   refine cj_reg ?_
   refine lp rfl (p_as rfl) ?_
   refine lp rfl (p_as rfl) ?_
   refine lj_seq ?_
   have hm := hRk8 _ (Option.some.inj hm).symm
   obtain rfl := Option.some.inj hm
   refine cj_nil R9 ?_
   exact cj_rt nilS [0] Tryz.results54 (.tmp rfl (.tmp rfl .nil)) rfl rfl
  ·have hm := ifB_f hb hm
   refine cj_skip ?_
   refine nj_blk ?_
   exact cnk8 _ _ () () (hJk8 _ (Option.some.inj hm).symm) ⟨rfl, rfl, rfl, rfl, rfl, rfl, trivial⟩ (fun _ h => h.picks [0, 0] rfl)
theorem ok_stringslite_HasPrefix (a0 : ByteArray) (a1 : ByteArray) {r : Bool} (hm : m_stringslite_HasPrefix a0 a1 = some r) :
  Ctr Tryz.prog 93 [.string a0, .string a1].toArray ([] : List Ent) [] (X := Unit) (fun _ => .bool r) (fun _ => []) := by
 unfold m_stringslite_HasPrefix at hm
 refine ctr_mk (vs := [(0, .string a0), (1, .string a1)]) Tryz.func93 rfl Tryz.ntmps93 rfl ⟨rfl, rfl, trivial⟩ (fun w0 A => ?_)
 refine cj_seq ?_
 refine cj_reg ?_
 refine lp rfl (p_as rfl) ?_
 refine lj_seq ?_
 refine cj_seq ?_
 refine cj_reg ?_
 refine lp rfl (p_mv rfl) ?_
 refine lp rfl (p_lens Tryz.underlying9 rfl) ?_
 refine lp rfl (p_mv rfl) ?_
 refine lp rfl (p_lens Tryz.underlying9 rfl) ?_
 refine lp rfl (p_geq rfl rfl) ?_
 refine lp rfl (p_mv rfl) ?_
 refine lcase (i := 10) (decide ((a0.size : Int) ≥ (a1.size : Int))) rfl (fun hb => ?_) (fun hb => ?_)
 ·have hm := ifB_t hb hm
  refine lg true rfl rfl rfl ?_
  refine lp rfl (p_mv rfl) ?_
  refine lg true rfl rfl rfl ?_
  refine lp rfl (p_mv rfl) ?_
  refine lg true rfl rfl rfl ?_
  refine lp rfl (p_lens Tryz.underlying9 rfl) ?_
  refine lg true rfl rfl rfl ?_
  obtain ⟨c1, hc1, hm⟩ := bindS hm
  refine lp rfl (p_strs Tryz.underlying9 rfl rfl rfl rfl rfl rfl rfl hc1) ?_
  refine lg true rfl rfl rfl ?_
  refine lp rfl (p_mv rfl) ?_
  refine lg true rfl rfl rfl ?_
  refine lp rfl (p_eqs rfl rfl) ?_
  refine lp rfl (p_pkt rfl rfl) ?_
  refine lp rfl (p_as rfl) ?_
  refine lj_seq ?_
  obtain rfl := Option.some.inj hm
  exact cj_rt () [] Tryz.results93 (.tmp rfl .nil) rfl rfl
 ·have hm := ifB_f hb hm
  refine ls true rfl rfl rfl rfl ?_
  refine ls true rfl rfl rfl rfl ?_
  refine ls true rfl rfl rfl rfl ?_
  refine ls true rfl rfl rfl rfl ?_
  refine ls true rfl rfl rfl rfl ?_
  refine ls true rfl rfl rfl rfl ?_
  refine lp rfl (p_pkf rfl rfl) ?_
  refine lp rfl (p_as rfl) ?_
  refine lj_seq ?_
  obtain rfl := Option.some.inj hm
  exact cj_rt () [] Tryz.results93 (.tmp rfl .nil) rfl rfl
theorem ok_stringslite_CutPrefix (a0 : ByteArray) (a1 : ByteArray) {r : ByteArray × Bool} (hm : m_stringslite_CutPrefix a0 a1 = some r) :
  Ctr Tryz.prog 116 [.string a0, .string a1].toArray ([] : List Ent) [] (X := Unit) (fun _ => .tuple [.string r.1, .bool r.2].toArray) (fun _ => []) := by
 unfold m_stringslite_CutPrefix at hm
 refine ctr_mk (vs := [(0, .string a0), (1, .string a1)]) Tryz.func116 rfl Tryz.ntmps116 rfl ⟨rfl, rfl, trivial⟩ (fun w0 A => ?_)
 refine cj_seq ?_
 refine cj_reg ?_
 refine lp rfl (p_as rfl) ?_
 refine lp rfl (p_as rfl) ?_
 refine lj_seq ?_
 refine cj_seq ?_
 refine cj_seq ?_
 refine cj_reg ?_
 refine lp rfl (p_mv rfl) ?_
 refine lp rfl (p_mv rfl) ?_
 obtain ⟨y1, hy1, hm⟩ := bindS hm
 refine r_call [] cf93 rfl rfl (ok_stringslite_HasPrefix a0 a1 hy1) rfl rfl .nil (fun _ => rfl) rfl (fun _ => ?_)
 refine lp rfl (p_not rfl) ?_
 refine lj_seq ?_
 refine cj_if (b := !y1) rfl (fun hb => ?_) (fun hb => ?_)
 ·have hm := ifB_t hb hm
  refine cj_seq ?_
  refine cj_reg ?_
  refine lp rfl (p_mv rfl) ?_
  refine lp rfl (p_as rfl) ?_
  refine lp rfl (p_as rfl) ?_
  refine lj_seq ?_
  obtain rfl := Option.some.inj hm
  exact cj_rt () [] Tryz.results116 (.tmp rfl (.tmp rfl .nil)) rfl rfl
 ·have hm := ifB_f hb hm
  refine cj_skip ?_
  refine nj_seq ?_
  refine cj_seq ?_
  refine cj_reg ?_
  refine lp rfl (p_mv rfl) ?_
  refine lp rfl (p_mv rfl) ?_
  refine lp rfl (p_lens Tryz.underlying9 rfl) ?_
  obtain ⟨c2, hc2, hm⟩ := bindS hm
  refine lp rfl (p_strs Tryz.underlying9 rfl rfl rfl rfl rfl rfl rfl hc2) ?_
  refine lp rfl (p_as rfl) ?_
  refine lp rfl (p_as rfl) ?_
  refine lj_seq ?_
  obtain rfl := Option.some.inj hm
  exact cj_rt () [] Tryz.results116 (.tmp rfl (.tmp rfl .nil)) rfl rfl
theorem ok_strings_CutPrefix (a0 : ByteArray) (a1 : ByteArray) {r : ByteArray × Bool} (hm : m_strings_CutPrefix a0 a1 = some r) :
  Ctr Tryz.prog 91 [.string a0, .string a1].toArray ([] : List Ent) [] (X := Unit) (fun _ => .tuple [.string r.1, .bool r.2].toArray) (fun _ => []) := by
 unfold m_strings_CutPrefix at hm
 refine ctr_mk (vs := [(0, .string a0), (1, .string a1)]) Tryz.func91 rfl Tryz.ntmps91 rfl ⟨rfl, rfl, trivial⟩ (fun w0 A => ?_)
 refine cj_seq ?_
 refine cj_reg ?_
 refine lp rfl (p_as rfl) ?_
 refine lp rfl (p_as rfl) ?_
 refine lj_seq ?_
 refine cj_seq ?_
 refine cj_reg ?_
 refine lp rfl (p_mv rfl) ?_
 refine lp rfl (p_mv rfl) ?_
 obtain ⟨y1, hy1, hm⟩ := bindS hm
 refine r_call [] cf116 rfl rfl (ok_stringslite_CutPrefix a0 a1 hy1) rfl rfl .nil (fun _ => rfl) rfl (fun _ => ?_)
 refine lp rfl (p_ext rfl rfl) ?_
 refine lp rfl (p_ext rfl rfl) ?_
 refine lp rfl (p_as rfl) ?_
 refine lp rfl (p_as rfl) ?_
 refine lj_seq ?_
 obtain rfl := Option.some.inj hm
 exact cj_rt () [] Tryz.results91 (.tmp rfl (.tmp rfl .nil)) rfl rfl
theorem ok_kit_Number (a0 : ByteArray) (a1 : Int) {r : Int × Bool} (hm : m_kit_Number a0 a1 = some r) :
  Ctr Tryz.prog 74 [.string a0, .int .i64 a1].toArray ([] : List Ent) [] (X := Unit) (fun _ => .tuple [.int .i64 r.1, .bool r.2].toArray) (fun _ => []) := by
 unfold m_kit_Number at hm
 refine ctr_mk (vs := [(0, .string a0), (1, .int .i64 a1)]) Tryz.func74 rfl Tryz.ntmps74 rfl ⟨rfl, rfl, trivial⟩ (fun w0 A => ?_)
 refine cj_seq ?_
 refine cj_reg ?_
 refine lp rfl (p_as rfl) ?_
 refine lp rfl (p_as rfl) ?_
 refine lj_seq ?_
 refine cj_seq ?_
 refine cj_reg ?_
 refine lp rfl (p_mv rfl) ?_
 obtain ⟨y1, hy1, hm⟩ := bindS hm
 refine r_call [] cf91 rfl rfl (ok_strings_CutPrefix a0 (ByteArray.mk [45].toArray) hy1) rfl rfl .nil (fun _ => rfl) rfl (fun _ => ?_)
 refine lp rfl (p_mv rfl) ?_
 refine lp rfl (p_ext rfl rfl) ?_
 refine lp rfl (p_ext rfl rfl) ?_
 refine lp rfl (p_as rfl) ?_
 refine lp rfl (p_as rfl) ?_
 refine lj_seq ?_
 refine cj_seq ?_
 refine cj_seq ?_
 refine cj_reg ?_
 obtain ⟨k4, hk4, hm⟩ := bindS hm
 have hRk4 : ∀ t, k4 = .inr t → some t = some r := fun t e => by rw [e] at hm; exact hm
 refine lj_join (σ := Bool) (γ := Unit) (fun u2 => k4 = .inl u2) (fun u2 g3 => [(4, .int .i64 0), (5, .bool false), (6, .string y1.1), (7, .bool y1.2), (40, .bool u2)]) (fun u2 g3 => Sat w0 (keys ([] : List Ent)) A []) (fun u2 g3 hq => ?_) (fun J cnk4 => ?_)
 ·have hm := Sum.fin_l hq hm
  refine cj_if (b := u2) rfl (fun hb => ?_) (fun hb => ?_)
  ·have hm := ifB_t hb hm
   refine cj_seq ?_
   refine cj_reg ?_
   refine lp rfl (p_as rfl) ?_
   refine lp rfl (p_as rfl) ?_
   refine lj_seq ?_
   obtain rfl := Option.some.inj hm
   exact cj_rt () [] Tryz.results74 (.tmp rfl (.tmp rfl .nil)) rfl rfl
  ·have hm := ifB_f hb hm
   refine cj_skip ?_
   refine nj_seq ?_
   refine cj_seq ?_
   refine cj_reg ?_
   refine lp rfl (p_mv rfl) ?_
   obtain ⟨y7, hy7, hm⟩ := bindS hm
   refine r_call [] cf59 rfl rfl (ok_strconv_Atoi y1.1 hy7) rfl rfl .nil (fun _ => rfl) rfl (fun _ => ?_)
   refine lp rfl (p_mv rfl) ?_
   refine lp rfl (p_ext rfl rfl) ?_
   refine lp rfl (p_ext rfl rfl) ?_
   refine lp rfl (p_as rfl) ?_
   refine lp rfl (p_as rfl) ?_
   refine lj_seq ?_
   refine cj_seq ?_
   refine cj_seq ?_
   refine cj_reg ?_
   refine lp rfl (p_mv rfl) ?_
   refine lj_seq ?_
   refine cj_if (b := y1.2) rfl (fun hb => ?_) (fun hb => ?_)
   ·have hm := ifB_t hb hm
    refine cj_reg ?_
    refine lp rfl (p_mv rfl) ?_
    refine lp rfl (p_neg rfl) ?_
    refine lp rfl (p_as rfl) ?_
    refine lj_seq ?_
    refine cj_seq ?_
    refine cj_quiet (by kernel_rfl) (by kernel_rfl) ?_
    refine q_p rfl (p_mv rfl) ?_
    refine q_p rfl (p_mv rfl) ?_
    refine q_p rfl (p_eqni Tryz.underlying57 (by kernel_rfl) rfl) ?_
    refine q_p rfl (p_as rfl) ?_
    refine q_p rfl (p_as rfl) ?_
    refine q_nil ?_
    refine nj_seq ?_
    obtain rfl := Option.some.inj hm
    exact cj_rt () [] Tryz.results74 (.tmp rfl (.tmp rfl .nil)) rfl rfl
   ·have hm := ifB_f hb hm
    refine cj_skip ?_
    refine nj_seq ?_
    refine cj_seq ?_
    refine cj_quiet (by kernel_rfl) (by kernel_rfl) ?_
    refine q_p rfl (p_mv rfl) ?_
    refine q_p rfl (p_mv rfl) ?_
    refine q_p rfl (p_eqni Tryz.underlying57 (by kernel_rfl) rfl) ?_
    refine q_p rfl (p_as rfl) ?_
    refine q_p rfl (p_as rfl) ?_
    refine q_nil ?_
    refine nj_seq ?_
    obtain rfl := Option.some.inj hm
    exact cj_rt () [] Tryz.results74 (.tmp rfl (.tmp rfl .nil)) rfl rfl
 ·have hm := hk4
  refine lp rfl (p_mv rfl) ?_
  refine lp rfl (p_eqs rfl rfl) ?_
  refine lp rfl (p_mv rfl) ?_
  refine lcase (i := 17) (y1.1.toList == ByteArray.empty.toList) rfl (fun hb => ?_) (fun hb => ?_)
  ·have hm := ifB_t hb hm
   refine ls false rfl rfl rfl rfl ?_
   refine ls false rfl rfl rfl rfl ?_
   refine ls false rfl rfl rfl rfl ?_
   refine ls false rfl rfl rfl rfl ?_
   refine lp rfl (p_pkt rfl rfl) ?_
   refine lp rfl (p_mv rfl) ?_
   refine ls false rfl rfl rfl rfl ?_
   refine ls false rfl rfl rfl rfl ?_
   refine ls false rfl rfl rfl rfl ?_
   refine lp rfl (p_pkt rfl rfl) ?_
   refine lp rfl (p_mv rfl) ?_
   refine ls false rfl rfl rfl rfl ?_
   refine ls false rfl rfl rfl rfl ?_
   refine ls false rfl rfl rfl rfl ?_
   refine ls false rfl rfl rfl rfl ?_
   refine lsu rfl rfl rfl rfl ?_
   refine lsu rfl rfl rfl rfl ?_
   refine lsu rfl rfl rfl rfl ?_
   refine lsu rfl rfl rfl rfl ?_
   refine lsu rfl rfl rfl rfl ?_
   refine lsu rfl rfl rfl rfl ?_
   refine ls false rfl rfl rfl rfl ?_
   refine lp rfl (p_pkt rfl rfl) ?_
   refine lj_nil ?_
   exact cnk4 _ _ true () (Option.some.inj hm).symm ⟨rfl, rfl, rfl, rfl, rfl, trivial⟩ (fun _ h => h.picks [] rfl)
  ·have hm := ifB_f hb hm
   refine lg false rfl rfl rfl ?_
   refine lp rfl (p_mv rfl) ?_
   refine lg false rfl rfl rfl ?_
   refine lp rfl (p_lens Tryz.underlying9 rfl) ?_
   refine lg false rfl rfl rfl ?_
   refine lp rfl (p_mv rfl) ?_
   refine lg false rfl rfl rfl ?_
   refine lp rfl (p_gtr rfl rfl) ?_
   refine lp rfl (p_pkf rfl rfl) ?_
   refine lp rfl (p_mv rfl) ?_
   refine lcase (i := 23) (decide ((y1.1.size : Int) > a1)) rfl (fun hb => ?_) (fun hb => ?_)
   ·have hm := ifB_t hb hm
    refine ls false rfl rfl rfl rfl ?_
    refine ls false rfl rfl rfl rfl ?_
    refine ls false rfl rfl rfl rfl ?_
    refine lp rfl (p_pkt rfl rfl) ?_
    refine lp rfl (p_mv rfl) ?_
    refine ls false rfl rfl rfl rfl ?_
    refine ls false rfl rfl rfl rfl ?_
    refine ls false rfl rfl rfl rfl ?_
    refine ls false rfl rfl rfl rfl ?_
    refine lsu rfl rfl rfl rfl ?_
    refine lsu rfl rfl rfl rfl ?_
    refine lsu rfl rfl rfl rfl ?_
    refine lsu rfl rfl rfl rfl ?_
    refine lsu rfl rfl rfl rfl ?_
    refine lsu rfl rfl rfl rfl ?_
    refine ls false rfl rfl rfl rfl ?_
    refine lp rfl (p_pkt rfl rfl) ?_
    refine lj_nil ?_
    exact cnk4 _ _ true () (Option.some.inj hm).symm ⟨rfl, rfl, rfl, rfl, rfl, trivial⟩ (fun _ h => h.picks [] rfl)
   ·have hm := ifB_f hb hm
    refine lg false rfl rfl rfl ?_
    refine lp rfl (p_mv rfl) ?_
    refine lg false rfl rfl rfl ?_
    obtain ⟨y5, hy5, hm⟩ := bindS hm
    refine r_call [] cf84 rfl rfl (ok_strings_Trim y1.1 (ByteArray.mk [48, 49, 50, 51, 52, 53, 54, 55, 56, 57].toArray) hy5) rfl rfl .nil (fun _ => rfl) rfl (fun _ => ?_)
    refine lg false rfl rfl rfl ?_
    refine lp rfl (p_nes rfl rfl) ?_
    refine lp rfl (p_pkf rfl rfl) ?_
    refine lp rfl (p_mv rfl) ?_
    refine lcase (i := 28) (!(y5.toList == ByteArray.empty.toList)) rfl (fun hb => ?_) (fun hb => ?_)
    ·have hm := ifB_t hb hm
     refine ls false rfl rfl rfl rfl ?_
     refine ls false rfl rfl rfl rfl ?_
     refine ls false rfl rfl rfl rfl ?_
     refine ls false rfl rfl rfl rfl ?_
     refine lsu rfl rfl rfl rfl ?_
     refine lsu rfl rfl rfl rfl ?_
     refine lsu rfl rfl rfl rfl ?_
     refine lsu rfl rfl rfl rfl ?_
     refine lsu rfl rfl rfl rfl ?_
     refine lsu rfl rfl rfl rfl ?_
     refine ls false rfl rfl rfl rfl ?_
     refine lp rfl (p_pkt rfl rfl) ?_
     refine lj_nil ?_
     exact cnk4 _ _ true () (Option.some.inj hm).symm ⟨rfl, rfl, rfl, rfl, rfl, trivial⟩ (fun _ h => h.picks [] rfl)
    ·have hm := ifB_f hb hm
     refine lg false rfl rfl rfl ?_
     refine lp rfl (p_mv rfl) ?_
     refine lg false rfl rfl rfl ?_
     obtain ⟨c6, hc6, hm⟩ := bindS hm
     refine lp rfl (p_stri Tryz.underlying9 rfl rfl hc6) ?_
     refine lg false rfl rfl rfl ?_
     refine lp rfl (p_eql rfl rfl) ?_
     refine lg false rfl rfl rfl ?_
     refine lp rfl (p_mv rfl) ?_
     refine lcase (i := 32) (c6 == 48) rfl (fun hb => ?_) (fun hb => ?_)
     ·have hm := ifB_t hb hm
      refine lg true rfl rfl rfl ?_
      refine lp rfl (p_mv rfl) ?_
      refine lg true rfl rfl rfl ?_
      refine lp rfl (p_lens Tryz.underlying9 rfl) ?_
      refine lg true rfl rfl rfl ?_
      refine lp rfl (p_gtr rfl rfl) ?_
      refine lg true rfl rfl rfl ?_
      refine lp rfl (p_mv rfl) ?_
      refine lcase (i := 36) (decide ((y1.1.size : Int) > 1)) rfl (fun hb => ?_) (fun hb => ?_)
      ·have hm := ifB_t hb hm
       refine ls false rfl rfl rfl rfl ?_
       refine lg true rfl rfl rfl ?_
       refine lp rfl (p_pkt rfl rfl) ?_
       refine lg false rfl rfl rfl ?_
       refine lp rfl (p_pkt rfl rfl) ?_
       refine lp rfl (p_pkf rfl rfl) ?_
       refine lj_nil ?_
       exact cnk4 _ _ true () (Option.some.inj hm).symm ⟨rfl, rfl, rfl, rfl, rfl, trivial⟩ (fun _ h => h.picks [] rfl)
      ·have hm := ifB_f hb hm
       refine lg false rfl rfl rfl ?_
       refine lp rfl (p_mv rfl) ?_
       refine lg true rfl rfl rfl ?_
       refine lp rfl (p_pkf rfl rfl) ?_
       refine lg false rfl rfl rfl ?_
       refine lp rfl (p_pkt rfl rfl) ?_
       refine lp rfl (p_pkf rfl rfl) ?_
       refine lj_nil ?_
       exact cnk4 _ _ y1.2 () (Option.some.inj hm).symm ⟨rfl, rfl, rfl, rfl, rfl, trivial⟩ (fun _ h => h.picks [] rfl)
     ·have hm := ifB_f hb hm
      refine ls true rfl rfl rfl rfl ?_
      refine ls true rfl rfl rfl rfl ?_
      refine ls true rfl rfl rfl rfl ?_
      refine ls true rfl rfl rfl rfl ?_
      refine lsu rfl rfl rfl rfl ?_
      refine ls true rfl rfl rfl rfl ?_
      refine lg false rfl rfl rfl ?_
      refine lp rfl (p_pkf rfl rfl) ?_
      refine lp rfl (p_pkf rfl rfl) ?_
      refine lj_nil ?_
      exact cnk4 _ _ false () (Option.some.inj hm).symm ⟨rfl, rfl, rfl, rfl, rfl, trivial⟩ (fun _ h => h.picks [] rfl)
theorem ok_kit_Numbers (s0_ : SV) (a0 : (List ByteArray)) {r : (List Int) × Bool} (hm : m_kit_Numbers a0 = some r) :
  Ctr Tryz.prog 55 [s0_.v].toArray ([] : List Ent) [RdS R9 (SV.v s0_) a0] (X := SV) (fun s => .tuple [s.v, .bool r.2].toArray) (fun s => [.row R3 (SV.v s) r.1]) := by
 unfold m_kit_Numbers at hm
 refine ctr_mk (vs := [(0, s0_.v)]) Tryz.func55 rfl Tryz.ntmps55 rfl ⟨rfl, trivial⟩ (fun w0 A => ?_)
 refine cj_seq ?_
 refine cj_reg ?_
 refine lp rfl (p_as rfl) ?_
 refine lp rfl (p_as rfl) ?_
 refine lj_seq ?_
 refine cj_seq ?_
 refine cj_reg ?_
 refine lp rfl (p_as rfl) ?_
 refine lj_seq ?_
 refine cj_seq ?_
 refine cj_seq ?_
 refine cj_reg ?_
 refine lp rfl (p_mv rfl) ?_
 refine lp rfl (p_len Tryz.underlying45 rfl (.ro 0 rfl)) ?_
 refine lp rfl (p_mv rfl) ?_
 refine lj_seq ?_
 refine cj_nil R3 ?_
 obtain ⟨f8, hf8, hm⟩ := bindS hm
 refine cj_range (γ := SV) (m := (a0.length : Int)) hf8 nilS (fun u5 g6 => [(2, .slice none 0 0), (3, .bool false), (4, g6.v), (9, s0_.v)]) (fun u5 g6 => Sat w0 (keys ([] : List Ent)) A [.ro (RdS R9 (SV.v s0_) a0), .row R3 (SV.v g6) u5]) ⟨rfl, rfl, rfl, rfl, rfl, rfl, trivial⟩ (fun _ h => h.picks [1, 0] rfl) (nat_lt _) (fun _ h => (FactAt.get (F := RdS R9 (SV.v s0_) a0) (.ro 1 rfl) h).1) (fun _ _ => ⟨rfl, rfl, rfl, rfl⟩) ⟨rfl, rfl, rfl, rfl, rfl⟩ rfl rfl rfl (fun u5 g6 e => ?_) (fun aftk7 i1 x2 u5 g6 k7 hx3 hs J hJk7 hBk7 hX I cnk7 => ?_)
 ·have hm := Flow.fin_b e hm
  refine nj_seq ?_
  refine cj_seq ?_
  refine cj_reg ?_
  refine lp rfl (p_mv rfl) ?_
  refine lp rfl (p_as rfl) ?_
  refine lp rfl (p_as rfl) ?_
  refine lj_seq ?_
  obtain rfl := Option.some.inj hm
  exact cj_rt g6 [1] Tryz.results55 (.tmp rfl (.tmp rfl .nil)) rfl rfl
 ·have hRk7 : ∀ t, k7 = .ret t → some t = some r := fun t e => by rw [hX t e] at hm; exact hm
  have hm := hs
  refine cj_seq ?_
  refine cj_reg ?_
  refine lp rfl (p_idx Tryz.underlying45 ty9 rfl rfl (.ro 0 rfl) (getI_nat.trans hx3)) ?_
  refine lp rfl (p_lde (o := 0) ty9 rfl rfl (.ro 0 rfl) hx3 rfl) ?_
  refine lp rfl (p_as rfl) ?_
  refine lj_seq ?_
  refine cj_seq ?_
  refine cj_reg ?_
  refine lp rfl (p_mv rfl) ?_
  obtain ⟨y10, hy10, hm⟩ := bindS hm
  refine r_call [] cf74 rfl rfl (ok_kit_Number x2 15 hy10) rfl rfl .nil (fun _ => rfl) rfl (fun _ => ?_)
  refine lp rfl (p_mv rfl) ?_
  refine lp rfl (p_ext rfl rfl) ?_
  refine lp rfl (p_ext rfl rfl) ?_
  refine lp rfl (p_as rfl) ?_
  refine lp rfl (p_as rfl) ?_
  refine lj_seq ?_
  refine cj_seq ?_
  refine cj_seq ?_
  refine cj_reg ?_
  refine lp rfl (p_mv rfl) ?_
  refine lp rfl (p_not rfl) ?_
  refine lj_seq ?_
  refine cj_if (b := !y10.2) rfl (fun hb => ?_) (fun hb => ?_)
  ·have hm := ifB_t hb hm
   refine cj_seq ?_
   refine cj_reg ?_
   refine lp rfl (p_as rfl) ?_
   refine lp rfl (p_as rfl) ?_
   refine lj_seq ?_
   have hm := hRk7 _ (Option.some.inj hm).symm
   obtain rfl := Option.some.inj hm
   refine cj_nil R3 ?_
   exact cj_rt nilS [0] Tryz.results55 (.tmp rfl (.tmp rfl .nil)) rfl rfl
  ·have hm := ifB_f hb hm
   refine cj_skip ?_
   refine nj_seq ?_
   refine cj_reg ?_
   refine lp rfl (p_mv rfl) ?_
   refine lp rfl (p_mv rfl) ?_
   refine r_bs R3 [y10.1] rfl rfl rfl (fun _ => by kernel_rfl) rfl (fun s12 => ?_)
   obtain ⟨q13, hq13, hm⟩ := bindS hm
   refine r_app (k := 2) Tryz.underlying22 ty3 rfl rfl rfl rfl (.row 0 rfl) hq13 rfl (fun s14 => ?_)
   refine lp rfl (p_as rfl) ?_
   refine lj_nil ?_
   refine nj_blk ?_
   exact cnk7 _ _ q13 s14 (hJk7 _ (Option.some.inj hm).symm) ⟨rfl, rfl, rfl, rfl, rfl, rfl, trivial⟩ (fun _ h => h.picks [1, 1] rfl)
theorem ok_slices_Index_string_string (s0_ : SV) (a0 : (List ByteArray)) (a1 : ByteArray) {r : Int} (hm : m_slices_Index_string_string a0 a1 = some r) :
  Ctr Tryz.prog 61 [s0_.v, .string a1].toArray ([] : List Ent) [RdS R9 (SV.v s0_) a0] (X := Unit) (fun _ => .int .i64 r) (fun _ => []) := by
 unfold m_slices_Index_string_string at hm
 refine ctr_mk (vs := [(0, s0_.v), (1, .string a1)]) Tryz.func61 rfl Tryz.ntmps61 rfl ⟨rfl, rfl, trivial⟩ (fun w0 A => ?_)
 refine cj_seq ?_
 refine cj_reg ?_
 refine lp rfl (p_as rfl) ?_
 refine lj_seq ?_
 refine cj_seq ?_
 refine cj_seq ?_
 refine cj_reg ?_
 refine lp rfl (p_mv rfl) ?_
 refine lp rfl (p_len Tryz.underlying45 rfl (.ro 0 rfl)) ?_
 refine lp rfl (p_mv rfl) ?_
 refine lj_seq ?_
 obtain ⟨f7, hf7, hm⟩ := bindS hm
 refine cj_range (γ := Unit) (m := (a0.length : Int)) hf7 () (fun u4 g5 => [(0, s0_.v), (1, .string a1), (4, .int .i64 0)]) (fun u4 g5 => Sat w0 (keys ([] : List Ent)) A [.ro (RdS R9 (SV.v s0_) a0)]) ⟨rfl, rfl, rfl, rfl, rfl, trivial⟩ (fun _ h => h.picks [0] rfl) (nat_lt _) (fun _ h => (FactAt.get (F := RdS R9 (SV.v s0_) a0) (.ro 0 rfl) h).1) (fun _ _ => ⟨rfl, rfl, rfl, rfl⟩) ⟨rfl, rfl, rfl, rfl, rfl⟩ rfl rfl rfl (fun u4 g5 e => ?_) (fun aftk6 i1 x2 u4 g5 k6 hx3 hs J hJk6 hBk6 hX I cnk6 => ?_)
 ·have hm := Flow.fin_b e hm
  refine nj_seq ?_
  refine cj_seq ?_
  refine cj_reg ?_
  refine lp rfl (p_as rfl) ?_
  refine lj_seq ?_
  obtain rfl := Option.some.inj hm
  exact cj_rt () [] Tryz.results61 (.tmp rfl .nil) rfl rfl
 ·have hRk6 : ∀ t, k6 = .ret t → some t = some r := fun t e => by rw [hX t e] at hm; exact hm
  have hm := hs
  refine cj_seq ?_
  refine cj_reg ?_
  refine lp rfl (p_mv rfl) ?_
  refine lp rfl (p_as rfl) ?_
  refine lj_seq ?_
  refine cj_seq ?_
  refine cj_reg ?_
  refine lp rfl (p_mv rfl) ?_
  refine lp rfl (p_mv rfl) ?_
  refine lp rfl (p_mv rfl) ?_
  refine lp rfl (p_idx Tryz.underlying45 ty9 rfl rfl (.ro 0 rfl) (getI_nat.trans hx3)) ?_
  refine lp rfl (p_lde (o := 0) ty9 rfl rfl (.ro 0 rfl) hx3 rfl) ?_
  refine lp rfl (p_eqs rfl rfl) ?_
  refine lj_seq ?_
  refine cj_if (b := a1.toList == x2.toList) rfl (fun hb => ?_) (fun hb => ?_)
  ·have hm := ifB_t hb hm
   refine cj_seq ?_
   refine cj_reg ?_
   refine lp rfl (p_mv rfl) ?_
   refine lp rfl (p_as rfl) ?_
   refine lj_seq ?_
   have hm := hRk6 _ (Option.some.inj hm).symm
   obtain rfl := Option.some.inj hm
   exact cj_rt () [] Tryz.results61 (.tmp rfl .nil) rfl rfl
  ·have hm := ifB_f hb hm
   refine cj_skip ?_
   refine nj_blk ?_
   exact cnk6 _ _ () () (hJk6 _ (Option.some.inj hm).symm) ⟨rfl, rfl, rfl, rfl, rfl, trivial⟩ (fun _ h => h.picks [0] rfl)
theorem ok_slices_Contains_string_string (s0_ : SV) (a0 : (List ByteArray)) (a1 : ByteArray) {r : Bool} (hm : m_slices_Contains_string_string a0 a1 = some r) :
  Ctr Tryz.prog 39 [s0_.v, .string a1].toArray ([] : List Ent) [RdS R9 (SV.v s0_) a0] (X := Unit) (fun _ => .bool r) (fun _ => []) := by
 unfold m_slices_Contains_string_string at hm
 refine ctr_mk (vs := [(0, s0_.v), (1, .string a1)]) Tryz.func39 rfl Tryz.ntmps39 rfl ⟨rfl, rfl, trivial⟩ (fun w0 A => ?_)
 refine cj_seq ?_
 refine cj_reg ?_
 refine lp rfl (p_as rfl) ?_
 refine lj_seq ?_
 refine cj_seq ?_
 refine cj_reg ?_
 refine lp rfl (p_mv rfl) ?_
 refine lp rfl (p_mv rfl) ?_
 obtain ⟨y1, hy1, hm⟩ := bindS hm
 refine r_call [] cf61 rfl rfl (ok_slices_Index_string_string s0_ a0 a1 hy1) rfl rfl (.cons (.ro 0 rfl) .nil) (fun _ => rfl) rfl (fun _ => ?_)
 refine lp rfl (p_geq rfl rfl) ?_
 refine lp rfl (p_as rfl) ?_
 refine lj_seq ?_
 obtain rfl := Option.some.inj hm
 exact cj_rt () [] Tryz.results39 (.tmp rfl .nil) rfl rfl
end Go.Proofs.YtobglahldcnnmadGreatDoor
