/- The walks. Written by program. -/
import Derived.Test.YtobglahldcnnmadGreatDoorW
namespace Go.Proofs.YtobglahldcnnmadGreatDoor
open Go Go.J Go.G
set_option maxRecDepth 100000
set_option linter.unusedVariables false
set_option linter.unusedSimpArgs false
theorem ok_concert_readLine (b0_ : Nat) (s0_0_ : SV) (xg0_0_ : List (TItem × SV)) (a0_0 : (List TItem)) (a0_1 : Int) (a0_2 : Int) (a0_3 : Int) (a0_4 : Int) (a1 : Bool) (a2 : ByteArray) {r : Bool × (List TItem) × Int × Int × Int × Int} (hm : m_concert_readLine a0_0 a0_1 a0_2 a0_3 a0_4 a1 a2 = some r) :
  Ctr Tryz.prog 32 [.pointer (some ⟨b0_, 0, none⟩), .bool a1, .string a2].toArray [.box b0_ 28 [s0_0_.v, .int .i64 a0_1, .int .i64 a0_2, .int .i64 a0_3, .int .i64 a0_4], .row N47.R (SV.v s0_0_) xg0_0_] [Lk N47 a0_0 xg0_0_, MaxT] (X := (SV × List (TItem × SV))) (fun s => .bool r.1) (fun s => [.row N47.R (SV.v s.1) s.2, .ro (Lk N47 r.2.1 s.2), .box b0_ 28 [s.1.v, .int .i64 r.2.2.1, .int .i64 r.2.2.2.1, .int .i64 r.2.2.2.2.1, .int .i64 r.2.2.2.2.2]]) := by
 unfold m_concert_readLine at hm
 refine ctr_mk (vs := [(0, .pointer (some ⟨b0_, 0, none⟩)), (1, .bool a1), (2, .string a2)]) Tryz.func32 rfl Tryz.ntmps32 rfl ⟨rfl, rfl, rfl, trivial⟩ (fun w0 A => ?_)
 refine cj_pure (F := Lk N47 a0_0 xg0_0_) (.ro 2 rfl) (fun _ h => h.1) (fun hL0_0_ => ?_)
 refine cj_seq ?_
 refine cj_reg ?_
 refine lp rfl (p_as rfl) ?_
 refine lj_seq ?_
 refine cj_seq ?_
 refine cj_reg ?_
 refine lp rfl (p_mv rfl) ?_
 obtain ⟨y1, hy1, hm⟩ := bindS hm
 refine r_call [] cf54 rfl rfl (ok_kit_Words a2 hy1) rfl rfl (.cons (.ro 3 rfl) .nil) (fun _ => rfl) rfl (fun s2 => ?_)
 refine lp rfl (p_mv rfl) ?_
 refine lp rfl (p_ext rfl rfl) ?_
 refine lp rfl (p_ext rfl rfl) ?_
 refine lp rfl (p_as rfl) ?_
 refine lp rfl (p_as rfl) ?_
 refine lj_seq ?_
 refine cj_seq ?_
 refine cj_seq ?_
 refine cj_reg ?_
 obtain ⟨k5, hk5, hm⟩ := bindS hm
 have hRk5 : ∀ t, k5 = .inr t → some t = some r := fun t e => by rw [e] at hm; exact hm
 refine lj_join (σ := Bool) (γ := Unit) (fun u3 => k5 = .inl u3) (fun u3 g4 => [(0, .pointer (some ⟨b0_, 0, none⟩)), (1, .bool a1), (6, .bool false), (7, s2.v), (8, .bool y1.2), (24, .bool u3)]) (fun u3 g4 => Sat w0 (keys [.box b0_ 28 [s0_0_.v, .int .i64 a0_1, .int .i64 a0_2, .int .i64 a0_3, .int .i64 a0_4], .row N47.R (SV.v s0_0_) xg0_0_]) A [.row R9 (SV.v s2) y1.1, .box b0_ 28 [s0_0_.v, .int .i64 a0_1, .int .i64 a0_2, .int .i64 a0_3, .int .i64 a0_4], .row N47.R (SV.v s0_0_) xg0_0_, .ro (Lk N47 a0_0 xg0_0_), .ro MaxT]) (fun u3 g4 hq => ?_) (fun J cnk5 => ?_)
 ·have hm := Sum.fin_l hq hm
  refine cj_if (b := u3) rfl (fun hb => ?_) (fun hb => ?_)
  ·have hm := ifB_t hb hm
   refine cj_seq ?_
   refine cj_reg ?_
   refine lp rfl (p_as rfl) ?_
   refine lj_seq ?_
   obtain rfl := Option.some.inj hm
   exact cj_rt (s0_0_, xg0_0_) [2, 2, 1] Tryz.results32 (.tmp rfl .nil) rfl rfl
  ·have hm := ifB_f hb hm
   refine cj_skip ?_
   refine nj_seq ?_
   refine cj_seq ?_
   refine cj_seq ?_
   refine cj_reg ?_
   refine lp rfl (p_mv rfl) ?_
   refine lj_seq ?_
   refine cj_if (b := a1) rfl (fun hb => ?_) (fun hb => ?_)
   ·have hm := ifB_t hb hm
    refine cj_seq ?_
    refine cj_reg ?_
    refine lp rfl (p_mv rfl) ?_
    obtain ⟨y6, hy6, hm⟩ := bindS hm
    refine r_call [] cf55 rfl rfl (ok_kit_Numbers s2 y1.1 hy6) rfl rfl (.cons (.row 0 rfl) .nil) (fun _ => rfl) rfl (fun s7 => ?_)
    refine lp rfl (p_mv rfl) ?_
    refine lp rfl (p_ext rfl rfl) ?_
    refine lp rfl (p_ext rfl rfl) ?_
    refine lp rfl (p_as rfl) ?_
    refine lp rfl (p_as rfl) ?_
    refine lj_seq ?_
    refine cj_seq ?_
    refine cj_seq ?_
    refine cj_reg ?_
    refine lp rfl (p_mv rfl) ?_
    refine lp rfl (p_not rfl) ?_
    refine lj_seq ?_
    refine cj_if (b := !y6.2) rfl (fun hb => ?_) (fun hb => ?_)
    ·have hm := ifB_t hb hm
     refine cj_seq ?_
     refine cj_reg ?_
     refine lp rfl (p_as rfl) ?_
     refine lj_seq ?_
     obtain rfl := Option.some.inj hm
     exact cj_rt (s0_0_, xg0_0_) [3, 3, 2] Tryz.results32 (.tmp rfl .nil) rfl rfl
    ·have hm := ifB_f hb hm
     refine cj_skip ?_
     refine nj_seq ?_
     refine cj_seq ?_
     obtain ⟨e8, he8, hm⟩ := bindS hm
     obtain ⟨e9, he9, hm⟩ := bindS hm
     obtain ⟨e10, he10, hm⟩ := bindS hm
     obtain ⟨e11, he11, hm⟩ := bindS hm
     refine cj_anyT [0, 1, 2, 3, 4, 5, 6, 7, 8, 9, 10, 11, 12, 13, 14, 15, 16, 17, 19, 20, 22, 23, 25, 26] [18, 19, 20, 21, 22, 23, 24, 25, 26, 27] (Sat w0 (keys [.box b0_ 28 [s0_0_.v, .int .i64 a0_1, .int .i64 a0_2, .int .i64 a0_3, .int .i64 a0_4], .row N47.R (SV.v s0_0_) xg0_0_]) A [.row R3 (SV.v s7) y6.1, .row R9 (SV.v s2) y1.1, .box b0_ 28 [s0_0_.v, .int .i64 a0_1, .int .i64 a0_2, .int .i64 a0_3, .int .i64 a0_4], .row N47.R (SV.v s0_0_) xg0_0_, .ro (Lk N47 a0_0 xg0_0_), .ro MaxT]) (Sat w0 (keys [.box b0_ 28 [s0_0_.v, .int .i64 a0_1, .int .i64 a0_2, .int .i64 a0_3, .int .i64 a0_4], .row N47.R (SV.v s0_0_) xg0_0_]) A [.row R3 (SV.v s7) y6.1, .row R9 (SV.v s2) y1.1, .row N47.R (SV.v s0_0_) xg0_0_, .ro (Lk N47 a0_0 xg0_0_), .ro MaxT]) (by kernel_rfl) ?_
     refine at_take2 0 rfl (by kernel_rfl) (by kernel_rfl) (by kernel_rfl) (fun _ h => h.picks [0, 0, 1, 1, 1] rfl) rfl rfl (p_mv rfl) (fun _ h => h.picks [0, 0, 1, 1, 1] rfl) ?_
     refine at_take2 1 rfl (by kernel_rfl) (by kernel_rfl) (by kernel_rfl) (fun _ h => h.picks [0, 0, 1, 1, 1] rfl) rfl rfl (p_mv rfl) (fun _ h => h.picks [0, 0, 1, 1, 1] rfl) ?_
     refine at_take2 2 rfl (by kernel_rfl) (by kernel_rfl) (by kernel_rfl) (fun _ h => h.picks [0, 0, 1, 1, 1] rfl) rfl rfl (p_mv rfl) (fun _ h => h.picks [0, 0, 1, 1, 1] rfl) ?_
     refine at_take2 3 rfl (by kernel_rfl) (by kernel_rfl) (by kernel_rfl) (fun _ h => h.picks [0, 0, 1, 1, 1] rfl) rfl rfl (p_mv rfl) (fun _ h => h.picks [0, 0, 1, 1, 1] rfl) ?_
     refine at_take2 4 rfl (by kernel_rfl) (by kernel_rfl) (by kernel_rfl) (fun _ h => h.picks [0, 0, 1, 1, 1] rfl) rfl rfl (p_mv rfl) (fun _ h => h.picks [0, 0, 1, 1, 1] rfl) ?_
     refine at_take2 5 rfl (by kernel_rfl) (by kernel_rfl) (by kernel_rfl) (fun _ h => h.picks [0, 0, 1, 1, 1] rfl) rfl rfl (p_idx Tryz.underlying22 ty3 rfl rfl (.row 0 rfl) he8) (fun _ h => h.picks [0, 0, 1, 1, 1] rfl) ?_
     refine at_take2 6 rfl (by kernel_rfl) (by kernel_rfl) (by kernel_rfl) (fun _ h => h.picks [0, 0, 1, 1, 1] rfl) rfl rfl (p_lde (o := 0) ty3 rfl rfl (.row 0 rfl) (getI_spec he8).2 rfl) (fun _ h => h.picks [0, 0, 1, 1, 1] rfl) ?_
     refine at_take2 7 rfl (by kernel_rfl) (by kernel_rfl) (by kernel_rfl) (fun _ h => h.picks [0, 0, 1, 1, 1] rfl) rfl rfl (p_mv rfl) (fun _ h => h.picks [0, 0, 1, 1, 1] rfl) ?_
     refine at_take2 8 rfl (by kernel_rfl) (by kernel_rfl) (by kernel_rfl) (fun _ h => h.picks [0, 0, 1, 1, 1] rfl) rfl rfl (p_idx Tryz.underlying22 ty3 rfl rfl (.row 0 rfl) he9) (fun _ h => h.picks [0, 0, 1, 1, 1] rfl) ?_
     refine at_take2 9 rfl (by kernel_rfl) (by kernel_rfl) (by kernel_rfl) (fun _ h => h.picks [0, 0, 1, 1, 1] rfl) rfl rfl (p_lde (o := 0) ty3 rfl rfl (.row 0 rfl) (getI_spec he9).2 rfl) (fun _ h => h.picks [0, 0, 1, 1, 1] rfl) ?_
     refine at_take2 10 rfl (by kernel_rfl) (by kernel_rfl) (by kernel_rfl) (fun _ h => h.picks [0, 0, 1, 1, 1] rfl) rfl rfl (p_mv rfl) (fun _ h => h.picks [0, 0, 1, 1, 1] rfl) ?_
     refine at_take2 11 rfl (by kernel_rfl) (by kernel_rfl) (by kernel_rfl) (fun _ h => h.picks [0, 0, 1, 1, 1] rfl) rfl rfl (p_idx Tryz.underlying22 ty3 rfl rfl (.row 0 rfl) he10) (fun _ h => h.picks [0, 0, 1, 1, 1] rfl) ?_
     refine at_take2 12 rfl (by kernel_rfl) (by kernel_rfl) (by kernel_rfl) (fun _ h => h.picks [0, 0, 1, 1, 1] rfl) rfl rfl (p_lde (o := 0) ty3 rfl rfl (.row 0 rfl) (getI_spec he10).2 rfl) (fun _ h => h.picks [0, 0, 1, 1, 1] rfl) ?_
     refine at_take2 13 rfl (by kernel_rfl) (by kernel_rfl) (by kernel_rfl) (fun _ h => h.picks [0, 0, 1, 1, 1] rfl) rfl rfl (p_mv rfl) (fun _ h => h.picks [0, 0, 1, 1, 1] rfl) ?_
     refine at_take2 14 rfl (by kernel_rfl) (by kernel_rfl) (by kernel_rfl) (fun _ h => h.picks [0, 0, 1, 1, 1] rfl) rfl rfl (p_idx Tryz.underlying22 ty3 rfl rfl (.row 0 rfl) he11) (fun _ h => h.picks [0, 0, 1, 1, 1] rfl) ?_
     refine at_take2 15 rfl (by kernel_rfl) (by kernel_rfl) (by kernel_rfl) (fun _ h => h.picks [0, 0, 1, 1, 1] rfl) rfl rfl (p_lde (o := 0) ty3 rfl rfl (.row 0 rfl) (getI_spec he11).2 rfl) (fun _ h => h.picks [0, 0, 1, 1, 1] rfl) ?_
     refine at_take2 16 rfl (by kernel_rfl) (by kernel_rfl) (by kernel_rfl) (fun _ h => h.picks [0, 0, 1, 1, 1] rfl) rfl rfl (p_nc rfl) (fun _ h => h.picks [0, 0, 1, 1, 1] rfl) ?_
     refine at_take2 17 rfl (by kernel_rfl) (by kernel_rfl) (by kernel_rfl) (fun _ h => h.picks [0, 0, 1, 1, 1] rfl) rfl rfl (p_fab fl28_1 rfl) (fun _ h => h.picks [0, 0, 1, 1, 1] rfl) ?_
     refine at_each (rs := [18]) (by kernel_rfl) (by decide) ?_
     refine (.cons rfl (fun I cnI => ?_) .nil)
     ·refine r_sb (vs := [.int .i64 e8]) (j := 2) ty3 rfl rfl rfl rfl rfl rfl rfl ?_
      refine lj_nil ?_
      refine cnI _ _ (sof2 rfl rfl (fun _ h => h.picks [0, 0, 1, 1, 1] rfl)) ?_
      refine at_take2 19 rfl (by kernel_rfl) (by kernel_rfl) (by kernel_rfl) (fun _ h => h.picks [0, 0, 1, 1, 1] rfl) rfl rfl (p_nc rfl) (fun _ h => h.picks [0, 0, 1, 1, 1] rfl) ?_
      refine at_take2 20 rfl (by kernel_rfl) (by kernel_rfl) (by kernel_rfl) (fun _ h => h.picks [0, 0, 1, 1, 1] rfl) rfl rfl (p_fab fl28_2 rfl) (fun _ h => h.picks [0, 0, 1, 1, 1] rfl) ?_
      refine at_each (rs := [21]) (by kernel_rfl) (by decide) ?_
      refine (.cons rfl (fun I cnI => ?_) .nil)
      ·refine r_sb (vs := [.int .i64 e9]) (j := 2) ty3 rfl rfl rfl rfl rfl rfl rfl ?_
       refine lj_nil ?_
       refine cnI _ _ (sof2 rfl rfl (fun _ h => h.picks [0, 0, 1, 1, 1] rfl)) ?_
       refine at_take2 22 rfl (by kernel_rfl) (by kernel_rfl) (by kernel_rfl) (fun _ h => h.picks [0, 0, 1, 1, 1] rfl) rfl rfl (p_nc rfl) (fun _ h => h.picks [0, 0, 1, 1, 1] rfl) ?_
       refine at_take2 23 rfl (by kernel_rfl) (by kernel_rfl) (by kernel_rfl) (fun _ h => h.picks [0, 0, 1, 1, 1] rfl) rfl rfl (p_fab fl28_3 rfl) (fun _ h => h.picks [0, 0, 1, 1, 1] rfl) ?_
       refine at_each (rs := [24]) (by kernel_rfl) (by decide) ?_
       refine (.cons rfl (fun I cnI => ?_) .nil)
       ·refine r_sb (vs := [.int .i64 e10]) (j := 2) ty3 rfl rfl rfl rfl rfl rfl rfl ?_
        refine lj_nil ?_
        refine cnI _ _ (sof2 rfl rfl (fun _ h => h.picks [0, 0, 1, 1, 1] rfl)) ?_
        refine at_take2 25 rfl (by kernel_rfl) (by kernel_rfl) (by kernel_rfl) (fun _ h => h.picks [0, 0, 1, 1, 1] rfl) rfl rfl (p_nc rfl) (fun _ h => h.picks [0, 0, 1, 1, 1] rfl) ?_
        refine at_take2 26 rfl (by kernel_rfl) (by kernel_rfl) (by kernel_rfl) (fun _ h => h.picks [0, 0, 1, 1, 1] rfl) rfl rfl (p_fab fl28_4 rfl) (fun _ h => h.picks [0, 0, 1, 1, 1] rfl) ?_
        refine at_each (rs := [27]) (by kernel_rfl) (by decide) ?_
        refine (.cons rfl (fun I cnI => ?_) .nil)
        ·refine r_sb (vs := [.int .i64 e11]) (j := 2) ty3 rfl rfl rfl rfl rfl rfl rfl ?_
         refine lj_nil ?_
         refine cnI _ _ (sof2 rfl rfl (fun _ h => h.picks [0, 0, 1, 1, 1] rfl)) ?_
         refine at_done (by kernel_rfl) ?_
         refine nj_seq ?_
         refine cj_seq ?_
         refine cj_reg ?_
         refine lp rfl (p_as rfl) ?_
         refine lj_seq ?_
         obtain rfl := Option.some.inj hm
         exact cj_rt (s0_0_, xg0_0_) [3, 3, 2] Tryz.results32 (.tmp rfl .nil) rfl rfl
   ·have hm := ifB_f hb hm
    refine cj_skip ?_
    refine nj_seq ?_
    refine cj_seq ?_
    refine cj_reg ?_
    refine lp rfl (p_mv rfl) ?_
    obtain ⟨e12, he12, hm⟩ := bindS hm
    refine lp rfl (p_idx Tryz.underlying45 ty9 rfl rfl (.row 0 rfl) he12) ?_
    refine lp rfl (p_lde (o := 0) ty9 rfl rfl (.row 0 rfl) (getI_spec he12).2 rfl) ?_
    refine r_bs R9 [e12] rfl rfl rfl (fun _ => by kernel_rfl) rfl (fun s13 => ?_)
    obtain ⟨y14, hy14, hm⟩ := bindS hm
    refine r_call [] cf55 rfl rfl (ok_kit_Numbers s13 [e12] hy14) rfl rfl (.cons (.row 0 rfl) .nil) (fun _ => rfl) rfl (fun s15 => ?_)
    refine lp rfl (p_mv rfl) ?_
    refine lp rfl (p_ext rfl rfl) ?_
    refine lp rfl (p_ext rfl rfl) ?_
    refine lp rfl (p_as rfl) ?_
    refine lp rfl (p_as rfl) ?_
    refine lj_seq ?_
    refine cj_seq ?_
    refine cj_reg ?_
    refine lp rfl (p_mv rfl) ?_
    obtain ⟨e16, he16, hm⟩ := bindS hm
    refine lp rfl (p_idx Tryz.underlying45 ty9 rfl rfl (.row 2 rfl) he16) ?_
    refine lp rfl (p_lde (o := 0) ty9 rfl rfl (.row 2 rfl) (getI_spec he16).2 rfl) ?_
    obtain ⟨y17, hy17, hm⟩ := bindS hm
    refine r_call [] cf38 rfl rfl (ok_strings_Split e16 (ByteArray.mk [44].toArray) hy17) rfl rfl (.cons (.ro 6 rfl) .nil) (fun _ => rfl) rfl (fun s18 => ?_)
    refine lp rfl (p_as rfl) ?_
    refine lj_seq ?_
    refine cj_seq ?_
    refine cj_seq ?_
    refine cj_reg ?_
    obtain ⟨k21, hk21, hm⟩ := bindS hm
    have hRk21 : ∀ t, k21 = .inr t → some t = some r := fun t e => by rw [e] at hm; exact hm
    refine lj_join (σ := Bool) (γ := Unit) (fun u19 => k21 = .inl u19) (fun u19 g20 => [(0, .pointer (some ⟨b0_, 0, none⟩)), (6, .bool false), (7, s2.v), (11, s15.v), (12, s18.v), (74, .bool u19)]) (fun u19 g20 => Sat w0 (keys [.box b0_ 28 [s0_0_.v, .int .i64 a0_1, .int .i64 a0_2, .int .i64 a0_3, .int .i64 a0_4], .row N47.R (SV.v s0_0_) xg0_0_]) A [.row R9 (SV.v s18) y17, .row R3 (SV.v s15) y14.1, .row R9 (SV.v s2) y1.1, .box b0_ 28 [s0_0_.v, .int .i64 a0_1, .int .i64 a0_2, .int .i64 a0_3, .int .i64 a0_4], .row N47.R (SV.v s0_0_) xg0_0_, .ro (Lk N47 a0_0 xg0_0_), .ro MaxT]) (fun u19 g20 hq => ?_) (fun J cnk21 => ?_)
    ·have hm := Sum.fin_l hq hm
     refine cj_if (b := u19) rfl (fun hb => ?_) (fun hb => ?_)
     ·have hm := ifB_t hb hm
      refine cj_seq ?_
      refine cj_reg ?_
      refine lp rfl (p_as rfl) ?_
      refine lj_seq ?_
      obtain rfl := Option.some.inj hm
      exact cj_rt (s0_0_, xg0_0_) [4, 4, 3] Tryz.results32 (.tmp rfl .nil) rfl rfl
     ·have hm := ifB_f hb hm
      refine cj_skip ?_
      refine nj_seq ?_
      refine cj_seq ?_
      refine cj_pure (F := RdS R9 (SV.v s18) y17) (.row 0 rfl) (fun _ h => h.pures) (fun hq30 => ?_)
      refine cj_pure (F := RdS N47.R (SV.v s0_0_) xg0_0_) (.row 4 rfl) (fun _ h => h.pures) (fun hq31 => ?_)
      obtain ⟨e23, he23, hm⟩ := bindS hm
      obtain ⟨e24, he24, hm⟩ := bindS hm
      obtain ⟨e25, he25, hm⟩ := bindS hm
      obtain ⟨q27, hq27, hm⟩ := bindS hm
      refine cj_anyT [0, 1, 2, 3, 4, 5, 6, 7, 8, 9, 10, 11, 12, 13, 14, 15, 18, 19] [20] (Sat w0 (keys [.box b0_ 28 [s0_0_.v, .int .i64 a0_1, .int .i64 a0_2, .int .i64 a0_3, .int .i64 a0_4], .row N47.R (SV.v s0_0_) xg0_0_]) A [.row R3 (SV.v s15) y14.1, .row R9 (SV.v s2) y1.1, .box b0_ 28 [s0_0_.v, .int .i64 a0_1, .int .i64 a0_2, .int .i64 a0_3, .int .i64 a0_4], .ro (Lk N47 a0_0 xg0_0_), .ro MaxT]) (Sat w0 (keys [.box b0_ 28 [s0_0_.v, .int .i64 a0_1, .int .i64 a0_2, .int .i64 a0_3, .int .i64 a0_4], .row N47.R (SV.v s0_0_) xg0_0_]) A [.row R3 (SV.v s15) y14.1, .row R9 (SV.v s2) y1.1, .ro (Lk N47 a0_0 xg0_0_), .ro MaxT]) (by kernel_rfl) ?_
      refine at_take2 0 rfl (by kernel_rfl) (by kernel_rfl) (by kernel_rfl) (fun _ h => h.picks [0, 0, 1, 1] rfl) rfl rfl (p_mv rfl) (fun _ h => h.picks [1, 1, 3, 3] rfl) ?_
      refine at_take2 1 rfl (by kernel_rfl) (by kernel_rfl) (by kernel_rfl) (fun _ h => h.picks [0, 0, 1, 1] rfl) rfl rfl (p_mv rfl) (fun _ h => h.picks [1, 1, 3, 3] rfl) ?_
      refine at_take2 2 rfl (by kernel_rfl) (by kernel_rfl) (by kernel_rfl) (fun _ h => h.picks [0, 0, 1, 1] rfl) rfl rfl (p_nc rfl) (fun _ h => h.picks [1, 1, 3, 3] rfl) ?_
      refine at_take2 3 rfl (by kernel_rfl) (by kernel_rfl) (by kernel_rfl) (fun _ h => h.picks [0, 0, 1, 1] rfl) rfl rfl (p_fab fl28_0 rfl) (fun _ h => h.picks [1, 1, 3, 3] rfl) ?_
      refine at_take1 4 rfl (by kernel_rfl) (by kernel_rfl) (by kernel_rfl) (by kernel_rfl) rfl rfl (p_lbs ty26 rfl (j := 2) rfl rfl) (fun _ h => h.picks [1, 1, 1, 2, 2] rfl) ?_
      refine at_take2 5 rfl (by kernel_rfl) (by kernel_rfl) (by kernel_rfl) (fun _ h => h.picks [0, 0, 1, 1] rfl) rfl rfl (p_mv rfl) (fun _ h => h.picks [1, 1, 3, 3] rfl) ?_
      refine at_take2 6 rfl (by kernel_rfl) (by kernel_rfl) (by kernel_rfl) (fun _ h => h.picks [0, 0, 1, 1] rfl) rfl rfl (p_idx Tryz.underlying45 ty9 rfl rfl (.row 1 rfl) he23) (fun _ h => h.picks [1, 1, 3, 3] rfl) ?_
      refine at_take2 7 rfl (by kernel_rfl) (by kernel_rfl) (by kernel_rfl) (fun _ h => h.picks [0, 0, 1, 1] rfl) rfl rfl (p_lde (o := 0) ty9 rfl rfl (.row 1 rfl) (getI_spec he23).2 rfl) (fun _ h => h.picks [1, 1, 3, 3] rfl) ?_
      refine at_take2 8 rfl (by kernel_rfl) (by kernel_rfl) (by kernel_rfl) (fun _ h => h.picks [0, 0, 1, 1] rfl) rfl rfl (p_mv rfl) (fun _ h => h.picks [1, 1, 3, 3] rfl) ?_
      refine at_take2 9 rfl (by kernel_rfl) (by kernel_rfl) (by kernel_rfl) (fun _ h => h.picks [0, 0, 1, 1] rfl) rfl rfl (p_idx Tryz.underlying45 ty9 rfl rfl (.row 1 rfl) he24) (fun _ h => h.picks [1, 1, 3, 3] rfl) ?_
      refine at_take2 10 rfl (by kernel_rfl) (by kernel_rfl) (by kernel_rfl) (fun _ h => h.picks [0, 0, 1, 1] rfl) rfl rfl (p_lde (o := 0) ty9 rfl rfl (.row 1 rfl) (getI_spec he24).2 rfl) (fun _ h => h.picks [1, 1, 3, 3] rfl) ?_
      refine at_take2 11 rfl (by kernel_rfl) (by kernel_rfl) (by kernel_rfl) (fun _ h => h.picks [0, 0, 1, 1] rfl) rfl rfl (p_mv rfl) (fun _ h => h.picks [1, 1, 3, 3] rfl) ?_
      refine at_take2 12 rfl (by kernel_rfl) (by kernel_rfl) (by kernel_rfl) (fun _ h => h.picks [0, 0, 1, 1] rfl) rfl rfl (p_idx Tryz.underlying22 ty3 rfl rfl (.row 0 rfl) he25) (fun _ h => h.picks [1, 1, 3, 3] rfl) ?_
      refine at_take2 13 rfl (by kernel_rfl) (by kernel_rfl) (by kernel_rfl) (fun _ h => h.picks [0, 0, 1, 1] rfl) rfl rfl (p_lde (o := 0) ty3 rfl rfl (.row 0 rfl) (getI_spec he25).2 rfl) (fun _ h => h.picks [1, 1, 3, 3] rfl) ?_
      refine at_take2 14 rfl (by kernel_rfl) (by kernel_rfl) (by kernel_rfl) (fun _ h => h.picks [0, 0, 1, 1] rfl) rfl rfl (p_mv rfl) (fun _ h => h.picks [1, 1, 3, 3] rfl) ?_
      refine at_take2 15 rfl (by kernel_rfl) (by kernel_rfl) (by kernel_rfl) (fun _ h => h.picks [0, 0, 1, 1] rfl) rfl rfl (p_bld [.string e23, .string e24, .int .i64 e25, s18.v] rfl (fun _ => by kernel_rfl)) (fun _ h => h.picks [1, 1, 3, 3] rfl) ?_
      refine at_each (rs := [16]) (by kernel_rfl) (by decide) ?_
      refine (.cons rfl (fun I cnI => ?_) .nil)
      ·refine r_fz 0 rfl ?_
       refine r_fact (F := Lk N47 [(TItem.mk e23 e24 e25 y17)] [((TItem.mk e23 e24 e25 y17), s18)]) (.imp (.and (.ro 0 rfl) (.nilL N47)) (fun _ h => Lk.cons h.1 h.2)) ?_
       have hLs32 : (([((TItem.mk e23 e24 e25 y17), s18)] : List (TItem × SV)).map Prod.fst) = ([(TItem.mk e23 e24 e25 y17)] : List TItem) := rfl
       refine r_bs N47.R [((TItem.mk e23 e24 e25 y17), s18)] rfl rfl rfl (fun _ => by kernel_rfl) rfl (fun s32 => ?_)
       refine lj_nil ?_
       refine cnI _ _ (sof1 rfl rfl (fun _ h => h.picks [3, 3, 3, 4, 4] rfl)) ?_
       refine at_each (rs := [17]) (by kernel_rfl) (by decide) ?_
       refine (.cons rfl (fun I cnI => ?_) .nil)
       ·refine r_fact (F := Lk N47 q27 (xg0_0_ ++ [((TItem.mk e23 e24 e25 y17), s18)])) (.imp (.and (.ro 7 rfl) (.ro 1 rfl)) (fun _ h => Lk.app hq27 h.1 h.2)) ?_
        refine r_app (k := 7) Tryz.underlying26 ty47 rfl rfl rfl rfl (.row 1 rfl) (lk_app hq27 hL0_0_ hLs32) rfl (fun s33 => ?_)
        refine lj_nil ?_
        refine cnI _ _ (sof1 rfl rfl (fun _ h => h.picks [4, 4, 4, 5, 5] rfl)) ?_
        refine at_take2 18 rfl (by kernel_rfl) (by kernel_rfl) (by kernel_rfl) (fun _ h => h.picks [0, 0, 1, 1] rfl) rfl rfl (p_nc rfl) (fun _ h => h.picks [4, 4, 6, 6] rfl) ?_
        refine at_take2 19 rfl (by kernel_rfl) (by kernel_rfl) (by kernel_rfl) (fun _ h => h.picks [0, 0, 1, 1] rfl) rfl rfl (p_fab fl28_0 rfl) (fun _ h => h.picks [4, 4, 6, 6] rfl) ?_
        refine at_each (rs := [20]) (by kernel_rfl) (by decide) ?_
        refine (.cons rfl (fun I cnI => ?_) .nil)
        ·refine r_sb (vs := [s33.v]) (j := 6) ty26 rfl rfl rfl rfl rfl rfl rfl ?_
         refine lj_nil ?_
         refine cnI _ _ (sof2 rfl rfl (fun _ h => h.picks [4, 4, 6, 6] rfl)) ?_
         refine at_done (by kernel_rfl) ?_
         refine nj_seq ?_
         refine cj_seq ?_
         refine cj_reg ?_
         refine lp rfl (p_as rfl) ?_
         refine lj_seq ?_
         obtain rfl := Option.some.inj hm
         exact cj_rt (s33, (xg0_0_ ++ [((TItem.mk e23 e24 e25 y17), s18)])) [7, 0, 5] Tryz.results32 (.tmp rfl .nil) rfl rfl
    ·have hm := hk21
     refine lp rfl (p_mv rfl) ?_
     refine lp rfl (p_not rfl) ?_
     refine lp rfl (p_mv rfl) ?_
     refine lcase (i := 71) (!y14.2) rfl (fun hb => ?_) (fun hb => ?_)
     ·have hm := ifB_t hb hm
      refine ls false rfl rfl rfl rfl ?_
      refine ls false rfl rfl rfl rfl ?_
      refine lp rfl (p_pkt rfl rfl) ?_
      refine lj_nil ?_
      exact cnk21 _ _ true () (Option.some.inj hm).symm ⟨rfl, rfl, rfl, rfl, rfl, rfl, trivial⟩ (fun _ h => h.picks [0, 0, 1, 1, 1, 1, 1] rfl)
     ·have hm := ifB_f hb hm
      refine lg false rfl rfl rfl ?_
      refine lp rfl (p_mv rfl) ?_
      refine lg false rfl rfl rfl ?_
      obtain ⟨y22, hy22, hm⟩ := bindS hm
      refine r_call [] cf39 rfl rfl (ok_slices_Contains_string_string s18 y17 ByteArray.empty hy22) rfl rfl (.cons (.row 0 rfl) .nil) (fun _ => rfl) rfl (fun _ => ?_)
      refine lp rfl (p_pkf rfl rfl) ?_
      refine lj_nil ?_
      exact cnk21 _ _ y22 () (Option.some.inj hm).symm ⟨rfl, rfl, rfl, rfl, rfl, rfl, trivial⟩ (fun _ h => h.picks [0, 0, 1, 1, 1, 1, 1] rfl)
 ·have hm := hk5
  refine lp rfl (p_mv rfl) ?_
  refine lp rfl (p_not rfl) ?_
  refine lp rfl (p_mv rfl) ?_
  refine lcase (i := 20) (!y1.2) rfl (fun hb => ?_) (fun hb => ?_)
  ·have hm := ifB_t hb hm
   refine ls false rfl rfl rfl rfl ?_
   refine ls false rfl rfl rfl rfl ?_
   refine ls false rfl rfl rfl rfl ?_
   refine lp rfl (p_pkt rfl rfl) ?_
   refine lj_nil ?_
   exact cnk5 _ _ true () (Option.some.inj hm).symm ⟨rfl, rfl, rfl, rfl, rfl, rfl, trivial⟩ (fun _ h => h.picks [0, 0, 0, 0, 0] rfl)
  ·have hm := ifB_f hb hm
   refine lg false rfl rfl rfl ?_
   refine lp rfl (p_mv rfl) ?_
   refine lg false rfl rfl rfl ?_
   refine lp rfl (p_len Tryz.underlying45 rfl (.row 0 rfl)) ?_
   refine lg false rfl rfl rfl ?_
   refine lp rfl (p_neq rfl rfl) ?_
   refine lp rfl (p_pkf rfl rfl) ?_
   refine lj_nil ?_
   exact cnk5 _ _ ((y1.1.length : Int) != 4) () (Option.some.inj hm).symm ⟨rfl, rfl, rfl, rfl, rfl, rfl, trivial⟩ (fun _ h => h.picks [0, 0, 0, 0, 0] rfl)
theorem ok_concert_Read (a0 : ByteArray) {r : TProgram × Int × Int} (hm : m_concert_Read a0 = some r) :
  Ctr Tryz.prog 9 [.string a0].toArray ([] : List Ent) [MaxT] (X := (SV × List (TItem × SV))) (fun s => .tuple [.agg [s.1.v, .int .i64 r.1.Change, .int .i64 r.1.Clap, .int .i64 r.1.Break, .int .i64 r.1.Half].toArray, .int .i64 r.2.1, .int .i64 r.2.2].toArray) (fun s => [.row N47.R (SV.v s.1) s.2, .ro (Lk N47 r.1.Items s.2)]) := by
 unfold m_concert_Read at hm
 refine ctr_mk (vs := [(0, .string a0)]) Tryz.func9 rfl Tryz.ntmps9 rfl ⟨rfl, trivial⟩ (fun w0 A => ?_)
 refine cj_seq ?_
 refine cj_reg ?_
 refine r_al ty28 rfl (fun b1 => ?_)
 refine lp rfl (p_as rfl) ?_
 refine lp rfl (p_as rfl) ?_
 refine lj_seq ?_
 refine cj_seq ?_
 refine cj_seq ?_
 refine cj_reg ?_
 refine lp rfl (p_mv rfl) ?_
 refine lp rfl (p_lens Tryz.underlying9 rfl) ?_
 refine lp rfl (p_gtr rfl rfl) ?_
 refine lj_seq ?_
 refine cj_if (b := decide ((a0.size : Int) > 200000)) rfl (fun hb => ?_) (fun hb => ?_)
 ·have hm := ifB_t hb hm
  refine cj_seq ?_
  refine cj_reg ?_
  refine lp rfl (p_bld [.slice none 0 0, .int .i64 0, .int .i64 0, .int .i64 0, .int .i64 0] rfl (fun _ => by kernel_rfl)) ?_
  refine r_sb (vs := [.slice none 0 0, .int .i64 0, .int .i64 0, .int .i64 0, .int .i64 0]) (j := 0) ty28 rfl rfl rfl rfl rfl rfl rfl ?_
  refine lp rfl (p_as rfl) ?_
  refine lp rfl (p_as rfl) ?_
  refine lj_seq ?_
  obtain rfl := Option.some.inj hm
  refine cj_fact (F := Lk N47 [] []) (.nilL N47) ?_
  refine cj_nil N47.R ?_
  exact cj_rt (nilS, []) [0, 0] Tryz.results9 (.agg (k := 2) ty28 rfl rfl rfl (.tmp rfl (.tmp rfl .nil))) rfl rfl
 ·have hm := ifB_f hb hm
  refine cj_skip ?_
  refine nj_seq ?_
  refine cj_seq ?_
  refine cj_reg ?_
  refine lp rfl (p_mv rfl) ?_
  obtain ⟨y3, hy3, hm⟩ := bindS hm
  refine r_call [] cf31 rfl rfl (ok_kit_Lines a0 hy3) rfl rfl (.cons (.ro 1 rfl) .nil) (fun _ => rfl) rfl (fun s4 => ?_)
  refine lp rfl (p_mv rfl) ?_
  refine lp rfl (p_ext rfl rfl) ?_
  refine lp rfl (p_ext rfl rfl) ?_
  refine lp rfl (p_as rfl) ?_
  refine lp rfl (p_as rfl) ?_
  refine lj_seq ?_
  refine cj_seq ?_
  refine cj_seq ?_
  refine cj_reg ?_
  refine lp rfl (p_mv rfl) ?_
  refine lp rfl (p_len Tryz.underlying45 rfl (.row 0 rfl)) ?_
  refine lp rfl (p_eql rfl rfl) ?_
  refine lj_seq ?_
  refine cj_if (b := (y3.1.length : Int) == 0) rfl (fun hb => ?_) (fun hb => ?_)
  ·have hm := ifB_t hb hm
   refine cj_seq ?_
   refine cj_reg ?_
   refine lp rfl (p_bld [.slice none 0 0, .int .i64 0, .int .i64 0, .int .i64 0, .int .i64 0] rfl (fun _ => by kernel_rfl)) ?_
   refine r_sb (vs := [.slice none 0 0, .int .i64 0, .int .i64 0, .int .i64 0, .int .i64 0]) (j := 1) ty28 rfl rfl rfl rfl rfl rfl rfl ?_
   refine lp rfl (p_as rfl) ?_
   refine lp rfl (p_as rfl) ?_
   refine lj_seq ?_
   obtain rfl := Option.some.inj hm
   refine cj_fact (F := Lk N47 [] []) (.nilL N47) ?_
   refine cj_nil N47.R ?_
   exact cj_rt (nilS, []) [0, 0] Tryz.results9 (.agg (k := 3) ty28 rfl rfl rfl (.tmp rfl (.tmp rfl .nil))) rfl rfl
  ·have hm := ifB_f hb hm
   refine cj_skip ?_
   refine nj_seq ?_
   refine cj_seq ?_
   refine cj_reg ?_
   refine lp rfl (p_bld [.slice none 0 0, .int .i64 0, .int .i64 0, .int .i64 0, .int .i64 0] rfl (fun _ => by kernel_rfl)) ?_
   refine r_al ty28 rfl (fun b6 => ?_)
   refine r_sb (vs := [.slice none 0 0, .int .i64 0, .int .i64 0, .int .i64 0, .int .i64 0]) (j := 0) ty28 rfl rfl rfl rfl rfl rfl rfl ?_
   refine lj_seq ?_
   refine cj_seq ?_
   refine cj_seq ?_
   refine cj_reg ?_
   refine lp rfl (p_mv rfl) ?_
   refine lp rfl (p_len Tryz.underlying45 rfl (.row 1 rfl)) ?_
   refine lp rfl (p_mv rfl) ?_
   refine lj_seq ?_
   refine cj_fact (F := Lk N47 [] []) (.nilL N47) ?_
   refine cj_nil N47.R ?_
   obtain ⟨f14, hf14, hm⟩ := bindS hm
   refine cj_range (γ := (SV × List (TItem × SV))) (m := (y3.1.length : Int)) hf14 (nilS, []) (fun u11 g12 => [(2, .pointer (some ⟨b1, 0, none⟩)), (3, .int .i64 0), (4, .int .i64 0), (5, s4.v), (6, .bool y3.2), (7, .pointer (some ⟨b6, 0, none⟩)), (25, s4.v)]) (fun u11 g12 => Sat w0 (keys ([] : List Ent)) A [.box b6 28 [g12.1.v, .int .i64 u11.1, .int .i64 u11.2.1, .int .i64 u11.2.2.1, .int .i64 u11.2.2.2.1], .row R9 (SV.v s4) y3.1, .box b1 28 [.slice none 0 0, .int .i64 0, .int .i64 0, .int .i64 0, .int .i64 0], .ro MaxT, .row N47.R (SV.v g12.1) g12.2, .ro (Lk N47 u11.2.2.2.2 g12.2)]) ⟨rfl, rfl, rfl, rfl, rfl, rfl, rfl, rfl, rfl, trivial⟩ (fun _ h => h.picks [2, 2, 2, 2, 0, 0] rfl) (nat_lt _) (fun _ h => (FactAt.get (F := RdS R9 (SV.v s4) y3.1) (.row 3 rfl) h).1) (fun _ _ => ⟨rfl, rfl, rfl, rfl⟩) ⟨rfl, rfl, rfl, rfl, rfl⟩ rfl rfl rfl (fun u11 g12 e => ?_) (fun aftk13 i7 x8 u11 g12 k13 hx9 hs J hJk13 hBk13 hX I cnk13 => ?_)
   ·have hm := Flow.fin_b e hm
    refine nj_pure (F := Lk N47 u11.2.2.2.2 g12.2) (.ro 5 rfl) (fun _ h => h.1) (fun hLu11_K24 => ?_)
    refine nj_seq ?_
    refine cj_seq ?_
    refine cj_seq ?_
    refine cj_reg ?_
    refine lp rfl (p_lbw ty28 rfl (j := 0) rfl rfl) ?_
    obtain ⟨y25, hy25, hm⟩ := bindS hm
    refine r_call [] cf21 rfl rfl (ok_concert_CheckProgram (TProgram.mk u11.2.2.2.2 u11.1 u11.2.1 u11.2.2.1 u11.2.2.2.1) g12.1 g12.2 hy25) rfl rfl (.cons (.ro 5 rfl) (.cons (.row 4 rfl) .nil)) (fun _ => rfl) rfl (fun _ => ?_)
    refine lp rfl (p_as rfl) ?_
    refine lj_seq ?_
    refine cj_seq ?_
    refine cj_reg ?_
    refine lp rfl (p_mv rfl) ?_
    refine lp rfl (p_neq rfl rfl) ?_
    refine lj_seq ?_
    refine cj_if (b := y25 != 0) rfl (fun hb => ?_) (fun hb => ?_)
    ·have hm := ifB_t hb hm
     refine cj_seq ?_
     refine cj_reg ?_
     refine lp rfl (p_bld [.slice none 0 0, .int .i64 0, .int .i64 0, .int .i64 0, .int .i64 0] rfl (fun _ => by kernel_rfl)) ?_
     refine lp rfl (p_mv rfl) ?_
     refine r_sb (vs := [.slice none 0 0, .int .i64 0, .int .i64 0, .int .i64 0, .int .i64 0]) (j := 2) ty28 rfl rfl rfl rfl rfl rfl rfl ?_
     refine lp rfl (p_as rfl) ?_
     refine lp rfl (p_as rfl) ?_
     refine lj_seq ?_
     obtain rfl := Option.some.inj hm
     refine cj_fact (F := Lk N47 [] []) (.nilL N47) ?_
     refine cj_nil N47.R ?_
     exact cj_rt (nilS, []) [0, 0] Tryz.results9 (.agg (k := 4) ty28 rfl rfl rfl (.tmp rfl (.tmp rfl .nil))) rfl rfl
    ·have hm := ifB_f hb hm
     refine cj_skip ?_
     refine nj_seq ?_
     refine cj_seq ?_
     refine cj_reg ?_
     refine lp rfl (p_lbw ty28 rfl (j := 0) rfl rfl) ?_
     refine r_sb (vs := [g12.1.v, .int .i64 u11.1, .int .i64 u11.2.1, .int .i64 u11.2.2.1, .int .i64 u11.2.2.2.1]) (j := 2) ty28 rfl rfl rfl rfl rfl rfl rfl ?_
     refine lp rfl (p_as rfl) ?_
     refine lp rfl (p_as rfl) ?_
     refine lj_seq ?_
     obtain rfl := Option.some.inj hm
     exact cj_rt (g12.1, g12.2) [4, 4] Tryz.results9 (.agg (k := 2) ty28 rfl rfl rfl (.tmp rfl (.tmp rfl .nil))) rfl rfl
   ·have hRk13 : ∀ t, k13 = .ret t → some t = some r := fun t e => by rw [hX t e] at hm; exact hm
    have hm := hs
    refine cj_pure (F := Lk N47 u11.2.2.2.2 g12.2) (.ro 5 rfl) (fun _ h => h.1) (fun hLu11_K15 => ?_)
    refine cj_seq ?_
    refine cj_reg ?_
    refine lp rfl (p_mv rfl) ?_
    refine lp rfl (p_idx Tryz.underlying45 ty9 rfl rfl (.row 1 rfl) (getI_nat.trans hx9)) ?_
    refine lp rfl (p_lde (o := 0) ty9 rfl rfl (.row 1 rfl) hx9 rfl) ?_
    refine lp rfl (p_as rfl) ?_
    refine lp rfl (p_as rfl) ?_
    refine lj_seq ?_
    refine cj_seq ?_
    refine cj_reg ?_
    obtain ⟨k19, hk19, hm⟩ := bindS hm
    have hRk19 : ∀ t, k19 = .inr t → some t = some k13 := fun t e => by rw [e] at hm; exact hm
    refine lj_join (σ := (Bool × Int × Int × Int × Int × (List TItem))) (γ := (SV × List (TItem × SV))) (fun u16 => k19 = .inl u16) (fun u16 g17 => [(2, .pointer (some ⟨b1, 0, none⟩)), (3, .int .i64 0), (4, .int .i64 0), (5, s4.v), (6, .bool y3.2), (7, .pointer (some ⟨b6, 0, none⟩)), (8, .int .i64 (i7 : Int)), (25, s4.v), (26, .int .i64 (y3.1.length : Int)), (27, .int .i64 (i7 : Int)), (47, .bool u16.1)]) (fun u16 g17 => Sat w0 (keys ([] : List Ent)) A [.box b6 28 [g17.1.v, .int .i64 u16.2.1, .int .i64 u16.2.2.1, .int .i64 u16.2.2.2.1, .int .i64 u16.2.2.2.2.1], .row R9 (SV.v s4) y3.1, .box b1 28 [.slice none 0 0, .int .i64 0, .int .i64 0, .int .i64 0, .int .i64 0], .ro MaxT, .row N47.R (SV.v g17.1) g17.2, .ro (Lk N47 u16.2.2.2.2.2 g17.2)]) (fun u16 g17 hq => ?_) (fun J cnk19 => ?_)
    ·have hm := Sum.fin_l hq hm
     refine cj_pure (F := Lk N47 u16.2.2.2.2.2 g17.2) (.ro 5 rfl) (fun _ h => h.1) (fun hLu16_K18 => ?_)
     refine cj_if (b := u16.1) rfl (fun hb => ?_) (fun hb => ?_)
     ·have hm := ifB_t hb hm
      refine cj_seq ?_
      refine cj_reg ?_
      refine lp rfl (p_bld [.slice none 0 0, .int .i64 0, .int .i64 0, .int .i64 0, .int .i64 0] rfl (fun _ => by kernel_rfl)) ?_
      refine lp rfl (p_mv rfl) ?_
      refine r_sb (vs := [.slice none 0 0, .int .i64 0, .int .i64 0, .int .i64 0, .int .i64 0]) (j := 2) ty28 rfl rfl rfl rfl rfl rfl rfl ?_
      refine lp rfl (p_as rfl) ?_
      refine lp rfl (p_as rfl) ?_
      refine lj_seq ?_
      have hm := hRk13 _ (Option.some.inj hm).symm
      obtain rfl := Option.some.inj hm
      refine cj_fact (F := Lk N47 [] []) (.nilL N47) ?_
      refine cj_nil N47.R ?_
      exact cj_rt (nilS, []) [0, 0] Tryz.results9 (.agg (k := 4) ty28 rfl rfl rfl (.tmp rfl (.tmp rfl .nil))) rfl rfl
     ·have hm := ifB_f hb hm
      refine cj_skip ?_
      refine nj_blk ?_
      exact cnk13 _ _ (u16.2.1, u16.2.2.1, u16.2.2.2.1, u16.2.2.2.2.1, u16.2.2.2.2.2) (g17.1, g17.2) (hJk13 _ (Option.some.inj hm).symm) ⟨rfl, rfl, rfl, rfl, rfl, rfl, rfl, rfl, rfl, trivial⟩ (fun _ h => h.picks [0, 0, 0, 0, 0, 0] rfl)
    ·have hm := hk19
     refine lp rfl (p_mv rfl) ?_
     refine lp rfl (p_eql rfl rfl) ?_
     refine lp rfl (p_mv rfl) ?_
     obtain ⟨y20, hy20, hm⟩ := bindS hm
     refine r_callN [0, 3] cf32 rfl rfl (ok_concert_readLine b6 g12.1 g12.2 u11.2.2.2.2 u11.1 u11.2.1 u11.2.2.1 u11.2.2.2.1 ((i7 : Int) == 0) x8 hy20) rfl rfl (.cons (.ro 3 rfl) (.cons (.ro 2 rfl) .nil)) rfl (fun ⟨s21, xg22⟩ => ?_)
     refine r_pure (F := Lk N47 y20.2.1 xg22) (.ro 1 rfl) (fun _ h => h.1) (fun hLs21 => ?_)
     refine lp rfl (p_not rfl) ?_
     refine lp rfl (p_mv rfl) ?_
     refine lcase (i := 37) (!y20.1) rfl (fun hb => ?_) (fun hb => ?_)
     ·have hm := ifB_t hb hm
      refine ls false rfl rfl rfl rfl ?_
      refine ls false rfl rfl rfl rfl ?_
      refine ls false rfl rfl rfl rfl ?_
      refine lsu rfl rfl rfl rfl ?_
      refine lsu rfl rfl rfl rfl ?_
      refine lsu rfl rfl rfl rfl ?_
      refine lsu rfl rfl rfl rfl ?_
      refine lsu rfl rfl rfl rfl ?_
      refine ls false rfl rfl rfl rfl ?_
      refine lp rfl (p_pkt rfl rfl) ?_
      refine lj_nil ?_
      exact cnk19 _ _ (true, y20.2.2.1, y20.2.2.2.1, y20.2.2.2.2.1, y20.2.2.2.2.2, y20.2.1) (s21, xg22) (Option.some.inj hm).symm ⟨rfl, rfl, rfl, rfl, rfl, rfl, rfl, rfl, rfl, rfl, rfl, trivial⟩ (fun _ h => h.picks [2, 2, 2, 2, 0, 0] rfl)
     ·have hm := ifB_f hb hm
      refine lg false rfl rfl rfl ?_
      refine lp rfl (p_mv rfl) ?_
      refine lg false rfl rfl rfl ?_
      refine lp rfl (p_not rfl) ?_
      refine lg false rfl rfl rfl ?_
      refine lp rfl (p_mv rfl) ?_
      refine lcase (i := 40) (!y3.2) rfl (fun hb => ?_) (fun hb => ?_)
      ·have hm := ifB_t hb hm
       refine lg true rfl rfl rfl ?_
       refine lp rfl (p_mv rfl) ?_
       refine lg true rfl rfl rfl ?_
       refine lp rfl (p_mv rfl) ?_
       refine lg true rfl rfl rfl ?_
       refine lp rfl (p_len Tryz.underlying45 rfl (.row 3 rfl)) ?_
       refine lg true rfl rfl rfl ?_
       refine lp rfl (p_sub rfl rfl) ?_
       refine lg true rfl rfl rfl ?_
       refine lp rfl (p_eql rfl rfl) ?_
       refine lg false rfl rfl rfl ?_
       refine lp rfl (p_pkt rfl rfl) ?_
       refine lp rfl (p_pkf rfl rfl) ?_
       refine lj_nil ?_
       exact cnk19 _ _ ((i7 : Int) == (w64 ((y3.1.length : Int) - 1)), y20.2.2.1, y20.2.2.2.1, y20.2.2.2.2.1, y20.2.2.2.2.2, y20.2.1) (s21, xg22) (Option.some.inj hm).symm ⟨rfl, rfl, rfl, rfl, rfl, rfl, rfl, rfl, rfl, rfl, rfl, trivial⟩ (fun _ h => h.picks [2, 2, 2, 2, 0, 0] rfl)
      ·have hm := ifB_f hb hm
       refine ls true rfl rfl rfl rfl ?_
       refine ls true rfl rfl rfl rfl ?_
       refine ls true rfl rfl rfl rfl ?_
       refine ls true rfl rfl rfl rfl ?_
       refine ls true rfl rfl rfl rfl ?_
       refine lg false rfl rfl rfl ?_
       refine lp rfl (p_pkf rfl rfl) ?_
       refine lp rfl (p_pkf rfl rfl) ?_
       refine lj_nil ?_
       exact cnk19 _ _ (false, y20.2.2.1, y20.2.2.2.1, y20.2.2.2.2.1, y20.2.2.2.2.2, y20.2.1) (s21, xg22) (Option.some.inj hm).symm ⟨rfl, rfl, rfl, rfl, rfl, rfl, rfl, rfl, rfl, rfl, rfl, trivial⟩ (fun _ h => h.picks [2, 2, 2, 2, 0, 0] rfl)
theorem ok_stringslite_Index (a0 : ByteArray) (a1 : ByteArray) {r : Int} (hm : m_stringslite_Index a0 a1 = some r) :
  Ctr Tryz.prog 92 [.string a0, .string a1].toArray ([] : List Ent) [] (X := Unit) (fun _ => .int .i64 r) (fun _ => []) := by
 unfold m_stringslite_Index at hm
 refine ctr_mk (vs := [(0, .string a0), (1, .string a1)]) Tryz.func92 rfl Tryz.ntmps92 rfl ⟨rfl, rfl, trivial⟩ (fun w0 A => ?_)
 refine cj_seq ?_
 refine cj_reg ?_
 refine lp rfl (p_as rfl) ?_
 refine lj_seq ?_
 refine cj_seq ?_
 refine cj_reg ?_
 refine lp rfl (p_mv rfl) ?_
 refine lp rfl (p_lens Tryz.underlying9 rfl) ?_
 refine lp rfl (p_as rfl) ?_
 refine lj_seq ?_
 refine cj_seq ?_
 refine cj_blk ?_
 refine cj_seq ?_
 refine cj_reg ?_
 obtain ⟨k3, hk3, hm⟩ := bindS hm
 have hRk3 : ∀ t, k3 = .inr t → some t = some r := fun t e => by rw [e] at hm; exact hm
 refine lj_join (σ := Bool) (γ := Unit) (fun u1 => k3 = .inl u1) (fun u1 g2 => [(0, .string a0), (1, .string a1), (4, .int .i64 0), (5, .int .i64 (a1.size : Int)), (16, .bool u1)]) (fun u1 g2 => Sat w0 (keys ([] : List Ent)) A []) (fun u1 g2 hq => ?_) (fun J cnk3 => ?_)
 ·have hm := Sum.fin_l hq hm
  refine cj_if (b := u1) rfl (fun hb => ?_) (fun hb => ?_)
  ·have hm := ifB_t hb hm
   refine cj_seq ?_
   refine cj_reg ?_
   refine lp rfl (p_as rfl) ?_
   refine lj_seq ?_
   obtain rfl := Option.some.inj hm
   exact cj_rt () [] Tryz.results92 (.tmp rfl .nil) rfl rfl
  ·have hm := ifB_f hb hm
   refine cj_seq ?_
   refine cj_reg ?_
   refine lp rfl (p_mv rfl) ?_
   refine lp rfl (p_eql rfl rfl) ?_
   refine lp rfl (p_as rfl) ?_
   refine lj_seq ?_
   refine cj_if (b := (a1.size : Int) == 1) rfl (fun hb => ?_) (fun hb => ?_)
   ·have hm := ifB_t hb hm
    refine cj_seq ?_
    refine cj_reg ?_
    refine lp rfl (p_mv rfl) ?_
    refine lp rfl (p_mv rfl) ?_
    obtain ⟨c4, hc4, hm⟩ := bindS hm
    refine lp rfl (p_stri Tryz.underlying9 rfl rfl hc4) ?_
    obtain ⟨y5, hy5, hm⟩ := bindS hm
    refine r_call [] cf94 rfl rfl (ok_stringslite_IndexByte a0 c4 hy5) rfl rfl .nil (fun _ => rfl) rfl (fun _ => ?_)
    refine lp rfl (p_as rfl) ?_
    refine lj_seq ?_
    obtain rfl := Option.some.inj hm
    exact cj_rt () [] Tryz.results92 (.tmp rfl .nil) rfl rfl
   ·have hm := ifB_f hb hm
    refine cj_seq ?_
    refine cj_reg ?_
    refine lp rfl (p_mv rfl) ?_
    refine lp rfl (p_mv rfl) ?_
    refine lp rfl (p_lens Tryz.underlying9 rfl) ?_
    refine lp rfl (p_geq rfl rfl) ?_
    refine lp rfl (p_as rfl) ?_
    refine lj_seq ?_
    refine cj_if (b := decide ((a1.size : Int) ≥ (a0.size : Int))) rfl (fun hb => ?_) (fun hb => ?_)
    ·have hm := ifB_t hb hm
     refine cj_seq ?_
     refine cj_reg ?_
     refine lp rfl (p_as rfl) ?_
     refine lj_seq ?_
     obtain rfl := Option.some.inj hm
     exact cj_rt () [] Tryz.results92 (.tmp rfl .nil) rfl rfl
    ·have hm := ifB_f hb hm
     refine cj_seq ?_
     refine cj_reg ?_
     refine lp rfl (p_mv rfl) ?_
     cases hm
 ·have hm := hk3
  refine lp rfl (p_mv rfl) ?_
  refine lp rfl (p_eql rfl rfl) ?_
  refine lp rfl (p_mv rfl) ?_
  refine lcase (i := 19) ((a1.size : Int) == 0) rfl (fun hb => ?_) (fun hb => ?_)
  ·have hm := ifB_t hb hm
   refine ls false rfl rfl rfl rfl ?_
   refine ls false rfl rfl rfl rfl ?_
   refine ls false rfl rfl rfl rfl ?_
   refine lp rfl (p_pkt rfl rfl) ?_
   refine lp rfl (p_as rfl) ?_
   refine lj_nil ?_
   exact cnk3 _ _ true () (Option.some.inj hm).symm ⟨rfl, rfl, rfl, rfl, rfl, trivial⟩ (fun _ h => h.picks [] rfl)
  ·have hm := ifB_f hb hm
   refine lg false rfl rfl rfl ?_
   refine lp rfl (p_mv rfl) ?_
   refine lg false rfl rfl rfl ?_
   refine lp rfl (p_mv rfl) ?_
   refine lg false rfl rfl rfl ?_
   refine lp rfl (p_eqs rfl rfl) ?_
   refine lp rfl (p_pkf rfl rfl) ?_
   refine lp rfl (p_as rfl) ?_
   refine lj_nil ?_
   exact cnk3 _ _ (a1.toList == a0.toList) () (Option.some.inj hm).symm ⟨rfl, rfl, rfl, rfl, rfl, trivial⟩ (fun _ h => h.picks [] rfl)
theorem ok_stringslite_Cut (a0 : ByteArray) (a1 : ByteArray) {r : ByteArray × ByteArray × Bool} (hm : m_stringslite_Cut a0 a1 = some r) :
  Ctr Tryz.prog 75 [.string a0, .string a1].toArray ([] : List Ent) [] (X := Unit) (fun _ => .tuple [.string r.1, .string r.2.1, .bool r.2.2].toArray) (fun _ => []) := by
 unfold m_stringslite_Cut at hm
 refine ctr_mk (vs := [(0, .string a0), (1, .string a1)]) Tryz.func75 rfl Tryz.ntmps75 rfl ⟨rfl, rfl, trivial⟩ (fun w0 A => ?_)
 refine cj_seq ?_
 refine cj_reg ?_
 refine lp rfl (p_as rfl) ?_
 refine lp rfl (p_as rfl) ?_
 refine lp rfl (p_as rfl) ?_
 refine lj_seq ?_
 refine cj_seq ?_
 refine cj_seq ?_
 refine cj_reg ?_
 refine lp rfl (p_mv rfl) ?_
 refine lp rfl (p_mv rfl) ?_
 obtain ⟨y1, hy1, hm⟩ := bindS hm
 refine r_call [] cf92 rfl rfl (ok_stringslite_Index a0 a1 hy1) rfl rfl .nil (fun _ => rfl) rfl (fun _ => ?_)
 refine lp rfl (p_as rfl) ?_
 refine lj_seq ?_
 refine cj_seq ?_
 refine cj_reg ?_
 refine lp rfl (p_mv rfl) ?_
 refine lp rfl (p_geq rfl rfl) ?_
 refine lj_seq ?_
 refine cj_if (b := decide (y1 ≥ 0)) rfl (fun hb => ?_) (fun hb => ?_)
 ·have hm := ifB_t hb hm
  refine cj_seq ?_
  refine cj_quiet (by kernel_rfl) (by kernel_rfl) ?_
  refine q_p rfl (p_mv rfl) ?_
  refine q_p rfl (p_mv rfl) ?_
  obtain ⟨c2, hc2, hm⟩ := bindS hm
  refine q_p rfl (p_strs Tryz.underlying9 rfl rfl rfl rfl rfl rfl rfl hc2) ?_
  refine q_p rfl (p_mv rfl) ?_
  refine q_p rfl (p_mv rfl) ?_
  refine q_p rfl (p_mv rfl) ?_
  refine q_p rfl (p_lens Tryz.underlying9 rfl) ?_
  refine q_p rfl (p_add rfl rfl) ?_
  obtain ⟨c3, hc3, hm⟩ := bindS hm
  refine q_p rfl (p_strs Tryz.underlying9 rfl rfl rfl rfl rfl rfl rfl hc3) ?_
  refine q_p rfl (p_as rfl) ?_
  refine q_p rfl (p_as rfl) ?_
  refine q_p rfl (p_as rfl) ?_
  refine q_nil ?_
  refine nj_seq ?_
  obtain rfl := Option.some.inj hm
  exact cj_rt () [] Tryz.results75 (.tmp rfl (.tmp rfl (.tmp rfl .nil))) rfl rfl
 ·have hm := ifB_f hb hm
  refine cj_skip ?_
  refine nj_seq ?_
  refine cj_seq ?_
  refine cj_reg ?_
  refine lp rfl (p_mv rfl) ?_
  refine lp rfl (p_as rfl) ?_
  refine lp rfl (p_as rfl) ?_
  refine lp rfl (p_as rfl) ?_
  refine lj_seq ?_
  obtain rfl := Option.some.inj hm
  exact cj_rt () [] Tryz.results75 (.tmp rfl (.tmp rfl (.tmp rfl .nil))) rfl rfl
theorem ok_strings_Cut (a0 : ByteArray) (a1 : ByteArray) {r : ByteArray × ByteArray × Bool} (hm : m_strings_Cut a0 a1 = some r) :
  Ctr Tryz.prog 56 [.string a0, .string a1].toArray ([] : List Ent) [] (X := Unit) (fun _ => .tuple [.string r.1, .string r.2.1, .bool r.2.2].toArray) (fun _ => []) := by
 unfold m_strings_Cut at hm
 refine ctr_mk (vs := [(0, .string a0), (1, .string a1)]) Tryz.func56 rfl Tryz.ntmps56 rfl ⟨rfl, rfl, trivial⟩ (fun w0 A => ?_)
 refine cj_seq ?_
 refine cj_reg ?_
 refine lp rfl (p_as rfl) ?_
 refine lp rfl (p_as rfl) ?_
 refine lp rfl (p_as rfl) ?_
 refine lj_seq ?_
 refine cj_seq ?_
 refine cj_reg ?_
 refine lp rfl (p_mv rfl) ?_
 refine lp rfl (p_mv rfl) ?_
 obtain ⟨y1, hy1, hm⟩ := bindS hm
 refine r_call [] cf75 rfl rfl (ok_stringslite_Cut a0 a1 hy1) rfl rfl .nil (fun _ => rfl) rfl (fun _ => ?_)
 refine lp rfl (p_ext rfl rfl) ?_
 refine lp rfl (p_ext rfl rfl) ?_
 refine lp rfl (p_ext rfl rfl) ?_
 refine lp rfl (p_as rfl) ?_
 refine lp rfl (p_as rfl) ?_
 refine lp rfl (p_as rfl) ?_
 refine lj_seq ?_
 obtain rfl := Option.some.inj hm
 exact cj_rt () [] Tryz.results56 (.tmp rfl (.tmp rfl (.tmp rfl .nil))) rfl rfl
theorem ok_gleeref2_Words (a0 : ByteArray) {r : (List ByteArray) × Bool} (hm : m_gleeref2_Words a0 = some r) :
  Ctr Tryz.prog 35 [.string a0].toArray ([] : List Ent) [MaxT] (X := SV) (fun s => .tuple [s.v, .bool r.2].toArray) (fun s => [.row R9 (SV.v s) r.1]) := by
 unfold m_gleeref2_Words at hm
 refine ctr_mk (vs := [(0, .string a0)]) Tryz.func35 rfl Tryz.ntmps35 rfl ⟨rfl, trivial⟩ (fun w0 A => ?_)
 refine cj_seq ?_
 refine cj_reg ?_
 refine lp rfl (p_as rfl) ?_
 refine lp rfl (p_as rfl) ?_
 refine lj_seq ?_
 refine cj_seq ?_
 refine cj_reg ?_
 refine lp rfl (p_mv rfl) ?_
 obtain ⟨y1, hy1, hm⟩ := bindS hm
 refine r_call [] cf38 rfl rfl (ok_strings_Split a0 (ByteArray.mk [32].toArray) hy1) rfl rfl (.cons (.ro 0 rfl) .nil) (fun _ => rfl) rfl (fun s2 => ?_)
 refine lp rfl (p_as rfl) ?_
 refine lj_seq ?_
 refine cj_seq ?_
 refine cj_reg ?_
 refine lp rfl (p_mv rfl) ?_
 refine lp rfl (p_mv rfl) ?_
 obtain ⟨y3, hy3, hm⟩ := bindS hm
 refine r_call [] cf39 rfl rfl (ok_slices_Contains_string_string s2 y1 ByteArray.empty hy3) rfl rfl (.cons (.row 0 rfl) .nil) (fun _ => rfl) rfl (fun _ => ?_)
 refine lp rfl (p_not rfl) ?_
 refine lp rfl (p_as rfl) ?_
 refine lp rfl (p_as rfl) ?_
 refine lj_seq ?_
 obtain rfl := Option.some.inj hm
 exact cj_rt s2 [0] Tryz.results35 (.tmp rfl (.tmp rfl .nil)) rfl rfl
theorem ok_stringslite_TrimPrefix (a0 : ByteArray) (a1 : ByteArray) {r : ByteArray} (hm : m_stringslite_TrimPrefix a0 a1 = some r) :
  Ctr Tryz.prog 76 [.string a0, .string a1].toArray ([] : List Ent) [] (X := Unit) (fun _ => .string r) (fun _ => []) := by
 unfold m_stringslite_TrimPrefix at hm
 refine ctr_mk (vs := [(0, .string a0), (1, .string a1)]) Tryz.func76 rfl Tryz.ntmps76 rfl ⟨rfl, rfl, trivial⟩ (fun w0 A => ?_)
 refine cj_seq ?_
 refine cj_reg ?_
 refine lp rfl (p_as rfl) ?_
 refine lj_seq ?_
 refine cj_seq ?_
 refine cj_seq ?_
 refine cj_reg ?_
 refine lp rfl (p_mv rfl) ?_
 refine lp rfl (p_mv rfl) ?_
 obtain ⟨y1, hy1, hm⟩ := bindS hm
 refine r_call [] cf93 rfl rfl (ok_stringslite_HasPrefix a0 a1 hy1) rfl rfl .nil (fun _ => rfl) rfl (fun _ => ?_)
 refine lj_seq ?_
 refine cj_if (b := y1) rfl (fun hb => ?_) (fun hb => ?_)
 ·have hm := ifB_t hb hm
  refine cj_seq ?_
  refine cj_reg ?_
  refine lp rfl (p_mv rfl) ?_
  refine lp rfl (p_mv rfl) ?_
  refine lp rfl (p_lens Tryz.underlying9 rfl) ?_
  obtain ⟨c2, hc2, hm⟩ := bindS hm
  refine lp rfl (p_strs Tryz.underlying9 rfl rfl rfl rfl rfl rfl rfl hc2) ?_
  refine lp rfl (p_as rfl) ?_
  refine lj_seq ?_
  obtain rfl := Option.some.inj hm
  exact cj_rt () [] Tryz.results76 (.tmp rfl .nil) rfl rfl
 ·have hm := ifB_f hb hm
  refine cj_skip ?_
  refine nj_seq ?_
  refine cj_seq ?_
  refine cj_reg ?_
  refine lp rfl (p_mv rfl) ?_
  refine lp rfl (p_as rfl) ?_
  refine lj_seq ?_
  obtain rfl := Option.some.inj hm
  exact cj_rt () [] Tryz.results76 (.tmp rfl .nil) rfl rfl
theorem ok_strings_TrimPrefix (a0 : ByteArray) (a1 : ByteArray) {r : ByteArray} (hm : m_strings_TrimPrefix a0 a1 = some r) :
  Ctr Tryz.prog 57 [.string a0, .string a1].toArray ([] : List Ent) [] (X := Unit) (fun _ => .string r) (fun _ => []) := by
 unfold m_strings_TrimPrefix at hm
 refine ctr_mk (vs := [(0, .string a0), (1, .string a1)]) Tryz.func57 rfl Tryz.ntmps57 rfl ⟨rfl, rfl, trivial⟩ (fun w0 A => ?_)
 refine cj_seq ?_
 refine cj_reg ?_
 refine lp rfl (p_as rfl) ?_
 refine lj_seq ?_
 refine cj_seq ?_
 refine cj_reg ?_
 refine lp rfl (p_mv rfl) ?_
 refine lp rfl (p_mv rfl) ?_
 obtain ⟨y1, hy1, hm⟩ := bindS hm
 refine r_call [] cf76 rfl rfl (ok_stringslite_TrimPrefix a0 a1 hy1) rfl rfl .nil (fun _ => rfl) rfl (fun _ => ?_)
 refine lp rfl (p_as rfl) ?_
 refine lj_seq ?_
 obtain rfl := Option.some.inj hm
 exact cj_rt () [] Tryz.results57 (.tmp rfl .nil) rfl rfl
theorem ok_gleeref2_Number (a0 : ByteArray) (a1 : Int) {r : Int × Bool} (hm : m_gleeref2_Number a0 a1 = some r) :
  Ctr Tryz.prog 37 [.string a0, .int .i64 a1].toArray ([] : List Ent) [PowT] (X := Unit) (fun _ => .tuple [.int .i64 r.1, .bool r.2].toArray) (fun _ => []) := by
 unfold m_gleeref2_Number at hm
 refine ctr_mk (vs := [(0, .string a0), (1, .int .i64 a1)]) Tryz.func37 rfl Tryz.ntmps37 rfl ⟨rfl, rfl, trivial⟩ (fun w0 A => ?_)
 refine cj_seq ?_
 refine cj_reg ?_
 refine lp rfl (p_as rfl) ?_
 refine lp rfl (p_as rfl) ?_
 refine lj_seq ?_
 refine cj_seq ?_
 refine cj_reg ?_
 refine lp rfl (p_mv rfl) ?_
 obtain ⟨y1, hy1, hm⟩ := bindS hm
 refine r_call [] cf57 rfl rfl (ok_strings_TrimPrefix a0 (ByteArray.mk [45].toArray) hy1) rfl rfl .nil (fun _ => rfl) rfl (fun _ => ?_)
 refine lp rfl (p_as rfl) ?_
 refine lj_seq ?_
 refine cj_seq ?_
 refine cj_seq ?_
 refine cj_reg ?_
 obtain ⟨k4, hk4, hm⟩ := bindS hm
 have hRk4 : ∀ t, k4 = .inr t → some t = some r := fun t e => by rw [e] at hm; exact hm
 refine lj_join (σ := Bool) (γ := Unit) (fun u2 => k4 = .inl u2) (fun u2 g3 => [(0, .string a0), (4, .int .i64 0), (5, .bool false), (23, .bool u2)]) (fun u2 g3 => Sat w0 (keys ([] : List Ent)) A [.ro PowT]) (fun u2 g3 hq => ?_) (fun J cnk4 => ?_)
 ·have hm := Sum.fin_l hq hm
  refine cj_if (b := u2) rfl (fun hb => ?_) (fun hb => ?_)
  ·have hm := ifB_t hb hm
   refine cj_seq ?_
   refine cj_reg ?_
   refine lp rfl (p_as rfl) ?_
   refine lp rfl (p_as rfl) ?_
   refine lj_seq ?_
   obtain rfl := Option.some.inj hm
   exact cj_rt () [] Tryz.results37 (.tmp rfl (.tmp rfl .nil)) rfl rfl
  ·have hm := ifB_f hb hm
   refine cj_skip ?_
   refine nj_seq ?_
   refine cj_seq ?_
   refine cj_reg ?_
   refine lp rfl (p_mv rfl) ?_
   obtain ⟨y6, hy6, hm⟩ := bindS hm
   refine r_call [] cf59 rfl rfl (ok_strconv_Atoi a0 hy6) rfl rfl .nil (fun _ => rfl) rfl (fun _ => ?_)
   refine lp rfl (p_mv rfl) ?_
   refine lp rfl (p_ext rfl rfl) ?_
   refine lp rfl (p_ext rfl rfl) ?_
   refine lp rfl (p_as rfl) ?_
   refine lp rfl (p_as rfl) ?_
   refine lj_seq ?_
   refine cj_seq ?_
   refine cj_reg ?_
   refine lp rfl (p_mv rfl) ?_
   refine lp rfl (p_mv rfl) ?_
   refine lp rfl (p_eqni Tryz.underlying57 (by kernel_rfl) rfl) ?_
   refine lp rfl (p_mv rfl) ?_
   refine lg true rfl rfl rfl ?_
   refine lp rfl (p_mv rfl) ?_
   refine lg true rfl rfl rfl ?_
   obtain ⟨y7, hy7, hm⟩ := bindS hm
   refine r_call [] cf24 rfl rfl (ok_strconv_Itoa y6.1 hy7) rfl rfl (.cons (.ro 0 rfl) .nil) (fun _ => rfl) rfl (fun _ => ?_)
   refine lg true rfl rfl rfl ?_
   refine lp rfl (p_mv rfl) ?_
   refine lg true rfl rfl rfl ?_
   refine lp rfl (p_eqs rfl rfl) ?_
   refine lp rfl (p_pkt rfl rfl) ?_
   refine lp rfl (p_as rfl) ?_
   refine lp rfl (p_as rfl) ?_
   refine lj_seq ?_
   obtain rfl := Option.some.inj hm
   exact cj_rt () [] Tryz.results37 (.tmp rfl (.tmp rfl .nil)) rfl rfl
 ·have hm := hk4
  refine lp rfl (p_mv rfl) ?_
  refine lp rfl (p_eqs rfl rfl) ?_
  refine lp rfl (p_mv rfl) ?_
  refine lcase (i := 13) (y1.toList == ByteArray.empty.toList) rfl (fun hb => ?_) (fun hb => ?_)
  ·have hm := ifB_t hb hm
   refine ls false rfl rfl rfl rfl ?_
   refine ls false rfl rfl rfl rfl ?_
   refine ls false rfl rfl rfl rfl ?_
   refine ls false rfl rfl rfl rfl ?_
   refine lp rfl (p_pkt rfl rfl) ?_
   refine lp rfl (p_mv rfl) ?_
   refine ls false rfl rfl rfl rfl ?_
   refine ls false rfl rfl rfl rfl ?_
   refine ls false rfl rfl rfl rfl ?_
   refine lp rfl (p_pkt rfl rfl) ?_
   refine lj_nil ?_
   exact cnk4 _ _ true () (Option.some.inj hm).symm ⟨rfl, rfl, rfl, rfl, trivial⟩ (fun _ h => h.picks [0] rfl)
  ·have hm := ifB_f hb hm
   refine lg false rfl rfl rfl ?_
   refine lp rfl (p_mv rfl) ?_
   refine lg false rfl rfl rfl ?_
   refine lp rfl (p_lens Tryz.underlying9 rfl) ?_
   refine lg false rfl rfl rfl ?_
   refine lp rfl (p_mv rfl) ?_
   refine lg false rfl rfl rfl ?_
   refine lp rfl (p_gtr rfl rfl) ?_
   refine lp rfl (p_pkf rfl rfl) ?_
   refine lp rfl (p_mv rfl) ?_
   refine lcase (i := 19) (decide ((y1.size : Int) > a1)) rfl (fun hb => ?_) (fun hb => ?_)
   ·have hm := ifB_t hb hm
    refine ls false rfl rfl rfl rfl ?_
    refine ls false rfl rfl rfl rfl ?_
    refine ls false rfl rfl rfl rfl ?_
    refine lp rfl (p_pkt rfl rfl) ?_
    refine lj_nil ?_
    exact cnk4 _ _ true () (Option.some.inj hm).symm ⟨rfl, rfl, rfl, rfl, trivial⟩ (fun _ h => h.picks [0] rfl)
   ·have hm := ifB_f hb hm
    refine lg false rfl rfl rfl ?_
    refine lp rfl (p_mv rfl) ?_
    refine lg false rfl rfl rfl ?_
    obtain ⟨y5, hy5, hm⟩ := bindS hm
    refine r_call [] cf58 rfl rfl (ok_gleeref2_only y1 (ByteArray.mk [48, 49, 50, 51, 52, 53, 54, 55, 56, 57].toArray) hy5) rfl rfl .nil (fun _ => rfl) rfl (fun _ => ?_)
    refine lg false rfl rfl rfl ?_
    refine lp rfl (p_not rfl) ?_
    refine lp rfl (p_pkf rfl rfl) ?_
    refine lj_nil ?_
    exact cnk4 _ _ (!y5) () (Option.some.inj hm).symm ⟨rfl, rfl, rfl, rfl, trivial⟩ (fun _ h => h.picks [0] rfl)
theorem ok_gleeref2_NumbersIn (s0_ : SV) (a0 : (List ByteArray)) (a1 : Int) {r : (List Int) × Bool} (hm : m_gleeref2_NumbersIn a0 a1 = some r) :
  Ctr Tryz.prog 36 [s0_.v, .int .i64 a1].toArray ([] : List Ent) [RdS R9 (SV.v s0_) a0, PowT] (X := SV) (fun s => .tuple [s.v, .bool r.2].toArray) (fun s => [.row R3 (SV.v s) r.1]) := by
 unfold m_gleeref2_NumbersIn at hm
 refine ctr_mk (vs := [(0, s0_.v), (1, .int .i64 a1)]) Tryz.func36 rfl Tryz.ntmps36 rfl ⟨rfl, rfl, trivial⟩ (fun w0 A => ?_)
 refine cj_seq ?_
 refine cj_reg ?_
 refine lp rfl (p_as rfl) ?_
 refine lp rfl (p_as rfl) ?_
 refine lj_seq ?_
 refine cj_seq ?_
 refine cj_reg ?_
 refine lp rfl (p_as rfl) ?_
 refine lj_seq ?_
 refine cj_seq ?_
 refine cj_reg ?_
 refine lp rfl (p_as rfl) ?_
 refine lj_seq ?_
 refine cj_seq ?_
 refine cj_seq ?_
 refine cj_reg ?_
 refine lp rfl (p_mv rfl) ?_
 refine lp rfl (p_len Tryz.underlying45 rfl (.ro 0 rfl)) ?_
 refine lp rfl (p_mv rfl) ?_
 refine lj_seq ?_
 refine cj_nil R3 ?_
 obtain ⟨f8, hf8, hm⟩ := bindS hm
 refine cj_range (γ := SV) (m := (a0.length : Int)) hf8 nilS (fun u5 g6 => [(1, .int .i64 a1), (4, .slice none 0 0), (5, .bool false), (6, g6.v), (7, .bool u5.1), (12, s0_.v)]) (fun u5 g6 => Sat w0 (keys ([] : List Ent)) A [.ro (RdS R9 (SV.v s0_) a0), .ro PowT, .row R3 (SV.v g6) u5.2]) ⟨rfl, rfl, rfl, rfl, rfl, rfl, rfl, rfl, trivial⟩ (fun _ h => h.picks [1, 1, 0] rfl) (nat_lt _) (fun _ h => (FactAt.get (F := RdS R9 (SV.v s0_) a0) (.ro 1 rfl) h).1) (fun _ _ => ⟨rfl, rfl, rfl, rfl⟩) ⟨rfl, rfl, rfl, rfl, rfl⟩ rfl rfl rfl (fun u5 g6 e => ?_) (fun aftk7 i1 x2 u5 g6 k7 hx3 hs J hJk7 hBk7 hX I cnk7 => ?_)
 ·have hm := Flow.fin_b e hm
  refine nj_seq ?_
  refine cj_seq ?_
  refine cj_reg ?_
  refine lp rfl (p_mv rfl) ?_
  refine lp rfl (p_mv rfl) ?_
  refine lp rfl (p_as rfl) ?_
  refine lp rfl (p_as rfl) ?_
  refine lj_seq ?_
  obtain rfl := Option.some.inj hm
  exact cj_rt g6 [2] Tryz.results36 (.tmp rfl (.tmp rfl .nil)) rfl rfl
 ·have hRk7 : ∀ t, k7 = .ret t → some t = some r := fun t e => by rw [hX t e] at hm; exact hm
  have hm := hs
  refine cj_seq ?_
  refine cj_reg ?_
  refine lp rfl (p_idx Tryz.underlying45 ty9 rfl rfl (.ro 0 rfl) (getI_nat.trans hx3)) ?_
  refine lp rfl (p_lde (o := 0) ty9 rfl rfl (.ro 0 rfl) hx3 rfl) ?_
  refine lp rfl (p_as rfl) ?_
  refine lj_seq ?_
  refine cj_seq ?_
  refine cj_reg ?_
  refine lp rfl (p_mv rfl) ?_
  refine lp rfl (p_mv rfl) ?_
  obtain ⟨y10, hy10, hm⟩ := bindS hm
  refine r_call [] cf37 rfl rfl (ok_gleeref2_Number x2 a1 hy10) rfl rfl (.cons (.ro 1 rfl) .nil) (fun _ => rfl) rfl (fun _ => ?_)
  refine lp rfl (p_mv rfl) ?_
  refine lp rfl (p_ext rfl rfl) ?_
  refine lp rfl (p_ext rfl rfl) ?_
  refine lp rfl (p_as rfl) ?_
  refine lp rfl (p_as rfl) ?_
  refine lj_seq ?_
  refine cj_reg ?_
  refine lp rfl (p_mv rfl) ?_
  refine lp rfl (p_mv rfl) ?_
  refine r_bs R3 [y10.1] rfl rfl rfl (fun _ => by kernel_rfl) rfl (fun s11 => ?_)
  obtain ⟨q12, hq12, hm⟩ := bindS hm
  refine r_app (k := 3) Tryz.underlying22 ty3 rfl rfl rfl rfl (.row 0 rfl) hq12 rfl (fun s13 => ?_)
  refine lp rfl (p_mv rfl) ?_
  refine lp rfl (p_mv rfl) ?_
  refine lcase (i := 29) u5.1 rfl (fun hb => ?_) (fun hb => ?_)
  ·have hm := ifB_t hb hm
   refine lg true rfl rfl rfl ?_
   refine lp rfl (p_mv rfl) ?_
   refine lp rfl (p_pkt rfl rfl) ?_
   refine lp rfl (p_as rfl) ?_
   refine lp rfl (p_as rfl) ?_
   refine lj_nil ?_
   refine nj_blk ?_
   exact cnk7 _ _ (y10.2, q12) s13 (hJk7 _ (Option.some.inj hm).symm) ⟨rfl, rfl, rfl, rfl, rfl, rfl, rfl, rfl, trivial⟩ (fun _ h => h.picks [1, 1, 1] rfl)
  ·have hm := ifB_f hb hm
   refine ls true rfl rfl rfl rfl ?_
   refine lp rfl (p_pkf rfl rfl) ?_
   refine lp rfl (p_as rfl) ?_
   refine lp rfl (p_as rfl) ?_
   refine lj_nil ?_
   refine nj_blk ?_
   exact cnk7 _ _ (false, q12) s13 (hJk7 _ (Option.some.inj hm).symm) ⟨rfl, rfl, rfl, rfl, rfl, rfl, rfl, rfl, trivial⟩ (fun _ h => h.picks [1, 1, 1] rfl)
theorem ok_gleeref2_ProgramRead_1 (a0 : ByteArray) (b1_ : Nat) (a1_0 : Bool) (b2_ : Nat) (s2_0_ : SV) (xg2_0_ : List (TItem × SV)) (a2_0 : (List TItem)) (a2_1 : Int) (a2_2 : Int) (a2_3 : Int) (a2_4 : Int) {r : Bool × Bool × (List TItem) × Int × Int × Int × Int} (hm : m_gleeref2_ProgramRead_1 a0 a1_0 a2_0 a2_1 a2_2 a2_3 a2_4 = some r) :
  Ctr Tryz.prog 34 [.string a0, .pointer (some ⟨b1_, 0, none⟩), .pointer (some ⟨b2_, 0, none⟩)].toArray [.box b1_ 4 [.bool a1_0], .box b2_ 28 [s2_0_.v, .int .i64 a2_1, .int .i64 a2_2, .int .i64 a2_3, .int .i64 a2_4], .row N47.R (SV.v s2_0_) xg2_0_] [Lk N47 a2_0 xg2_0_, MaxT, PowT] (X := (SV × List (TItem × SV))) (fun s => .bool r.1) (fun s => [.row N47.R (SV.v s.1) s.2, .ro (Lk N47 r.2.2.1 s.2), .box b1_ 4 [.bool r.2.1], .box b2_ 28 [s.1.v, .int .i64 r.2.2.2.1, .int .i64 r.2.2.2.2.1, .int .i64 r.2.2.2.2.2.1, .int .i64 r.2.2.2.2.2.2]]) := by
 unfold m_gleeref2_ProgramRead_1 at hm
 refine ctr_mk (vs := [(0, .string a0), (1, .pointer (some ⟨b1_, 0, none⟩)), (2, .pointer (some ⟨b2_, 0, none⟩))]) Tryz.func34 rfl Tryz.ntmps34 rfl ⟨rfl, rfl, rfl, trivial⟩ (fun w0 A => ?_)
 refine cj_pure (F := Lk N47 a2_0 xg2_0_) (.ro 3 rfl) (fun _ h => h.1) (fun hL2_0_ => ?_)
 refine cj_seq ?_
 refine cj_reg ?_
 refine lp rfl (p_as rfl) ?_
 refine lj_seq ?_
 refine cj_seq ?_
 refine cj_reg ?_
 refine lp rfl (p_mv rfl) ?_
 obtain ⟨y1, hy1, hm⟩ := bindS hm
 refine r_call [] cf35 rfl rfl (ok_gleeref2_Words a0 hy1) rfl rfl (.cons (.ro 4 rfl) .nil) (fun _ => rfl) rfl (fun s2 => ?_)
 refine lp rfl (p_mv rfl) ?_
 refine lp rfl (p_ext rfl rfl) ?_
 refine lp rfl (p_ext rfl rfl) ?_
 refine lp rfl (p_as rfl) ?_
 refine lp rfl (p_as rfl) ?_
 refine lj_seq ?_
 refine cj_seq ?_
 refine cj_seq ?_
 refine cj_reg ?_
 obtain ⟨k5, hk5, hm⟩ := bindS hm
 have hRk5 : ∀ t, k5 = .inr t → some t = some r := fun t e => by rw [e] at hm; exact hm
 refine lj_join (σ := Bool) (γ := Unit) (fun u3 => k5 = .inl u3) (fun u3 g4 => [(1, .pointer (some ⟨b1_, 0, none⟩)), (2, .pointer (some ⟨b2_, 0, none⟩)), (4, .bool false), (5, s2.v), (23, .bool u3)]) (fun u3 g4 => Sat w0 (keys [.box b1_ 4 [.bool a1_0], .box b2_ 28 [s2_0_.v, .int .i64 a2_1, .int .i64 a2_2, .int .i64 a2_3, .int .i64 a2_4], .row N47.R (SV.v s2_0_) xg2_0_]) A [.row R9 (SV.v s2) y1.1, .box b1_ 4 [.bool a1_0], .box b2_ 28 [s2_0_.v, .int .i64 a2_1, .int .i64 a2_2, .int .i64 a2_3, .int .i64 a2_4], .row N47.R (SV.v s2_0_) xg2_0_, .ro (Lk N47 a2_0 xg2_0_), .ro MaxT, .ro PowT]) (fun u3 g4 hq => ?_) (fun J cnk5 => ?_)
 ·have hm := Sum.fin_l hq hm
  refine cj_if (b := u3) rfl (fun hb => ?_) (fun hb => ?_)
  ·have hm := ifB_t hb hm
   refine cj_seq ?_
   refine cj_reg ?_
   refine lp rfl (p_as rfl) ?_
   refine lj_seq ?_
   obtain rfl := Option.some.inj hm
   exact cj_rt (s2_0_, xg2_0_) [3, 3, 1, 1] Tryz.results34 (.tmp rfl .nil) rfl rfl
  ·have hm := ifB_f hb hm
   refine cj_skip ?_
   refine nj_seq ?_
   refine cj_seq ?_
   refine cj_seq ?_
   refine cj_reg ?_
   refine lp rfl (p_lbs ty4 rfl (j := 1) rfl rfl) ?_
   refine lj_seq ?_
   refine cj_if (b := a1_0) rfl (fun hb => ?_) (fun hb => ?_)
   ·have hm := ifB_t hb hm
    refine cj_seq ?_
    refine cj_reg ?_
    refine r_sb (vs := [.bool false]) (j := 1) ty4 rfl rfl rfl rfl rfl rfl rfl ?_
    refine lj_seq ?_
    refine cj_seq ?_
    refine cj_reg ?_
    refine lp rfl (p_mv rfl) ?_
    obtain ⟨y6, hy6, hm⟩ := bindS hm
    refine r_call [] cf36 rfl rfl (ok_gleeref2_NumbersIn s2 y1.1 15 hy6) rfl rfl (.cons (.row 0 rfl) (.cons (.ro 6 rfl) .nil)) (fun _ => rfl) rfl (fun s7 => ?_)
    refine lp rfl (p_mv rfl) ?_
    refine lp rfl (p_ext rfl rfl) ?_
    refine lp rfl (p_ext rfl rfl) ?_
    refine lp rfl (p_as rfl) ?_
    refine lp rfl (p_as rfl) ?_
    refine lj_seq ?_
    refine cj_seq ?_
    obtain ⟨e8, he8, hm⟩ := bindS hm
    obtain ⟨e9, he9, hm⟩ := bindS hm
    obtain ⟨e10, he10, hm⟩ := bindS hm
    obtain ⟨e11, he11, hm⟩ := bindS hm
    refine cj_anyT [0, 1, 2, 3, 4, 5, 6, 7, 8, 9, 10, 11, 12, 14, 16, 18] [13, 14, 15, 16, 17, 18, 19] (Sat w0 (keys [.box b1_ 4 [.bool a1_0], .box b2_ 28 [s2_0_.v, .int .i64 a2_1, .int .i64 a2_2, .int .i64 a2_3, .int .i64 a2_4], .row N47.R (SV.v s2_0_) xg2_0_]) A [.row R3 (SV.v s7) y6.1, .row R9 (SV.v s2) y1.1, .box b1_ 4 [.bool false], .box b2_ 28 [s2_0_.v, .int .i64 a2_1, .int .i64 a2_2, .int .i64 a2_3, .int .i64 a2_4], .row N47.R (SV.v s2_0_) xg2_0_, .ro (Lk N47 a2_0 xg2_0_), .ro MaxT, .ro PowT]) (Sat w0 (keys [.box b1_ 4 [.bool a1_0], .box b2_ 28 [s2_0_.v, .int .i64 a2_1, .int .i64 a2_2, .int .i64 a2_3, .int .i64 a2_4], .row N47.R (SV.v s2_0_) xg2_0_]) A [.row R3 (SV.v s7) y6.1, .row R9 (SV.v s2) y1.1, .box b1_ 4 [.bool false], .row N47.R (SV.v s2_0_) xg2_0_, .ro (Lk N47 a2_0 xg2_0_), .ro MaxT, .ro PowT]) (by kernel_rfl) ?_
    refine at_take2 0 rfl (by kernel_rfl) (by kernel_rfl) (by kernel_rfl) (fun _ h => h.picks [0, 0, 0, 1, 1, 1, 1] rfl) rfl rfl (p_mv rfl) (fun _ h => h.picks [0, 0, 0, 1, 1, 1, 1] rfl) ?_
    refine at_take2 1 rfl (by kernel_rfl) (by kernel_rfl) (by kernel_rfl) (fun _ h => h.picks [0, 0, 0, 1, 1, 1, 1] rfl) rfl rfl (p_idx Tryz.underlying22 ty3 rfl rfl (.row 0 rfl) he8) (fun _ h => h.picks [0, 0, 0, 1, 1, 1, 1] rfl) ?_
    refine at_take2 2 rfl (by kernel_rfl) (by kernel_rfl) (by kernel_rfl) (fun _ h => h.picks [0, 0, 0, 1, 1, 1, 1] rfl) rfl rfl (p_lde (o := 0) ty3 rfl rfl (.row 0 rfl) (getI_spec he8).2 rfl) (fun _ h => h.picks [0, 0, 0, 1, 1, 1, 1] rfl) ?_
    refine at_take2 3 rfl (by kernel_rfl) (by kernel_rfl) (by kernel_rfl) (fun _ h => h.picks [0, 0, 0, 1, 1, 1, 1] rfl) rfl rfl (p_mv rfl) (fun _ h => h.picks [0, 0, 0, 1, 1, 1, 1] rfl) ?_
    refine at_take2 4 rfl (by kernel_rfl) (by kernel_rfl) (by kernel_rfl) (fun _ h => h.picks [0, 0, 0, 1, 1, 1, 1] rfl) rfl rfl (p_idx Tryz.underlying22 ty3 rfl rfl (.row 0 rfl) he9) (fun _ h => h.picks [0, 0, 0, 1, 1, 1, 1] rfl) ?_
    refine at_take2 5 rfl (by kernel_rfl) (by kernel_rfl) (by kernel_rfl) (fun _ h => h.picks [0, 0, 0, 1, 1, 1, 1] rfl) rfl rfl (p_lde (o := 0) ty3 rfl rfl (.row 0 rfl) (getI_spec he9).2 rfl) (fun _ h => h.picks [0, 0, 0, 1, 1, 1, 1] rfl) ?_
    refine at_take2 6 rfl (by kernel_rfl) (by kernel_rfl) (by kernel_rfl) (fun _ h => h.picks [0, 0, 0, 1, 1, 1, 1] rfl) rfl rfl (p_mv rfl) (fun _ h => h.picks [0, 0, 0, 1, 1, 1, 1] rfl) ?_
    refine at_take2 7 rfl (by kernel_rfl) (by kernel_rfl) (by kernel_rfl) (fun _ h => h.picks [0, 0, 0, 1, 1, 1, 1] rfl) rfl rfl (p_idx Tryz.underlying22 ty3 rfl rfl (.row 0 rfl) he10) (fun _ h => h.picks [0, 0, 0, 1, 1, 1, 1] rfl) ?_
    refine at_take2 8 rfl (by kernel_rfl) (by kernel_rfl) (by kernel_rfl) (fun _ h => h.picks [0, 0, 0, 1, 1, 1, 1] rfl) rfl rfl (p_lde (o := 0) ty3 rfl rfl (.row 0 rfl) (getI_spec he10).2 rfl) (fun _ h => h.picks [0, 0, 0, 1, 1, 1, 1] rfl) ?_
    refine at_take2 9 rfl (by kernel_rfl) (by kernel_rfl) (by kernel_rfl) (fun _ h => h.picks [0, 0, 0, 1, 1, 1, 1] rfl) rfl rfl (p_mv rfl) (fun _ h => h.picks [0, 0, 0, 1, 1, 1, 1] rfl) ?_
    refine at_take2 10 rfl (by kernel_rfl) (by kernel_rfl) (by kernel_rfl) (fun _ h => h.picks [0, 0, 0, 1, 1, 1, 1] rfl) rfl rfl (p_idx Tryz.underlying22 ty3 rfl rfl (.row 0 rfl) he11) (fun _ h => h.picks [0, 0, 0, 1, 1, 1, 1] rfl) ?_
    refine at_take2 11 rfl (by kernel_rfl) (by kernel_rfl) (by kernel_rfl) (fun _ h => h.picks [0, 0, 0, 1, 1, 1, 1] rfl) rfl rfl (p_lde (o := 0) ty3 rfl rfl (.row 0 rfl) (getI_spec he11).2 rfl) (fun _ h => h.picks [0, 0, 0, 1, 1, 1, 1] rfl) ?_
    refine at_take2 12 rfl (by kernel_rfl) (by kernel_rfl) (by kernel_rfl) (fun _ h => h.picks [0, 0, 0, 1, 1, 1, 1] rfl) rfl rfl (p_fab fl28_1 rfl) (fun _ h => h.picks [0, 0, 0, 1, 1, 1, 1] rfl) ?_
    refine at_each (rs := [13]) (by kernel_rfl) (by decide) ?_
    refine (.cons rfl (fun I cnI => ?_) .nil)
    ·refine r_sb (vs := [.int .i64 e8]) (j := 3) ty3 rfl rfl rfl rfl rfl rfl rfl ?_
     refine lj_nil ?_
     refine cnI _ _ (sof2 rfl rfl (fun _ h => h.picks [0, 0, 0, 1, 1, 1, 1] rfl)) ?_
     refine at_take2 14 rfl (by kernel_rfl) (by kernel_rfl) (by kernel_rfl) (fun _ h => h.picks [0, 0, 0, 1, 1, 1, 1] rfl) rfl rfl (p_fab fl28_2 rfl) (fun _ h => h.picks [0, 0, 0, 1, 1, 1, 1] rfl) ?_
     refine at_each (rs := [15]) (by kernel_rfl) (by decide) ?_
     refine (.cons rfl (fun I cnI => ?_) .nil)
     ·refine r_sb (vs := [.int .i64 e9]) (j := 3) ty3 rfl rfl rfl rfl rfl rfl rfl ?_
      refine lj_nil ?_
      refine cnI _ _ (sof2 rfl rfl (fun _ h => h.picks [0, 0, 0, 1, 1, 1, 1] rfl)) ?_
      refine at_take2 16 rfl (by kernel_rfl) (by kernel_rfl) (by kernel_rfl) (fun _ h => h.picks [0, 0, 0, 1, 1, 1, 1] rfl) rfl rfl (p_fab fl28_3 rfl) (fun _ h => h.picks [0, 0, 0, 1, 1, 1, 1] rfl) ?_
      refine at_each (rs := [17]) (by kernel_rfl) (by decide) ?_
      refine (.cons rfl (fun I cnI => ?_) .nil)
      ·refine r_sb (vs := [.int .i64 e10]) (j := 3) ty3 rfl rfl rfl rfl rfl rfl rfl ?_
       refine lj_nil ?_
       refine cnI _ _ (sof2 rfl rfl (fun _ h => h.picks [0, 0, 0, 1, 1, 1, 1] rfl)) ?_
       refine at_take2 18 rfl (by kernel_rfl) (by kernel_rfl) (by kernel_rfl) (fun _ h => h.picks [0, 0, 0, 1, 1, 1, 1] rfl) rfl rfl (p_fab fl28_4 rfl) (fun _ h => h.picks [0, 0, 0, 1, 1, 1, 1] rfl) ?_
       refine at_each (rs := [19]) (by kernel_rfl) (by decide) ?_
       refine (.cons rfl (fun I cnI => ?_) .nil)
       ·refine r_sb (vs := [.int .i64 e11]) (j := 3) ty3 rfl rfl rfl rfl rfl rfl rfl ?_
        refine lj_nil ?_
        refine cnI _ _ (sof2 rfl rfl (fun _ h => h.picks [0, 0, 0, 1, 1, 1, 1] rfl)) ?_
        refine at_done (by kernel_rfl) ?_
        refine nj_seq ?_
        refine cj_seq ?_
        refine cj_reg ?_
        refine lp rfl (p_mv rfl) ?_
        refine lp rfl (p_as rfl) ?_
        refine lj_seq ?_
        obtain rfl := Option.some.inj hm
        exact cj_rt (s2_0_, xg2_0_) [4, 4, 2, 2] Tryz.results34 (.tmp rfl .nil) rfl rfl
   ·have hm := ifB_f hb hm
    refine cj_skip ?_
    refine nj_seq ?_
    refine cj_seq ?_
    refine cj_reg ?_
    refine lp rfl (p_mv rfl) ?_
    obtain ⟨e12, he12, hm⟩ := bindS hm
    refine lp rfl (p_idx Tryz.underlying45 ty9 rfl rfl (.row 0 rfl) he12) ?_
    refine lp rfl (p_lde (o := 0) ty9 rfl rfl (.row 0 rfl) (getI_spec he12).2 rfl) ?_
    obtain ⟨y13, hy13, hm⟩ := bindS hm
    refine r_call [] cf37 rfl rfl (ok_gleeref2_Number e12 15 hy13) rfl rfl (.cons (.ro 6 rfl) .nil) (fun _ => rfl) rfl (fun _ => ?_)
    refine lp rfl (p_mv rfl) ?_
    refine lp rfl (p_ext rfl rfl) ?_
    refine lp rfl (p_ext rfl rfl) ?_
    refine lp rfl (p_as rfl) ?_
    refine lp rfl (p_as rfl) ?_
    refine lj_seq ?_
    refine cj_seq ?_
    obtain ⟨k18, hk18, hm⟩ := bindS hm
    have hRk18 : ∀ t, k18 = .inr t → some t = some r := fun t e => by rw [e] at hm; exact hm
    refine cj_joinK (σ := (ByteArray × ByteArray × (List ByteArray))) (γ := (Nat × SV)) (fun u14 => k18 = .inl u14) (fun u14 g15 => [(2, .pointer (some ⟨b2_, 0, none⟩)), (4, .bool false), (10, .bool y13.2), (11, .pointer (some ⟨g15.1, 0, none⟩))]) (fun u14 g15 => Sat w0 (keys [.box b1_ 4 [.bool a1_0], .box b2_ 28 [s2_0_.v, .int .i64 a2_1, .int .i64 a2_2, .int .i64 a2_3, .int .i64 a2_4], .row N47.R (SV.v s2_0_) xg2_0_]) A [.box b1_ 4 [.bool a1_0], .box b2_ 28 [s2_0_.v, .int .i64 a2_1, .int .i64 a2_2, .int .i64 a2_3, .int .i64 a2_4], .row N47.R (SV.v s2_0_) xg2_0_, .ro (Lk N47 a2_0 xg2_0_), .ro MaxT, .ro PowT, .row R9 (SV.v g15.2) u14.2.2, .box g15.1 47 [.string u14.1, .string u14.2.1, .int .i64 y13.1, g15.2.v]]) (fun u14 g15 hq => ?_) (fun J cnk18 => ?_)
    ·have hm := Sum.fin_l hq hm
     refine cj_seq ?_
     refine cj_reg ?_
     refine lp rfl (p_fab fl28_0 rfl) ?_
     refine lp rfl (p_lbs ty26 rfl (j := 1) rfl rfl) ?_
     refine lp rfl (p_lbw ty47 rfl (j := 7) rfl rfl) ?_
     refine r_fz 6 rfl ?_
     refine r_fact (F := Lk N47 [(TItem.mk u14.1 u14.2.1 y13.1 u14.2.2)] [((TItem.mk u14.1 u14.2.1 y13.1 u14.2.2), g15.2)]) (.imp (.and (.ro 0 rfl) (.nilL N47)) (fun _ h => Lk.cons h.1 h.2)) ?_
     have hLs29 : (([((TItem.mk u14.1 u14.2.1 y13.1 u14.2.2), g15.2)] : List (TItem × SV)).map Prod.fst) = ([(TItem.mk u14.1 u14.2.1 y13.1 u14.2.2)] : List TItem) := rfl
     refine r_bs N47.R [((TItem.mk u14.1 u14.2.1 y13.1 u14.2.2), g15.2)] rfl rfl rfl (fun _ => by kernel_rfl) rfl (fun s29 => ?_)
     obtain ⟨q30, hq30, hm⟩ := bindS hm
     refine r_fact (F := Lk N47 q30 (xg2_0_ ++ [((TItem.mk u14.1 u14.2.1 y13.1 u14.2.2), g15.2)])) (.imp (.and (.ro 6 rfl) (.ro 1 rfl)) (fun _ h => Lk.app hq30 h.1 h.2)) ?_
     refine r_app (k := 6) Tryz.underlying26 ty47 rfl rfl rfl rfl (.row 1 rfl) (lk_app hq30 hL2_0_ hLs29) rfl (fun s31 => ?_)
     refine lp rfl (p_fab fl28_0 rfl) ?_
     refine r_sb (vs := [s31.v]) (j := 5) ty26 rfl rfl rfl rfl rfl rfl rfl ?_
     refine lj_seq ?_
     refine cj_seq ?_
     refine cj_reg ?_
     refine lp rfl (p_mv rfl) ?_
     refine lp rfl (p_mv rfl) ?_
     refine lcase (i := 73) y13.2 rfl (fun hb => ?_) (fun hb => ?_)
     ·have hm := ifB_t hb hm
      refine lg true rfl rfl rfl ?_
      refine lp rfl (p_fab fl47_3 rfl) ?_
      refine lg true rfl rfl rfl ?_
      refine lp rfl (p_lbs ty45 rfl (j := 10) rfl rfl) ?_
      refine lg true rfl rfl rfl ?_
      obtain ⟨y33, hy33, hm⟩ := bindS hm
      refine r_call [] cf39 rfl rfl (ok_slices_Contains_string_string g15.2 u14.2.2 ByteArray.empty hy33) rfl rfl (.cons (.ro 3 rfl) .nil) (fun _ => rfl) rfl (fun _ => ?_)
      refine lg true rfl rfl rfl ?_
      refine lp rfl (p_not rfl) ?_
      refine lp rfl (p_pkt rfl rfl) ?_
      refine lp rfl (p_as rfl) ?_
      refine lj_seq ?_
      obtain rfl := Option.some.inj hm
      exact cj_rt (s31, (xg2_0_ ++ [((TItem.mk u14.1 u14.2.1 y13.1 u14.2.2), g15.2)])) [6, 0, 3, 3] Tryz.results34 (.tmp rfl .nil) rfl rfl
     ·have hm := ifB_f hb hm
      refine ls true rfl rfl rfl rfl ?_
      refine ls true rfl rfl rfl rfl ?_
      refine ls true rfl rfl rfl rfl ?_
      refine ls true rfl rfl rfl rfl ?_
      refine lp rfl (p_pkf rfl rfl) ?_
      refine lp rfl (p_as rfl) ?_
      refine lj_seq ?_
      obtain rfl := Option.some.inj hm
      exact cj_rt (s31, (xg2_0_ ++ [((TItem.mk u14.1 u14.2.1 y13.1 u14.2.2), g15.2)])) [6, 0, 3, 3] Tryz.results34 (.tmp rfl .nil) rfl rfl
    ·have hm := hk18
     obtain ⟨e19, he19, hm⟩ := bindS hm
     obtain ⟨e20, he20, hm⟩ := bindS hm
     obtain ⟨e21, he21, hm⟩ := bindS hm
     obtain ⟨y22, hy22, hm⟩ := bindS hm
     refine cj_anyT [0, 1, 2, 3, 4, 5, 6, 7, 8, 9, 11] [13] (Sat w0 (keys [.box b1_ 4 [.bool a1_0], .box b2_ 28 [s2_0_.v, .int .i64 a2_1, .int .i64 a2_2, .int .i64 a2_3, .int .i64 a2_4], .row N47.R (SV.v s2_0_) xg2_0_]) A [.row R9 (SV.v s2) y1.1, .box b1_ 4 [.bool a1_0], .box b2_ 28 [s2_0_.v, .int .i64 a2_1, .int .i64 a2_2, .int .i64 a2_3, .int .i64 a2_4], .row N47.R (SV.v s2_0_) xg2_0_, .ro (Lk N47 a2_0 xg2_0_), .ro MaxT, .ro PowT]) (Sat w0 (keys [.box b1_ 4 [.bool a1_0], .box b2_ 28 [s2_0_.v, .int .i64 a2_1, .int .i64 a2_2, .int .i64 a2_3, .int .i64 a2_4], .row N47.R (SV.v s2_0_) xg2_0_]) A [.row R9 (SV.v s2) y1.1, .box b1_ 4 [.bool a1_0], .box b2_ 28 [s2_0_.v, .int .i64 a2_1, .int .i64 a2_2, .int .i64 a2_3, .int .i64 a2_4], .row N47.R (SV.v s2_0_) xg2_0_, .ro (Lk N47 a2_0 xg2_0_), .ro MaxT, .ro PowT]) (by kernel_rfl) ?_
     refine at_take2 0 rfl (by kernel_rfl) (by kernel_rfl) (by kernel_rfl) (fun _ h => h.picks [0, 0, 0, 0, 0, 0, 0] rfl) rfl rfl (p_mv rfl) (fun _ h => h.picks [0, 0, 0, 0, 0, 0, 0] rfl) ?_
     refine at_take2 1 rfl (by kernel_rfl) (by kernel_rfl) (by kernel_rfl) (fun _ h => h.picks [0, 0, 0, 0, 0, 0, 0] rfl) rfl rfl (p_idx Tryz.underlying45 ty9 rfl rfl (.row 0 rfl) he19) (fun _ h => h.picks [0, 0, 0, 0, 0, 0, 0] rfl) ?_
     refine at_take2 2 rfl (by kernel_rfl) (by kernel_rfl) (by kernel_rfl) (fun _ h => h.picks [0, 0, 0, 0, 0, 0, 0] rfl) rfl rfl (p_lde (o := 0) ty9 rfl rfl (.row 0 rfl) (getI_spec he19).2 rfl) (fun _ h => h.picks [0, 0, 0, 0, 0, 0, 0] rfl) ?_
     refine at_take2 3 rfl (by kernel_rfl) (by kernel_rfl) (by kernel_rfl) (fun _ h => h.picks [0, 0, 0, 0, 0, 0, 0] rfl) rfl rfl (p_mv rfl) (fun _ h => h.picks [0, 0, 0, 0, 0, 0, 0] rfl) ?_
     refine at_take2 4 rfl (by kernel_rfl) (by kernel_rfl) (by kernel_rfl) (fun _ h => h.picks [0, 0, 0, 0, 0, 0, 0] rfl) rfl rfl (p_idx Tryz.underlying45 ty9 rfl rfl (.row 0 rfl) he20) (fun _ h => h.picks [0, 0, 0, 0, 0, 0, 0] rfl) ?_
     refine at_take2 5 rfl (by kernel_rfl) (by kernel_rfl) (by kernel_rfl) (fun _ h => h.picks [0, 0, 0, 0, 0, 0, 0] rfl) rfl rfl (p_lde (o := 0) ty9 rfl rfl (.row 0 rfl) (getI_spec he20).2 rfl) (fun _ h => h.picks [0, 0, 0, 0, 0, 0, 0] rfl) ?_
     refine at_take2 6 rfl (by kernel_rfl) (by kernel_rfl) (by kernel_rfl) (fun _ h => h.picks [0, 0, 0, 0, 0, 0, 0] rfl) rfl rfl (p_mv rfl) (fun _ h => h.picks [0, 0, 0, 0, 0, 0, 0] rfl) ?_
     refine at_take2 7 rfl (by kernel_rfl) (by kernel_rfl) (by kernel_rfl) (fun _ h => h.picks [0, 0, 0, 0, 0, 0, 0] rfl) rfl rfl (p_mv rfl) (fun _ h => h.picks [0, 0, 0, 0, 0, 0, 0] rfl) ?_
     refine at_take2 8 rfl (by kernel_rfl) (by kernel_rfl) (by kernel_rfl) (fun _ h => h.picks [0, 0, 0, 0, 0, 0, 0] rfl) rfl rfl (p_idx Tryz.underlying45 ty9 rfl rfl (.row 0 rfl) he21) (fun _ h => h.picks [0, 0, 0, 0, 0, 0, 0] rfl) ?_
     refine at_take2 9 rfl (by kernel_rfl) (by kernel_rfl) (by kernel_rfl) (fun _ h => h.picks [0, 0, 0, 0, 0, 0, 0] rfl) rfl rfl (p_lde (o := 0) ty9 rfl rfl (.row 0 rfl) (getI_spec he21).2 rfl) (fun _ h => h.picks [0, 0, 0, 0, 0, 0, 0] rfl) ?_
     refine at_each (rs := [10, 12]) (by kernel_rfl) (by decide) ?_
     refine (.cons rfl (fun I cnI => ?_) (.cons rfl (fun I cnI => ?_) .nil))
     ·refine r_call [] cf38 rfl rfl (ok_strings_Split e21 (ByteArray.mk [44].toArray) hy22) rfl rfl (.cons (.ro 5 rfl) .nil) (fun _ => rfl) rfl (fun s25 => ?_)
      refine lj_nil ?_
      refine cnI _ _ (sof1 rfl rfl (fun _ h => h.picks [1, 1, 1, 1, 1, 1, 1] rfl)) ?_
      refine at_take2 11 rfl (by kernel_rfl) (by kernel_rfl) (by kernel_rfl) (fun _ h => h.picks [0, 0, 0, 0, 0, 0, 0] rfl) rfl rfl (p_bld [.string e19, .string e20, .int .i64 y13.1, s25.v] rfl (fun _ => by kernel_rfl)) (fun _ h => h.picks [1, 1, 1, 1, 1, 1, 1] rfl) ?_
      refine at_each (rs := [12]) (by kernel_rfl) (by decide) ?_
      refine (.cons rfl (fun I cnI => ?_) .nil)
      ·refine r_al ty47 rfl (fun b26 => ?_)
       refine lj_nil ?_
       refine cnI _ _ (sof1 rfl rfl (fun _ h => h.picks [2, 2, 2, 2, 2, 2, 2] rfl)) ?_
       refine at_each (rs := [13]) (by kernel_rfl) (by decide) ?_
       refine (.cons rfl (fun I cnI => ?_) .nil)
       ·refine r_sb (vs := [.string e19, .string e20, .int .i64 y13.1, s25.v]) (j := 0) ty47 rfl rfl rfl rfl rfl rfl rfl ?_
        refine lj_nil ?_
        refine cnI _ _ (sof2 rfl rfl (fun _ h => h.picks [2, 2, 2, 2, 2, 2, 2] rfl)) ?_
        refine at_done (by kernel_rfl) ?_
        exact cnk18 _ _ (e19, e20, y22) (b26, s25) (Option.some.inj hm).symm ⟨rfl, rfl, rfl, rfl, trivial⟩ (fun _ h => h.picks [3, 3, 3, 3, 3, 3, 1, 0] rfl)
     ·refine r_al ty47 rfl (fun b27 => ?_)
      refine lj_nil ?_
      refine cnI _ _ (sof1 rfl rfl (fun _ h => h.picks [1, 1, 1, 1, 1, 1, 1] rfl)) ?_
      refine at_each (rs := [10]) (by kernel_rfl) (by decide) ?_
      refine (.cons rfl (fun I cnI => ?_) .nil)
      ·refine r_call [] cf38 rfl rfl (ok_strings_Split e21 (ByteArray.mk [44].toArray) hy22) rfl rfl (.cons (.ro 6 rfl) .nil) (fun _ => rfl) rfl (fun s28 => ?_)
       refine lj_nil ?_
       refine cnI _ _ (sof1 rfl rfl (fun _ h => h.picks [2, 2, 2, 2, 2, 2, 2] rfl)) ?_
       refine at_take2 11 rfl (by kernel_rfl) (by kernel_rfl) (by kernel_rfl) (fun _ h => h.picks [0, 0, 0, 0, 0, 0, 0] rfl) rfl rfl (p_bld [.string e19, .string e20, .int .i64 y13.1, s28.v] rfl (fun _ => by kernel_rfl)) (fun _ h => h.picks [2, 2, 2, 2, 2, 2, 2] rfl) ?_
       refine at_each (rs := [13]) (by kernel_rfl) (by decide) ?_
       refine (.cons rfl (fun I cnI => ?_) .nil)
       ·refine r_sb (vs := [.string e19, .string e20, .int .i64 y13.1, s28.v]) (j := 1) ty47 rfl rfl rfl rfl rfl rfl rfl ?_
        refine lj_nil ?_
        refine cnI _ _ (sof2 rfl rfl (fun _ h => h.picks [2, 2, 2, 2, 2, 2, 2] rfl)) ?_
        refine at_done (by kernel_rfl) ?_
        exact cnk18 _ _ (e19, e20, y22) (b27, s28) (Option.some.inj hm).symm ⟨rfl, rfl, rfl, rfl, trivial⟩ (fun _ h => h.picks [3, 3, 3, 3, 3, 3, 0, 0] rfl)
 ·have hm := hk5
  refine lp rfl (p_mv rfl) ?_
  refine lp rfl (p_not rfl) ?_
  refine lp rfl (p_mv rfl) ?_
  refine lcase (i := 19) (!y1.2) rfl (fun hb => ?_) (fun hb => ?_)
  ·have hm := ifB_t hb hm
   refine ls false rfl rfl rfl rfl ?_
   refine ls false rfl rfl rfl rfl ?_
   refine ls false rfl rfl rfl rfl ?_
   refine lp rfl (p_pkt rfl rfl) ?_
   refine lj_nil ?_
   exact cnk5 _ _ true () (Option.some.inj hm).symm ⟨rfl, rfl, rfl, rfl, rfl, trivial⟩ (fun _ h => h.picks [0, 0, 0, 0, 0, 0, 0] rfl)
  ·have hm := ifB_f hb hm
   refine lg false rfl rfl rfl ?_
   refine lp rfl (p_mv rfl) ?_
   refine lg false rfl rfl rfl ?_
   refine lp rfl (p_len Tryz.underlying45 rfl (.row 0 rfl)) ?_
   refine lg false rfl rfl rfl ?_
   refine lp rfl (p_neq rfl rfl) ?_
   refine lp rfl (p_pkf rfl rfl) ?_
   refine lj_nil ?_
   exact cnk5 _ _ ((y1.1.length : Int) != 4) () (Option.some.inj hm).symm ⟨rfl, rfl, rfl, rfl, rfl, trivial⟩ (fun _ h => h.picks [0, 0, 0, 0, 0, 0, 0] rfl)
theorem ok_gleeref2_Lines__gleeref2_ProgramRead_1 (a0 : ByteArray) (b1_c0_ : Nat) (a1_c0_0 : Bool) (b1_c1_ : Nat) (s1_c1_0_ : SV) (xg1_c1_0_ : List (TItem × SV)) (a1_c1_0 : (List TItem)) (a1_c1_1 : Int) (a1_c1_2 : Int) (a1_c1_3 : Int) (a1_c1_4 : Int) {r : Int × Bool × Bool × (List TItem) × Int × Int × Int × Int} (hm : m_gleeref2_Lines__gleeref2_ProgramRead_1 a0 a1_c0_0 a1_c1_0 a1_c1_1 a1_c1_2 a1_c1_3 a1_c1_4 = some r) :
  Ctr Tryz.prog 33 [.string a0, .func (.func 34) #[] [.pointer (some ⟨b1_c0_, 0, none⟩), .pointer (some ⟨b1_c1_, 0, none⟩)].toArray].toArray [.box b1_c0_ 4 [.bool a1_c0_0], .box b1_c1_ 28 [s1_c1_0_.v, .int .i64 a1_c1_1, .int .i64 a1_c1_2, .int .i64 a1_c1_3, .int .i64 a1_c1_4], .row N47.R (SV.v s1_c1_0_) xg1_c1_0_] [Lk N47 a1_c1_0 xg1_c1_0_, MaxT, PowT] (X := (SV × List (TItem × SV))) (fun s => .tuple [.int .i64 r.1, .bool r.2.1].toArray) (fun s => [.row N47.R (SV.v s.1) s.2, .ro (Lk N47 r.2.2.2.1 s.2), .box b1_c0_ 4 [.bool r.2.2.1], .box b1_c1_ 28 [s.1.v, .int .i64 r.2.2.2.2.1, .int .i64 r.2.2.2.2.2.1, .int .i64 r.2.2.2.2.2.2.1, .int .i64 r.2.2.2.2.2.2.2]]) := by
 unfold m_gleeref2_Lines__gleeref2_ProgramRead_1 at hm
 refine ctr_mk (vs := [(0, .string a0), (1, .func (.func 34) #[] [.pointer (some ⟨b1_c0_, 0, none⟩), .pointer (some ⟨b1_c1_, 0, none⟩)].toArray)]) Tryz.func33 rfl Tryz.ntmps33 rfl ⟨rfl, rfl, trivial⟩ (fun w0 A => ?_)
 refine cj_pure (F := Lk N47 a1_c1_0 xg1_c1_0_) (.ro 3 rfl) (fun _ h => h.1) (fun hL1_c1_0_ => ?_)
 refine cj_seq ?_
 refine cj_reg ?_
 refine lp rfl (p_as rfl) ?_
 refine lp rfl (p_as rfl) ?_
 refine lj_seq ?_
 refine cj_seq ?_
 refine cj_seq ?_
 refine cj_reg ?_
 refine lp rfl (p_as rfl) ?_
 refine lj_seq ?_
 obtain ⟨f4, hf4, hm⟩ := bindS hm
 refine cj_whileA (γ := (SV × List (TItem × SV))) hf4 (s1_c1_0_, xg1_c1_0_) (fun u1 g2 => [(0, .string u1.1), (1, .func (.func 34) #[] [.pointer (some ⟨b1_c0_, 0, none⟩), .pointer (some ⟨b1_c1_, 0, none⟩)].toArray), (4, .int .i64 0), (5, .bool false), (6, .int .i64 u1.2.1)]) (fun u1 g2 => Sat w0 (keys [.box b1_c0_ 4 [.bool a1_c0_0], .box b1_c1_ 28 [s1_c1_0_.v, .int .i64 a1_c1_1, .int .i64 a1_c1_2, .int .i64 a1_c1_3, .int .i64 a1_c1_4], .row N47.R (SV.v s1_c1_0_) xg1_c1_0_]) A [.box b1_c0_ 4 [.bool u1.2.2.1], .box b1_c1_ 28 [g2.1.v, .int .i64 u1.2.2.2.1, .int .i64 u1.2.2.2.2.1, .int .i64 u1.2.2.2.2.2.1, .int .i64 u1.2.2.2.2.2.2.1], .ro MaxT, .ro PowT, .row N47.R (SV.v g2.1) g2.2, .ro (Lk N47 u1.2.2.2.2.2.2.2 g2.2)]) ⟨rfl, rfl, rfl, rfl, rfl, trivial⟩ (fun _ h => h.picks [0, 0, 2, 2, 0, 0] rfl) (fun u1 g2 e => ?_) (fun aftk3 u1 g2 k3 hs J hJk3 hBk3 hX I cnk3 => ?_)
 ·have hm := Flow.fin_b e hm
  refine nj_pure (F := Lk N47 u1.2.2.2.2.2.2.2 g2.2) (.ro 5 rfl) (fun _ h => h.1) (fun hLu1_s1_c1_0_ => ?_)
  refine nj_seq ?_
  refine cj_seq ?_
  refine cj_reg ?_
  refine lp rfl (p_as rfl) ?_
  refine lp rfl (p_as rfl) ?_
  refine lj_seq ?_
  obtain rfl := Option.some.inj hm
  exact cj_rt (g2.1, g2.2) [4, 4, 0, 0] Tryz.results33 (.tmp rfl (.tmp rfl .nil)) rfl rfl
 ·have hRk3 : ∀ t, k3 = .ret t → some t = some r := fun t e => by rw [hX t e] at hm; exact hm
  have hm := hs
  refine cj_pure (F := Lk N47 u1.2.2.2.2.2.2.2 g2.2) (.ro 5 rfl) (fun _ h => h.1) (fun hLu1_s1_c1_0_ => ?_)
  refine cj_seq ?_
  refine cj_seq ?_
  refine cj_reg ?_
  refine lp rfl (p_mv rfl) ?_
  refine lp rfl (p_nes rfl rfl) ?_
  refine lj_seq ?_
  refine cj_if (b := !(u1.1.toList == ByteArray.empty.toList)) rfl (fun hb => ?_) (fun hb => ?_)
  ·have hm := ifB_t hb hm
   refine cj_skip ?_
   refine nj_seq ?_
   refine cj_seq ?_
   refine cj_blk ?_
   refine cj_seq ?_
   refine cj_reg ?_
   refine lp rfl (p_mv rfl) ?_
   obtain ⟨y5, hy5, hm⟩ := bindS hm
   refine r_call [] cf56 rfl rfl (ok_strings_Cut u1.1 (ByteArray.mk [10].toArray) hy5) rfl rfl .nil (fun _ => rfl) rfl (fun _ => ?_)
   refine lp rfl (p_mv rfl) ?_
   refine lp rfl (p_ext rfl rfl) ?_
   refine lp rfl (p_ext rfl rfl) ?_
   refine lp rfl (p_ext rfl rfl) ?_
   refine lp rfl (p_as rfl) ?_
   refine lp rfl (p_as rfl) ?_
   refine lp rfl (p_as rfl) ?_
   refine lj_seq ?_
   refine cj_seq ?_
   refine cj_seq ?_
   refine cj_reg ?_
   obtain ⟨k8, hk8, hm⟩ := bindS hm
   have hRk8 : ∀ t, k8 = .inr t → some t = some k3 := fun t e => by rw [e] at hm; exact hm
   refine lj_join (σ := (Bool × Bool × Int × Int × Int × Int × (List TItem))) (γ := (SV × List (TItem × SV))) (fun u6 => k8 = .inl u6) (fun u6 g7 => [(0, .string u1.1), (1, .func (.func 34) #[] [.pointer (some ⟨b1_c0_, 0, none⟩), .pointer (some ⟨b1_c1_, 0, none⟩)].toArray), (4, .int .i64 0), (5, .bool false), (6, .int .i64 u1.2.1), (8, .string y5.2.1), (27, .bool u6.1)]) (fun u6 g7 => Sat w0 (keys [.box b1_c0_ 4 [.bool a1_c0_0], .box b1_c1_ 28 [s1_c1_0_.v, .int .i64 a1_c1_1, .int .i64 a1_c1_2, .int .i64 a1_c1_3, .int .i64 a1_c1_4], .row N47.R (SV.v s1_c1_0_) xg1_c1_0_]) A [.box b1_c0_ 4 [.bool u6.2.1], .box b1_c1_ 28 [g7.1.v, .int .i64 u6.2.2.1, .int .i64 u6.2.2.2.1, .int .i64 u6.2.2.2.2.1, .int .i64 u6.2.2.2.2.2.1], .ro MaxT, .ro PowT, .row N47.R (SV.v g7.1) g7.2, .ro (Lk N47 u6.2.2.2.2.2.2 g7.2)]) (fun u6 g7 hq => ?_) (fun J cnk8 => ?_)
   ·have hm := Sum.fin_l hq hm
    refine cj_pure (F := Lk N47 u6.2.2.2.2.2.2 g7.2) (.ro 5 rfl) (fun _ h => h.1) (fun hLu6_s1_c1_0_ => ?_)
    refine cj_if (b := u6.1) rfl (fun hb => ?_) (fun hb => ?_)
    ·have hm := ifB_t hb hm
     refine cj_seq ?_
     refine cj_reg ?_
     refine lp rfl (p_mv rfl) ?_
     refine lp rfl (p_as rfl) ?_
     refine lp rfl (p_as rfl) ?_
     refine lj_seq ?_
     have hm := hRk3 _ (Option.some.inj hm).symm
     obtain rfl := Option.some.inj hm
     exact cj_rt (g7.1, g7.2) [4, 4, 0, 0] Tryz.results33 (.tmp rfl (.tmp rfl .nil)) rfl rfl
    ·have hm := ifB_f hb hm
     refine cj_skip ?_
     refine nj_seq ?_
     refine cj_reg ?_
     refine lp rfl (p_mv rfl) ?_
     refine lp rfl (p_as rfl) ?_
     refine lj_nil ?_
     refine nj_blk ?_
     refine nj_seq ?_
     refine cj_reg ?_
     refine lp rfl (p_mv rfl) ?_
     refine lp rfl (p_add rfl rfl) ?_
     refine lp rfl (p_as rfl) ?_
     refine lj_nil ?_
     exact cnk3 _ _ (y5.2.1, w64 (u1.2.1 + 1), u6.2.1, u6.2.2.1, u6.2.2.2.1, u6.2.2.2.2.1, u6.2.2.2.2.2.1, u6.2.2.2.2.2.2) (g7.1, g7.2) (hJk3 _ (Option.some.inj hm).symm) ⟨rfl, rfl, rfl, rfl, rfl, trivial⟩ (fun _ h => h.picks [0, 0, 0, 0, 0, 0] rfl)
   ·have hm := hk8
    refine lp rfl (p_mv rfl) ?_
    refine lp rfl (p_not rfl) ?_
    refine lp rfl (p_mv rfl) ?_
    refine lcase (i := 22) (!y5.2.2) rfl (fun hb => ?_) (fun hb => ?_)
    ·have hm := ifB_t hb hm
     refine ls false rfl rfl rfl rfl ?_
     refine ls false rfl rfl rfl rfl ?_
     refine ls false rfl rfl rfl rfl ?_
     refine ls false rfl rfl rfl rfl ?_
     refine lp rfl (p_pkt rfl rfl) ?_
     refine lj_nil ?_
     exact cnk8 _ _ (true, u1.2.2.1, u1.2.2.2.1, u1.2.2.2.2.1, u1.2.2.2.2.2.1, u1.2.2.2.2.2.2.1, u1.2.2.2.2.2.2.2) (g2.1, g2.2) (Option.some.inj hm).symm ⟨rfl, rfl, rfl, rfl, rfl, rfl, rfl, trivial⟩ (fun _ h => h.picks [0, 0, 0, 0, 0, 0] rfl)
    ·have hm := ifB_f hb hm
     refine lg false rfl rfl rfl ?_
     refine lp rfl (p_mv rfl) ?_
     refine lg false rfl rfl rfl ?_
     refine lp rfl (p_mv rfl) ?_
     refine lg false rfl rfl rfl ?_
     obtain ⟨y9, hy9, hm⟩ := bindS hm
     refine r_callN [0, 0, 2] cf34 rfl rfl (ok_gleeref2_ProgramRead_1 y5.1 b1_c0_ u1.2.2.1 b1_c1_ g2.1 g2.2 u1.2.2.2.2.2.2.2 u1.2.2.2.1 u1.2.2.2.2.1 u1.2.2.2.2.2.1 u1.2.2.2.2.2.2.1 hy9) rfl rfl (.cons (.ro 2 rfl) (.cons (.ro 0 rfl) (.cons (.ro 1 rfl) .nil))) rfl (fun ⟨s10, xg11⟩ => ?_)
     refine r_pure (F := Lk N47 y9.2.2.1 xg11) (.ro 1 rfl) (fun _ h => h.1) (fun hLs10 => ?_)
     refine lg false rfl rfl rfl ?_
     refine lp rfl (p_not rfl) ?_
     refine lp rfl (p_pkf rfl rfl) ?_
     refine lj_nil ?_
     exact cnk8 _ _ (!y9.1, y9.2.1, y9.2.2.2.1, y9.2.2.2.2.1, y9.2.2.2.2.2.1, y9.2.2.2.2.2.2, y9.2.2.1) (s10, xg11) (Option.some.inj hm).symm ⟨rfl, rfl, rfl, rfl, rfl, rfl, rfl, trivial⟩ (fun _ h => h.picks [2, 2, 2, 2, 0, 0] rfl)
  ·have hm := ifB_f hb hm
   refine cj_exit rfl ?_
   exact (aftk3 (u1.1, u1.2.1, u1.2.2.1, u1.2.2.2.1, u1.2.2.2.2.1, u1.2.2.2.2.2.1, u1.2.2.2.2.2.2.1, u1.2.2.2.2.2.2.2) (g2.1, g2.2) (hBk3 _ (Option.some.inj hm).symm)).sub ⟨rfl, rfl, rfl, rfl, rfl, trivial⟩ (fun _ h => h.picks [0, 0, 0, 0, 0, 0] rfl)
theorem ok_gleeref2_ProgramRead (a0 : ByteArray) {r : TProgram × Int × Int} (hm : m_gleeref2_ProgramRead a0 = some r) :
  Ctr Tryz.prog 10 [.string a0].toArray ([] : List Ent) [MaxT, PowT] (X := (SV × List (TItem × SV))) (fun s => .tuple [.agg [s.1.v, .int .i64 r.1.Change, .int .i64 r.1.Clap, .int .i64 r.1.Break, .int .i64 r.1.Half].toArray, .int .i64 r.2.1, .int .i64 r.2.2].toArray) (fun s => [.row N47.R (SV.v s.1) s.2, .ro (Lk N47 r.1.Items s.2)]) := by
 unfold m_gleeref2_ProgramRead at hm
 refine ctr_mk (vs := [(0, .string a0)]) Tryz.func10 rfl Tryz.ntmps10 rfl ⟨rfl, trivial⟩ (fun w0 A => ?_)
 refine cj_seq ?_
 refine cj_reg ?_
 refine r_al ty28 rfl (fun b1 => ?_)
 refine lp rfl (p_as rfl) ?_
 refine lp rfl (p_as rfl) ?_
 refine lj_seq ?_
 refine cj_seq ?_
 refine cj_seq ?_
 refine cj_reg ?_
 refine lp rfl (p_mv rfl) ?_
 refine lp rfl (p_lens Tryz.underlying9 rfl) ?_
 refine lp rfl (p_gtr rfl rfl) ?_
 refine lj_seq ?_
 refine cj_if (b := decide ((a0.size : Int) > 200000)) rfl (fun hb => ?_) (fun hb => ?_)
 ·have hm := ifB_t hb hm
  refine cj_seq ?_
  refine cj_reg ?_
  refine lp rfl (p_bld [.slice none 0 0, .int .i64 0, .int .i64 0, .int .i64 0, .int .i64 0] rfl (fun _ => by kernel_rfl)) ?_
  refine r_sb (vs := [.slice none 0 0, .int .i64 0, .int .i64 0, .int .i64 0, .int .i64 0]) (j := 0) ty28 rfl rfl rfl rfl rfl rfl rfl ?_
  refine lp rfl (p_as rfl) ?_
  refine lp rfl (p_as rfl) ?_
  refine lj_seq ?_
  obtain rfl := Option.some.inj hm
  refine cj_fact (F := Lk N47 [] []) (.nilL N47) ?_
  refine cj_nil N47.R ?_
  exact cj_rt (nilS, []) [0, 0] Tryz.results10 (.agg (k := 2) ty28 rfl rfl rfl (.tmp rfl (.tmp rfl .nil))) rfl rfl
 ·have hm := ifB_f hb hm
  refine cj_skip ?_
  refine nj_seq ?_
  refine cj_seq ?_
  refine cj_reg ?_
  refine r_al ty28 rfl (fun b3 => ?_)
  refine lj_seq ?_
  refine cj_seq ?_
  refine cj_reg ?_
  refine r_al ty4 rfl (fun b4 => ?_)
  refine r_sb (vs := [.bool true]) (j := 0) ty4 rfl rfl rfl rfl rfl rfl rfl ?_
  refine lj_seq ?_
  refine cj_seq ?_
  refine cj_reg ?_
  refine lp rfl (p_mv rfl) ?_
  refine lp rfl (p_fn (cv := [.pointer (some ⟨b4, 0, none⟩), .pointer (some ⟨b3, 0, none⟩)]) rfl) ?_
  refine r_fact (F := Lk N47 [] []) (.nilL N47) ?_
  refine r_nil N47.R ?_
  obtain ⟨y6, hy6, hm⟩ := bindS hm
  refine r_callN [2, 2, 0] cf33 rfl rfl (ok_gleeref2_Lines__gleeref2_ProgramRead_1 a0 b4 true b3 nilS [] [] 0 0 0 0 hy6) rfl rfl (.cons (.ro 0 rfl) (.cons (.ro 2 rfl) (.cons (.ro 3 rfl) .nil))) rfl (fun ⟨s7, xg8⟩ => ?_)
  refine r_pure (F := Lk N47 y6.2.2.2.1 xg8) (.ro 1 rfl) (fun _ h => h.1) (fun hLs7 => ?_)
  refine lp rfl (p_mv rfl) ?_
  refine lp rfl (p_ext rfl rfl) ?_
  refine lp rfl (p_ext rfl rfl) ?_
  refine lp rfl (p_as rfl) ?_
  refine lp rfl (p_as rfl) ?_
  refine lj_seq ?_
  refine cj_seq ?_
  refine cj_seq ?_
  refine cj_reg ?_
  obtain ⟨k11, hk11, hm⟩ := bindS hm
  have hRk11 : ∀ t, k11 = .inr t → some t = some r := fun t e => by rw [e] at hm; exact hm
  refine lj_join (σ := Bool) (γ := Unit) (fun u9 => k11 = .inl u9) (fun u9 g10 => [(2, .pointer (some ⟨b1, 0, none⟩)), (3, .int .i64 0), (4, .int .i64 0), (5, .pointer (some ⟨b3, 0, none⟩)), (7, .int .i64 y6.1), (24, .bool u9)]) (fun u9 g10 => Sat w0 (keys ([] : List Ent)) A [.row N47.R (SV.v s7) xg8, .ro (Lk N47 y6.2.2.2.1 xg8), .box b3 28 [s7.v, .int .i64 y6.2.2.2.2.1, .int .i64 y6.2.2.2.2.2.1, .int .i64 y6.2.2.2.2.2.2.1, .int .i64 y6.2.2.2.2.2.2.2], .box b1 28 [.slice none 0 0, .int .i64 0, .int .i64 0, .int .i64 0, .int .i64 0], .ro MaxT, .ro PowT]) (fun u9 g10 hq => ?_) (fun J cnk11 => ?_)
  ·have hm := Sum.fin_l hq hm
   refine cj_if (b := u9) rfl (fun hb => ?_) (fun hb => ?_)
   ·have hm := ifB_t hb hm
    refine cj_seq ?_
    refine cj_reg ?_
    refine lp rfl (p_bld [.slice none 0 0, .int .i64 0, .int .i64 0, .int .i64 0, .int .i64 0] rfl (fun _ => by kernel_rfl)) ?_
    refine lp rfl (p_mv rfl) ?_
    refine r_sb (vs := [.slice none 0 0, .int .i64 0, .int .i64 0, .int .i64 0, .int .i64 0]) (j := 3) ty28 rfl rfl rfl rfl rfl rfl rfl ?_
    refine lp rfl (p_as rfl) ?_
    refine lp rfl (p_as rfl) ?_
    refine lj_seq ?_
    obtain rfl := Option.some.inj hm
    refine cj_fact (F := Lk N47 [] []) (.nilL N47) ?_
    refine cj_nil N47.R ?_
    exact cj_rt (nilS, []) [0, 0] Tryz.results10 (.agg (k := 5) ty28 rfl rfl rfl (.tmp rfl (.tmp rfl .nil))) rfl rfl
   ·have hm := ifB_f hb hm
    refine cj_skip ?_
    refine nj_seq ?_
    refine cj_seq ?_
    refine cj_seq ?_
    refine cj_reg ?_
    refine lp rfl (p_lbw ty28 rfl (j := 2) rfl rfl) ?_
    obtain ⟨y13, hy13, hm⟩ := bindS hm
    refine r_call [] cf7 rfl rfl (ok_gleeref2_ProgramFault (TProgram.mk y6.2.2.2.1 y6.2.2.2.2.1 y6.2.2.2.2.2.1 y6.2.2.2.2.2.2.1 y6.2.2.2.2.2.2.2) s7 xg8 hy13) rfl rfl (.cons (.ro 1 rfl) (.cons (.row 0 rfl) .nil)) (fun _ => rfl) rfl (fun _ => ?_)
    refine lp rfl (p_as rfl) ?_
    refine lj_seq ?_
    refine cj_seq ?_
    refine cj_reg ?_
    refine lp rfl (p_mv rfl) ?_
    refine lp rfl (p_neq rfl rfl) ?_
    refine lj_seq ?_
    refine cj_if (b := y13 != 0) rfl (fun hb => ?_) (fun hb => ?_)
    ·have hm := ifB_t hb hm
     refine cj_seq ?_
     refine cj_reg ?_
     refine lp rfl (p_bld [.slice none 0 0, .int .i64 0, .int .i64 0, .int .i64 0, .int .i64 0] rfl (fun _ => by kernel_rfl)) ?_
     refine lp rfl (p_mv rfl) ?_
     refine r_sb (vs := [.slice none 0 0, .int .i64 0, .int .i64 0, .int .i64 0, .int .i64 0]) (j := 3) ty28 rfl rfl rfl rfl rfl rfl rfl ?_
     refine lp rfl (p_as rfl) ?_
     refine lp rfl (p_as rfl) ?_
     refine lj_seq ?_
     obtain rfl := Option.some.inj hm
     refine cj_fact (F := Lk N47 [] []) (.nilL N47) ?_
     refine cj_nil N47.R ?_
     exact cj_rt (nilS, []) [0, 0] Tryz.results10 (.agg (k := 5) ty28 rfl rfl rfl (.tmp rfl (.tmp rfl .nil))) rfl rfl
    ·have hm := ifB_f hb hm
     refine cj_skip ?_
     refine nj_seq ?_
     refine cj_seq ?_
     refine cj_reg ?_
     refine lp rfl (p_lbw ty28 rfl (j := 2) rfl rfl) ?_
     refine r_sb (vs := [s7.v, .int .i64 y6.2.2.2.2.1, .int .i64 y6.2.2.2.2.2.1, .int .i64 y6.2.2.2.2.2.2.1, .int .i64 y6.2.2.2.2.2.2.2]) (j := 3) ty28 rfl rfl rfl rfl rfl rfl rfl ?_
     refine lp rfl (p_as rfl) ?_
     refine lp rfl (p_as rfl) ?_
     refine lj_seq ?_
     obtain rfl := Option.some.inj hm
     exact cj_rt (s7, xg8) [0, 0] Tryz.results10 (.agg (k := 3) ty28 rfl rfl rfl (.tmp rfl (.tmp rfl .nil))) rfl rfl
  ·have hm := hk11
   refine lp rfl (p_mv rfl) ?_
   refine lp rfl (p_not rfl) ?_
   refine lp rfl (p_mv rfl) ?_
   refine lcase (i := 22) (!y6.2.1) rfl (fun hb => ?_) (fun hb => ?_)
   ·have hm := ifB_t hb hm
    refine ls false rfl rfl rfl rfl ?_
    refine lp rfl (p_pkt rfl rfl) ?_
    refine lj_nil ?_
    exact cnk11 _ _ true () (Option.some.inj hm).symm ⟨rfl, rfl, rfl, rfl, rfl, rfl, trivial⟩ (fun _ h => h.picks [0, 0, 1, 2, 2, 2] rfl)
   ·have hm := ifB_f hb hm
    refine lg false rfl rfl rfl ?_
    refine lp rfl (p_lbs ty4 rfl (j := 2) rfl rfl) ?_
    refine lp rfl (p_pkf rfl rfl) ?_
    refine lj_nil ?_
    exact cnk11 _ _ y6.2.2.1 () (Option.some.inj hm).symm ⟨rfl, rfl, rfl, rfl, rfl, rfl, trivial⟩ (fun _ h => h.picks [0, 0, 1, 2, 2, 2] rfl)
theorem ok_slices_Equal_string_string (s0_ : SV) (a0 : (List ByteArray)) (s1_ : SV) (a1 : (List ByteArray)) {r : Bool} (hm : m_slices_Equal_string_string a0 a1 = some r) :
  Ctr Tryz.prog 62 [s0_.v, s1_.v].toArray ([] : List Ent) [RdS R9 (SV.v s0_) a0, RdS R9 (SV.v s1_) a1] (X := Unit) (fun _ => .bool r) (fun _ => []) := by
 unfold m_slices_Equal_string_string at hm
 refine ctr_mk (vs := [(0, s0_.v), (1, s1_.v)]) Tryz.func62 rfl Tryz.ntmps62 rfl ⟨rfl, rfl, trivial⟩ (fun w0 A => ?_)
 refine cj_seq ?_
 refine cj_reg ?_
 refine lp rfl (p_as rfl) ?_
 refine lj_seq ?_
 refine cj_seq ?_
 refine cj_seq ?_
 refine cj_reg ?_
 refine lp rfl (p_mv rfl) ?_
 refine lp rfl (p_len Tryz.underlying45 rfl (.ro 0 rfl)) ?_
 refine lp rfl (p_mv rfl) ?_
 refine lp rfl (p_len Tryz.underlying45 rfl (.ro 1 rfl)) ?_
 refine lp rfl (p_neq rfl rfl) ?_
 refine lj_seq ?_
 refine cj_if (b := (a0.length : Int) != (a1.length : Int)) rfl (fun hb => ?_) (fun hb => ?_)
 ·have hm := ifB_t hb hm
  refine cj_seq ?_
  refine cj_reg ?_
  refine lp rfl (p_as rfl) ?_
  refine lj_seq ?_
  obtain rfl := Option.some.inj hm
  exact cj_rt () [] Tryz.results62 (.tmp rfl .nil) rfl rfl
 ·have hm := ifB_f hb hm
  refine cj_skip ?_
  refine nj_seq ?_
  refine cj_seq ?_
  refine cj_seq ?_
  refine cj_reg ?_
  refine lp rfl (p_mv rfl) ?_
  refine lp rfl (p_len Tryz.underlying45 rfl (.ro 0 rfl)) ?_
  refine lp rfl (p_mv rfl) ?_
  refine lj_seq ?_
  obtain ⟨f7, hf7, hm⟩ := bindS hm
  refine cj_range (γ := Unit) (m := (a0.length : Int)) hf7 () (fun u4 g5 => [(0, s0_.v), (1, s1_.v), (4, .bool false)]) (fun u4 g5 => Sat w0 (keys ([] : List Ent)) A [.ro (RdS R9 (SV.v s0_) a0), .ro (RdS R9 (SV.v s1_) a1)]) ⟨rfl, rfl, rfl, rfl, rfl, trivial⟩ (fun _ h => h.picks [0, 0] rfl) (nat_lt _) (fun _ h => (FactAt.get (F := RdS R9 (SV.v s0_) a0) (.ro 0 rfl) h).1) (fun _ _ => ⟨rfl, rfl, rfl, rfl⟩) ⟨rfl, rfl, rfl, rfl, rfl⟩ rfl rfl rfl (fun u4 g5 e => ?_) (fun aftk6 i1 x2 u4 g5 k6 hx3 hs J hJk6 hBk6 hX I cnk6 => ?_)
  ·have hm := Flow.fin_b e hm
   refine nj_seq ?_
   refine cj_seq ?_
   refine cj_reg ?_
   refine lp rfl (p_as rfl) ?_
   refine lj_seq ?_
   obtain rfl := Option.some.inj hm
   exact cj_rt () [] Tryz.results62 (.tmp rfl .nil) rfl rfl
  ·have hRk6 : ∀ t, k6 = .ret t → some t = some r := fun t e => by rw [hX t e] at hm; exact hm
   have hm := hs
   refine cj_seq ?_
   refine cj_reg ?_
   refine lp rfl (p_mv rfl) ?_
   refine lp rfl (p_as rfl) ?_
   refine lj_seq ?_
   refine cj_seq ?_
   refine cj_quiet (by kernel_rfl) (by kernel_rfl) ?_
   refine q_p rfl (p_mv rfl) ?_
   refine q_p rfl (p_mv rfl) ?_
   refine q_p rfl (p_idx Tryz.underlying45 ty9 rfl rfl (.ro 0 rfl) (getI_nat.trans hx3)) ?_
   refine q_p rfl (p_lde (o := 0) ty9 rfl rfl (.ro 0 rfl) hx3 rfl) ?_
   refine q_p rfl (p_mv rfl) ?_
   refine q_p rfl (p_mv rfl) ?_
   obtain ⟨e8, he8, hm⟩ := bindS hm
   refine q_p rfl (p_idx Tryz.underlying45 ty9 rfl rfl (.ro 1 rfl) he8) ?_
   refine q_p rfl (p_lde (o := 0) ty9 rfl rfl (.ro 1 rfl) (getI_spec he8).2 rfl) ?_
   refine q_p rfl (p_nes rfl rfl) ?_
   refine q_nil ?_
   refine nj_seq ?_
   refine cj_if (b := !(x2.toList == e8.toList)) rfl (fun hb => ?_) (fun hb => ?_)
   ·have hm := ifB_t hb hm
    refine cj_seq ?_
    refine cj_reg ?_
    refine lp rfl (p_as rfl) ?_
    refine lj_seq ?_
    have hm := hRk6 _ (Option.some.inj hm).symm
    obtain rfl := Option.some.inj hm
    exact cj_rt () [] Tryz.results62 (.tmp rfl .nil) rfl rfl
   ·have hm := ifB_f hb hm
    refine cj_skip ?_
    refine nj_blk ?_
    exact cnk6 _ _ () () (hJk6 _ (Option.some.inj hm).symm) ⟨rfl, rfl, rfl, rfl, rfl, trivial⟩ (fun _ h => h.picks [0, 0] rfl)
theorem ok_gleeref2_SameItem (a0 : TItem) (s0_3_ : SV) (a1 : TItem) (s1_3_ : SV) {r : Bool} (hm : m_gleeref2_SameItem a0 a1 = some r) :
  Ctr Tryz.prog 41 [.agg [.string a0.Key, .string a0.Places, .int .i64 a0.Long, s0_3_.v].toArray, .agg [.string a1.Key, .string a1.Places, .int .i64 a1.Long, s1_3_.v].toArray].toArray ([] : List Ent) [RdS R9 (SV.v s0_3_) a0.Parts, RdS R9 (SV.v s1_3_) a1.Parts] (X := Unit) (fun _ => .bool r) (fun _ => []) := by
 unfold m_gleeref2_SameItem at hm
 refine ctr_mk (vs := [(0, .agg [.string a0.Key, .string a0.Places, .int .i64 a0.Long, s0_3_.v].toArray), (1, .agg [.string a1.Key, .string a1.Places, .int .i64 a1.Long, s1_3_.v].toArray)]) Tryz.func41 rfl Tryz.ntmps41 rfl ⟨rfl, rfl, trivial⟩ (fun w0 A => ?_)
 refine cj_seq ?_
 refine cj_reg ?_
 refine r_bx (cs := [.string a0.Key, .string a0.Places, .int .i64 a0.Long, s0_3_.v]) rfl rfl rfl (fun b1 => ?_)
 refine r_bx (cs := [.string a1.Key, .string a1.Places, .int .i64 a1.Long, s1_3_.v]) rfl rfl rfl (fun b2 => ?_)
 refine lp rfl (p_as rfl) ?_
 refine lj_seq ?_
 refine cj_seq ?_
 refine cj_reg ?_
 refine lp rfl (p_fab fl47_0 rfl) ?_
 refine lp rfl (p_lbs ty9 rfl (j := 1) rfl rfl) ?_
 refine lp rfl (p_fab fl47_0 rfl) ?_
 refine lp rfl (p_lbs ty9 rfl (j := 0) rfl rfl) ?_
 refine lp rfl (p_eqs rfl rfl) ?_
 refine lp rfl (p_mv rfl) ?_
 refine lcase (i := 10) (a0.Key.toList == a1.Key.toList) rfl (fun hb => ?_) (fun hb => ?_)
 ·have hm := ifB_t hb hm
  refine lg true rfl rfl rfl ?_
  refine lp rfl (p_fab fl47_1 rfl) ?_
  refine lg true rfl rfl rfl ?_
  refine lp rfl (p_lbs ty9 rfl (j := 1) rfl rfl) ?_
  refine lg true rfl rfl rfl ?_
  refine lp rfl (p_fab fl47_1 rfl) ?_
  refine lg true rfl rfl rfl ?_
  refine lp rfl (p_lbs ty9 rfl (j := 0) rfl rfl) ?_
  refine lg true rfl rfl rfl ?_
  refine lp rfl (p_eqs rfl rfl) ?_
  refine lp rfl (p_pkt rfl rfl) ?_
  refine lp rfl (p_mv rfl) ?_
  refine lcase (i := 17) (a0.Places.toList == a1.Places.toList) rfl (fun hb => ?_) (fun hb => ?_)
  ·have hm := ifB_t hb hm
   refine lg true rfl rfl rfl ?_
   refine lp rfl (p_fab fl47_2 rfl) ?_
   refine lg true rfl rfl rfl ?_
   refine lp rfl (p_lbs ty3 rfl (j := 1) rfl rfl) ?_
   refine lg true rfl rfl rfl ?_
   refine lp rfl (p_fab fl47_2 rfl) ?_
   refine lg true rfl rfl rfl ?_
   refine lp rfl (p_lbs ty3 rfl (j := 0) rfl rfl) ?_
   refine lg true rfl rfl rfl ?_
   refine lp rfl (p_eql rfl rfl) ?_
   refine lp rfl (p_pkt rfl rfl) ?_
   refine lp rfl (p_mv rfl) ?_
   refine lcase (i := 24) (a0.Long == a1.Long) rfl (fun hb => ?_) (fun hb => ?_)
   ·have hm := ifB_t hb hm
    refine lg true rfl rfl rfl ?_
    refine lp rfl (p_fab fl47_3 rfl) ?_
    refine lg true rfl rfl rfl ?_
    refine lp rfl (p_lbs ty45 rfl (j := 1) rfl rfl) ?_
    refine lg true rfl rfl rfl ?_
    refine lp rfl (p_fab fl47_3 rfl) ?_
    refine lg true rfl rfl rfl ?_
    refine lp rfl (p_lbs ty45 rfl (j := 0) rfl rfl) ?_
    refine lg true rfl rfl rfl ?_
    obtain ⟨y3, hy3, hm⟩ := bindS hm
    refine r_call [] cf62 rfl rfl (ok_slices_Equal_string_string s0_3_ a0.Parts s1_3_ a1.Parts hy3) rfl rfl (.cons (.ro 2 rfl) (.cons (.ro 3 rfl) .nil)) (fun _ => rfl) rfl (fun _ => ?_)
    refine lp rfl (p_pkt rfl rfl) ?_
    refine lp rfl (p_as rfl) ?_
    refine lj_seq ?_
    obtain rfl := Option.some.inj hm
    exact cj_rt () [] Tryz.results41 (.tmp rfl .nil) rfl rfl
   ·have hm := ifB_f hb hm
    refine ls true rfl rfl rfl rfl ?_
    refine ls true rfl rfl rfl rfl ?_
    refine ls true rfl rfl rfl rfl ?_
    refine ls true rfl rfl rfl rfl ?_
    refine ls true rfl rfl rfl rfl ?_
    refine lp rfl (p_pkf rfl rfl) ?_
    refine lp rfl (p_as rfl) ?_
    refine lj_seq ?_
    obtain rfl := Option.some.inj hm
    exact cj_rt () [] Tryz.results41 (.tmp rfl .nil) rfl rfl
  ·have hm := ifB_f hb hm
   refine ls true rfl rfl rfl rfl ?_
   refine ls true rfl rfl rfl rfl ?_
   refine ls true rfl rfl rfl rfl ?_
   refine ls true rfl rfl rfl rfl ?_
   refine ls true rfl rfl rfl rfl ?_
   refine lp rfl (p_pkf rfl rfl) ?_
   refine lp rfl (p_mv rfl) ?_
   refine ls true rfl rfl rfl rfl ?_
   refine ls true rfl rfl rfl rfl ?_
   refine ls true rfl rfl rfl rfl ?_
   refine ls true rfl rfl rfl rfl ?_
   refine ls true rfl rfl rfl rfl ?_
   refine lp rfl (p_pkf rfl rfl) ?_
   refine lp rfl (p_as rfl) ?_
   refine lj_seq ?_
   obtain rfl := Option.some.inj hm
   exact cj_rt () [] Tryz.results41 (.tmp rfl .nil) rfl rfl
 ·have hm := ifB_f hb hm
  refine ls true rfl rfl rfl rfl ?_
  refine ls true rfl rfl rfl rfl ?_
  refine ls true rfl rfl rfl rfl ?_
  refine ls true rfl rfl rfl rfl ?_
  refine ls true rfl rfl rfl rfl ?_
  refine lp rfl (p_pkf rfl rfl) ?_
  refine lp rfl (p_mv rfl) ?_
  refine ls true rfl rfl rfl rfl ?_
  refine ls true rfl rfl rfl rfl ?_
  refine ls true rfl rfl rfl rfl ?_
  refine ls true rfl rfl rfl rfl ?_
  refine ls true rfl rfl rfl rfl ?_
  refine lp rfl (p_pkf rfl rfl) ?_
  refine lp rfl (p_mv rfl) ?_
  refine ls true rfl rfl rfl rfl ?_
  refine ls true rfl rfl rfl rfl ?_
  refine ls true rfl rfl rfl rfl ?_
  refine ls true rfl rfl rfl rfl ?_
  refine ls true rfl rfl rfl rfl ?_
  refine lp rfl (p_pkf rfl rfl) ?_
  refine lp rfl (p_as rfl) ?_
  refine lj_seq ?_
  obtain rfl := Option.some.inj hm
  exact cj_rt () [] Tryz.results41 (.tmp rfl .nil) rfl rfl
theorem ok_slices_EqualFunc_api_Item_api_Item_api_Item_api_Item__gleeref2_SameItem (s0_ : SV) (xg0_ : List (TItem × SV)) (a0 : (List TItem)) (s1_ : SV) (xg1_ : List (TItem × SV)) (a1 : (List TItem)) {r : Bool} (hm : m_slices_EqualFunc_api_Item_api_Item_api_Item_api_Item__gleeref2_SameItem a0 a1 = some r) :
  Ctr Tryz.prog 40 [s0_.v, s1_.v, .func (.func 41) #[] [].toArray].toArray ([] : List Ent) [Lk N47 a0 xg0_, RdS N47.R (SV.v s0_) xg0_, Lk N47 a1 xg1_, RdS N47.R (SV.v s1_) xg1_] (X := Unit) (fun _ => .bool r) (fun _ => []) := by
 unfold m_slices_EqualFunc_api_Item_api_Item_api_Item_api_Item__gleeref2_SameItem at hm
 refine ctr_mk (vs := [(0, s0_.v), (1, s1_.v), (2, .func (.func 41) #[] [].toArray)]) Tryz.func40 rfl Tryz.ntmps40 rfl ⟨rfl, rfl, rfl, trivial⟩ (fun w0 A => ?_)
 refine cj_pure (F := Lk N47 a0 xg0_) (.ro 0 rfl) (fun _ h => h.1) (fun hL0_ => ?_)
 refine cj_pure (F := Lk N47 a1 xg1_) (.ro 2 rfl) (fun _ h => h.1) (fun hL1_ => ?_)
 refine cj_seq ?_
 refine cj_reg ?_
 refine lp rfl (p_as rfl) ?_
 refine lj_seq ?_
 refine cj_seq ?_
 refine cj_seq ?_
 refine cj_reg ?_
 refine lp rfl (p_mv rfl) ?_
 refine lp rfl (p_lenG hL0_ Tryz.underlying26 rfl (.ro 1 rfl)) ?_
 refine lp rfl (p_mv rfl) ?_
 refine lp rfl (p_lenG hL1_ Tryz.underlying26 rfl (.ro 3 rfl)) ?_
 refine lp rfl (p_neq rfl rfl) ?_
 refine lj_seq ?_
 refine cj_if (b := (a0.length : Int) != (a1.length : Int)) rfl (fun hb => ?_) (fun hb => ?_)
 ·have hm := ifB_t hb hm
  refine cj_seq ?_
  refine cj_reg ?_
  refine lp rfl (p_as rfl) ?_
  refine lj_seq ?_
  obtain rfl := Option.some.inj hm
  exact cj_rt () [] Tryz.results40 (.tmp rfl .nil) rfl rfl
 ·have hm := ifB_f hb hm
  refine cj_skip ?_
  refine nj_seq ?_
  refine cj_seq ?_
  refine cj_seq ?_
  refine cj_reg ?_
  refine lp rfl (p_mv rfl) ?_
  refine lp rfl (p_lenG hL0_ Tryz.underlying26 rfl (.ro 1 rfl)) ?_
  refine lp rfl (p_mv rfl) ?_
  refine lj_seq ?_
  obtain ⟨f7, hf7, hm⟩ := bindS hm
  refine cj_range (γ := Unit) (m := (a0.length : Int)) hf7 () (fun u4 g5 => [(1, s1_.v), (2, .func (.func 41) #[] [].toArray), (6, .bool false), (15, s0_.v)]) (fun u4 g5 => Sat w0 (keys ([] : List Ent)) A [.ro (Lk N47 a0 xg0_), .ro (RdS N47.R (SV.v s0_) xg0_), .ro (Lk N47 a1 xg1_), .ro (RdS N47.R (SV.v s1_) xg1_)]) ⟨rfl, rfl, rfl, rfl, rfl, rfl, trivial⟩ (fun _ h => h.picks [0, 0, 0, 0] rfl) (nat_lt _) (fun _ h => by have h1 := (FactAt.get (F := RdS N47.R (SV.v s0_) xg0_) (.ro 1 rfl) h).1; rw [lk_len hL0_] at h1; exact h1) (fun _ _ => ⟨rfl, rfl, rfl, rfl⟩) ⟨rfl, rfl, rfl, rfl, rfl⟩ rfl rfl rfl (fun u4 g5 e => ?_) (fun aftk6 i1 x2 u4 g5 k6 hx3 hs J hJk6 hBk6 hX I cnk6 => ?_)
  ·have hm := Flow.fin_b e hm
   refine nj_seq ?_
   refine cj_seq ?_
   refine cj_reg ?_
   refine lp rfl (p_as rfl) ?_
   refine lj_seq ?_
   obtain rfl := Option.some.inj hm
   exact cj_rt () [] Tryz.results40 (.tmp rfl .nil) rfl rfl
  ·have hRk6 : ∀ t, k6 = .ret t → some t = some r := fun t e => by rw [hX t e] at hm; exact hm
   have hm := hs
   refine cj_seq ?_
   refine cj_reg ?_
   refine lp rfl (p_mv rfl) ?_
   obtain ⟨gx2, hx3G⟩ := lk_get hL0_ hx3
   refine lp rfl (p_idx Tryz.underlying26 ty47 rfl rfl (.ro 1 rfl) (getI_nat.trans hx3G)) ?_
   refine lp rfl (p_leaN (cs := [.string x2.Key, .string x2.Places, .int .i64 x2.Long, gx2.v]) ty47 rfl (.ro 1 rfl) hx3G rfl) ?_
   refine r_al ty47 rfl (fun b8 => ?_)
   refine lp rfl (p_as rfl) ?_
   refine r_sb (vs := [.string x2.Key, .string x2.Places, .int .i64 x2.Long, gx2.v]) (j := 0) ty47 rfl rfl rfl rfl rfl rfl rfl ?_
   refine lj_seq ?_
   refine cj_seq ?_
   refine cj_reg ?_
   refine lp rfl (p_mv rfl) ?_
   refine lp rfl (p_mv rfl) ?_
   obtain ⟨e9, he9, hm⟩ := bindS hm
   obtain ⟨ge9, he9G⟩ := lk_getI hL1_ he9
   refine lp rfl (p_idx Tryz.underlying26 ty47 rfl rfl (.ro 4 rfl) he9G) ?_
   refine lp rfl (p_leaN (cs := [.string e9.Key, .string e9.Places, .int .i64 e9.Long, ge9.v]) ty47 rfl (.ro 4 rfl) (getI_spec he9G).2 rfl) ?_
   refine r_al ty47 rfl (fun b10 => ?_)
   refine r_sb (vs := [.string e9.Key, .string e9.Places, .int .i64 e9.Long, ge9.v]) (j := 0) ty47 rfl rfl rfl rfl rfl rfl rfl ?_
   refine lj_seq ?_
   refine cj_seq ?_
   refine cj_reg ?_
   refine lp rfl (p_mv rfl) ?_
   refine lp rfl (p_lbw ty47 rfl (j := 1) rfl rfl) ?_
   refine lp rfl (p_lbw ty47 rfl (j := 0) rfl rfl) ?_
   obtain ⟨y11, hy11, hm⟩ := bindS hm
   refine r_call [] cf41 rfl rfl (ok_gleeref2_SameItem x2 gx2 e9 ge9 hy11) rfl rfl (.cons (.imp (.ro 2 rfl) (fun _ h => (Lk.at_ h hx3G))) (.cons (.imp (.ro 4 rfl) (fun _ h => (Lk.at_ h (getI_spec he9G).2))) .nil)) (fun _ => rfl) rfl (fun _ => ?_)
   refine lp rfl (p_not rfl) ?_
   refine lj_seq ?_
   refine cj_if (b := !y11) rfl (fun hb => ?_) (fun hb => ?_)
   ·have hm := ifB_t hb hm
    refine cj_seq ?_
    refine cj_reg ?_
    refine lp rfl (p_as rfl) ?_
    refine lj_seq ?_
    have hm := hRk6 _ (Option.some.inj hm).symm
    obtain rfl := Option.some.inj hm
    exact cj_rt () [] Tryz.results40 (.tmp rfl .nil) rfl rfl
   ·have hm := ifB_f hb hm
    refine cj_skip ?_
    refine nj_blk ?_
    exact cnk6 _ _ () () (hJk6 _ (Option.some.inj hm).symm) ⟨rfl, rfl, rfl, rfl, rfl, rfl, trivial⟩ (fun _ h => h.picks [2, 2, 2, 2] rfl)
theorem ok_gleeref2_SameProgram (a0 : TProgram) (s0_0_ : SV) (xg0_0_ : List (TItem × SV)) (a1 : TProgram) (s1_0_ : SV) (xg1_0_ : List (TItem × SV)) {r : Bool} (hm : m_gleeref2_SameProgram a0 a1 = some r) :
  Ctr Tryz.prog 11 [.agg [s0_0_.v, .int .i64 a0.Change, .int .i64 a0.Clap, .int .i64 a0.Break, .int .i64 a0.Half].toArray, .agg [s1_0_.v, .int .i64 a1.Change, .int .i64 a1.Clap, .int .i64 a1.Break, .int .i64 a1.Half].toArray].toArray ([] : List Ent) [Lk N47 a0.Items xg0_0_, RdS N47.R (SV.v s0_0_) xg0_0_, Lk N47 a1.Items xg1_0_, RdS N47.R (SV.v s1_0_) xg1_0_] (X := Unit) (fun _ => .bool r) (fun _ => []) := by
 unfold m_gleeref2_SameProgram at hm
 refine ctr_mk (vs := [(0, .agg [s0_0_.v, .int .i64 a0.Change, .int .i64 a0.Clap, .int .i64 a0.Break, .int .i64 a0.Half].toArray), (1, .agg [s1_0_.v, .int .i64 a1.Change, .int .i64 a1.Clap, .int .i64 a1.Break, .int .i64 a1.Half].toArray)]) Tryz.func11 rfl Tryz.ntmps11 rfl ⟨rfl, rfl, trivial⟩ (fun w0 A => ?_)
 refine cj_pure (F := Lk N47 a0.Items xg0_0_) (.ro 0 rfl) (fun _ h => h.1) (fun hL0_0_ => ?_)
 refine cj_pure (F := Lk N47 a1.Items xg1_0_) (.ro 2 rfl) (fun _ h => h.1) (fun hL1_0_ => ?_)
 refine cj_seq ?_
 refine cj_reg ?_
 refine r_bx (cs := [s0_0_.v, .int .i64 a0.Change, .int .i64 a0.Clap, .int .i64 a0.Break, .int .i64 a0.Half]) rfl rfl rfl (fun b1 => ?_)
 refine r_bx (cs := [s1_0_.v, .int .i64 a1.Change, .int .i64 a1.Clap, .int .i64 a1.Break, .int .i64 a1.Half]) rfl rfl rfl (fun b2 => ?_)
 refine lp rfl (p_as rfl) ?_
 refine lj_seq ?_
 refine cj_seq ?_
 refine cj_reg ?_
 refine lp rfl (p_fab fl28_1 rfl) ?_
 refine lp rfl (p_lbs ty3 rfl (j := 1) rfl rfl) ?_
 refine lp rfl (p_fab fl28_1 rfl) ?_
 refine lp rfl (p_lbs ty3 rfl (j := 0) rfl rfl) ?_
 refine lp rfl (p_eql rfl rfl) ?_
 refine lp rfl (p_mv rfl) ?_
 refine lcase (i := 10) (a0.Change == a1.Change) rfl (fun hb => ?_) (fun hb => ?_)
 ·have hm := ifB_t hb hm
  refine lg true rfl rfl rfl ?_
  refine lp rfl (p_fab fl28_2 rfl) ?_
  refine lg true rfl rfl rfl ?_
  refine lp rfl (p_lbs ty3 rfl (j := 1) rfl rfl) ?_
  refine lg true rfl rfl rfl ?_
  refine lp rfl (p_fab fl28_2 rfl) ?_
  refine lg true rfl rfl rfl ?_
  refine lp rfl (p_lbs ty3 rfl (j := 0) rfl rfl) ?_
  refine lg true rfl rfl rfl ?_
  refine lp rfl (p_eql rfl rfl) ?_
  refine lp rfl (p_pkt rfl rfl) ?_
  refine lp rfl (p_mv rfl) ?_
  refine lcase (i := 17) (a0.Clap == a1.Clap) rfl (fun hb => ?_) (fun hb => ?_)
  ·have hm := ifB_t hb hm
   refine lg true rfl rfl rfl ?_
   refine lp rfl (p_fab fl28_3 rfl) ?_
   refine lg true rfl rfl rfl ?_
   refine lp rfl (p_lbs ty3 rfl (j := 1) rfl rfl) ?_
   refine lg true rfl rfl rfl ?_
   refine lp rfl (p_fab fl28_3 rfl) ?_
   refine lg true rfl rfl rfl ?_
   refine lp rfl (p_lbs ty3 rfl (j := 0) rfl rfl) ?_
   refine lg true rfl rfl rfl ?_
   refine lp rfl (p_eql rfl rfl) ?_
   refine lp rfl (p_pkt rfl rfl) ?_
   refine lp rfl (p_mv rfl) ?_
   refine lcase (i := 24) (a0.Break == a1.Break) rfl (fun hb => ?_) (fun hb => ?_)
   ·have hm := ifB_t hb hm
    refine lg true rfl rfl rfl ?_
    refine lp rfl (p_fab fl28_4 rfl) ?_
    refine lg true rfl rfl rfl ?_
    refine lp rfl (p_lbs ty3 rfl (j := 1) rfl rfl) ?_
    refine lg true rfl rfl rfl ?_
    refine lp rfl (p_fab fl28_4 rfl) ?_
    refine lg true rfl rfl rfl ?_
    refine lp rfl (p_lbs ty3 rfl (j := 0) rfl rfl) ?_
    refine lg true rfl rfl rfl ?_
    refine lp rfl (p_eql rfl rfl) ?_
    refine lp rfl (p_pkt rfl rfl) ?_
    refine lp rfl (p_mv rfl) ?_
    refine lcase (i := 31) (a0.Half == a1.Half) rfl (fun hb => ?_) (fun hb => ?_)
    ·have hm := ifB_t hb hm
     refine lg true rfl rfl rfl ?_
     refine lp rfl (p_fab fl28_0 rfl) ?_
     refine lg true rfl rfl rfl ?_
     refine lp rfl (p_lbs ty26 rfl (j := 1) rfl rfl) ?_
     refine lg true rfl rfl rfl ?_
     refine lp rfl (p_fab fl28_0 rfl) ?_
     refine lg true rfl rfl rfl ?_
     refine lp rfl (p_lbs ty26 rfl (j := 0) rfl rfl) ?_
     refine lg true rfl rfl rfl ?_
     obtain ⟨y3, hy3, hm⟩ := bindS hm
     refine r_call [] cf40 rfl rfl (ok_slices_EqualFunc_api_Item_api_Item_api_Item_api_Item__gleeref2_SameItem s0_0_ xg0_0_ a0.Items s1_0_ xg1_0_ a1.Items hy3) rfl rfl (.cons (.ro 2 rfl) (.cons (.ro 3 rfl) (.cons (.ro 4 rfl) (.cons (.ro 5 rfl) .nil)))) (fun _ => rfl) rfl (fun _ => ?_)
     refine lp rfl (p_pkt rfl rfl) ?_
     refine lp rfl (p_as rfl) ?_
     refine lj_seq ?_
     obtain rfl := Option.some.inj hm
     exact cj_rt () [] Tryz.results11 (.tmp rfl .nil) rfl rfl
    ·have hm := ifB_f hb hm
     refine ls true rfl rfl rfl rfl ?_
     refine ls true rfl rfl rfl rfl ?_
     refine ls true rfl rfl rfl rfl ?_
     refine ls true rfl rfl rfl rfl ?_
     refine ls true rfl rfl rfl rfl ?_
     refine lp rfl (p_pkf rfl rfl) ?_
     refine lp rfl (p_as rfl) ?_
     refine lj_seq ?_
     obtain rfl := Option.some.inj hm
     exact cj_rt () [] Tryz.results11 (.tmp rfl .nil) rfl rfl
   ·have hm := ifB_f hb hm
    refine ls true rfl rfl rfl rfl ?_
    refine ls true rfl rfl rfl rfl ?_
    refine ls true rfl rfl rfl rfl ?_
    refine ls true rfl rfl rfl rfl ?_
    refine ls true rfl rfl rfl rfl ?_
    refine lp rfl (p_pkf rfl rfl) ?_
    refine lp rfl (p_mv rfl) ?_
    refine ls true rfl rfl rfl rfl ?_
    refine ls true rfl rfl rfl rfl ?_
    refine ls true rfl rfl rfl rfl ?_
    refine ls true rfl rfl rfl rfl ?_
    refine ls true rfl rfl rfl rfl ?_
    refine lp rfl (p_pkf rfl rfl) ?_
    refine lp rfl (p_as rfl) ?_
    refine lj_seq ?_
    obtain rfl := Option.some.inj hm
    exact cj_rt () [] Tryz.results11 (.tmp rfl .nil) rfl rfl
  ·have hm := ifB_f hb hm
   refine ls true rfl rfl rfl rfl ?_
   refine ls true rfl rfl rfl rfl ?_
   refine ls true rfl rfl rfl rfl ?_
   refine ls true rfl rfl rfl rfl ?_
   refine ls true rfl rfl rfl rfl ?_
   refine lp rfl (p_pkf rfl rfl) ?_
   refine lp rfl (p_mv rfl) ?_
   refine ls true rfl rfl rfl rfl ?_
   refine ls true rfl rfl rfl rfl ?_
   refine ls true rfl rfl rfl rfl ?_
   refine ls true rfl rfl rfl rfl ?_
   refine ls true rfl rfl rfl rfl ?_
   refine lp rfl (p_pkf rfl rfl) ?_
   refine lp rfl (p_mv rfl) ?_
   refine ls true rfl rfl rfl rfl ?_
   refine ls true rfl rfl rfl rfl ?_
   refine ls true rfl rfl rfl rfl ?_
   refine ls true rfl rfl rfl rfl ?_
   refine ls true rfl rfl rfl rfl ?_
   refine lp rfl (p_pkf rfl rfl) ?_
   refine lp rfl (p_as rfl) ?_
   refine lj_seq ?_
   obtain rfl := Option.some.inj hm
   exact cj_rt () [] Tryz.results11 (.tmp rfl .nil) rfl rfl
 ·have hm := ifB_f hb hm
  refine ls true rfl rfl rfl rfl ?_
  refine ls true rfl rfl rfl rfl ?_
  refine ls true rfl rfl rfl rfl ?_
  refine ls true rfl rfl rfl rfl ?_
  refine ls true rfl rfl rfl rfl ?_
  refine lp rfl (p_pkf rfl rfl) ?_
  refine lp rfl (p_mv rfl) ?_
  refine ls true rfl rfl rfl rfl ?_
  refine ls true rfl rfl rfl rfl ?_
  refine ls true rfl rfl rfl rfl ?_
  refine ls true rfl rfl rfl rfl ?_
  refine ls true rfl rfl rfl rfl ?_
  refine lp rfl (p_pkf rfl rfl) ?_
  refine lp rfl (p_mv rfl) ?_
  refine ls true rfl rfl rfl rfl ?_
  refine ls true rfl rfl rfl rfl ?_
  refine ls true rfl rfl rfl rfl ?_
  refine ls true rfl rfl rfl rfl ?_
  refine ls true rfl rfl rfl rfl ?_
  refine lp rfl (p_pkf rfl rfl) ?_
  refine lp rfl (p_mv rfl) ?_
  refine ls true rfl rfl rfl rfl ?_
  refine ls true rfl rfl rfl rfl ?_
  refine ls true rfl rfl rfl rfl ?_
  refine ls true rfl rfl rfl rfl ?_
  refine ls true rfl rfl rfl rfl ?_
  refine lp rfl (p_pkf rfl rfl) ?_
  refine lp rfl (p_as rfl) ?_
  refine lj_seq ?_
  obtain rfl := Option.some.inj hm
  exact cj_rt () [] Tryz.results11 (.tmp rfl .nil) rfl rfl
theorem ok_concert_change (a0 : TProgram) (s0_0_ : SV) (xg0_0_ : List (TItem × SV)) (a1 : TItem) (s1_3_ : SV) (a2 : TItem) (s2_3_ : SV) {r : Int} (hm : m_concert_change a0 a1 a2 = some r) :
  Ctr Tryz.prog 103 [.agg [s0_0_.v, .int .i64 a0.Change, .int .i64 a0.Clap, .int .i64 a0.Break, .int .i64 a0.Half].toArray, .agg [.string a1.Key, .string a1.Places, .int .i64 a1.Long, s1_3_.v].toArray, .agg [.string a2.Key, .string a2.Places, .int .i64 a2.Long, s2_3_.v].toArray].toArray ([] : List Ent) [Lk N47 a0.Items xg0_0_, RdS N47.R (SV.v s0_0_) xg0_0_, RdS R9 (SV.v s1_3_) a1.Parts, RdS R9 (SV.v s2_3_) a2.Parts] (X := Unit) (fun _ => .int .i64 r) (fun _ => []) := by
 unfold m_concert_change at hm
 refine ctr_mk (vs := [(0, .agg [s0_0_.v, .int .i64 a0.Change, .int .i64 a0.Clap, .int .i64 a0.Break, .int .i64 a0.Half].toArray), (1, .agg [.string a1.Key, .string a1.Places, .int .i64 a1.Long, s1_3_.v].toArray), (2, .agg [.string a2.Key, .string a2.Places, .int .i64 a2.Long, s2_3_.v].toArray)]) Tryz.func103 rfl Tryz.ntmps103 rfl ⟨rfl, rfl, rfl, trivial⟩ (fun w0 A => ?_)
 refine cj_pure (F := Lk N47 a0.Items xg0_0_) (.ro 0 rfl) (fun _ h => h.1) (fun hL0_0_ => ?_)
 refine cj_seq ?_
 refine cj_reg ?_
 refine r_bx (cs := [s0_0_.v, .int .i64 a0.Change, .int .i64 a0.Clap, .int .i64 a0.Break, .int .i64 a0.Half]) rfl rfl rfl (fun b1 => ?_)
 refine r_bx (cs := [.string a1.Key, .string a1.Places, .int .i64 a1.Long, s1_3_.v]) rfl rfl rfl (fun b2 => ?_)
 refine r_bx (cs := [.string a2.Key, .string a2.Places, .int .i64 a2.Long, s2_3_.v]) rfl rfl rfl (fun b3 => ?_)
 refine lp rfl (p_as rfl) ?_
 refine lj_seq ?_
 refine cj_seq ?_
 refine cj_seq ?_
 refine cj_reg ?_
 refine lp rfl (p_fab fl47_1 rfl) ?_
 refine lp rfl (p_lbs ty9 rfl (j := 1) rfl rfl) ?_
 refine lp rfl (p_fab fl47_1 rfl) ?_
 refine lp rfl (p_lbs ty9 rfl (j := 0) rfl rfl) ?_
 refine lp rfl (p_nes rfl rfl) ?_
 refine lj_seq ?_
 refine cj_if (b := !(a1.Places.toList == a2.Places.toList)) rfl (fun hb => ?_) (fun hb => ?_)
 ·have hm := ifB_t hb hm
  refine cj_seq ?_
  refine cj_reg ?_
  refine lp rfl (p_fab fl28_1 rfl) ?_
  refine lp rfl (p_lbs ty3 rfl (j := 2) rfl rfl) ?_
  refine lp rfl (p_as rfl) ?_
  refine lj_seq ?_
  obtain rfl := Option.some.inj hm
  exact cj_rt () [] Tryz.results103 (.tmp rfl .nil) rfl rfl
 ·have hm := ifB_f hb hm
  refine cj_skip ?_
  refine nj_seq ?_
  refine cj_seq ?_
  refine cj_reg ?_
  refine lp rfl (p_fab fl28_2 rfl) ?_
  refine lp rfl (p_lbs ty3 rfl (j := 2) rfl rfl) ?_
  refine lp rfl (p_as rfl) ?_
  refine lj_seq ?_
  obtain rfl := Option.some.inj hm
  exact cj_rt () [] Tryz.results103 (.tmp rfl .nil) rfl rfl
theorem ok_concert_behind (a0 : TProgram) (s0_0_ : SV) (xg0_0_ : List (TItem × SV)) (a1 : Int) {r : Int} (hm : m_concert_behind a0 a1 = some r) :
  Ctr Tryz.prog 83 [.agg [s0_0_.v, .int .i64 a0.Change, .int .i64 a0.Clap, .int .i64 a0.Break, .int .i64 a0.Half].toArray, .int .i64 a1].toArray ([] : List Ent) [Lk N47 a0.Items xg0_0_, RdS N47.R (SV.v s0_0_) xg0_0_] (X := Unit) (fun _ => .int .i64 r) (fun _ => []) := by
 unfold m_concert_behind at hm
 refine ctr_mk (vs := [(0, .agg [s0_0_.v, .int .i64 a0.Change, .int .i64 a0.Clap, .int .i64 a0.Break, .int .i64 a0.Half].toArray), (1, .int .i64 a1)]) Tryz.func83 rfl Tryz.ntmps83 rfl ⟨rfl, rfl, trivial⟩ (fun w0 A => ?_)
 refine cj_pure (F := Lk N47 a0.Items xg0_0_) (.ro 0 rfl) (fun _ h => h.1) (fun hL0_0_ => ?_)
 refine cj_seq ?_
 refine cj_reg ?_
 refine r_bx (cs := [s0_0_.v, .int .i64 a0.Change, .int .i64 a0.Clap, .int .i64 a0.Break, .int .i64 a0.Half]) rfl rfl rfl (fun b1 => ?_)
 refine lp rfl (p_as rfl) ?_
 refine lj_seq ?_
 refine cj_seq ?_
 refine cj_seq ?_
 refine cj_reg ?_
 refine lp rfl (p_mv rfl) ?_
 refine lp rfl (p_fab fl28_4 rfl) ?_
 refine lp rfl (p_lbs ty3 rfl (j := 0) rfl rfl) ?_
 refine lp rfl (p_eql rfl rfl) ?_
 refine lj_seq ?_
 refine cj_if (b := a1 == a0.Half) rfl (fun hb => ?_) (fun hb => ?_)
 ·have hm := ifB_t hb hm
  refine cj_seq ?_
  refine cj_reg ?_
  refine lp rfl (p_fab fl28_3 rfl) ?_
  refine lp rfl (p_lbs ty3 rfl (j := 0) rfl rfl) ?_
  refine lp rfl (p_as rfl) ?_
  refine lj_seq ?_
  obtain rfl := Option.some.inj hm
  exact cj_rt () [] Tryz.results83 (.tmp rfl .nil) rfl rfl
 ·have hm := ifB_f hb hm
  refine cj_skip ?_
  refine nj_seq ?_
  refine cj_seq ?_
  refine cj_quiet (by kernel_rfl) (by kernel_rfl) ?_
  refine q_p rfl (p_lbw ty28 rfl (j := 0) rfl rfl) ?_
  refine q_p rfl (p_fab fl28_0 rfl) ?_
  refine q_p rfl (p_lbs ty26 rfl (j := 0) rfl rfl) ?_
  refine q_p rfl (p_mv rfl) ?_
  obtain ⟨e2, he2, hm⟩ := bindS hm
  obtain ⟨ge2, he2G⟩ := lk_getI hL0_0_ he2
  refine q_p rfl (p_idx Tryz.underlying26 ty47 rfl rfl (.ro 2 rfl) he2G) ?_
  refine q_p rfl (p_leaN (cs := [.string e2.Key, .string e2.Places, .int .i64 e2.Long, ge2.v]) ty47 rfl (.ro 2 rfl) (getI_spec he2G).2 rfl) ?_
  refine q_p rfl (p_fab fl28_0 rfl) ?_
  refine q_p rfl (p_lbs ty26 rfl (j := 0) rfl rfl) ?_
  refine q_p rfl (p_mv rfl) ?_
  refine q_p rfl (p_add rfl rfl) ?_
  obtain ⟨e3, he3, hm⟩ := bindS hm
  obtain ⟨ge3, he3G⟩ := lk_getI hL0_0_ he3
  refine q_p rfl (p_idx Tryz.underlying26 ty47 rfl rfl (.ro 2 rfl) he3G) ?_
  refine q_p rfl (p_leaN (cs := [.string e3.Key, .string e3.Places, .int .i64 e3.Long, ge3.v]) ty47 rfl (.ro 2 rfl) (getI_spec he3G).2 rfl) ?_
  obtain ⟨y4, hy4, hm⟩ := bindS hm
  refine q_call (.int .i64 y4) cf103 rfl rfl (ok_concert_change a0 s0_0_ xg0_0_ e2 ge2 e3 ge3 hy4) (.cons (.ro 1 rfl) (.cons (.ro 2 rfl) (.cons (.imp (.ro 1 rfl) (fun _ h => (Lk.at_ h (getI_spec he2G).2))) (.cons (.imp (.ro 1 rfl) (fun _ h => (Lk.at_ h (getI_spec he3G).2))) .nil)))) (fun _ => rfl) (fun _ => rfl) rfl ?_
  refine q_p rfl (p_as rfl) ?_
  refine q_nil ?_
  refine nj_seq ?_
  obtain rfl := Option.some.inj hm
  exact cj_rt () [] Tryz.results83 (.tmp rfl .nil) rfl rfl
theorem ok_concert_begins (a0 : TProgram) (s0_0_ : SV) (xg0_0_ : List (TItem × SV)) {r : (List Int) × Int} (hm : m_concert_begins a0 = some r) :
  Ctr Tryz.prog 63 [.agg [s0_0_.v, .int .i64 a0.Change, .int .i64 a0.Clap, .int .i64 a0.Break, .int .i64 a0.Half].toArray].toArray ([] : List Ent) [Lk N47 a0.Items xg0_0_, RdS N47.R (SV.v s0_0_) xg0_0_] (X := SV) (fun s => .tuple [s.v, .int .i64 r.2].toArray) (fun s => [.row R3 (SV.v s) r.1]) := by
 unfold m_concert_begins at hm
 refine ctr_mk (vs := [(0, .agg [s0_0_.v, .int .i64 a0.Change, .int .i64 a0.Clap, .int .i64 a0.Break, .int .i64 a0.Half].toArray)]) Tryz.func63 rfl Tryz.ntmps63 rfl ⟨rfl, trivial⟩ (fun w0 A => ?_)
 refine cj_pure (F := Lk N47 a0.Items xg0_0_) (.ro 0 rfl) (fun _ h => h.1) (fun hL0_0_ => ?_)
 refine cj_seq ?_
 refine cj_reg ?_
 refine r_bx (cs := [s0_0_.v, .int .i64 a0.Change, .int .i64 a0.Clap, .int .i64 a0.Break, .int .i64 a0.Half]) rfl rfl rfl (fun b1 => ?_)
 refine lp rfl (p_as rfl) ?_
 refine lp rfl (p_as rfl) ?_
 refine lj_seq ?_
 refine cj_seq ?_
 refine cj_reg ?_
 refine lp rfl (p_as rfl) ?_
 refine lj_seq ?_
 refine cj_seq ?_
 refine cj_reg ?_
 refine lp rfl (p_as rfl) ?_
 refine lj_seq ?_
 refine cj_seq ?_
 refine cj_seq ?_
 refine cj_reg ?_
 refine lp rfl (p_fab fl28_0 rfl) ?_
 refine lp rfl (p_lbs ty26 rfl (j := 0) rfl rfl) ?_
 refine lp rfl (p_lenG hL0_0_ Tryz.underlying26 rfl (.ro 2 rfl)) ?_
 refine lp rfl (p_mv rfl) ?_
 refine lj_seq ?_
 refine cj_nil R3 ?_
 obtain ⟨f9, hf9, hm⟩ := bindS hm
 refine cj_range (γ := SV) (m := (a0.Items.length : Int)) hf9 nilS (fun u6 g7 => [(1, .pointer (some ⟨b1, 0, none⟩)), (2, .slice none 0 0), (3, .int .i64 0), (4, g7.v), (5, .int .i64 u6.1), (9, s0_0_.v)]) (fun u6 g7 => Sat w0 (keys ([] : List Ent)) A [.box b1 28 [s0_0_.v, .int .i64 a0.Change, .int .i64 a0.Clap, .int .i64 a0.Break, .int .i64 a0.Half], .ro (Lk N47 a0.Items xg0_0_), .ro (RdS N47.R (SV.v s0_0_) xg0_0_), .row R3 (SV.v g7) u6.2]) ⟨rfl, rfl, rfl, rfl, rfl, rfl, rfl, rfl, trivial⟩ (fun _ h => h.picks [1, 1, 1, 0] rfl) (nat_lt _) (fun _ h => by have h1 := (FactAt.get (F := RdS N47.R (SV.v s0_0_) xg0_0_) (.ro 3 rfl) h).1; rw [lk_len hL0_0_] at h1; exact h1) (fun _ _ => ⟨rfl, rfl, rfl, rfl⟩) ⟨rfl, rfl, rfl, rfl, rfl⟩ rfl rfl rfl (fun u6 g7 e => ?_) (fun aftk8 i2 x3 u6 g7 k8 hx4 hs J hJk8 hBk8 hX I cnk8 => ?_)
 ·have hm := Flow.fin_b e hm
  refine nj_seq ?_
  refine cj_seq ?_
  refine cj_reg ?_
  refine lp rfl (p_mv rfl) ?_
  refine lp rfl (p_mv rfl) ?_
  refine lp rfl (p_as rfl) ?_
  refine lp rfl (p_as rfl) ?_
  refine lj_seq ?_
  obtain rfl := Option.some.inj hm
  exact cj_rt g7 [3] Tryz.results63 (.tmp rfl (.tmp rfl .nil)) rfl rfl
 ·have hRk8 : ∀ t, k8 = .ret t → some t = some r := fun t e => by rw [hX t e] at hm; exact hm
  have hm := hs
  refine cj_seq ?_
  refine cj_reg ?_
  refine lp rfl (p_mv rfl) ?_
  obtain ⟨gx3, hx4G⟩ := lk_get hL0_0_ hx4
  refine lp rfl (p_idx Tryz.underlying26 ty47 rfl rfl (.ro 2 rfl) (getI_nat.trans hx4G)) ?_
  refine lp rfl (p_leaN (cs := [.string x3.Key, .string x3.Places, .int .i64 x3.Long, gx3.v]) ty47 rfl (.ro 2 rfl) hx4G rfl) ?_
  refine r_al ty47 rfl (fun b11 => ?_)
  refine lp rfl (p_as rfl) ?_
  refine r_sb (vs := [.string x3.Key, .string x3.Places, .int .i64 x3.Long, gx3.v]) (j := 0) ty47 rfl rfl rfl rfl rfl rfl rfl ?_
  refine lj_seq ?_
  refine cj_seq ?_
  refine cj_reg ?_
  refine lp rfl (p_mv rfl) ?_
  refine lp rfl (p_mv rfl) ?_
  refine r_bs R3 [u6.1] rfl rfl rfl (fun _ => by kernel_rfl) rfl (fun s12 => ?_)
  obtain ⟨q13, hq13, hm⟩ := bindS hm
  refine r_app (k := 5) Tryz.underlying22 ty3 rfl rfl rfl rfl (.row 0 rfl) hq13 rfl (fun s14 => ?_)
  refine lp rfl (p_as rfl) ?_
  refine lj_seq ?_
  refine cj_seq ?_
  refine cj_reg ?_
  refine lp rfl (p_mv rfl) ?_
  refine lp rfl (p_fab fl47_2 rfl) ?_
  refine lp rfl (p_lbs ty3 rfl (j := 1) rfl rfl) ?_
  refine lp rfl (p_add rfl rfl) ?_
  refine lp rfl (p_as rfl) ?_
  refine lj_seq ?_
  refine cj_seq ?_
  refine cj_reg ?_
  refine lp rfl (p_mv rfl) ?_
  refine lp rfl (p_add rfl rfl) ?_
  refine lp rfl (p_fab fl28_0 rfl) ?_
  refine lp rfl (p_lbs ty26 rfl (j := 2) rfl rfl) ?_
  refine lp rfl (p_lenG hL0_0_ Tryz.underlying26 rfl (.ro 4 rfl)) ?_
  refine lp rfl (p_lss rfl rfl) ?_
  refine lj_seq ?_
  refine cj_if (b := decide ((w64 ((i2 : Int) + 1)) < (a0.Items.length : Int))) rfl (fun hb => ?_) (fun hb => ?_)
  ·have hm := ifB_t hb hm
   refine cj_reg ?_
   refine lp rfl (p_mv rfl) ?_
   refine lp rfl (p_lbw ty28 rfl (j := 2) rfl rfl) ?_
   refine lp rfl (p_mv rfl) ?_
   obtain ⟨y15, hy15, hm⟩ := bindS hm
   refine r_call [] cf83 rfl rfl (ok_concert_behind a0 s0_0_ xg0_0_ (i2 : Int) hy15) rfl rfl (.cons (.ro 3 rfl) (.cons (.ro 4 rfl) .nil)) (fun _ => rfl) rfl (fun _ => ?_)
   refine lp rfl (p_add rfl rfl) ?_
   refine lp rfl (p_as rfl) ?_
   refine lj_nil ?_
   refine nj_blk ?_
   exact cnk8 _ _ (w64 ((w64 (u6.1 + x3.Long)) + y15), q13) s14 (hJk8 _ (Option.some.inj hm).symm) ⟨rfl, rfl, rfl, rfl, rfl, rfl, rfl, rfl, trivial⟩ (fun _ h => h.picks [2, 2, 2, 2] rfl)
  ·have hm := ifB_f hb hm
   refine cj_skip ?_
   refine nj_blk ?_
   exact cnk8 _ _ (w64 (u6.1 + x3.Long), q13) s14 (hJk8 _ (Option.some.inj hm).symm) ⟨rfl, rfl, rfl, rfl, rfl, rfl, rfl, rfl, trivial⟩ (fun _ h => h.picks [2, 2, 2, 2] rfl)
theorem ok_concert_Long (a0 : TProgram) (s0_0_ : SV) (xg0_0_ : List (TItem × SV)) {r : Int × Int} (hm : m_concert_Long a0 = some r) :
  Ctr Tryz.prog 42 [.agg [s0_0_.v, .int .i64 a0.Change, .int .i64 a0.Clap, .int .i64 a0.Break, .int .i64 a0.Half].toArray].toArray ([] : List Ent) [Lk N47 a0.Items xg0_0_, RdS N47.R (SV.v s0_0_) xg0_0_] (X := Unit) (fun _ => .tuple [.int .i64 r.1, .int .i64 r.2].toArray) (fun _ => []) := by
 unfold m_concert_Long at hm
 refine ctr_mk (vs := [(0, .agg [s0_0_.v, .int .i64 a0.Change, .int .i64 a0.Clap, .int .i64 a0.Break, .int .i64 a0.Half].toArray)]) Tryz.func42 rfl Tryz.ntmps42 rfl ⟨rfl, trivial⟩ (fun w0 A => ?_)
 refine cj_pure (F := Lk N47 a0.Items xg0_0_) (.ro 0 rfl) (fun _ h => h.1) (fun hL0_0_ => ?_)
 refine cj_seq ?_
 refine cj_reg ?_
 refine r_bx (cs := [s0_0_.v, .int .i64 a0.Change, .int .i64 a0.Clap, .int .i64 a0.Break, .int .i64 a0.Half]) rfl rfl rfl (fun b1 => ?_)
 refine lp rfl (p_as rfl) ?_
 refine lp rfl (p_as rfl) ?_
 refine lj_seq ?_
 refine cj_seq ?_
 refine cj_seq ?_
 refine cj_reg ?_
 refine lp rfl (p_lbw ty28 rfl (j := 0) rfl rfl) ?_
 obtain ⟨y2, hy2, hm⟩ := bindS hm
 refine r_call [] cf21 rfl rfl (ok_concert_CheckProgram a0 s0_0_ xg0_0_ hy2) rfl rfl (.cons (.ro 1 rfl) (.cons (.ro 2 rfl) .nil)) (fun _ => rfl) rfl (fun _ => ?_)
 refine lp rfl (p_as rfl) ?_
 refine lj_seq ?_
 refine cj_seq ?_
 refine cj_reg ?_
 refine lp rfl (p_mv rfl) ?_
 refine lp rfl (p_neq rfl rfl) ?_
 refine lj_seq ?_
 refine cj_if (b := y2 != 0) rfl (fun hb => ?_) (fun hb => ?_)
 ·have hm := ifB_t hb hm
  refine cj_seq ?_
  refine cj_reg ?_
  refine lp rfl (p_mv rfl) ?_
  refine lp rfl (p_as rfl) ?_
  refine lp rfl (p_as rfl) ?_
  refine lj_seq ?_
  obtain rfl := Option.some.inj hm
  exact cj_rt () [] Tryz.results42 (.tmp rfl (.tmp rfl .nil)) rfl rfl
 ·have hm := ifB_f hb hm
  refine cj_skip ?_
  refine nj_seq ?_
  refine cj_seq ?_
  refine cj_reg ?_
  refine lp rfl (p_lbw ty28 rfl (j := 0) rfl rfl) ?_
  obtain ⟨y3, hy3, hm⟩ := bindS hm
  refine r_call [] cf63 rfl rfl (ok_concert_begins a0 s0_0_ xg0_0_ hy3) rfl rfl (.cons (.ro 1 rfl) (.cons (.ro 2 rfl) .nil)) (fun _ => rfl) rfl (fun s4 => ?_)
  refine lp rfl (p_mv rfl) ?_
  refine lp rfl (p_ext rfl rfl) ?_
  refine lp rfl (p_ext rfl rfl) ?_
  refine lp rfl (p_as rfl) ?_
  refine lp rfl (p_as rfl) ?_
  refine lj_seq ?_
  refine cj_seq ?_
  refine cj_reg ?_
  refine lp rfl (p_mv rfl) ?_
  refine lp rfl (p_as rfl) ?_
  refine lp rfl (p_as rfl) ?_
  refine lj_seq ?_
  obtain rfl := Option.some.inj hm
  exact cj_rt () [] Tryz.results42 (.tmp rfl (.tmp rfl .nil)) rfl rfl
theorem ok_gleelaw2_sung  {r : Bool} (hm : m_gleelaw2_sung  = some r) :
  Ctr Tryz.prog 12 [].toArray ([] : List Ent) [] (X := Unit) (fun _ => .bool r) (fun _ => []) := by
 unfold m_gleelaw2_sung at hm
 refine ctr_mk (vs := []) Tryz.func12 rfl Tryz.ntmps12 rfl trivial (fun w0 A => ?_)
 refine cj_seq ?_
 refine cj_reg ?_
 refine lp rfl (p_as rfl) ?_
 refine lj_seq ?_
 refine cj_seq ?_
 refine cj_reg ?_
 refine r_bs R9 [(ByteArray.mk [97, 108, 116, 111].toArray)] rfl rfl rfl (fun _ => by kernel_rfl) rfl (fun s1 => ?_)
 refine lp rfl (p_bld [.string (ByteArray.mk [97].toArray), .string (ByteArray.mk [112].toArray), .int .i64 7, s1.v] rfl (fun _ => by kernel_rfl)) ?_
 refine r_fz 0 rfl ?_
 refine r_fact (F := Lk N47 [(TItem.mk (ByteArray.mk [97].toArray) (ByteArray.mk [112].toArray) 7 [(ByteArray.mk [97, 108, 116, 111].toArray)])] [((TItem.mk (ByteArray.mk [97].toArray) (ByteArray.mk [112].toArray) 7 [(ByteArray.mk [97, 108, 116, 111].toArray)]), s1)]) (.imp (.and (.ro 0 rfl) (.nilL N47)) (fun _ h => Lk.cons h.1 h.2)) ?_
 have hLs2 : (([((TItem.mk (ByteArray.mk [97].toArray) (ByteArray.mk [112].toArray) 7 [(ByteArray.mk [97, 108, 116, 111].toArray)]), s1)] : List (TItem × SV)).map Prod.fst) = ([(TItem.mk (ByteArray.mk [97].toArray) (ByteArray.mk [112].toArray) 7 [(ByteArray.mk [97, 108, 116, 111].toArray)])] : List TItem) := rfl
 refine r_bs N47.R [((TItem.mk (ByteArray.mk [97].toArray) (ByteArray.mk [112].toArray) 7 [(ByteArray.mk [97, 108, 116, 111].toArray)]), s1)] rfl rfl rfl (fun _ => by kernel_rfl) rfl (fun s2 => ?_)
 refine lp rfl (p_bld [s2.v, .int .i64 0, .int .i64 0, .int .i64 0, .int .i64 (-1)] rfl (fun _ => by kernel_rfl)) ?_
 obtain ⟨y3, hy3, hm⟩ := bindS hm
 refine r_call [] cf42 rfl rfl (ok_concert_Long (TProgram.mk [(TItem.mk (ByteArray.mk [97].toArray) (ByteArray.mk [112].toArray) 7 [(ByteArray.mk [97, 108, 116, 111].toArray)])] 0 0 0 (-1)) s2 [((TItem.mk (ByteArray.mk [97].toArray) (ByteArray.mk [112].toArray) 7 [(ByteArray.mk [97, 108, 116, 111].toArray)]), s1)] hy3) rfl rfl (.cons (.ro 1 rfl) (.cons (.row 0 rfl) .nil)) (fun _ => rfl) rfl (fun _ => ?_)
 refine lp rfl (p_mv rfl) ?_
 refine lp rfl (p_ext rfl rfl) ?_
 refine lp rfl (p_ext rfl rfl) ?_
 refine lp rfl (p_as rfl) ?_
 refine lp rfl (p_as rfl) ?_
 refine lj_seq ?_
 refine cj_seq ?_
 refine cj_reg ?_
 refine lp rfl (p_mv rfl) ?_
 refine lp rfl (p_eql rfl rfl) ?_
 refine lp rfl (p_mv rfl) ?_
 refine lcase (i := 13) (y3.2 == 0) rfl (fun hb => ?_) (fun hb => ?_)
 ·have hm := ifB_t hb hm
  refine lg true rfl rfl rfl ?_
  refine lp rfl (p_mv rfl) ?_
  refine lg true rfl rfl rfl ?_
  refine lp rfl (p_eql rfl rfl) ?_
  refine lp rfl (p_pkt rfl rfl) ?_
  refine lp rfl (p_as rfl) ?_
  refine lj_seq ?_
  obtain rfl := Option.some.inj hm
  exact cj_rt () [] Tryz.results12 (.tmp rfl .nil) rfl rfl
 ·have hm := ifB_f hb hm
  refine ls true rfl rfl rfl rfl ?_
  refine ls true rfl rfl rfl rfl ?_
  refine lp rfl (p_pkf rfl rfl) ?_
  refine lp rfl (p_as rfl) ?_
  refine lj_seq ?_
  obtain rfl := Option.some.inj hm
  exact cj_rt () [] Tryz.results12 (.tmp rfl .nil) rfl rfl
theorem ok_gleelaw2_ProgramTexts (s0_ : SV) (a0 : (List Int)) {r : Bool} (hm : m_gleelaw2_ProgramTexts a0 = some r) :
  Ctr Tryz.prog 3 [s0_.v].toArray ([] : List Ent) [RdS R3 (SV.v s0_) a0, MaxT, PowT] (X := Unit) (fun _ => .bool r) (fun _ => []) := by
 unfold m_gleelaw2_ProgramTexts at hm
 refine ctr_mk (vs := [(0, s0_.v)]) Tryz.func3 rfl Tryz.ntmps3 rfl ⟨rfl, trivial⟩ (fun w0 A => ?_)
 refine cj_seq ?_
 refine cj_reg ?_
 refine lp rfl (p_as rfl) ?_
 refine lj_seq ?_
 refine cj_seq ?_
 refine cj_reg ?_
 refine lp rfl (p_mv rfl) ?_
 refine lp rfl (p_bld [s0_.v, .int .i64 0] rfl (fun _ => by kernel_rfl)) ?_
 refine r_bx (cs := [s0_.v, .int .i64 0]) rfl rfl rfl (fun b1 => ?_)
 refine lp rfl (p_as rfl) ?_
 refine lj_seq ?_
 refine cj_seq ?_
 refine cj_reg ?_
 refine lp rfl (p_mv rfl) ?_
 obtain ⟨y2, hy2, hm⟩ := bindS hm
 refine r_callN [0] cf4 rfl rfl (ok_gleemake_Stream_AProgram b1 s0_ a0 0 4 hy2) rfl rfl (.cons (.ro 0 rfl) .nil) rfl (fun ⟨s3, xg4⟩ => ?_)
 refine r_pure (F := Lk N47 y2.1.Items xg4) (.ro 1 rfl) (fun _ h => h.1) (fun hLs3 => ?_)
 refine lp rfl (p_mv rfl) ?_
 obtain ⟨y5, hy5, hm⟩ := bindS hm
 refine r_call [2] cf5 rfl rfl (ok_gleemake_Stream_ProgramText b1 s0_ a0 y2.2 hy5) rfl rfl (.cons (.ro 2 rfl) (.cons (.ro 4 rfl) .nil)) (fun _ => rfl) rfl (fun _ => ?_)
 refine r_al ty28 rfl (fun b6 => ?_)
 refine r_sb (vs := [s3.v, .int .i64 y2.1.Change, .int .i64 y2.1.Clap, .int .i64 y2.1.Break, .int .i64 y2.1.Half]) (j := 0) ty28 rfl rfl rfl rfl rfl rfl rfl ?_
 refine lp rfl (p_as rfl) ?_
 refine lj_seq ?_
 refine cj_seq ?_
 refine cj_reg ?_
 refine lp rfl (p_lbw ty28 rfl (j := 0) rfl rfl) ?_
 obtain ⟨y7, hy7, hm⟩ := bindS hm
 refine r_call [] cf6 rfl rfl (ok_concert_Text y2.1 s3 xg4 hy7) rfl rfl (.cons (.ro 3 rfl) (.cons (.row 2 rfl) (.cons (.ro 6 rfl) .nil))) (fun _ => rfl) rfl (fun _ => ?_)
 refine lp rfl (p_mv rfl) ?_
 refine lp rfl (p_ext rfl rfl) ?_
 refine lp rfl (p_ext rfl rfl) ?_
 refine lp rfl (p_as rfl) ?_
 refine lp rfl (p_as rfl) ?_
 refine lj_seq ?_
 refine cj_seq ?_
 refine cj_reg ?_
 refine lp rfl (p_lbw ty28 rfl (j := 0) rfl rfl) ?_
 obtain ⟨y8, hy8, hm⟩ := bindS hm
 refine r_call [] cf7 rfl rfl (ok_gleeref2_ProgramFault y2.1 s3 xg4 hy8) rfl rfl (.cons (.ro 3 rfl) (.cons (.row 2 rfl) .nil)) (fun _ => rfl) rfl (fun _ => ?_)
 refine lp rfl (p_as rfl) ?_
 refine lp rfl (p_as rfl) ?_
 refine lj_seq ?_
 refine cj_seq ?_
 refine cj_seq ?_
 refine cj_reg ?_
 refine lp rfl (p_mv rfl) ?_
 refine lp rfl (p_eql rfl rfl) ?_
 refine lj_seq ?_
 obtain ⟨k11, hk11, hm⟩ := bindS hm
 have hRk11 : ∀ t, k11 = .inr t → some t = some r := fun t e => by rw [e] at hm; exact hm
 refine cj_joinK (σ := ByteArray) (γ := Unit) (fun u9 => k11 = .inl u9) (fun u9 g10 => [(2, .bool false), (5, .string y5.1), (6, .string y7.1), (7, .int .i64 y7.2), (8, .int .i64 y8), (9, .string u9)]) (fun u9 g10 => Sat w0 (keys ([] : List Ent)) A [.ro MaxT, .ro PowT]) (fun u9 g10 hq => ?_) (fun J cnk11 => ?_)
 ·have hm := Sum.fin_l hq hm
  refine cj_seq ?_
  refine cj_reg ?_
  refine lp rfl (p_mv rfl) ?_
  obtain ⟨y13, hy13, hm⟩ := bindS hm
  refine r_callN [] cf9 rfl rfl (ok_concert_Read y5.1 hy13) rfl rfl (.cons (.ro 0 rfl) .nil) rfl (fun ⟨s14, xg15⟩ => ?_)
  refine r_pure (F := Lk N47 y13.1.Items xg15) (.ro 1 rfl) (fun _ h => h.1) (fun hLs14 => ?_)
  refine lp rfl (p_mv rfl) ?_
  refine lp rfl (p_ext rfl rfl) ?_
  refine lp rfl (p_ext rfl rfl) ?_
  refine lp rfl (p_ext rfl rfl) ?_
  refine r_al ty28 rfl (fun b16 => ?_)
  refine r_sb (vs := [s14.v, .int .i64 y13.1.Change, .int .i64 y13.1.Clap, .int .i64 y13.1.Break, .int .i64 y13.1.Half]) (j := 0) ty28 rfl rfl rfl rfl rfl rfl rfl ?_
  refine lp rfl (p_as rfl) ?_
  refine lp rfl (p_as rfl) ?_
  refine lj_seq ?_
  refine cj_seq ?_
  refine cj_reg ?_
  refine lp rfl (p_mv rfl) ?_
  obtain ⟨y17, hy17, hm⟩ := bindS hm
  refine r_callN [] cf10 rfl rfl (ok_gleeref2_ProgramRead y5.1 hy17) rfl rfl (.cons (.ro 3 rfl) (.cons (.ro 4 rfl) .nil)) rfl (fun ⟨s18, xg19⟩ => ?_)
  refine r_pure (F := Lk N47 y17.1.Items xg19) (.ro 1 rfl) (fun _ h => h.1) (fun hLs18 => ?_)
  refine lp rfl (p_mv rfl) ?_
  refine lp rfl (p_ext rfl rfl) ?_
  refine lp rfl (p_ext rfl rfl) ?_
  refine lp rfl (p_ext rfl rfl) ?_
  refine r_al ty28 rfl (fun b20 => ?_)
  refine r_sb (vs := [s18.v, .int .i64 y17.1.Change, .int .i64 y17.1.Clap, .int .i64 y17.1.Break, .int .i64 y17.1.Half]) (j := 0) ty28 rfl rfl rfl rfl rfl rfl rfl ?_
  refine lp rfl (p_as rfl) ?_
  refine lp rfl (p_as rfl) ?_
  refine lj_seq ?_
  refine cj_seq ?_
  refine cj_reg ?_
  refine lp rfl (p_mv rfl) ?_
  refine lp rfl (p_mv rfl) ?_
  refine lp rfl (p_eql rfl rfl) ?_
  refine lp rfl (p_mv rfl) ?_
  refine lcase (i := 49) (y7.2 == y8) rfl (fun hb => ?_) (fun hb => ?_)
  ·have hm := ifB_t hb hm
   refine lg true rfl rfl rfl ?_
   refine lp rfl (p_mv rfl) ?_
   refine lg true rfl rfl rfl ?_
   refine lp rfl (p_mv rfl) ?_
   refine lg true rfl rfl rfl ?_
   refine lp rfl (p_eqs rfl rfl) ?_
   refine lp rfl (p_pkt rfl rfl) ?_
   refine lp rfl (p_mv rfl) ?_
   refine lcase (i := 54) (y7.1.toList == u9.toList) rfl (fun hb => ?_) (fun hb => ?_)
   ·have hm := ifB_t hb hm
    refine lg true rfl rfl rfl ?_
    refine lp rfl (p_lbw ty28 rfl (j := 3) rfl rfl) ?_
    refine lg true rfl rfl rfl ?_
    refine lp rfl (p_lbw ty28 rfl (j := 0) rfl rfl) ?_
    refine lg true rfl rfl rfl ?_
    obtain ⟨y21, hy21, hm⟩ := bindS hm
    refine r_call [] cf11 rfl rfl (ok_gleeref2_SameProgram y13.1 s14 xg15 y17.1 s18 xg19 hy21) rfl rfl (.cons (.ro 5 rfl) (.cons (.row 4 rfl) (.cons (.ro 2 rfl) (.cons (.row 1 rfl) .nil)))) (fun _ => rfl) rfl (fun _ => ?_)
    refine lp rfl (p_pkt rfl rfl) ?_
    refine lp rfl (p_mv rfl) ?_
    refine lcase (i := 59) y21 rfl (fun hb => ?_) (fun hb => ?_)
    ·have hm := ifB_t hb hm
     refine lg true rfl rfl rfl ?_
     refine lp rfl (p_mv rfl) ?_
     refine lg true rfl rfl rfl ?_
     refine lp rfl (p_mv rfl) ?_
     refine lg true rfl rfl rfl ?_
     refine lp rfl (p_eql rfl rfl) ?_
     refine lp rfl (p_pkt rfl rfl) ?_
     refine lp rfl (p_mv rfl) ?_
     refine lcase (i := 64) (y13.2.1 == y17.2.1) rfl (fun hb => ?_) (fun hb => ?_)
     ·have hm := ifB_t hb hm
      refine lg true rfl rfl rfl ?_
      refine lp rfl (p_mv rfl) ?_
      refine lg true rfl rfl rfl ?_
      refine lp rfl (p_mv rfl) ?_
      refine lg true rfl rfl rfl ?_
      refine lp rfl (p_eql rfl rfl) ?_
      refine lp rfl (p_pkt rfl rfl) ?_
      refine lp rfl (p_mv rfl) ?_
      refine lcase (i := 69) (y13.2.2 == y17.2.2) rfl (fun hb => ?_) (fun hb => ?_)
      ·have hm := ifB_t hb hm
       refine lg true rfl rfl rfl ?_
       obtain ⟨y22, hy22, hm⟩ := bindS hm
       refine r_call [] cf12 rfl rfl (ok_gleelaw2_sung  hy22) rfl rfl .nil (fun _ => rfl) rfl (fun _ => ?_)
       refine lp rfl (p_pkt rfl rfl) ?_
       refine lp rfl (p_as rfl) ?_
       refine lj_seq ?_
       obtain rfl := Option.some.inj hm
       exact cj_rt () [] Tryz.results3 (.tmp rfl .nil) rfl rfl
      ·have hm := ifB_f hb hm
       refine ls true rfl rfl rfl rfl ?_
       refine lp rfl (p_pkf rfl rfl) ?_
       refine lp rfl (p_as rfl) ?_
       refine lj_seq ?_
       obtain rfl := Option.some.inj hm
       exact cj_rt () [] Tryz.results3 (.tmp rfl .nil) rfl rfl
     ·have hm := ifB_f hb hm
      refine ls true rfl rfl rfl rfl ?_
      refine ls true rfl rfl rfl rfl ?_
      refine ls true rfl rfl rfl rfl ?_
      refine lp rfl (p_pkf rfl rfl) ?_
      refine lp rfl (p_mv rfl) ?_
      refine ls true rfl rfl rfl rfl ?_
      refine lp rfl (p_pkf rfl rfl) ?_
      refine lp rfl (p_as rfl) ?_
      refine lj_seq ?_
      obtain rfl := Option.some.inj hm
      exact cj_rt () [] Tryz.results3 (.tmp rfl .nil) rfl rfl
    ·have hm := ifB_f hb hm
     refine ls true rfl rfl rfl rfl ?_
     refine ls true rfl rfl rfl rfl ?_
     refine ls true rfl rfl rfl rfl ?_
     refine lp rfl (p_pkf rfl rfl) ?_
     refine lp rfl (p_mv rfl) ?_
     refine ls true rfl rfl rfl rfl ?_
     refine ls true rfl rfl rfl rfl ?_
     refine ls true rfl rfl rfl rfl ?_
     refine lp rfl (p_pkf rfl rfl) ?_
     refine lp rfl (p_mv rfl) ?_
     refine ls true rfl rfl rfl rfl ?_
     refine lp rfl (p_pkf rfl rfl) ?_
     refine lp rfl (p_as rfl) ?_
     refine lj_seq ?_
     obtain rfl := Option.some.inj hm
     exact cj_rt () [] Tryz.results3 (.tmp rfl .nil) rfl rfl
   ·have hm := ifB_f hb hm
    refine ls true rfl rfl rfl rfl ?_
    refine ls true rfl rfl rfl rfl ?_
    refine ls true rfl rfl rfl rfl ?_
    refine lp rfl (p_pkf rfl rfl) ?_
    refine lp rfl (p_mv rfl) ?_
    refine ls true rfl rfl rfl rfl ?_
    refine ls true rfl rfl rfl rfl ?_
    refine ls true rfl rfl rfl rfl ?_
    refine lp rfl (p_pkf rfl rfl) ?_
    refine lp rfl (p_mv rfl) ?_
    refine ls true rfl rfl rfl rfl ?_
    refine ls true rfl rfl rfl rfl ?_
    refine ls true rfl rfl rfl rfl ?_
    refine lp rfl (p_pkf rfl rfl) ?_
    refine lp rfl (p_mv rfl) ?_
    refine ls true rfl rfl rfl rfl ?_
    refine lp rfl (p_pkf rfl rfl) ?_
    refine lp rfl (p_as rfl) ?_
    refine lj_seq ?_
    obtain rfl := Option.some.inj hm
    exact cj_rt () [] Tryz.results3 (.tmp rfl .nil) rfl rfl
  ·have hm := ifB_f hb hm
   refine ls true rfl rfl rfl rfl ?_
   refine ls true rfl rfl rfl rfl ?_
   refine ls true rfl rfl rfl rfl ?_
   refine lp rfl (p_pkf rfl rfl) ?_
   refine lp rfl (p_mv rfl) ?_
   refine ls true rfl rfl rfl rfl ?_
   refine ls true rfl rfl rfl rfl ?_
   refine ls true rfl rfl rfl rfl ?_
   refine lp rfl (p_pkf rfl rfl) ?_
   refine lp rfl (p_mv rfl) ?_
   refine ls true rfl rfl rfl rfl ?_
   refine ls true rfl rfl rfl rfl ?_
   refine ls true rfl rfl rfl rfl ?_
   refine lp rfl (p_pkf rfl rfl) ?_
   refine lp rfl (p_mv rfl) ?_
   refine ls true rfl rfl rfl rfl ?_
   refine ls true rfl rfl rfl rfl ?_
   refine ls true rfl rfl rfl rfl ?_
   refine lp rfl (p_pkf rfl rfl) ?_
   refine lp rfl (p_mv rfl) ?_
   refine ls true rfl rfl rfl rfl ?_
   refine lp rfl (p_pkf rfl rfl) ?_
   refine lp rfl (p_as rfl) ?_
   refine lj_seq ?_
   obtain rfl := Option.some.inj hm
   exact cj_rt () [] Tryz.results3 (.tmp rfl .nil) rfl rfl
 ·have hm := hk11
  refine cj_if (b := y8 == 0) rfl (fun hb => ?_) (fun hb => ?_)
  ·have hm := ifB_t hb hm
   refine cj_reg ?_
   refine lp rfl (p_lbw ty28 rfl (j := 0) rfl rfl) ?_
   obtain ⟨y12, hy12, hm⟩ := bindS hm
   refine r_call [] cf8 rfl rfl (ok_gleeref2_ProgramLines y2.1 s3 xg4 hy12) rfl rfl (.cons (.ro 3 rfl) (.cons (.row 2 rfl) (.cons (.ro 6 rfl) .nil))) (fun _ => rfl) rfl (fun _ => ?_)
   refine lp rfl (p_as rfl) ?_
   refine lj_nil ?_
   exact cnk11 _ _ y12 () (Option.some.inj hm).symm ⟨rfl, rfl, rfl, rfl, rfl, rfl, trivial⟩ (fun _ h => h.picks [5, 5] rfl)
  ·have hm := ifB_f hb hm
   refine cj_skip ?_
   exact cnk11 _ _ ByteArray.empty () (Option.some.inj hm).symm ⟨rfl, rfl, rfl, rfl, rfl, rfl, trivial⟩ (fun _ h => h.picks [5, 5] rfl)
end Go.Proofs.YtobglahldcnnmadGreatDoor
