/- The walks. Written by program. -/
import Derived.Test.YtdeoejkgmeemaadGreatDoorW
namespace Go.Proofs.YtdeoejkgmeemaadGreatDoor
open Go Go.J Go.G
set_option maxRecDepth 100000
set_option linter.unusedVariables false
set_option linter.unusedSimpArgs false
theorem ok_chord_Name (a0 : TChord) {r : ByteArray × Int} (hm : m_chord_Name a0 = some r) :
    Ctr Tryz.prog 30 [.agg (R74.enc a0).toArray].toArray ([] : List Ent) [PowT] (X := Unit) (fun _ => .tuple [.string r.1, .int .i64 r.2].toArray) (fun _ => []) := by
  unfold m_chord_Name at hm
  refine ctr_mk (vs := [(0, .agg (R74.enc a0).toArray)]) Tryz.func30 rfl Tryz.ntmps30 rfl ⟨rfl, trivial⟩ (fun w0 A => ?_)
  refine cj_seq ?_
  refine cj_reg ?_
  refine r_bx (cs := [.int .i64 a0.Root, .int .i64 a0.Kind, .int .i64 a0.Turn]) rfl rfl rfl (fun b1 => ?_)
  refine lp rfl (p_as rfl) ?_
  refine lp rfl (p_as rfl) ?_
  refine lj_seq ?_
  refine cj_seq ?_
  refine cj_seq ?_
  refine cj_reg ?_
  refine lp rfl (p_lbw ty74 rfl (j := 0) rfl rfl) ?_
  obtain ⟨y2, hy2, hm⟩ := bindS hm
  refine r_call [] cf46 rfl rfl (ok_chord_CheckChord a0 hy2) rfl rfl .nil (fun _ => rfl) rfl (fun _ => ?_)
  refine lp rfl (p_as rfl) ?_
  refine lj_seq ?_
  refine cj_seq ?_
  refine cj_reg ?_
  refine lp rfl (p_mv rfl) ?_
  refine lp rfl (p_neq rfl rfl) ?_
  refine lj_seq ?_
  refine cj_if (b := y2 != 0) rfl (fun hb => ?_) (fun hb => ?_)
  · have hm := ifB_t hb hm
    refine cj_seq ?_
    refine cj_reg ?_
    refine lp rfl (p_mv rfl) ?_
    refine lp rfl (p_as rfl) ?_
    refine lp rfl (p_as rfl) ?_
    refine lj_seq ?_
    obtain rfl := Option.some.inj hm
    exact cj_rt () [] Tryz.results30 (.tmp rfl (.tmp rfl .nil)) rfl rfl
  · have hm := ifB_f hb hm
    refine cj_skip ?_
    refine nj_seq ?_
    refine cj_seq ?_
    obtain ⟨k5, hk5, hm⟩ := bindS hm
    have hRk5 : ∀ t, k5 = .inr t → some t = some r := fun t e => by rw [e] at hm; exact hm
    refine cj_joinK (σ := ByteArray) (γ := Unit) (fun u3 => k5 = .inl u3) (fun u3 g4 => [(1, .pointer (some ⟨b1, 0, none⟩)), (2, .string ByteArray.empty), (3, .int .i64 0), (5, .string u3)]) (fun u3 g4 => Sat w0 (keys ([] : List Ent)) A [.box b1 74 [.int .i64 a0.Root, .int .i64 a0.Kind, .int .i64 a0.Turn], .ro PowT]) (fun u3 g4 hq => ?_) (fun J cnk5 => ?_)
    · have hm := Sum.fin_l hq hm
      refine cj_seq ?_
      refine cj_seq ?_
      refine cj_reg ?_
      refine lp rfl (p_fab fl74_2 rfl) ?_
      refine lp rfl (p_lbs ty3 rfl (j := 0) rfl rfl) ?_
      refine lp rfl (p_gtr rfl rfl) ?_
      refine lj_seq ?_
      refine cj_if (b := decide (a0.Turn > 0)) rfl (fun hb => ?_) (fun hb => ?_)
      · have hm := ifB_t hb hm
        refine cj_reg ?_
        refine lp rfl (p_mv rfl) ?_
        refine lp rfl (p_fab fl74_2 rfl) ?_
        refine lp rfl (p_lbs ty3 rfl (j := 0) rfl rfl) ?_
        obtain ⟨y18, hy18, hm⟩ := bindS hm
        refine r_call [] cf25 rfl rfl (ok_strconv_Itoa a0.Turn hy18) rfl rfl (.cons (.ro 1 rfl) .nil) (fun _ => rfl) rfl (fun _ => ?_)
        obtain ⟨c19, hc19, hm⟩ := bindS hm
        refine lp rfl (p_catM hc19 rfl rfl) ?_
        obtain ⟨c20, hc20, hm⟩ := bindS hm
        refine lp rfl (p_catM hc20 rfl rfl) ?_
        refine lp rfl (p_as rfl) ?_
        refine lj_seq ?_
        refine cj_seq ?_
        refine cj_reg ?_
        refine lp rfl (p_mv rfl) ?_
        refine lp rfl (p_as rfl) ?_
        refine lp rfl (p_as rfl) ?_
        refine lj_seq ?_
        obtain rfl := Option.some.inj hm
        exact cj_rt () [] Tryz.results30 (.tmp rfl (.tmp rfl .nil)) rfl rfl
      · have hm := ifB_f hb hm
        refine cj_skip ?_
        refine nj_seq ?_
        refine cj_seq ?_
        refine cj_reg ?_
        refine lp rfl (p_mv rfl) ?_
        refine lp rfl (p_as rfl) ?_
        refine lp rfl (p_as rfl) ?_
        refine lj_seq ?_
        obtain rfl := Option.some.inj hm
        exact cj_rt () [] Tryz.results30 (.tmp rfl (.tmp rfl .nil)) rfl rfl
    · have hm := hk5
      obtain ⟨y6, hy6, hm⟩ := bindS hm
      obtain ⟨e8, he8, hm⟩ := bindS hm
      obtain ⟨c9, hc9, hm⟩ := bindS hm
      obtain ⟨y10, hy10, hm⟩ := bindS hm
      obtain ⟨e12, he12, hm⟩ := bindS hm
      obtain ⟨c13, hc13, hm⟩ := bindS hm
      refine cj_anyT [1, 2, 5, 7, 8, 11, 12] [] (Sat w0 (keys ([] : List Ent)) A [.box b1 74 [.int .i64 a0.Root, .int .i64 a0.Kind, .int .i64 a0.Turn], .ro PowT]) (Sat w0 (keys ([] : List Ent)) A [.box b1 74 [.int .i64 a0.Root, .int .i64 a0.Kind, .int .i64 a0.Turn], .ro PowT]) (by kernel_rfl) ?_
      refine at_take2 1 rfl (by kernel_rfl) (by kernel_rfl) (by kernel_rfl) (fun _ h => h.picks [0, 0] rfl) rfl rfl (p_fab fl74_0 rfl) (fun _ h => h.picks [0, 0] rfl) ?_
      refine at_take2 2 rfl (by kernel_rfl) (by kernel_rfl) (by kernel_rfl) (fun _ h => h.picks [0, 0] rfl) rfl rfl (p_lbs ty3 rfl (j := 0) rfl rfl) (fun _ h => h.picks [0, 0] rfl) ?_
      refine at_take2 7 rfl (by kernel_rfl) (by kernel_rfl) (by kernel_rfl) (fun _ h => h.picks [0, 0] rfl) rfl rfl (p_fab fl74_1 rfl) (fun _ h => h.picks [0, 0] rfl) ?_
      refine at_take2 8 rfl (by kernel_rfl) (by kernel_rfl) (by kernel_rfl) (fun _ h => h.picks [0, 0] rfl) rfl rfl (p_lbs ty3 rfl (j := 0) rfl rfl) (fun _ h => h.picks [0, 0] rfl) ?_
      refine at_each (rs := [0]) (by kernel_rfl) (by decide) ?_
      refine (.cons rfl (fun I cnI => ?_) .nil)
      · refine r_call [] cf47 rfl rfl (ok_chord_rootWords  hy6) rfl rfl .nil (fun _ => rfl) rfl (fun s14 => ?_)
        refine lj_nil ?_
        refine cnI _ _ (sof1 rfl rfl (fun _ h => h.picks [1, 1] rfl)) ?_
        refine at_each (rs := [3, 6]) (by kernel_rfl) (by decide) ?_
        refine (.cons rfl (fun I cnI => ?_) (.cons rfl (fun I cnI => ?_) .nil))
        · refine lp rfl (p_idx Tryz.underlying41 ty9 rfl rfl (.row 0 rfl) he8) ?_
          refine lj_nil ?_
          refine cnI _ _ (sof1 rfl rfl (fun _ h => h.picks [1, 1] rfl)) ?_
          refine at_each (rs := [4, 6]) (by kernel_rfl) (by decide) ?_
          refine (.cons rfl (fun I cnI => ?_) (.cons rfl (fun I cnI => ?_) .nil))
          · refine lp rfl (p_lde (o := 0) ty9 rfl rfl (.row 0 rfl) (getI_spec he8).2 rfl) ?_
            refine lj_nil ?_
            refine cnI _ _ (sof1 rfl rfl (fun _ h => h.picks [1, 1] rfl)) ?_
            refine at_take2 5 rfl (by kernel_rfl) (by kernel_rfl) (by kernel_rfl) (fun _ h => h.picks [0, 0] rfl) rfl rfl (p_catM hc9 rfl rfl) (fun _ h => h.picks [1, 1] rfl) ?_
            refine at_each (rs := [6]) (by kernel_rfl) (by decide) ?_
            refine (.cons rfl (fun I cnI => ?_) .nil)
            · refine r_call [] cf48 rfl rfl (ok_chord_kindWords  hy10) rfl rfl .nil (fun _ => rfl) rfl (fun s15 => ?_)
              refine lj_nil ?_
              refine cnI _ _ (sof1 rfl rfl (fun _ h => h.picks [2, 2] rfl)) ?_
              refine at_each (rs := [9]) (by kernel_rfl) (by decide) ?_
              refine (.cons rfl (fun I cnI => ?_) .nil)
              · refine lp rfl (p_idx Tryz.underlying41 ty9 rfl rfl (.row 0 rfl) he12) ?_
                refine lj_nil ?_
                refine cnI _ _ (sof1 rfl rfl (fun _ h => h.picks [2, 2] rfl)) ?_
                refine at_each (rs := [10]) (by kernel_rfl) (by decide) ?_
                refine (.cons rfl (fun I cnI => ?_) .nil)
                · refine lp rfl (p_lde (o := 0) ty9 rfl rfl (.row 0 rfl) (getI_spec he12).2 rfl) ?_
                  refine lj_nil ?_
                  refine cnI _ _ (sof1 rfl rfl (fun _ h => h.picks [2, 2] rfl)) ?_
                  refine at_take2 11 rfl (by kernel_rfl) (by kernel_rfl) (by kernel_rfl) (fun _ h => h.picks [0, 0] rfl) rfl rfl (p_catM hc13 rfl rfl) (fun _ h => h.picks [2, 2] rfl) ?_
                  refine at_take2 12 rfl (by kernel_rfl) (by kernel_rfl) (by kernel_rfl) (fun _ h => h.picks [0, 0] rfl) rfl rfl (p_as rfl) (fun _ h => h.picks [2, 2] rfl) ?_
                  refine at_done (by kernel_rfl) ?_
                  exact cnk5 _ _ c13 () (Option.some.inj hm).symm ⟨rfl, rfl, rfl, rfl, trivial⟩ (fun _ h => h.picks [2, 2] rfl)
          · refine r_call [] cf48 rfl rfl (ok_chord_kindWords  hy10) rfl rfl .nil (fun _ => rfl) rfl (fun s16 => ?_)
            refine lj_nil ?_
            refine cnI _ _ (sof1 rfl rfl (fun _ h => h.picks [2, 2] rfl)) ?_
            refine at_each (rs := [4, 9]) (by kernel_rfl) (by decide) ?_
            refine (.cons rfl (fun I cnI => ?_) (.cons rfl (fun I cnI => ?_) .nil))
            · refine lp rfl (p_lde (o := 0) ty9 rfl rfl (.row 1 rfl) (getI_spec he8).2 rfl) ?_
              refine lj_nil ?_
              refine cnI _ _ (sof1 rfl rfl (fun _ h => h.picks [2, 2] rfl)) ?_
              refine at_take2 5 rfl (by kernel_rfl) (by kernel_rfl) (by kernel_rfl) (fun _ h => h.picks [0, 0] rfl) rfl rfl (p_catM hc9 rfl rfl) (fun _ h => h.picks [2, 2] rfl) ?_
              refine at_each (rs := [9]) (by kernel_rfl) (by decide) ?_
              refine (.cons rfl (fun I cnI => ?_) .nil)
              · refine lp rfl (p_idx Tryz.underlying41 ty9 rfl rfl (.row 0 rfl) he12) ?_
                refine lj_nil ?_
                refine cnI _ _ (sof1 rfl rfl (fun _ h => h.picks [2, 2] rfl)) ?_
                refine at_each (rs := [10]) (by kernel_rfl) (by decide) ?_
                refine (.cons rfl (fun I cnI => ?_) .nil)
                · refine lp rfl (p_lde (o := 0) ty9 rfl rfl (.row 0 rfl) (getI_spec he12).2 rfl) ?_
                  refine lj_nil ?_
                  refine cnI _ _ (sof1 rfl rfl (fun _ h => h.picks [2, 2] rfl)) ?_
                  refine at_take2 11 rfl (by kernel_rfl) (by kernel_rfl) (by kernel_rfl) (fun _ h => h.picks [0, 0] rfl) rfl rfl (p_catM hc13 rfl rfl) (fun _ h => h.picks [2, 2] rfl) ?_
                  refine at_take2 12 rfl (by kernel_rfl) (by kernel_rfl) (by kernel_rfl) (fun _ h => h.picks [0, 0] rfl) rfl rfl (p_as rfl) (fun _ h => h.picks [2, 2] rfl) ?_
                  refine at_done (by kernel_rfl) ?_
                  exact cnk5 _ _ c13 () (Option.some.inj hm).symm ⟨rfl, rfl, rfl, rfl, trivial⟩ (fun _ h => h.picks [2, 2] rfl)
            · refine lp rfl (p_idx Tryz.underlying41 ty9 rfl rfl (.row 0 rfl) he12) ?_
              refine lj_nil ?_
              refine cnI _ _ (sof1 rfl rfl (fun _ h => h.picks [2, 2] rfl)) ?_
              refine at_each (rs := [4, 10]) (by kernel_rfl) (by decide) ?_
              refine (.cons rfl (fun I cnI => ?_) (.cons rfl (fun I cnI => ?_) .nil))
              · refine lp rfl (p_lde (o := 0) ty9 rfl rfl (.row 1 rfl) (getI_spec he8).2 rfl) ?_
                refine lj_nil ?_
                refine cnI _ _ (sof1 rfl rfl (fun _ h => h.picks [2, 2] rfl)) ?_
                refine at_take2 5 rfl (by kernel_rfl) (by kernel_rfl) (by kernel_rfl) (fun _ h => h.picks [0, 0] rfl) rfl rfl (p_catM hc9 rfl rfl) (fun _ h => h.picks [2, 2] rfl) ?_
                refine at_each (rs := [10]) (by kernel_rfl) (by decide) ?_
                refine (.cons rfl (fun I cnI => ?_) .nil)
                · refine lp rfl (p_lde (o := 0) ty9 rfl rfl (.row 0 rfl) (getI_spec he12).2 rfl) ?_
                  refine lj_nil ?_
                  refine cnI _ _ (sof1 rfl rfl (fun _ h => h.picks [2, 2] rfl)) ?_
                  refine at_take2 11 rfl (by kernel_rfl) (by kernel_rfl) (by kernel_rfl) (fun _ h => h.picks [0, 0] rfl) rfl rfl (p_catM hc13 rfl rfl) (fun _ h => h.picks [2, 2] rfl) ?_
                  refine at_take2 12 rfl (by kernel_rfl) (by kernel_rfl) (by kernel_rfl) (fun _ h => h.picks [0, 0] rfl) rfl rfl (p_as rfl) (fun _ h => h.picks [2, 2] rfl) ?_
                  refine at_done (by kernel_rfl) ?_
                  exact cnk5 _ _ c13 () (Option.some.inj hm).symm ⟨rfl, rfl, rfl, rfl, trivial⟩ (fun _ h => h.picks [2, 2] rfl)
              · refine lp rfl (p_lde (o := 0) ty9 rfl rfl (.row 0 rfl) (getI_spec he12).2 rfl) ?_
                refine lj_nil ?_
                refine cnI _ _ (sof1 rfl rfl (fun _ h => h.picks [2, 2] rfl)) ?_
                refine at_each (rs := [4]) (by kernel_rfl) (by decide) ?_
                refine (.cons rfl (fun I cnI => ?_) .nil)
                · refine lp rfl (p_lde (o := 0) ty9 rfl rfl (.row 1 rfl) (getI_spec he8).2 rfl) ?_
                  refine lj_nil ?_
                  refine cnI _ _ (sof1 rfl rfl (fun _ h => h.picks [2, 2] rfl)) ?_
                  refine at_take2 5 rfl (by kernel_rfl) (by kernel_rfl) (by kernel_rfl) (fun _ h => h.picks [0, 0] rfl) rfl rfl (p_catM hc9 rfl rfl) (fun _ h => h.picks [2, 2] rfl) ?_
                  refine at_take2 11 rfl (by kernel_rfl) (by kernel_rfl) (by kernel_rfl) (fun _ h => h.picks [0, 0] rfl) rfl rfl (p_catM hc13 rfl rfl) (fun _ h => h.picks [2, 2] rfl) ?_
                  refine at_take2 12 rfl (by kernel_rfl) (by kernel_rfl) (by kernel_rfl) (fun _ h => h.picks [0, 0] rfl) rfl rfl (p_as rfl) (fun _ h => h.picks [2, 2] rfl) ?_
                  refine at_done (by kernel_rfl) ?_
                  exact cnk5 _ _ c13 () (Option.some.inj hm).symm ⟨rfl, rfl, rfl, rfl, trivial⟩ (fun _ h => h.picks [2, 2] rfl)
        · refine r_call [] cf48 rfl rfl (ok_chord_kindWords  hy10) rfl rfl .nil (fun _ => rfl) rfl (fun s17 => ?_)
          refine lj_nil ?_
          refine cnI _ _ (sof1 rfl rfl (fun _ h => h.picks [2, 2] rfl)) ?_
          refine at_each (rs := [3, 9]) (by kernel_rfl) (by decide) ?_
          refine (.cons rfl (fun I cnI => ?_) (.cons rfl (fun I cnI => ?_) .nil))
          · refine lp rfl (p_idx Tryz.underlying41 ty9 rfl rfl (.row 1 rfl) he8) ?_
            refine lj_nil ?_
            refine cnI _ _ (sof1 rfl rfl (fun _ h => h.picks [2, 2] rfl)) ?_
            refine at_each (rs := [4, 9]) (by kernel_rfl) (by decide) ?_
            refine (.cons rfl (fun I cnI => ?_) (.cons rfl (fun I cnI => ?_) .nil))
            · refine lp rfl (p_lde (o := 0) ty9 rfl rfl (.row 1 rfl) (getI_spec he8).2 rfl) ?_
              refine lj_nil ?_
              refine cnI _ _ (sof1 rfl rfl (fun _ h => h.picks [2, 2] rfl)) ?_
              refine at_take2 5 rfl (by kernel_rfl) (by kernel_rfl) (by kernel_rfl) (fun _ h => h.picks [0, 0] rfl) rfl rfl (p_catM hc9 rfl rfl) (fun _ h => h.picks [2, 2] rfl) ?_
              refine at_each (rs := [9]) (by kernel_rfl) (by decide) ?_
              refine (.cons rfl (fun I cnI => ?_) .nil)
              · refine lp rfl (p_idx Tryz.underlying41 ty9 rfl rfl (.row 0 rfl) he12) ?_
                refine lj_nil ?_
                refine cnI _ _ (sof1 rfl rfl (fun _ h => h.picks [2, 2] rfl)) ?_
                refine at_each (rs := [10]) (by kernel_rfl) (by decide) ?_
                refine (.cons rfl (fun I cnI => ?_) .nil)
                · refine lp rfl (p_lde (o := 0) ty9 rfl rfl (.row 0 rfl) (getI_spec he12).2 rfl) ?_
                  refine lj_nil ?_
                  refine cnI _ _ (sof1 rfl rfl (fun _ h => h.picks [2, 2] rfl)) ?_
                  refine at_take2 11 rfl (by kernel_rfl) (by kernel_rfl) (by kernel_rfl) (fun _ h => h.picks [0, 0] rfl) rfl rfl (p_catM hc13 rfl rfl) (fun _ h => h.picks [2, 2] rfl) ?_
                  refine at_take2 12 rfl (by kernel_rfl) (by kernel_rfl) (by kernel_rfl) (fun _ h => h.picks [0, 0] rfl) rfl rfl (p_as rfl) (fun _ h => h.picks [2, 2] rfl) ?_
                  refine at_done (by kernel_rfl) ?_
                  exact cnk5 _ _ c13 () (Option.some.inj hm).symm ⟨rfl, rfl, rfl, rfl, trivial⟩ (fun _ h => h.picks [2, 2] rfl)
            · refine lp rfl (p_idx Tryz.underlying41 ty9 rfl rfl (.row 0 rfl) he12) ?_
              refine lj_nil ?_
              refine cnI _ _ (sof1 rfl rfl (fun _ h => h.picks [2, 2] rfl)) ?_
              refine at_each (rs := [4, 10]) (by kernel_rfl) (by decide) ?_
              refine (.cons rfl (fun I cnI => ?_) (.cons rfl (fun I cnI => ?_) .nil))
              · refine lp rfl (p_lde (o := 0) ty9 rfl rfl (.row 1 rfl) (getI_spec he8).2 rfl) ?_
                refine lj_nil ?_
                refine cnI _ _ (sof1 rfl rfl (fun _ h => h.picks [2, 2] rfl)) ?_
                refine at_take2 5 rfl (by kernel_rfl) (by kernel_rfl) (by kernel_rfl) (fun _ h => h.picks [0, 0] rfl) rfl rfl (p_catM hc9 rfl rfl) (fun _ h => h.picks [2, 2] rfl) ?_
                refine at_each (rs := [10]) (by kernel_rfl) (by decide) ?_
                refine (.cons rfl (fun I cnI => ?_) .nil)
                · refine lp rfl (p_lde (o := 0) ty9 rfl rfl (.row 0 rfl) (getI_spec he12).2 rfl) ?_
                  refine lj_nil ?_
                  refine cnI _ _ (sof1 rfl rfl (fun _ h => h.picks [2, 2] rfl)) ?_
                  refine at_take2 11 rfl (by kernel_rfl) (by kernel_rfl) (by kernel_rfl) (fun _ h => h.picks [0, 0] rfl) rfl rfl (p_catM hc13 rfl rfl) (fun _ h => h.picks [2, 2] rfl) ?_
                  refine at_take2 12 rfl (by kernel_rfl) (by kernel_rfl) (by kernel_rfl) (fun _ h => h.picks [0, 0] rfl) rfl rfl (p_as rfl) (fun _ h => h.picks [2, 2] rfl) ?_
                  refine at_done (by kernel_rfl) ?_
                  exact cnk5 _ _ c13 () (Option.some.inj hm).symm ⟨rfl, rfl, rfl, rfl, trivial⟩ (fun _ h => h.picks [2, 2] rfl)
              · refine lp rfl (p_lde (o := 0) ty9 rfl rfl (.row 0 rfl) (getI_spec he12).2 rfl) ?_
                refine lj_nil ?_
                refine cnI _ _ (sof1 rfl rfl (fun _ h => h.picks [2, 2] rfl)) ?_
                refine at_each (rs := [4]) (by kernel_rfl) (by decide) ?_
                refine (.cons rfl (fun I cnI => ?_) .nil)
                · refine lp rfl (p_lde (o := 0) ty9 rfl rfl (.row 1 rfl) (getI_spec he8).2 rfl) ?_
                  refine lj_nil ?_
                  refine cnI _ _ (sof1 rfl rfl (fun _ h => h.picks [2, 2] rfl)) ?_
                  refine at_take2 5 rfl (by kernel_rfl) (by kernel_rfl) (by kernel_rfl) (fun _ h => h.picks [0, 0] rfl) rfl rfl (p_catM hc9 rfl rfl) (fun _ h => h.picks [2, 2] rfl) ?_
                  refine at_take2 11 rfl (by kernel_rfl) (by kernel_rfl) (by kernel_rfl) (fun _ h => h.picks [0, 0] rfl) rfl rfl (p_catM hc13 rfl rfl) (fun _ h => h.picks [2, 2] rfl) ?_
                  refine at_take2 12 rfl (by kernel_rfl) (by kernel_rfl) (by kernel_rfl) (fun _ h => h.picks [0, 0] rfl) rfl rfl (p_as rfl) (fun _ h => h.picks [2, 2] rfl) ?_
                  refine at_done (by kernel_rfl) ?_
                  exact cnk5 _ _ c13 () (Option.some.inj hm).symm ⟨rfl, rfl, rfl, rfl, trivial⟩ (fun _ h => h.picks [2, 2] rfl)
          · refine lp rfl (p_idx Tryz.underlying41 ty9 rfl rfl (.row 0 rfl) he12) ?_
            refine lj_nil ?_
            refine cnI _ _ (sof1 rfl rfl (fun _ h => h.picks [2, 2] rfl)) ?_
            refine at_each (rs := [3, 10]) (by kernel_rfl) (by decide) ?_
            refine (.cons rfl (fun I cnI => ?_) (.cons rfl (fun I cnI => ?_) .nil))
            · refine lp rfl (p_idx Tryz.underlying41 ty9 rfl rfl (.row 1 rfl) he8) ?_
              refine lj_nil ?_
              refine cnI _ _ (sof1 rfl rfl (fun _ h => h.picks [2, 2] rfl)) ?_
              refine at_each (rs := [4, 10]) (by kernel_rfl) (by decide) ?_
              refine (.cons rfl (fun I cnI => ?_) (.cons rfl (fun I cnI => ?_) .nil))
              · refine lp rfl (p_lde (o := 0) ty9 rfl rfl (.row 1 rfl) (getI_spec he8).2 rfl) ?_
                refine lj_nil ?_
                refine cnI _ _ (sof1 rfl rfl (fun _ h => h.picks [2, 2] rfl)) ?_
                refine at_take2 5 rfl (by kernel_rfl) (by kernel_rfl) (by kernel_rfl) (fun _ h => h.picks [0, 0] rfl) rfl rfl (p_catM hc9 rfl rfl) (fun _ h => h.picks [2, 2] rfl) ?_
                refine at_each (rs := [10]) (by kernel_rfl) (by decide) ?_
                refine (.cons rfl (fun I cnI => ?_) .nil)
                · refine lp rfl (p_lde (o := 0) ty9 rfl rfl (.row 0 rfl) (getI_spec he12).2 rfl) ?_
                  refine lj_nil ?_
                  refine cnI _ _ (sof1 rfl rfl (fun _ h => h.picks [2, 2] rfl)) ?_
                  refine at_take2 11 rfl (by kernel_rfl) (by kernel_rfl) (by kernel_rfl) (fun _ h => h.picks [0, 0] rfl) rfl rfl (p_catM hc13 rfl rfl) (fun _ h => h.picks [2, 2] rfl) ?_
                  refine at_take2 12 rfl (by kernel_rfl) (by kernel_rfl) (by kernel_rfl) (fun _ h => h.picks [0, 0] rfl) rfl rfl (p_as rfl) (fun _ h => h.picks [2, 2] rfl) ?_
                  refine at_done (by kernel_rfl) ?_
                  exact cnk5 _ _ c13 () (Option.some.inj hm).symm ⟨rfl, rfl, rfl, rfl, trivial⟩ (fun _ h => h.picks [2, 2] rfl)
              · refine lp rfl (p_lde (o := 0) ty9 rfl rfl (.row 0 rfl) (getI_spec he12).2 rfl) ?_
                refine lj_nil ?_
                refine cnI _ _ (sof1 rfl rfl (fun _ h => h.picks [2, 2] rfl)) ?_
                refine at_each (rs := [4]) (by kernel_rfl) (by decide) ?_
                refine (.cons rfl (fun I cnI => ?_) .nil)
                · refine lp rfl (p_lde (o := 0) ty9 rfl rfl (.row 1 rfl) (getI_spec he8).2 rfl) ?_
                  refine lj_nil ?_
                  refine cnI _ _ (sof1 rfl rfl (fun _ h => h.picks [2, 2] rfl)) ?_
                  refine at_take2 5 rfl (by kernel_rfl) (by kernel_rfl) (by kernel_rfl) (fun _ h => h.picks [0, 0] rfl) rfl rfl (p_catM hc9 rfl rfl) (fun _ h => h.picks [2, 2] rfl) ?_
                  refine at_take2 11 rfl (by kernel_rfl) (by kernel_rfl) (by kernel_rfl) (fun _ h => h.picks [0, 0] rfl) rfl rfl (p_catM hc13 rfl rfl) (fun _ h => h.picks [2, 2] rfl) ?_
                  refine at_take2 12 rfl (by kernel_rfl) (by kernel_rfl) (by kernel_rfl) (fun _ h => h.picks [0, 0] rfl) rfl rfl (p_as rfl) (fun _ h => h.picks [2, 2] rfl) ?_
                  refine at_done (by kernel_rfl) ?_
                  exact cnk5 _ _ c13 () (Option.some.inj hm).symm ⟨rfl, rfl, rfl, rfl, trivial⟩ (fun _ h => h.picks [2, 2] rfl)
            · refine lp rfl (p_lde (o := 0) ty9 rfl rfl (.row 0 rfl) (getI_spec he12).2 rfl) ?_
              refine lj_nil ?_
              refine cnI _ _ (sof1 rfl rfl (fun _ h => h.picks [2, 2] rfl)) ?_
              refine at_each (rs := [3]) (by kernel_rfl) (by decide) ?_
              refine (.cons rfl (fun I cnI => ?_) .nil)
              · refine lp rfl (p_idx Tryz.underlying41 ty9 rfl rfl (.row 1 rfl) he8) ?_
                refine lj_nil ?_
                refine cnI _ _ (sof1 rfl rfl (fun _ h => h.picks [2, 2] rfl)) ?_
                refine at_each (rs := [4]) (by kernel_rfl) (by decide) ?_
                refine (.cons rfl (fun I cnI => ?_) .nil)
                · refine lp rfl (p_lde (o := 0) ty9 rfl rfl (.row 1 rfl) (getI_spec he8).2 rfl) ?_
                  refine lj_nil ?_
                  refine cnI _ _ (sof1 rfl rfl (fun _ h => h.picks [2, 2] rfl)) ?_
                  refine at_take2 5 rfl (by kernel_rfl) (by kernel_rfl) (by kernel_rfl) (fun _ h => h.picks [0, 0] rfl) rfl rfl (p_catM hc9 rfl rfl) (fun _ h => h.picks [2, 2] rfl) ?_
                  refine at_take2 11 rfl (by kernel_rfl) (by kernel_rfl) (by kernel_rfl) (fun _ h => h.picks [0, 0] rfl) rfl rfl (p_catM hc13 rfl rfl) (fun _ h => h.picks [2, 2] rfl) ?_
                  refine at_take2 12 rfl (by kernel_rfl) (by kernel_rfl) (by kernel_rfl) (fun _ h => h.picks [0, 0] rfl) rfl rfl (p_as rfl) (fun _ h => h.picks [2, 2] rfl) ?_
                  refine at_done (by kernel_rfl) ?_
                  exact cnk5 _ _ c13 () (Option.some.inj hm).symm ⟨rfl, rfl, rfl, rfl, trivial⟩ (fun _ h => h.picks [2, 2] rfl)
theorem ok_kit_IsMoment (a0 : Int) {r : Bool} (hm : m_kit_IsMoment a0 = some r) :
    Ctr Tryz.prog 50 [.int .i64 a0].toArray ([] : List Ent) [] (X := Unit) (fun _ => .bool r) (fun _ => []) := by
  unfold m_kit_IsMoment at hm
  refine ctr_mk (vs := [(0, .int .i64 a0)]) Tryz.func50 rfl Tryz.ntmps50 rfl ⟨rfl, trivial⟩ (fun w0 A => ?_)
  refine cj_seq ?_
  refine cj_reg ?_
  refine lp rfl (p_as rfl) ?_
  refine lj_seq ?_
  refine cj_seq ?_
  refine cj_reg ?_
  refine lp rfl (p_mv rfl) ?_
  obtain ⟨y1, hy1, hm⟩ := bindS hm
  refine r_call [] cf17 rfl rfl (ok_kit_Outside a0 0 345686399999 hy1) rfl rfl .nil (fun _ => rfl) rfl (fun _ => ?_)
  refine lp rfl (p_not rfl) ?_
  refine lp rfl (p_as rfl) ?_
  refine lj_seq ?_
  obtain rfl := Option.some.inj hm
  exact cj_rt () [] Tryz.results50 (.tmp rfl .nil) rfl rfl
theorem ok_rehearse_flagNumber (a0 : Bool) {r : Int} (hm : m_rehearse_flagNumber a0 = some r) :
    Ctr Tryz.prog 104 [.bool a0].toArray ([] : List Ent) [] (X := Unit) (fun _ => .int .i64 r) (fun _ => []) := by
  unfold m_rehearse_flagNumber at hm
  refine ctr_mk (vs := [(0, .bool a0)]) Tryz.func104 rfl Tryz.ntmps104 rfl ⟨rfl, trivial⟩ (fun w0 A => ?_)
  refine cj_seq ?_
  refine cj_reg ?_
  refine lp rfl (p_as rfl) ?_
  refine lj_seq ?_
  refine cj_seq ?_
  refine cj_seq ?_
  refine cj_reg ?_
  refine lp rfl (p_mv rfl) ?_
  refine lj_seq ?_
  refine cj_if (b := a0) rfl (fun hb => ?_) (fun hb => ?_)
  · have hm := ifB_t hb hm
    refine cj_seq ?_
    refine cj_reg ?_
    refine lp rfl (p_as rfl) ?_
    refine lj_seq ?_
    obtain rfl := Option.some.inj hm
    exact cj_rt () [] Tryz.results104 (.tmp rfl .nil) rfl rfl
  · have hm := ifB_f hb hm
    refine cj_skip ?_
    refine nj_seq ?_
    refine cj_seq ?_
    refine cj_reg ?_
    refine lp rfl (p_as rfl) ?_
    refine lj_seq ?_
    obtain rfl := Option.some.inj hm
    exact cj_rt () [] Tryz.results104 (.tmp rfl .nil) rfl rfl
theorem ok_rehearse_compareCame (a0 : TCame) (a1 : TCame) {r : Int} (hm : m_rehearse_compareCame a0 a1 = some r) :
    Ctr Tryz.prog 82 [.agg (R78.enc a0).toArray, .agg (R78.enc a1).toArray].toArray ([] : List Ent) [] (X := Unit) (fun _ => .int .i64 r) (fun _ => []) := by
  unfold m_rehearse_compareCame at hm
  refine ctr_mk (vs := [(0, .agg (R78.enc a0).toArray), (1, .agg (R78.enc a1).toArray)]) Tryz.func82 rfl Tryz.ntmps82 rfl ⟨rfl, rfl, trivial⟩ (fun w0 A => ?_)
  refine cj_seq ?_
  refine cj_reg ?_
  refine r_bx (cs := [.int .i64 a0.At, .string a0.Singer, .bool a0.Left]) rfl rfl rfl (fun b1 => ?_)
  refine r_bx (cs := [.int .i64 a1.At, .string a1.Singer, .bool a1.Left]) rfl rfl rfl (fun b2 => ?_)
  refine lp rfl (p_as rfl) ?_
  refine lj_seq ?_
  refine cj_seq ?_
  obtain ⟨y3, hy3, hm⟩ := bindS hm
  obtain ⟨y4, hy4, hm⟩ := bindS hm
  obtain ⟨y5, hy5, hm⟩ := bindS hm
  obtain ⟨y6, hy6, hm⟩ := bindS hm
  obtain ⟨y7, hy7, hm⟩ := bindS hm
  obtain ⟨y9, hy9, hm⟩ := bindS hm
  refine cj_anyT [0, 1, 2, 3, 5, 6, 7, 8, 10, 11, 13, 14, 19] [] (Sat w0 (keys ([] : List Ent)) A [.box b2 78 [.int .i64 a1.At, .string a1.Singer, .bool a1.Left], .box b1 78 [.int .i64 a0.At, .string a0.Singer, .bool a0.Left]]) (Sat w0 (keys ([] : List Ent)) A [.box b2 78 [.int .i64 a1.At, .string a1.Singer, .bool a1.Left], .box b1 78 [.int .i64 a0.At, .string a0.Singer, .bool a0.Left]]) (by kernel_rfl) ?_
  refine at_take2 0 rfl (by kernel_rfl) (by kernel_rfl) (by kernel_rfl) (fun _ h => h.picks [0, 0] rfl) rfl rfl (p_fab fl78_0 rfl) (fun _ h => h.picks [0, 0] rfl) ?_
  refine at_take2 1 rfl (by kernel_rfl) (by kernel_rfl) (by kernel_rfl) (fun _ h => h.picks [0, 0] rfl) rfl rfl (p_lbs ty3 rfl (j := 1) rfl rfl) (fun _ h => h.picks [0, 0] rfl) ?_
  refine at_take2 2 rfl (by kernel_rfl) (by kernel_rfl) (by kernel_rfl) (fun _ h => h.picks [0, 0] rfl) rfl rfl (p_fab fl78_0 rfl) (fun _ h => h.picks [0, 0] rfl) ?_
  refine at_take2 3 rfl (by kernel_rfl) (by kernel_rfl) (by kernel_rfl) (fun _ h => h.picks [0, 0] rfl) rfl rfl (p_lbs ty3 rfl (j := 0) rfl rfl) (fun _ h => h.picks [0, 0] rfl) ?_
  refine at_take2 5 rfl (by kernel_rfl) (by kernel_rfl) (by kernel_rfl) (fun _ h => h.picks [0, 0] rfl) rfl rfl (p_fab fl78_1 rfl) (fun _ h => h.picks [0, 0] rfl) ?_
  refine at_take2 6 rfl (by kernel_rfl) (by kernel_rfl) (by kernel_rfl) (fun _ h => h.picks [0, 0] rfl) rfl rfl (p_lbs ty9 rfl (j := 1) rfl rfl) (fun _ h => h.picks [0, 0] rfl) ?_
  refine at_take2 7 rfl (by kernel_rfl) (by kernel_rfl) (by kernel_rfl) (fun _ h => h.picks [0, 0] rfl) rfl rfl (p_fab fl78_1 rfl) (fun _ h => h.picks [0, 0] rfl) ?_
  refine at_take2 8 rfl (by kernel_rfl) (by kernel_rfl) (by kernel_rfl) (fun _ h => h.picks [0, 0] rfl) rfl rfl (p_lbs ty9 rfl (j := 0) rfl rfl) (fun _ h => h.picks [0, 0] rfl) ?_
  refine at_take2 10 rfl (by kernel_rfl) (by kernel_rfl) (by kernel_rfl) (fun _ h => h.picks [0, 0] rfl) rfl rfl (p_fab fl78_2 rfl) (fun _ h => h.picks [0, 0] rfl) ?_
  refine at_take2 11 rfl (by kernel_rfl) (by kernel_rfl) (by kernel_rfl) (fun _ h => h.picks [0, 0] rfl) rfl rfl (p_lbs ty4 rfl (j := 1) rfl rfl) (fun _ h => h.picks [0, 0] rfl) ?_
  refine at_take2 13 rfl (by kernel_rfl) (by kernel_rfl) (by kernel_rfl) (fun _ h => h.picks [0, 0] rfl) rfl rfl (p_fab fl78_2 rfl) (fun _ h => h.picks [0, 0] rfl) ?_
  refine at_take2 14 rfl (by kernel_rfl) (by kernel_rfl) (by kernel_rfl) (fun _ h => h.picks [0, 0] rfl) rfl rfl (p_lbs ty4 rfl (j := 0) rfl rfl) (fun _ h => h.picks [0, 0] rfl) ?_
  refine at_each (rs := [4]) (by kernel_rfl) (by decide) ?_
  refine (.cons rfl (fun I cnI => ?_) .nil)
  · refine r_call [] cf23 rfl rfl (ok_cmp_Compare_int a0.At a1.At hy3) rfl rfl .nil (fun _ => rfl) rfl (fun _ => ?_)
    refine lj_nil ?_
    refine cnI _ _ (sof1 rfl rfl (fun _ h => h.picks [0, 0] rfl)) ?_
    refine at_each (rs := [9]) (by kernel_rfl) (by decide) ?_
    refine (.cons rfl (fun I cnI => ?_) .nil)
    · refine r_call [] cf24 rfl rfl (ok_strings_Compare a0.Singer a1.Singer hy4) rfl rfl .nil (fun _ => rfl) rfl (fun _ => ?_)
      refine lj_nil ?_
      refine cnI _ _ (sof1 rfl rfl (fun _ h => h.picks [0, 0] rfl)) ?_
      refine at_each (rs := [12]) (by kernel_rfl) (by decide) ?_
      refine (.cons rfl (fun I cnI => ?_) .nil)
      · refine r_call [] cf104 rfl rfl (ok_rehearse_flagNumber a0.Left hy5) rfl rfl .nil (fun _ => rfl) rfl (fun _ => ?_)
        refine lj_nil ?_
        refine cnI _ _ (sof1 rfl rfl (fun _ h => h.picks [0, 0] rfl)) ?_
        refine at_each (rs := [15]) (by kernel_rfl) (by decide) ?_
        refine (.cons rfl (fun I cnI => ?_) .nil)
        · refine r_call [] cf104 rfl rfl (ok_rehearse_flagNumber a1.Left hy6) rfl rfl .nil (fun _ => rfl) rfl (fun _ => ?_)
          refine lj_nil ?_
          refine cnI _ _ (sof1 rfl rfl (fun _ h => h.picks [0, 0] rfl)) ?_
          refine at_each (rs := [16]) (by kernel_rfl) (by decide) ?_
          refine (.cons rfl (fun I cnI => ?_) .nil)
          · refine r_call [] cf23 rfl rfl (ok_cmp_Compare_int y5 y6 hy7) rfl rfl .nil (fun _ => rfl) rfl (fun _ => ?_)
            refine lj_nil ?_
            refine cnI _ _ (sof1 rfl rfl (fun _ h => h.picks [0, 0] rfl)) ?_
            refine at_each (rs := [17]) (by kernel_rfl) (by decide) ?_
            refine (.cons rfl (fun I cnI => ?_) .nil)
            · refine r_bs R3 [y3, y4, y7] rfl rfl rfl (fun _ => by kernel_rfl) rfl (fun s10 => ?_)
              refine lj_nil ?_
              refine cnI _ _ (sof1 rfl rfl (fun _ h => h.picks [1, 1] rfl)) ?_
              refine at_each (rs := [18]) (by kernel_rfl) (by decide) ?_
              refine (.cons rfl (fun I cnI => ?_) .nil)
              · refine r_call [] cf22 rfl rfl (ok_cmp_Or_int s10 [y3, y4, y7] hy9) rfl rfl (.cons (.row 0 rfl) .nil) (fun _ => rfl) rfl (fun _ => ?_)
                refine lj_nil ?_
                refine cnI _ _ (sof1 rfl rfl (fun _ h => h.picks [1, 1] rfl)) ?_
                refine at_take2 19 rfl (by kernel_rfl) (by kernel_rfl) (by kernel_rfl) (fun _ h => h.picks [0, 0] rfl) rfl rfl (p_as rfl) (fun _ h => h.picks [1, 1] rfl) ?_
                refine at_done (by kernel_rfl) ?_
                refine nj_seq ?_
                obtain rfl := Option.some.inj hm
                exact cj_rt () [] Tryz.results82 (.tmp rfl .nil) rfl rfl
theorem ok_rehearse_CheckCame (s0_ : SV) (a0 : (List TCame)) {r : Int} (hm : m_rehearse_CheckCame a0 = some r) :
    Ctr Tryz.prog 49 [s0_.v].toArray ([] : List Ent) [RdS R78 (SV.v s0_) a0] (X := Unit) (fun _ => .int .i64 r) (fun _ => []) := by
  unfold m_rehearse_CheckCame at hm
  refine ctr_mk (vs := [(0, s0_.v)]) Tryz.func49 rfl Tryz.ntmps49 rfl ⟨rfl, trivial⟩ (fun w0 A => ?_)
  refine cj_seq ?_
  refine cj_reg ?_
  refine lp rfl (p_as rfl) ?_
  refine lj_seq ?_
  refine cj_seq ?_
  refine cj_seq ?_
  refine cj_reg ?_
  refine lp rfl (p_mv rfl) ?_
  refine lp rfl (p_len Tryz.underlying79 rfl (.ro 0 rfl)) ?_
  refine lp rfl (p_gtr rfl rfl) ?_
  refine lj_seq ?_
  refine cj_if (b := decide ((a0.length : Int) > 5000)) rfl (fun hb => ?_) (fun hb => ?_)
  · have hm := ifB_t hb hm
    refine cj_seq ?_
    refine cj_reg ?_
    refine lp rfl (p_as rfl) ?_
    refine lj_seq ?_
    obtain rfl := Option.some.inj hm
    exact cj_rt () [] Tryz.results49 (.tmp rfl .nil) rfl rfl
  · have hm := ifB_f hb hm
    refine cj_skip ?_
    refine nj_seq ?_
    refine cj_seq ?_
    refine cj_seq ?_
    refine cj_reg ?_
    refine lp rfl (p_mv rfl) ?_
    refine lp rfl (p_len Tryz.underlying79 rfl (.ro 0 rfl)) ?_
    refine lp rfl (p_mv rfl) ?_
    refine lj_seq ?_
    obtain ⟨f7, hf7, hm⟩ := bindS hm
    refine cj_range (γ := Unit) (m := (a0.length : Int)) hf7 () (fun u4 g5 => [(0, s0_.v), (2, .int .i64 0), (8, s0_.v)]) (fun u4 g5 => Sat w0 (keys ([] : List Ent)) A [.ro (RdS R78 (SV.v s0_) a0)]) ⟨rfl, rfl, rfl, rfl, rfl, trivial⟩ (fun _ h => h.picks [0] rfl) (nat_lt _) (fun _ h => (FactAt.get (F := RdS R78 (SV.v s0_) a0) (.ro 0 rfl) h).1) (fun _ _ => ⟨rfl, rfl, rfl, rfl⟩) ⟨rfl, rfl, rfl, rfl, rfl⟩ rfl rfl rfl (fun u4 g5 e => ?_) (fun aftk6 i1 x2 u4 g5 k6 hx3 hs J hJk6 hBk6 hX I cnk6 => ?_)
    · have hm := Flow.fin_b e hm
      refine nj_seq ?_
      refine cj_seq ?_
      refine cj_reg ?_
      refine lp rfl (p_as rfl) ?_
      refine lj_seq ?_
      obtain rfl := Option.some.inj hm
      exact cj_rt () [] Tryz.results49 (.tmp rfl .nil) rfl rfl
    · have hRk6 : ∀ t, k6 = .ret t → some t = some r := fun t e => by rw [hX t e] at hm; exact hm
      have hm := hs
      refine cj_seq ?_
      refine cj_reg ?_
      refine lp rfl (p_mv rfl) ?_
      refine lp rfl (p_idx Tryz.underlying79 ty78 rfl rfl (.ro 0 rfl) (getI_nat.trans hx3)) ?_
      refine lp rfl (p_lea ty78 rfl (.ro 0 rfl) hx3) ?_
      refine r_al ty78 rfl (fun b8 => ?_)
      refine lp rfl (p_as rfl) ?_
      refine r_sb (vs := [.int .i64 x2.At, .string x2.Singer, .bool x2.Left]) (j := 0) ty78 rfl rfl rfl rfl rfl rfl rfl ?_
      refine lj_seq ?_
      refine cj_blk ?_
      refine cj_seq ?_
      refine cj_reg ?_
      refine lp rfl (p_fab fl78_0 rfl) ?_
      refine lp rfl (p_lbs ty3 rfl (j := 0) rfl rfl) ?_
      obtain ⟨y9, hy9, hm⟩ := bindS hm
      refine r_call [] cf50 rfl rfl (ok_kit_IsMoment x2.At hy9) rfl rfl .nil (fun _ => rfl) rfl (fun _ => ?_)
      refine lp rfl (p_not rfl) ?_
      refine lp rfl (p_as rfl) ?_
      refine lj_seq ?_
      refine cj_if (b := !y9) rfl (fun hb => ?_) (fun hb => ?_)
      · have hm := ifB_t hb hm
        refine cj_seq ?_
        refine cj_reg ?_
        refine lp rfl (p_as rfl) ?_
        refine lj_seq ?_
        have hm := hRk6 _ (Option.some.inj hm).symm
        obtain rfl := Option.some.inj hm
        exact cj_rt () [] Tryz.results49 (.tmp rfl .nil) rfl rfl
      · have hm := ifB_f hb hm
        refine cj_seq ?_
        refine cj_reg ?_
        refine lp rfl (p_fab fl78_1 rfl) ?_
        refine lp rfl (p_lbs ty9 rfl (j := 0) rfl rfl) ?_
        obtain ⟨y10, hy10, hm⟩ := bindS hm
        refine r_call [] cf57 rfl rfl (ok_kit_IsKey x2.Singer hy10) rfl rfl .nil (fun _ => rfl) rfl (fun _ => ?_)
        refine lp rfl (p_not rfl) ?_
        refine lp rfl (p_as rfl) ?_
        refine lj_seq ?_
        refine cj_if (b := !y10) rfl (fun hb => ?_) (fun hb => ?_)
        · have hm := ifB_t hb hm
          refine cj_seq ?_
          refine cj_reg ?_
          refine lp rfl (p_as rfl) ?_
          refine lj_seq ?_
          have hm := hRk6 _ (Option.some.inj hm).symm
          obtain rfl := Option.some.inj hm
          exact cj_rt () [] Tryz.results49 (.tmp rfl .nil) rfl rfl
        · have hm := ifB_f hb hm
          refine cj_seq ?_
          refine cj_quiet (by kernel_rfl) (by kernel_rfl) ?_
          refine q_p rfl (p_mv rfl) ?_
          refine q_p rfl (p_gtr rfl rfl) ?_
          refine q_p rfl (p_mv rfl) ?_
          refine q_case (i := 28) (decide ((i1 : Int) > 0)) rfl (fun hb => ?_) (fun hb => ?_)
          · have hm := ifB_t hb hm
            refine q_g true rfl rfl rfl ?_
            refine q_p rfl (p_mv rfl) ?_
            refine q_g true rfl rfl rfl ?_
            refine q_p rfl (p_mv rfl) ?_
            refine q_g true rfl rfl rfl ?_
            refine q_p rfl (p_sub rfl rfl) ?_
            refine q_g true rfl rfl rfl ?_
            obtain ⟨e11, he11, hm⟩ := bindS hm
            refine q_p rfl (p_idx Tryz.underlying79 ty78 rfl rfl (.ro 1 rfl) he11) ?_
            refine q_g true rfl rfl rfl ?_
            refine q_p rfl (p_lea ty78 rfl (.ro 1 rfl) (getI_spec he11).2) ?_
            refine q_g true rfl rfl rfl ?_
            refine q_p rfl (p_lbw ty78 rfl (j := 0) rfl rfl) ?_
            refine q_g true rfl rfl rfl ?_
            obtain ⟨y12, hy12, hm⟩ := bindS hm
            refine q_call (.int .i64 y12) cf82 rfl rfl (ok_rehearse_compareCame e11 x2 hy12) .nil (fun _ => rfl) (fun _ => rfl) rfl ?_
            refine q_g true rfl rfl rfl ?_
            refine q_p rfl (p_geq rfl rfl) ?_
            refine q_p rfl (p_pkt rfl rfl) ?_
            refine q_p rfl (p_as rfl) ?_
            refine q_nil ?_
            refine nj_seq ?_
            refine cj_if (b := decide (y12 ≥ 0)) rfl (fun hb => ?_) (fun hb => ?_)
            · have hm := ifB_t hb hm
              refine cj_seq ?_
              refine cj_reg ?_
              refine lp rfl (p_as rfl) ?_
              refine lj_seq ?_
              have hm := hRk6 _ (Option.some.inj hm).symm
              obtain rfl := Option.some.inj hm
              exact cj_rt () [] Tryz.results49 (.tmp rfl .nil) rfl rfl
            · have hm := ifB_f hb hm
              refine cj_skip ?_
              refine nj_blk ?_
              refine nj_blk ?_
              exact cnk6 _ _ () () (hJk6 _ (Option.some.inj hm).symm) ⟨rfl, rfl, rfl, rfl, rfl, trivial⟩ (fun _ h => h.picks [1] rfl)
          · have hm := ifB_f hb hm
            refine q_s true rfl rfl rfl rfl ?_
            refine q_s true rfl rfl rfl rfl ?_
            refine q_s true rfl rfl rfl rfl ?_
            refine q_s true rfl rfl rfl rfl ?_
            refine q_s true rfl rfl rfl rfl ?_
            refine q_s true rfl rfl rfl rfl ?_
            refine q_s true rfl rfl rfl rfl ?_
            refine q_s true rfl rfl rfl rfl ?_
            refine q_p rfl (p_pkf rfl rfl) ?_
            refine q_p rfl (p_as rfl) ?_
            refine q_nil ?_
            refine nj_seq ?_
            refine cj_if_f rfl ?_
            refine cj_skip ?_
            refine nj_blk ?_
            refine nj_blk ?_
            exact cnk6 _ _ () () (hJk6 _ (Option.some.inj hm).symm) ⟨rfl, rfl, rfl, rfl, rfl, trivial⟩ (fun _ h => h.picks [1] rfl)
theorem ok_rehearse_joined (s0_ : SV) (a0 : (List TWindow)) {r : (List TWindow)} (hm : m_rehearse_joined a0 = some r) :
    Ctr Tryz.prog 83 [s0_.v].toArray ([] : List Ent) [RdS R107 (SV.v s0_) a0] (X := SV) (fun s => s.v) (fun s => [.row R107 (SV.v s) r]) := by
  unfold m_rehearse_joined at hm
  refine ctr_mk (vs := [(0, s0_.v)]) Tryz.func83 rfl Tryz.ntmps83 rfl ⟨rfl, trivial⟩ (fun w0 A => ?_)
  refine cj_seq ?_
  refine cj_reg ?_
  refine lp rfl (p_as rfl) ?_
  refine lj_seq ?_
  refine cj_seq ?_
  refine cj_reg ?_
  refine lp rfl (p_as rfl) ?_
  refine lj_seq ?_
  refine cj_seq ?_
  refine cj_seq ?_
  refine cj_reg ?_
  refine lp rfl (p_mv rfl) ?_
  refine lp rfl (p_len Tryz.underlying104 rfl (.ro 0 rfl)) ?_
  refine lp rfl (p_mv rfl) ?_
  refine lj_seq ?_
  refine cj_nil R107 ?_
  obtain ⟨f8, hf8, hm⟩ := bindS hm
  refine cj_range (γ := SV) (m := (a0.length : Int)) hf8 nilS (fun u5 g6 => [(2, .slice none 0 0), (3, g6.v), (7, s0_.v)]) (fun u5 g6 => Sat w0 (keys ([] : List Ent)) A [.ro (RdS R107 (SV.v s0_) a0), .row R107 (SV.v g6) u5]) ⟨rfl, rfl, rfl, rfl, rfl, trivial⟩ (fun _ h => h.picks [1, 0] rfl) (nat_lt _) (fun _ h => (FactAt.get (F := RdS R107 (SV.v s0_) a0) (.ro 1 rfl) h).1) (fun _ _ => ⟨rfl, rfl, rfl, rfl⟩) ⟨rfl, rfl, rfl, rfl, rfl⟩ rfl rfl rfl (fun u5 g6 e => ?_) (fun aftk7 i1 x2 u5 g6 k7 hx3 hs J hJk7 hBk7 hX I cnk7 => ?_)
  · have hm := Flow.fin_b e hm
    refine nj_seq ?_
    refine cj_seq ?_
    refine cj_reg ?_
    refine lp rfl (p_mv rfl) ?_
    refine lp rfl (p_as rfl) ?_
    refine lj_seq ?_
    obtain rfl := Option.some.inj hm
    exact cj_rt g6 [1] Tryz.results83 (.tmp rfl .nil) rfl rfl
  · have hRk7 : ∀ t, k7 = .ret t → some t = some r := fun t e => by rw [hX t e] at hm; exact hm
    have hm := hs
    refine cj_seq ?_
    refine cj_reg ?_
    refine lp rfl (p_idx Tryz.underlying104 ty107 rfl rfl (.ro 0 rfl) (getI_nat.trans hx3)) ?_
    refine lp rfl (p_lea ty107 rfl (.ro 0 rfl) hx3) ?_
    refine r_al ty107 rfl (fun b10 => ?_)
    refine r_sb (vs := [.int .i64 x2.From, .int .i64 x2.To]) (j := 0) ty107 rfl rfl rfl rfl rfl rfl rfl ?_
    refine lj_seq ?_
    refine cj_seq ?_
    refine cj_reg ?_
    refine lp rfl (p_mv rfl) ?_
    refine lp rfl (p_len Tryz.underlying104 rfl (.row 2 rfl)) ?_
    refine lp rfl (p_sub rfl rfl) ?_
    refine lp rfl (p_as rfl) ?_
    refine lj_seq ?_
    refine cj_seq ?_
    refine cj_quiet (by kernel_rfl) (by kernel_rfl) ?_
    refine q_p rfl (p_mv rfl) ?_
    refine q_p rfl (p_geq rfl rfl) ?_
    refine q_p rfl (p_mv rfl) ?_
    refine q_case (i := 18) (decide ((w64 ((u5.length : Int) - 1)) ≥ 0)) rfl (fun hb => ?_) (fun hb => ?_)
    · have hm := ifB_t hb hm
      refine q_g true rfl rfl rfl ?_
      refine q_p rfl (p_fab fl107_0 rfl) ?_
      refine q_g true rfl rfl rfl ?_
      refine q_p rfl (p_lbs ty3 rfl (j := 0) rfl rfl) ?_
      refine q_g true rfl rfl rfl ?_
      refine q_p rfl (p_mv rfl) ?_
      refine q_g true rfl rfl rfl ?_
      refine q_p rfl (p_mv rfl) ?_
      refine q_g true rfl rfl rfl ?_
      obtain ⟨e11, he11, hm⟩ := bindS hm
      refine q_p rfl (p_idx Tryz.underlying104 ty107 rfl rfl (.row 2 rfl) he11) ?_
      refine q_g true rfl rfl rfl ?_
      refine q_p rfl (p_fae fl107_1 rfl (.row 2 rfl) (getI_spec he11).2) ?_
      refine q_g true rfl rfl rfl ?_
      refine q_p rfl (p_lde (o := 1) ty3 rfl rfl (.row 2 rfl) (getI_spec he11).2 rfl) ?_
      refine q_g true rfl rfl rfl ?_
      refine q_p rfl (p_leq rfl rfl) ?_
      refine q_p rfl (p_pkt rfl rfl) ?_
      refine q_nil ?_
      refine nj_seq ?_
      refine cj_if (b := decide (x2.From ≤ e11.To)) rfl (fun hb => ?_) (fun hb => ?_)
      · have hm := ifB_t hb hm
        refine cj_tail 12 (by kernel_rfl) (by kernel_rfl) ?_
        refine s_p rfl (p_mv rfl) ?_
        refine s_p rfl (p_mv rfl) ?_
        refine s_p rfl (p_mv rfl) ?_
        refine s_p rfl (p_mv rfl) ?_
        obtain ⟨e12, he12, hm⟩ := bindS hm
        refine s_p rfl (p_idx Tryz.underlying104 ty107 rfl rfl (.row 2 rfl) he12) ?_
        refine s_p rfl (p_fae fl107_1 rfl (.row 2 rfl) (getI_spec he12).2) ?_
        refine s_p rfl (p_lde (o := 1) ty3 rfl rfl (.row 2 rfl) (getI_spec he12).2 rfl) ?_
        refine s_p rfl (p_fab fl107_1 rfl) ?_
        refine s_p rfl (p_lbs ty3 rfl (j := 0) rfl rfl) ?_
        refine s_p rfl (p_max rfl rfl) ?_
        obtain ⟨e13, he13, hm⟩ := bindS hm
        refine s_p rfl (p_idx Tryz.underlying104 ty107 rfl rfl (.row 2 rfl) he13) ?_
        refine s_p rfl (p_fae fl107_1 rfl (.row 2 rfl) (getI_spec he13).2) ?_
        refine s_nil ?_
        refine r_ste (k := 2) (o := 1) (vs := [.int .i64 (max e12.To x2.To)]) ty3 rfl rfl rfl rfl rfl rfl rfl (getI_spec he13).2 (TWindow.mk e13.From (max e12.To x2.To)) rfl rfl ?_
        refine lj_nil ?_
        refine nj_blk ?_
        exact cnk7 _ _ (u5.set ((w64 ((u5.length : Int) - 1)).toNat) (TWindow.mk e13.From (max e12.To x2.To))) g6 (hJk7 _ (Option.some.inj hm).symm) ⟨rfl, rfl, rfl, rfl, rfl, trivial⟩ (fun _ h => h.picks [1, 1] rfl)
      · have hm := ifB_f hb hm
        refine cj_reg ?_
        refine lp rfl (p_mv rfl) ?_
        refine lp rfl (p_lbw ty107 rfl (j := 0) rfl rfl) ?_
        refine r_bs R107 [x2] rfl rfl rfl (fun _ => by kernel_rfl) rfl (fun s14 => ?_)
        obtain ⟨q15, hq15, hm⟩ := bindS hm
        refine r_app (k := 3) Tryz.underlying104 ty107 rfl rfl rfl rfl (.row 0 rfl) hq15 rfl (fun s16 => ?_)
        refine lp rfl (p_as rfl) ?_
        refine lj_nil ?_
        refine nj_blk ?_
        exact cnk7 _ _ q15 s16 (hJk7 _ (Option.some.inj hm).symm) ⟨rfl, rfl, rfl, rfl, rfl, trivial⟩ (fun _ h => h.picks [2, 2] rfl)
    · have hm := ifB_f hb hm
      refine q_s true rfl rfl rfl rfl ?_
      refine q_s true rfl rfl rfl rfl ?_
      refine q_s true rfl rfl rfl rfl ?_
      refine q_s true rfl rfl rfl rfl ?_
      refine q_s true rfl rfl rfl rfl ?_
      refine q_s true rfl rfl rfl rfl ?_
      refine q_s true rfl rfl rfl rfl ?_
      refine q_s true rfl rfl rfl rfl ?_
      refine q_p rfl (p_pkf rfl rfl) ?_
      refine q_nil ?_
      refine nj_seq ?_
      refine cj_if_f rfl ?_
      refine cj_reg ?_
      refine lp rfl (p_mv rfl) ?_
      refine lp rfl (p_lbw ty107 rfl (j := 0) rfl rfl) ?_
      refine r_bs R107 [x2] rfl rfl rfl (fun _ => by kernel_rfl) rfl (fun s17 => ?_)
      obtain ⟨q18, hq18, hm⟩ := bindS hm
      refine r_app (k := 3) Tryz.underlying104 ty107 rfl rfl rfl rfl (.row 0 rfl) hq18 rfl (fun s19 => ?_)
      refine lp rfl (p_as rfl) ?_
      refine lj_nil ?_
      refine nj_blk ?_
      exact cnk7 _ _ q18 s19 (hJk7 _ (Option.some.inj hm).symm) ⟨rfl, rfl, rfl, rfl, rfl, trivial⟩ (fun _ h => h.picks [2, 2] rfl)
theorem ok_rehearse_presences (s0_ : SV) (a0 : (List TCame)) {r : (List (ByteArray × (List TWindow)))} (hm : m_rehearse_presences a0 = some r) :
    Ctr Tryz.prog 51 [s0_.v].toArray ([] : List Ent) [RdS R78 (SV.v s0_) a0] (X := (Nat × List (ByteArray × SV) × Array MapEntry × Nat)) (fun s => .map (some s.1)) (fun s => [.obj (famO kv9 SV.v (rowE R107) s.1 r s.2.1 none s.2.2.1 s.2.2.2)]) := by
  unfold m_rehearse_presences at hm
  refine ctr_mk (vs := [(0, s0_.v)]) Tryz.func51 rfl Tryz.ntmps51 rfl ⟨rfl, trivial⟩ (fun w0 A => ?_)
  refine cj_seq ?_
  refine cj_reg ?_
  refine lp rfl (p_as rfl) ?_
  refine lj_seq ?_
  refine cj_seq ?_
  refine cj_reg ?_
  refine r_mkmapF kv9 SV.v (rowE R107) rfl (fun b1 => ?_)
  refine lp rfl (p_as rfl) ?_
  refine lj_seq ?_
  refine cj_seq ?_
  refine cj_reg ?_
  refine r_mkmap kv9 vv3 rfl (fun b2 => ?_)
  refine lp rfl (p_as rfl) ?_
  refine lj_seq ?_
  refine cj_seq ?_
  refine cj_seq ?_
  refine cj_reg ?_
  refine lp rfl (p_mv rfl) ?_
  refine lp rfl (p_len Tryz.underlying79 rfl (.ro 2 rfl)) ?_
  refine lp rfl (p_mv rfl) ?_
  refine lj_seq ?_
  obtain ⟨f9, hf9, hm⟩ := bindS hm
  refine cj_range (γ := (Array MapEntry × Nat × List (ByteArray × SV) × Array MapEntry × Nat)) (m := (a0.length : Int)) hf9 (#[], 0, [], #[], 0) (fun u6 g7 => [(2, .map none), (3, .map (some b1)), (4, .map (some b2)), (15, s0_.v)]) (fun u6 g7 => Sat w0 (keys ([] : List Ent)) A [.obj (mapO kv9 b2 (mpV vv3 u6.1) g7.1 g7.2.1), .obj (famO kv9 SV.v (rowE R107) b1 u6.2 g7.2.2.1 none g7.2.2.2.1 g7.2.2.2.2), .ro (RdS R78 (SV.v s0_) a0)]) ⟨rfl, rfl, rfl, rfl, rfl, rfl, trivial⟩ (fun _ h => h.picks [0, 0, 0] rfl) (nat_lt _) (fun _ h => (FactAt.get (F := RdS R78 (SV.v s0_) a0) (.ro 2 rfl) h).1) (fun _ _ => ⟨rfl, rfl, rfl, rfl⟩) ⟨rfl, rfl, rfl, rfl, rfl⟩ rfl rfl rfl (fun u6 g7 e => ?_) (fun aftk8 i3 x4 u6 g7 k8 hx5 hs J hJk8 hBk8 hX I cnk8 => ?_)
  · have hm := Flow.fin_b e hm
    refine nj_seq ?_
    refine cj_seq ?_
    refine cj_seq ?_
    refine cj_reg ?_
    refine lp rfl (p_mv rfl) ?_
    refine r_rng (vv := vv3) Tryz.underlying54 (.map 0 rfl) rfl rfl (fun b31 hrb32 => ?_)
    refine lj_seq ?_
    have hsq := anyOrd_spec hm
    refine cj_mrange (γ := (List (ByteArray × SV) × Array MapEntry × Nat)) (fun L hL => hsq L hL) hrb32 (g7.2.2.1, g7.2.2.2.1, g7.2.2.2.2) (fun u38 g39 => [(2, .map none), (3, .map (some b1))]) (fun u38 g39 => [.obj (mapO kv9 b2 (mpV vv3 u6.1) g7.1 g7.2.1), .obj (famO kv9 SV.v (rowE R107) b1 u38 g39.1 none g39.2.1 g39.2.2)]) ⟨rfl, rfl, rfl, trivial⟩ (fun _ h => h.picks [0, 0, 0] rfl) (fun _ _ => (.map 0 rfl)) (fun _ _ => ⟨rfl, rfl, rfl⟩) ⟨rfl, rfl, rfl⟩ rfl rfl (fun u38 g39 e => ?_) (fun aftk40 i33 x34 u38 g39 idx37 ix36 k40 hx35 hs J hJk40 hBk40 hX I cnk40 => ?_)
    · have hm := Flow.fin_b (f := .brk u38) rfl e
      refine nj_seq ?_
      refine cj_seq ?_
      refine cj_seq ?_
      refine cj_reg ?_
      refine lp rfl (p_mv rfl) ?_
      refine r_rng (vv := SV.v) Tryz.underlying102 (.imp (.fam 1 rfl) (fun _ h => h.map)) rfl rfl (fun b48 hrb49 => ?_)
      refine lj_seq ?_
      refine cj_pure (F := FamAt kv9 SV.v (rowE R107) b1 u38 g39.1 none g39.2.1 g39.2.2) (.fam 2 rfl) (fun _ h => h.kys) (fun hky55 => ?_)
      refine cj_fact (F := fun _ => KeptK (u38.map Prod.fst) g39.2.1 g39.2.2 g39.1 g39.2.1 g39.2.2) (.tru (KeptK.refl _ hky55)) ?_
      have hsq := anyOrd_spec hm
      refine cj_frange (γ := (List (ByteArray × SV) × Array MapEntry × Nat)) (vv := SV.v) (fun u57 g58 => g58.1) (fun u57 g58 => g58.2.1) (fun u57 g58 => g58.2.2) (fun L hL => hsq L hL) hrb49 (g39.1, g39.2.1, g39.2.2) (fun u57 g58 => [(2, .map none), (3, .map (some b1))]) (fun u57 g58 => [.ro (fun _ => KeptK (u38.map Prod.fst) g39.2.1 g39.2.2 g58.1 g58.2.1 g58.2.2), .obj (mapO kv9 b2 (mpV vv3 u6.1) g7.1 g7.2.1), .obj (famO kv9 SV.v (rowE R107) b1 u57 g58.1 none g58.2.1 g58.2.2)]) ⟨rfl, rfl, rfl, trivial⟩ (fun _ h => h.picks [1, 0, 0, 0] rfl) (fun _ _ => .and (.imp (.fam 2 rfl) (fun _ h => h.map)) (.ro 0 rfl)) (fun _ _ => ⟨rfl, rfl, rfl⟩) ⟨rfl, rfl, rfl⟩ rfl rfl (fun u57 g58 e => ?_) (fun aftk59 i50 x51 u57 g58 idx54 ix53 k59 hx52 hs J hJk59 hBk59 hX I cnk59 => ?_)
      · have hm := Flow.fin_b (f := .brk u57) rfl e
        refine NJ.sat (fun _ h => h.picks [1, 1] rfl) ?_
        refine nj_seq ?_
        refine cj_seq ?_
        refine cj_reg ?_
        refine lp rfl (p_mv rfl) ?_
        refine lp rfl (p_as rfl) ?_
        refine lj_seq ?_
        obtain rfl := Option.some.inj hm
        exact cj_rt (b1, g58.1, g58.2.1, g58.2.2) [1] Tryz.results51 (.tmp rfl .nil) rfl rfl
      · have hRk59 : ∀ t, k59 = .ret t → some t = some r := fun t e => hX t e
        have hm := hs
        refine cj_pure (F := fun _ => KeptK (u38.map Prod.fst) g39.2.1 g39.2.2 g58.1 g58.2.1 g58.2.2) (.ro 1 rfl) (fun _ h => h) (fun hkp61 => ?_)
        refine cj_seq ?_
        refine cj_reg ?_
        refine lp rfl (p_entF (n := 0) (k := x51) (z := nilS) (.fam 3 rfl) hkp61 rfl hx52 rfl) ?_
        refine lp rfl (p_ext rfl rfl) ?_
        refine lp rfl (p_ext rfl rfl) ?_
        refine lp rfl (p_as rfl) ?_
        refine lp rfl (p_as rfl) ?_
        refine lj_seq ?_
        refine cj_reg ?_
        refine lp rfl (p_mv rfl) ?_
        refine lp rfl (p_mv rfl) ?_
        refine lp rfl (p_mv rfl) ?_
        obtain ⟨y62, hy62, hm⟩ := bindS hm
        refine r_call [] cf83 rfl rfl (ok_rehearse_joined ((lkM g58.1 x51).getD nilS) ((lkM u57 x51).getD []) hy62) rfl rfl (.cons (.imp (.fam 3 rfl) (fun _ h => h.look x51)) .nil) (fun _ => rfl) rfl (fun s63 => ?_)
        refine r_mpuK (x1 := y62) (g1 := s63) (k := x51) [4, 0] Tryz.underlying102 keyF9 rfl (.inl rfl) (KeptK.has hkp61 hx52) hkp61 rfl rfl rfl (fun es64 hkp66 => ?_)
        refine r_fact (F := fun _ => KeptK (u38.map Prod.fst) g39.2.1 g39.2.2 (putM g58.1 x51 s63) es64 g58.2.2) (.tru hkp66) ?_
        refine lj_nil ?_
        refine nj_blk ?_
        exact cnk59 _ _ (putM u57 x51 y62) (putM g58.1 x51 s63, es64, g58.2.2) (hJk59 _ (Option.some.inj hm).symm) ⟨rfl, rfl, rfl, trivial⟩ (fun _ h => h.picks [2, 0, 2, 0] rfl)
    · have hRk40 : ∀ t, k40 = .ret t → some t = some r := fun t e => hX t e
      have hm := hs
      refine cj_seq ?_
      refine cj_reg ?_
      refine lp rfl (p_ent (kk := x34.1) (v := x34.2) (vv := vv3) (k := 0) (.map 1 rfl) rfl hx35 rfl) ?_
      refine lp rfl (p_ext rfl rfl) ?_
      refine lp rfl (p_ext rfl rfl) ?_
      refine lp rfl (p_as rfl) ?_
      refine lp rfl (p_as rfl) ?_
      refine lj_seq ?_
      refine cj_reg ?_
      refine lp rfl (p_mv rfl) ?_
      refine lp rfl (p_mv rfl) ?_
      refine lp rfl (p_mv rfl) ?_
      refine lp rfl (p_mv rfl) ?_
      refine lp rfl (p_lkm (vv := SV.v) (k := x34.1) (z := nilS) Tryz.underlying102 (keyF9) (fun _ => by kernel_rfl) (.imp (.fam 2 rfl) (fun _ h => h.map)) rfl rfl) ?_
      refine lp rfl (p_mv rfl) ?_
      refine lp rfl (p_bld [.int .i64 x34.2, .int .i64 345686400000] rfl (fun _ => by kernel_rfl)) ?_
      refine r_bs R107 [(TWindow.mk x34.2 345686400000)] rfl rfl rfl (fun _ => by kernel_rfl) rfl (fun s42 => ?_)
      refine LJ.sat (fun _ h => h.takeR 3 rfl x34.1) ?_
      obtain ⟨q44, hq44, hm⟩ := bindS hm
      refine r_app (k := 0) Tryz.underlying104 ty107 rfl rfl rfl rfl (.row 2 rfl) hq44 rfl (fun s45 => ?_)
      refine r_mpuF (x1 := q44) (g1 := s45) (k := x34.1) [1, 0] Tryz.underlying102 keyF9 rfl (.inr rfl) rfl rfl rfl (fun es46 cl47 => ?_)
      refine lj_nil ?_
      refine nj_blk ?_
      exact cnk40 _ _ (putM u38 x34.1 q44) (putM g39.1 x34.1 s45, es46, cl47) (hJk40 _ (Option.some.inj hm).symm) ⟨rfl, rfl, rfl, trivial⟩ (fun _ h => h.picks [2, 2, 0] rfl)
  · have hRk8 : ∀ t, k8 = .ret t → some t = some r := fun t e => by rw [hX t e] at hm; exact hm
    have hm := hs
    refine cj_seq ?_
    refine cj_reg ?_
    refine lp rfl (p_idx Tryz.underlying79 ty78 rfl rfl (.ro 2 rfl) (getI_nat.trans hx5)) ?_
    refine lp rfl (p_lea ty78 rfl (.ro 2 rfl) hx5) ?_
    refine r_al ty78 rfl (fun b10 => ?_)
    refine r_sb (vs := [.int .i64 x4.At, .string x4.Singer, .bool x4.Left]) (j := 0) ty78 rfl rfl rfl rfl rfl rfl rfl ?_
    refine lj_seq ?_
    refine cj_seq ?_
    refine cj_reg ?_
    refine lp rfl (p_mv rfl) ?_
    refine lp rfl (p_fab fl78_1 rfl) ?_
    refine lp rfl (p_lbs ty9 rfl (j := 0) rfl rfl) ?_
    refine lp rfl (p_lko (vv := vv3) (k := x4.Singer) (z := 0) Tryz.underlying54 (keyF9) (fun _ => by kernel_rfl) (.map 1 rfl) rfl rfl) ?_
    refine lp rfl (p_mv rfl) ?_
    refine lp rfl (p_ext rfl rfl) ?_
    refine lp rfl (p_ext rfl rfl) ?_
    refine lp rfl (p_as rfl) ?_
    refine lp rfl (p_as rfl) ?_
    refine lj_seq ?_
    refine cj_blk ?_
    refine cj_seq ?_
    refine cj_reg ?_
    obtain ⟨k13, hk13, hm⟩ := bindS hm
    have hRk13 : ∀ t, k13 = .inr t → some t = some k8 := fun t e => by rw [e] at hm; exact hm
    refine lj_join (σ := Bool) (γ := Unit) (fun u11 => k13 = .inl u11) (fun u11 g12 => [(2, .map none), (3, .map (some b1)), (4, .map (some b2)), (6, .pointer (some ⟨b10, 0, none⟩)), (7, .int .i64 ((lkM u6.1 x4.Singer).getD 0)), (8, .bool (hasM u6.1 x4.Singer)), (15, s0_.v), (16, .int .i64 (a0.length : Int)), (17, .int .i64 (i3 : Int)), (28, .bool u11)]) (fun u11 g12 => Sat w0 (keys ([] : List Ent)) A [.box b10 78 [.int .i64 x4.At, .string x4.Singer, .bool x4.Left], .obj (mapO kv9 b2 (mpV vv3 u6.1) g7.1 g7.2.1), .obj (famO kv9 SV.v (rowE R107) b1 u6.2 g7.2.2.1 none g7.2.2.2.1 g7.2.2.2.2), .ro (RdS R78 (SV.v s0_) a0)]) (fun u11 g12 hq => ?_) (fun J cnk13 => ?_)
    · have hm := Sum.fin_l hq hm
      refine cj_if (b := u11) rfl (fun hb => ?_) (fun hb => ?_)
      · have hm := ifB_t hb hm
        refine cj_reg ?_
        refine lp rfl (p_mv rfl) ?_
        refine lp rfl (p_fab fl78_1 rfl) ?_
        refine lp rfl (p_lbs ty9 rfl (j := 0) rfl rfl) ?_
        refine lp rfl (p_fab fl78_0 rfl) ?_
        refine lp rfl (p_lbs ty3 rfl (j := 0) rfl rfl) ?_
        refine r_mpu (j := 1) (vv := vv3) (k := x4.Singer) (v := x4.At) Tryz.underlying54 keyF9 rfl rfl rfl rfl (fun es14 cl15 => ?_)
        refine lj_nil ?_
        refine nj_blk ?_
        refine nj_blk ?_
        exact cnk8 _ _ (putM u6.1 x4.Singer x4.At, u6.2) (es14, cl15, g7.2.2.1, g7.2.2.2.1, g7.2.2.2.2) (hJk8 _ (Option.some.inj hm).symm) ⟨rfl, rfl, rfl, rfl, rfl, rfl, trivial⟩ (fun _ h => h.picks [1, 1, 1] rfl)
      · have hm := ifB_f hb hm
        refine cj_seq ?_
        refine cj_reg ?_
        obtain ⟨k18, hk18, hm⟩ := bindS hm
        have hRk18 : ∀ t, k18 = .inr t → some t = some k8 := fun t e => by rw [e] at hm; exact hm
        refine lj_join (σ := Bool) (γ := Unit) (fun u16 => k18 = .inl u16) (fun u16 g17 => [(2, .map none), (3, .map (some b1)), (4, .map (some b2)), (6, .pointer (some ⟨b10, 0, none⟩)), (7, .int .i64 ((lkM u6.1 x4.Singer).getD 0)), (15, s0_.v), (16, .int .i64 (a0.length : Int)), (17, .int .i64 (i3 : Int)), (41, .bool u16)]) (fun u16 g17 => Sat w0 (keys ([] : List Ent)) A [.box b10 78 [.int .i64 x4.At, .string x4.Singer, .bool x4.Left], .obj (mapO kv9 b2 (mpV vv3 u6.1) g7.1 g7.2.1), .obj (famO kv9 SV.v (rowE R107) b1 u6.2 g7.2.2.1 none g7.2.2.2.1 g7.2.2.2.2), .ro (RdS R78 (SV.v s0_) a0)]) (fun u16 g17 hq => ?_) (fun J cnk18 => ?_)
        · have hm := Sum.fin_l hq hm
          refine cj_if (b := u16) rfl (fun hb => ?_) (fun hb => ?_)
          · have hm := ifB_t hb hm
            refine cj_seq ?_
            refine cj_reg ?_
            refine lp rfl (p_mv rfl) ?_
            refine lp rfl (p_fab fl78_1 rfl) ?_
            refine lp rfl (p_lbs ty9 rfl (j := 0) rfl rfl) ?_
            refine r_del (j := 1) (vv := vv3) (k := x4.Singer) Tryz.underlying54 keyF9 rfl rfl rfl (fun es19 => ?_)
            refine lj_seq ?_
            refine cj_seq ?_
            refine cj_reg ?_
            refine lp rfl (p_mv rfl) ?_
            refine lp rfl (p_fab fl78_0 rfl) ?_
            refine lp rfl (p_lbs ty3 rfl (j := 0) rfl rfl) ?_
            refine lp rfl (p_lss rfl rfl) ?_
            refine lj_seq ?_
            refine cj_if (b := decide (((lkM u6.1 x4.Singer).getD 0) < x4.At)) rfl (fun hb => ?_) (fun hb => ?_)
            · have hm := ifB_t hb hm
              obtain ⟨q22, hq22, hm⟩ := bindS hm
              refine cj_anyT [0, 1, 2, 3, 4, 5, 6, 7, 8, 9, 10] [12, 13] (Sat w0 (keys ([] : List Ent)) A [.box b10 78 [.int .i64 x4.At, .string x4.Singer, .bool x4.Left], .obj (mapO kv9 b2 (mpV vv3 (delM u6.1 x4.Singer)) es19 g7.2.1), .obj (famO kv9 SV.v (rowE R107) b1 u6.2 g7.2.2.1 none g7.2.2.2.1 g7.2.2.2.2), .ro (RdS R78 (SV.v s0_) a0)]) (Sat w0 (keys ([] : List Ent)) A [.box b10 78 [.int .i64 x4.At, .string x4.Singer, .bool x4.Left], .obj (mapO kv9 b2 (mpV vv3 (delM u6.1 x4.Singer)) es19 g7.2.1), .ro (RdS R78 (SV.v s0_) a0)]) (by kernel_rfl) ?_
              refine at_take2 0 rfl (by kernel_rfl) (by kernel_rfl) (by kernel_rfl) (fun _ h => h.picks [0, 0, 1] rfl) rfl rfl (p_mv rfl) (fun _ h => h.picks [0, 0, 1] rfl) ?_
              refine at_take2 1 rfl (by kernel_rfl) (by kernel_rfl) (by kernel_rfl) (fun _ h => h.picks [0, 0, 1] rfl) rfl rfl (p_fab fl78_1 rfl) (fun _ h => h.picks [0, 0, 1] rfl) ?_
              refine at_take2 2 rfl (by kernel_rfl) (by kernel_rfl) (by kernel_rfl) (fun _ h => h.picks [0, 0, 1] rfl) rfl rfl (p_lbs ty9 rfl (j := 0) rfl rfl) (fun _ h => h.picks [0, 0, 1] rfl) ?_
              refine at_take2 3 rfl (by kernel_rfl) (by kernel_rfl) (by kernel_rfl) (fun _ h => h.picks [0, 0, 1] rfl) rfl rfl (p_mv rfl) (fun _ h => h.picks [0, 0, 1] rfl) ?_
              refine at_take2 4 rfl (by kernel_rfl) (by kernel_rfl) (by kernel_rfl) (fun _ h => h.picks [0, 0, 1] rfl) rfl rfl (p_fab fl78_1 rfl) (fun _ h => h.picks [0, 0, 1] rfl) ?_
              refine at_take2 5 rfl (by kernel_rfl) (by kernel_rfl) (by kernel_rfl) (fun _ h => h.picks [0, 0, 1] rfl) rfl rfl (p_lbs ty9 rfl (j := 0) rfl rfl) (fun _ h => h.picks [0, 0, 1] rfl) ?_
              refine at_take1 6 rfl (by kernel_rfl) (by kernel_rfl) (by kernel_rfl) (by kernel_rfl) rfl rfl (p_lkm (vv := SV.v) (k := x4.Singer) (z := nilS) Tryz.underlying102 (keyF9) (fun _ => by kernel_rfl) (.imp (.fam 2 rfl) (fun _ h => h.map)) rfl rfl) (fun _ h => h.picks [0, 0, 0, 0] rfl) ?_
              refine at_take2 7 rfl (by kernel_rfl) (by kernel_rfl) (by kernel_rfl) (fun _ h => h.picks [0, 0, 1] rfl) rfl rfl (p_mv rfl) (fun _ h => h.picks [0, 0, 1] rfl) ?_
              refine at_take2 8 rfl (by kernel_rfl) (by kernel_rfl) (by kernel_rfl) (fun _ h => h.picks [0, 0, 1] rfl) rfl rfl (p_fab fl78_0 rfl) (fun _ h => h.picks [0, 0, 1] rfl) ?_
              refine at_take2 9 rfl (by kernel_rfl) (by kernel_rfl) (by kernel_rfl) (fun _ h => h.picks [0, 0, 1] rfl) rfl rfl (p_lbs ty3 rfl (j := 0) rfl rfl) (fun _ h => h.picks [0, 0, 1] rfl) ?_
              refine at_take2 10 rfl (by kernel_rfl) (by kernel_rfl) (by kernel_rfl) (fun _ h => h.picks [0, 0, 1] rfl) rfl rfl (p_bld [.int .i64 ((lkM u6.1 x4.Singer).getD 0), .int .i64 x4.At] rfl (fun _ => by kernel_rfl)) (fun _ h => h.picks [0, 0, 1] rfl) ?_
              refine at_each (rs := [11]) (by kernel_rfl) (by decide) ?_
              refine (.cons rfl (fun I cnI => ?_) .nil)
              · refine r_bs R107 [(TWindow.mk ((lkM u6.1 x4.Singer).getD 0) x4.At)] rfl rfl rfl (fun _ => by kernel_rfl) rfl (fun s26 => ?_)
                refine lj_nil ?_
                refine cnI _ _ (sof1 rfl rfl (fun _ h => h.picks [1, 1, 1, 1] rfl)) ?_
                refine at_each (rs := [12]) (by kernel_rfl) (by decide) ?_
                refine (.cons rfl (fun I cnI => ?_) .nil)
                · refine LJ.sat (fun _ h => h.takeR 3 rfl x4.Singer) ?_
                  refine r_app (k := 0) Tryz.underlying104 ty107 rfl rfl rfl rfl (.row 2 rfl) hq22 rfl (fun s28 => ?_)
                  refine lj_nil ?_
                  refine cnI _ _ (sof2 rfl rfl (fun _ h => h.picks [3, 3, 3] rfl)) ?_
                  refine at_each (rs := [13]) (by kernel_rfl) (by decide) ?_
                  refine (.cons rfl (fun I cnI => ?_) .nil)
                  · refine r_mpuF (x1 := q22) (g1 := s28) (k := x4.Singer) [1, 0] Tryz.underlying102 keyF9 rfl (.inr rfl) rfl rfl rfl (fun es29 cl30 => ?_)
                    refine lj_nil ?_
                    refine cnI _ _ (sof2 rfl rfl (fun _ h => h.picks [2, 2, 2] rfl)) ?_
                    refine at_done (by kernel_rfl) ?_
                    refine nj_blk ?_
                    refine nj_blk ?_
                    exact cnk8 _ _ (delM u6.1 x4.Singer, putM u6.2 x4.Singer q22) (es19, g7.2.1, putM g7.2.2.1 x4.Singer s28, es29, cl30) (hJk8 _ (Option.some.inj hm).symm) ⟨rfl, rfl, rfl, rfl, rfl, rfl, trivial⟩ (fun _ h => h.picks [3, 0, 2] rfl)
            · have hm := ifB_f hb hm
              refine cj_skip ?_
              refine nj_blk ?_
              refine nj_blk ?_
              exact cnk8 _ _ (delM u6.1 x4.Singer, u6.2) (es19, g7.2.1, g7.2.2.1, g7.2.2.2.1, g7.2.2.2.2) (hJk8 _ (Option.some.inj hm).symm) ⟨rfl, rfl, rfl, rfl, rfl, rfl, trivial⟩ (fun _ h => h.picks [1, 1, 1] rfl)
          · have hm := ifB_f hb hm
            refine cj_skip ?_
            refine nj_blk ?_
            refine nj_blk ?_
            exact cnk8 _ _ (u6.1, u6.2) (g7.1, g7.2.1, g7.2.2.1, g7.2.2.2.1, g7.2.2.2.2) (hJk8 _ (Option.some.inj hm).symm) ⟨rfl, rfl, rfl, rfl, rfl, rfl, trivial⟩ (fun _ h => h.picks [1, 1, 1] rfl)
        · have hm := hk18
          refine lp rfl (p_fab fl78_2 rfl) ?_
          refine lp rfl (p_lbs ty4 rfl (j := 0) rfl rfl) ?_
          refine lp rfl (p_mv rfl) ?_
          refine lcase (i := 44) x4.Left rfl (fun hb => ?_) (fun hb => ?_)
          · have hm := ifB_t hb hm
            refine lg true rfl rfl rfl ?_
            refine lp rfl (p_mv rfl) ?_
            refine lp rfl (p_pkt rfl rfl) ?_
            refine lp rfl (p_as rfl) ?_
            refine lj_nil ?_
            exact cnk18 _ _ (hasM u6.1 x4.Singer) () (Option.some.inj hm).symm ⟨rfl, rfl, rfl, rfl, rfl, rfl, rfl, rfl, rfl, trivial⟩ (fun _ h => h.picks [0, 0, 0, 0] rfl)
          · have hm := ifB_f hb hm
            refine ls true rfl rfl rfl rfl ?_
            refine lp rfl (p_pkf rfl rfl) ?_
            refine lp rfl (p_as rfl) ?_
            refine lj_nil ?_
            exact cnk18 _ _ false () (Option.some.inj hm).symm ⟨rfl, rfl, rfl, rfl, rfl, rfl, rfl, rfl, rfl, trivial⟩ (fun _ h => h.picks [0, 0, 0, 0] rfl)
    · have hm := hk13
      refine lp rfl (p_fab fl78_2 rfl) ?_
      refine lp rfl (p_lbs ty4 rfl (j := 0) rfl rfl) ?_
      refine lp rfl (p_not rfl) ?_
      refine lp rfl (p_mv rfl) ?_
      refine lcase (i := 32) (!x4.Left) rfl (fun hb => ?_) (fun hb => ?_)
      · have hm := ifB_t hb hm
        refine lg true rfl rfl rfl ?_
        refine lp rfl (p_mv rfl) ?_
        refine lg true rfl rfl rfl ?_
        refine lp rfl (p_not rfl) ?_
        refine lp rfl (p_pkt rfl rfl) ?_
        refine lp rfl (p_as rfl) ?_
        refine lj_nil ?_
        exact cnk13 _ _ (!(hasM u6.1 x4.Singer)) () (Option.some.inj hm).symm ⟨rfl, rfl, rfl, rfl, rfl, rfl, rfl, rfl, rfl, rfl, trivial⟩ (fun _ h => h.picks [0, 0, 0, 0] rfl)
      · have hm := ifB_f hb hm
        refine ls true rfl rfl rfl rfl ?_
        refine ls true rfl rfl rfl rfl ?_
        refine lp rfl (p_pkf rfl rfl) ?_
        refine lp rfl (p_as rfl) ?_
        refine lj_nil ?_
        exact cnk13 _ _ false () (Option.some.inj hm).symm ⟨rfl, rfl, rfl, rfl, rfl, rfl, rfl, rfl, rfl, rfl, trivial⟩ (fun _ h => h.picks [0, 0, 0, 0] rfl)
theorem ok_kit_Has (a0 : TWindow) (a1 : Int) {r : Bool} (hm : m_kit_Has a0 a1 = some r) :
    Ctr Tryz.prog 54 [.agg (R107.enc a0).toArray, .int .i64 a1].toArray ([] : List Ent) [] (X := Unit) (fun _ => .bool r) (fun _ => []) := by
  unfold m_kit_Has at hm
  refine ctr_mk (vs := [(0, .agg (R107.enc a0).toArray), (1, .int .i64 a1)]) Tryz.func54 rfl Tryz.ntmps54 rfl ⟨rfl, rfl, trivial⟩ (fun w0 A => ?_)
  refine cj_seq ?_
  refine cj_reg ?_
  refine r_bx (cs := [.int .i64 a0.From, .int .i64 a0.To]) rfl rfl rfl (fun b1 => ?_)
  refine lp rfl (p_as rfl) ?_
  refine lj_seq ?_
  refine cj_seq ?_
  refine cj_reg ?_
  refine lp rfl (p_fab fl107_0 rfl) ?_
  refine lp rfl (p_lbs ty3 rfl (j := 0) rfl rfl) ?_
  refine lp rfl (p_mv rfl) ?_
  refine lp rfl (p_leq rfl rfl) ?_
  refine lp rfl (p_mv rfl) ?_
  refine lcase (i := 9) (decide (a0.From ≤ a1)) rfl (fun hb => ?_) (fun hb => ?_)
  · have hm := ifB_t hb hm
    refine lg true rfl rfl rfl ?_
    refine lp rfl (p_mv rfl) ?_
    refine lg true rfl rfl rfl ?_
    refine lp rfl (p_fab fl107_1 rfl) ?_
    refine lg true rfl rfl rfl ?_
    refine lp rfl (p_lbs ty3 rfl (j := 0) rfl rfl) ?_
    refine lg true rfl rfl rfl ?_
    refine lp rfl (p_lss rfl rfl) ?_
    refine lp rfl (p_pkt rfl rfl) ?_
    refine lp rfl (p_as rfl) ?_
    refine lj_seq ?_
    obtain rfl := Option.some.inj hm
    exact cj_rt () [] Tryz.results54 (.tmp rfl .nil) rfl rfl
  · have hm := ifB_f hb hm
    refine ls true rfl rfl rfl rfl ?_
    refine ls true rfl rfl rfl rfl ?_
    refine ls true rfl rfl rfl rfl ?_
    refine ls true rfl rfl rfl rfl ?_
    refine lp rfl (p_pkf rfl rfl) ?_
    refine lp rfl (p_as rfl) ?_
    refine lj_seq ?_
    obtain rfl := Option.some.inj hm
    exact cj_rt () [] Tryz.results54 (.tmp rfl .nil) rfl rfl
theorem ok_rehearse_There_1 (a0 : TWindow) (b1_ : Nat) (a1_0 : Int) {r : Bool} (hm : m_rehearse_There_1 a0 a1_0 = some r) :
    Ctr Tryz.prog 53 [.agg (R107.enc a0).toArray, .pointer (some ⟨b1_, 0, none⟩)].toArray ([] : List Ent) [BoxS b1_ 3 [.int .i64 a1_0]] (X := Unit) (fun _ => .bool r) (fun _ => []) := by
  unfold m_rehearse_There_1 at hm
  refine ctr_mk (vs := [(0, .agg (R107.enc a0).toArray), (1, .pointer (some ⟨b1_, 0, none⟩))]) Tryz.func53 rfl Tryz.ntmps53 rfl ⟨rfl, rfl, trivial⟩ (fun w0 A => ?_)
  refine cj_seq ?_
  refine cj_reg ?_
  refine r_bx (cs := [.int .i64 a0.From, .int .i64 a0.To]) rfl rfl rfl (fun b1 => ?_)
  refine lp rfl (p_as rfl) ?_
  refine lj_seq ?_
  refine cj_seq ?_
  refine cj_reg ?_
  refine lp rfl (p_lbw ty107 rfl (j := 0) rfl rfl) ?_
  refine lp rfl (p_rbs ty3 rfl (.ro 1 rfl) rfl) ?_
  obtain ⟨y2, hy2, hm⟩ := bindS hm
  refine r_call [] cf54 rfl rfl (ok_kit_Has a0 a1_0 hy2) rfl rfl .nil (fun _ => rfl) rfl (fun _ => ?_)
  refine lp rfl (p_as rfl) ?_
  refine lj_seq ?_
  obtain rfl := Option.some.inj hm
  exact cj_rt () [] Tryz.results53 (.tmp rfl .nil) rfl rfl
theorem ok_slices_IndexFunc_api_Window_api_Window__rehearse_There_1 (s0_ : SV) (a0 : (List TWindow)) (b1_c0_ : Nat) (a1_c0_0 : Int) {r : Int} (hm : m_slices_IndexFunc_api_Window_api_Window__rehearse_There_1 a0 a1_c0_0 = some r) :
    Ctr Tryz.prog 84 [s0_.v, .func (.func 53) #[] [.pointer (some ⟨b1_c0_, 0, none⟩)].toArray].toArray ([] : List Ent) [RdS R107 (SV.v s0_) a0, BoxS b1_c0_ 3 [.int .i64 a1_c0_0]] (X := Unit) (fun _ => .int .i64 r) (fun _ => []) := by
  unfold m_slices_IndexFunc_api_Window_api_Window__rehearse_There_1 at hm
  refine ctr_mk (vs := [(0, s0_.v), (1, .func (.func 53) #[] [.pointer (some ⟨b1_c0_, 0, none⟩)].toArray)]) Tryz.func84 rfl Tryz.ntmps84 rfl ⟨rfl, rfl, trivial⟩ (fun w0 A => ?_)
  refine cj_seq ?_
  refine cj_reg ?_
  refine lp rfl (p_as rfl) ?_
  refine lj_seq ?_
  refine cj_seq ?_
  refine cj_seq ?_
  refine cj_reg ?_
  refine lp rfl (p_mv rfl) ?_
  refine lp rfl (p_len Tryz.underlying104 rfl (.ro 0 rfl)) ?_
  refine lp rfl (p_mv rfl) ?_
  refine lj_seq ?_
  obtain ⟨f7, hf7, hm⟩ := bindS hm
  refine cj_range (γ := Unit) (m := (a0.length : Int)) hf7 () (fun u4 g5 => [(0, s0_.v), (1, .func (.func 53) #[] [.pointer (some ⟨b1_c0_, 0, none⟩)].toArray), (4, .int .i64 0)]) (fun u4 g5 => Sat w0 (keys ([] : List Ent)) A [.ro (RdS R107 (SV.v s0_) a0), .ro (BoxS b1_c0_ 3 [.int .i64 a1_c0_0])]) ⟨rfl, rfl, rfl, rfl, rfl, trivial⟩ (fun _ h => h.picks [0, 0] rfl) (nat_lt _) (fun _ h => (FactAt.get (F := RdS R107 (SV.v s0_) a0) (.ro 0 rfl) h).1) (fun _ _ => ⟨rfl, rfl, rfl, rfl⟩) ⟨rfl, rfl, rfl, rfl, rfl⟩ rfl rfl rfl (fun u4 g5 e => ?_) (fun aftk6 i1 x2 u4 g5 k6 hx3 hs J hJk6 hBk6 hX I cnk6 => ?_)
  · have hm := Flow.fin_b e hm
    refine nj_seq ?_
    refine cj_seq ?_
    refine cj_reg ?_
    refine lp rfl (p_as rfl) ?_
    refine lj_seq ?_
    obtain rfl := Option.some.inj hm
    exact cj_rt () [] Tryz.results84 (.tmp rfl .nil) rfl rfl
  · have hRk6 : ∀ t, k6 = .ret t → some t = some r := fun t e => by rw [hX t e] at hm; exact hm
    have hm := hs
    refine cj_seq ?_
    refine cj_reg ?_
    refine lp rfl (p_mv rfl) ?_
    refine lp rfl (p_as rfl) ?_
    refine lj_seq ?_
    refine cj_seq ?_
    refine cj_reg ?_
    refine lp rfl (p_mv rfl) ?_
    refine lp rfl (p_mv rfl) ?_
    refine lp rfl (p_mv rfl) ?_
    refine lp rfl (p_idx Tryz.underlying104 ty107 rfl rfl (.ro 0 rfl) (getI_nat.trans hx3)) ?_
    refine lp rfl (p_lea ty107 rfl (.ro 0 rfl) hx3) ?_
    obtain ⟨y8, hy8, hm⟩ := bindS hm
    refine r_call [] cf53 rfl rfl (ok_rehearse_There_1 x2 b1_c0_ a1_c0_0 hy8) rfl rfl (.cons (.ro 1 rfl) .nil) (fun _ => rfl) rfl (fun _ => ?_)
    refine lj_seq ?_
    refine cj_if (b := y8) rfl (fun hb => ?_) (fun hb => ?_)
    · have hm := ifB_t hb hm
      refine cj_seq ?_
      refine cj_reg ?_
      refine lp rfl (p_mv rfl) ?_
      refine lp rfl (p_as rfl) ?_
      refine lj_seq ?_
      have hm := hRk6 _ (Option.some.inj hm).symm
      obtain rfl := Option.some.inj hm
      exact cj_rt () [] Tryz.results84 (.tmp rfl .nil) rfl rfl
    · have hm := ifB_f hb hm
      refine cj_skip ?_
      refine nj_blk ?_
      exact cnk6 _ _ () () (hJk6 _ (Option.some.inj hm).symm) ⟨rfl, rfl, rfl, rfl, rfl, trivial⟩ (fun _ h => h.picks [0, 0] rfl)
theorem ok_slices_ContainsFunc_api_Window_api_Window__rehearse_There_1 (s0_ : SV) (a0 : (List TWindow)) (b1_c0_ : Nat) (a1_c0_0 : Int) {r : Bool} (hm : m_slices_ContainsFunc_api_Window_api_Window__rehearse_There_1 a0 a1_c0_0 = some r) :
    Ctr Tryz.prog 52 [s0_.v, .func (.func 53) #[] [.pointer (some ⟨b1_c0_, 0, none⟩)].toArray].toArray ([] : List Ent) [RdS R107 (SV.v s0_) a0, BoxS b1_c0_ 3 [.int .i64 a1_c0_0]] (X := Unit) (fun _ => .bool r) (fun _ => []) := by
  unfold m_slices_ContainsFunc_api_Window_api_Window__rehearse_There_1 at hm
  refine ctr_mk (vs := [(0, s0_.v), (1, .func (.func 53) #[] [.pointer (some ⟨b1_c0_, 0, none⟩)].toArray)]) Tryz.func52 rfl Tryz.ntmps52 rfl ⟨rfl, rfl, trivial⟩ (fun w0 A => ?_)
  refine cj_seq ?_
  refine cj_reg ?_
  refine lp rfl (p_as rfl) ?_
  refine lj_seq ?_
  refine cj_seq ?_
  refine cj_reg ?_
  refine lp rfl (p_mv rfl) ?_
  refine lp rfl (p_mv rfl) ?_
  obtain ⟨y1, hy1, hm⟩ := bindS hm
  refine r_call [] cf84 rfl rfl (ok_slices_IndexFunc_api_Window_api_Window__rehearse_There_1 s0_ a0 b1_c0_ a1_c0_0 hy1) rfl rfl (.cons (.ro 0 rfl) (.cons (.ro 1 rfl) .nil)) (fun _ => rfl) rfl (fun _ => ?_)
  refine lp rfl (p_geq rfl rfl) ?_
  refine lp rfl (p_as rfl) ?_
  refine lj_seq ?_
  obtain rfl := Option.some.inj hm
  exact cj_rt () [] Tryz.results52 (.tmp rfl .nil) rfl rfl
theorem ok_rehearse_There (s0_ : SV) (a0 : (List TCame)) (a1 : Int) {r : (List ByteArray) × Int} (hm : m_rehearse_There a0 a1 = some r) :
    Ctr Tryz.prog 31 [s0_.v, .int .i64 a1].toArray ([] : List Ent) [RdS R78 (SV.v s0_) a0] (X := SV) (fun s => .tuple [s.v, .int .i64 r.2].toArray) (fun s => [.row R9 (SV.v s) r.1]) := by
  unfold m_rehearse_There at hm
  refine ctr_mk (vs := [(0, s0_.v), (1, .int .i64 a1)]) Tryz.func31 rfl Tryz.ntmps31 rfl ⟨rfl, rfl, trivial⟩ (fun w0 A => ?_)
  refine cj_seq ?_
  refine cj_reg ?_
  refine r_bx (cs := [.int .i64 a1]) rfl rfl rfl (fun b1 => ?_)
  refine lp rfl (p_as rfl) ?_
  refine lp rfl (p_as rfl) ?_
  refine lj_seq ?_
  refine cj_seq ?_
  refine cj_seq ?_
  refine cj_reg ?_
  refine lp rfl (p_mv rfl) ?_
  obtain ⟨y2, hy2, hm⟩ := bindS hm
  refine r_call [] cf49 rfl rfl (ok_rehearse_CheckCame s0_ a0 hy2) rfl rfl (.cons (.ro 1 rfl) .nil) (fun _ => rfl) rfl (fun _ => ?_)
  refine lp rfl (p_as rfl) ?_
  refine lj_seq ?_
  refine cj_seq ?_
  refine cj_reg ?_
  refine lp rfl (p_mv rfl) ?_
  refine lp rfl (p_neq rfl rfl) ?_
  refine lj_seq ?_
  refine cj_if (b := y2 != 0) rfl (fun hb => ?_) (fun hb => ?_)
  · have hm := ifB_t hb hm
    refine cj_seq ?_
    refine cj_reg ?_
    refine lp rfl (p_mv rfl) ?_
    refine lp rfl (p_as rfl) ?_
    refine lp rfl (p_as rfl) ?_
    refine lj_seq ?_
    obtain rfl := Option.some.inj hm
    refine cj_nil R9 ?_
    exact cj_rt nilS [0] Tryz.results31 (.tmp rfl (.tmp rfl .nil)) rfl rfl
  · have hm := ifB_f hb hm
    refine cj_skip ?_
    refine nj_seq ?_
    refine cj_seq ?_
    refine cj_seq ?_
    refine cj_reg ?_
    refine lp rfl (p_lbs ty3 rfl (j := 0) rfl rfl) ?_
    obtain ⟨y4, hy4, hm⟩ := bindS hm
    refine r_call [] cf50 rfl rfl (ok_kit_IsMoment a1 hy4) rfl rfl .nil (fun _ => rfl) rfl (fun _ => ?_)
    refine lp rfl (p_not rfl) ?_
    refine lj_seq ?_
    refine cj_if (b := !y4) rfl (fun hb => ?_) (fun hb => ?_)
    · have hm := ifB_t hb hm
      refine cj_seq ?_
      refine cj_reg ?_
      refine lp rfl (p_as rfl) ?_
      refine lp rfl (p_as rfl) ?_
      refine lj_seq ?_
      obtain rfl := Option.some.inj hm
      refine cj_nil R9 ?_
      exact cj_rt nilS [0] Tryz.results31 (.tmp rfl (.tmp rfl .nil)) rfl rfl
    · have hm := ifB_f hb hm
      refine cj_skip ?_
      refine nj_seq ?_
      refine cj_seq ?_
      refine cj_reg ?_
      refine r_mkmap kv9 vv4 rfl (fun b6 => ?_)
      refine lp rfl (p_as rfl) ?_
      refine lj_seq ?_
      refine cj_seq ?_
      refine cj_seq ?_
      refine cj_reg ?_
      refine lp rfl (p_mv rfl) ?_
      obtain ⟨y7, hy7, hm⟩ := bindS hm
      refine r_call [] cf51 rfl rfl (ok_rehearse_presences s0_ a0 hy7) rfl rfl (.cons (.ro 2 rfl) .nil) (fun _ => rfl) rfl (fun ⟨b8, gz9, gz10, gz11⟩ => ?_)
      refine r_rng (vv := SV.v) Tryz.underlying102 (.imp (.fam 0 rfl) (fun _ h => h.map)) rfl rfl (fun b12 hrb13 => ?_)
      refine lj_seq ?_
      refine cj_pure (F := FamAt kv9 SV.v (rowE R107) b8 y7 gz9 none gz10 gz11) (.fam 1 rfl) (fun _ h => h.kys) (fun hky19 => ?_)
      refine cj_fact (F := fun _ => KeptK (y7.map Prod.fst) gz10 gz11 gz9 gz10 gz11) (.tru (KeptK.refl _ hky19)) ?_
      have hsq := anyOrd_spec hm
      refine cj_frange (γ := (Array MapEntry × Nat)) (vv := SV.v) (fun u21 g22 => gz9) (fun u21 g22 => gz10) (fun u21 g22 => gz11) (fun L hL => hsq L hL) hrb13 (#[], 0) (fun u21 g22 => [(3, .pointer (some ⟨b1, 0, none⟩)), (4, .slice none 0 0), (5, .int .i64 0), (7, .map (some b6))]) (fun u21 g22 => [.ro (fun _ => KeptK (y7.map Prod.fst) gz10 gz11 gz9 gz10 gz11), .obj (famO kv9 SV.v (rowE R107) b8 y7 gz9 none gz10 gz11), .obj (mapO kv9 b6 (mpV vv4 u21) g22.1 g22.2), .box b1 3 [.int .i64 a1]]) ⟨rfl, rfl, rfl, rfl, rfl, trivial⟩ (fun _ h => h.picks [1, 0, 0, 0, 0] rfl) (fun _ _ => .and (.imp (.fam 1 rfl) (fun _ h => h.map)) (.ro 0 rfl)) (fun _ _ => ⟨rfl, rfl, rfl⟩) ⟨rfl, rfl, rfl⟩ rfl rfl (fun u21 g22 e => ?_) (fun aftk23 i14 x15 u21 g22 idx18 ix17 k23 hx16 hs J hJk23 hBk23 hX I cnk23 => ?_)
      · have hm := Flow.fin_b (f := .brk u21) rfl e
        refine NJ.sat (fun _ h => h.picks [1, 1, 1] rfl) ?_
        refine nj_seq ?_
        refine cj_seq ?_
        refine cj_reg ?_
        refine lp rfl (p_mv rfl) ?_
        refine r_call [] cf37 rfl rfl (ok_maps_Keys_map_string_bool_string_bool b6) rfl rfl .nil (fun _ => rfl) rfl (fun b29 => ?_)
        refine r_fzb 0 rfl ?_
        obtain ⟨y30, hy30, hm⟩ := bindS hm
        refine r_call [] cf36 rfl rfl (ok_slices_Sorted_string__maps_Keys_map_string_bool_string_bool_1 b29 b6 g22.1 g22.2 u21 hy30) rfl rfl (.cons (.ro 0 rfl) (.cons (.map 2 rfl) .nil)) (fun _ => rfl) rfl (fun s31 => ?_)
        refine lp rfl (p_as rfl) ?_
        refine lp rfl (p_as rfl) ?_
        refine lj_seq ?_
        obtain rfl := Option.some.inj hm
        exact cj_rt s31 [0] Tryz.results31 (.tmp rfl (.tmp rfl .nil)) rfl rfl
      · have hRk23 : ∀ t, k23 = .ret t → some t = some r := fun t e => hX t e
        have hm := hs
        refine cj_pure (F := fun _ => KeptK (y7.map Prod.fst) gz10 gz11 gz9 gz10 gz11) (.ro 1 rfl) (fun _ h => h) (fun hkp25 => ?_)
        refine cj_seq ?_
        refine cj_reg ?_
        refine lp rfl (p_entF (n := 0) (k := x15) (z := nilS) (.fam 2 rfl) hkp25 rfl hx16 rfl) ?_
        refine lp rfl (p_ext rfl rfl) ?_
        refine lp rfl (p_ext rfl rfl) ?_
        refine lp rfl (p_as rfl) ?_
        refine lp rfl (p_as rfl) ?_
        refine lj_seq ?_
        refine cj_seq ?_
        refine cj_reg ?_
        refine lp rfl (p_mv rfl) ?_
        refine lp rfl (p_fn (cv := [.pointer (some ⟨b1, 0, none⟩)]) rfl) ?_
        obtain ⟨y26, hy26, hm⟩ := bindS hm
        refine r_call [] cf52 rfl rfl (ok_slices_ContainsFunc_api_Window_api_Window__rehearse_There_1 ((lkM gz9 x15).getD nilS) ((lkM y7 x15).getD []) b1 a1 hy26) rfl rfl (.cons (.imp (.fam 2 rfl) (fun _ h => h.look x15)) (.cons (.imp (.box 4 rfl) (fun _ h => h)) .nil)) (fun _ => rfl) rfl (fun _ => ?_)
        refine lj_seq ?_
        refine cj_if (b := y26) rfl (fun hb => ?_) (fun hb => ?_)
        · have hm := ifB_t hb hm
          refine cj_reg ?_
          refine lp rfl (p_mv rfl) ?_
          refine lp rfl (p_mv rfl) ?_
          refine r_mpu (j := 3) (vv := vv4) (k := x15) (v := true) Tryz.underlying87 keyF9 rfl rfl rfl rfl (fun es27 cl28 => ?_)
          refine lj_nil ?_
          refine nj_blk ?_
          exact cnk23 _ _ (putM u21 x15 true) (es27, cl28) (hJk23 _ (Option.some.inj hm).symm) ⟨rfl, rfl, rfl, rfl, rfl, trivial⟩ (fun _ h => h.picks [0, 0, 0, 0, 0] rfl)
        · have hm := ifB_f hb hm
          refine cj_skip ?_
          refine nj_blk ?_
          exact cnk23 _ _ u21 (g22.1, g22.2) (hJk23 _ (Option.some.inj hm).symm) ⟨rfl, rfl, rfl, rfl, rfl, trivial⟩ (fun _ h => h.picks [0, 0, 0, 0, 0] rfl)
theorem ok_concert_Long (a0 : TProgram) (s0_0_ : SV) (xg0_0_ : List (TItem × SV)) {r : Int × Int} (hm : m_concert_Long a0 = some r) :
    Ctr Tryz.prog 32 [.agg [s0_0_.v, .int .i64 a0.Change, .int .i64 a0.Clap, .int .i64 a0.Break, .int .i64 a0.Half].toArray].toArray ([] : List Ent) [Lk N43 a0.Items xg0_0_, RdS N43.R (SV.v s0_0_) xg0_0_] (X := Unit) (fun _ => .tuple [.int .i64 r.1, .int .i64 r.2].toArray) (fun _ => []) := by
  unfold m_concert_Long at hm
  refine ctr_mk (vs := [(0, .agg [s0_0_.v, .int .i64 a0.Change, .int .i64 a0.Clap, .int .i64 a0.Break, .int .i64 a0.Half].toArray)]) Tryz.func32 rfl Tryz.ntmps32 rfl ⟨rfl, trivial⟩ (fun w0 A => ?_)
  refine cj_pure (F := Lk N43 a0.Items xg0_0_) (.ro 0 rfl) (fun _ h => h.1) (fun hL0_0_ => ?_)
  refine cj_seq ?_
  refine cj_reg ?_
  refine r_bx (cs := [s0_0_.v, .int .i64 a0.Change, .int .i64 a0.Clap, .int .i64 a0.Break, .int .i64 a0.Half]) rfl rfl rfl (fun b1 => ?_)
  refine lp rfl (p_as rfl) ?_
  refine lp rfl (p_as rfl) ?_
  refine lj_seq ?_
  refine cj_seq ?_
  refine cj_seq ?_
  refine cj_reg ?_
  refine lp rfl (p_lbw ty28 rfl (j := 0) rfl rfl) ?_
  obtain ⟨y2, hy2, hm⟩ := bindS hm
  refine r_call [] cf16 rfl rfl (ok_concert_CheckProgram a0 s0_0_ xg0_0_ hy2) rfl rfl (.cons (.ro 1 rfl) (.cons (.ro 2 rfl) .nil)) (fun _ => rfl) rfl (fun _ => ?_)
  refine lp rfl (p_as rfl) ?_
  refine lj_seq ?_
  refine cj_seq ?_
  refine cj_reg ?_
  refine lp rfl (p_mv rfl) ?_
  refine lp rfl (p_neq rfl rfl) ?_
  refine lj_seq ?_
  refine cj_if (b := y2 != 0) rfl (fun hb => ?_) (fun hb => ?_)
  · have hm := ifB_t hb hm
    refine cj_seq ?_
    refine cj_reg ?_
    refine lp rfl (p_mv rfl) ?_
    refine lp rfl (p_as rfl) ?_
    refine lp rfl (p_as rfl) ?_
    refine lj_seq ?_
    obtain rfl := Option.some.inj hm
    exact cj_rt () [] Tryz.results32 (.tmp rfl (.tmp rfl .nil)) rfl rfl
  · have hm := ifB_f hb hm
    refine cj_skip ?_
    refine nj_seq ?_
    refine cj_seq ?_
    refine cj_reg ?_
    refine lp rfl (p_lbw ty28 rfl (j := 0) rfl rfl) ?_
    obtain ⟨y3, hy3, hm⟩ := bindS hm
    refine r_call [] cf38 rfl rfl (ok_concert_begins a0 s0_0_ xg0_0_ hy3) rfl rfl (.cons (.ro 1 rfl) (.cons (.ro 2 rfl) .nil)) (fun _ => rfl) rfl (fun s4 => ?_)
    refine lp rfl (p_mv rfl) ?_
    refine lp rfl (p_ext rfl rfl) ?_
    refine lp rfl (p_ext rfl rfl) ?_
    refine lp rfl (p_as rfl) ?_
    refine lp rfl (p_as rfl) ?_
    refine lj_seq ?_
    refine cj_seq ?_
    refine cj_reg ?_
    refine lp rfl (p_mv rfl) ?_
    refine lp rfl (p_as rfl) ?_
    refine lp rfl (p_as rfl) ?_
    refine lj_seq ?_
    obtain rfl := Option.some.inj hm
    exact cj_rt () [] Tryz.results32 (.tmp rfl (.tmp rfl .nil)) rfl rfl
theorem ok_club_usesOf (a0 : Int) {r : Tclub_uses} (hm : m_club_usesOf a0 = some r) :
    Ctr Tryz.prog 150 [.int .i64 a0].toArray ([] : List Ent) [] (X := Unit) (fun _ => .agg (R212.enc r).toArray) (fun _ => []) := by
  unfold m_club_usesOf at hm
  refine ctr_mk (vs := [(0, .int .i64 a0)]) Tryz.func150 rfl Tryz.ntmps150 rfl ⟨rfl, trivial⟩ (fun w0 A => ?_)
  refine cj_seq ?_
  refine cj_reg ?_
  refine r_al ty212 rfl (fun b1 => ?_)
  refine lj_seq ?_
  refine cj_seq ?_
  refine cj_reg ?_
  refine lp rfl (p_mv rfl) ?_
  refine lp rfl (p_eql rfl rfl) ?_
  refine lp rfl (p_mv rfl) ?_
  refine lp rfl (p_eql rfl rfl) ?_
  refine lp rfl (p_mv rfl) ?_
  refine lp rfl (p_eql rfl rfl) ?_
  refine lp rfl (p_as rfl) ?_
  refine lp rfl (p_as rfl) ?_
  refine lp rfl (p_as rfl) ?_
  refine lj_seq ?_
  refine cj_seq ?_
  refine cj_reg ?_
  refine lp rfl (p_mv rfl) ?_
  refine lp rfl (p_mv rfl) ?_
  refine lcase (i := 13) (a0 == 1) rfl (fun hb => ?_) (fun hb => ?_)
  · have hm := ifB_t hb hm
    refine ls false rfl rfl rfl rfl ?_
    refine ls false rfl rfl rfl rfl ?_
    refine lp rfl (p_pkt rfl rfl) ?_
    refine lp rfl (p_mv rfl) ?_
    refine ls false rfl rfl rfl rfl ?_
    refine lp rfl (p_pkt rfl rfl) ?_
    refine lp rfl (p_mv rfl) ?_
    refine ls false rfl rfl rfl rfl ?_
    refine lp rfl (p_pkt rfl rfl) ?_
    refine lp rfl (p_mv rfl) ?_
    refine lp rfl (p_eql rfl rfl) ?_
    refine lp rfl (p_mv rfl) ?_
    refine lcase (i := 25) (a0 == 4) rfl (fun hb => ?_) (fun hb => ?_)
    · have hm := ifB_t hb hm
      refine ls false rfl rfl rfl rfl ?_
      refine lp rfl (p_pkt rfl rfl) ?_
      refine lp rfl (p_mv rfl) ?_
      refine ls false rfl rfl rfl rfl ?_
      refine ls false rfl rfl rfl rfl ?_
      refine lp rfl (p_pkt rfl rfl) ?_
      refine lp rfl (p_mv rfl) ?_
      refine lp rfl (p_mv rfl) ?_
      refine lcase (i := 33) (a0 == 1) rfl (fun hb => ?_) (fun hb => ?_)
      · have hm := ifB_t hb hm
        refine ls false rfl rfl rfl rfl ?_
        refine lp rfl (p_pkt rfl rfl) ?_
        refine lp rfl (p_mv rfl) ?_
        refine lp rfl (p_mv rfl) ?_
        refine lp rfl (p_eql rfl rfl) ?_
        refine lp rfl (p_bld [.bool true, .bool true, .bool true, .bool (a0 == 5), .bool (a0 == 7)] rfl (fun _ => by kernel_rfl)) ?_
        refine r_sb (vs := [.bool true, .bool true, .bool true, .bool (a0 == 5), .bool (a0 == 7)]) (j := 0) ty212 rfl rfl rfl rfl rfl rfl rfl ?_
        refine lj_seq ?_
        obtain rfl := Option.some.inj hm
        exact cj_rt () [] Tryz.results150 (.agg (k := 0) ty212 rfl rfl rfl .nil) rfl rfl
      · have hm := ifB_f hb hm
        refine lg false rfl rfl rfl ?_
        refine lp rfl (p_mv rfl) ?_
        refine lp rfl (p_pkf rfl rfl) ?_
        refine lp rfl (p_mv rfl) ?_
        refine lp rfl (p_mv rfl) ?_
        refine lp rfl (p_eql rfl rfl) ?_
        refine lp rfl (p_bld [.bool true, .bool true, .bool (a0 == 3), .bool (a0 == 5), .bool (a0 == 7)] rfl (fun _ => by kernel_rfl)) ?_
        refine r_sb (vs := [.bool true, .bool true, .bool (a0 == 3), .bool (a0 == 5), .bool (a0 == 7)]) (j := 0) ty212 rfl rfl rfl rfl rfl rfl rfl ?_
        refine lj_seq ?_
        obtain rfl := Option.some.inj hm
        exact cj_rt () [] Tryz.results150 (.agg (k := 0) ty212 rfl rfl rfl .nil) rfl rfl
    · have hm := ifB_f hb hm
      refine lg false rfl rfl rfl ?_
      refine lp rfl (p_mv rfl) ?_
      refine lp rfl (p_pkf rfl rfl) ?_
      refine lp rfl (p_mv rfl) ?_
      refine lcase (i := 28) (a0 == 5) rfl (fun hb => ?_) (fun hb => ?_)
      · have hm := ifB_t hb hm
        refine ls false rfl rfl rfl rfl ?_
        refine ls false rfl rfl rfl rfl ?_
        refine lp rfl (p_pkt rfl rfl) ?_
        refine lp rfl (p_mv rfl) ?_
        refine lp rfl (p_mv rfl) ?_
        refine lcase (i := 33) (a0 == 1) rfl (fun hb => ?_) (fun hb => ?_)
        · have hm := ifB_t hb hm
          refine ls false rfl rfl rfl rfl ?_
          refine lp rfl (p_pkt rfl rfl) ?_
          refine lp rfl (p_mv rfl) ?_
          refine lp rfl (p_mv rfl) ?_
          refine lp rfl (p_eql rfl rfl) ?_
          refine lp rfl (p_bld [.bool true, .bool true, .bool true, .bool (a0 == 5), .bool (a0 == 7)] rfl (fun _ => by kernel_rfl)) ?_
          refine r_sb (vs := [.bool true, .bool true, .bool true, .bool (a0 == 5), .bool (a0 == 7)]) (j := 0) ty212 rfl rfl rfl rfl rfl rfl rfl ?_
          refine lj_seq ?_
          obtain rfl := Option.some.inj hm
          exact cj_rt () [] Tryz.results150 (.agg (k := 0) ty212 rfl rfl rfl .nil) rfl rfl
        · have hm := ifB_f hb hm
          refine lg false rfl rfl rfl ?_
          refine lp rfl (p_mv rfl) ?_
          refine lp rfl (p_pkf rfl rfl) ?_
          refine lp rfl (p_mv rfl) ?_
          refine lp rfl (p_mv rfl) ?_
          refine lp rfl (p_eql rfl rfl) ?_
          refine lp rfl (p_bld [.bool true, .bool true, .bool (a0 == 3), .bool (a0 == 5), .bool (a0 == 7)] rfl (fun _ => by kernel_rfl)) ?_
          refine r_sb (vs := [.bool true, .bool true, .bool (a0 == 3), .bool (a0 == 5), .bool (a0 == 7)]) (j := 0) ty212 rfl rfl rfl rfl rfl rfl rfl ?_
          refine lj_seq ?_
          obtain rfl := Option.some.inj hm
          exact cj_rt () [] Tryz.results150 (.agg (k := 0) ty212 rfl rfl rfl .nil) rfl rfl
      · have hm := ifB_f hb hm
        refine lg false rfl rfl rfl ?_
        refine lp rfl (p_mv rfl) ?_
        refine lg false rfl rfl rfl ?_
        refine lp rfl (p_eql rfl rfl) ?_
        refine lp rfl (p_pkf rfl rfl) ?_
        refine lp rfl (p_mv rfl) ?_
        refine lp rfl (p_mv rfl) ?_
        refine lcase (i := 33) (a0 == 1) rfl (fun hb => ?_) (fun hb => ?_)
        · have hm := ifB_t hb hm
          refine ls false rfl rfl rfl rfl ?_
          refine lp rfl (p_pkt rfl rfl) ?_
          refine lp rfl (p_mv rfl) ?_
          refine lp rfl (p_mv rfl) ?_
          refine lp rfl (p_eql rfl rfl) ?_
          refine lp rfl (p_bld [.bool true, .bool (a0 == 6), .bool true, .bool (a0 == 5), .bool (a0 == 7)] rfl (fun _ => by kernel_rfl)) ?_
          refine r_sb (vs := [.bool true, .bool (a0 == 6), .bool true, .bool (a0 == 5), .bool (a0 == 7)]) (j := 0) ty212 rfl rfl rfl rfl rfl rfl rfl ?_
          refine lj_seq ?_
          obtain rfl := Option.some.inj hm
          exact cj_rt () [] Tryz.results150 (.agg (k := 0) ty212 rfl rfl rfl .nil) rfl rfl
        · have hm := ifB_f hb hm
          refine lg false rfl rfl rfl ?_
          refine lp rfl (p_mv rfl) ?_
          refine lp rfl (p_pkf rfl rfl) ?_
          refine lp rfl (p_mv rfl) ?_
          refine lp rfl (p_mv rfl) ?_
          refine lp rfl (p_eql rfl rfl) ?_
          refine lp rfl (p_bld [.bool true, .bool (a0 == 6), .bool (a0 == 3), .bool (a0 == 5), .bool (a0 == 7)] rfl (fun _ => by kernel_rfl)) ?_
          refine r_sb (vs := [.bool true, .bool (a0 == 6), .bool (a0 == 3), .bool (a0 == 5), .bool (a0 == 7)]) (j := 0) ty212 rfl rfl rfl rfl rfl rfl rfl ?_
          refine lj_seq ?_
          obtain rfl := Option.some.inj hm
          exact cj_rt () [] Tryz.results150 (.agg (k := 0) ty212 rfl rfl rfl .nil) rfl rfl
  · have hm := ifB_f hb hm
    refine lg false rfl rfl rfl ?_
    refine lp rfl (p_mv rfl) ?_
    refine lg false rfl rfl rfl ?_
    refine lp rfl (p_eql rfl rfl) ?_
    refine lp rfl (p_pkf rfl rfl) ?_
    refine lp rfl (p_mv rfl) ?_
    refine lcase (i := 17) (a0 == 2) rfl (fun hb => ?_) (fun hb => ?_)
    · have hm := ifB_t hb hm
      refine ls false rfl rfl rfl rfl ?_
      refine lp rfl (p_pkt rfl rfl) ?_
      refine lp rfl (p_mv rfl) ?_
      refine ls false rfl rfl rfl rfl ?_
      refine lp rfl (p_pkt rfl rfl) ?_
      refine lp rfl (p_mv rfl) ?_
      refine lp rfl (p_eql rfl rfl) ?_
      refine lp rfl (p_mv rfl) ?_
      refine lcase (i := 25) (a0 == 4) rfl (fun hb => ?_) (fun hb => ?_)
      · have hm := ifB_t hb hm
        refine ls false rfl rfl rfl rfl ?_
        refine lp rfl (p_pkt rfl rfl) ?_
        refine lp rfl (p_mv rfl) ?_
        refine ls false rfl rfl rfl rfl ?_
        refine ls false rfl rfl rfl rfl ?_
        refine lp rfl (p_pkt rfl rfl) ?_
        refine lp rfl (p_mv rfl) ?_
        refine lp rfl (p_mv rfl) ?_
        refine lcase (i := 33) (a0 == 1) rfl (fun hb => ?_) (fun hb => ?_)
        · have hm := ifB_t hb hm
          refine ls false rfl rfl rfl rfl ?_
          refine lp rfl (p_pkt rfl rfl) ?_
          refine lp rfl (p_mv rfl) ?_
          refine lp rfl (p_mv rfl) ?_
          refine lp rfl (p_eql rfl rfl) ?_
          refine lp rfl (p_bld [.bool true, .bool true, .bool true, .bool (a0 == 5), .bool (a0 == 7)] rfl (fun _ => by kernel_rfl)) ?_
          refine r_sb (vs := [.bool true, .bool true, .bool true, .bool (a0 == 5), .bool (a0 == 7)]) (j := 0) ty212 rfl rfl rfl rfl rfl rfl rfl ?_
          refine lj_seq ?_
          obtain rfl := Option.some.inj hm
          exact cj_rt () [] Tryz.results150 (.agg (k := 0) ty212 rfl rfl rfl .nil) rfl rfl
        · have hm := ifB_f hb hm
          refine lg false rfl rfl rfl ?_
          refine lp rfl (p_mv rfl) ?_
          refine lp rfl (p_pkf rfl rfl) ?_
          refine lp rfl (p_mv rfl) ?_
          refine lp rfl (p_mv rfl) ?_
          refine lp rfl (p_eql rfl rfl) ?_
          refine lp rfl (p_bld [.bool true, .bool true, .bool (a0 == 3), .bool (a0 == 5), .bool (a0 == 7)] rfl (fun _ => by kernel_rfl)) ?_
          refine r_sb (vs := [.bool true, .bool true, .bool (a0 == 3), .bool (a0 == 5), .bool (a0 == 7)]) (j := 0) ty212 rfl rfl rfl rfl rfl rfl rfl ?_
          refine lj_seq ?_
          obtain rfl := Option.some.inj hm
          exact cj_rt () [] Tryz.results150 (.agg (k := 0) ty212 rfl rfl rfl .nil) rfl rfl
      · have hm := ifB_f hb hm
        refine lg false rfl rfl rfl ?_
        refine lp rfl (p_mv rfl) ?_
        refine lp rfl (p_pkf rfl rfl) ?_
        refine lp rfl (p_mv rfl) ?_
        refine lcase (i := 28) (a0 == 5) rfl (fun hb => ?_) (fun hb => ?_)
        · have hm := ifB_t hb hm
          refine ls false rfl rfl rfl rfl ?_
          refine ls false rfl rfl rfl rfl ?_
          refine lp rfl (p_pkt rfl rfl) ?_
          refine lp rfl (p_mv rfl) ?_
          refine lp rfl (p_mv rfl) ?_
          refine lcase (i := 33) (a0 == 1) rfl (fun hb => ?_) (fun hb => ?_)
          · have hm := ifB_t hb hm
            refine ls false rfl rfl rfl rfl ?_
            refine lp rfl (p_pkt rfl rfl) ?_
            refine lp rfl (p_mv rfl) ?_
            refine lp rfl (p_mv rfl) ?_
            refine lp rfl (p_eql rfl rfl) ?_
            refine lp rfl (p_bld [.bool true, .bool true, .bool true, .bool (a0 == 5), .bool (a0 == 7)] rfl (fun _ => by kernel_rfl)) ?_
            refine r_sb (vs := [.bool true, .bool true, .bool true, .bool (a0 == 5), .bool (a0 == 7)]) (j := 0) ty212 rfl rfl rfl rfl rfl rfl rfl ?_
            refine lj_seq ?_
            obtain rfl := Option.some.inj hm
            exact cj_rt () [] Tryz.results150 (.agg (k := 0) ty212 rfl rfl rfl .nil) rfl rfl
          · have hm := ifB_f hb hm
            refine lg false rfl rfl rfl ?_
            refine lp rfl (p_mv rfl) ?_
            refine lp rfl (p_pkf rfl rfl) ?_
            refine lp rfl (p_mv rfl) ?_
            refine lp rfl (p_mv rfl) ?_
            refine lp rfl (p_eql rfl rfl) ?_
            refine lp rfl (p_bld [.bool true, .bool true, .bool (a0 == 3), .bool (a0 == 5), .bool (a0 == 7)] rfl (fun _ => by kernel_rfl)) ?_
            refine r_sb (vs := [.bool true, .bool true, .bool (a0 == 3), .bool (a0 == 5), .bool (a0 == 7)]) (j := 0) ty212 rfl rfl rfl rfl rfl rfl rfl ?_
            refine lj_seq ?_
            obtain rfl := Option.some.inj hm
            exact cj_rt () [] Tryz.results150 (.agg (k := 0) ty212 rfl rfl rfl .nil) rfl rfl
        · have hm := ifB_f hb hm
          refine lg false rfl rfl rfl ?_
          refine lp rfl (p_mv rfl) ?_
          refine lg false rfl rfl rfl ?_
          refine lp rfl (p_eql rfl rfl) ?_
          refine lp rfl (p_pkf rfl rfl) ?_
          refine lp rfl (p_mv rfl) ?_
          refine lp rfl (p_mv rfl) ?_
          refine lcase (i := 33) (a0 == 1) rfl (fun hb => ?_) (fun hb => ?_)
          · have hm := ifB_t hb hm
            refine ls false rfl rfl rfl rfl ?_
            refine lp rfl (p_pkt rfl rfl) ?_
            refine lp rfl (p_mv rfl) ?_
            refine lp rfl (p_mv rfl) ?_
            refine lp rfl (p_eql rfl rfl) ?_
            refine lp rfl (p_bld [.bool true, .bool (a0 == 6), .bool true, .bool (a0 == 5), .bool (a0 == 7)] rfl (fun _ => by kernel_rfl)) ?_
            refine r_sb (vs := [.bool true, .bool (a0 == 6), .bool true, .bool (a0 == 5), .bool (a0 == 7)]) (j := 0) ty212 rfl rfl rfl rfl rfl rfl rfl ?_
            refine lj_seq ?_
            obtain rfl := Option.some.inj hm
            exact cj_rt () [] Tryz.results150 (.agg (k := 0) ty212 rfl rfl rfl .nil) rfl rfl
          · have hm := ifB_f hb hm
            refine lg false rfl rfl rfl ?_
            refine lp rfl (p_mv rfl) ?_
            refine lp rfl (p_pkf rfl rfl) ?_
            refine lp rfl (p_mv rfl) ?_
            refine lp rfl (p_mv rfl) ?_
            refine lp rfl (p_eql rfl rfl) ?_
            refine lp rfl (p_bld [.bool true, .bool (a0 == 6), .bool (a0 == 3), .bool (a0 == 5), .bool (a0 == 7)] rfl (fun _ => by kernel_rfl)) ?_
            refine r_sb (vs := [.bool true, .bool (a0 == 6), .bool (a0 == 3), .bool (a0 == 5), .bool (a0 == 7)]) (j := 0) ty212 rfl rfl rfl rfl rfl rfl rfl ?_
            refine lj_seq ?_
            obtain rfl := Option.some.inj hm
            exact cj_rt () [] Tryz.results150 (.agg (k := 0) ty212 rfl rfl rfl .nil) rfl rfl
    · have hm := ifB_f hb hm
      refine lg false rfl rfl rfl ?_
      refine lp rfl (p_mv rfl) ?_
      refine lp rfl (p_pkf rfl rfl) ?_
      refine lp rfl (p_mv rfl) ?_
      refine lcase (i := 20) (a0 == 3) rfl (fun hb => ?_) (fun hb => ?_)
      · have hm := ifB_t hb hm
        refine ls false rfl rfl rfl rfl ?_
        refine lp rfl (p_pkt rfl rfl) ?_
        refine lp rfl (p_mv rfl) ?_
        refine lp rfl (p_eql rfl rfl) ?_
        refine lp rfl (p_mv rfl) ?_
        refine lcase (i := 25) (a0 == 4) rfl (fun hb => ?_) (fun hb => ?_)
        · have hm := ifB_t hb hm
          refine ls false rfl rfl rfl rfl ?_
          refine lp rfl (p_pkt rfl rfl) ?_
          refine lp rfl (p_mv rfl) ?_
          refine ls false rfl rfl rfl rfl ?_
          refine ls false rfl rfl rfl rfl ?_
          refine lp rfl (p_pkt rfl rfl) ?_
          refine lp rfl (p_mv rfl) ?_
          refine lp rfl (p_mv rfl) ?_
          refine lcase (i := 33) (a0 == 1) rfl (fun hb => ?_) (fun hb => ?_)
          · have hm := ifB_t hb hm
            refine ls false rfl rfl rfl rfl ?_
            refine lp rfl (p_pkt rfl rfl) ?_
            refine lp rfl (p_mv rfl) ?_
            refine lp rfl (p_mv rfl) ?_
            refine lp rfl (p_eql rfl rfl) ?_
            refine lp rfl (p_bld [.bool true, .bool true, .bool true, .bool (a0 == 5), .bool (a0 == 7)] rfl (fun _ => by kernel_rfl)) ?_
            refine r_sb (vs := [.bool true, .bool true, .bool true, .bool (a0 == 5), .bool (a0 == 7)]) (j := 0) ty212 rfl rfl rfl rfl rfl rfl rfl ?_
            refine lj_seq ?_
            obtain rfl := Option.some.inj hm
            exact cj_rt () [] Tryz.results150 (.agg (k := 0) ty212 rfl rfl rfl .nil) rfl rfl
          · have hm := ifB_f hb hm
            refine lg false rfl rfl rfl ?_
            refine lp rfl (p_mv rfl) ?_
            refine lp rfl (p_pkf rfl rfl) ?_
            refine lp rfl (p_mv rfl) ?_
            refine lp rfl (p_mv rfl) ?_
            refine lp rfl (p_eql rfl rfl) ?_
            refine lp rfl (p_bld [.bool true, .bool true, .bool (a0 == 3), .bool (a0 == 5), .bool (a0 == 7)] rfl (fun _ => by kernel_rfl)) ?_
            refine r_sb (vs := [.bool true, .bool true, .bool (a0 == 3), .bool (a0 == 5), .bool (a0 == 7)]) (j := 0) ty212 rfl rfl rfl rfl rfl rfl rfl ?_
            refine lj_seq ?_
            obtain rfl := Option.some.inj hm
            exact cj_rt () [] Tryz.results150 (.agg (k := 0) ty212 rfl rfl rfl .nil) rfl rfl
        · have hm := ifB_f hb hm
          refine lg false rfl rfl rfl ?_
          refine lp rfl (p_mv rfl) ?_
          refine lp rfl (p_pkf rfl rfl) ?_
          refine lp rfl (p_mv rfl) ?_
          refine lcase (i := 28) (a0 == 5) rfl (fun hb => ?_) (fun hb => ?_)
          · have hm := ifB_t hb hm
            refine ls false rfl rfl rfl rfl ?_
            refine ls false rfl rfl rfl rfl ?_
            refine lp rfl (p_pkt rfl rfl) ?_
            refine lp rfl (p_mv rfl) ?_
            refine lp rfl (p_mv rfl) ?_
            refine lcase (i := 33) (a0 == 1) rfl (fun hb => ?_) (fun hb => ?_)
            · have hm := ifB_t hb hm
              refine ls false rfl rfl rfl rfl ?_
              refine lp rfl (p_pkt rfl rfl) ?_
              refine lp rfl (p_mv rfl) ?_
              refine lp rfl (p_mv rfl) ?_
              refine lp rfl (p_eql rfl rfl) ?_
              refine lp rfl (p_bld [.bool true, .bool true, .bool true, .bool (a0 == 5), .bool (a0 == 7)] rfl (fun _ => by kernel_rfl)) ?_
              refine r_sb (vs := [.bool true, .bool true, .bool true, .bool (a0 == 5), .bool (a0 == 7)]) (j := 0) ty212 rfl rfl rfl rfl rfl rfl rfl ?_
              refine lj_seq ?_
              obtain rfl := Option.some.inj hm
              exact cj_rt () [] Tryz.results150 (.agg (k := 0) ty212 rfl rfl rfl .nil) rfl rfl
            · have hm := ifB_f hb hm
              refine lg false rfl rfl rfl ?_
              refine lp rfl (p_mv rfl) ?_
              refine lp rfl (p_pkf rfl rfl) ?_
              refine lp rfl (p_mv rfl) ?_
              refine lp rfl (p_mv rfl) ?_
              refine lp rfl (p_eql rfl rfl) ?_
              refine lp rfl (p_bld [.bool true, .bool true, .bool (a0 == 3), .bool (a0 == 5), .bool (a0 == 7)] rfl (fun _ => by kernel_rfl)) ?_
              refine r_sb (vs := [.bool true, .bool true, .bool (a0 == 3), .bool (a0 == 5), .bool (a0 == 7)]) (j := 0) ty212 rfl rfl rfl rfl rfl rfl rfl ?_
              refine lj_seq ?_
              obtain rfl := Option.some.inj hm
              exact cj_rt () [] Tryz.results150 (.agg (k := 0) ty212 rfl rfl rfl .nil) rfl rfl
          · have hm := ifB_f hb hm
            refine lg false rfl rfl rfl ?_
            refine lp rfl (p_mv rfl) ?_
            refine lg false rfl rfl rfl ?_
            refine lp rfl (p_eql rfl rfl) ?_
            refine lp rfl (p_pkf rfl rfl) ?_
            refine lp rfl (p_mv rfl) ?_
            refine lp rfl (p_mv rfl) ?_
            refine lcase (i := 33) (a0 == 1) rfl (fun hb => ?_) (fun hb => ?_)
            · have hm := ifB_t hb hm
              refine ls false rfl rfl rfl rfl ?_
              refine lp rfl (p_pkt rfl rfl) ?_
              refine lp rfl (p_mv rfl) ?_
              refine lp rfl (p_mv rfl) ?_
              refine lp rfl (p_eql rfl rfl) ?_
              refine lp rfl (p_bld [.bool true, .bool (a0 == 6), .bool true, .bool (a0 == 5), .bool (a0 == 7)] rfl (fun _ => by kernel_rfl)) ?_
              refine r_sb (vs := [.bool true, .bool (a0 == 6), .bool true, .bool (a0 == 5), .bool (a0 == 7)]) (j := 0) ty212 rfl rfl rfl rfl rfl rfl rfl ?_
              refine lj_seq ?_
              obtain rfl := Option.some.inj hm
              exact cj_rt () [] Tryz.results150 (.agg (k := 0) ty212 rfl rfl rfl .nil) rfl rfl
            · have hm := ifB_f hb hm
              refine lg false rfl rfl rfl ?_
              refine lp rfl (p_mv rfl) ?_
              refine lp rfl (p_pkf rfl rfl) ?_
              refine lp rfl (p_mv rfl) ?_
              refine lp rfl (p_mv rfl) ?_
              refine lp rfl (p_eql rfl rfl) ?_
              refine lp rfl (p_bld [.bool true, .bool (a0 == 6), .bool (a0 == 3), .bool (a0 == 5), .bool (a0 == 7)] rfl (fun _ => by kernel_rfl)) ?_
              refine r_sb (vs := [.bool true, .bool (a0 == 6), .bool (a0 == 3), .bool (a0 == 5), .bool (a0 == 7)]) (j := 0) ty212 rfl rfl rfl rfl rfl rfl rfl ?_
              refine lj_seq ?_
              obtain rfl := Option.some.inj hm
              exact cj_rt () [] Tryz.results150 (.agg (k := 0) ty212 rfl rfl rfl .nil) rfl rfl
      · have hm := ifB_f hb hm
        refine lg false rfl rfl rfl ?_
        refine lp rfl (p_mv rfl) ?_
        refine lp rfl (p_pkf rfl rfl) ?_
        refine lp rfl (p_mv rfl) ?_
        refine lp rfl (p_eql rfl rfl) ?_
        refine lp rfl (p_mv rfl) ?_
        refine lcase (i := 25) (a0 == 4) rfl (fun hb => ?_) (fun hb => ?_)
        · have hm := ifB_t hb hm
          refine ls false rfl rfl rfl rfl ?_
          refine lp rfl (p_pkt rfl rfl) ?_
          refine lp rfl (p_mv rfl) ?_
          refine ls false rfl rfl rfl rfl ?_
          refine ls false rfl rfl rfl rfl ?_
          refine lp rfl (p_pkt rfl rfl) ?_
          refine lp rfl (p_mv rfl) ?_
          refine lp rfl (p_mv rfl) ?_
          refine lcase (i := 33) (a0 == 1) rfl (fun hb => ?_) (fun hb => ?_)
          · have hm := ifB_t hb hm
            refine ls false rfl rfl rfl rfl ?_
            refine lp rfl (p_pkt rfl rfl) ?_
            refine lp rfl (p_mv rfl) ?_
            refine lp rfl (p_mv rfl) ?_
            refine lp rfl (p_eql rfl rfl) ?_
            refine lp rfl (p_bld [.bool (a0 == 5), .bool true, .bool true, .bool (a0 == 5), .bool (a0 == 7)] rfl (fun _ => by kernel_rfl)) ?_
            refine r_sb (vs := [.bool (a0 == 5), .bool true, .bool true, .bool (a0 == 5), .bool (a0 == 7)]) (j := 0) ty212 rfl rfl rfl rfl rfl rfl rfl ?_
            refine lj_seq ?_
            obtain rfl := Option.some.inj hm
            exact cj_rt () [] Tryz.results150 (.agg (k := 0) ty212 rfl rfl rfl .nil) rfl rfl
          · have hm := ifB_f hb hm
            refine lg false rfl rfl rfl ?_
            refine lp rfl (p_mv rfl) ?_
            refine lp rfl (p_pkf rfl rfl) ?_
            refine lp rfl (p_mv rfl) ?_
            refine lp rfl (p_mv rfl) ?_
            refine lp rfl (p_eql rfl rfl) ?_
            refine lp rfl (p_bld [.bool (a0 == 5), .bool true, .bool (a0 == 3), .bool (a0 == 5), .bool (a0 == 7)] rfl (fun _ => by kernel_rfl)) ?_
            refine r_sb (vs := [.bool (a0 == 5), .bool true, .bool (a0 == 3), .bool (a0 == 5), .bool (a0 == 7)]) (j := 0) ty212 rfl rfl rfl rfl rfl rfl rfl ?_
            refine lj_seq ?_
            obtain rfl := Option.some.inj hm
            exact cj_rt () [] Tryz.results150 (.agg (k := 0) ty212 rfl rfl rfl .nil) rfl rfl
        · have hm := ifB_f hb hm
          refine lg false rfl rfl rfl ?_
          refine lp rfl (p_mv rfl) ?_
          refine lp rfl (p_pkf rfl rfl) ?_
          refine lp rfl (p_mv rfl) ?_
          refine lcase (i := 28) (a0 == 5) rfl (fun hb => ?_) (fun hb => ?_)
          · have hm := ifB_t hb hm
            refine ls false rfl rfl rfl rfl ?_
            refine ls false rfl rfl rfl rfl ?_
            refine lp rfl (p_pkt rfl rfl) ?_
            refine lp rfl (p_mv rfl) ?_
            refine lp rfl (p_mv rfl) ?_
            refine lcase (i := 33) (a0 == 1) rfl (fun hb => ?_) (fun hb => ?_)
            · have hm := ifB_t hb hm
              refine ls false rfl rfl rfl rfl ?_
              refine lp rfl (p_pkt rfl rfl) ?_
              refine lp rfl (p_mv rfl) ?_
              refine lp rfl (p_mv rfl) ?_
              refine lp rfl (p_eql rfl rfl) ?_
              refine lp rfl (p_bld [.bool (a0 == 5), .bool true, .bool true, .bool (a0 == 5), .bool (a0 == 7)] rfl (fun _ => by kernel_rfl)) ?_
              refine r_sb (vs := [.bool (a0 == 5), .bool true, .bool true, .bool (a0 == 5), .bool (a0 == 7)]) (j := 0) ty212 rfl rfl rfl rfl rfl rfl rfl ?_
              refine lj_seq ?_
              obtain rfl := Option.some.inj hm
              exact cj_rt () [] Tryz.results150 (.agg (k := 0) ty212 rfl rfl rfl .nil) rfl rfl
            · have hm := ifB_f hb hm
              refine lg false rfl rfl rfl ?_
              refine lp rfl (p_mv rfl) ?_
              refine lp rfl (p_pkf rfl rfl) ?_
              refine lp rfl (p_mv rfl) ?_
              refine lp rfl (p_mv rfl) ?_
              refine lp rfl (p_eql rfl rfl) ?_
              refine lp rfl (p_bld [.bool (a0 == 5), .bool true, .bool (a0 == 3), .bool (a0 == 5), .bool (a0 == 7)] rfl (fun _ => by kernel_rfl)) ?_
              refine r_sb (vs := [.bool (a0 == 5), .bool true, .bool (a0 == 3), .bool (a0 == 5), .bool (a0 == 7)]) (j := 0) ty212 rfl rfl rfl rfl rfl rfl rfl ?_
              refine lj_seq ?_
              obtain rfl := Option.some.inj hm
              exact cj_rt () [] Tryz.results150 (.agg (k := 0) ty212 rfl rfl rfl .nil) rfl rfl
          · have hm := ifB_f hb hm
            refine lg false rfl rfl rfl ?_
            refine lp rfl (p_mv rfl) ?_
            refine lg false rfl rfl rfl ?_
            refine lp rfl (p_eql rfl rfl) ?_
            refine lp rfl (p_pkf rfl rfl) ?_
            refine lp rfl (p_mv rfl) ?_
            refine lp rfl (p_mv rfl) ?_
            refine lcase (i := 33) (a0 == 1) rfl (fun hb => ?_) (fun hb => ?_)
            · have hm := ifB_t hb hm
              refine ls false rfl rfl rfl rfl ?_
              refine lp rfl (p_pkt rfl rfl) ?_
              refine lp rfl (p_mv rfl) ?_
              refine lp rfl (p_mv rfl) ?_
              refine lp rfl (p_eql rfl rfl) ?_
              refine lp rfl (p_bld [.bool (a0 == 5), .bool (a0 == 6), .bool true, .bool (a0 == 5), .bool (a0 == 7)] rfl (fun _ => by kernel_rfl)) ?_
              refine r_sb (vs := [.bool (a0 == 5), .bool (a0 == 6), .bool true, .bool (a0 == 5), .bool (a0 == 7)]) (j := 0) ty212 rfl rfl rfl rfl rfl rfl rfl ?_
              refine lj_seq ?_
              obtain rfl := Option.some.inj hm
              exact cj_rt () [] Tryz.results150 (.agg (k := 0) ty212 rfl rfl rfl .nil) rfl rfl
            · have hm := ifB_f hb hm
              refine lg false rfl rfl rfl ?_
              refine lp rfl (p_mv rfl) ?_
              refine lp rfl (p_pkf rfl rfl) ?_
              refine lp rfl (p_mv rfl) ?_
              refine lp rfl (p_mv rfl) ?_
              refine lp rfl (p_eql rfl rfl) ?_
              refine lp rfl (p_bld [.bool (a0 == 5), .bool (a0 == 6), .bool (a0 == 3), .bool (a0 == 5), .bool (a0 == 7)] rfl (fun _ => by kernel_rfl)) ?_
              refine r_sb (vs := [.bool (a0 == 5), .bool (a0 == 6), .bool (a0 == 3), .bool (a0 == 5), .bool (a0 == 7)]) (j := 0) ty212 rfl rfl rfl rfl rfl rfl rfl ?_
              refine lj_seq ?_
              obtain rfl := Option.some.inj hm
              exact cj_rt () [] Tryz.results150 (.agg (k := 0) ty212 rfl rfl rfl .nil) rfl rfl
end Go.Proofs.YtdeoejkgmeemaadGreatDoor
