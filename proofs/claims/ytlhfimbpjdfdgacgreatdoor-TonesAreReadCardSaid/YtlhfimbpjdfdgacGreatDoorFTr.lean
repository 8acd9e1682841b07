/- The law of tones that are read: what is written is read as it was, and what is read is written as it stood there. Proved with no condition: the walk of the code was written by program, the plain law is in the texts beside it; the card is tied. -/
import Derived.Test.YtlhfimbpjdfdgacGreatDoorRows
import Derived.Test.YtlhfimbpjdfdgacGreatDoorTie
import Derived.Test.YtlhfimbpjdfdgacGreatDoorCards
import Derived.WalkKit
import Derived.ProofKit
import Derived.OpenShut
import Derived.ShutString
import Derived.ChangeOld
import Derived.Below
import Derived.Lay
import Derived.SevenTiedAt
import Derived.Shelf.Vars
import Derived.HandedShaped
import Derived.Lib.LaidU8
import Derived.Lib.LaidTab
import Derived.Lib.LaidU8T
import Derived.Test.YtlhfimbpjdfdgacGreatDoorW3
import Derived.Test.YtlhfimbpjdfdgacGreatDoorLTd
namespace Go.Proofs.YtlhfimbpjdfdgacGreatDoor.tonesAreRead
open Go.ChangeShapes Go.WideShapes Go.ChangeAt Go.RowKit
open Go.ChangeMaps (open_string shut_string)
open Go.J Go.G
set_option linter.unusedVariables false
theorem own : ownKnob Tryz.prog.godebug = none := by kernel_rfl
theorem laidOut : laidOutB Tryz.prog = true := by kernel_rfl
theorem wrapS {H : Type} {enc : TypeId × Value → H} {a : Assume} {C : Checked} {os : Os} {f : FuncId} {fn : Func} {s : ChangeSpec} {conds : List PathCond} {apart fresh handsOn again : Bool} {X : World → Array Value → Prop}
    (hX : ∀ (w w' : World) (args : Array Value), w.heap = w'.heap → X w args → X w' args)
    (own : ownKnob C.prog.godebug = none) (started : os.Started) (noInit : C.prog.inits.idxOf? f = none) (hfn : C.prog.funcs[f]? = some fn)
    (witness : ∃ (w : World) (tape : Tape) (i : Input), w.os = os ∧ (w.forCall tape i).Shaped C.prog ∧ i.vars = [] ∧ Input.okWide C.prog (w.forCall tape i) .any w.heap.size f i ∧
      ((s.pre enc C.prog fn conds apart (w.forCall tape i).memory i.args ∧ X (w.forCall tape i).memory i.args) ∧ sizedMet enc C.prog fn (OpenSpec.ofChange s) apart (w.forCall tape i).memory i.args) ∧ a.holds C.prog (lone (Frame.enter C.prog f i.args .normal) [] (w.forCall tape i)))
    (contract : ∀ (W : World) (base : Nat) (args : Array Value) (ds gs : List (DataW H)) (before : List MemPlace),
      (∀ (j : Nat) t v, fn.params[j]? = some t → args[j]? = some v → Value.okWide C.prog W .any base t v) →
      DataW.Whole enc C.prog fn.params.toList s.vars apart W args.toList ds gs before →
      conds.all (PathCond.test C.prog ⟨fn.params.toList, ds, s.plain.varTypes C.prog, gs⟩) = true →
      (DataW.weightsEach C.prog (fn.params.toList ++ s.plain.varTypes C.prog) (ds ++ gs)).all (· ≤ reachBytes) = true → X W args → W.ShapedOpen C.prog →
      a.holds C.prog (lone (Frame.enter C.prog f args .normal) [] W) →
      Calls C.prog f args W fun e W' => ∃ v, e = .returned v ∧ s.post enc C.prog fn apart fresh handsOn again W args v W') :
    ReturnsInHanded a C os f .any (fun w args => (s.pre enc C.prog fn conds apart w args ∧ X w args) ∧ sizedMet enc C.prog fn (OpenSpec.ofChange s) apart w args) (s.post enc C.prog fn apart fresh handsOn again) := by
  refine returnsInHanded_of_calls own started noInit witness ?_
  intro w tape i _ hsh _ hok hpre hholds
  obtain ⟨_, _, _, fn', hfn', _, _, _, _, hval⟩ := hok
  obtain rfl : fn' = fn := Option.some.inj (hfn'.symm.trans hfn)
  obtain ⟨⟨⟨ds, gs, before, hw, hc⟩, hx⟩, hz⟩ := hpre
  refine (contract (w.forCall tape i) w.heap.size i.args ds gs before hval (DataW.Whole.of_heap (w' := w.forCall tape i) (by rfl) hw) hc (hz.weights hw) (hX _ _ _ (by rfl) hx) hsh hholds).mono fun e W' ⟨v, he, hp⟩ => ?_
  subst he
  exact ChangeSpec.post_blind hp
theorem maxT_of {W : World} (h : W.ShapedOpen Tryz.prog) : MaxT W :=
  cell_of_shapedOpen_int h (g := 0) (t := 3) (zero := #[.int .i64 0]) (of_decide_eq_true (by kernel_rfl)) (by kernel_rfl) (by kernel_rfl) (by kernel_rfl) (by kernel_rfl) Tryz.underlying3
theorem maxT_stays {w w' : World} (h : MaxT w) (hw' : ∀ k, k < w.heap.size → w'.heap[k]? = w.heap[k]?) : MaxT w' := by
  obtain ⟨m, hc⟩ := h
  refine ⟨m, (World.cell?_of_block (hw' 0 ?_)).trans hc⟩
  by_cases hb : 0 < w.heap.size
  · exact hb
  · unfold World.cell? at hc
    rw [Array.getElem?_eq_none (by simpa using hb)] at hc
    cases hc
theorem glob1 : Tryz.prog.globalNamed "internal/strconv.uint64pow10" = some 3 := by kernel_rfl
theorem powT_of {W : World} (h : laidMetH Tryz.prog Rows.tonesAreReadRow.laid W) : PowT W := by
  rw [MakeChecks.laidMetH_plain _ _ _ (by kernel_rfl)] at h
  obtain ⟨g', t', cs, fuel, p, hg', ht', hvar, hd⟩ := Lib.laidMet.reads h (n := "internal/strconv.uint64pow10") (d := Rows.laid_internal_strconv_uint64pow10) (.tail _ (.tail _ (.head _)))
  obtain rfl := Option.some.inj (glob1.symm.trans hg')
  obtain rfl := Option.some.inj ((show (Tryz.prog.globals[3]?).map (·.type) = some 235 by kernel_rfl).symm.trans ht')
  have hdat : (Rows.laid_internal_strconv_uint64pow10 : DataW Unit) = Lib.tabData .u64 Lib.pow10Tab := by rfl
  rw [hdat] at hd
  unfold PowT Lib.TabIs
  rw [hvar, ← Lib.cells_of_tab Tryz.underlying235 Tryz.underlying191 (by kernel_rfl) (by kernel_rfl) hd]
theorem powT_stays {w w' : World} (hG : PowT w) (hw' : ∀ k, k < w.heap.size → w'.heap[k]? = w.heap[k]?) : PowT w' := by
  have h := hG
  unfold PowT Lib.TabIs World.var? at h ⊢
  rw [glob1] at h ⊢
  simp only [Option.bind_some] at h ⊢
  have hlt : 3 < w.heap.size := by
    rcases Nat.lt_or_ge 3 w.heap.size with h' | h'
    · exact h'
    · rw [Array.getElem?_eq_none h'] at h; cases h
  rw [hw' 3 hlt]
  exact h
set_option maxRecDepth 100000 in
theorem utfT_of {W : World} (h : laidMetH Tryz.prog Rows.tonesAreReadRow.laid W) : UtfT W := by
  rw [MakeChecks.laidMetH_plain _ _ _ (by kernel_rfl)] at h
  exact utf8Tabs_of_readsT (U8Types.of196 Tryz.lays196) ⟨by kernel_rfl, by kernel_rfl, by kernel_rfl, by kernel_rfl, by kernel_rfl, by kernel_rfl, by kernel_rfl⟩ (Lib.laidMet.reads h (n := "unicode/utf8.first") (.tail _ (.tail _ (.tail _ (.tail _ (.tail _ (.tail _ (.head _)))))))) (Lib.laidMet.reads h (n := "unicode/utf8.acceptRanges") (.tail _ (.tail _ (.tail _ (.head _)))))
theorem utfT_stays {w w' : World} (h : UtfT w) (hw' : ∀ k, k < w.heap.size → w'.heap[k]? = w.heap[k]?) : UtfT w' := by
  have key : ∀ {a : Addr} {v : Value}, w.cell? a = some v → w'.cell? a = some v := by
    intro a v hc
    refine (World.cell?_of_block (hw' a.block ?_)).trans hc
    by_cases hb : a.block < w.heap.size
    · exact hb
    · unfold World.cell? at hc
      rw [Array.getElem?_eq_none (by omega)] at hc
      cases hc
  exact ⟨fun c hc => key (h.1 c hc), fun i hi => ⟨key (h.2 i hi).1, key (h.2 i hi).2⟩⟩
def IsRow (k : IntKind) (w : World) (a : Option Addr) (len cap : Nat) (zs : List Int) : Prop :=
  (a = none ∧ len = 0 ∧ cap = 0 ∧ zs = []) ∨
  ∃ x, a = some x ∧ len ≤ cap ∧ cap ≤ maxLen ∧ zs.length = cap ∧ (∀ i, i < zs.length → w.cell? (x.add i) = some (.int k (zs.getD i 0))) ∧ ∀ n ∈ zs, (Lit.int k n).wf = true
theorem walk (a0 : Option Addr) (len0 cap0 : Nat) (z0 : List Int) (w : World) (w0 : IsRow .i64 w a0 len0 cap0 z0) (hM : MaxT w) (hP : PowT w) (hU : UtfT w) :
    Calls Tryz.prog 3 #[.slice a0 len0 cap0] w fun e w' => e = .returned (.bool true) ∧ Below w.heap.size w w' := by
  have hr : RdS R3 (SV.v ⟨a0, len0, cap0⟩) (z0.take len0) w := by
    rcases w0 with ⟨rfl, rfl, rfl, rfl⟩ | ⟨x, rfl, hl, hc, hz, hcell, hwz⟩
    · exact ⟨by simp [maxLen], .inl ⟨rfl, none, 0, rfl, by simp [maxLen]⟩⟩
    · have hlen : (z0.take len0).length = len0 := by rw [List.length_take, hz]; omega
      have hcells : R3.cells (z0.take len0) = (z0.take len0).map (Value.int .i64) := by
        show (z0.take len0).flatMap (fun x => [Value.int .i64 x]) = _
        rw [List.map_eq_flatMap]
      refine ⟨by omega, ?_⟩
      by_cases h0 : len0 = 0
      · subst h0
        exact .inl ⟨by simp, some x, cap0, rfl, hc⟩
      · have hsp : x.spot = none := by
          have h1 := hcell 0 (by omega)
          cases hs : x.spot with
          | none => rfl
          | some n =>
            have h2 : x.add 0 = x := rfl
            rw [h2] at h1
            unfold World.cell? at h1
            rw [hs] at h1
            revert h1
            cases w.heap[x.block]? with
            | none => intro h1; cases h1
            | some bl => cases bl <;> intro h1 <;> simp at h1
        obtain ⟨b, off, sp⟩ := x
        simp only at hsp
        subst hsp
        refine .inr ⟨b, off, cap0, by simp only [SV.v, hlen], by omega, hc, fun j u hu => ?_⟩
        rw [hcells, List.getElem?_map] at hu
        cases hj : (z0.take len0)[j]? with
        | none => rw [hj] at hu; cases hu
        | some y =>
          rw [hj] at hu
          cases hu
          have hjl : j < z0.length := by
            have := (List.getElem?_eq_some_iff.1 hj).1
            rw [List.length_take] at this
            omega
          have h3 := hcell j hjl
          rw [add_at] at h3
          rw [h3]
          have h4 : z0[j]? = some y := by
            rw [List.getElem?_take] at hj
            split at hj
            · exact hj
            · cases hj
          rw [List.getD_eq_getElem?_getD, h4]
          rfl
  have hA : ∀ w' : World, (∀ k, k < w.heap.size → w'.heap[k]? = w.heap[k]?) → RdS R3 (SV.v ⟨a0, len0, cap0⟩) (z0.take len0) w' := by
    intro w' hw'
    refine ⟨hr.1, ?_⟩
    rcases hr.2 with h | ⟨b, off, cap, h1, h2, h3, h4⟩
    · exact .inl h
    · refine .inr ⟨b, off, cap, h1, h2, h3, fun j u hu => ?_⟩
      have h5 := h4 j u hu
      refine (World.cell?_of_block (hw' b ?_)).trans h5
      by_cases hb : b < w.heap.size
      · exact hb
      · unfold World.cell? at h5
        rw [Array.getElem?_eq_none (by simpa using hb)] at h5
        cases h5
  have hsat : Sat w (keys []) (fun b => b < w.heap.size) (([] : List Ent) ++ [RdS R3 (SV.v ⟨a0, len0, cap0⟩) (z0.take len0), MaxT, PowT, UtfT].map Ent.ro) w := by
    refine ⟨Chg.refl _ _, fun b hb => ⟨hb, by simp [keys]⟩, List.nodup_nil, (fun k hk => by cases hk), ?_, ?_⟩
    · intro e he
      simp at he
      rcases he with rfl | rfl | rfl | rfl <;> trivial
    · intro e he
      simp at he
      rcases he with rfl | rfl | rfl | rfl
      · intro w' hw'
        exact hA w' fun k hk => hw'.2 k hk (.inl (.inl hk)) (by simp [keys, Ent.kl])
      · intro w' hw'
        exact maxT_stays hM fun k hk => hw'.2 k hk (.inl (.inl hk)) (by simp [keys, Ent.kl])
      · intro w' hw'
        exact powT_stays hP fun k hk => hw'.2 k hk (.inl (.inl hk)) (by simp [keys, Ent.kl])
      · intro w' hw'
        exact utfT_stays hU fun k hk => hw'.2 k hk (.inl (.inl hk)) (by simp [keys, Ent.kl])
  refine (ok_gleekeep2_TonesAreRead ⟨a0, len0, cap0⟩ (z0.take len0) (TonesAreRead_true _) w _ hsat).mono fun e w' ⟨_, he, hs⟩ => ?_
  exact ⟨he, hs.chg.below⟩
set_option maxRecDepth 100000 in
theorem lifted (os : Os) (started : os.Started) (H : Type) (enc : TypeId × Value → H) :
    ReturnsInHanded {} Tryz.checked os 3 .any (fun w args => (Rows.tonesAreReadSpec.pre enc Tryz.prog Tryz.f3 [] false w args ∧ laidMetH Tryz.prog Rows.tonesAreReadRow.laid w) ∧ sizedMet enc Tryz.prog Tryz.f3 (OpenSpec.ofChange Rows.tonesAreReadSpec) false w args)
      (Rows.tonesAreReadSpec.post enc Tryz.prog Tryz.f3 false true false false) := by
  refine wrapS (C := Tryz.checked) (X := fun w _ => laidMetH Tryz.prog Rows.tonesAreReadRow.laid w) (fun _ _ _ hh h => h.of_heap hh) own started (by kernel_rfl) Tryz.func3
    (ChangeSpec.witness_shaped (enc := enc) (C := Tryz.checked) (os := os) (X := fun w _ => laidMetH Tryz.prog Rows.tonesAreReadRow.laid w) false (World.laidAll Tryz.prog os Rows.tonesAreReadRow.laid) #[.slice none 0 0] 8 (World.laidAll_os _ _ _)
      (World.shaped_of_ZipB (by kernel_rfl) (by kernel_rfl)) (by kernel_rfl) (by kernel_rfl) (by kernel_rfl)
      (by rw [MakeChecks.laidMetH_plain _ _ _ (by kernel_rfl)]; exact laidMet_laidAll _ (by kernel_rfl) (by kernel_rfl))) ?_
  intro W base args ds gs before hval0 hW _ _ hL hsh _
  have hval : ∀ (j : Nat) t v, Tryz.f3.params[j]? = some t → args[j]? = some v → Value.okWide Tryz.prog W .any base t v := hval0
  have hW' := hW
  obtain ⟨p, q, hA0, hV, rfl, hfz, hnd⟩ := hW
  have hA : DataW.TrodAll enc Tryz.prog W 0 (fun _ => true) true Tryz.f3.params.toList args.toList ds p := hA0
  rw [Tryz.params3] at hA hval
  obtain ⟨v0, vs0, d0, ds0, p0, q0, hargs, rfl, rfl, h0, r0⟩ := trodAll_cons hA
  obtain ⟨rfl, rfl, rfl⟩ := trodAll_nil r0
  obtain rfl : args = #[v0] := by cases args; simp_all
  obtain ⟨rfl, rfl⟩ := trodVars_none hV
  obtain ⟨a0, len0, cap0, rfl⟩ := okWide_slice Tryz.underlying22 (hval 0 22 v0 rfl rfl)
  have k0 := h0
  have lt0 : ∀ x ∈ p0, x.block < W.heap.size := by obtain ⟨m, hm⟩ := k0; exact DataW.trod_lt m _ _ _ hm
  obtain ⟨z0, w0⟩ : ∃ zs, IsRow .i64 W a0 len0 cap0 zs := by
    obtain ⟨fuel, hf⟩ := h0
    rcases open_ints Tryz.underlying22 Tryz.underlying3 (by kernel_rfl) hf with ⟨hcs, _⟩ | ⟨x, l, c, zs, hcs, _, hl, hm, hz, _, hcell, hwz⟩
    · simp [Value.cells] at hcs
      obtain ⟨rfl, rfl, rfl⟩ := hcs
      exact ⟨[], .inl ⟨rfl, rfl, rfl, rfl⟩⟩
    · simp [Value.cells] at hcs
      obtain ⟨rfl, rfl, rfl⟩ := hcs
      exact ⟨zs, .inr ⟨_, rfl, hl, hm, by simpa using hz, hcell, hwz⟩⟩
  clear hA0 hval0
  refine (walk a0 len0 cap0 z0 W w0 (maxT_of hsh) (powT_of hL) (utfT_of hL)).mono fun e W' ⟨he, bel⟩ => ?_
  subst he
  exact ⟨_, rfl, _, _, _, [], _, [], hW', trodAll_mk1 (shut_bool Tryz.underlying4 _), (trodAll_cons_mk (Below.trod laidOut (by kernel_rfl) (of_decide_eq_true (by kernel_rfl)) k0 bel lt0) trodAll_mk0), rfl, bel.frame _, fun h => by cases h⟩
theorem over : Rows.tonesAreReadRow.holds Tryz.pinned (OpenSpec.ofChange Rows.tonesAreReadSpec) :=
  OpenClaim.holds_of_wide 3 Tryz.f3 rfl rfl rfl rfl rfl rfl rfl ⟨rfl, rfl, rfl, rfl, rfl⟩ rfl rfl rfl rfl rfl (by kernel_rfl) Tryz.func3 (by kernel_rfl)
    (of_decide_eq_true (by kernel_rfl)) (by unfold Func.isWrapper; first | (rw [if_pos (by decide +kernel)]; kernel_rfl) | (rw [if_neg (by decide +kernel)]; exact ⟨rfl, rfl⟩))
    (fun os started H enc _ => lifted os started H enc)
theorem proved : Rows.TonesAreReadCardSaid :=
  Claim7.holds_tied_plain_at .later [] [.data, .data, .data, .data, .sentinel, .sentinel, .pinned] true (true, "9fc410b016c9667e13d0a9413ed0e67060a3ceed36c2979280b280d0474d8231") true over (fun _ h => by cases h) (by kernel_rfl) (fun _ h => by cases h) tonesAreRead_row_tie rfl ⟨rfl, rfl⟩ (by kernel_rfl) rfl
    (fun f fn hf hfn => by
      obtain rfl : f = 3 := Option.some.inj ((show Tryz.prog.funcNamed Rows.tonesAreReadRow.func = some 3 by kernel_rfl).symm.trans hf) |>.symm
      obtain rfl : fn = Tryz.f3 := (Option.some.inj (Tryz.func3.symm.trans hfn)).symm
      exact ⟨by kernel_rfl, fun j t ht => by
        rw [Tryz.params3] at ht
        have hm : t ∈ [22] := by simpa using Array.mem_of_getElem? ht
        have hall : ([22].all fun u => !Tryz.prog.wantsStandIn u) = true := by kernel_rfl
        exact (show Tryz.prog.wantsStandIn t = false by simpa using List.all_eq_true.1 hall t hm)⟩)
    (by kernel_rfl)
#print axioms proved
end Go.Proofs.YtlhfimbpjdfdgacGreatDoor.tonesAreRead
