/- Plain laws of the models; no condition beyond what each theorem says. -/
import Derived.Test.YtlhfimbpjdfdgadGreatDoorLS1
import Derived.Lib.Atoi
import Derived.Lib.ItoaMem
import Derived.Test.YtlhfimbpjdfdgadGreatDoorL0
import Derived.Lib.SplitLaws
import Derived.Lib.Join
import Derived.Test.YtlhfimbpjdfdgadGreatDoorLBs
import Derived.Lib.ItoaLen
namespace Go.G
open Go Go.J
theorem digitVal_of {b : UInt8} (h : 48 ≤ b.toNat ∧ b.toNat ≤ 57) : Lib.digitVal b = some (b.toNat - 48) := by unfold Lib.digitVal; rw [if_pos h]
theorem decFrom_app : ∀ (l : List UInt8) (acc : Nat) (b : UInt8) (n : Nat), Lib.decFrom acc l = some n → (48 ≤ b.toNat ∧ b.toNat ≤ 57) → Lib.decFrom acc (l ++ [b]) = some (n * 10 + (b.toNat - 48))
 | [], acc, b, n, h, hb => by
  simp only [Lib.decFrom, Option.some.injEq] at h
  subst h
  simp only [List.nil_append, Lib.decFrom, digitVal_of hb]
 | c :: l, acc, b, n, h, hb => by
  simp only [List.cons_append, Lib.decFrom] at h ⊢
  cases hd : Lib.digitVal c with
  | none => rw [hd] at h; cases h
  | some d => rw [hd] at h; exact decFrom_app l _ b n h hb
theorem decFrom_all : ∀ (l : List UInt8) (acc : Nat), (∀ b ∈ l, 48 ≤ b.toNat ∧ b.toNat ≤ 57) → ∃ n, Lib.decFrom acc l = some n
 | [], acc, _ => ⟨acc, rfl⟩
 | c :: l, acc, h => by
  simp only [Lib.decFrom, digitVal_of (h c (List.mem_cons_self ..))]
  exact decFrom_all l _ fun b hb => h b (List.mem_cons_of_mem _ hb)
theorem u8_of {b : UInt8} {d : Nat} (h : b.toNat = 48 + d) : UInt8.ofNat (48 + d) = b := by
 rw [← h]; simp
theorem dec_canon : ∀ (k : Nat) (l : List UInt8), l.length = k + 1 → (∀ b ∈ l, 48 ≤ b.toNat ∧ b.toNat ≤ 57) → (∀ b, l[0]? = some b → b.toNat ≠ 48) → ∃ n, 1 ≤ n ∧ Lib.decFrom 0 l = some n ∧ Lib.decDigits n = l := by
 intro k
 induction k with
 | zero =>
  intro l hl hd h0
  obtain ⟨b, rfl⟩ : ∃ b, l = [b] := by
   match l, hl with
   | [b], _ => exact ⟨b, rfl⟩
  have hb := hd b (by simp)
  have hb0 := h0 b (by simp)
  refine ⟨b.toNat - 48, by omega, by simp only [Lib.decFrom, digitVal_of hb]; congr 1; omega, ?_⟩
  rw [Lib.decDigits_one (by omega), u8_of (b := b) (by omega)]
 | succ k ih =>
  intro l hl hd h0
  have hne : l ≠ [] := fun h => by rw [h] at hl; simp at hl
  have hdl := List.dropLast_concat_getLast hne
  have hlen : l.dropLast.length = k + 1 := by rw [List.length_dropLast]; omega
  obtain ⟨n, h1, h2, h3⟩ := ih l.dropLast hlen (fun b hb => hd b (List.dropLast_subset _ hb)) (fun b hb => h0 b (by
   rw [← hdl, List.getElem?_append_left (by omega)]; exact hb))
  have hb := hd (l.getLast hne) (List.getLast_mem hne)
  have h4 := decFrom_app _ _ (l.getLast hne) n h2 hb
  rw [hdl] at h4
  refine ⟨_, by omega, h4, ?_⟩
  rw [Lib.decDigits, dif_neg (by omega)]
  have e1 : (n * 10 + ((l.getLast hne).toNat - 48)) / 10 = n := by omega
  have e2 : (n * 10 + ((l.getLast hne).toNat - 48)) % 10 = (l.getLast hne).toNat - 48 := by omega
  rw [e1, e2, h3, u8_of (b := l.getLast hne) (by omega), hdl]
theorem decDigits_ne : ∀ n, Lib.decDigits n ≠ [] := by
 intro n
 rw [Lib.decDigits]
 split <;> simp
theorem decDigits_head : ∀ n, 1 ≤ n → ∃ b, (Lib.decDigits n)[0]? = some b ∧ b.toNat ≠ 48 := by
 intro n
 induction n using Nat.strongRecOn with
 | _ n ih =>
  intro h1
  rw [Lib.decDigits]
  by_cases h : n < 10
  ·rw [dif_pos h]
   refine ⟨_, rfl, ?_⟩
   simp only [UInt8.toNat_ofNat']
   omega
  ·rw [dif_neg h]
   obtain ⟨b, h2, h3⟩ := ih (n / 10) (by omega) (by omega)
   refine ⟨b, ?_, h3⟩
   rw [List.getElem?_append_left (List.length_pos_iff.2 (decDigits_ne _))]
   exact h2
theorem dec_tie (l : List UInt8) (hne : l ≠ []) (hd : ∀ b ∈ l, 48 ≤ b.toNat ∧ b.toNat ≤ 57) :
  ∃ n b0, Lib.decFrom 0 l = some n ∧ l[0]? = some b0 ∧ (Lib.decDigits n = l ↔ (l.length = 1 ∨ b0.toNat ≠ 48)) ∧ (b0.toNat ≠ 48 → 1 ≤ n) ∧ (n = 0 → b0.toNat = 48) ∧ (l.length = 1 → b0.toNat = 48 → n = 0) := by
 have hpos := List.length_pos_iff.2 hne
 obtain ⟨k, hk⟩ : ∃ k, l.length = k + 1 := ⟨l.length - 1, by omega⟩
 have hb0 : l[0]? = some l[0] := List.getElem?_eq_getElem hpos
 by_cases h0 : l[0].toNat = 48
 ·obtain ⟨n, hn⟩ := decFrom_all l 0 hd
  refine ⟨n, l[0], hn, hb0, ⟨fun he => ?_, fun he => ?_⟩, fun h => absurd h0 h, fun _ => h0, fun h1 _ => ?_⟩
  ·by_cases h1 : l.length = 1
   ·exact .inl h1
   ·exfalso
    by_cases hz : n = 0
    ·subst hz
     rw [Lib.decDigits_one (by omega)] at he
     rw [← he] at h1
     simp at h1
    ·obtain ⟨b, h2, h3⟩ := decDigits_head n (by omega)
     rw [he, hb0] at h2
     cases h2
     exact h3 h0
  ·rcases he with h1 | h1
   ·obtain ⟨b, rfl⟩ : ∃ b, l = [b] := by
     match l, h1 with
     | [b], _ => exact ⟨b, rfl⟩
    have hb := hd b (by simp)
    simp only [Lib.decFrom, digitVal_of hb, Option.some.injEq] at hn
    subst hn
    rw [Lib.decDigits_one (by omega), u8_of (b := b) (by omega)]
   ·exact absurd h0 h1
  ·obtain ⟨b, rfl⟩ : ∃ b, l = [b] := by
    match l, h1 with
    | [b], _ => exact ⟨b, rfl⟩
   have hb := hd b (by simp)
   simp only [Lib.decFrom, digitVal_of hb, Option.some.injEq] at hn
   simp at h0
   omega
 ·obtain ⟨n, h1, h2, h3⟩ := dec_canon k l hk hd (fun b hb => by rw [hb0] at hb; cases hb; exact h0)
  exact ⟨n, l[0], h2, hb0, ⟨fun _ => .inr h0, fun _ => h3⟩, fun _ => h1, fun h => by omega, fun _ h => absurd h h0⟩
end Go.G
namespace Go.G
open Go Go.J
set_option linter.unusedSimpArgs false
set_option linter.unusedVariables false
abbrev BL := List UInt8
def spl (c : UInt8) : BL → List BL
 | [] => [[]]
 | b :: t => if b = c then [] :: spl c t else match spl c t with
  | [] => [[b]]
  | h :: r => (b :: h) :: r
theorem spl_ne (c : UInt8) : ∀ s, spl c s ≠ []
 | [] => by simp [spl]
 | b :: t => by
  unfold spl
  split
  ·simp
  ·split <;> simp
theorem index_cons1 (b c : UInt8) (l : BL) : Lib.index (b :: l) [c] = if b = c then 0 else if Lib.index l [c] == -1 then -1 else Lib.index l [c] + 1 := by
 rw [Lib.index]
 by_cases h : b = c
 ·simp [List.isPrefixOf, h]
 ·have : ([c] : BL).isPrefixOf (b :: l) = false := by simp [List.isPrefixOf, Ne.symm h]
  rw [this, if_neg h]; simp
theorem splitK_spl (c : UInt8) : ∀ s : BL, Lib.splitK [c] 0 (Lib.count s [c]) s = spl c s
 | [] => by rw [Lib.count_one]; rfl
 | b :: l => by
  have ih := splitK_spl c l
  have hix := index_cons1 b c l
  by_cases h : b = c
  ·rw [if_pos h] at hix
   rw [h, Lib.count_cons_eq, Nat.add_comm, Lib.splitK]
   rw [h] at hix
   rw [hix, spl, if_pos rfl, ← ih]
   simp
  ·rw [if_neg h] at hix
   rw [Lib.count_cons_ne b c l h, spl, if_neg h, ← ih]
   by_cases hm : Lib.index l [c] = -1
   ·rw [Lib.count_miss hm, Lib.splitK, Lib.splitK]
   ·rw [if_neg (by simpa using hm)] at hix
    have hge := Lib.index_ge l [c]
    obtain ⟨j, hj⟩ : ∃ j : Nat, Lib.index l [c] = j := ⟨(Lib.index l [c]).toNat, by omega⟩
    rw [Lib.count_hit (by simp) hj, Nat.add_comm 1, Lib.splitK, Lib.splitK, if_neg (by rw [hix]; simp; omega), if_neg (by simpa using hm), hix, hj]
    simp only
    rw [show ((j : Int) + 1).toNat = j + 1 by omega, Int.toNat_natCast]
    simp
theorem splitB_spl (c : UInt8) (s : ByteArray) : (Lib.splitB ⟨#[c]⟩ 0 (Lib.countB s ⟨#[c]⟩) s).map (·.data.toList) = spl c s.data.toList := by
 rw [Lib.splitB_data]
 exact splitK_spl c s.data.toList
def toB (l : BL) : ByteArray := ⟨l.toArray⟩
theorem toB_data (s : ByteArray) : toB s.data.toList = s := by cases s; rfl
theorem data_toB (l : BL) : (toB l).data.toList = l := rfl
theorem toB_size (l : BL) : (toB l).size = l.length := by simp [toB, ByteArray.size]
theorem map_toB_data (L : List ByteArray) : (L.map (·.data.toList)).map toB = L := by
 rw [List.map_map]
 exact (List.map_congr_left fun x _ => toB_data x).trans (List.map_id L)
theorem splitB_spl' (c : UInt8) (s : ByteArray) : Lib.splitB ⟨#[c]⟩ 0 (Lib.countB s ⟨#[c]⟩) s = (spl c s.data.toList).map toB := by
 rw [← splitB_spl, map_toB_data]
def jn (c : UInt8) : List BL → BL
 | [] => []
 | [x] => x
 | x :: y :: r => x ++ c :: jn c (y :: r)
theorem jn_join (c : UInt8) : ∀ L : List BL, Lib.join L [c] = jn c L
 | [] => rfl
 | [x] => by rw [Lib.join_one]; rfl
 | x :: y :: r => by
  have ih := jn_join c (y :: r)
  rw [jn, ← ih]
  simp [Lib.join, List.intercalate]
theorem spl_app (c : UInt8) : ∀ (a b : BL), c ∉ a → spl c (a ++ c :: b) = a :: spl c b
 | [], b, _ => by simp [spl]
 | x :: a, b, h => by
  have hx : x ≠ c := fun e => h (by rw [e]; exact List.mem_cons_self ..)
  rw [List.cons_append, spl, if_neg hx, spl_app c a b fun hm => h (List.mem_cons_of_mem _ hm)]
theorem spl_none (c : UInt8) : ∀ (a : BL), c ∉ a → spl c a = [a]
 | [], _ => rfl
 | x :: a, h => by
  have hx : x ≠ c := fun e => h (by rw [e]; exact List.mem_cons_self ..)
  rw [spl, if_neg hx, spl_none c a fun hm => h (List.mem_cons_of_mem _ hm)]
theorem spl_jn (c : UInt8) : ∀ (L : List BL), L ≠ [] → (∀ x ∈ L, c ∉ x) → spl c (jn c L) = L
 | [], h, _ => (h rfl).elim
 | [x], _, h => spl_none c x (h x (List.mem_cons_self ..))
 | x :: y :: r, _, h => by
  rw [jn, spl_app c x _ (h x (List.mem_cons_self ..)), spl_jn c (y :: r) (by simp) fun z hz => h z (List.mem_cons_of_mem _ hz)]
theorem spl_len (c : UInt8) : ∀ s : BL, (spl c s).length ≤ s.length + 1
 | [] => by simp [spl]
 | b :: t => by
  have ih := spl_len c t
  unfold spl
  split
  ·simp; omega
  ·split
   ·simp
   ·rename_i hd r h
    rw [h] at ih
    simp at ih ⊢; omega
theorem spl_end (c : UInt8) (a : BL) : spl c (a ++ [c]) = spl c a ++ [[]] := by
 induction a with
 | nil => simp [spl]
 | cons b t ih =>
  rw [List.cons_append, spl, ih, spl]
  split
  ·simp
  ·cases h : spl c t with
   | nil => exact (spl_ne c t h).elim
   | cons hd r => simp
end Go.G
namespace Go.G
open Go Go.J
def dashB : ByteArray := ByteArray.mk [45].toArray
def digB : ByteArray := ByteArray.mk [48, 49, 50, 51, 52, 53, 54, 55, 56, 57].toArray
theorem dig_mem (b : UInt8) (h : decide (b ∈ digB.data.toList) = true) : 48 ≤ b.toNat ∧ b.toNat ≤ 57 := by
 have h := of_decide_eq_true h
 simp only [digB, List.mem_cons, List.not_mem_nil, or_false] at h
 rcases h with rfl | rfl | rfl | rfl | rfl | rfl | rfl | rfl | rfl | rfl <;> decide
theorem HP_spec (s : ByteArray) : m_stringslite_HasPrefix s dashB = some (decide (s.data.toList[0]? = some 45)) := by
 unfold m_stringslite_HasPrefix
 have hd : (dashB.size : Int) = 1 := rfl
 rw [hd]
 cases hl : s.data.toList with
 | nil =>
  have : s.size = 0 := by rw [size_data, hl]; rfl
  rw [this]; rfl
 | cons b t =>
  have hsz : s.size = t.length + 1 := by rw [size_data, hl]; rfl
  rw [decide_eq_true (by omega), ifB_true]
  unfold strS
  rw [if_pos (by omega), Option.bind_some]
  congr 1
  have e1 : (s.extract (0 : Int).toNat (1 : Int).toNat).toList = [b] := by
   rw [ByteArray.toList_eq]
   simp [ByteArray.data_extract, hl]
  have e2 : dashB.toList = [45] := by rw [ByteArray.toList_eq]; rfl
  rw [e1, e2]
  by_cases hb : b = 45
  ·subst hb; rfl
  ·rw [decide_eq_false (by simpa using hb)]
   simpa using hb
theorem cut1_spec (s : ByteArray) (b : UInt8) (t : List UInt8) (hl : s.data.toList = b :: t) : ∃ d, strS s 1 (s.size : Int) = some d ∧ d.data.toList = t := by
 have hsz : s.size = t.length + 1 := by rw [size_data, hl]; rfl
 unfold strS
 rw [if_pos (by omega)]
 refine ⟨_, rfl, ?_⟩
 simp [ByteArray.data_extract, hl, hsz]
theorem prefix_spec (s : ByteArray) : ∃ d neg, m_strings_CutPrefix s dashB = some (d, neg) ∧ m_strings_TrimPrefix s dashB = some d ∧ s.data.toList = (if neg = true then 45 :: d.data.toList else d.data.toList) ∧ (neg = false → d = s ∧ s.data.toList[0]? ≠ some 45) := by
 unfold m_strings_CutPrefix m_strings_TrimPrefix m_stringslite_CutPrefix m_stringslite_TrimPrefix
 rw [HP_spec]
 by_cases h : s.data.toList[0]? = some 45
 ·cases hl : s.data.toList with
  | nil => rw [hl] at h; cases h
  | cons b t =>
   rw [hl] at h
   have hb : b = 45 := by simpa using h
   subst hb
   obtain ⟨d, h1, h2⟩ := cut1_spec s _ t hl
   have hd : (dashB.size : Int) = 1 := rfl
   rw [decide_eq_true (by simp), hd, h1]
   exact ⟨d, true, rfl, rfl, by rw [h2]; rfl, by simp⟩
 ·rw [decide_eq_false h]
  exact ⟨s, false, rfl, rfl, by simp, fun _ => ⟨rfl, h⟩⟩
theorem Number_tie (s : ByteArray) (hs : s.size ≤ 1000000) : ∃ n ok n', m_kit_Number s 15 = some (n, ok) ∧ m_gleeref2_Number s 15 = some (n', ok) ∧ (ok = true → n' = n) ∧ (ok = false → n = 0) := by
 obtain ⟨d, neg, hC, hT, hsd, hng⟩ := prefix_spec s
 have hds : d.size ≤ s.size := by
  rw [size_data, size_data, hsd]
  split
  ·simp
  ·exact Nat.le_refl _
 unfold m_kit_Number m_gleeref2_Number
 have hC' : m_strings_CutPrefix s (ByteArray.mk [45].toArray) = some (d, neg) := hC
 have hT' : m_strings_TrimPrefix s (ByteArray.mk [45].toArray) = some d := hT
 rw [hC', hT', Option.bind_some, Option.bind_some]
 simp only
 rw [ba_empty]
 by_cases h0 : d.size = 0
 ·rw [decide_eq_true h0]; exact ⟨0, false, 0, rfl, rfl, by simp, fun _ => rfl⟩
 rw [decide_eq_false h0, ifB_false, ifB_false]
 by_cases h1 : (d.size : Int) > 15
 ·rw [decide_eq_true h1]; exact ⟨0, false, 0, rfl, rfl, by simp, fun _ => rfl⟩
 rw [decide_eq_false h1, ifB_false, ifB_false]
 have hTr : m_strings_Trim d (ByteArray.mk [48, 49, 50, 51, 52, 53, 54, 55, 56, 57].toArray) = some ⟨(Lib.trimS d.data.toList digB.data.toList).toArray⟩ := by
  unfold m_strings_Trim
  rw [if_pos ⟨by omega, by decide, by decide⟩]
  rfl
 have hOn : m_gleeref2_only d (ByteArray.mk [48, 49, 50, 51, 52, 53, 54, 55, 56, 57].toArray) = some (d.data.toList.all fun b => decide (b ∈ digB.data.toList)) := only_spec d digB (by omega)
 have hz : (⟨(Lib.trimS d.data.toList digB.data.toList).toArray⟩ : ByteArray).size = 0 ↔ (d.data.toList.all fun b => decide (b ∈ digB.data.toList)) = true := by
  rw [← trimS_nil, size_data, List.length_eq_zero_iff]
 rw [hTr, hOn, Option.bind_some, Option.bind_some, ba_empty]
 by_cases hA : (d.data.toList.all fun b => decide (b ∈ digB.data.toList)) = true
 ·rw [decide_eq_true (hz.2 hA), hA, Bool.not_true, ifB_false, Option.bind_some, fin_inl, ifB_false]
  have hdig : ∀ b ∈ d.data.toList, 48 ≤ b.toNat ∧ b.toNat ≤ 57 := fun b hb => dig_mem b (List.all_eq_true.1 hA b hb)
  have hlen : d.data.toList.length = d.size := (size_data d).symm
  have hne : d.data.toList ≠ [] := fun h => by rw [h] at hlen; simp at hlen; exact h0 hlen.symm
  obtain ⟨n, b0, hn, hb0, hiff, hp1, hp2, hp3⟩ := dec_tie d.data.toList hne hdig
  have hlt := Lib.decFrom_lt18 hn (by omega)
  have hN : Lib.decNat d.data.toList = some n := by
   unfold Lib.decNat
   rw [if_neg (by simpa using hne)]
   exact hn
  have e0 : strI d 0 = some (b0.toNat : Int) := by
   have := strI_nat d 0
   rw [hb0] at this
   simpa using this
  have hbr := hdig b0 (List.mem_of_getElem? hb0)
  have hAd : m_strconv_Atoi d = some ((n : Int), ()) := by
   unfold m_strconv_Atoi
   rw [if_pos (by omega)]
   have : Lib.atoi d.data.toList = some (n : Int) := by
    cases hl : d.data.toList with
    | nil => exact absurd hl hne
    | cons b t =>
     rw [hl] at hb0 hN
     have : b = b0 := by simpa using hb0
     subst this
     unfold Lib.atoi
     have n1 : (b == 45) = false := by
      rw [beq_eq_false_iff_ne]
      intro h; subst h
      exact absurd hbr (by decide)
     have n2 : (b == 43) = false := by
      rw [beq_eq_false_iff_ne]
      intro h; subst h
      exact absurd hbr (by decide)
     show (if (b == 45) = true then Option.map (fun m : Nat => -(m : Int)) (Lib.decNat t) else if (b == 43) = true then Option.map (fun m : Nat => (m : Int)) (Lib.decNat t) else Option.map (fun m : Nat => (m : Int)) (Lib.decNat (b :: t))) = some (n : Int)
     rw [n1, n2, if_neg (by simp), if_neg (by simp), hN]
     rfl
   rw [this]; rfl
  rw [e0, Option.bind_some, hAd]
  have ebb : ∀ (x : List UInt8), (⟨x.toArray⟩ : ByteArray).toList = x := fun x => by rw [ByteArray.toList_eq]
  cases neg with
  | false =>
   obtain ⟨hds2, -⟩ := hng rfl
   subst hds2
   have hIt : m_strconv_Itoa (n : Int) = some ⟨(Lib.decDigits n).toArray⟩ := by
    unfold m_strconv_Itoa
    rw [if_pos (by omega), Lib.itoa_nonneg]
   rw [hAd]
   simp only [Option.bind_some]
   rw [hIt]
   simp only [Option.bind_some]
   rw [ebb, ByteArray.toList_eq]
   by_cases hc : d.data.toList.length = 1 ∨ b0.toNat ≠ 48
   ·refine ⟨n, true, n, ?_, by rw [hiff.2 hc]; simp, fun _ => rfl, by simp⟩
    by_cases h48 : b0.toNat = 48
    ·have h1l : d.data.toList.length = 1 := by
      rcases hc with h | h
      ·exact h
      ·exact absurd h48 h
     rw [show ((b0.toNat : Int) == 48) = true by simp [h48], ifB_true, decide_eq_false (by omega), ifB_false]
     rfl
    ·rw [show ((b0.toNat : Int) == 48) = false by simpa using (by omega : ¬ (b0.toNat : Int) = 48), ifB_false]
     rfl
   ·have hc2 : d.data.toList.length ≠ 1 ∧ b0.toNat = 48 := by
     refine ⟨fun h => hc (.inl h), ?_⟩
     apply Classical.byContradiction
     intro h
     exact hc (.inr h)
    refine ⟨0, false, n, ?_, ?_, by simp, fun _ => rfl⟩
    ·rw [show ((b0.toNat : Int) == 48) = true by simp [hc2.2], ifB_true, decide_eq_true (by omega), ifB_true]
     rfl
    ·have : (Lib.decDigits n == d.data.toList) = false := by
      rw [beq_eq_false_iff_ne]
      exact fun h => hc (hiff.1 h)
     rw [this]
  | true =>
   have hsl : s.data.toList = 45 :: d.data.toList := hsd
   have hss : s.size = d.size + 1 := by rw [size_data, hsl, size_data]; rfl
   have hAs : m_strconv_Atoi s = some (-(n : Int), ()) := by
    unfold m_strconv_Atoi
    rw [if_pos (by omega), hsl]
    show (Option.map (fun n => (n, ())) (Option.map (fun m : Nat => -(m : Int)) (Lib.decNat d.data.toList))) = some (-(n : Int), ())
    rw [hN]
    rfl
   have hIt : m_strconv_Itoa (-(n : Int)) = some ⟨(Lib.itoa (-(n : Int))).toArray⟩ := by
    unfold m_strconv_Itoa
    rw [if_pos (by omega)]
   rw [hAs]
   simp only [Option.bind_some]
   rw [hIt]
   simp only [Option.bind_some]
   rw [ebb, ByteArray.toList_eq, hsl]
   by_cases h48 : b0.toNat = 48
   ·refine ⟨0, false, -(n : Int), ?_, ?_, by simp, fun _ => rfl⟩
    ·rw [show ((b0.toNat : Int) == 48) = true by simp [h48], ifB_true]
     by_cases hg : (d.size : Int) > 1
     ·rw [decide_eq_true hg]; rfl
     ·rw [decide_eq_false hg]; rfl
    ·have : (Lib.itoa (-(n : Int)) == 45 :: d.data.toList) = false := by
      rw [beq_eq_false_iff_ne]
      intro h
      by_cases hz0 : n = 0
      ·subst hz0
       have e1 : Lib.itoa (-((0 : Nat) : Int)) = Lib.decDigits 0 := Lib.itoa_nonneg 0
       rw [e1, Lib.decDigits_one (by omega)] at h
       simp at h
      ·rw [Lib.itoa_neg n (by omega)] at h
       have h := List.cons.inj h
       rcases hiff.1 h.2 with h1 | h1
       ·exact hz0 (hp3 h1 h48)
       ·exact h1 h48
     rw [this]
   ·have hn1 := hp1 h48
    refine ⟨-(n : Int), true, -(n : Int), ?_, ?_, fun _ => rfl, by simp⟩
    ·rw [show ((b0.toNat : Int) == 48) = false by simpa using (by omega : ¬ (b0.toNat : Int) = 48), ifB_false, Option.bind_some, fin_inl, ifB_false, ifB_true, w64_id (by omega)]
     simp
    ·rw [Lib.itoa_neg n hn1, hiff.2 (.inr h48)]
     simp
 ·have hA' := Bool.eq_false_iff.2 hA
  rw [decide_eq_false (fun h => hA (hz.1 h)), hA']
  exact ⟨0, false, 0, rfl, rfl, by simp, fun _ => rfl⟩
def numB (s : ByteArray) : Option Int := match m_kit_Number s 15 with | some (n, true) => some n | _ => none
theorem Number_spec (s : ByteArray) (hs : s.size ≤ 1000000) : m_kit_Number s 15 = some ((numB s).getD 0, (numB s).isSome) ∧ ∃ n', m_gleeref2_Number s 15 = some (n', (numB s).isSome) ∧ ∀ n, numB s = some n → n' = n := by
 obtain ⟨n, ok, n', h1, h2, h3, h4⟩ := Number_tie s hs
 have e : numB s = if ok then some n else none := by unfold numB; rw [h1]; cases ok <;> rfl
 rw [h1, h2, e]
 cases ok with
 | true => exact ⟨rfl, n', rfl, fun m hm => by rw [h3 rfl]; simpa using hm⟩
 | false => rw [h4 rfl]; exact ⟨rfl, n', rfl, fun m hm => by simp at hm⟩
end Go.G
namespace Go.G
open Go Go.J
set_option linter.unusedSimpArgs false
set_option linter.unusedVariables false
theorem ba_ext {a b : ByteArray} (h : a.data.toList = b.data.toList) : a = b := by rw [← toB_data a, ← toB_data b, h]
theorem ba_tl (a b : ByteArray) : (a.toList == b.toList) = decide (a.data.toList = b.data.toList) := by
 rw [ByteArray.toList_eq, ByteArray.toList_eq, Bool.eq_iff_iff]; simp
theorem ba_nil (a : ByteArray) : (a.toList == ByteArray.empty.toList) = decide (a.data.toList = []) := ba_tl a ByteArray.empty
theorem app_data (a b : ByteArray) : (a ++ b).data.toList = a.data.toList ++ b.data.toList := by simp
theorem ext_data (s : ByteArray) (a b : Nat) : (s.extract a b).data.toList = (s.data.toList.drop a).take (b - a) := by
 rw [ByteArray.data_extract, Array.toList_extract]
theorem strS_eq {s : ByteArray} {a b : Nat} (h : a ≤ b) (hb : b ≤ s.data.toList.length) : strS s (a : Int) (b : Int) = some (toB ((s.data.toList.drop a).take (b - a))) := by
 unfold strS
 rw [if_pos ⟨by omega, by omega, by rw [size_data]; omega⟩]
 congr 1
 refine ba_ext ?_
 rw [Int.toNat_natCast, Int.toNat_natCast, ext_data]; rfl
theorem strS_from {s : ByteArray} {a b : BL} (h : s.data.toList = a ++ b) : strS s (a.length : Int) (s.size : Int) = some (toB b) := by
 have hl : s.size = s.data.toList.length := size_data s
 rw [hl, strS_eq (by rw [h]; simp) (Nat.le_refl _), h]
 congr 2
 simp
theorem strS_to {s : ByteArray} {a b : BL} (h : s.data.toList = a ++ b) : strS s 0 (a.length : Int) = some (toB a) := by
 have := strS_eq (s := s) (a := 0) (b := a.length) (Nat.zero_le _) (by rw [h]; simp)
 rw [show ((0 : Nat) : Int) = 0 from rfl] at this
 rw [this, h]
 congr 2
 simp
theorem catM_of {a b : ByteArray} (h : a.size + b.size ≤ 9223372036854775807) : catM a b = some (a ++ b) := by unfold catM; rw [if_pos h]
abbrev oneB (c : UInt8) : ByteArray := ByteArray.mk [c].toArray
theorem Split_spec (c : UInt8) (s : ByteArray) (h : s.size < 4294967281) : m_strings_Split s (oneB c) = some ((spl c s.data.toList).map toB) := by
 unfold m_strings_Split
 rw [if_pos ⟨h, by show 1 ≤ (ByteArray.mk [c].toArray).size; exact Nat.le_refl _⟩]
 exact congrArg some (splitB_spl' c s)
theorem join_data (c : UInt8) (L : List ByteArray) : Lib.join (L.map (·.data.toList)) (oneB c).data.toList = jn c (L.map (·.data.toList)) := jn_join c _
theorem Join_spec (c : UInt8) (L : List ByteArray) (h : L.length ≤ 1000000) (hl : (jn c (L.map (·.data.toList))).length ≤ 1000000000) : m_strings_Join L (oneB c) = some (toB (jn c (L.map (·.data.toList)))) := by
 unfold m_strings_Join
 rw [join_data, if_pos ⟨by omega, by omega⟩]; rfl
theorem HasSuffix_spec (c : UInt8) (s : ByteArray) (hs : s.size ≤ 4000000000) : m_stringslite_HasSuffix s (oneB c) = some (decide (s.data.toList.getLast? = some c)) := by
  unfold m_stringslite_HasSuffix
  rw [show (((oneB c).size : Nat) : Int) = 1 from rfl]
  by_cases h0 : s.data.toList = []
  · have : s.size = 0 := by rw [size_data, h0]; rfl
    rw [this, h0]; rfl
  · have hdl := List.dropLast_concat_getLast h0
    have hl : s.size = s.data.toList.dropLast.length + 1 := by rw [size_data]; conv => lhs; rw [← hdl]
                                                               simp
    have h1 := strS_from (s := s) (a := s.data.toList.dropLast) (b := [s.data.toList.getLast h0]) hdl.symm
    rw [decide_eq_true (by omega), ifB_true, w64_id (by omega), show (s.size : Int) - 1 = (s.data.toList.dropLast.length : Int) by omega, h1, Option.bind_some, List.getLast?_eq_some_getLast h0, ba_tl]
    congr 1
    rw [data_toB, Bool.eq_iff_iff]
    simp
theorem CutSuffix_hit {c : UInt8} {s : ByteArray} {a : BL} (h : s.data.toList = a ++ [c]) (hs : s.size ≤ 4000000000) : m_strings_CutSuffix s (oneB c) = some (toB a, true) := by
 unfold m_strings_CutSuffix m_stringslite_CutSuffix
 have hl : s.size = a.length + 1 := by rw [size_data, h]; simp
 rw [HasSuffix_spec c s hs, h, decide_eq_true (by simp), Option.bind_some, Bool.not_true, ifB_false, show (((oneB c).size : Nat) : Int) = 1 from rfl, w64_id (by omega), show (s.size : Int) - 1 = (a.length : Int) by omega, strS_to h]; rfl
theorem CutSuffix_miss {c : UInt8} {s : ByteArray} (h : s.data.toList.getLast? ≠ some c) (hs : s.size ≤ 4000000000) : m_strings_CutSuffix s (oneB c) = some (s, false) := by
 unfold m_strings_CutSuffix m_stringslite_CutSuffix
 rw [HasSuffix_spec c s hs, decide_eq_false h]; rfl
def hasB (s : ByteArray) (a : List ByteArray) : Bool := a.any fun x => decide (x = s)
theorem kitWords_loop : ∀ (L : List BL) (i : Nat), rangeM m_kit_Words_l1 i (L.map toB) () = some (if [] ∈ L then .ret ([], false) else .brk ()) := by
 intro L
 induction L with
 | nil => intro i; rfl
 | cons x t ih =>
  intro i
  rw [List.map_cons, rangeM_cons]
  unfold m_kit_Words_l1
  rw [ba_nil, data_toB]
  by_cases h : x = []
  ·rw [decide_eq_true h, if_pos (by rw [h]; exact List.mem_cons_self ..)]; rfl
  ·rw [decide_eq_false h, ifB_false, Option.bind_some, run_nxt]
   have := ih (i + 1)
   unfold m_kit_Words_l1 at this
   rw [this]
   congr 1
   have : ([] ∈ x :: t) ↔ [] ∈ t := by simp [Ne.symm h]
   simp only [this]
theorem kitWords_spec (s : ByteArray) (hs : s.size < 4294967281) : m_kit_Words s = some (if [] ∈ spl 32 s.data.toList then ([], false) else ((spl 32 s.data.toList).map toB, true)) := by
 unfold m_kit_Words
 rw [show (ByteArray.mk [32].toArray) = oneB 32 from rfl, Split_spec 32 s hs, Option.bind_some, kitWords_loop]
 split <;> rfl
theorem spl_last_ne (c : UInt8) (s : BL) (h0 : s ≠ []) (h : s.getLast? ≠ some c) : ∃ P l, spl c s = P ++ [l] ∧ l ≠ [] := by
 induction s with
 | nil => exact (h0 rfl).elim
 | cons b t ih =>
  cases t with
  | nil =>
   have hb : b ≠ c := fun e => h (by rw [e]; rfl)
   exact ⟨[], [b], by simp [spl, hb], by simp⟩
  | cons d u =>
   obtain ⟨P, l, h1, h2⟩ := ih (by simp) (by simpa using h)
   rw [spl, h1]
   by_cases hb : b = c
   ·rw [if_pos hb]; exact ⟨[] :: P, l, rfl, h2⟩
   ·rw [if_neg hb]
    cases P with
    | nil => exact ⟨[], b :: l, rfl, by simp⟩
    | cons q Q => exact ⟨(b :: q) :: Q, l, rfl, h2⟩
def linesOf (s : BL) : List BL := (spl 10 s).dropLast
def leftOf (s : BL) : BL := (spl 10 s).getLast (spl_ne 10 s)
theorem lines_split (s : BL) : spl 10 s = linesOf s ++ [leftOf s] := (List.dropLast_concat_getLast (spl_ne 10 s)).symm
theorem kitLines_spec (t : ByteArray) (ht : t.size ≤ 4000000000) : m_kit_Lines t = some (if t.data.toList = [] then ([], true) else if leftOf t.data.toList = [] then ((linesOf t.data.toList).map toB, true) else ((linesOf t.data.toList ++ [leftOf t.data.toList]).map toB, false)) := by
 unfold m_kit_Lines
 rw [ba_nil]
 by_cases h0 : t.data.toList = []
 ·rw [decide_eq_true h0, if_pos h0]; rfl
 ·rw [decide_eq_false h0, ifB_false, if_neg h0, show (ByteArray.mk [10].toArray) = oneB 10 from rfl]
  by_cases hl : t.data.toList.getLast? = some 10
  ·obtain ⟨a, ha⟩ : ∃ a, t.data.toList = a ++ [10] := by
    refine ⟨t.data.toList.dropLast, ?_⟩
    have := List.dropLast_concat_getLast h0
    rw [List.getLast?_eq_some_getLast h0] at hl
    rw [← this]
    simp [Option.some.inj hl]
   have hsz : (toB a).size ≤ t.size := by rw [toB_size, size_data, ha]; simp
   have hs : spl 10 t.data.toList = spl 10 a ++ [[]] := by rw [ha]; exact spl_end 10 a
   have e1 : linesOf t.data.toList = spl 10 a := by unfold linesOf; rw [hs]; simp
   have e2 : leftOf t.data.toList = [] := by unfold leftOf; simp only [hs]; simp
   have hsz' : (toB a).size < 4294967281 := by omega
   rw [CutSuffix_hit ha ht, Option.bind_some, Split_spec 10 _ hsz', if_pos e2, e1, data_toB]; rfl
  ·obtain ⟨P, l, h1, h2⟩ := spl_last_ne 10 t.data.toList h0 hl
   have e2 : leftOf t.data.toList ≠ [] := by unfold leftOf; simp only [h1]; simpa using h2
   have ht' : t.size < 4294967281 := by omega
   rw [CutSuffix_miss hl ht, Option.bind_some, Split_spec 10 _ ht', if_neg e2, ← lines_split]; rfl
theorem jn_line (x : BL) (P : List BL) (l : BL) : jn 10 (x :: (P ++ [l])) = x ++ 10 :: jn 10 (P ++ [l]) := by
 cases P <;> rfl
def rdL {σ : Type} (F : Nat → σ → BL → Option σ) : Nat → List BL → σ → Nat ⊕ σ
 | _, [], s => .inr s
 | i, x :: t, s => match F i s x with
  | none => .inl i
  | some s' => rdL F (i + 1) t s'
end Go.G
