/- A part of the proof: contracts of functions and plain facts (HMostRef, HMostRef2, Q1, HPossible, HFirst). No condition. -/
import Derived.Test.YtncaadckehikpaaM23
import Derived.Test.YtncaadckehikpaaM10
import Derived.Test.YtncaadckehikpaaM25
import Derived.Test.YtncaadckehikpaaM3
import Derived.Test.YtncaadckehikpaaM19
namespace Go.Proofs.Ytncaadckehikpaa.Q
open Go.RowKit Go.Proofs.YtncaadckehikpaaW.PrintWords Go.Proofs.YtncaadckehikpaaW.PrintLast Go.Proofs.YtncaadckehikpaaW.PrintMore
set_option linter.unusedVariables false
set_option linter.unusedSimpArgs false
/-- Some women are among others. -/
def SubB (a b : Nat) : Prop := ∀ i, i < 6 → bitN a i = true → bitN b i = true
theorem SubB.trans {a b c : Nat} (h : SubB a b) (k : SubB b c) : SubB a c := fun i hi q => k i hi (h i hi q)
theorem SubB.refl (a : Nat) : SubB a a := fun _ _ h => h
set_option maxRecDepth 100000 in
theorem bit_sub_all : ∀ a : Fin 64, ∀ b : Fin 64, (∀ i : Fin 6, bitN a.val i.val = true → bitN b.val i.val = true) → a.val ≤ b.val ∧ (a.val = b.val ∨ ∃ i : Fin 6, bitN b.val i.val = true ∧ bitN a.val i.val = false) ∧ ∀ i : Fin 6, bitN (b.val - a.val) i.val = (bitN b.val i.val && !bitN a.val i.val) := by decide +kernel
theorem bit_sub {a b : Nat} (ha : a < 64) (hb : b < 64) (h : SubB a b) : a ≤ b ∧ (a = b ∨ ∃ i, i < 6 ∧ bitN b i = true ∧ bitN a i = false) ∧ ∀ i, i < 6 → bitN (b - a) i = (bitN b i && !bitN a i) := by
  obtain ⟨h1, h2, h3⟩ := bit_sub_all ⟨a, ha⟩ ⟨b, hb⟩ (fun i q => h i.val i.isLt q)
  exact ⟨h1, h2.imp id (fun ⟨i, q⟩ => ⟨i.val, i.isLt, q⟩), fun i hi => h3 ⟨i, hi⟩⟩
set_option maxRecDepth 100000 in
theorem clr_bits_all : ∀ b : Fin 64, ∀ i : Fin 6, ∀ j : Fin 6, bitN (clr b.val i.val) j.val = (bitN b.val j.val && !(i.val == j.val)) := by decide +kernel
theorem clr_bits {b i j : Nat} (hb : b < 64) (hi : i < 6) (hj : j < 6) : bitN (clr b i) j = (bitN b j && !(i == j)) := clr_bits_all ⟨b, hb⟩ ⟨i, hi⟩ ⟨j, hj⟩
theorem clr_le (b i : Nat) : clr b i ≤ b := by
  unfold clr
  split
  · exact Nat.sub_le _ _
  · exact Nat.le_refl _
theorem clr_sub {b i : Nat} (hb : b < 64) (hi : i < 6) : SubB (clr b i) b := fun j hj h => by
  rw [clr_bits hb hi hj, Bool.and_eq_true] at h
  exact h.1
theorem sub_clr {a b i : Nat} (hb : b < 64) (hi : i < 6) (h : SubB a b) (ha : bitN a i = false) : SubB a (clr b i) := fun j hj q => by
  rw [clr_bits hb hi hj, Bool.and_eq_true]
  refine ⟨h j hj q, ?_⟩
  by_cases e : i = j
  · subst e; rw [ha] at q; cases q
  · simp [e]
theorem ne_zero_of_bit {m i : Nat} (h : bitN m i = true) : m ≠ 0 := by
  intro e
  subst e
  have := bitN_le h
  have : 0 < 2 ^ i := Nat.two_pow_pos i
  omega
theorem bestTo_ge (f : Nat → Int) (m : Nat) : ∀ n i, i < n → bitN m i = true → f (clr m i) ≤ bestTo f m n
  | 0, i, h, _ => by omega
  | n + 1, i, h, hb => by
    have hm : ∀ a b : Int, a ≤ mx a b ∧ b ≤ mx a b := fun a b => by unfold mx; split <;> omega
    simp only [bestTo]
    by_cases e : i = n
    · subst e
      rw [if_pos hb]
      exact (hm _ _).2
    · have := bestTo_ge f m n i (by omega) hb
      split
      · exact Int.le_trans this (hm _ _).1
      · exact this
/-- One woman fewer has no more groups; if all sum to 0, one group fewer. -/
theorem F_clr (v : List Int) {m i : Nat} (hi : i < 6) (hb : bitN m i = true) : F v (clr m i) + (if sumN v m = 0 then 1 else 0) ≤ F v m := by
  rw [F_step v m (ne_zero_of_bit hb)]
  have := bestTo_ge (F v) m 6 i hi hb
  omega
theorem F_mono (v : List Int) : ∀ (k m a : Nat), m ≤ k → m < 64 → a < 64 → SubB a m → F v a ≤ F v m
  | 0, m, a, hk, hm, ha, h => by
    obtain ⟨h1, _, _⟩ := bit_sub ha hm h
    rw [show a = m by omega]
    exact Int.le_refl _
  | k + 1, m, a, hk, hm, ha, h => by
    obtain ⟨h1, h2, h3⟩ := bit_sub ha hm h
    rcases h2 with rfl | ⟨i, hi, hb, hn⟩
    · exact Int.le_refl _
    · have hlt := clr_lt hb
      have ih := F_mono v k (clr m i) a (by omega) (by omega) ha (sub_clr hm hi h hn)
      have := F_clr v hi hb
      split at this <;> omega
/-- A group that is taken away leaves one fewer at most. -/
theorem F_take (v : List Int) {m g : Nat} (hm : m < 64) (hg : g < 64) (h : SubB g m) (h0 : g ≠ 0) (hs : sumN v m = 0) : 1 + F v (m - g) ≤ F v m := by
  obtain ⟨h1, h2, h3⟩ := bit_sub hg hm h
  obtain ⟨i, hi⟩ := has_bit_all ⟨g, hg⟩ h0
  have hbm := h i.val i.isLt hi
  have hf := F_clr v i.isLt hbm
  rw [if_pos hs] at hf
  have hsub : SubB (m - g) (clr m i.val) := fun j hj q => by
    rw [h3 j hj, Bool.and_eq_true] at q
    rw [clr_bits hm i.isLt hj, Bool.and_eq_true]
    refine ⟨q.1, ?_⟩
    by_cases e : i.val = j
    · rw [← e, show bitN g i.val = true from hi] at q
      simp at q
    · simp [e]
  have := F_mono v (clr m i.val) (clr m i.val) (m - g) (Nat.le_refl _) (by have := clr_le m i.val; omega) (by omega) hsub
  omega
theorem sumTo_sub (v : List Int) {a b : Nat} (ha : a < 64) (hb : b < 64) (h : SubB a b) : ∀ n, n ≤ 6 → sumTo v b n = sumTo v a n + sumTo v (b - a) n
  | 0, _ => by simp [sumTo]
  | n + 1, hn => by
    have ih := sumTo_sub v ha hb h n (by omega)
    obtain ⟨h1, h2, h3⟩ := bit_sub ha hb h
    simp only [sumTo]
    rw [h3 n (by omega)]
    have hx := h n (by omega)
    cases hbn : bitN b n <;> cases han : bitN a n <;> simp [hbn, han] at hx ⊢ <;> omega
theorem sumN_sub (v : List Int) {a b : Nat} (ha : a < 64) (hb : b < 64) (h : SubB a b) : sumN v b = sumN v a + sumN v (b - a) := sumTo_sub v ha hb h 6 (by omega)
/-- Some women who sum to 0 have as many groups. -/
theorem F_core (v : List Int) : ∀ (k m : Nat), m ≤ k → m < 64 → ∃ a, SubB a m ∧ a ≤ m ∧ sumN v a = 0 ∧ F v m = F v a
  | 0, m, hk, hm => ⟨m, SubB.refl m, Nat.le_refl _, by rw [show m = 0 by omega]; simp [sumN, sumTo, bitN], rfl⟩
  | k + 1, m, hk, hm => by
    by_cases h0 : m = 0
    · subst h0
      exact ⟨0, SubB.refl 0, Nat.le_refl _, by simp [sumN, sumTo, bitN], rfl⟩
    · by_cases hs : sumN v m = 0
      · exact ⟨m, SubB.refl m, Nat.le_refl _, hs, rfl⟩
      · obtain ⟨i0, hi0⟩ := has_bit_all ⟨m, hm⟩ h0
        obtain ⟨i, hi, hb, he⟩ := bestTo_hit (f := F v) (m := m) (fun j _ => (F_bd v _).1) 6 ⟨i0.val, i0.isLt, hi0⟩
        have hlt := clr_lt hb
        obtain ⟨a, h1, h2, h3, h4⟩ := F_core v k (clr m i) (by omega) (by omega)
        refine ⟨a, h1.trans (clr_sub hm hi), by omega, h3, ?_⟩
        rw [F_step v m h0, if_neg hs, ← he, h4]
        omega
/-- Whichever woman is asked for: a group with her begins a way that has as many groups. -/
theorem F_with (v : List Int) : ∀ (k m f : Nat), m ≤ k → m < 64 → f < 6 → bitN m f = true → sumN v m = 0 →
    ∃ g, g < 64 ∧ SubB g m ∧ bitN g f = true ∧ sumN v g = 0 ∧ F v m ≤ 1 + F v (m - g)
  | 0, m, f, hk, hm, hf, hb, hs => absurd (show m = 0 by omega) (ne_zero_of_bit hb)
  | k + 1, m, f, hk, hm, hf, hb, hs => by
    have h0 := ne_zero_of_bit hb
    obtain ⟨i, hi, hbi, he⟩ := bestTo_hit (f := F v) (m := m) (fun j _ => (F_bd v _).1) 6 ⟨f, hf, hb⟩
    have hlt := clr_lt hbi
    obtain ⟨a, a1, a2, a3, a4⟩ := F_core v (clr m i) (clr m i) (Nat.le_refl _) (by omega)
    have ham : SubB a m := a1.trans (clr_sub hm hi)
    have hF : F v m = 1 + F v a := by rw [F_step v m h0, if_pos hs, ← he, a4]; omega
    obtain ⟨b1, b2, b3⟩ := bit_sub (show a < 64 by omega) hm ham
    have hsum := sumN_sub v (show a < 64 by omega) hm ham
    by_cases haf : bitN a f = true
    · obtain ⟨g, g1, g2, g3, g4, g5⟩ := F_with v k a f (by omega) (by omega) hf haf a3
      have hgm : SubB g m := g2.trans ham
      obtain ⟨c1, c2, c3⟩ := bit_sub g1 (show a < 64 by omega) g2
      obtain ⟨d1, d2, d3⟩ := bit_sub g1 hm hgm
      refine ⟨g, g1, hgm, g3, g4, ?_⟩
      have hs2 : sumN v (m - g) = 0 := by have := sumN_sub v g1 hm hgm; omega
      have hsub : SubB (m - a) (m - g) := fun j hj q => by
        rw [b3 j hj, Bool.and_eq_true] at q
        rw [d3 j hj, Bool.and_eq_true]
        refine ⟨q.1, ?_⟩
        cases hg : bitN g j
        · rfl
        · have := g2 j hj hg
          rw [this] at q
          simp at q
      have ht := F_take v (m := m - g) (g := m - a) (by omega) (by omega) hsub (by omega) hs2
      have e : m - g - (m - a) = a - g := by omega
      rw [e] at ht
      omega
    · refine ⟨m - a, by omega, fun j hj q => ?_, ?_, by omega, ?_⟩
      · rw [b3 j hj, Bool.and_eq_true] at q
        exact q.1
      · rw [b3 f hf, hb, show bitN a f = false by simpa using haf]
        rfl
      · rw [show m - (m - a) = a by omega, hF]
        exact Int.le_refl _
/-! The reference's search. -/
theorem rbits_all : ∀ m : Fin 64, pr_Bits.f 8 (m.val : Int) = some (bitsL m.val) := by decide +kernel
theorem Bits_f (k m : Nat) (h : m < 64) (hk : 8 ≤ k) : pr_Bits.f k (m : Int) = some (bitsL m) := by
  obtain ⟨d, rfl⟩ : ∃ d, k = 8 + d := ⟨k - 8, by omega⟩
  clear hk
  induction d with
  | zero => exact rbits_all ⟨m, h⟩
  | succ d ih => exact pr_Bits.mono _ _ _ ih
theorem bitsL_sum (v : List Int) (m : Nat) : ((bitsL m).map (fun i => rd v i)).sum = sumN v m := by
  unfold bitsL sumN
  have : ∀ n, ((((List.range n).filter (bitN m)).map Int.ofNat).map (fun i => rd v i)).sum = sumTo v m n := by
    intro n
    induction n with
    | zero => rfl
    | succ n ih =>
      rw [List.range_succ, List.filter_append, List.map_append, List.map_append, List.sum_append, ih]
      simp only [sumTo]
      cases h : bitN m n
      · simp [h]
      · simp [h]
  exact this 6
theorem bitsL_mem (m : Nat) : ∀ i ∈ bitsL m, 0 ≤ i ∧ i < 6 := by
  intro i hi
  unfold bitsL at hi
  obtain ⟨j, hj, rfl⟩ := List.mem_map.1 hi
  have := List.mem_range.1 (List.mem_filter.1 hj).1
  simp only [Int.ofNat_eq_natCast]
  omega
theorem rdI' (xs : List Int) (i : Nat) (h : i < xs.length) : rd xs (i : Int) = xs[i] := getD_of xs _ i h
section
variable (n : Int) (l1 : List S91) (l2 : List S94) (os : List Int) (hck : checkS n (l1.map c91) (l2.map c94) = 0) (ho : Small (l1.map c91) os)
set_option linter.unusedSectionVars false
include hck ho
theorem owed_500 (j : Int) : -500 ≤ rd (owedL (l1.map c91) os) j ∧ rd (owedL (l1.map c91) os) j ≤ 500 := by
  have := owedTo_bd (l1.map c91) os ho.2 (l1.map c91).length (Nat.le_refl _) j
  have hl := (z35 hck).2.2.1
  rw [List.length_map] at this
  unfold owedL
  rw [List.length_map]
  omega
theorem Together_l0 (bs : List Int) (hb : ∀ i ∈ bs, 0 ≤ i ∧ i < 6) (hbl : bs.length ≤ 6) : ∀ (d k i : Nat) (s : Int), i + d = bs.length → d + 7 < k → -(500 * (i : Int)) ≤ s → s ≤ 500 * (i : Int) →
    pr_Together.l0 k os s bs i n l1 l2 = some (s + ((bs.drop i).map (fun i => rd (owedL (l1.map c91) os) i)).sum)
  | 0, k + 1, i, s, hi, hk, h1, h2 => by
    rw [pr_Together.l0, if_neg (by omega), List.drop_of_length_le (by omega)]
    simp
  | d + 1, k + 1, i, s, hi, hk, h1, h2 => by
    have hn : i < bs.length := by omega
    have hm := hb _ (List.getElem_mem hn)
    have hv := owed_500 n l1 l2 os hck ho bs[i]
    rw [pr_Together.l0, if_pos (by omega), if_pos (by omega), rdI' bs i hn, Owed_f k n l1 l2 os _ hck ho hm.1 hm.2 (by omega), Option.bind_some, w1 i (by omega),
      show wrap64 (s + rd (owedL (l1.map c91) os) bs[i]) = s + rd (owedL (l1.map c91) os) bs[i] by unfold wrap64; omega, Together_l0 bs hb hbl d k (i + 1) _ (by omega) (by omega) (by omega) (by omega), List.drop_eq_getElem_cons hn, List.map_cons, List.sum_cons]
    refine congrArg some ?_
    omega
theorem Together_f (k m : Nat) (hm : m < 64) (hk : 20 ≤ k) : pr_Together.f k n l1 l2 os (m : Int) = some (sumN (owedL (l1.map c91) os) m) := by
  unfold pr_Together.f
  have hl := bitsL_length m
  rw [Bits_f k m hm (by omega), Option.bind_some]
  have := Together_l0 n l1 l2 os hck ho (bitsL m) (bitsL_mem m) hl (bitsL m).length k 0 0 (by omega) (by omega) (by simp) (by simp)
  refine Eq.trans (show pr_Together.l0 k os 0 (bitsL m) 0 n l1 l2 = _ from this) ?_
  rw [List.drop_zero, bitsL_sum, Int.zero_add]
end
end Go.Proofs.Ytncaadckehikpaa.Q
namespace Go.Proofs.Ytncaadckehikpaa.Q
open Go.RowKit Go.Proofs.YtncaadckehikpaaW.PrintWords Go.Proofs.YtncaadckehikpaaW.PrintLast Go.Proofs.YtncaadckehikpaaW.PrintMore
set_option linter.unusedVariables false
set_option linter.unusedSimpArgs false
set_option linter.unusedSectionVars false
/-- The first of some women. -/
def lowB (m : Nat) : Nat := ((List.range 6).find? (bitN m)).getD 0
set_option maxRecDepth 100000 in
theorem low_all : ∀ m : Fin 64, m.val ≠ 0 → bits .and .i64 (m.val : Int) (wrap64 (-(m.val : Int))) = ((2 ^ lowB m.val : Nat) : Int) ∧ lowB m.val < 6 ∧ bitN m.val (lowB m.val) = true := by decide +kernel
theorem low_spec {m : Nat} (h : m < 64) (h0 : m ≠ 0) : bits .and .i64 (m : Int) (wrap64 (-(m : Int))) = ((2 ^ lowB m : Nat) : Int) ∧ lowB m < 6 ∧ bitN m (lowB m) = true := low_all ⟨m, h⟩ h0
set_option maxRecDepth 100000 in
theorem and_low_all : ∀ g : Fin 64, ∀ f : Fin 6, (bits .and .i64 (g.val : Int) ((2 ^ f.val : Nat) : Int) = 0 ↔ bitN g.val f.val = false) := by decide +kernel
set_option maxRecDepth 100000 in
theorem sub_all : ∀ m : Fin 64, ∀ g : Fin 64, (∀ i : Fin 6, bitN g.val i.val = true → bitN m.val i.val = true) → bits .andNot .i64 (m.val : Int) (g.val : Int) = ((m.val - g.val : Nat) : Int) := by decide +kernel
theorem andNot_sub {m g : Nat} (hm : m < 64) (hg : g < 64) (h : SubB g m) : bits .andNot .i64 (m : Int) (g : Int) = ((m - g : Nat) : Int) := sub_all ⟨m, hm⟩ ⟨g, hg⟩ (fun i q => h i.val i.isLt q)
/-- The next group. -/
def nxt (m g : Nat) : Nat := (g - 1) &&& m
set_option maxRecDepth 100000 in
theorem nxt_all : ∀ m : Fin 64, ∀ g : Fin 64, g.val ≠ 0 → bits .and .i64 (wrap64 ((g.val : Int) - 1)) (m.val : Int) = ((nxt m.val g.val : Nat) : Int) ∧ nxt m.val g.val < g.val ∧ ∀ i : Fin 6, bitN (nxt m.val g.val) i.val = true → bitN m.val i.val = true := by decide +kernel
theorem nxt_spec {m g : Nat} (hm : m < 64) (hg : g < 64) (h0 : g ≠ 0) : bits .and .i64 (wrap64 ((g : Int) - 1)) (m : Int) = ((nxt m g : Nat) : Int) ∧ nxt m g < g ∧ SubB (nxt m g) m := by
  obtain ⟨a, b, c⟩ := nxt_all ⟨m, hm⟩ ⟨g, hg⟩ h0
  exact ⟨a, b, fun i hi q => c ⟨i, hi⟩ q⟩
theorem sub_and_all : ∀ m : Fin 64, ∀ x : Fin 64, (∀ i : Fin 6, bitN x.val i.val = true → bitN m.val i.val = true) → x.val &&& m.val = x.val := by decide +kernel
set_option maxRecDepth 100000 in
theorem nxt_le_all : ((List.range 64).all fun g => (List.range 64).all fun m => !(g &&& m == g) || (List.range g).all fun x => !(x &&& m == x) || decide (x ≤ nxt m g)) = true := by decide +kernel
theorem nxt_max {m g x : Nat} (hm : m < 64) (hg : g < 64) (hgm : SubB g m) (hx : SubB x m) (h : x < g) : x ≤ nxt m g := by
  have e : x &&& m = x := sub_and_all ⟨m, hm⟩ ⟨x, by omega⟩ (fun i q => hx i.val i.isLt q)
  have e2 : g &&& m = g := sub_and_all ⟨m, hm⟩ ⟨g, hg⟩ (fun i q => hgm i.val i.isLt q)
  have h1 := List.all_eq_true.1 nxt_le_all g (List.mem_range.2 hg)
  have h2 := List.all_eq_true.1 h1 m (List.mem_range.2 hm)
  rw [e2, beq_self_eq_true, Bool.not_true, Bool.false_or] at h2
  have h3 := List.all_eq_true.1 h2 x (List.mem_range.2 h)
  rw [e, beq_self_eq_true, Bool.not_true, Bool.false_or, decide_eq_true_eq] at h3
  exact h3
section
variable (n : Int) (l1 : List S91) (l2 : List S94) (os : List Int) (hck : checkS n (l1.map c91) (l2.map c94) = 0) (ho : Small (l1.map c91) os)
include hck ho
/-- A group that is tried: of the women, with the first one, summing to 0. -/
def Tried (v : List Int) (m f g : Nat) : Prop := SubB g m ∧ g ≠ 0 ∧ bitN g f = true ∧ sumN v g = 0
theorem Most_l0 (m : Nat) (hm : m < 64) (f : Nat) (hf : f < 6) (hmost : ∀ g, Tried (owedL (l1.map c91) os) m f g → g < 64 → ∀ k, 80 * m + 20 < k → pr_Most.f k n l1 l2 os ((m - g : Nat) : Int) = some (F (owedL (l1.map c91) os) (m - g))) :
    ∀ (b k g : Nat) (best : Int), g ≤ b → g < 64 → SubB g m → 80 * m + g + 22 < k → 0 ≤ best → best ≤ 64 →
      ∃ r, pr_Most.l0 k os (m : Int) ((2 ^ f : Nat) : Int) best (g : Int) n l1 l2 = some r ∧ best ≤ r ∧ (∀ x, x ≤ g → Tried (owedL (l1.map c91) os) m f x → 1 + F (owedL (l1.map c91) os) (m - x) ≤ r) ∧
        (r = best ∨ ∃ x, x ≤ g ∧ Tried (owedL (l1.map c91) os) m f x ∧ r = 1 + F (owedL (l1.map c91) os) (m - x))
  | b, 0, g, best, hb, hg, hs, hk, h0, h1 => by omega
  | b, k + 1, g, best, hb, hg, hs, hk, h0, h1 => by
    by_cases hz : g = 0
    · subst hz
      rw [pr_Most.l0, if_neg (by omega)]
      refine ⟨best, rfl, Int.le_refl _, fun x hx q => absurd (show x = 0 by omega) q.2.1, Or.inl rfl⟩
    · obtain ⟨b', rfl⟩ : ∃ b', b = b' + 1 := ⟨b - 1, by omega⟩
      obtain ⟨x1, x2, x3⟩ := nxt_spec hm hg hz
      have hcov : ∀ x, x ≤ g → Tried (owedL (l1.map c91) os) m f x → x = g ∨ x ≤ nxt m g := fun x hx q => by
        by_cases e : x = g
        · exact Or.inl e
        · exact Or.inr (nxt_max hm hg hs q.1 (by omega))
      rw [pr_Most.l0, if_pos (by omega), x1]
      have hl := and_low_all ⟨g, hg⟩ ⟨f, hf⟩
      simp only [] at hl
      by_cases hlow : bitN g f = true
      · rw [if_neg (fun q => by have := hl.1 q; rw [hlow] at this; cases this), Together_f n l1 l2 os hck ho k g hg (by omega), Option.bind_some]
        by_cases hsum : sumN (owedL (l1.map c91) os) g = 0
        · have ht : Tried (owedL (l1.map c91) os) m f g := ⟨hs, hz, hlow, hsum⟩
          have hbd := F_bd (owedL (l1.map c91) os) (m - g)
          rw [if_pos hsum, andNot_sub hm hg hs, hmost g ht hg k (by omega), Option.bind_some, show wrap64 (1 + F (owedL (l1.map c91) os) (m - g)) = 1 + F (owedL (l1.map c91) os) (m - g) by unfold wrap64; omega]
          have hmx : best ≤ mx best (1 + F (owedL (l1.map c91) os) (m - g)) ∧ 1 + F (owedL (l1.map c91) os) (m - g) ≤ mx best (1 + F (owedL (l1.map c91) os) (m - g)) ∧ (mx best (1 + F (owedL (l1.map c91) os) (m - g)) = best ∨ mx best (1 + F (owedL (l1.map c91) os) (m - g)) = 1 + F (owedL (l1.map c91) os) (m - g)) := by
            unfold mx; split <;> omega
          have hgm : 0 < g ∧ g ≤ m := ⟨by omega, (bit_sub hg hm hs).1⟩
          obtain ⟨r, r1, r2, r3, r4⟩ := Most_l0 m hm f hf hmost b' k (nxt m g) (mx best (1 + F (owedL (l1.map c91) os) (m - g))) (by omega) (by omega) x3 (by omega) (by omega) (by omega)
          refine ⟨r, r1, by omega, fun x hx q => ?_, ?_⟩
          · rcases hcov x hx q with e | e
            · rw [e]; omega
            · exact r3 x e q
          · rcases r4 with e | ⟨x, e1, e2, e3⟩
            · rcases hmx.2.2 with q | q
              · exact Or.inl (by omega)
              · exact Or.inr ⟨g, Nat.le_refl _, ht, by omega⟩
            · exact Or.inr ⟨x, by omega, e2, e3⟩
        · rw [if_neg hsum]
          obtain ⟨r, r1, r2, r3, r4⟩ := Most_l0 m hm f hf hmost b' k (nxt m g) best (by omega) (by omega) x3 (by omega) h0 h1
          refine ⟨r, r1, r2, fun x hx q => ?_, ?_⟩
          · rcases hcov x hx q with e | e
            · rw [e] at q; exact absurd q.2.2.2 hsum
            · exact r3 x e q
          · exact r4.imp id (fun ⟨x, e1, e2, e3⟩ => ⟨x, by omega, e2, e3⟩)
      · rw [if_pos (hl.2 (by simpa using hlow))]
        obtain ⟨r, r1, r2, r3, r4⟩ := Most_l0 m hm f hf hmost b' k (nxt m g) best (by omega) (by omega) x3 (by omega) h0 h1
        refine ⟨r, r1, r2, fun x hx q => ?_, ?_⟩
        · rcases hcov x hx q with e | e
          · rw [e] at q; exact absurd q.2.2.1 hlow
          · exact r3 x e q
        · exact r4.imp id (fun ⟨x, e1, e2, e3⟩ => ⟨x, by omega, e2, e3⟩)
/-- The reference's greatest number of groups of women who sum to 0. -/
theorem Most_f : ∀ (b m : Nat), m ≤ b → m < 64 → sumN (owedL (l1.map c91) os) m = 0 → ∀ k, 80 * m + 90 < k → pr_Most.f k n l1 l2 os (m : Int) = some (F (owedL (l1.map c91) os) m)
  | b, m, hb, hm, hs, 0, hk => by omega
  | b, m, hb, hm, hs, k + 1, hk => by
    by_cases hz : m = 0
    · subst hz
      rw [pr_Most.f, if_pos (show ((0 : Nat) : Int) = 0 from rfl)]
      rfl
    · obtain ⟨b', rfl⟩ : ∃ b', b = b' + 1 := ⟨b - 1, by omega⟩
      obtain ⟨y1, y2, y3⟩ := low_spec hm hz
      rw [pr_Most.f, if_neg (by omega), y1]
      obtain ⟨r, r1, r2, r3, r4⟩ := Most_l0 n l1 l2 os hck ho m hm (lowB m) y2 (fun g q hg k' hk' => by
        have h1 := bit_sub hg hm q.1
        have h2 := sumN_sub (owedL (l1.map c91) os) hg hm q.1
        have h3 := q.2.1
        have h4 := q.2.2.2
        exact Most_f b' (m - g) (by omega) (by omega) (by omega) k' (by omega)) m k m 0 (Nat.le_refl _) hm (SubB.refl m) (by omega) (Int.le_refl _) (by omega)
      rw [r1]
      refine congrArg some ?_
      obtain ⟨g, g1, g2, g3, g4, g5⟩ := F_with (owedL (l1.map c91) os) m m (lowB m) (Nat.le_refl _) hm y2 y3 hs
      have h1 := r3 g (bit_sub g1 hm g2).1 ⟨g2, ne_zero_of_bit g3, g3, g4⟩
      rcases r4 with e | ⟨x, e1, e2, e3⟩
      · have := F_bd (owedL (l1.map c91) os) (m - g)
        omega
      · have := F_take (owedL (l1.map c91) os) hm (by omega) e2.1 e2.2.1 hs
        omega
end
end Go.Proofs.Ytncaadckehikpaa.Q
namespace Go.Proofs.Ytncaadckehikpaa.Q
open Go.RowKit Go.Proofs.YtncaadckehikpaaW.PrintWords Go.Proofs.YtncaadckehikpaaW.PrintLast Go.Proofs.YtncaadckehikpaaW.PrintMore
attribute [local go_sem] z38 z37 max_two min_two   -- for this text's walks alone
set_option linter.unusedVariables false
set_option linter.unusedSimpArgs false
theorem eqA44 (d : Nat) (w : World) (x0 y0 : Int) (x1 y1 : Int) :
  (Op.equalIn (d + 2) 44 (.agg #[.int .i64 x0, .int .i64 x1]) (.agg #[.int .i64 y0, .int .i64 y1])).run Try.prog w = .ok (x0 == y0 && (x1 == y1)) w := by
 refine eqA_of Try.underlying44 (by kernel_rfl) ?_
 refine eqf_cons (by rfl) (by go_simp; rfl) (by go_simp; rfl) (by go_simp) ?_
 exact eqf_last (by rfl) (by go_simp; rfl) (by go_simp; rfl) (by go_simp)
end Go.Proofs.Ytncaadckehikpaa.Q
namespace Go.Proofs.Ytncaadckehikpaa.Q
open Go.RowKit Go.Proofs.YtncaadckehikpaaW.PrintWords Go.Proofs.YtncaadckehikpaaW.PrintLast Go.Proofs.YtncaadckehikpaaW.PrintMore
set_option linter.unusedVariables false
set_option linter.unusedSimpArgs false
attribute [local go_sem] Oper.semAt_some
/-- Whether some of the ounces make all sayings right. -/
def anyL (l1 : List S122) (l2 : List S124) (out : List Int) (oss : List (List Int)) : Bool := oss.any (fun os => rightB l2 (owedL l1 os) out)
def possB (l1 : List S122) (l2 : List S124) (out : List Int) : Bool := anyL l1 l2 out (enumO [] l1)
/-- What holds between two rounds, and behind the loop. -/
structure PossI (w0 : World) (tb ob rb : Nat) (n : Int) (A1 : Option Addr) (c1 : Nat) (l1 : List S122) (A2 : Option Addr) (c2 : Nat) (l2 : List S124) (A3 : Option Addr) (m3 c3 : Nat) (r : Bool) (W : World) : Prop where
  below : Below w0.heap.size w0 W
  tb : W.heap[tb]? = some (.cells #[.int .i64 n, .slice A1 l1.length c1, .slice A2 l2.length c2] 35 (0, 0))
  ob : W.heap[ob]? = some (.cells #[.slice A3 m3 c3] 37 (0, 0))
  rb : W.heap[rb]? = some (.cells #[.bool r] 4 (0, 0))
theorem PossI.zone {w0 : World} {tb ob rb B : Nat} {n : Int} {A1 : Option Addr} {c1 : Nat} {l1 : List S122} {A2 : Option Addr} {c2 : Nat} {l2 : List S124} {A3 : Option Addr} {m3 c3 : Nat} {r : Bool} {W W' : World}
    (h : PossI w0 tb ob rb n A1 c1 l1 A2 c2 l2 A3 m3 c3 r W) (hz : Zone6 B W W') (h0 : w0.heap.size ≤ B) (h1 : tb < B) (h2 : ob < B) (h3 : rb < B) : PossI w0 tb ob rb n A1 c1 l1 A2 c2 l2 A3 m3 c3 r W' :=
  ⟨⟨hz.os.trans h.below.os, hz.tape.trans h.below.tape, hz.output.trans h.below.output, Nat.le_trans h.below.size hz.size, fun k hk => (hz.block k (by have := h.below.size; omega) (by omega)).trans (h.below.block k hk)⟩,
   (hz.block _ (z27 h.tb) (by omega)).trans h.tb, (hz.block _ (z27 h.ob) (by omega)).trans h.ob, (hz.block _ (z27 h.rb) (by omega)).trans h.rb⟩
set_option maxHeartbeats 4000000 in
set_option maxRecDepth 100000 in
theorem possible_calls (n : Int) (A1 : Option Addr) (c1 : Nat) (l1 : List S122) (A2 : Option Addr) (c2 : Nat) (l2 : List S124) (A3 : Option Addr) (c3 : Nat) (out : List Int) (w : World) (hck : checkS n l1 l2 = 0)
    (hr1 : Kd.C k122 w A1 l1.length l1) (hc1 : l1.length ≤ c1) (hr2 : Kd.C k124 w A2 l2.length l2) (hc2 : l2.length ≤ c2) (hr3 : Kd.C (Kd.int .i64) w A3 out.length out) (hc3 : out.length ≤ c3) (hout : (out.length : Int) ≤ 140737488355328) :
    Calls Try.prog 84 #[.agg #[.int .i64 n, .slice A1 l1.length c1, .slice A2 l2.length c2], .slice A3 out.length c3] w fun e w' => e = .returned (.bool (possB l1 l2 out)) ∧ Below w.heap.size w w' := by
  have hu35 := Try.underlying35
  have hu128 := Try.underlying128
  obtain ⟨wa, hwa⟩ : ∃ wa, ((w.alloc (.cells #[.int .i64 n, .slice A1 l1.length c1, .slice A2 l2.length c2] 35)).alloc (.cells #[.slice A3 out.length c3] 37)).alloc (.cells #[.bool false] 4) = wa := ⟨_, rfl⟩
  have hwz : wa.heap.size = w.heap.size + 3 := by rw [← hwa]; simp
  have hbw : Below w.heap.size w wa := by rw [← hwa]; exact z11 (z11 (z11 (Below.refl _ _) _) _) _
  have HPA := mkA (show PossI w w.heap.size (w.heap.size + 1) (w.heap.size + 2) n A1 c1 l1 A2 c2 l2 A3 out.length c3 false wa from by
    refine ⟨hbw, ?_, ?_, ?_⟩
    · rw [← hwa]; exact blk_below (z23 w _) (z11 (z11 (Below.refl _ _) _) _)
    · rw [← hwa]; exact blk_below (by simpa using z23 (w.alloc _) (.cells #[.slice A3 out.length c3] 37)) (z11 (Below.refl _ _) _)
    · rw [← hwa]; simpa using z23 ((w.alloc _).alloc _) (.cells #[.bool false] 4))
  have HR1 := mkA hr1
  have HR2 := mkA hr2
  have HR3 := mkA hr3
  have HZ := mkA hck
  have hs0 : wa.cell? ⟨w.heap.size, 0, none⟩ = some (.int .i64 n) := (z13 HPA.out.tb 0).trans rfl
  have hs1 : wa.cell? ⟨w.heap.size, 1, none⟩ = some (.slice A1 l1.length c1) := (z13 HPA.out.tb 1).trans rfl
  have hs2 : wa.cell? ⟨w.heap.size, 2, none⟩ = some (.slice A2 l2.length c2) := (z13 HPA.out.tb 2).trans rfl
  clear hr1 hr2 hr3 hck hbw
  refine (callsIn_wide (n := 4)).1 ?_
  refine callsIn_of_wp_marks Try.func84 rfl trivial ?_ rfl
  simp only [Try.ntmps84, List.size_toArray, List.length_cons, List.length_nil, Nat.reduceAdd, Nat.reduceSub, Array.replicate_succ, Array.replicate_zero, List.push_toArray, List.append_toArray, List.nil_append, List.cons_append]
  gi_wp2_with fail
  refine ⟨trivial, ?_⟩
  refine (callsIn_wide.2 (ounces_calls _ _ _ _ _ _ _ _)).mono ?_
  rintro e w2 ⟨rfl, hw2⟩
  clear hwa hs0 hs1 hs2
  have hz2 : w2.heap.size = w.heap.size + 4 := by rw [hw2]; simp [hwz]
  have HI2 := mkA (show PossI w w.heap.size (w.heap.size + 1) (w.heap.size + 2) n A1 c1 l1 A2 c2 l2 A3 out.length c3 false w2 from by
    rw [hw2]
    have hb := z11 (Below.refl wa.heap.size wa) (.cells #[.int .i64 n, .slice A1 l1.length c1, .slice A2 l2.length c2] 35)
    exact ⟨z17 HPA.out.below hb, blk_below HPA.out.tb hb, blk_below HPA.out.ob hb, blk_below HPA.out.rb hb⟩)
  have HBS := mkA (show w2.heap[wa.heap.size]? = some (.cells #[.int .i64 n, .slice A1 l1.length c1, .slice A2 l2.length c2] 35 (0, 0)) from by rw [hw2]; exact z23 wa _)
  clear hw2 HPA
  gi_wp2_with fail
  refine range_ounces w (w.heap.size + 3) n A1 c1 l1 A2 c2 l2 HZ.out HR1.out hc1 rfl HI2.out.below (by rw [← hwz]; exact HBS.out)
    (fun pre W => PossI w w.heap.size (w.heap.size + 1) (w.heap.size + 2) n A1 c1 l1 A2 c2 l2 A3 out.length c3 false W ∧ anyL l1 l2 out pre = false)
    (fun c pre W => c = .ret ∧ PossI w w.heap.size (w.heap.size + 1) (w.heap.size + 2) n A1 c1 l1 A2 c2 l2 A3 out.length c3 true W ∧ anyL l1 l2 out pre = true)
    (fun pre V V' h hz => ⟨h.1.zone hz (by omega) (by omega) (by omega) (by omega), h.2⟩) (fun c pre V V' h hz => ⟨h.1, h.2.1.zone hz (by omega) (by omega) (by omega) (by omega), h.2.2⟩) ⟨HI2.out, rfl⟩ 5 ?assign ?body ?done ?stop
  case assign =>
    intro l os W K hK
    unfold aggV roundAct at *
    gi_wp2
    exact hK
  case body =>
    rintro l pre os bx W ⟨hi, han⟩ hbW hol hfit hpre hbx hbox
    have HI := mkA hi
    have HBX := mkA hbox
    clear hi hbox hfit HI2 HBS
    unfold aggV roundAct
    simp only [xq1, xq2, xq3]
    generalize hu : owedL l1 os = u at HBX ⊢
    have HU := mkA hu
    have hul : u.length = 6 := by rw [← hu]; exact z40 _ _ _
    clear hu
    have HRC := mkA (right_calls n A1 c1 l1 A2 c2 l2 u A3 c3 out W (Kd.C_below HR2.out hbW) hc2 (Kd.C_below HR3.out hbW) hc3 hul hout (by obtain ⟨z0, z1, z2, z3, _⟩ := z30 HZ.out; exact z3) (fun i q0 q1 => by
      have := saying_in HZ.out i q0 q1
      obtain ⟨z0, z1, z2, z3, _⟩ := z30 HZ.out
      omega))
    unfold aggV at HRC
    have k0 : W.cell? ⟨w.heap.size, 0, none⟩ = some (.int .i64 n) := (z13 HI.out.tb 0).trans rfl
    have k1 : W.cell? ⟨w.heap.size, 1, none⟩ = some (.slice A1 l1.length c1) := (z13 HI.out.tb 1).trans rfl
    have k2 : W.cell? ⟨w.heap.size, 2, none⟩ = some (.slice A2 l2.length c2) := (z13 HI.out.tb 2).trans rfl
    have k3 : W.cell? ⟨w.heap.size + 1, 0, none⟩ = some (.slice A3 out.length c3) := (z13 HI.out.ob 0).trans rfl
    have j0 : W.cell? ⟨bx, 0, none⟩ = some (.int .i64 (rd u 0)) := (z13 HBX.out 0).trans rfl
    have j1 : W.cell? ⟨bx, 1, none⟩ = some (.int .i64 (rd u 1)) := (z13 HBX.out 1).trans rfl
    have j2 : W.cell? ⟨bx, 2, none⟩ = some (.int .i64 (rd u 2)) := (z13 HBX.out 2).trans rfl
    have j3 : W.cell? ⟨bx, 3, none⟩ = some (.int .i64 (rd u 3)) := (z13 HBX.out 3).trans rfl
    have j4 : W.cell? ⟨bx, 4, none⟩ = some (.int .i64 (rd u 4)) := (z13 HBX.out 4).trans rfl
    have j5 : W.cell? ⟨bx, 5, none⟩ = some (.int .i64 (rd u 5)) := (z13 HBX.out 5).trans rfl
    have HAN := mkA (show anyL l1 l2 out (pre ++ [os]) = rightB l2 u out from by
      unfold anyL at han ⊢
      rw [List.any_append, han, ← HU.out]
      simp)
    have HBW2 := mkA hbW
    clear han hbW
    gi_wp2_with fail
    refine ⟨trivial, ?_⟩
    refine (calls_in_round HRC.out).mono ?_
    rintro e w3 ⟨rfl, hb⟩
    have HB3 := mkA hb
    have hq := blk_below HI.out.rb hb
    have hrc : w3.cell? ⟨w.heap.size + 2, 0, none⟩ = some (.bool false) := (z13 hq 0).trans rfl
    have hrf : w3.frozen? ⟨w.heap.size + 2, 0, none⟩ = false := z14 hq _
    have HQ := mkA hq
    clear hb hq HRC k0 k1 k2 k3 j0 j1 j2 j3 j4 j5
    have HI3 := mkA (show PossI w w.heap.size (w.heap.size + 1) (w.heap.size + 2) n A1 c1 l1 A2 c2 l2 A3 out.length c3 false w3 from ⟨z17 HI.out.below HB3.out, blk_below HI.out.tb HB3.out, blk_below HI.out.ob HB3.out, HQ.out⟩)
    cases hr : rightB l2 u out with
    | true =>
      have HRR := mkA hr
      clear hr
      gi_wp2
      have hs3 := HB3.out.size
      refine ⟨⟨by simp [World.setCell]; exact hs3, fun k hk hz => (Below.heap_setCell _ _ _ _ (show k ≠ w.heap.size + 2 by omega)).trans (HB3.out.block k hk)⟩, rfl, ⟨z15 HI3.out.below (show w.heap.size ≤ w.heap.size + 2 by omega), (Below.heap_setCell _ _ _ _ (show w.heap.size ≠ w.heap.size + 2 by omega)).trans HI3.out.tb, (Below.heap_setCell _ _ _ _ (show w.heap.size + 1 ≠ w.heap.size + 2 by omega)).trans HI3.out.ob, ?_⟩, by rw [HAN.out]; exact HRR.out⟩
      simp [World.setCell, Array.getElem?_modify, HI3.out.rb]
    | false =>
      have HRR := mkA hr
      clear hr
      gi_wp2
      exact ⟨KeepZ.of_below HB3.out, HI3.out.below, HI3.out, by rw [HAN.out]; exact HRR.out⟩
  case done =>
    rintro W ⟨hi, han⟩ hK
    have HI := mkA hi
    have HKK := mkA hK
    have HAN := mkA han
    have hrc : W.cell? ⟨w.heap.size + 2, 0, none⟩ = some (.bool false) := (z13 hi.rb 0).trans rfl
    have hrf : W.frozen? ⟨w.heap.size + 2, 0, none⟩ = false := z14 hi.rb _
    clear hi han hK
    gi_wp2
    rw [z28 hrc]
    refine ⟨by simp, .inl ⟨_, _, rfl, run_takeDeferred HKK.out, ?_⟩⟩
    have hz := HI.out.zone (Zone6.put W (.deferred none) ⟨Nat.le_refl w2.heap.size, by omega⟩) (by omega) (by omega) (by omega) (by omega)
    have hc : (W.putObj w2.heap.size (.deferred none)).cell? ⟨w.heap.size + 2, 0, none⟩ = some (.bool false) := (z13 hz.rb 0).trans rfl
    refine ⟨.bool false, by simp [results, Try.results84, go_sem, hc], by rw [show possB l1 l2 out = false from HAN.out], hz.below⟩
  case stop =>
    rintro c pre W hpre ⟨rfl, hi, han⟩ hK
    have HI := mkA hi
    have HKK := mkA hK
    have HAN := mkA (show possB l1 l2 out = true from by
      unfold possB anyL at *
      rw [List.any_eq_true] at han ⊢
      obtain ⟨x, hx, hr⟩ := han
      exact ⟨x, hpre.subset hx, hr⟩)
    clear hi han hK
    gi_wp2
    refine ⟨by simp, .inl ⟨_, _, rfl, run_takeDeferred HKK.out, ?_⟩⟩
    have hz := HI.out.zone (Zone6.put W (.deferred none) ⟨Nat.le_refl w2.heap.size, by omega⟩) (by omega) (by omega) (by omega) (by omega)
    have hc : (W.putObj w2.heap.size (.deferred none)).cell? ⟨w.heap.size + 2, 0, none⟩ = some (.bool true) := (z13 hz.rb 0).trans rfl
    refine ⟨.bool true, by simp [results, Try.results84, go_sem, hc], by rw [HAN.out], hz.below⟩
end Go.Proofs.Ytncaadckehikpaa.Q
namespace Go.Proofs.Ytncaadckehikpaa.Q
open Go.RowKit Go.Proofs.YtncaadckehikpaaW.PrintWords Go.Proofs.YtncaadckehikpaaW.PrintLast Go.Proofs.YtncaadckehikpaaW.PrintMore
set_option linter.unusedVariables false
set_option linter.unusedSimpArgs false
/-- The first lie, by its number. -/
def firstO (l1 : List S122) (l2 : List S124) : Option Nat := (List.range l2.length).find? (fun i => !possB l1 (l2.take (i + 1)) [])
def soap_First.f (a0_0 : Int) (l0_1 : List (S122)) (l0_2 : List (S124)) : Option (Int × Int) :=
  some (if checkS a0_0 l0_1 l0_2 = 0 then (match firstO l0_1 l0_2 with | some i => ((i : Int), 0) | none => (0, 7)) else (0, checkS a0_0 l0_1 l0_2))
theorem checkS_take {n : Int} {l1 : List S122} {l2 : List S124} (h : checkS n l1 l2 = 0) (m : Nat) : checkS n l1 (l2.take m) = 0 := by
  obtain ⟨z0, z1, z2, z3, z4, z5, z6⟩ := z30 h
  have z5' : (l2.take m).all (sayingB n) = true := by
    rw [List.all_eq_true] at z5 ⊢
    exact fun x hx => z5 x (List.mem_of_mem_take hx)
  unfold checkS
  rw [if_neg (by
    rintro (q | q | q)
    · omega
    · omega
    · rw [List.length_take] at q; omega), if_neg (by
    rintro (q | q | q)
    · omega
    · rw [z4] at q; cases q
    · rw [z5'] at q; cases q), if_neg (by omega)]
theorem find_some {p : Nat → Bool} {n k : Nat} (hk : k < n) (hp : p k = true) (hm : ∀ j, j < k → p j = false) : (List.range n).find? p = some k := by
  rw [List.find?_eq_some_iff_getElem]
  refine ⟨hp, k, by simpa using hk, by simp, fun j hj => ?_⟩
  rw [List.getElem_range, hm j hj]
  rfl
theorem find_none {p : Nat → Bool} {n : Nat} (hm : ∀ j, j < n → p j = false) : (List.range n).find? p = none := by
  rw [List.find?_eq_none]
  intro x hx
  rw [hm x (List.mem_range.1 hx)]
  simp
set_option maxHeartbeats 4000000 in
set_option maxRecDepth 100000 in
theorem soap_First.calls (a0_0 : Int) (A0_1 : Option Addr) (c0_1 : Nat) (l0_1 : List (S122)) (A0_2 : Option Addr) (c0_2 : Nat) (l0_2 : List (S124)) (r1 r2 : Int) (w : World) (hr0_1 : Kd.C k122 w A0_1 l0_1.length l0_1) (hc0_1 : l0_1.length ≤ c0_1) (hr0_2 : Kd.C k124 w A0_2 l0_2.length l0_2) (hc0_2 : l0_2.length ≤ c0_2) (h : soap_First.f a0_0 l0_1 l0_2 = some (r1, r2)) :
    Calls Try.prog 39 #[.agg #[.int .i64 a0_0, .slice A0_1 l0_1.length c0_1, .slice A0_2 l0_2.length c0_2]] w fun e w' => e = .returned (.tuple #[.int .i64 r1, .int .i64 r2]) ∧ Below w.heap.size w w' := by
  have hu35 := Try.underlying35
  have hu33 := Try.underlying33
  have h2 := Option.some.inj h
  clear h
  have hbw : Below w.heap.size w (w.alloc (.cells #[.int .i64 a0_0, .slice A0_1 l0_1.length c0_1, .slice A0_2 l0_2.length c0_2] 35)) := z11 (Below.refl _ _) _
  have HCK := mkA (soap_CheckSlate.calls a0_0 A0_1 c0_1 l0_1 A0_2 c0_2 l0_2 _ _ (Kd.C_below hr0_1 hbw) hc0_1 (Kd.C_below hr0_2 hbw) hc0_2 rfl)
  have HR1 := mkA hr0_1
  have HR2 := mkA hr0_2
  have HBW := mkA hbw
  have HS0 := mkA (z23 w (.cells #[.int .i64 a0_0, .slice A0_1 l0_1.length c0_1, .slice A0_2 l0_2.length c0_2] 35))
  clear hr0_1 hr0_2 hbw
  go_enter Try.func39, Try.ntmps39
  go_wp2_with fail
  refine HCK.out.mono ?_
  rintro e w1 ⟨rfl, hb⟩
  have HB1 := mkA (z17 HBW.out hb)
  have HS1 := mkA (blk_below HS0.out hb)
  clear hb HCK HBW HS0
  by_cases hck : checkS a0_0 l0_1 l0_2 = 0
  · rw [if_pos hck] at h2
    have HZ := mkA hck
    have HH2 := mkA h2
    have hlt : w.heap.size < w1.heap.size := z27 HS1.out
    have hs0 : w1.cell? ⟨w.heap.size, 0, none⟩ = some (.int .i64 a0_0) := (z13 HS1.out 0).trans rfl
    have hs1 : w1.cell? ⟨w.heap.size, 1, none⟩ = some (.slice A0_1 l0_1.length c0_1) := (z13 HS1.out 1).trans rfl
    have hs2 : w1.cell? ⟨w.heap.size, 2, none⟩ = some (.slice A0_2 l0_2.length c0_2) := (z13 HS1.out 2).trans rfl
    have hl5 : l0_2.length ≤ 5 := by obtain ⟨z0, z1, z2, z3, _⟩ := z30 hck; exact z3
    rw [hck]
    clear h2 hck
    go_wp2
    go_loopw [16] (fun i wr => ∃ (k : Int) (sv : Value), 0 ≤ k ∧ k ≤ (l0_2.length : Int) ∧ i = .int .i64 k ∧ Aside0 (wr.heap[w.heap.size]? = some (.cells #[.int .i64 a0_0, .slice A0_1 l0_1.length c0_1, .slice A0_2 l0_2.length c0_2] 35 (0, 0))) ∧ Aside0 (wr.heap[w1.heap.size]? = some (.cells #[.int .i64 a0_0, .slice A0_1 l0_1.length c0_1, sv] 35 (0, 0))) ∧ Aside0 (Below w.heap.size w wr) ∧ Aside0 (∀ j : Nat, j < k.toNat → possB l0_1 (l0_2.take (j + 1)) [] = true)) (fun i _ => l0_2.length - (intOf i).toNat)
    case atStart => exact ⟨0, _, by omega, by omega, rfl, ⟨blk_below HS1.out (z11 (Below.refl _ _) _)⟩, ⟨z23 w1 _⟩, ⟨z11 HB1.out _⟩, ⟨fun j hj => by simp at hj⟩⟩
    case round =>
      obtain ⟨k, sv, hk0, hk1, rfl, HT, HG, HB, HM⟩ := hrel
      have t2 : wr.cell? ⟨w.heap.size, 2, none⟩ = some (.slice A0_2 l0_2.length c0_2) := (z13 HT.out 2).trans rfl
      by_cases hlk : k < (l0_2.length : Int)
      · have g1 : decide (k < (l0_2.length : Int)) = true := decide_eq_true hlk
        have u2 : wr.cell? ⟨w1.heap.size, 2, none⟩ = some sv := (z13 HG.out 2).trans rfl
        have uf2 : wr.frozen? ⟨w1.heap.size, 2, none⟩ = false := z14 HG.out _
        have u0 : wr.cell? ⟨w1.heap.size, 0, none⟩ = some (.int .i64 a0_0) := (z13 HG.out 0).trans rfl
        have u1 : wr.cell? ⟨w1.heap.size, 1, none⟩ = some (.slice A0_1 l0_1.length c0_1) := (z13 HG.out 1).trans rfl
        have hkl : (l0_2.take (k + 1).toNat).length = (k + 1).toNat := by rw [List.length_take]; omega
        have hd2 : (wr.setCell ⟨w1.heap.size, 2, none⟩ (.slice A0_2 (k + 1).toNat c0_2)).cell? ⟨w1.heap.size, 2, none⟩ = some (.slice A0_2 (k + 1).toNat c0_2) := World.cell?_setCell_same' _ _ _ (by rw [u2]; rfl)
        have HB2 := mkA (show Below w.heap.size w (wr.setCell ⟨w1.heap.size, 2, none⟩ (.slice A0_2 (k + 1).toNat c0_2)) from z15 HB.out (show w.heap.size ≤ w1.heap.size by omega))
        have HG2 := mkA (show (wr.setCell ⟨w1.heap.size, 2, none⟩ (.slice A0_2 (k + 1).toNat c0_2)).heap[w1.heap.size]? = some (.cells #[.int .i64 a0_0, .slice A0_1 l0_1.length c0_1, .slice A0_2 (k + 1).toNat c0_2] 35 (0, 0)) from by simp [World.setCell, Array.getElem?_modify, HG.out])
        have HT2 := mkA (show (wr.setCell ⟨w1.heap.size, 2, none⟩ (.slice A0_2 (k + 1).toNat c0_2)).heap[w.heap.size]? = _ from (Below.heap_setCell _ _ _ _ (show w.heap.size ≠ w1.heap.size by omega)).trans HT.out)
        have HPC := mkA (possible_calls a0_0 A0_1 c0_1 l0_1 A0_2 c0_2 (l0_2.take (k + 1).toNat) none 0 [] _ (checkS_take HZ.out _) (Kd.C_below HR1.out HB2.out) hc0_1 (Kd.C_take (Kd.C_below HR2.out HB2.out) (by omega)) (by omega) (Kd.C_nil _ _) (Nat.le_refl _) (by simp))
        rw [hkl] at HPC
        generalize hp : possB l0_1 (l0_2.take (k + 1).toNat) [] = pb at HPC
        have HP := mkA hp
        clear hp hkl
        simp only [List.length_nil] at HPC
        go_wp2_with fail
        refine HPC.out.mono ?_
        rintro e w3 ⟨rfl, hb⟩
        have HB3 := mkA (HB2.out.trans (hb.mono HB2.out.size))
        have HG3 := mkA (blk_below HG2.out hb)
        have HT3 := mkA (blk_below HT2.out hb)
        clear hb HPC
        cases pb with
        | true =>
          go_wp2
          go_round
          case measure => simp [intOf]; omega
          case rel =>
            refine ⟨k + 1, _, by omega, by omega, by go_num, HT3, HG3, HB3, ⟨fun j hj => ?_⟩⟩
            by_cases hjk : j < k.toNat
            · exact HM.out j hjk
            · obtain rfl : j = k.toNat := by omega
              rw [show k.toNat + 1 = (k + 1).toNat by omega]
              exact HP.out
        | false =>
          have hf : firstO l0_1 l0_2 = some k.toNat := find_some (by omega) (by rw [show k.toNat + 1 = (k + 1).toNat by omega, HP.out]; rfl) (fun j hj => by rw [HM.out j hj]; rfl)
          have hh := HH2.out
          rw [hf] at hh
          obtain ⟨rfl, rfl⟩ := Prod.mk.inj hh
          have HK := mkA (show ((k.toNat : Nat) : Int) = k by omega)
          clear hh hf
          go_wp2
          go_ret2
          exact ⟨by rw [HK.out]; rfl, HB3.out⟩
      · have g1 : decide (k < (l0_2.length : Int)) = false := decide_eq_false hlk
        obtain rfl : k = l0_2.length := by omega
        have hf : firstO l0_1 l0_2 = none := find_none (fun j hj => by rw [HM.out j (by simpa using hj)]; rfl)
        have hh := HH2.out
        rw [hf] at hh
        obtain ⟨rfl, rfl⟩ := Prod.mk.inj hh
        clear hh hf
        go_wp2
        go_ret2
        exact ⟨rfl, HB.out⟩
  · rw [if_neg hck] at h2
    obtain ⟨rfl, rfl⟩ := Prod.mk.inj h2
    generalize hqq : checkS a0_0 l0_1 l0_2 = q at hck ⊢
    have HQQ := mkA hqq
    have g1 : (q != 0) = true := bne_iff_ne.2 hck
    clear h2 hck hqq
    go_wp2
    go_ret2
    exact ⟨by rw [HQQ.out]; rfl, HB1.out⟩
end Go.Proofs.Ytncaadckehikpaa.Q
