/- A part of the proof: contracts of functions and plain facts (HMostRef, HPay0, HPay1, HMostRef2, Q1). No condition. -/
import Derived.Test.YtncaadckehikpaaM22
import Derived.Test.YtncaadckehikpaaM10
import Derived.Test.YtncaadckehikpaaM23
import Derived.Test.YtncaadckehikpaaM19
import Derived.Test.YtncaadckehikpaaM3
namespace Go.Proofs.Ytncaadckehikpaa.Q
open Go.RowKit Go.Proofs.YtncaadckehikpaaW.PrintWords Go.Proofs.YtncaadckehikpaaW.PrintLast Go.Proofs.YtncaadckehikpaaW.PrintMore
set_option linter.unusedVariables false
set_option linter.unusedSimpArgs false
/-- Some women are among others. -/
def SubB (a b : Nat) : Prop := ∀ i, i < 6 → bitN a i = true → bitN b i = true
theorem SubB.trans {a b c : Nat} (h : SubB a b) (k : SubB b c) : SubB a c := fun i hi q => k i hi (h i hi q)
theorem SubB.refl (a : Nat) : SubB a a := fun _ _ h => h
set_option maxRecDepth 100000 in
theorem bit_sub_all : ∀ a : Fin 64, ∀ b : Fin 64, (∀ i : Fin 6, bitN a.val i.val = true → bitN b.val i.val = true) → a.val ≤ b.val ∧ (a.val = b.val ∨ ∃ i : Fin 6, bitN b.val i.val = true ∧ bitN a.val i.val = false) ∧ ∀ i : Fin 6, bitN (b.val - a.val) i.val = (bitN b.val i.val && !bitN a.val i.val) := by decide +kernel
theorem bit_sub {a b : Nat} (ha : a < 64) (hb : b < 64) (h : SubB a b) : a ≤ b ∧ (a = b ∨ ∃ i, i < 6 ∧ bitN b i = true ∧ bitN a i = false) ∧ ∀ i, i < 6 → bitN (b - a) i = (bitN b i && !bitN a i) := by
  obtain ⟨h1, h2, h3⟩ := bit_sub_all ⟨a, ha⟩ ⟨b, hb⟩ (fun i q => h i.val i.isLt q)
  exact ⟨h1, h2.imp id (fun ⟨i, q⟩ => ⟨i.val, i.isLt, q⟩), fun i hi => h3 ⟨i, hi⟩⟩
set_option maxRecDepth 100000 in
theorem clr_bits_all : ∀ b : Fin 64, ∀ i : Fin 6, ∀ j : Fin 6, bitN (clr b.val i.val) j.val = (bitN b.val j.val && !(i.val == j.val)) := by decide +kernel
theorem clr_bits {b i j : Nat} (hb : b < 64) (hi : i < 6) (hj : j < 6) : bitN (clr b i) j = (bitN b j && !(i == j)) := clr_bits_all ⟨b, hb⟩ ⟨i, hi⟩ ⟨j, hj⟩
theorem clr_le (b i : Nat) : clr b i ≤ b := by
  unfold clr
  split
  · exact Nat.sub_le _ _
  · exact Nat.le_refl _
theorem clr_sub {b i : Nat} (hb : b < 64) (hi : i < 6) : SubB (clr b i) b := fun j hj h => by
  rw [clr_bits hb hi hj, Bool.and_eq_true] at h
  exact h.1
theorem sub_clr {a b i : Nat} (hb : b < 64) (hi : i < 6) (h : SubB a b) (ha : bitN a i = false) : SubB a (clr b i) := fun j hj q => by
  rw [clr_bits hb hi hj, Bool.and_eq_true]
  refine ⟨h j hj q, ?_⟩
  by_cases e : i = j
  · subst e; rw [ha] at q; cases q
  · simp [e]
theorem ne_zero_of_bit {m i : Nat} (h : bitN m i = true) : m ≠ 0 := by
  intro e
  subst e
  have := bitN_le h
  have : 0 < 2 ^ i := Nat.two_pow_pos i
  omega
theorem bestTo_ge (f : Nat → Int) (m : Nat) : ∀ n i, i < n → bitN m i = true → f (clr m i) ≤ bestTo f m n
  | 0, i, h, _ => by omega
  | n + 1, i, h, hb => by
    have hm : ∀ a b : Int, a ≤ mx a b ∧ b ≤ mx a b := fun a b => by unfold mx; split <;> omega
    simp only [bestTo]
    by_cases e : i = n
    · subst e
      rw [if_pos hb]
      exact (hm _ _).2
    · have := bestTo_ge f m n i (by omega) hb
      split
      · exact Int.le_trans this (hm _ _).1
      · exact this
/-- One woman fewer has no more groups; if all sum to 0, one group fewer. -/
theorem F_clr (v : List Int) {m i : Nat} (hi : i < 6) (hb : bitN m i = true) : F v (clr m i) + (if sumN v m = 0 then 1 else 0) ≤ F v m := by
  rw [F_step v m (ne_zero_of_bit hb)]
  have := bestTo_ge (F v) m 6 i hi hb
  omega
theorem Fmono6 (v : List Int) : ∀ (k m a : Nat), m ≤ k → m < 64 → a < 64 → SubB a m → F v a ≤ F v m
  | 0, m, a, hk, hm, ha, h => by
    obtain ⟨h1, _, _⟩ := bit_sub ha hm h
    rw [show a = m by omega]
    exact Int.le_refl _
  | k + 1, m, a, hk, hm, ha, h => by
    obtain ⟨h1, h2, h3⟩ := bit_sub ha hm h
    rcases h2 with rfl | ⟨i, hi, hb, hn⟩
    · exact Int.le_refl _
    · have hlt := clr_lt hb
      have ih := Fmono6 v k (clr m i) a (by omega) (by omega) ha (sub_clr hm hi h hn)
      have := F_clr v hi hb
      split at this <;> omega
/-- A group that is taken away leaves one fewer at most. -/
theorem Ftake6 (v : List Int) {m g : Nat} (hm : m < 64) (hg : g < 64) (h : SubB g m) (h0 : g ≠ 0) (hs : sumN v m = 0) : 1 + F v (m - g) ≤ F v m := by
  obtain ⟨h1, h2, h3⟩ := bit_sub hg hm h
  obtain ⟨i, hi⟩ := has_bit_all ⟨g, hg⟩ h0
  have hbm := h i.val i.isLt hi
  have hf := F_clr v i.isLt hbm
  rw [if_pos hs] at hf
  have hsub : SubB (m - g) (clr m i.val) := fun j hj q => by
    rw [h3 j hj, Bool.and_eq_true] at q
    rw [clr_bits hm i.isLt hj, Bool.and_eq_true]
    refine ⟨q.1, ?_⟩
    by_cases e : i.val = j
    · rw [← e, show bitN g i.val = true from hi] at q
      simp at q
    · simp [e]
  have := Fmono6 v (clr m i.val) (clr m i.val) (m - g) (Nat.le_refl _) (by have := clr_le m i.val; omega) (by omega) hsub
  omega
theorem sumTo_sub (v : List Int) {a b : Nat} (ha : a < 64) (hb : b < 64) (h : SubB a b) : ∀ n, n ≤ 6 → sumTo v b n = sumTo v a n + sumTo v (b - a) n
  | 0, _ => by simp [sumTo]
  | n + 1, hn => by
    have ih := sumTo_sub v ha hb h n (by omega)
    obtain ⟨h1, h2, h3⟩ := bit_sub ha hb h
    simp only [sumTo]
    rw [h3 n (by omega)]
    have hx := h n (by omega)
    cases hbn : bitN b n <;> cases han : bitN a n <;> simp [hbn, han] at hx ⊢ <;> omega
theorem sumN_sub (v : List Int) {a b : Nat} (ha : a < 64) (hb : b < 64) (h : SubB a b) : sumN v b = sumN v a + sumN v (b - a) := sumTo_sub v ha hb h 6 (by omega)
/-- Some women who sum to 0 have as many groups. -/
theorem F_core (v : List Int) : ∀ (k m : Nat), m ≤ k → m < 64 → ∃ a, SubB a m ∧ a ≤ m ∧ sumN v a = 0 ∧ F v m = F v a
  | 0, m, hk, hm => ⟨m, SubB.refl m, Nat.le_refl _, by rw [show m = 0 by omega]; simp [sumN, sumTo, bitN], rfl⟩
  | k + 1, m, hk, hm => by
    by_cases h0 : m = 0
    · subst h0
      exact ⟨0, SubB.refl 0, Nat.le_refl _, by simp [sumN, sumTo, bitN], rfl⟩
    · by_cases hs : sumN v m = 0
      · exact ⟨m, SubB.refl m, Nat.le_refl _, hs, rfl⟩
      · obtain ⟨i0, hi0⟩ := has_bit_all ⟨m, hm⟩ h0
        obtain ⟨i, hi, hb, he⟩ := bestTo_hit (f := F v) (m := m) (fun j _ => (F_bd v _).1) 6 ⟨i0.val, i0.isLt, hi0⟩
        have hlt := clr_lt hb
        obtain ⟨a, h1, h2, h3, h4⟩ := F_core v k (clr m i) (by omega) (by omega)
        refine ⟨a, h1.trans (clr_sub hm hi), by omega, h3, ?_⟩
        rw [F_step v m h0, if_neg hs, ← he, h4]
        omega
/-- Whichever woman is asked for: a group with her begins a way that has as many groups. -/
theorem F_with (v : List Int) : ∀ (k m f : Nat), m ≤ k → m < 64 → f < 6 → bitN m f = true → sumN v m = 0 →
    ∃ g, g < 64 ∧ SubB g m ∧ bitN g f = true ∧ sumN v g = 0 ∧ F v m ≤ 1 + F v (m - g)
  | 0, m, f, hk, hm, hf, hb, hs => absurd (show m = 0 by omega) (ne_zero_of_bit hb)
  | k + 1, m, f, hk, hm, hf, hb, hs => by
    have h0 := ne_zero_of_bit hb
    obtain ⟨i, hi, hbi, he⟩ := bestTo_hit (f := F v) (m := m) (fun j _ => (F_bd v _).1) 6 ⟨f, hf, hb⟩
    have hlt := clr_lt hbi
    obtain ⟨a, a1, a2, a3, a4⟩ := F_core v (clr m i) (clr m i) (Nat.le_refl _) (by omega)
    have ham : SubB a m := a1.trans (clr_sub hm hi)
    have hF : F v m = 1 + F v a := by rw [F_step v m h0, if_pos hs, ← he, a4]; omega
    obtain ⟨b1, b2, b3⟩ := bit_sub (show a < 64 by omega) hm ham
    have hsum := sumN_sub v (show a < 64 by omega) hm ham
    by_cases haf : bitN a f = true
    · obtain ⟨g, g1, g2, g3, g4, g5⟩ := F_with v k a f (by omega) (by omega) hf haf a3
      have hgm : SubB g m := g2.trans ham
      obtain ⟨c1, c2, c3⟩ := bit_sub g1 (show a < 64 by omega) g2
      obtain ⟨d1, d2, d3⟩ := bit_sub g1 hm hgm
      refine ⟨g, g1, hgm, g3, g4, ?_⟩
      have hs2 : sumN v (m - g) = 0 := by have := sumN_sub v g1 hm hgm; omega
      have hsub : SubB (m - a) (m - g) := fun j hj q => by
        rw [b3 j hj, Bool.and_eq_true] at q
        rw [d3 j hj, Bool.and_eq_true]
        refine ⟨q.1, ?_⟩
        cases hg : bitN g j
        · rfl
        · have := g2 j hj hg
          rw [this] at q
          simp at q
      have ht := Ftake6 v (m := m - g) (g := m - a) (by omega) (by omega) hsub (by omega) hs2
      have e : m - g - (m - a) = a - g := by omega
      rw [e] at ht
      omega
    · refine ⟨m - a, by omega, fun j hj q => ?_, ?_, by omega, ?_⟩
      · rw [b3 j hj, Bool.and_eq_true] at q
        exact q.1
      · rw [b3 f hf, hb, show bitN a f = false by simpa using haf]
        rfl
      · rw [show m - (m - a) = a by omega, hF]
        exact Int.le_refl _
/-! The reference's search. -/
theorem rbits_all : ∀ m : Fin 64, pr_Bits.f 8 (m.val : Int) = some (bitsL m.val) := by decide +kernel
theorem Bits_f (k m : Nat) (h : m < 64) (hk : 8 ≤ k) : pr_Bits.f k (m : Int) = some (bitsL m) := by
  obtain ⟨d, rfl⟩ : ∃ d, k = 8 + d := ⟨k - 8, by omega⟩
  clear hk
  induction d with
  | zero => exact rbits_all ⟨m, h⟩
  | succ d ih => exact pr_Bits.mono _ _ _ ih
theorem bitsL_sum (v : List Int) (m : Nat) : ((bitsL m).map (fun i => rd v i)).sum = sumN v m := by
  unfold bitsL sumN
  have : ∀ n, ((((List.range n).filter (bitN m)).map Int.ofNat).map (fun i => rd v i)).sum = sumTo v m n := by
    intro n
    induction n with
    | zero => rfl
    | succ n ih =>
      rw [List.range_succ, List.filter_append, List.map_append, List.map_append, List.sum_append, ih]
      simp only [sumTo]
      cases h : bitN m n
      · simp [h]
      · simp [h]
  exact this 6
theorem bitsL_mem (m : Nat) : ∀ i ∈ bitsL m, 0 ≤ i ∧ i < 6 := by
  intro i hi
  unfold bitsL at hi
  obtain ⟨j, hj, rfl⟩ := List.mem_map.1 hi
  have := List.mem_range.1 (List.mem_filter.1 hj).1
  simp only [Int.ofNat_eq_natCast]
  omega
theorem rdI' (xs : List Int) (i : Nat) (h : i < xs.length) : rd xs (i : Int) = xs[i] := getD_of xs _ i h
section
variable (n : Int) (l1 : List S91) (l2 : List S94) (os : List Int) (hck : checkS n (l1.map c91) (l2.map c94) = 0) (ho : Small (l1.map c91) os)
set_option linter.unusedSectionVars false
include hck ho
theorem owed_500 (j : Int) : -500 ≤ rd (owedL (l1.map c91) os) j ∧ rd (owedL (l1.map c91) os) j ≤ 500 := by
  have := owedTo_bd (l1.map c91) os ho.2 (l1.map c91).length (Nat.le_refl _) j
  have hl := (z40 hck).2.2.1
  rw [List.length_map] at this
  unfold owedL
  rw [List.length_map]
  omega
theorem Together_l0 (bs : List Int) (hb : ∀ i ∈ bs, 0 ≤ i ∧ i < 6) (hbl : bs.length ≤ 6) : ∀ (d k i : Nat) (s : Int), i + d = bs.length → d + 7 < k → -(500 * (i : Int)) ≤ s → s ≤ 500 * (i : Int) →
    pr_Together.l0 k os s bs i n l1 l2 = some (s + ((bs.drop i).map (fun i => rd (owedL (l1.map c91) os) i)).sum)
  | 0, k + 1, i, s, hi, hk, h1, h2 => by
    rw [pr_Together.l0, if_neg (by omega), List.drop_of_length_le (by omega)]
    simp
  | d + 1, k + 1, i, s, hi, hk, h1, h2 => by
    have hn : i < bs.length := by omega
    have hm := hb _ (List.getElem_mem hn)
    have hv := owed_500 n l1 l2 os hck ho bs[i]
    rw [pr_Together.l0, if_pos (by omega), if_pos (by omega), rdI' bs i hn, Owed_f k n l1 l2 os _ hck ho hm.1 hm.2 (by omega), Option.bind_some, w1 i (by omega),
      show wrap64 (s + rd (owedL (l1.map c91) os) bs[i]) = s + rd (owedL (l1.map c91) os) bs[i] by unfold wrap64; omega, Together_l0 bs hb hbl d k (i + 1) _ (by omega) (by omega) (by omega) (by omega), List.drop_eq_getElem_cons hn, List.map_cons, List.sum_cons]
    refine congrArg some ?_
    omega
theorem Together_f (k m : Nat) (hm : m < 64) (hk : 20 ≤ k) : pr_Together.f k n l1 l2 os (m : Int) = some (sumN (owedL (l1.map c91) os) m) := by
  unfold pr_Together.f
  have hl := z45 m
  rw [Bits_f k m hm (by omega), Option.bind_some]
  have := Together_l0 n l1 l2 os hck ho (bitsL m) (bitsL_mem m) hl (bitsL m).length k 0 0 (by omega) (by omega) (by simp) (by simp)
  refine Eq.trans (show pr_Together.l0 k os 0 (bitsL m) 0 n l1 l2 = _ from this) ?_
  rw [List.drop_zero, bitsL_sum, Int.zero_add]
end
end Go.Proofs.Ytncaadckehikpaa.Q
namespace Go.Proofs.Ytncaadckehikpaa.Q
open Go.RowKit Go.Proofs.YtncaadckehikpaaW.PrintWords Go.Proofs.YtncaadckehikpaaW.PrintLast Go.Proofs.YtncaadckehikpaaW.PrintMore
set_option linter.unusedVariables false
set_option linter.unusedSimpArgs false
/-- What a payment changes for a woman. -/
def eff1 (p : S76) (i : Int) : Int := (if p.f0 = i then p.f2 else 0) - (if p.f1 = i then p.f2 else 0)
def eff (ps : List S76) (i : Int) : Int := (ps.map (fun p => eff1 p i)).sum
theorem eff_append (a b : List S76) (i : Int) : eff (a ++ b) i = eff a i + eff b i := by simp [eff]
theorem eff_cons (p : S76) (b : List S76) (i : Int) : eff (p :: b) i = eff1 p i + eff b i := by simp [eff]
/-- Women of six, not the same one twice. -/
def Six (p : S76) : Prop := 0 ≤ p.f0 ∧ p.f0 < 6 ∧ 0 ≤ p.f1 ∧ p.f1 < 6 ∧ p.f0 ≠ p.f1
theorem rd_pay1 (v : List Int) (p : S76) (hv : v.length = 6) (hp : Six p) (i : Int) (h0 : 0 ≤ i) (h6 : i < 6) : rd (pay1 v p) i = rd v i + eff1 p i := by
  obtain ⟨q0, q1, q2, q3, q4⟩ := hp
  simp only [pay1]
  rw [rd_upd _ _ _ _ q2 (by rw [z48, hv]; omega) h0]
  unfold eff1
  by_cases a : i = p.f1
  · rw [if_pos a, rd_upd _ _ _ _ q0 (by rw [hv]; omega) q2, if_neg (by omega), if_neg (by omega), if_pos a.symm, a]
    omega
  · rw [if_neg a, rd_upd _ _ _ _ q0 (by rw [hv]; omega) h0]
    by_cases b : i = p.f0
    · rw [if_pos b, if_pos b.symm, if_neg (by omega), b]
      omega
    · rw [if_neg b, if_neg (fun h => b h.symm), if_neg (fun h => a h.symm)]
      omega
theorem sumTo_pay (v w : List Int) (p : S76) (hp : Six p) (h : ∀ i : Int, 0 ≤ i → i < 6 → rd w i = rd v i + eff1 p i) (m : Nat) : ∀ n : Nat, n ≤ 6 →
    sumTo w m n = sumTo v m n + (if p.f0 < n ∧ bitN m p.f0.toNat = true then p.f2 else 0) - (if p.f1 < n ∧ bitN m p.f1.toNat = true then p.f2 else 0)
  | 0, _ => by
    obtain ⟨q0, q1, q2, q3, q4⟩ := hp
    rw [if_neg (by omega), if_neg (by omega)]
    simp [sumTo]
  | n + 1, hn => by
    have ih := sumTo_pay v w p hp h m n (by omega)
    obtain ⟨q0, q1, q2, q3, q4⟩ := hp
    have hr := h (n : Int) (by omega) (by omega)
    unfold eff1 at hr
    simp only [sumTo]
    by_cases a : p.f0 = n
    · have ha : p.f0.toNat = n := by omega
      rw [if_pos a, if_neg (by omega)] at hr
      rw [ha] at ih ⊢
      rw [if_neg (by omega)] at ih
      have e : (p.f1 < ((n + 1 : Nat) : Int) ∧ bitN m p.f1.toNat = true) ↔ (p.f1 < (n : Int) ∧ bitN m p.f1.toNat = true) := ⟨fun q => ⟨by omega, q.2⟩, fun q => ⟨by omega, q.2⟩⟩
      by_cases hb : bitN m n = true
      · rw [if_pos hb, if_pos hb, if_pos (And.intro (show p.f0 < ((n + 1 : Nat) : Int) by omega) hb)]
        simp only [e]
        omega
      · rw [if_neg hb, if_neg hb, if_neg (fun q => hb q.2)]
        simp only [e]
        omega
    · have e0 : (p.f0 < ((n + 1 : Nat) : Int) ∧ bitN m p.f0.toNat = true) ↔ (p.f0 < (n : Int) ∧ bitN m p.f0.toNat = true) := ⟨fun q => ⟨by omega, q.2⟩, fun q => ⟨by omega, q.2⟩⟩
      rw [if_neg a] at hr
      by_cases b : p.f1 = n
      · have hb' : p.f1.toNat = n := by omega
        rw [if_pos b] at hr
        rw [hb'] at ih ⊢
        rw [if_neg (c := p.f1 < (n : Int) ∧ bitN m n = true) (by omega)] at ih
        by_cases hb : bitN m n = true
        · rw [if_pos hb, if_pos hb, if_pos (And.intro (show p.f1 < ((n + 1 : Nat) : Int) by omega) hb)]
          simp only [e0]
          omega
        · rw [if_neg hb, if_neg hb, if_neg (c := p.f1 < ((n + 1 : Nat) : Int) ∧ bitN m n = true) (fun q => hb q.2)]
          simp only [e0]
          omega
      · have e1 : (p.f1 < ((n + 1 : Nat) : Int) ∧ bitN m p.f1.toNat = true) ↔ (p.f1 < (n : Int) ∧ bitN m p.f1.toNat = true) := ⟨fun q => ⟨by omega, q.2⟩, fun q => ⟨by omega, q.2⟩⟩
        rw [if_neg b] at hr
        simp only [e0, e1]
        by_cases hb : bitN m n = true
        · rw [if_pos hb, if_pos hb]; omega
        · rw [if_neg hb, if_neg hb]; omega
/-- A sum that both women, or neither, are of stays. -/
theorem sumN_pay {v w : List Int} {p : S76} (hp : Six p) (h : ∀ i : Int, 0 ≤ i → i < 6 → rd w i = rd v i + eff1 p i) {m : Nat} (hb : bitN m p.f0.toNat = bitN m p.f1.toNat) : sumN w m = sumN v m := by
  have := sumTo_pay v w p hp h m 6 (by omega)
  obtain ⟨q0, q1, q2, q3, q4⟩ := hp
  unfold sumN
  rw [this, hb]
  have e0 : p.f0 < ((6 : Nat) : Int) := by omega
  have e1 : p.f1 < ((6 : Nat) : Int) := by omega
  simp only [e0, e1, true_and]
  omega
end Go.Proofs.Ytncaadckehikpaa.Q
namespace Go.Proofs.Ytncaadckehikpaa.Q
open Go.RowKit Go.Proofs.YtncaadckehikpaaW.PrintWords Go.Proofs.YtncaadckehikpaaW.PrintLast Go.Proofs.YtncaadckehikpaaW.PrintMore
set_option linter.unusedVariables false
set_option linter.unusedSimpArgs false
/-- What the women of a group are owed, 0 for others. -/
def maskV (g : Nat) (u : List Int) : List Int := (List.range 6).map (fun i : Nat => if bitN g i = true then rd u (i : Int) else 0)
theorem z55 (g : Nat) (u : List Int) (i : Nat) : rd (maskV g u) (i : Int) = if i < 6 ∧ bitN g i = true then rd u (i : Int) else 0 := by
  unfold rd maskV
  rw [Int.toNat_natCast, List.getD_eq_getElem?_getD, List.getElem?_map]
  by_cases h : i < 6
  · rw [List.getElem?_range h]
    simp only [Option.map_some, Option.getD_some, h, true_and]
    rfl
  · rw [List.getElem?_eq_none (by simp; omega)]
    simp [h]
theorem z54 (g : Nat) (x : Int) : x ∈ bitsL g ↔ 0 ≤ x ∧ x < 6 ∧ bitN g x.toNat = true := by
  unfold bitsL
  rw [List.mem_map]
  constructor
  · rintro ⟨j, hj, rfl⟩
    rw [List.mem_filter, List.mem_range] at hj
    simp only [Int.ofNat_eq_natCast, Int.toNat_natCast]
    exact ⟨by omega, by omega, hj.2⟩
  · rintro ⟨h0, h6, hb⟩
    exact ⟨x.toNat, List.mem_filter.2 ⟨List.mem_range.2 (by omega), hb⟩, by simp only [Int.ofNat_eq_natCast]; omega⟩
theorem fi_neg {α : Type} (p : α → Bool) (xs : List α) (h : fi p xs < 0) : ∀ x ∈ xs, p x = false := by
  intro x hx
  have := fi_any p xs
  rw [decide_eq_false (by omega)] at this
  have h2 := List.any_eq_false.1 this.symm x hx
  simpa using h2
theorem sum_pos (u : List Int) (g : Nat) : ∀ n : Nat, (∀ i : Nat, i < n → bitN g i = true → 0 ≤ rd u (i : Int)) → 0 ≤ sumTo u g n ∧ (sumTo u g n = 0 → ∀ i : Nat, i < n → bitN g i = true → rd u (i : Int) = 0)
  | 0, _ => ⟨by simp [sumTo], fun _ i hi => by omega⟩
  | n + 1, h => by
    obtain ⟨h1, h2⟩ := sum_pos u g n (fun i hi => h i (by omega))
    simp only [sumTo]
    by_cases hb : bitN g n = true
    · have := h n (by omega) hb
      rw [if_pos hb]
      refine ⟨by omega, fun q i hi hbi => ?_⟩
      by_cases e : i = n
      · rw [e]; omega
      · exact h2 (by omega) i (by omega) hbi
    · rw [if_neg hb]
      refine ⟨h1, fun q i hi hbi => ?_⟩
      by_cases e : i = n
      · rw [e] at hbi; exact absurd hbi hb
      · exact h2 q i (by omega) hbi
theorem sum_neg (u : List Int) (g : Nat) : ∀ n : Nat, (∀ i : Nat, i < n → bitN g i = true → rd u (i : Int) ≤ 0) → sumTo u g n ≤ 0 ∧ (sumTo u g n = 0 → ∀ i : Nat, i < n → bitN g i = true → rd u (i : Int) = 0)
  | 0, _ => ⟨by simp [sumTo], fun _ i hi => by omega⟩
  | n + 1, h => by
    obtain ⟨h1, h2⟩ := sum_neg u g n (fun i hi => h i (by omega))
    simp only [sumTo]
    by_cases hb : bitN g n = true
    · have := h n (by omega) hb
      rw [if_pos hb]
      refine ⟨by omega, fun q i hi hbi => ?_⟩
      by_cases e : i = n
      · rw [e]; omega
      · exact h2 (by omega) i (by omega) hbi
    · rw [if_neg hb]
      refine ⟨h1, fun q i hi hbi => ?_⟩
      by_cases e : i = n
      · rw [e] at hbi; exact absurd hbi hb
      · exact h2 q i (by omega) hbi
theorem nz_none (w : List Int) : ∀ n : Nat, (∀ i : Nat, i < n → rd w (i : Int) = 0) → nzTo w n = 0
  | 0, _ => rfl
  | n + 1, h => by
    simp only [nzTo]
    rw [nz_none w n (fun i hi => h i (by omega)), if_neg (by simpa using h n (by omega))]
theorem nz_all (w : List Int) : ∀ n : Nat, nzTo w n = 0 → ∀ i : Nat, i < n → rd w (i : Int) = 0
  | 0, _, i, hi => by omega
  | n + 1, h, i, hi => by
    simp only [nzTo] at h
    by_cases e : rd w (n : Int) ≠ 0
    · rw [if_pos e] at h; omega
    · rw [if_neg e] at h
      by_cases q : i = n
      · rw [q]; simpa using e
      · exact nz_all w n (by omega) i (by omega)
theorem nz_two (w : List Int) (hw : w.length = 6) (a b : Nat) (ha : a < 6) (hb : b < 6) (hne : a ≠ b) (h1 : rd w (a : Int) ≠ 0) (h2 : rd w (b : Int) ≠ 0) : 2 ≤ nzTo w 6 := by
  have r := fun (v : List Int) (hv : v.length = 6) (a : Nat) (ha : a < 6) (j : Nat) => rd_upd v (a : Int) 0 (j : Int) (by omega) (by omega) (by omega)
  have s1 := z53 w (upd w (a : Int) 0) a h1 (by rw [r w hw a ha, if_pos rfl]) (fun j hj => by rw [r w hw a ha]; split <;> first | rfl | exact hj) 6
  have hl : (upd w (a : Int) 0).length = 6 := by rw [z48, hw]
  have s2 := z53 (upd w (a : Int) 0) (upd (upd w (a : Int) 0) (b : Int) 0) b (by rw [r w hw a ha, if_neg (by omega)]; exact h2) (by rw [r _ hl b hb, if_pos rfl]) (fun j hj => by rw [r _ hl b hb]; split <;> first | rfl | exact hj) 6
  rw [if_pos ha] at s1
  rw [if_pos hb] at s2
  omega
theorem nz_mask_le (g : Nat) (v : List Int) : nzTo (maskV g v) 6 ≤ (bitsL g).length := by
  unfold bitsL
  rw [List.length_map]
  have : ∀ n : Nat, n ≤ 6 → nzTo (maskV g v) n ≤ ((List.range n).filter (bitN g)).length := by
    intro n
    induction n with
    | zero => intro _; simp [nzTo]
    | succ n ih =>
      intro hn
      have := ih (by omega)
      simp only [nzTo]
      rw [List.range_succ, List.filter_append, List.length_append, z55]
      by_cases hb : bitN g n = true
      · have h1 : ∀ x : Int, (if x ≠ 0 then 1 else 0) ≤ 1 := fun x => by split <;> omega
        have h2 := h1 (if n < 6 ∧ bitN g n = true then rd v (n : Int) else 0)
        simp only [List.filter_cons, List.filter_nil, hb, if_true, List.length_cons, List.length_nil] at h2 ⊢
        omega
      · have e : (if n < 6 ∧ bitN g n = true then rd v (n : Int) else 0) = 0 := if_neg (fun q => hb q.2)
        rw [e]
        simp only [ne_eq, not_true_eq_false, if_false]
        omega
  exact this 6 (by omega)
/-- What the payments of a group do. -/
def Good (g : Nat) (B : Int) (ps : List S76) : Prop := ∀ p ∈ ps, Six p ∧ bitN g p.f0.toNat = true ∧ bitN g p.f1.toNat = true ∧ 1 ≤ p.f2 ∧ p.f2 ≤ B
theorem settle_spec (g : Nat) (hg : g < 64) (B : Int) : ∀ (k : Nat) (u : List Int), u.length = 6 → sumN u g = 0 → (∀ i : Nat, i < 6 → -B ≤ rd u (i : Int) ∧ rd u (i : Int) ≤ B) → nzTo (maskV g u) 6 ≤ k →
    Good g B (z32 (bitsL g) k u) ∧ (∀ i : Nat, i < 6 → eff (z32 (bitsL g) k u) (i : Int) = if bitN g i = true then -rd u (i : Int) else 0) ∧
      (z32 (bitsL g) k u).length + (if nzTo (maskV g u) 6 = 0 then 0 else 1) ≤ nzTo (maskV g u) 6
  | 0, u, hu, hs, hB, hk => by
    have hz := nz_all (maskV g u) 6 (by omega)
    refine ⟨fun p hp => by simp [z32] at hp, fun i hi => ?_, ?_⟩
    · have := hz i hi
      rw [z55] at this
      simp only [z32, eff, List.map_nil, List.sum_nil]
      by_cases hb : bitN g i = true
      · rw [if_pos ⟨hi, hb⟩] at this
        rw [if_pos hb]; omega
      · rw [if_neg hb]
    · rw [if_pos (by omega)]
      simp [z32]
  | k + 1, u, hu, hs, hB, hk => by
    by_cases c : fi (negB u) (bitsL g) < 0 ∨ fi (posB u) (bitsL g) < 0
    · have hz : ∀ i : Nat, i < 6 → bitN g i = true → rd u (i : Int) = 0 := by
        rcases c with c | c
        · have hn := fi_neg _ _ c
          exact (sum_pos u g 6 (fun i hi hb => by
            have := hn (i : Int) ((z54 g _).2 ⟨by omega, by omega, by rw [Int.toNat_natCast]; exact hb⟩)
            unfold negB at this
            have := of_decide_eq_false this
            omega)).2 hs
        · have hn := fi_neg _ _ c
          exact (sum_neg u g 6 (fun i hi hb => by
            have := hn (i : Int) ((z54 g _).2 ⟨by omega, by omega, by rw [Int.toNat_natCast]; exact hb⟩)
            unfold posB at this
            have := of_decide_eq_false this
            omega)).2 hs
      have hnz : nzTo (maskV g u) 6 = 0 := nz_none _ 6 (fun i hi => by
        rw [z55]
        split
        · rename_i q; exact hz i hi q.2
        · rfl)
      simp only [z32, if_pos c]
      refine ⟨fun p hp => by simp at hp, fun i hi => ?_, by rw [hnz]; simp⟩
      simp only [eff, List.map_nil, List.sum_nil]
      by_cases hb : bitN g i = true
      · rw [if_pos hb, hz i hi hb]; rfl
      · rw [if_neg hb]
    · have c1 : ¬ fi (negB u) (bitsL g) < 0 := fun q => c (Or.inl q)
      have c2 : ¬ fi (posB u) (bitsL g) < 0 := fun q => c (Or.inr q)
      obtain ⟨⟨p0, p1⟩, ⟨p2, p3⟩, p4, p5, p6, p7, p8, p9⟩ := pay_left (bitsL g) u hu (bitsL_lt g) c1 c2
      have hm0 : (nextPay (bitsL g) u).f0 ∈ bitsL g := by
        obtain ⟨n0, n1, n2⟩ := (fi_spec (0 : Int) (negB u) (bitsL g)).resolve_left (by omega)
        have hlt : (fi (negB u) (bitsL g)).toNat < (bitsL g).length := by omega
        show (bitsL g).getD (fi (negB u) (bitsL g)).toNat 0 ∈ bitsL g
        rw [List.getD_eq_getElem?_getD, List.getElem?_eq_getElem hlt]
        exact List.getElem_mem hlt
      have hm1 : (nextPay (bitsL g) u).f1 ∈ bitsL g := by
        obtain ⟨n0, n1, n2⟩ := (fi_spec (0 : Int) (posB u) (bitsL g)).resolve_left (by omega)
        have hlt : (fi (posB u) (bitsL g)).toNat < (bitsL g).length := by omega
        show (bitsL g).getD (fi (posB u) (bitsL g)).toNat 0 ∈ bitsL g
        rw [List.getD_eq_getElem?_getD, List.getElem?_eq_getElem hlt]
        exact List.getElem_mem hlt
      generalize hp : nextPay (bitsL g) u = p at *
      have hb0 := ((z54 g _).1 hm0).2.2
      have hb1 := ((z54 g _).1 hm1).2.2
      have hsix : Six p := ⟨p0, p1, p2, p3, p4⟩
      have hr := rd_pay1 u p hu hsix
      have hB0 := hB p.f0.toNat (by omega)
      have hB1 := hB p.f1.toNat (by omega)
      rw [show ((p.f0.toNat : Nat) : Int) = p.f0 by omega] at hB0
      rw [show ((p.f1.toNat : Nat) : Int) = p.f1 by omega] at hB1
      have hmn : p.f2 ≤ -(rd u p.f0) ∧ p.f2 ≤ rd u p.f1 ∧ (p.f2 = -(rd u p.f0) ∨ p.f2 = rd u p.f1) := by rw [p7]; unfold mn; split <;> omega
      have hs' : sumN (pay1 u p) g = 0 := by rw [sumN_pay hsix hr (by rw [hb0, hb1])]; exact hs
      have e0 : eff1 p p.f0 = p.f2 := by unfold eff1; rw [if_pos rfl, if_neg (by omega)]; omega
      have e1 : eff1 p p.f1 = -p.f2 := by unfold eff1; rw [if_neg (by omega), if_pos rfl]; omega
      have r0 := hr p.f0 p0 p1
      have r1 := hr p.f1 p2 p3
      rw [e0] at r0
      rw [e1] at r1
      have eo : ∀ i : Int, i ≠ p.f0 → i ≠ p.f1 → eff1 p i = 0 := fun i a b => by unfold eff1; rw [if_neg (fun q => a q.symm), if_neg (fun q => b q.symm)]; rfl
      have hkeep : ∀ j : Nat, rd (maskV g u) (j : Int) = 0 → rd (maskV g (pay1 u p)) (j : Int) = 0 := fun j hj => by
        rw [z55] at hj ⊢
        split
        · rename_i q
          rw [if_pos q] at hj
          by_cases a : (j : Int) = p.f0
          · rw [a] at hj; omega
          · by_cases b : (j : Int) = p.f1
            · rw [b] at hj; omega
            · rw [hr j (by omega) (by omega), eo _ a b, hj]; rfl
        · rfl
      have m0 : rd (maskV g u) ((p.f0.toNat : Nat) : Int) = rd u p.f0 := by rw [z55, if_pos ⟨by omega, hb0⟩, show ((p.f0.toNat : Nat) : Int) = p.f0 by omega]
      have m1 : rd (maskV g u) ((p.f1.toNat : Nat) : Int) = rd u p.f1 := by rw [z55, if_pos ⟨by omega, hb1⟩, show ((p.f1.toNat : Nat) : Int) = p.f1 by omega]
      have m0' : rd (maskV g (pay1 u p)) ((p.f0.toNat : Nat) : Int) = rd (pay1 u p) p.f0 := by rw [z55, if_pos ⟨by omega, hb0⟩, show ((p.f0.toNat : Nat) : Int) = p.f0 by omega]
      have m1' : rd (maskV g (pay1 u p)) ((p.f1.toNat : Nat) : Int) = rd (pay1 u p) p.f1 := by rw [z55, if_pos ⟨by omega, hb1⟩, show ((p.f1.toNat : Nat) : Int) = p.f1 by omega]
      have hlt : nzTo (maskV g (pay1 u p)) 6 < nzTo (maskV g u) 6 := by
        rcases hmn.2.2 with q | q
        · have := z53 (maskV g u) (maskV g (pay1 u p)) p.f0.toNat (by rw [m0]; omega) (by rw [m0', r0]; omega) hkeep 6
          rw [if_pos (by omega)] at this
          omega
        · have := z53 (maskV g u) (maskV g (pay1 u p)) p.f1.toNat (by rw [m1]; omega) (by rw [m1', r1]; omega) hkeep 6
          rw [if_pos (by omega)] at this
          omega
      have h2 := nz_two (maskV g u) (by simp [maskV]) p.f0.toNat p.f1.toNat (by omega) (by omega) (by omega) (by rw [m0]; omega) (by rw [m1]; omega)
      obtain ⟨i1, i2, i3⟩ := settle_spec g hg B k (pay1 u p) (by rw [pay1_length]; exact hu) hs' (fun i hi => by
        have := hB i hi
        rw [hr i (by omega) (by omega)]
        by_cases a : (i : Int) = p.f0
        · rw [a, e0]; omega
        · by_cases b : (i : Int) = p.f1
          · rw [b, e1]; omega
          · rw [eo _ a b]; omega) (by omega)
      simp only [z32, if_neg c, hp]
      refine ⟨?_, ?_, ?_⟩
      · intro q hq
        rcases List.mem_cons.1 hq with rfl | hq
        · exact ⟨hsix, hb0, hb1, p8, by omega⟩
        · exact i1 q hq
      · intro i hi
        rw [eff_cons, i2 i hi, hr i (by omega) (by omega)]
        by_cases hb : bitN g i = true
        · rw [if_pos hb, if_pos hb]; omega
        · rw [if_neg hb, if_neg hb, eo _ (fun q => hb (by rw [← q, Int.toNat_natCast] at hb0; exact hb0)) (fun q => hb (by rw [← q, Int.toNat_natCast] at hb1; exact hb1))]
          rfl
      · rw [List.length_cons]
        split at i3 <;> split <;> omega
theorem settleL_spec (g : Nat) (hg : g < 64) (B : Int) (u : List Int) (hu : u.length = 6) (hs : sumN u g = 0) (hB : ∀ i : Nat, i < 6 → -B ≤ rd u (i : Int) ∧ rd u (i : Int) ≤ B) :
    Good g B (settleL (bitsL g) u) ∧ (∀ i : Nat, i < 6 → eff (settleL (bitsL g) u) (i : Int) = if bitN g i = true then -rd u (i : Int) else 0) ∧ (g ≠ 0 → (settleL (bitsL g) u).length + 1 ≤ (bitsL g).length) := by
  have hn := nz_mask_le g u
  have hl := bitsL_len g
  obtain ⟨h1, h2, h3⟩ := settle_spec g hg B 7 u hu hs hB (by omega)
  refine ⟨h1, h2, fun h0 => ?_⟩
  unfold settleL
  have hpos : 1 ≤ (bitsL g).length := by
    obtain ⟨i, hi⟩ := has_bit_all ⟨g, hg⟩ h0
    have : ((i.val : Nat) : Int) ∈ bitsL g := (z54 g _).2 ⟨by omega, by omega, by rw [Int.toNat_natCast]; exact hi⟩
    exact List.length_pos_of_mem this
  split at h3 <;> omega
end Go.Proofs.Ytncaadckehikpaa.Q
namespace Go.Proofs.Ytncaadckehikpaa.Q
open Go.RowKit Go.Proofs.YtncaadckehikpaaW.PrintWords Go.Proofs.YtncaadckehikpaaW.PrintLast Go.Proofs.YtncaadckehikpaaW.PrintMore
set_option linter.unusedVariables false
set_option linter.unusedSimpArgs false
set_option linter.unusedSectionVars false
/-- The first of some women. -/
def lowB (m : Nat) : Nat := ((List.range 6).find? (bitN m)).getD 0
set_option maxRecDepth 100000 in
theorem low_all : ∀ m : Fin 64, m.val ≠ 0 → bits .and .i64 (m.val : Int) (wrap64 (-(m.val : Int))) = ((2 ^ lowB m.val : Nat) : Int) ∧ lowB m.val < 6 ∧ bitN m.val (lowB m.val) = true := by decide +kernel
theorem low_spec {m : Nat} (h : m < 64) (h0 : m ≠ 0) : bits .and .i64 (m : Int) (wrap64 (-(m : Int))) = ((2 ^ lowB m : Nat) : Int) ∧ lowB m < 6 ∧ bitN m (lowB m) = true := low_all ⟨m, h⟩ h0
set_option maxRecDepth 100000 in
theorem and_low_all : ∀ g : Fin 64, ∀ f : Fin 6, (bits .and .i64 (g.val : Int) ((2 ^ f.val : Nat) : Int) = 0 ↔ bitN g.val f.val = false) := by decide +kernel
set_option maxRecDepth 100000 in
theorem sub_all : ∀ m : Fin 64, ∀ g : Fin 64, (∀ i : Fin 6, bitN g.val i.val = true → bitN m.val i.val = true) → bits .andNot .i64 (m.val : Int) (g.val : Int) = ((m.val - g.val : Nat) : Int) := by decide +kernel
theorem andNot_sub {m g : Nat} (hm : m < 64) (hg : g < 64) (h : SubB g m) : bits .andNot .i64 (m : Int) (g : Int) = ((m - g : Nat) : Int) := sub_all ⟨m, hm⟩ ⟨g, hg⟩ (fun i q => h i.val i.isLt q)
/-- The next group. -/
def nxt (m g : Nat) : Nat := (g - 1) &&& m
set_option maxRecDepth 100000 in
theorem nxt_all : ∀ m : Fin 64, ∀ g : Fin 64, g.val ≠ 0 → bits .and .i64 (wrap64 ((g.val : Int) - 1)) (m.val : Int) = ((nxt m.val g.val : Nat) : Int) ∧ nxt m.val g.val < g.val ∧ ∀ i : Fin 6, bitN (nxt m.val g.val) i.val = true → bitN m.val i.val = true := by decide +kernel
theorem nxt_spec {m g : Nat} (hm : m < 64) (hg : g < 64) (h0 : g ≠ 0) : bits .and .i64 (wrap64 ((g : Int) - 1)) (m : Int) = ((nxt m g : Nat) : Int) ∧ nxt m g < g ∧ SubB (nxt m g) m := by
  obtain ⟨a, b, c⟩ := nxt_all ⟨m, hm⟩ ⟨g, hg⟩ h0
  exact ⟨a, b, fun i hi q => c ⟨i, hi⟩ q⟩
theorem sub_and_all : ∀ m : Fin 64, ∀ x : Fin 64, (∀ i : Fin 6, bitN x.val i.val = true → bitN m.val i.val = true) → x.val &&& m.val = x.val := by decide +kernel
set_option maxRecDepth 100000 in
theorem nxt_le_all : ((List.range 64).all fun g => (List.range 64).all fun m => !(g &&& m == g) || (List.range g).all fun x => !(x &&& m == x) || decide (x ≤ nxt m g)) = true := by decide +kernel
theorem nxt_max {m g x : Nat} (hm : m < 64) (hg : g < 64) (hgm : SubB g m) (hx : SubB x m) (h : x < g) : x ≤ nxt m g := by
  have e : x &&& m = x := sub_and_all ⟨m, hm⟩ ⟨x, by omega⟩ (fun i q => hx i.val i.isLt q)
  have e2 : g &&& m = g := sub_and_all ⟨m, hm⟩ ⟨g, hg⟩ (fun i q => hgm i.val i.isLt q)
  have h1 := List.all_eq_true.1 nxt_le_all g (List.mem_range.2 hg)
  have h2 := List.all_eq_true.1 h1 m (List.mem_range.2 hm)
  rw [e2, beq_self_eq_true, Bool.not_true, Bool.false_or] at h2
  have h3 := List.all_eq_true.1 h2 x (List.mem_range.2 h)
  rw [e, beq_self_eq_true, Bool.not_true, Bool.false_or, decide_eq_true_eq] at h3
  exact h3
section
variable (n : Int) (l1 : List S91) (l2 : List S94) (os : List Int) (hck : checkS n (l1.map c91) (l2.map c94) = 0) (ho : Small (l1.map c91) os)
include hck ho
/-- A group that is tried: of the women, with the first one, summing to 0. -/
def Tried (v : List Int) (m f g : Nat) : Prop := SubB g m ∧ g ≠ 0 ∧ bitN g f = true ∧ sumN v g = 0
theorem Most_l0 (m : Nat) (hm : m < 64) (f : Nat) (hf : f < 6) (hmost : ∀ g, Tried (owedL (l1.map c91) os) m f g → g < 64 → ∀ k, 80 * m + 20 < k → pr_Most.f k n l1 l2 os ((m - g : Nat) : Int) = some (F (owedL (l1.map c91) os) (m - g))) :
    ∀ (b k g : Nat) (best : Int), g ≤ b → g < 64 → SubB g m → 80 * m + g + 22 < k → 0 ≤ best → best ≤ 64 →
      ∃ r, pr_Most.l0 k os (m : Int) ((2 ^ f : Nat) : Int) best (g : Int) n l1 l2 = some r ∧ best ≤ r ∧ (∀ x, x ≤ g → Tried (owedL (l1.map c91) os) m f x → 1 + F (owedL (l1.map c91) os) (m - x) ≤ r) ∧
        (r = best ∨ ∃ x, x ≤ g ∧ Tried (owedL (l1.map c91) os) m f x ∧ r = 1 + F (owedL (l1.map c91) os) (m - x))
  | b, 0, g, best, hb, hg, hs, hk, h0, h1 => by omega
  | b, k + 1, g, best, hb, hg, hs, hk, h0, h1 => by
    by_cases hz : g = 0
    · subst hz
      rw [pr_Most.l0, if_neg (by omega)]
      refine ⟨best, rfl, Int.le_refl _, fun x hx q => absurd (show x = 0 by omega) q.2.1, Or.inl rfl⟩
    · obtain ⟨b', rfl⟩ : ∃ b', b = b' + 1 := ⟨b - 1, by omega⟩
      obtain ⟨x1, x2, x3⟩ := nxt_spec hm hg hz
      have hcov : ∀ x, x ≤ g → Tried (owedL (l1.map c91) os) m f x → x = g ∨ x ≤ nxt m g := fun x hx q => by
        by_cases e : x = g
        · exact Or.inl e
        · exact Or.inr (nxt_max hm hg hs q.1 (by omega))
      rw [pr_Most.l0, if_pos (by omega), x1]
      have hl := and_low_all ⟨g, hg⟩ ⟨f, hf⟩
      simp only [] at hl
      by_cases hlow : bitN g f = true
      · rw [if_neg (fun q => by have := hl.1 q; rw [hlow] at this; cases this), Together_f n l1 l2 os hck ho k g hg (by omega), Option.bind_some]
        by_cases hsum : sumN (owedL (l1.map c91) os) g = 0
        · have ht : Tried (owedL (l1.map c91) os) m f g := ⟨hs, hz, hlow, hsum⟩
          have hbd := F_bd (owedL (l1.map c91) os) (m - g)
          rw [if_pos hsum, andNot_sub hm hg hs, hmost g ht hg k (by omega), Option.bind_some, show wrap64 (1 + F (owedL (l1.map c91) os) (m - g)) = 1 + F (owedL (l1.map c91) os) (m - g) by unfold wrap64; omega]
          have hmx : best ≤ mx best (1 + F (owedL (l1.map c91) os) (m - g)) ∧ 1 + F (owedL (l1.map c91) os) (m - g) ≤ mx best (1 + F (owedL (l1.map c91) os) (m - g)) ∧ (mx best (1 + F (owedL (l1.map c91) os) (m - g)) = best ∨ mx best (1 + F (owedL (l1.map c91) os) (m - g)) = 1 + F (owedL (l1.map c91) os) (m - g)) := by
            unfold mx; split <;> omega
          have hgm : 0 < g ∧ g ≤ m := ⟨by omega, (bit_sub hg hm hs).1⟩
          obtain ⟨r, r1, r2, r3, r4⟩ := Most_l0 m hm f hf hmost b' k (nxt m g) (mx best (1 + F (owedL (l1.map c91) os) (m - g))) (by omega) (by omega) x3 (by omega) (by omega) (by omega)
          refine ⟨r, r1, by omega, fun x hx q => ?_, ?_⟩
          · rcases hcov x hx q with e | e
            · rw [e]; omega
            · exact r3 x e q
          · rcases r4 with e | ⟨x, e1, e2, e3⟩
            · rcases hmx.2.2 with q | q
              · exact Or.inl (by omega)
              · exact Or.inr ⟨g, Nat.le_refl _, ht, by omega⟩
            · exact Or.inr ⟨x, by omega, e2, e3⟩
        · rw [if_neg hsum]
          obtain ⟨r, r1, r2, r3, r4⟩ := Most_l0 m hm f hf hmost b' k (nxt m g) best (by omega) (by omega) x3 (by omega) h0 h1
          refine ⟨r, r1, r2, fun x hx q => ?_, ?_⟩
          · rcases hcov x hx q with e | e
            · rw [e] at q; exact absurd q.2.2.2 hsum
            · exact r3 x e q
          · exact r4.imp id (fun ⟨x, e1, e2, e3⟩ => ⟨x, by omega, e2, e3⟩)
      · rw [if_pos (hl.2 (by simpa using hlow))]
        obtain ⟨r, r1, r2, r3, r4⟩ := Most_l0 m hm f hf hmost b' k (nxt m g) best (by omega) (by omega) x3 (by omega) h0 h1
        refine ⟨r, r1, r2, fun x hx q => ?_, ?_⟩
        · rcases hcov x hx q with e | e
          · rw [e] at q; exact absurd q.2.2.1 hlow
          · exact r3 x e q
        · exact r4.imp id (fun ⟨x, e1, e2, e3⟩ => ⟨x, by omega, e2, e3⟩)
/-- The reference's greatest number of groups of women who sum to 0. -/
theorem Most_f : ∀ (b m : Nat), m ≤ b → m < 64 → sumN (owedL (l1.map c91) os) m = 0 → ∀ k, 80 * m + 90 < k → pr_Most.f k n l1 l2 os (m : Int) = some (F (owedL (l1.map c91) os) m)
  | b, m, hb, hm, hs, 0, hk => by omega
  | b, m, hb, hm, hs, k + 1, hk => by
    by_cases hz : m = 0
    · subst hz
      rw [pr_Most.f, if_pos (show ((0 : Nat) : Int) = 0 from rfl)]
      rfl
    · obtain ⟨b', rfl⟩ : ∃ b', b = b' + 1 := ⟨b - 1, by omega⟩
      obtain ⟨y1, y2, y3⟩ := low_spec hm hz
      rw [pr_Most.f, if_neg (by omega), y1]
      obtain ⟨r, r1, r2, r3, r4⟩ := Most_l0 n l1 l2 os hck ho m hm (lowB m) y2 (fun g q hg k' hk' => by
        have h1 := bit_sub hg hm q.1
        have h2 := sumN_sub (owedL (l1.map c91) os) hg hm q.1
        have h3 := q.2.1
        have h4 := q.2.2.2
        exact Most_f b' (m - g) (by omega) (by omega) (by omega) k' (by omega)) m k m 0 (Nat.le_refl _) hm (SubB.refl m) (by omega) (Int.le_refl _) (by omega)
      rw [r1]
      refine congrArg some ?_
      obtain ⟨g, g1, g2, g3, g4, g5⟩ := F_with (owedL (l1.map c91) os) m m (lowB m) (Nat.le_refl _) hm y2 y3 hs
      have h1 := r3 g (bit_sub g1 hm g2).1 ⟨g2, ne_zero_of_bit g3, g3, g4⟩
      rcases r4 with e | ⟨x, e1, e2, e3⟩
      · have := F_bd (owedL (l1.map c91) os) (m - g)
        omega
      · have := Ftake6 (owedL (l1.map c91) os) hm (by omega) e2.1 e2.2.1 hs
        omega
end
end Go.Proofs.Ytncaadckehikpaa.Q
namespace Go.Proofs.Ytncaadckehikpaa.Q
open Go.RowKit Go.Proofs.YtncaadckehikpaaW.PrintWords Go.Proofs.YtncaadckehikpaaW.PrintLast Go.Proofs.YtncaadckehikpaaW.PrintMore
attribute [local go_sem] z35 z34 max_two min_two   -- for this text's walks alone
set_option linter.unusedVariables false
set_option linter.unusedSimpArgs false
end Go.Proofs.Ytncaadckehikpaa.Q
