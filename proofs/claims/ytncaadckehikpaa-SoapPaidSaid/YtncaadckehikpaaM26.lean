/- A part of the proof: contracts of functions and plain facts (Q28, HLFewest, HPay2, Q12, Q19, HRef4). No condition. -/
import Derived.Test.YtncaadckehikpaaM3
import Derived.Test.YtncaadckehikpaaM22
import Derived.Test.YtncaadckehikpaaM11
import Derived.Test.YtncaadckehikpaaM12
import Derived.Test.YtncaadckehikpaaM16
import Derived.Test.YtncaadckehikpaaM21
import Derived.Test.YtncaadckehikpaaM25
import Derived.Test.YtncaadckehikpaaM13
import Derived.Test.YtncaadckehikpaaM10
namespace Go.Proofs.Ytncaadckehikpaa.Q
open Go.RowKit Go.Proofs.YtncaadckehikpaaW.PrintWords Go.Proofs.YtncaadckehikpaaW.PrintLast Go.Proofs.YtncaadckehikpaaW.PrintMore
attribute [local go_sem] z37 z36 max_two min_two   -- for this text's walks alone
set_option linter.unusedVariables false
set_option linter.unusedSimpArgs false
/-! ### pl_SoapFewest: function 5 -/
def pl_SoapFewest.f (k : Nat) (a0_0 : Int) (l0_1 : List (S91)) (l0_2 : List (S94)) : Option (Bool) := (pl_Thin.f a0_0 l0_1 l0_2).bind fun t336 => (if t336 = true then ((pl_Slate.f k a0_0 l0_1 l0_2).bind fun bt338 => ((soap_Fewest.f bt338.1 bt338.2.1 bt338.2.2).bind fun bt345 => ((pl_sure.f k a0_0 l0_1 l0_2).bind fun bt349 => (if bt349.2 = 0 then (if bt345.2.2 = 0 then ((pr_Fewest.f k a0_0 l0_1 l0_2 bt349.1).bind fun bt353 => ((pl_to.f bt353.1 bt353.2).bind fun bt355 => (if (bt345.1 == bt355.1 && (bt345.2.1 == bt355.2)) = true then ((pl_awake.f).bind fun t357 => (some t357)) else (some false)))) else (some false)) else (if bt345.2.2 = bt349.2 then (if (bt345.1 == 0 && (bt345.2.1 == 0)) = true then ((pl_awake.f).bind fun t358 => (some t358)) else (some false)) else (some false)))))) else ((pl_awake.f).bind fun t337 => (some t337)))
end Go.Proofs.Ytncaadckehikpaa.Q
namespace Go.Proofs.Ytncaadckehikpaa.Q
open Go.RowKit Go.Proofs.YtncaadckehikpaaW.PrintWords Go.Proofs.YtncaadckehikpaaW.PrintLast Go.Proofs.YtncaadckehikpaaW.PrintMore
set_option linter.unusedVariables false
set_option linter.unusedSimpArgs false
set_option linter.unusedSectionVars false
theorem or_bits_all : ∀ n : Fin 6, ∀ a : Fin 64, a.val < 2 ^ n.val → ∀ i : Fin 6, bitN (a.val + 2 ^ n.val) i.val = (bitN a.val i.val || i.val == n.val) := by decide +kernel
theorem openTo_bit (v : List Int) : ∀ n, n ≤ 6 → ∀ i, i < 6 → bitN (openTo v n) i = (decide (i < n) && decide (rd v i ≠ 0))
  | 0, _, i, _ => by simp [openTo, bitN]
  | n + 1, hn, i, hi => by
    have ih := openTo_bit v n (by omega) i hi
    have hlt := openTo_lt v n
    have h64 : (2 : Nat) ^ n ≤ 2 ^ 6 := Nat.pow_le_pow_right (by omega) (by omega)
    simp only [openTo]
    by_cases h : rd v (n : Int) ≠ 0
    · rw [if_pos h, or_bits_all ⟨n, by omega⟩ ⟨openTo v n, by omega⟩ hlt ⟨i, hi⟩, ih]
      by_cases e : i = n
      · subst e; simp [h]
      · have : (decide (i < n + 1)) = decide (i < n) := by
          by_cases q : i < n
          · simp [q, show i < n + 1 by omega]
          · simp [q, show ¬ i < n + 1 by omega]
        rw [this]; simp [e]
    · rw [if_neg h, ih]
      by_cases e : i = n
      · subst e; simp [h]
      · have : (decide (i < n + 1)) = decide (i < n) := by
          by_cases q : i < n
          · simp [q, show i < n + 1 by omega]
          · simp [q, show ¬ i < n + 1 by omega]
        rw [this]
/-- All women together. -/
def tot (v : List Int) : Int := rd v 0 + rd v 1 + rd v 2 + rd v 3 + rd v 4 + rd v 5
theorem sum_open (v : List Int) : sumN v (openN v) = tot v := by
  have h : ∀ i, i < 6 → (if bitN (openN v) i = true then rd v (i : Int) else 0) = rd v (i : Int) := fun i hi => by
    unfold openN
    rw [openTo_bit v 6 (by omega) i hi]
    by_cases q : rd v (i : Int) = 0
    · simp [q]
    · simp [q, hi]
  have hs : ∀ m n, sumTo v m (n + 1) = sumTo v m n + (if bitN m n = true then rd v (n : Int) else 0) := fun m n => by
    simp only [sumTo]
    split <;> omega
  unfold sumN tot
  rw [hs, hs, hs, hs, hs, hs, h 0 (by omega), h 1 (by omega), h 2 (by omega), h 3 (by omega), h 4 (by omega), h 5 (by omega)]
  simp only [sumTo]
  simp
section
variable (n : Int) (l1 : List S91) (l2 : List S94) (os : List Int) (hck : checkS n (l1.map c91) (l2.map c94) = 0) (ho : Small (l1.map c91) os)
include hck ho
theorem owed_out (w : Int) (hw : n ≤ w) (hw6 : w < 6) : ∀ i : Nat, i ≤ l1.length → rd (owedTo (l1.map c91) os i) w = 0
  | 0, _ => by
    obtain ⟨z0, z1, z2, z3, z4, z5⟩ := z33 hck
    obtain ⟨m, rfl⟩ : ∃ m : Nat, w = m := ⟨w.toNat, by omega⟩
    unfold rd owedTo
    rw [Int.toNat_natCast]
    rcases m with _ | _ | _ | _ | _ | _ | m <;> simp [List.getD]
  | i + 1, hi => by
    obtain ⟨z0, z1, z2, z3, z4, z5⟩ := z33 hck
    have he := z48 hck (i : Int) (by omega) (by rw [List.length_map]; omega)
    rw [owedTo_step (l1.map c91) os i w (by omega) (by omega) (by omega) (by omega) he.2.2.2.2.1 (by omega) hw6, if_neg (by omega), if_neg (by omega)]
    exact owed_out w hw hw6 i (by omega)
theorem tot_owed : ∀ i : Nat, i ≤ l1.length → tot (owedTo (l1.map c91) os i) = 0
  | 0, _ => by simp [tot, owedTo, rd, List.getD]
  | i + 1, hi => by
    obtain ⟨z0, z1, z2, z3, z4, z5⟩ := z33 hck
    have he := z48 hck (i : Int) (by omega) (by rw [List.length_map]; omega)
    have ih := tot_owed i (by omega)
    have st := fun (w : Int) (h0 : 0 ≤ w) (h6 : w < 6) => owedTo_step (l1.map c91) os i w (by omega) (by omega) (by omega) (by omega) he.2.2.2.2.1 h0 h6
    unfold tot at ih ⊢
    rw [st 0 (by omega) (by omega), st 1 (by omega) (by omega), st 2 (by omega) (by omega), st 3 (by omega) (by omega), st 4 (by omega) (by omega), st 5 (by omega) (by omega)]
    generalize (rd_T122 (l1.map c91) (i : Int)).f0 = a at he
    generalize (rd_T122 (l1.map c91) (i : Int)).f1 = b at he
    have ha : a = 0 ∨ a = 1 ∨ a = 2 ∨ a = 3 ∨ a = 4 ∨ a = 5 := by omega
    have hb : b = 0 ∨ b = 1 ∨ b = 2 ∨ b = 3 ∨ b = 4 ∨ b = 5 := by omega
    rcases ha with rfl | rfl | rfl | rfl | rfl | rfl <;> rcases hb with rfl | rfl | rfl | rfl | rfl | rfl <;> first | (exfalso; omega) | (simp; omega)
theorem sum_open_owed : sumN (owedL (l1.map c91) os) (openN (owedL (l1.map c91) os)) = 0 := by
  rw [sum_open]
  have := tot_owed n l1 l2 os hck ho l1.length (Nat.le_refl _)
  unfold owedL
  rw [List.length_map]
  exact this
end
section
variable (n : Int) (l1 : List S91) (l2 : List S94) (oss : List (List Int)) (hck : checkS n (l1.map c91) (l2.map c94) = 0) (ho : ∀ os ∈ oss, Small (l1.map c91) os) (hl : oss.length ≤ 2000)
include hck ho hl
end
end Go.Proofs.Ytncaadckehikpaa.Q
namespace Go.Proofs.Ytncaadckehikpaa.Q
open Go.RowKit Go.Proofs.YtncaadckehikpaaW.PrintWords Go.Proofs.YtncaadckehikpaaW.PrintLast Go.Proofs.YtncaadckehikpaaW.PrintMore
set_option linter.unusedVariables false
set_option linter.unusedSimpArgs false
/-- The groups by bits. -/
def groupsM (v : List Int) : Nat → Nat → Nat → List Nat
  | 0, _, _ => []
  | k + 1, m, gr => if m = 0 then [] else
    match pickOf v m with
    | none => []
    | some i => if sumN v (clr m i) = 0 then (gr + 2 ^ i) :: groupsM v k (clr m i) 0 else groupsM v k (clr m i) (gr + 2 ^ i)
theorem groups_masks (v : List Int) : ∀ k m gr, z35 v k m gr = (groupsM v k m gr).map bitsL
  | 0, m, gr => rfl
  | k + 1, m, gr => by
    simp only [z35, groupsM]
    by_cases h : m = 0
    · rw [if_pos h, if_pos h]; rfl
    · rw [if_neg h, if_neg h]
      rcases pickOf v m with _ | i
      · rfl
      · simp only []
        by_cases hs : sumN v (clr m i) = 0
        · rw [if_pos hs, if_pos hs, List.map_cons, groups_masks v k]
        · rw [if_neg hs, if_neg hs, groups_masks v k]
set_option maxRecDepth 100000 in
theorem add_bits_all : ∀ g : Fin 64, ∀ i : Fin 6, bitN g.val i.val = false → g.val + 2 ^ i.val < 64 ∧ (bitsL (g.val + 2 ^ i.val)).length = (bitsL g.val).length + 1 ∧ ∀ j : Fin 6, bitN (g.val + 2 ^ i.val) j.val = (bitN g.val j.val || j.val == i.val) := by decide +kernel
theorem add_bits {g i : Nat} (hg : g < 64) (hi : i < 6) (h : bitN g i = false) : g + 2 ^ i < 64 ∧ (bitsL (g + 2 ^ i)).length = (bitsL g).length + 1 ∧ ∀ j, j < 6 → bitN (g + 2 ^ i) j = (bitN g j || j == i) := by
  obtain ⟨a, b, c⟩ := add_bits_all ⟨g, hg⟩ ⟨i, hi⟩ h
  exact ⟨a, b, fun j hj => c ⟨j, hj⟩⟩
set_option maxRecDepth 100000 in
theorem clr_len_all : ∀ g : Fin 64, ∀ i : Fin 6, bitN g.val i.val = true → (bitsL (clr g.val i.val)).length + 1 = (bitsL g.val).length := by decide +kernel
theorem sumTo_add (v : List Int) {g i : Nat} (hg : g < 64) (hi : i < 6) (h : bitN g i = false) : ∀ n : Nat, n ≤ 6 → sumTo v (g + 2 ^ i) n = sumTo v g n + if i < n then rd v (i : Int) else 0
  | 0, _ => by simp [sumTo]
  | n + 1, hn => by
    have ih := sumTo_add v hg hi h n (by omega)
    have hb := (add_bits hg hi h).2.2 n (by omega)
    simp only [sumTo]
    rw [hb]
    by_cases e : n = i
    · subst e
      rw [if_neg (show ¬ n < n by omega)] at ih
      simp only [h, beq_self_eq_true, Bool.or_true, if_true, Bool.false_eq_true, if_false, show n < n + 1 by omega]
      omega
    · have : (n == i) = false := by simpa using e
      rw [this, Bool.or_false]
      have e2 : (i < n + 1) ↔ (i < n) := ⟨fun q => by omega, fun q => by omega⟩
      simp only [e2]
      split <;> omega
theorem sumTo_clr (v : List Int) {g i : Nat} (hg : g < 64) (hi : i < 6) (h : bitN g i = true) : ∀ n : Nat, n ≤ 6 → sumTo v (clr g i) n + (if i < n then rd v (i : Int) else 0) = sumTo v g n
  | 0, _ => by simp [sumTo]
  | n + 1, hn => by
    have ih := sumTo_clr v hg hi h n (by omega)
    have hb := clr_bits hg hi (show n < 6 by omega)
    simp only [sumTo]
    rw [hb]
    by_cases e : i = n
    · subst e
      rw [if_neg (by omega)] at ih
      simp only [h, beq_self_eq_true, Bool.not_true, Bool.and_false, Bool.false_eq_true, if_false, if_true, show i < i + 1 by omega]
      omega
    · have : (i == n) = false := by simpa using e
      rw [this, Bool.not_false, Bool.and_true]
      have e2 : (i < n + 1) ↔ (i < n) := ⟨fun q => by omega, fun q => by omega⟩
      simp only [e2]
      split <;> omega
theorem sumN_add (v : List Int) {g i : Nat} (hg : g < 64) (hi : i < 6) (h : bitN g i = false) : sumN v (g + 2 ^ i) = sumN v g + rd v (i : Int) := by
  have := sumTo_add v hg hi h 6 (by omega)
  rw [if_pos hi] at this
  exact this
theorem sumN_clr (v : List Int) {g i : Nat} (hg : g < 64) (hi : i < 6) (h : bitN g i = true) : sumN v (clr g i) + rd v (i : Int) = sumN v g := by
  have := sumTo_clr v hg hi h 6 (by omega)
  rw [if_pos hi] at this
  exact this
/-- A woman is in how many groups. -/
def inG (gs : List Nat) (i : Nat) : Nat := (gs.map (fun g => if bitN g i = true then 1 else 0)).sum
theorem groups_spec (v : List Int) : ∀ (k m gr : Nat), m ≤ k → m < 64 → gr < 64 → gr &&& m = 0 → sumN v gr + sumN v m = 0 →
    (∀ g ∈ groupsM v k m gr, g < 64 ∧ g ≠ 0 ∧ sumN v g = 0) ∧
    (∀ i, i < 6 → inG (groupsM v k m gr) i = (if bitN m i = true then 1 else 0) + (if m ≠ 0 ∧ bitN gr i = true then 1 else 0)) ∧
    ((groupsM v k m gr).map (fun g => (bitsL g).length)).sum = (bitsL m).length + (if m ≠ 0 then (bitsL gr).length else 0) ∧
    ((groupsM v k m gr).length : Int) = F v m + (if m ≠ 0 ∧ sumN v m ≠ 0 then 1 else 0)
  | 0, m, gr, hk, hm, hgr, ha, hs => by
    have h0 : m = 0 := by omega
    subst h0
    refine ⟨fun g hg => by simp [groupsM] at hg, fun i hi => by simp [groupsM, inG, bitN], by rw [show (bitsL 0).length = 0 by decide]; simp [groupsM], by simp [groupsM, F_zero]⟩
  | k + 1, m, gr, hk, hm, hgr, ha, hs => by
    by_cases h0 : m = 0
    · subst h0
      refine ⟨fun g hg => by simp [groupsM] at hg, fun i hi => by simp [groupsM, inG, bitN], by rw [show (bitsL 0).length = 0 by decide]; simp [groupsM], by simp [groupsM, F_zero]⟩
    · obtain ⟨i, e1, e2, e3, e4⟩ := pick_some v m hm h0
      simp only [goesB, Bool.and_eq_true, beq_iff_eq, leftOf] at e3
      obtain ⟨hb, hF⟩ := e3
      obtain ⟨a1, a2, a3⟩ := apart_step gr m i hgr hm e2 ha hb
      have hlt := clr_lt hb
      have hc64 : clr m i < 64 := by omega
      obtain ⟨b1, b2, b3⟩ := add_bits hgr e2 a2
      have hlen := clr_len_all ⟨m, hm⟩ ⟨i, e2⟩ hb
      have hsa := sumN_add v hgr e2 a2
      have hsc := sumN_clr v hm e2 hb
      have hcb := fun j (hj : j < 6) => clr_bits (b := m) (i := i) (j := j) hm e2 hj
      have hbits : ∀ j, j < 6 → ((if bitN (clr m i) j = true then 1 else 0) + (if bitN (gr + 2 ^ i) j = true then 1 else 0) : Nat) = (if bitN m j = true then 1 else 0) + (if bitN gr j = true then 1 else 0) := fun j hj => by
        rw [hcb j hj, b3 j hj]
        by_cases e : i = j
        · subst e
          rw [a2, hb]
          simp
        · rw [show (i == j) = false by simpa using e, show (j == i) = false by simpa using (fun q => e q.symm)]
          simp
      simp only [groupsM, if_neg h0, e1]
      by_cases hz : sumN v (clr m i) = 0
      · rw [if_pos hz]
        obtain ⟨i1, i2, i3, i4⟩ := groups_spec v k (clr m i) 0 (by omega) hc64 (by omega) (Nat.zero_and _) (by rw [hz]; simp [sumN, sumTo, bitN])
        refine ⟨?_, ?_, ?_, ?_⟩
        · intro g hg
          rcases List.mem_cons.1 hg with rfl | hg
          · refine ⟨b1, ?_, by omega⟩
            have : 0 < 2 ^ i := Nat.two_pow_pos i
            omega
          · exact i1 g hg
        · intro j hj
          have h1 := i2 j hj
          have h2 := hbits j hj
          have z : bitN 0 j = false := by simp [bitN]
          rw [z] at h1
          simp only [Bool.false_eq_true, and_false, if_false, Nat.add_zero] at h1
          unfold inG at h1 ⊢
          rw [List.map_cons, List.sum_cons, h1]
          simp only [ne_eq, h0, not_false_eq_true, true_and]
          omega
        · rw [List.map_cons, List.sum_cons, i3, if_pos h0, b2]
          have z : (bitsL 0).length = 0 := by decide
          rw [z]
          simp only [] at hlen
          split <;> omega
        · rw [List.length_cons]
          have e5 : ¬ (clr m i ≠ 0 ∧ sumN v (clr m i) ≠ 0) := fun q => q.2 hz
          rw [if_neg e5] at i4
          by_cases hm0 : sumN v m = 0
          · rw [if_pos hm0] at hF
            rw [if_neg (fun q => q.2 hm0)]
            push_cast
            omega
          · rw [if_neg hm0] at hF
            rw [if_pos ⟨h0, hm0⟩]
            push_cast
            omega
      · rw [if_neg hz]
        have hc0 : clr m i ≠ 0 := fun q => hz (by rw [q]; simp [sumN, sumTo, bitN])
        obtain ⟨i1, i2, i3, i4⟩ := groups_spec v k (clr m i) (gr + 2 ^ i) (by omega) hc64 b1 a1 (by omega)
        refine ⟨i1, ?_, ?_, ?_⟩
        · intro j hj
          have h1 := i2 j hj
          have h2 := hbits j hj
          simp only [ne_eq, hc0, not_false_eq_true, true_and] at h1
          simp only [ne_eq, h0, not_false_eq_true, true_and]
          omega
        · rw [i3, if_pos hc0, if_pos h0, b2]
          simp only [] at hlen
          omega
        · rw [i4, if_pos ⟨hc0, hz⟩]
          by_cases hm0 : sumN v m = 0
          · rw [if_pos hm0] at hF
            rw [if_neg (fun q => q.2 hm0)]
            omega
          · rw [if_neg hm0] at hF
            rw [if_pos ⟨h0, hm0⟩]
            omega
theorem openN64 (v : List Int) : openN v < 64 := openTo_lt v 6
/-- The groups of a purse, by bits. -/
def gm (v : List Int) : List Nat := groupsM v 64 (openN v) 0
theorem groupsL_gm (v : List Int) : groupsL v = (gm v).map bitsL := groups_masks v 64 (openN v) 0
theorem gm_spec (v : List Int) (hs : sumN v (openN v) = 0) : (∀ g ∈ gm v, g < 64 ∧ g ≠ 0 ∧ sumN v g = 0) ∧ (∀ i, i < 6 → inG (gm v) i = if bitN (openN v) i = true then 1 else 0) ∧
    ((gm v).map (fun g => (bitsL g).length)).sum = (bitsL (openN v)).length ∧ ((gm v).length : Int) = F v (openN v) := by
  have h64 := openN64 v
  obtain ⟨h1, h2, h3, h4⟩ := groups_spec v 64 (openN v) 0 (by omega) h64 (by omega) (Nat.zero_and _) (by rw [hs]; simp [sumN, sumTo, bitN])
  refine ⟨h1, fun i hi => ?_, ?_, ?_⟩
  · have := h2 i hi
    have z : bitN 0 i = false := by simp [bitN]
    rw [z] at this
    unfold gm
    simpa using this
  · have z : (bitsL 0).length = 0 := by decide
    rw [z] at h3
    unfold gm
    simpa using h3
  · rw [if_neg (fun q => q.2 hs)] at h4
    simpa [gm] using h4
/-- All payments. -/
theorem all_pays (v : List Int) (hv : v.length = 6) (B : Int) (hB : ∀ i : Nat, i < 6 → -B ≤ rd v (i : Int) ∧ rd v (i : Int) ≤ B) : ∀ gs : List Nat, (∀ g ∈ gs, g < 64 ∧ g ≠ 0 ∧ sumN v g = 0) →
    (∀ p ∈ z22 v (gs.map bitsL), Six p ∧ 1 ≤ p.f2 ∧ p.f2 ≤ B ∧ ∃ g ∈ gs, bitN g p.f0.toNat = true ∧ bitN g p.f1.toNat = true) ∧ (∀ i : Nat, i < 6 → eff (z22 v (gs.map bitsL)) (i : Int) = -((inG gs i : Nat) : Int) * rd v (i : Int)) ∧
      (z22 v (gs.map bitsL)).length + gs.length ≤ (gs.map (fun g => (bitsL g).length)).sum
  | [], _ => ⟨fun p hp => by simp [z22] at hp, fun i hi => by simp [z22, eff, inG], by simp [z22]⟩
  | g :: gs, h => by
    obtain ⟨i1, i2, i3⟩ := all_pays v hv B hB gs (fun x hx => h x (by simp [hx]))
    obtain ⟨g1, g2, g3⟩ := h g (by simp)
    obtain ⟨s1, s2, s3⟩ := settleL_spec g g1 B v hv g3 hB
    have s4 := s3 g2
    rw [List.map_cons, z22]
    refine ⟨?_, ?_, ?_⟩
    · intro p hp
      rcases List.mem_append.1 hp with hp | hp
      · obtain ⟨q1, q2, q3, q4, q5⟩ := s1 p hp
        exact ⟨q1, q4, q5, g, by simp, q2, q3⟩
      · obtain ⟨q1, q2, q3, x, q4, q5⟩ := i1 p hp
        exact ⟨q1, q2, q3, x, by simp [q4], q5⟩
    · intro i hi
      rw [eff_append, s2 i hi, i2 i hi]
      unfold inG
      rw [List.map_cons, List.sum_cons]
      generalize (gs.map (fun g => if bitN g i = true then 1 else 0)).sum = S
      by_cases hb : bitN g i = true
      · rw [if_pos hb, if_pos hb, show (-(((1 + S : Nat)) : Int)) = -1 + -((S : Nat) : Int) by omega, Int.add_mul]
        omega
      · rw [if_neg hb, if_neg hb, Nat.zero_add]
        omega
    · rw [List.length_append, List.length_cons, List.map_cons, List.sum_cons]
      omega
/-- Women who are owed 0 are groups by themselves. -/
theorem F_wide (v : List Int) (hs : sumN v (openN v) = 0) : ∀ j : Nat, j ≤ 6 → ∃ M, M < 64 ∧ (∀ i, i < 6 → bitN M i = (decide (rd v (i : Int) ≠ 0) || decide (i < j))) ∧ sumN v M = 0 ∧ F v M + (bitsL (openN v)).length ≤ F v (openN v) + (bitsL M).length
  | 0, _ => ⟨openN v, openN64 v, fun i hi => by
      have := openTo_bit v 6 (by omega) i hi
      unfold openN
      rw [this, decide_eq_true hi]
      simp, hs, by omega⟩
  | j + 1, hj => by
    obtain ⟨M, h1, h2, h3, h4⟩ := F_wide v hs j (by omega)
    by_cases hz : rd v (j : Int) = 0
    · have hb : bitN M j = false := by rw [h2 j (by omega)]; simp [hz]
      obtain ⟨b1, b2, b3⟩ := add_bits h1 (show j < 6 by omega) hb
      have hsum := sumN_add v h1 (show j < 6 by omega) hb
      have hbj : bitN (M + 2 ^ j) j = true := by rw [b3 j (by omega)]; simp
      obtain ⟨g, g1, g2, g3, g4, g5⟩ := F_with v (M + 2 ^ j) (M + 2 ^ j) j (Nat.le_refl _) b1 (by omega) hbj (by omega)
      obtain ⟨c1, c2, c3⟩ := bit_sub g1 b1 g2
      have hsub : SubB (M + 2 ^ j - g) M := fun i hi q => by
        rw [c3 i hi, Bool.and_eq_true, b3 i hi] at q
        by_cases e : i = j
        · subst e; rw [g3] at q; simp at q
        · have : (i == j) = false := by simpa using e
          rw [this, Bool.or_false] at q
          exact q.1
      have hm := Fmono6 v M M (M + 2 ^ j - g) (Nat.le_refl _) h1 (by omega) hsub
      refine ⟨M + 2 ^ j, b1, fun i hi => ?_, by omega, by rw [b2]; push_cast; omega⟩
      rw [b3 i hi, h2 i hi]
      by_cases e : i = j
      · subst e; simp
      · have e1 : (i == j) = false := by simpa using e
        rw [e1, Bool.or_false]
        by_cases q : i < j
        · simp [q, show i < j + 1 by omega]
        · simp [q, show ¬ i < j + 1 by omega]
    · refine ⟨M, h1, fun i hi => ?_, h3, h4⟩
      rw [h2 i hi]
      by_cases e : i = j
      · subst e; simp [hz]
      · by_cases q : i < j
        · simp [q, show i < j + 1 by omega]
        · simp [q, show ¬ i < j + 1 by omega]
theorem F_63 (v : List Int) (hs : sumN v (openN v) = 0) : payN v ≤ 6 - F v 63 ∧ sumN v 63 = 0 := by
  obtain ⟨M, h1, h2, h3, h4⟩ := F_wide v hs 6 (by omega)
  have e : M = 63 := by
    obtain ⟨q, _, _⟩ := bit_sub (a := 63) (b := M) (by omega) h1 (fun i hi _ => by rw [h2 i hi]; simp [hi])
    omega
  subst e
  have z : (bitsL 63).length = 6 := by decide
  rw [z] at h4
  unfold payN
  exact ⟨by omega, h3⟩
/-- The program's payments: they settle all, and are the fewest. -/
theorem settle_all (v : List Int) (hv : v.length = 6) (hs : sumN v (openN v) = 0) (B : Int) (hB : ∀ i : Nat, i < 6 → -B ≤ rd v (i : Int) ∧ rd v (i : Int) ≤ B) :
    (∀ p ∈ z22 v (groupsL v), Six p ∧ 1 ≤ p.f2 ∧ p.f2 ≤ B ∧ rd v p.f0 ≠ 0 ∧ rd v p.f1 ≠ 0) ∧ (∀ i : Int, 0 ≤ i → i < 6 → eff (z22 v (groupsL v)) i = -rd v i) ∧ ((z22 v (groupsL v)).length : Int) = payN v := by
  obtain ⟨g1, g2, g3, g4⟩ := gm_spec v hs
  obtain ⟨p1, p2, p3⟩ := all_pays v hv B hB (gm v) g1
  rw [groupsL_gm]
  have hopen : ∀ i, i < 6 → bitN (openN v) i = decide (rd v (i : Int) ≠ 0) := fun i hi => by
    unfold openN
    rw [openTo_bit v 6 (by omega) i hi, decide_eq_true hi, Bool.true_and]
  have hin : ∀ g ∈ gm v, ∀ i, i < 6 → bitN g i = true → rd v (i : Int) ≠ 0 := fun g hg i hi hb => by
    have h1 := g2 i hi
    have h2 : 1 ≤ inG (gm v) i := by
      unfold inG
      have hm : (1 : Nat) ∈ (gm v).map (fun g => if bitN g i = true then 1 else 0) := List.mem_map.2 ⟨g, hg, by rw [if_pos hb]⟩
      generalize (gm v).map (fun g => if bitN g i = true then 1 else 0) = L at hm
      clear h1
      induction L with
      | nil => simp at hm
      | cons x L ih =>
        rw [List.sum_cons]
        rcases List.mem_cons.1 hm with h | h
        · omega
        · have := ih h; omega
    rw [h1, hopen i hi] at h2
    intro q
    rw [q] at h2
    simp at h2
  have he : ∀ i : Int, 0 ≤ i → i < 6 → eff (z22 v ((gm v).map bitsL)) i = -rd v i := fun i h0 h6 => by
    have h1 := p2 i.toNat (by omega)
    rw [show ((i.toNat : Nat) : Int) = i by omega, g2 i.toNat (by omega), hopen i.toNat (by omega), show ((i.toNat : Nat) : Int) = i by omega] at h1
    rw [h1]
    by_cases q : rd v i = 0
    · rw [q]; simp
    · simp [q]
  refine ⟨fun p hp => ?_, he, ?_⟩
  · obtain ⟨q1, q2, q3, g, q4, q5, q6⟩ := p1 p hp
    obtain ⟨x0, x1, x2, x3, x4⟩ := q1
    have r0 := hin g q4 p.f0.toNat (by omega) q5
    have r1 := hin g q4 p.f1.toNat (by omega) q6
    rw [show ((p.f0.toNat : Nat) : Int) = p.f0 by omega] at r0
    rw [show ((p.f1.toNat : Nat) : Int) = p.f1 by omega] at r1
    exact ⟨⟨x0, x1, x2, x3, x4⟩, q2, q3, r0, r1⟩
  · obtain ⟨f1, f2⟩ := F_63 v hs
    have hlow := pays_lower (z22 v ((gm v).map bitsL)) v hv (fun p hp => (p1 p hp).1) f2 (fun i h0 h6 => by rw [rd_pays _ v hv (fun p hp => (p1 p hp).1) i h0 h6, he i h0 h6]; omega)
    rw [g3] at p3
    unfold payN at f1 ⊢
    omega
end Go.Proofs.Ytncaadckehikpaa.Q
namespace Go.Proofs.Ytncaadckehikpaa.Q
open Go.RowKit Go.Proofs.YtncaadckehikpaaW.PrintWords Go.Proofs.YtncaadckehikpaaW.PrintLast Go.Proofs.YtncaadckehikpaaW.PrintMore
attribute [local go_sem] z37 z36 max_two min_two   -- for this text's walks alone
set_option linter.unusedVariables false
set_option linter.unusedSimpArgs false
/-! ### pl_list: function 30 -/
def pl_list.f (l0 : List Int) : Option (List Int) := (some (([] : List Int) : List Int)).bind fun y261 => (if y261.length + l0.length < 17592186044416 then (some (y261 ++ l0)) else (none))
set_option maxHeartbeats 8000000 in
set_option maxRecDepth 100000 in
theorem pl_list.calls (A0 : Option Addr) (c0 : Nat) (l0 : List Int) (r : List Int) (w : World) (hr0 : Kd.C (Kd.int .i64) w A0 l0.length l0) (hc0 : l0.length ≤ c0) (h : pl_list.f l0 = some r) :
  Calls Try.prog 30 #[.slice A0 l0.length c0] w fun e w' => ∃ v0_ : Value, e = .returned (v0_) ∧ Kd.R (Kd.int .i64) 3 w' w.heap.size (fun _ => True) v0_ r ∧ Below w.heap.size w w' := by
 have HR0 := mkA hr0
 have HC0 := mkA hc0
 clear hr0 hc0
 have HB := mkA (Below.refl w.heap.size w)
 have H : ((some (([] : List Int) : List Int)).bind fun y261 => (if y261.length + l0.length < 17592186044416 then (some (y261 ++ l0)) else (none))) = some r := h
 clear h
 obtain ⟨y261, hy261⟩ : ∃ y_ : List Int, y_ = (([] : List Int)) := ⟨_, rfl⟩
 replace H : (if y261.length + l0.length < 17592186044416 then (some (y261 ++ l0)) else (none)) = some r := by first | (rw [hy261]; with_reducible exact H) | (have H2_ := (Option.bind_some _ _).symm.trans H; rw [hy261]; with_reducible exact H2_) | (have H2_ := (Option.bind_some _ _).symm.trans H; with_reducible exact H2_) | with_reducible exact H | (rw [hy261]; exact H) | exact H
 have Ny261 := mkA hy261
 clear hy261
 by_cases c2 : y261.length + l0.length < 17592186044416
 ·rw [if_pos c2] at H
  have LMc2 := mkA c2
  clear c2
  obtain ⟨y264, hy264⟩ : ∃ y_ : List Int, y_ = (y261 ++ l0) := ⟨_, rfl⟩
  replace H : (some y264) = some r := by first | (rw [hy264]; with_reducible exact H) | (have H2_ := (Option.bind_some _ _).symm.trans H; rw [hy264]; with_reducible exact H2_) | (have H2_ := (Option.bind_some _ _).symm.trans H; with_reducible exact H2_) | with_reducible exact H | (rw [hy264]; exact H) | exact H
  have Ny264 := mkA hy264
  clear hy264
  obtain rfl := Option.some.inj H
  go_enter Try.func30, Try.ntmps30
  go_wp2_with (first | ((with_reducible refine z25 (N := 3) rfl ?_); refine Kd.R_lit (Kd.int .i64) _ 3 ?hg (N := 3) ?hd (xs := ([] : List Int)) (inner := []) (ok := fun _ => True) (okp := fun _ => True) ?hr ?hp (fun _ hk => hk) trivial (Below.refl _ _) (Nat.le_refl _) (by simp) ?_; (case hd => rfl); (case hg => rfl); (case hr => first | (go_simp; done) | (go_simp; rfl)); (case hp => exact (Reps.none _ _)); intro v262 w3 ho4 hb hg_ hnew_; clear hg_ hnew_; (first | rw [← Ny261.out] at ho4 | (simp only [Int.reduceToNat] at ho4; rw [← Ny261.out] at ho4)); have n0_ := mkA (Kd.R_lower ho4 (z18 (by repeat (first | (with_reducible first | exact HB.out | apply z10 | apply z11 | apply z12) | exact HB.out)))); have n1_ := mkA (z16 (by repeat (first | (with_reducible first | exact HB.out | apply z10 | apply z11 | apply z12) | exact HB.out)) hb); clear HB; have HO263 := n0_; have HB := n1_; clear n0_ n1_; clear hb ho4) | ((with_reducible refine z41 (b := .append) (xs := #[.tmp 3, .tmp 4]) rfl ?_); at_builtin; refine Kd.R_append_rows (Kd.int .i64) (w0 := w) w.heap.size rfl (.tmp 3) (.tmp 4) 37 3 (.int .i64 0) 8 rfl Try.underlying37 info3 rfl (by decide) (by omega) v262 y261 l0 _ _ _ (fun _ => True) (fun _ => False) rfl rfl ?aO ?aR (fun _ _ h => h) (fun _ h => h.elim) ?aF ?aB ?aS ?aL ?_; (case aR => repeat (first | exact (Kd.C_below HR0.out HB.out) | (with_reducible refine Kd.C_alloc ?_ _) | (with_reducible refine Kd.C_drewN ?_ _) | (with_reducible refine Kd.C_drew ?_))); (case aB => exact (by repeat (first | (with_reducible first | exact HB.out | apply z10 | apply z11 | apply z12) | exact HB.out))); (case aF => exact (fun _ _ => trivial)); (case aO => exact (by (with_reducible repeat (first | apply Kd.R_alloc | apply Kd.R_drewN | apply Kd.R_drew)); exact HO263.out)); (case aS => exact (z18 (by repeat (first | (with_reducible first | exact HB.out | apply z10 | apply z11 | apply z12) | exact HB.out)))); (case aL => have := LMc2.out; omega); intro v265 w5 ho hb hg hat; rw [← Ny264.out] at ho; have n0_ := mkA (hb); have n1_ := mkA (ho); clear HB; clear HO263; have HB := n0_; have HO266 := n1_; clear n0_ n1_; clear ho hb hg hat))
  go_ret
  exact ⟨_, by first | rfl | (simp [z21, z20] <;> rfl) | (simp [*, z21, z20] <;> rfl), by (with_reducible repeat (first | apply Kd.R_alloc | apply Kd.R_drewN | apply Kd.R_drew)); exact HO266.out, by repeat (first | (with_reducible first | exact HB.out | apply z10 | apply z11 | apply z12) | exact HB.out)⟩
 ·rw [if_neg c2] at H
  exact absurd H (by simp)
/-! ### pr_AreOunces: function 32 -/
def pr_AreOunces.l0 : Nat → List Int → Int → Int → List (S91) → List (S94) → Option (Bool)
 | 0, _, _, _, _, _ => none
 | k + 1, x1, x5, x268000, x268001, x268002 => if x5 < (x1.length : Int) then (if 0 ≤ x5 then (if x5 < (x268001.length : Int) then ((pr_Is.f (rd x1 x5) ((rd_T91 x268001 x5).f2.f0) ((rd_T91 x268001 x5).f2.f1)).bind fun t270 => (if t270 = true then (pr_AreOunces.l0 k x1 (wrap64 (x5 + 1)) x268000 x268001 x268002) else (some false))) else (none)) else (none)) else (some true)
def pr_AreOunces.f (k : Nat) (a0_0 : Int) (l0_1 : List (S91)) (l0_2 : List (S94)) (l1 : List Int) : Option (Bool) := if (l1.length : Int) = (l0_1.length : Int) then (pr_AreOunces.l0 k l1 0 a0_0 l0_1 l0_2) else (some false)
end Go.Proofs.Ytncaadckehikpaa.Q
namespace Go.Proofs.Ytncaadckehikpaa.Q
open Go.RowKit Go.Proofs.YtncaadckehikpaaW.PrintWords Go.Proofs.YtncaadckehikpaaW.PrintLast Go.Proofs.YtncaadckehikpaaW.PrintMore
attribute [local go_sem] z37 z36 max_two min_two   -- for this text's walks alone
set_option linter.unusedVariables false
set_option linter.unusedSimpArgs false
/-! ### pr_IsTruth: function 66 -/
def pr_IsTruth.f (k : Nat) (a0_0 : Int) (l0_1 : List (S91)) (l0_2 : List (S94)) (l1 : List Int) : Option (Bool) := (pr_AreOunces.f k a0_0 l0_1 l0_2 l1).bind fun t1016 => (if t1016 = true then ((pr_Right.f k a0_0 l0_1 l0_2 l1).bind fun t1017 => ((pr_Full.f a0_0 l0_1 l0_2).bind fun t1018 => (some (t1017 == t1018)))) else (some false))
end Go.Proofs.Ytncaadckehikpaa.Q
namespace Go.Proofs.Ytncaadckehikpaa.Q
open Go.RowKit Go.Proofs.YtncaadckehikpaaW.PrintWords Go.Proofs.YtncaadckehikpaaW.PrintLast Go.Proofs.YtncaadckehikpaaW.PrintMore
set_option linter.unusedVariables false
set_option linter.unusedSimpArgs false
theorem list_f (os : List Int) (h : os.length ≤ 1000) : pl_list.f os = some os := by
  unfold pl_list.f
  simp only [Option.bind_some, List.length_nil, List.nil_append]
  rw [if_pos (by omega)]
theorem areB_small {n : Int} {l1 : List S122} {l2 : List S124} {os : List Int} (hck : checkS n l1 l2 = 0) (h : areB l1 os = true) : Small l1 os := by
  unfold areB at h
  rw [decide_eq_true_eq] at h
  refine ⟨h.1, fun i h0 h1 => ?_⟩
  have he := z48 hck i h0 h1
  have h2 := h.2 i.toNat (by omega)
  unfold z45 at h2
  rw [show ((i.toNat : Nat) : Int) = i by omega] at h2
  omega
end Go.Proofs.Ytncaadckehikpaa.Q
