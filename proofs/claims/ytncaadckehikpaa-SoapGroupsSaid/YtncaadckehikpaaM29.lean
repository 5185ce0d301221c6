/- A part of the proof: contracts of functions and plain facts (Q28, HLFewest, HPay2). No condition. -/
import Derived.Test.YtncaadckehikpaaM3
import Derived.Test.YtncaadckehikpaaM24
import Derived.Test.YtncaadckehikpaaM11
import Derived.Test.YtncaadckehikpaaM12
import Derived.Test.YtncaadckehikpaaM17
import Derived.Test.YtncaadckehikpaaM23
import Derived.Test.YtncaadckehikpaaM28
import Derived.Test.YtncaadckehikpaaM22
namespace Go.Proofs.Ytncaadckehikpaa.Q
open Go.RowKit Go.Proofs.YtncaadckehikpaaW.PrintWords Go.Proofs.YtncaadckehikpaaW.PrintLast Go.Proofs.YtncaadckehikpaaW.PrintMore
attribute [local go_sem] z35 z34 max_two min_two   -- for this text's walks alone
set_option linter.unusedVariables false
set_option linter.unusedSimpArgs false
/-! ### pl_SoapFewest: function 5 -/
def pl_SoapFewest.f (k : Nat) (a0_0 : Int) (l0_1 : List (S91)) (l0_2 : List (S94)) : Option (Bool) := (pl_Thin.f a0_0 l0_1 l0_2).bind fun t336 => (if t336 = true then ((pl_Slate.f k a0_0 l0_1 l0_2).bind fun bt338 => ((soap_Fewest.f bt338.1 bt338.2.1 bt338.2.2).bind fun bt345 => ((pl_sure.f k a0_0 l0_1 l0_2).bind fun bt349 => (if bt349.2 = 0 then (if bt345.2.2 = 0 then ((pr_Fewest.f k a0_0 l0_1 l0_2 bt349.1).bind fun bt353 => ((pl_to.f bt353.1 bt353.2).bind fun bt355 => (if (bt345.1 == bt355.1 && (bt345.2.1 == bt355.2)) = true then ((pl_awake.f).bind fun t357 => (some t357)) else (some false)))) else (some false)) else (if bt345.2.2 = bt349.2 then (if (bt345.1 == 0 && (bt345.2.1 == 0)) = true then ((pl_awake.f).bind fun t358 => (some t358)) else (some false)) else (some false)))))) else ((pl_awake.f).bind fun t337 => (some t337)))
end Go.Proofs.Ytncaadckehikpaa.Q
namespace Go.Proofs.Ytncaadckehikpaa.Q
open Go.RowKit Go.Proofs.YtncaadckehikpaaW.PrintWords Go.Proofs.YtncaadckehikpaaW.PrintLast Go.Proofs.YtncaadckehikpaaW.PrintMore
set_option linter.unusedVariables false
set_option linter.unusedSimpArgs false
set_option linter.unusedSectionVars false
theorem or_bits_all : ∀ n : Fin 6, ∀ a : Fin 64, a.val < 2 ^ n.val → ∀ i : Fin 6, bitN (a.val + 2 ^ n.val) i.val = (bitN a.val i.val || i.val == n.val) := by decide +kernel
theorem openTo_bit (v : List Int) : ∀ n, n ≤ 6 → ∀ i, i < 6 → bitN (openTo v n) i = (decide (i < n) && decide (rd v i ≠ 0))
  | 0, _, i, _ => by simp [openTo, bitN]
  | n + 1, hn, i, hi => by
    have ih := openTo_bit v n (by omega) i hi
    have hlt := z49 v n
    have h64 : (2 : Nat) ^ n ≤ 2 ^ 6 := Nat.pow_le_pow_right (by omega) (by omega)
    simp only [openTo]
    by_cases h : rd v (n : Int) ≠ 0
    · rw [if_pos h, or_bits_all ⟨n, by omega⟩ ⟨openTo v n, by omega⟩ hlt ⟨i, hi⟩, ih]
      by_cases e : i = n
      · subst e; simp [h]
      · have : (decide (i < n + 1)) = decide (i < n) := by
          by_cases q : i < n
          · simp [q, show i < n + 1 by omega]
          · simp [q, show ¬ i < n + 1 by omega]
        rw [this]; simp [e]
    · rw [if_neg h, ih]
      by_cases e : i = n
      · subst e; simp [h]
      · have : (decide (i < n + 1)) = decide (i < n) := by
          by_cases q : i < n
          · simp [q, show i < n + 1 by omega]
          · simp [q, show ¬ i < n + 1 by omega]
        rw [this]
/-- All women together. -/
def tot (v : List Int) : Int := rd v 0 + rd v 1 + rd v 2 + rd v 3 + rd v 4 + rd v 5
theorem sum_open (v : List Int) : sumN v (openN v) = tot v := by
  have h : ∀ i, i < 6 → (if bitN (openN v) i = true then rd v (i : Int) else 0) = rd v (i : Int) := fun i hi => by
    unfold openN
    rw [openTo_bit v 6 (by omega) i hi]
    by_cases q : rd v (i : Int) = 0
    · simp [q]
    · simp [q, hi]
  have hs : ∀ m n, sumTo v m (n + 1) = sumTo v m n + (if bitN m n = true then rd v (n : Int) else 0) := fun m n => by
    simp only [sumTo]
    split <;> omega
  unfold sumN tot
  rw [hs, hs, hs, hs, hs, hs, h 0 (by omega), h 1 (by omega), h 2 (by omega), h 3 (by omega), h 4 (by omega), h 5 (by omega)]
  simp only [sumTo]
  simp
section
variable (n : Int) (l1 : List S91) (l2 : List S94) (os : List Int) (hck : checkS n (l1.map c91) (l2.map c94) = 0) (ho : Small (l1.map c91) os)
include hck ho
theorem owed_out (w : Int) (hw : n ≤ w) (hw6 : w < 6) : ∀ i : Nat, i ≤ l1.length → rd (owedTo (l1.map c91) os i) w = 0
  | 0, _ => by
    obtain ⟨z0, z1, z2, z3, z4, z5⟩ := z40 hck
    obtain ⟨m, rfl⟩ : ∃ m : Nat, w = m := ⟨w.toNat, by omega⟩
    unfold rd owedTo
    rw [Int.toNat_natCast]
    rcases m with _ | _ | _ | _ | _ | _ | m <;> simp [List.getD]
  | i + 1, hi => by
    obtain ⟨z0, z1, z2, z3, z4, z5⟩ := z40 hck
    have he := z51 hck (i : Int) (by omega) (by rw [List.length_map]; omega)
    rw [owedTo_step (l1.map c91) os i w (by omega) (by omega) (by omega) (by omega) he.2.2.2.2.1 (by omega) hw6, if_neg (by omega), if_neg (by omega)]
    exact owed_out w hw hw6 i (by omega)
theorem tot_owed : ∀ i : Nat, i ≤ l1.length → tot (owedTo (l1.map c91) os i) = 0
  | 0, _ => by simp [tot, owedTo, rd, List.getD]
  | i + 1, hi => by
    obtain ⟨z0, z1, z2, z3, z4, z5⟩ := z40 hck
    have he := z51 hck (i : Int) (by omega) (by rw [List.length_map]; omega)
    have ih := tot_owed i (by omega)
    have st := fun (w : Int) (h0 : 0 ≤ w) (h6 : w < 6) => owedTo_step (l1.map c91) os i w (by omega) (by omega) (by omega) (by omega) he.2.2.2.2.1 h0 h6
    unfold tot at ih ⊢
    rw [st 0 (by omega) (by omega), st 1 (by omega) (by omega), st 2 (by omega) (by omega), st 3 (by omega) (by omega), st 4 (by omega) (by omega), st 5 (by omega) (by omega)]
    generalize (rd_T122 (l1.map c91) (i : Int)).f0 = a at he
    generalize (rd_T122 (l1.map c91) (i : Int)).f1 = b at he
    have ha : a = 0 ∨ a = 1 ∨ a = 2 ∨ a = 3 ∨ a = 4 ∨ a = 5 := by omega
    have hb : b = 0 ∨ b = 1 ∨ b = 2 ∨ b = 3 ∨ b = 4 ∨ b = 5 := by omega
    rcases ha with rfl | rfl | rfl | rfl | rfl | rfl <;> rcases hb with rfl | rfl | rfl | rfl | rfl | rfl <;> first | (exfalso; omega) | (simp; omega)
theorem sum_open_owed : sumN (owedL (l1.map c91) os) (openN (owedL (l1.map c91) os)) = 0 := by
  rw [sum_open]
  have := tot_owed n l1 l2 os hck ho l1.length (Nat.le_refl _)
  unfold owedL
  rw [List.length_map]
  exact this
theorem openTo_all : ∀ d : Nat, n.toNat + d ≤ 6 → openTo (owedL (l1.map c91) os) (n.toNat + d) = openTo (owedL (l1.map c91) os) n.toNat
  | 0, _ => rfl
  | d + 1, h => by
    obtain ⟨z0, z1, z2, z3, z4, z5⟩ := z40 hck
    have hz := owed_out n l1 l2 os hck ho ((n.toNat + d : Nat) : Int) (by omega) (by omega) l1.length (Nat.le_refl _)
    rw [show n.toNat + (d + 1) = (n.toNat + d) + 1 by omega, openTo, if_neg, openTo_all d (by omega)]
    unfold owedL
    rw [List.length_map]
    simpa using hz
theorem Open_l0 : ∀ (d k i : Nat), (i : Int) + d = n → d + 10 < k → pr_Open.l0 k os ((openTo (owedL (l1.map c91) os) i : Nat) : Int) i n l1 l2 = some ((openTo (owedL (l1.map c91) os) n.toNat : Nat) : Int)
  | 0, k + 1, i, hi, hk => by
    rw [pr_Open.l0, if_neg (by omega), show n.toNat = i by omega]
  | d + 1, k + 1, i, hi, hk => by
    obtain ⟨z0, z1, z2, z3, z4, z5⟩ := z40 hck
    have hb := z49 (owedL (l1.map c91) os) i
    have ih := Open_l0 d k (i + 1) (by omega) (by omega)
    rw [openTo] at ih
    rw [pr_Open.l0, if_pos (by omega), Owed_f k n l1 l2 os _ hck ho (by omega) (by omega) (by omega), Option.bind_some, w1 i (by omega), u64_small i (by omega), shlS6 i (by omega), if_pos (show (0 : Int) ≤ ((i : Nat) : Int) by omega), or_bit _ i (by omega) hb]
    by_cases h : rd (owedL (l1.map c91) os) (i : Int) = 0
    · rw [if_neg (by simpa using h)] at ih
      rw [if_pos h]
      exact ih
    · rw [if_pos h] at ih
      rw [if_neg h]
      exact ih
theorem Open_f (k : Nat) (hk : 20 ≤ k) : pr_Open.f k n l1 l2 os = some ((openN (owedL (l1.map c91) os) : Nat) : Int) := by
  obtain ⟨z0, z1, z2, z3, z4, z5⟩ := z40 hck
  have h := Open_l0 n l1 l2 os hck ho n.toNat k 0 (by omega) (by omega)
  have ha := openTo_all n l1 l2 os hck ho (6 - n.toNat) (by omega)
  rw [show n.toNat + (6 - n.toNat) = 6 by omega] at ha
  unfold openN
  rw [ha]
  exact h
end
section
variable (n : Int) (l1 : List S91) (l2 : List S94) (oss : List (List Int)) (hck : checkS n (l1.map c91) (l2.map c94) = 0) (ho : ∀ os ∈ oss, Small (l1.map c91) os) (hl : oss.length ≤ 2000)
include hck ho hl
end
end Go.Proofs.Ytncaadckehikpaa.Q
namespace Go.Proofs.Ytncaadckehikpaa.Q
open Go.RowKit Go.Proofs.YtncaadckehikpaaW.PrintWords Go.Proofs.YtncaadckehikpaaW.PrintLast Go.Proofs.YtncaadckehikpaaW.PrintMore
set_option linter.unusedVariables false
set_option linter.unusedSimpArgs false
/-- The groups by bits. -/
def groupsM (v : List Int) : Nat → Nat → Nat → List Nat
  | 0, _, _ => []
  | k + 1, m, gr => if m = 0 then [] else
    match pickOf v m with
    | none => []
    | some i => if sumN v (clr m i) = 0 then (gr + 2 ^ i) :: groupsM v k (clr m i) 0 else groupsM v k (clr m i) (gr + 2 ^ i)
theorem groups_masks (v : List Int) : ∀ k m gr, z36 v k m gr = (groupsM v k m gr).map bitsL
  | 0, m, gr => rfl
  | k + 1, m, gr => by
    simp only [z36, groupsM]
    by_cases h : m = 0
    · rw [if_pos h, if_pos h]; rfl
    · rw [if_neg h, if_neg h]
      rcases pickOf v m with _ | i
      · rfl
      · simp only []
        by_cases hs : sumN v (clr m i) = 0
        · rw [if_pos hs, if_pos hs, List.map_cons, groups_masks v k]
        · rw [if_neg hs, if_neg hs, groups_masks v k]
set_option maxRecDepth 100000 in
theorem add_bits_all : ∀ g : Fin 64, ∀ i : Fin 6, bitN g.val i.val = false → g.val + 2 ^ i.val < 64 ∧ (bitsL (g.val + 2 ^ i.val)).length = (bitsL g.val).length + 1 ∧ ∀ j : Fin 6, bitN (g.val + 2 ^ i.val) j.val = (bitN g.val j.val || j.val == i.val) := by decide +kernel
theorem add_bits {g i : Nat} (hg : g < 64) (hi : i < 6) (h : bitN g i = false) : g + 2 ^ i < 64 ∧ (bitsL (g + 2 ^ i)).length = (bitsL g).length + 1 ∧ ∀ j, j < 6 → bitN (g + 2 ^ i) j = (bitN g j || j == i) := by
  obtain ⟨a, b, c⟩ := add_bits_all ⟨g, hg⟩ ⟨i, hi⟩ h
  exact ⟨a, b, fun j hj => c ⟨j, hj⟩⟩
set_option maxRecDepth 100000 in
theorem clr_len_all : ∀ g : Fin 64, ∀ i : Fin 6, bitN g.val i.val = true → (bitsL (clr g.val i.val)).length + 1 = (bitsL g.val).length := by decide +kernel
theorem sumTo_add (v : List Int) {g i : Nat} (hg : g < 64) (hi : i < 6) (h : bitN g i = false) : ∀ n : Nat, n ≤ 6 → sumTo v (g + 2 ^ i) n = sumTo v g n + if i < n then rd v (i : Int) else 0
  | 0, _ => by simp [sumTo]
  | n + 1, hn => by
    have ih := sumTo_add v hg hi h n (by omega)
    have hb := (add_bits hg hi h).2.2 n (by omega)
    simp only [sumTo]
    rw [hb]
    by_cases e : n = i
    · subst e
      rw [if_neg (show ¬ n < n by omega)] at ih
      simp only [h, beq_self_eq_true, Bool.or_true, if_true, Bool.false_eq_true, if_false, show n < n + 1 by omega]
      omega
    · have : (n == i) = false := by simpa using e
      rw [this, Bool.or_false]
      have e2 : (i < n + 1) ↔ (i < n) := ⟨fun q => by omega, fun q => by omega⟩
      simp only [e2]
      split <;> omega
theorem sumTo_clr (v : List Int) {g i : Nat} (hg : g < 64) (hi : i < 6) (h : bitN g i = true) : ∀ n : Nat, n ≤ 6 → sumTo v (clr g i) n + (if i < n then rd v (i : Int) else 0) = sumTo v g n
  | 0, _ => by simp [sumTo]
  | n + 1, hn => by
    have ih := sumTo_clr v hg hi h n (by omega)
    have hb := clr_bits hg hi (show n < 6 by omega)
    simp only [sumTo]
    rw [hb]
    by_cases e : i = n
    · subst e
      rw [if_neg (by omega)] at ih
      simp only [h, beq_self_eq_true, Bool.not_true, Bool.and_false, Bool.false_eq_true, if_false, if_true, show i < i + 1 by omega]
      omega
    · have : (i == n) = false := by simpa using e
      rw [this, Bool.not_false, Bool.and_true]
      have e2 : (i < n + 1) ↔ (i < n) := ⟨fun q => by omega, fun q => by omega⟩
      simp only [e2]
      split <;> omega
theorem sumN_add (v : List Int) {g i : Nat} (hg : g < 64) (hi : i < 6) (h : bitN g i = false) : sumN v (g + 2 ^ i) = sumN v g + rd v (i : Int) := by
  have := sumTo_add v hg hi h 6 (by omega)
  rw [if_pos hi] at this
  exact this
theorem sumN_clr (v : List Int) {g i : Nat} (hg : g < 64) (hi : i < 6) (h : bitN g i = true) : sumN v (clr g i) + rd v (i : Int) = sumN v g := by
  have := sumTo_clr v hg hi h 6 (by omega)
  rw [if_pos hi] at this
  exact this
/-- A woman is in how many groups. -/
def inG (gs : List Nat) (i : Nat) : Nat := (gs.map (fun g => if bitN g i = true then 1 else 0)).sum
theorem groups_spec (v : List Int) : ∀ (k m gr : Nat), m ≤ k → m < 64 → gr < 64 → gr &&& m = 0 → sumN v gr + sumN v m = 0 →
    (∀ g ∈ groupsM v k m gr, g < 64 ∧ g ≠ 0 ∧ sumN v g = 0) ∧
    (∀ i, i < 6 → inG (groupsM v k m gr) i = (if bitN m i = true then 1 else 0) + (if m ≠ 0 ∧ bitN gr i = true then 1 else 0)) ∧
    ((groupsM v k m gr).map (fun g => (bitsL g).length)).sum = (bitsL m).length + (if m ≠ 0 then (bitsL gr).length else 0) ∧
    ((groupsM v k m gr).length : Int) = F v m + (if m ≠ 0 ∧ sumN v m ≠ 0 then 1 else 0)
  | 0, m, gr, hk, hm, hgr, ha, hs => by
    have h0 : m = 0 := by omega
    subst h0
    refine ⟨fun g hg => by simp [groupsM] at hg, fun i hi => by simp [groupsM, inG, bitN], by rw [show (bitsL 0).length = 0 by decide]; simp [groupsM], by simp [groupsM, F_zero]⟩
  | k + 1, m, gr, hk, hm, hgr, ha, hs => by
    by_cases h0 : m = 0
    · subst h0
      refine ⟨fun g hg => by simp [groupsM] at hg, fun i hi => by simp [groupsM, inG, bitN], by rw [show (bitsL 0).length = 0 by decide]; simp [groupsM], by simp [groupsM, F_zero]⟩
    · obtain ⟨i, e1, e2, e3, e4⟩ := pick_some v m hm h0
      simp only [goesB, Bool.and_eq_true, beq_iff_eq, leftOf] at e3
      obtain ⟨hb, hF⟩ := e3
      obtain ⟨a1, a2, a3⟩ := apart_step gr m i hgr hm e2 ha hb
      have hlt := clr_lt hb
      have hc64 : clr m i < 64 := by omega
      obtain ⟨b1, b2, b3⟩ := add_bits hgr e2 a2
      have hlen := clr_len_all ⟨m, hm⟩ ⟨i, e2⟩ hb
      have hsa := sumN_add v hgr e2 a2
      have hsc := sumN_clr v hm e2 hb
      have hcb := fun j (hj : j < 6) => clr_bits (b := m) (i := i) (j := j) hm e2 hj
      have hbits : ∀ j, j < 6 → ((if bitN (clr m i) j = true then 1 else 0) + (if bitN (gr + 2 ^ i) j = true then 1 else 0) : Nat) = (if bitN m j = true then 1 else 0) + (if bitN gr j = true then 1 else 0) := fun j hj => by
        rw [hcb j hj, b3 j hj]
        by_cases e : i = j
        · subst e
          rw [a2, hb]
          simp
        · rw [show (i == j) = false by simpa using e, show (j == i) = false by simpa using (fun q => e q.symm)]
          simp
      simp only [groupsM, if_neg h0, e1]
      by_cases hz : sumN v (clr m i) = 0
      · rw [if_pos hz]
        obtain ⟨i1, i2, i3, i4⟩ := groups_spec v k (clr m i) 0 (by omega) hc64 (by omega) (Nat.zero_and _) (by rw [hz]; simp [sumN, sumTo, bitN])
        refine ⟨?_, ?_, ?_, ?_⟩
        · intro g hg
          rcases List.mem_cons.1 hg with rfl | hg
          · refine ⟨b1, ?_, by omega⟩
            have : 0 < 2 ^ i := Nat.two_pow_pos i
            omega
          · exact i1 g hg
        · intro j hj
          have h1 := i2 j hj
          have h2 := hbits j hj
          have z : bitN 0 j = false := by simp [bitN]
          rw [z] at h1
          simp only [Bool.false_eq_true, and_false, if_false, Nat.add_zero] at h1
          unfold inG at h1 ⊢
          rw [List.map_cons, List.sum_cons, h1]
          simp only [ne_eq, h0, not_false_eq_true, true_and]
          omega
        · rw [List.map_cons, List.sum_cons, i3, if_pos h0, b2]
          have z : (bitsL 0).length = 0 := by decide
          rw [z]
          simp only [] at hlen
          split <;> omega
        · rw [List.length_cons]
          have e5 : ¬ (clr m i ≠ 0 ∧ sumN v (clr m i) ≠ 0) := fun q => q.2 hz
          rw [if_neg e5] at i4
          by_cases hm0 : sumN v m = 0
          · rw [if_pos hm0] at hF
            rw [if_neg (fun q => q.2 hm0)]
            push_cast
            omega
          · rw [if_neg hm0] at hF
            rw [if_pos ⟨h0, hm0⟩]
            push_cast
            omega
      · rw [if_neg hz]
        have hc0 : clr m i ≠ 0 := fun q => hz (by rw [q]; simp [sumN, sumTo, bitN])
        obtain ⟨i1, i2, i3, i4⟩ := groups_spec v k (clr m i) (gr + 2 ^ i) (by omega) hc64 b1 a1 (by omega)
        refine ⟨i1, ?_, ?_, ?_⟩
        · intro j hj
          have h1 := i2 j hj
          have h2 := hbits j hj
          simp only [ne_eq, hc0, not_false_eq_true, true_and] at h1
          simp only [ne_eq, h0, not_false_eq_true, true_and]
          omega
        · rw [i3, if_pos hc0, if_pos h0, b2]
          simp only [] at hlen
          omega
        · rw [i4, if_pos ⟨hc0, hz⟩]
          by_cases hm0 : sumN v m = 0
          · rw [if_pos hm0] at hF
            rw [if_neg (fun q => q.2 hm0)]
            omega
          · rw [if_neg hm0] at hF
            rw [if_pos ⟨h0, hm0⟩]
            omega
theorem openN64 (v : List Int) : openN v < 64 := z49 v 6
/-- The groups of a purse, by bits. -/
def gm (v : List Int) : List Nat := groupsM v 64 (openN v) 0
theorem groupsL_gm (v : List Int) : groupsL v = (gm v).map bitsL := groups_masks v 64 (openN v) 0
theorem gm_spec (v : List Int) (hs : sumN v (openN v) = 0) : (∀ g ∈ gm v, g < 64 ∧ g ≠ 0 ∧ sumN v g = 0) ∧ (∀ i, i < 6 → inG (gm v) i = if bitN (openN v) i = true then 1 else 0) ∧
    ((gm v).map (fun g => (bitsL g).length)).sum = (bitsL (openN v)).length ∧ ((gm v).length : Int) = F v (openN v) := by
  have h64 := openN64 v
  obtain ⟨h1, h2, h3, h4⟩ := groups_spec v 64 (openN v) 0 (by omega) h64 (by omega) (Nat.zero_and _) (by rw [hs]; simp [sumN, sumTo, bitN])
  refine ⟨h1, fun i hi => ?_, ?_, ?_⟩
  · have := h2 i hi
    have z : bitN 0 i = false := by simp [bitN]
    rw [z] at this
    unfold gm
    simpa using this
  · have z : (bitsL 0).length = 0 := by decide
    rw [z] at h3
    unfold gm
    simpa using h3
  · rw [if_neg (fun q => q.2 hs)] at h4
    simpa [gm] using h4
/-- All payments. -/
theorem all_pays (v : List Int) (hv : v.length = 6) (B : Int) (hB : ∀ i : Nat, i < 6 → -B ≤ rd v (i : Int) ∧ rd v (i : Int) ≤ B) : ∀ gs : List Nat, (∀ g ∈ gs, g < 64 ∧ g ≠ 0 ∧ sumN v g = 0) →
    (∀ p ∈ z33 v (gs.map bitsL), Six p ∧ 1 ≤ p.f2 ∧ p.f2 ≤ B ∧ ∃ g ∈ gs, bitN g p.f0.toNat = true ∧ bitN g p.f1.toNat = true) ∧ (∀ i : Nat, i < 6 → eff (z33 v (gs.map bitsL)) (i : Int) = -((inG gs i : Nat) : Int) * rd v (i : Int)) ∧
      (z33 v (gs.map bitsL)).length + gs.length ≤ (gs.map (fun g => (bitsL g).length)).sum
  | [], _ => ⟨fun p hp => by simp [z33] at hp, fun i hi => by simp [z33, eff, inG], by simp [z33]⟩
  | g :: gs, h => by
    obtain ⟨i1, i2, i3⟩ := all_pays v hv B hB gs (fun x hx => h x (by simp [hx]))
    obtain ⟨g1, g2, g3⟩ := h g (by simp)
    obtain ⟨s1, s2, s3⟩ := settleL_spec g g1 B v hv g3 hB
    have s4 := s3 g2
    rw [List.map_cons, z33]
    refine ⟨?_, ?_, ?_⟩
    · intro p hp
      rcases List.mem_append.1 hp with hp | hp
      · obtain ⟨q1, q2, q3, q4, q5⟩ := s1 p hp
        exact ⟨q1, q4, q5, g, by simp, q2, q3⟩
      · obtain ⟨q1, q2, q3, x, q4, q5⟩ := i1 p hp
        exact ⟨q1, q2, q3, x, by simp [q4], q5⟩
    · intro i hi
      rw [eff_append, s2 i hi, i2 i hi]
      unfold inG
      rw [List.map_cons, List.sum_cons]
      generalize (gs.map (fun g => if bitN g i = true then 1 else 0)).sum = S
      by_cases hb : bitN g i = true
      · rw [if_pos hb, if_pos hb, show (-(((1 + S : Nat)) : Int)) = -1 + -((S : Nat) : Int) by omega, Int.add_mul]
        omega
      · rw [if_neg hb, if_neg hb, Nat.zero_add]
        omega
    · rw [List.length_append, List.length_cons, List.map_cons, List.sum_cons]
      omega
end Go.Proofs.Ytncaadckehikpaa.Q
