/- The last part: the row, by the parts before. No condition. -/
import Derived.Lib.SmallJoins
import Derived.Deep.Slices
import Derived.ChangeSame
import Derived.WideLaws
import Derived.Test.YtncaadckehikpaaRows
import Derived.WalkKit
import Derived.ProofKit
import Derived.OpenShut
import Derived.ChangeOld
import Derived.Below
import Derived.SizedLaws
import Derived.Test.YtncaadckehikpaaM26
import Derived.Test.YtncaadckehikpaaM27
import Derived.Test.YtncaadckehikpaaM3
namespace Go.Proofs.Ytncaadckehikpaa.Q
open Go.RowKit Go.Proofs.YtncaadckehikpaaW.PrintWords Go.Proofs.YtncaadckehikpaaW.PrintLast Go.Proofs.YtncaadckehikpaaW.PrintMore
set_option linter.unusedVariables false
set_option linter.unusedSimpArgs false
set_option linter.unusedSectionVars false
theorem inG_append (a b : List Nat) (i : Nat) : inG (a ++ b) i = inG a i + inG b i := by simp [inG]
theorem inG_cons (g : Nat) (b : List Nat) (i : Nat) : inG (g :: b) i = (if bitN g i = true then 1 else 0) + inG b i := by simp [inG]
section
variable (n : Int) (l1 : List S91) (l2 : List S94) (os : List Int) (hck : checkS n (l1.map c91) (l2.map c94) = 0) (ho : Small (l1.map c91) os)
include hck ho
theorem owed_out' (i : Int) (a : n ≤ i) (b : i < 6) : rd (owedL (l1.map c91) os) i = 0 := by
  have := owed_out n l1 l2 os hck ho i a b l1.length (Nat.le_refl _)
  unfold owedL
  rw [List.length_map]
  exact this
theorem settle_owed : (∀ i : Int, 0 ≤ i → i < 6 → eff (z30 (owedL (l1.map c91) os) (groupsL (owedL (l1.map c91) os))) i = -rd (owedL (l1.map c91) os) i) ∧ ((z30 (owedL (l1.map c91) os) (groupsL (owedL (l1.map c91) os))).length : Int) = payN (owedL (l1.map c91) os) := by
  have h6 : (owedL (l1.map c91) os).length = 6 := z33 _ _ _
  have hl := (z38 hck).2.2.1
  have hB : ∀ i : Nat, i < 6 → -240 ≤ rd (owedL (l1.map c91) os) (i : Int) ∧ rd (owedL (l1.map c91) os) (i : Int) ≤ 240 := fun i hi => by
    have := owed_240 n l1 l2 os hck ho (i : Int) (by omega) (by omega) l1.length (Nat.le_refl _)
    unfold owedL
    rw [List.length_map]
    omega
  exact (settle_all (owedL (l1.map c91) os) h6 (sum_open_owed n l1 l2 os hck ho) 240 hB).2
theorem gm_owed : (∀ g ∈ gm (owedL (l1.map c91) os), g < 64 ∧ g ≠ 0 ∧ sumN (owedL (l1.map c91) os) g = 0) ∧ (∀ i, i < 6 → inG (gm (owedL (l1.map c91) os)) i = if rd (owedL (l1.map c91) os) (i : Int) ≠ 0 then 1 else 0) := by
  obtain ⟨g1, g2, g3, g4⟩ := gm_spec (owedL (l1.map c91) os) (sum_open_owed n l1 l2 os hck ho)
  refine ⟨g1, fun i hi => ?_⟩
  rw [g2 i hi]
  unfold openN
  rw [openTo_bit _ 6 (by omega) i hi, decide_eq_true hi, Bool.true_and]
  by_cases q : rd (owedL (l1.map c91) os) (i : Int) = 0 <;> simp [q]
theorem none_owed : ((z30 (owedL (l1.map c91) os) (groupsL (owedL (l1.map c91) os))).length = 0 ↔ ∀ i : Int, 0 ≤ i → i < 6 → rd (owedL (l1.map c91) os) i = 0) := by
  obtain ⟨s1, s2⟩ := settle_owed n l1 l2 os hck ho
  constructor
  · intro h i h0 h6
    have := s1 i h0 h6
    rw [List.length_eq_zero_iff.1 h] at this
    simp only [eff, List.map_nil, List.sum_nil] at this
    omega
  · intro h
    have hz : openN (owedL (l1.map c91) os) = 0 := by
      obtain ⟨q, _, _⟩ := bit_sub (a := openN (owedL (l1.map c91) os)) (b := 0) (z52 _ 6) (by omega) (fun i hi hb => by
        unfold openN at hb
        rw [openTo_bit _ 6 (by omega) i hi, h (i : Int) (by omega) (by omega)] at hb
        simp at hb)
      omega
    unfold payN at s2
    rw [hz, F_zero, show (bitsL 0).length = 0 by decide] at s2
    omega
end
/-- Which women have been seen. -/
def seenV (N : Nat) (gs : List Nat) (part : List Int) : List Bool := (List.range N).map (fun w : Nat => decide (inG gs w ≠ 0) || decide ((w : Int) ∈ part))
theorem seenV_len (N : Nat) (gs : List Nat) (part : List Int) : (seenV N gs part).length = N := by simp [seenV]
theorem seenV_get (N : Nat) (gs : List Nat) (part : List Int) (i : Nat) (h : i < (seenV N gs part).length) : (seenV N gs part)[i] = (decide (inG gs i ≠ 0) || decide ((i : Int) ∈ part)) := by simp [seenV]
theorem seenV_rd (N : Nat) (gs : List Nat) (part : List Int) (w : Nat) (h : w < N) : rdOf false (seenV N gs part) (w : Int) = (decide (inG gs w ≠ 0) || decide ((w : Int) ∈ part)) := by
  unfold rdOf seenV
  rw [Int.toNat_natCast, List.getD_eq_getElem?_getD, List.getElem?_map, List.getElem?_range h]
  rfl
theorem bitsL_nodup_all : ∀ m : Fin 64, ∀ j : Fin 6, ∀ x, (bitsL m.val)[j.val]? = some x → x ∉ (bitsL m.val).take j.val := by decide +kernel
section
variable (n : Int) (l1 : List S91) (l2 : List S94) (os : List Int) (hck : checkS n (l1.map c91) (l2.map c94) = 0) (ho : Small (l1.map c91) os)
include hck ho
theorem Apart_l2 (x10 : List S76) (hx : x10.length = 0 ↔ ∀ i : Int, 0 ≤ i → i < 6 → rd (owedL (l1.map c91) os) i = 0) : ∀ (d k w : Nat), (w : Int) + d = n → d + 250 < k →
    pl_SoapApart.l2 k ((owedL (l1.map c91) os).take n.toNat) x10 (seenV n.toNat (gm (owedL (l1.map c91) os)) []) w n l1 l2 = some true
  | 0, k + 1, w, hi, hk => by
    obtain ⟨z0, z1, z2, z3, z4, z5⟩ := z38 hck
    have h6 : (owedL (l1.map c91) os).length = 6 := z33 _ _ _
    have hl : ((owedL (l1.map c91) os).take n.toNat).length = n.toNat := by rw [List.length_take]; omega
    rw [pl_SoapApart.l2, if_neg (by omega), if_pos z0, if_pos (by omega), sameS_f k _ _ (by omega) (by rw [hl, List.length_replicate]) (by omega), Option.bind_some]
    have e : (((x10.length : Int) == 0) == decide ((owedL (l1.map c91) os).take n.toNat = List.replicate n.toNat 0)) = true := by
      rw [beq_iff_eq, Bool.eq_iff_iff, beq_iff_eq, decide_eq_true_eq]
      constructor
      · intro q
        have hz := hx.1 (by omega)
        refine List.ext_getElem (by rw [hl, List.length_replicate]) (fun i h1 h2 => ?_)
        rw [List.getElem_replicate, List.getElem_take]
        have := hz (i : Int) (by omega) (by omega)
        rw [rdI' _ i (by omega)] at this
        exact this
      · intro q
        have : x10.length = 0 := hx.2 (fun i h0 h6' => by
          by_cases a : i < n
          · have h1 : rd ((owedL (l1.map c91) os).take n.toNat) ((i.toNat : Nat) : Int) = 0 := by
              rw [rdI' _ i.toNat (by omega)]
              simp only [q, List.getElem_replicate]
            rw [rdI' _ i.toNat (by omega), List.getElem_take] at h1
            rw [show i = ((i.toNat : Nat) : Int) by omega, rdI' _ i.toNat (by omega)]
            exact h1
          · exact owed_out' n l1 l2 os hck ho i (by omega) h6')
        omega
    rw [if_pos e]
    rfl
  | d + 1, k + 1, w, hi, hk => by
    obtain ⟨z0, z1, z2, z3, z4, z5⟩ := z38 hck
    have h6 : (owedL (l1.map c91) os).length = 6 := z33 _ _ _
    have hl : ((owedL (l1.map c91) os).take n.toNat).length = n.toNat := by rw [List.length_take]; omega
    have hr : rd ((owedL (l1.map c91) os).take n.toNat) (w : Int) = rd (owedL (l1.map c91) os) (w : Int) := by
      rw [rdI' _ w (by omega), List.getElem_take, rdI' _ w (by omega)]
    have hg := (gm_owed n l1 l2 os hck ho).2 w (by omega)
    have ih := Apart_l2 x10 hx d k (w + 1) (by omega) (by omega)
    rw [pl_SoapApart.l2, if_pos (by omega), if_pos (by omega), if_pos (by rw [seenV_len]; omega), seenV_rd _ _ _ w (by omega), hg, hr, w1 w (by omega)]
    by_cases q : rd (owedL (l1.map c91) os) (w : Int) = 0
    · rw [if_neg (by simp [q]), if_pos (by omega), if_pos q]
      exact ih
    · rw [if_pos (by simp [q])]
      exact ih
theorem Apart_l1 (x10 : List S76) (pre post : List Nat) (g : Nat) (hgm : gm (owedL (l1.map c91) os) = pre ++ g :: post) (K : Nat)
    (hnext : ∀ k, K ≤ k → pl_SoapApart.l0 k ((owedL (l1.map c91) os).take n.toNat) (groupsL (owedL (l1.map c91) os)) x10 (seenV n.toNat (pre ++ [g]) []) ((pre.length + 1 : Nat) : Int) n l1 l2 = some true) :
    ∀ (d k j : Nat) (acc : Int), j + d = (bitsL g).length → K + d < k → acc = (((bitsL g).take j).map (fun i => rd (owedL (l1.map c91) os) i)).sum → -(500 * (j : Int)) ≤ acc → acc ≤ 500 * (j : Int) →
    pl_SoapApart.l1 k ((owedL (l1.map c91) os).take n.toNat) (groupsL (owedL (l1.map c91) os)) x10 (seenV n.toNat pre ((bitsL g).take j)) ((pre.length : Nat) : Int) acc j n l1 l2 = some true
  | 0, k + 1, j, acc, hj, hk, ha, h0, h1 => by
    have hlen : pre.length < (groupsL (owedL (l1.map c91) os)).length := by rw [z42, hgm]; simp
    have hat : (groupsL (owedL (l1.map c91) os))[pre.length] = bitsL g := by
      simp only [z42, hgm]
      simp
    obtain ⟨q1, q2, q3⟩ := (gm_owed n l1 l2 os hck ho).1 g (by rw [hgm]; simp)
    have hz : acc = 0 := by rw [ha, List.take_of_length_le (by omega), bitsL_sum, q3]
    have hb : (bitsL g).length ≠ 0 := by
      obtain ⟨i, hi⟩ := has_bit_all ⟨g, q1⟩ q2
      have : ((i.val : Nat) : Int) ∈ bitsL g := (z47 g _).2 ⟨by omega, by omega, by rw [Int.toNat_natCast]; exact hi⟩
      have := List.length_pos_of_mem this
      omega
    have hsee : seenV n.toNat pre ((bitsL g).take j) = seenV n.toNat (pre ++ [g]) [] := by
      unfold seenV
      refine List.map_congr_left (fun w hw => ?_)
      have hw' := List.mem_range.1 hw
      have hz6 := (z38 hck).2.1
      rw [inG_append, inG_cons, List.take_of_length_le (by omega)]
      have hm := z47 g (w : Int)
      rw [Int.toNat_natCast] at hm
      have e0 : inG [] w = 0 := rfl
      rw [e0]
      by_cases hbw : bitN g w = true
      · have hmem : (w : Int) ∈ bitsL g := hm.2 ⟨by omega, by omega, hbw⟩
        simp [hbw, hmem]
      · have hmem : ¬ (w : Int) ∈ bitsL g := fun q => hbw (hm.1 q).2.2
        simp [hbw, hmem]
    rw [pl_SoapApart.l1, if_pos (by omega), if_pos (by omega), rdL4 _ pre.length hlen, hat, if_neg (by omega), if_pos hz, if_neg (by omega), hsee, w1 pre.length (by
      have : (groupsL (owedL (l1.map c91) os)).length ≤ 64 := by rw [groupsL]; exact groups_len _ _ _ _
      omega)]
    exact hnext k (by omega)
  | d + 1, k + 1, j, acc, hj, hk, ha, h0, h1 => by
    obtain ⟨z0, z1, z2, z3, z4, z5⟩ := z38 hck
    have h6 : (owedL (l1.map c91) os).length = 6 := z33 _ _ _
    have hl : ((owedL (l1.map c91) os).take n.toNat).length = n.toNat := by rw [List.length_take]; omega
    have hlen : pre.length < (groupsL (owedL (l1.map c91) os)).length := by rw [z42, hgm]; simp
    have hat : (groupsL (owedL (l1.map c91) os))[pre.length] = bitsL g := by
      simp only [z42, hgm]
      simp
    obtain ⟨q1, q2, q3⟩ := (gm_owed n l1 l2 os hck ho).1 g (by rw [hgm]; simp)
    have hn : j < (bitsL g).length := by omega
    have hb6 := bitsL_length g
    obtain ⟨w, hw⟩ : ∃ w : Nat, (bitsL g)[j] = (w : Int) := ⟨(bitsL g)[j].toNat, by have := (z47 g _).1 (List.getElem_mem hn); omega⟩
    have hmem := (z47 g _).1 (List.getElem_mem hn)
    rw [hw, Int.toNat_natCast] at hmem
    have hing := (gm_owed n l1 l2 os hck ho).2 w (by omega)
    rw [hgm, inG_append, inG_cons, if_pos hmem.2.2] at hing
    have hne : rd (owedL (l1.map c91) os) (w : Int) ≠ 0 := fun q => by rw [if_neg (by simpa using q)] at hing; omega
    rw [if_pos hne] at hing
    have hwn : (w : Int) < n := by
      by_cases a : (w : Int) < n
      · exact a
      · exact absurd (owed_out' n l1 l2 os hck ho (w : Int) (by omega) (by omega)) hne
    have hnot : (w : Int) ∉ (bitsL g).take j := bitsL_nodup_all ⟨g, q1⟩ ⟨j, by omega⟩ _ (by rw [List.getElem?_eq_getElem hn, hw])
    have hr : rd ((owedL (l1.map c91) os).take n.toNat) (w : Int) = rd (owedL (l1.map c91) os) (w : Int) := by
      rw [rdI' _ w (by omega), List.getElem_take, rdI' _ w (by omega)]
    have hv := owed_500 n l1 l2 os hck ho (w : Int)
    have hset : (seenV n.toNat pre ((bitsL g).take j)).set w true = seenV n.toNat pre ((bitsL g).take (j + 1)) := by
      refine List.ext_getElem (by rw [List.length_set, seenV_len, seenV_len]) (fun i hi1 hi2 => ?_)
      rw [List.getElem_set, seenV_get, seenV_get, List.take_succ_eq_append_getElem hn, hw]
      by_cases e : w = i
      · rw [if_pos e, e]; simp
      · rw [if_neg e]
        have : ((i : Int) = (w : Int)) ↔ False := ⟨fun q => e (by omega), fun q => q.elim⟩
        simp only [List.mem_append, List.mem_singleton, this, or_false]
    have hwom : womanB n (w : Int) = true := by simp only [womanB, Bool.and_eq_true, decide_eq_true_eq]; omega
    rw [pl_SoapApart.l1, if_pos (by omega), if_pos (by omega), rdL4 _ pre.length hlen, hat, if_pos (by omega), if_pos (by omega), rdI' _ j hn, hw, In_f n _ z0 z1, Option.bind_some, if_pos hwom, if_pos (by omega), if_pos (by rw [seenV_len]; omega),
      seenV_rd _ _ _ w (by omega), if_neg (by simp [hnot]; omega), if_pos (by omega), hr, if_neg hne, Int.toNat_natCast, hset, w1 j (by omega), show wrap64 (acc + rd (owedL (l1.map c91) os) (w : Int)) = acc + rd (owedL (l1.map c91) os) (w : Int) by unfold wrap64; omega]
    exact Apart_l1 x10 pre post g hgm K hnext d k (j + 1) _ (by omega) (by omega) (by rw [List.take_succ_eq_append_getElem hn, hw, List.map_append, List.sum_append, ← ha]; simp) (by omega) (by omega)
theorem Apart_l0 (x10 : List S76) (hx : x10.length = 0 ↔ ∀ i : Int, 0 ≤ i → i < 6 → rd (owedL (l1.map c91) os) i = 0) : ∀ (rest pre : List Nat) (k : Nat), gm (owedL (l1.map c91) os) = pre ++ rest → 10 * rest.length + 300 ≤ k →
    pl_SoapApart.l0 k ((owedL (l1.map c91) os).take n.toNat) (groupsL (owedL (l1.map c91) os)) x10 (seenV n.toNat pre []) ((pre.length : Nat) : Int) n l1 l2 = some true
  | [], pre, k, hg, hk => by
    obtain ⟨z0, z1, z2, z3, z4, z5⟩ := z38 hck
    rw [List.append_nil] at hg
    obtain ⟨k, rfl⟩ : ∃ j, k = j + 1 := ⟨k - 1, by omega⟩
    rw [pl_SoapApart.l0, if_neg (by rw [z42, List.length_map, hg]; omega), ← hg]
    exact Apart_l2 n l1 l2 os hck ho x10 hx n.toNat k 0 (by omega) (by omega)
  | g :: rest, pre, k, hg, hk => by
    obtain ⟨k, rfl⟩ : ∃ j, k = j + 1 := ⟨k - 1, by omega⟩
    have hb6 := bitsL_length g
    rw [List.length_cons] at hk
    rw [pl_SoapApart.l0, if_pos (by rw [z42, List.length_map, hg]; simp; omega)]
    exact Apart_l1 n l1 l2 os hck ho x10 pre rest g hg (10 * rest.length + 300) (fun k' hk' => by
      have := Apart_l0 x10 hx rest (pre ++ [g]) k' (by rw [hg]; simp) hk'
      rw [List.length_append] at this
      exact this) (bitsL g).length k 0 0 (by omega) (by omega) (by simp) (by simp) (by simp)
end
/-- The law holds at every slate and number. -/
theorem soapApart_true (n : Int) (l1 : List S91) (l2 : List S94) (a : Int) (h0 : 0 ≤ a) (ha : a < 65536) : pl_SoapApart.f 2000 n l1 l2 a = some true := by
  unfold pl_SoapApart.f
  rw [ready_f 2000 n l1 l2 (by omega), Option.bind_some]
  by_cases hr : l1.length ≤ 30 ∧ l2.length ≤ 30 ∧ checkS n (l1.map c91) (l2.map c94) = 0
  · obtain ⟨t1, t2, hc⟩ := hr
    obtain ⟨z0, z1, z2, z3, z4, z5⟩ := z38 hc
    obtain ⟨w0, w2, w3⟩ := which_f 2000 n l1 l2 a h0 (by omega) hc (by omega)
    have hn := nth_play hc _ w2
    have ho := small_nth hc _ w2
    have hlen := nthS_length (l1.map c91) (a.toNat % prodN (l1.map c91))
    rw [List.length_map] at hlen
    rw [if_pos (by simp [t1, t2, hc]), Many_f0 2000 n l1 l2 hc (by omega), Option.bind_some, if_neg (by omega), w3, Option.bind_some]
    generalize nthS (l1.map c91) (a.toNat % prodN (l1.map c91)) = os at hn ho hlen
    have h6 : (owedL (l1.map c91) os).length = 6 := z33 _ _ _
    have hl : ((owedL (l1.map c91) os).take n.toNat).length = n.toNat := by rw [List.length_take]; omega
    have hgl : (groupsL (owedL (l1.map c91) os)).length ≤ 6 := by
      obtain ⟨g1, g2, g3, g4⟩ := gm_spec (owedL (l1.map c91) os) (sum_open_owed n l1 l2 os hc ho)
      have hp := all_pays (owedL (l1.map c91) os) h6 1000 (fun i hi => by have := owed_500 n l1 l2 os hc ho (i : Int); omega) (gm (owedL (l1.map c91) os)) g1
      have hb := bitsL_length (openN (owedL (l1.map c91) os))
      rw [z42, List.length_map]
      have := hp.2.2
      rw [g3] at this
      omega
    rw [Slate_f 2000 n l1 l2 t1 t2 (by omega), Option.bind_some, list_f os (by omega), Option.bind_some, soap_Play.f, hn, if_pos rfl, Option.bind_some, Option.bind_some, Option.bind_some, soap_Groups.f, hn, if_pos rfl, Option.bind_some, Option.bind_some, Option.bind_some, soap_Settle.f, hn, if_pos rfl, Option.bind_some]
    simp only [if_true]
    rw [if_pos (by rw [hl]; omega), small_f 2000 _ (by omega) (fun g hg => by
      rw [z42] at hg
      obtain ⟨x, _, rfl⟩ := List.mem_map.1 hg
      have := bitsL_length x
      omega) (by omega), Option.bind_some, pl_SoapApart.j0, if_neg (by simp), if_pos z0, if_pos (by omega)]
    have hs : List.replicate n.toNat false = seenV n.toNat [] [] := by
      refine List.ext_getElem (by rw [List.length_replicate, seenV_len]) (fun i h1 h2 => ?_)
      rw [List.getElem_replicate, seenV_get]
      simp [inG]
    rw [hs]
    exact Apart_l0 n l1 l2 os hc ho _ (none_owed n l1 l2 os hc ho) (gm (owedL (l1.map c91) os)) [] 1999 rfl (by
      have : (gm (owedL (l1.map c91) os)).length = (groupsL (owedL (l1.map c91) os)).length := by rw [z42, List.length_map]
      omega)
  · rw [if_neg (by simp; intro q1 q2 q3; exact hr ⟨q1, q2, q3⟩)]
    rfl
end Go.Proofs.Ytncaadckehikpaa.Q
namespace Go.Proofs.Ytncaadckehikpaa.Q
open Go.RowKit Go.Proofs.YtncaadckehikpaaW.PrintWords Go.Proofs.YtncaadckehikpaaW.PrintLast Go.Proofs.YtncaadckehikpaaW.PrintMore
open Go.ChangeShapes Go.WideShapes Go.Deep Go.Joins
set_option linter.unusedVariables false
set_option linter.unusedSimpArgs false
theorem list2 {α : Type} {l : List α} (h : l.length = 2) : ∃ a b, l = [a, b] := by
  match l, h with
  | [a, b], _ => exact ⟨a, b, rfl⟩
theorem list3 {α : Type} {l : List α} (h : l.length = 3) : ∃ a b c, l = [a, b, c] := by
  match l, h with
  | [a, b, c], _ => exact ⟨a, b, c, rfl⟩
theorem list4 {α : Type} {l : List α} (h : l.length = 4) : ∃ a b c d, l = [a, b, c, d] := by
  match l, h with
  | [a, b, c, d], _ => exact ⟨a, b, c, d, rfl⟩
section
variable {H : Type} {enc : TypeId × Value → H} {w : World} {base : Nat} {spare : Nat → Bool} {held : Bool}
theorem cells_3 : Try.prog.cellsOf 3 = 1 := by kernel_rfl
theorem cells_46 : Try.prog.cellsOf 46 = 2 := by kernel_rfl
theorem cells_91 : Try.prog.cellsOf 91 = 4 := by kernel_rfl
theorem cells_94 : Try.prog.cellsOf 94 = 3 := by kernel_rfl
theorem cells_25 : Try.prog.cellsOf 25 = 3 := by kernel_rfl
theorem one25 : oneCellFields Try.prog #[{ name := "Women", type := 3, offset := 0, embedded := false, tag := "", pkgPath := "", byteOffset := 0 }, { name := "Entries", type := 22, offset := 1, embedded := false, tag := "", pkgPath := "", byteOffset := 8 }, { name := "Sayings", type := 23, offset := 2, embedded := false, tag := "", pkgPath := "", byteOffset := 32 }] = true := by kernel_rfl
theorem u16_bd {a : Int} (h : (Lit.int .u16 a).wf = true) : 0 ≤ a ∧ a < 65536 := by
  have h1 : IntKind.u16.min = 0 := by decide
  have h2 : IntKind.u16.max = 65535 := by decide
  simp only [Lit.wf, Bool.and_eq_true, decide_eq_true_eq, h1, h2] at h
  omega
/-- A range. -/
theorem open_46 {fuel : Nat} {cs : List Value} {x : DataW H × List MemPlace} (h : DataW.trod enc Try.prog w base spare held fuel 46 cs = some x) :
    ∃ a b : Int, cs = [.int .i64 a, .int .i64 b] := by
  obtain ⟨xs, n, _, _, hl, hlen, hf⟩ := DataW.trod_struct Try.underlying46 h
  rw [cells_46] at hl
  obtain ⟨c0, c1, rfl⟩ := list2 hl
  obtain ⟨y0, y1, rfl⟩ := list2 hlen
  have h0 := hf 0 _ rfl
  change DataW.trod enc Try.prog w base spare held n 3 (([c0, c1].drop 0).take (Try.prog.cellsOf 3)) = some y0 at h0
  rw [cells_3] at h0
  have h1 := hf 1 _ rfl
  change DataW.trod enc Try.prog w base spare held n 3 (([c0, c1].drop 1).take (Try.prog.cellsOf 3)) = some y1 at h1
  rw [cells_3] at h1
  obtain ⟨a, ha, _, _⟩ := DataW.trod_int Try.underlying3 h0
  obtain ⟨b, hb, _, _⟩ := DataW.trod_int Try.underlying3 h1
  have ha' : [c0] = _ := ha
  have hb' : [c1] = _ := hb
  simp only [List.cons.injEq, and_true] at ha' hb'
  exact ⟨a, b, by rw [ha', hb']⟩
/-- An entry. -/
theorem open_91 {fuel : Nat} {cs : List Value} {x : DataW H × List MemPlace} (h : DataW.trod enc Try.prog w base spare held fuel 91 cs = some x) :
    ∃ e : S91, cs = [.int .i64 e.f0, .int .i64 e.f1, .int .i64 e.f2.f0, .int .i64 e.f2.f1] := by
  obtain ⟨xs, n, _, _, hl, hlen, hf⟩ := DataW.trod_struct Try.underlying91 h
  rw [cells_91] at hl
  obtain ⟨c0, c1, c2, c3, rfl⟩ := list4 hl
  obtain ⟨y0, y1, y2, rfl⟩ := list3 hlen
  have h0 := hf 0 _ rfl
  change DataW.trod enc Try.prog w base spare held n 3 (([c0, c1, c2, c3].drop 0).take (Try.prog.cellsOf 3)) = some y0 at h0
  rw [cells_3] at h0
  have h1 := hf 1 _ rfl
  change DataW.trod enc Try.prog w base spare held n 3 (([c0, c1, c2, c3].drop 1).take (Try.prog.cellsOf 3)) = some y1 at h1
  rw [cells_3] at h1
  have h2 := hf 2 _ rfl
  change DataW.trod enc Try.prog w base spare held n 46 (([c0, c1, c2, c3].drop 2).take (Try.prog.cellsOf 46)) = some y2 at h2
  rw [cells_46] at h2
  obtain ⟨a, ha, _, _⟩ := DataW.trod_int Try.underlying3 h0
  obtain ⟨b, hb, _, _⟩ := DataW.trod_int Try.underlying3 h1
  obtain ⟨c, d, hc⟩ := open_46 h2
  have ha' : [c0] = _ := ha
  have hb' : [c1] = _ := hb
  have hc' : [c2, c3] = _ := hc
  simp only [List.cons.injEq, and_true] at ha' hb' hc'
  exact ⟨⟨a, b, ⟨c, d⟩⟩, by rw [ha', hb', hc'.1, hc'.2]⟩
/-- A saying. -/
theorem open_94 {fuel : Nat} {cs : List Value} {x : DataW H × List MemPlace} (h : DataW.trod enc Try.prog w base spare held fuel 94 cs = some x) :
    ∃ e : S94, cs = [.int .i64 e.f0, .int .i64 e.f1.f0, .int .i64 e.f1.f1] := by
  obtain ⟨xs, n, _, _, hl, hlen, hf⟩ := DataW.trod_struct Try.underlying94 h
  rw [cells_94] at hl
  obtain ⟨c0, c1, c2, rfl⟩ := list3 hl
  obtain ⟨y0, y1, rfl⟩ := list2 hlen
  have h0 := hf 0 _ rfl
  change DataW.trod enc Try.prog w base spare held n 3 (([c0, c1, c2].drop 0).take (Try.prog.cellsOf 3)) = some y0 at h0
  rw [cells_3] at h0
  have h1 := hf 1 _ rfl
  change DataW.trod enc Try.prog w base spare held n 46 (([c0, c1, c2].drop 1).take (Try.prog.cellsOf 46)) = some y1 at h1
  rw [cells_46] at h1
  obtain ⟨a, ha, _, _⟩ := DataW.trod_int Try.underlying3 h0
  obtain ⟨c, d, hc⟩ := open_46 h1
  have ha' : [c0] = _ := ha
  have hc' : [c1, c2] = _ := hc
  simp only [List.cons.injEq, and_true] at ha' hc'
  exact ⟨⟨a, ⟨c, d⟩⟩, by rw [ha', hc'.1, hc'.2]⟩
/-- A row whose elements open. -/
theorem open_row {α : Type} (d : Kd α) {t e : TypeId} (ht : Try.prog.underlying t = some (.slice e)) (hC : Try.prog.cellsOf e = d.sz)
    (ho : ∀ (fuel : Nat) (cs : List Value) (x : DataW H × List MemPlace), DataW.trod enc Try.prog w base spare held fuel e cs = some x → ∃ y : α, d.K w y cs)
    {fuel : Nat} {v : Value} {x : DataW H × List MemPlace} (h : DataW.trod enc Try.prog w base spare held fuel t [v] = some x) :
    ∃ (A : Option Addr) (c : Nat) (l : List α), v = .slice A l.length c ∧ Kd.C d w A l.length l ∧ l.length ≤ c := by
  rcases open_slice ht h with ⟨hcs, _⟩ | ⟨a, len, cap, m, n, D, Pl, hcs, hb, hl, hm, hmm, hx, hi⟩
  · simp only [List.cons.injEq, and_true] at hcs
    subst hcs
    exact ⟨none, 0, [], rfl, ⟨rfl, by simp, fun q => absurd q (by simp)⟩, by simp⟩
  · simp only [List.cons.injEq, and_true] at hcs
    subst hcs
    have hlm : len ≤ m := by rw [hmm]; split <;> omega
    have hcell : ∀ i : Nat, i < len → ∃ y : α, ∃ cs', w.cells? base (a.add (i * d.sz)) d.sz = some cs' ∧ d.K w y cs' := fun i hil => by
      obtain ⟨cs', h1, h2⟩ := hi i (by omega)
      rw [hC] at h1
      obtain ⟨y, hy⟩ := ho _ _ _ h2
      exact ⟨y, cs', h1, hy⟩
    have hsel : ∀ j, j ≤ len → ∃ l : List α, l.length = j ∧ ∀ (i : Nat) (y : α), l[i]? = some y → ∃ cs', w.cells? base (a.add (i * d.sz)) d.sz = some cs' ∧ d.K w y cs' := by
      intro j
      induction j with
      | zero => exact fun _ => ⟨[], rfl, fun i y hy => by simp at hy⟩
      | succ j ih =>
        intro hj
        obtain ⟨l, hll, hlr⟩ := ih (by omega)
        obtain ⟨y, cs', h1, h2⟩ := hcell j (by omega)
        refine ⟨l ++ [y], by simp [hll], fun i z hz => ?_⟩
        by_cases hij : i < j
        · rw [List.getElem?_append_left (by omega)] at hz
          exact hlr i z hz
        · rw [List.getElem?_append_right (by omega)] at hz
          have hi0 : i = j := by
            by_cases q : i - l.length = 0
            · omega
            · obtain ⟨q', hq'⟩ : ∃ q', i - l.length = q' + 1 := ⟨i - l.length - 1, by omega⟩
              rw [hq'] at hz
              simp at hz
          subst hi0
          rw [show i - l.length = 0 by omega] at hz
          simp only [List.getElem?_cons_zero, Option.some.injEq] at hz
          subst hz
          exact ⟨cs', h1, h2⟩
    obtain ⟨l, hll, hlr⟩ := hsel len (Nat.le_refl _)
    refine ⟨some a, cap, l, by rw [hll], ⟨rfl, ?_, fun _ => ⟨a, rfl, fun j p hp => ?_⟩⟩, by omega⟩
    · have : cap ≤ 9223372036854775807 := hm
      omega
    · obtain ⟨cs', h1, h2⟩ := hlr j p hp
      obtain ⟨_, hcl, hat⟩ := World.cells?_some h1
      refine ⟨cs', hcl, h2, fun i u hu => ?_⟩
      have hil : i < d.sz := by rw [← hcl]; exact (List.getElem?_eq_some_iff.1 hu).1
      rw [← Go.Deep.add_add, hat i hil, hu]
set_option maxRecDepth 100000 in
theorem open_slate {r : Reach} {b0 : Nat} {v : Value} {d : DataW H} {p : List MemPlace} (hv : Value.okWide Try.prog w r b0 25 v) (h : DataW.Trod enc Try.prog w base spare held 25 v d p) :
    ∃ (n : Int) (A1 : Option Addr) (c1 : Nat) (l1 : List S91) (A2 : Option Addr) (c2 : Nat) (l2 : List S94), v = .agg #[.int .i64 n, .slice A1 l1.length c1, .slice A2 l2.length c2] ∧
      Kd.C k91 w A1 l1.length l1 ∧ l1.length ≤ c1 ∧ Kd.C k94 w A2 l2.length l2 ∧ l2.length ≤ c2 ∧ (Lit.int .i64 n).wf = true := by
  obtain ⟨v0, v1, v2, y0, y1, y2, n, rfl, _, _, h0, h1, h2⟩ := open_agg3 Try.underlying25 one25 cells_25 hv h
  obtain ⟨a, ha, _, hwf⟩ := DataW.trod_int Try.underlying3 h0
  simp only [List.cons.injEq, and_true] at ha
  subst ha
  obtain ⟨A1, c1, l1, rfl, q1, q2⟩ := open_row k91 Try.underlying22 cells_91 (fun fuel cs x hx => by
    obtain ⟨e, rfl⟩ := open_91 hx
    exact ⟨e, k91_mk w e⟩) h1
  obtain ⟨A2, c2, l2, rfl, q3, q4⟩ := open_row k94 Try.underlying23 cells_94 (fun fuel cs x hx => by
    obtain ⟨e, rfl⟩ := open_94 hx
    exact ⟨e, k94_mk w e⟩) h2
  exact ⟨a, A1, c1, l1, A2, c2, l2, rfl, q1, q2, q3, q4, hwf⟩
end
end Go.Proofs.Ytncaadckehikpaa.Q
namespace Go.Proofs.Ytncaadckehikpaa.soapApart
open Go.ChangeShapes Go.WideShapes Go.ChangeAt Go.RowKit
set_option linter.unusedVariables false
theorem own : ownKnob Try.prog.godebug = none := by kernel_rfl
theorem laidOut : laidOutB Try.prog = true := by kernel_rfl
set_option maxRecDepth 100000 in
theorem lifted (os : Os) (started : os.Started) (H : Type) (enc : TypeId × Value → H) :
    ReturnsInHanded {} Try.checked os 10 .any (Rows.soapApartSpec.pre6 enc Try.prog Try.f10 Rows.soapApartRow.domain false) (Rows.soapApartSpec.post enc Try.prog Try.f10 false true false false) := by
  refine returnsInHanded_of_change_sized (C := Try.checked) own started (by kernel_rfl) Try.func10
    (ChangeSpec.witness6 (enc := enc) (C := Try.checked) false ⟨#[], #[.agg #[.int .i64 0, .slice none 0 0, .slice none 0 0], .int .u16 0], []⟩ 8 (by kernel_rfl) (by kernel_rfl) (by kernel_rfl) (by kernel_rfl)) ?_
  intro W base args ds gs before hval0 hW hcnd hsz0 _
  have hval : ∀ (j : Nat) t v, Try.f10.params[j]? = some t → args[j]? = some v → Value.okWide Try.prog W .any base t v := hval0
  have hW' := hW
  obtain ⟨p, q, hA0, hV, rfl, hfz, hnd⟩ := hW
  have hA : DataW.TrodAll enc Try.prog W 0 (fun _ => true) true Try.f10.params.toList args.toList ds p := hA0
  rw [Try.params10] at hA hval
  obtain ⟨v0, vs0, d0, ds0, p0, q0, hargs, rfl, rfl, h0, r0⟩ := trodAll_cons hA
  obtain ⟨v1, vs1, d1, ds1, p1, q1, rfl, rfl, rfl, h1, r1⟩ := trodAll_cons r0
  obtain ⟨rfl, rfl, rfl⟩ := trodAll_nil r1
  obtain rfl : args = #[v0, v1] := by cases args; simp_all
  obtain ⟨rfl, rfl⟩ := trodVars_none hV
  have k0 := h0
  have lt0 : ∀ x ∈ p0, x.block < W.heap.size := by obtain ⟨m, hm⟩ := k0; exact DataW.trod_lt m _ _ _ hm
  obtain ⟨n0, A0a, c0a, l0a, A0b, c0b, l0b, rfl, hr0a, hc0a, hr0b, hc0b, hwf0⟩ := Q.open_slate (hval 0 25 v0 rfl rfl) h0
  obtain ⟨a1, rfl, rfl, rfl, w1⟩ := open_int Try.underlying65 (hval 1 65 v1 rfl rfl) h1
  clear hA0 hval0 hsz0
  refine (Q.pl_SoapApart.calls 2000 n0 A0a c0a l0a A0b c0b l0b a1 true W hr0a hc0a hr0b hc0b (Q.soapApart_true n0 l0a l0b a1 (Q.u16_bd w1).1 (Q.u16_bd w1).2)).mono fun e W' ⟨he, bel⟩ => ?_
  subst he
  exact ⟨_, rfl, _, _, _, [], _, [], hW', trodAll_mk1 (shut_bool Try.underlying4 _), (trodAll_cons_mk (Below.trod laidOut (by kernel_rfl) (of_decide_eq_true (by kernel_rfl)) k0 bel lt0) (trodAll_cons_mk (shut_int Try.underlying65 w1) trodAll_mk0)), rfl, bel.frame _, fun h => by cases h⟩
theorem over : Rows.soapApartRow.holds Try.pinned (OpenSpec.ofChange Rows.soapApartSpec) :=
  OpenClaim.holds_of_wide 10 Try.f10 rfl rfl rfl rfl rfl rfl rfl ⟨rfl, rfl, rfl, rfl, rfl⟩ rfl rfl rfl rfl rfl (by kernel_rfl) Try.func10 (by kernel_rfl)
    (of_decide_eq_true (by kernel_rfl)) (by unfold Func.isWrapper; first | (rw [if_pos (by decide +kernel)]; kernel_rfl) | (rw [if_neg (by decide +kernel)]; exact ⟨rfl, rfl⟩))
    (fun os started H enc _ => lifted os started H enc)
end Go.Proofs.Ytncaadckehikpaa.soapApart
namespace Go.Proofs.Ytncaadckehikpaa
/-- The statement. -/
theorem soapApart_holds : Rows.SoapApartSaid := soapApart.over
end Go.Proofs.Ytncaadckehikpaa
