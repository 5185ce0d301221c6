/- A part of the proof: contracts of functions and plain facts (HPay1, HMostRef2, Q1, HPossible, HFirst). No condition. -/
import Derived.Test.YtncaadckehikpaaM21
import Derived.Test.YtncaadckehikpaaM18
import Derived.Test.YtncaadckehikpaaM3
import Derived.Test.YtncaadckehikpaaM17
namespace Go.Proofs.Ytncaadckehikpaa.Q
open Go.RowKit Go.Proofs.YtncaadckehikpaaW.PrintWords Go.Proofs.YtncaadckehikpaaW.PrintLast Go.Proofs.YtncaadckehikpaaW.PrintMore
set_option linter.unusedVariables false
set_option linter.unusedSimpArgs false
/-- What the women of a group are owed, 0 for others. -/
def maskV (g : Nat) (u : List Int) : List Int := (List.range 6).map (fun i : Nat => if bitN g i = true then rd u (i : Int) else 0)
theorem z53 (g : Nat) (u : List Int) (i : Nat) : rd (maskV g u) (i : Int) = if i < 6 ∧ bitN g i = true then rd u (i : Int) else 0 := by
  unfold rd maskV
  rw [Int.toNat_natCast, List.getD_eq_getElem?_getD, List.getElem?_map]
  by_cases h : i < 6
  · rw [List.getElem?_range h]
    simp only [Option.map_some, Option.getD_some, h, true_and]
    rfl
  · rw [List.getElem?_eq_none (by simp; omega)]
    simp [h]
theorem mem_bitsL (g : Nat) (x : Int) : x ∈ bitsL g ↔ 0 ≤ x ∧ x < 6 ∧ bitN g x.toNat = true := by
  unfold bitsL
  rw [List.mem_map]
  constructor
  · rintro ⟨j, hj, rfl⟩
    rw [List.mem_filter, List.mem_range] at hj
    simp only [Int.ofNat_eq_natCast, Int.toNat_natCast]
    exact ⟨by omega, by omega, hj.2⟩
  · rintro ⟨h0, h6, hb⟩
    exact ⟨x.toNat, List.mem_filter.2 ⟨List.mem_range.2 (by omega), hb⟩, by simp only [Int.ofNat_eq_natCast]; omega⟩
theorem fi_neg {α : Type} (p : α → Bool) (xs : List α) (h : fi p xs < 0) : ∀ x ∈ xs, p x = false := by
  intro x hx
  have := fi_any p xs
  rw [decide_eq_false (by omega)] at this
  have h2 := List.any_eq_false.1 this.symm x hx
  simpa using h2
theorem sum_pos (u : List Int) (g : Nat) : ∀ n : Nat, (∀ i : Nat, i < n → bitN g i = true → 0 ≤ rd u (i : Int)) → 0 ≤ sumTo u g n ∧ (sumTo u g n = 0 → ∀ i : Nat, i < n → bitN g i = true → rd u (i : Int) = 0)
  | 0, _ => ⟨by simp [sumTo], fun _ i hi => by omega⟩
  | n + 1, h => by
    obtain ⟨h1, h2⟩ := sum_pos u g n (fun i hi => h i (by omega))
    simp only [sumTo]
    by_cases hb : bitN g n = true
    · have := h n (by omega) hb
      rw [if_pos hb]
      refine ⟨by omega, fun q i hi hbi => ?_⟩
      by_cases e : i = n
      · rw [e]; omega
      · exact h2 (by omega) i (by omega) hbi
    · rw [if_neg hb]
      refine ⟨h1, fun q i hi hbi => ?_⟩
      by_cases e : i = n
      · rw [e] at hbi; exact absurd hbi hb
      · exact h2 q i (by omega) hbi
theorem sum_neg (u : List Int) (g : Nat) : ∀ n : Nat, (∀ i : Nat, i < n → bitN g i = true → rd u (i : Int) ≤ 0) → sumTo u g n ≤ 0 ∧ (sumTo u g n = 0 → ∀ i : Nat, i < n → bitN g i = true → rd u (i : Int) = 0)
  | 0, _ => ⟨by simp [sumTo], fun _ i hi => by omega⟩
  | n + 1, h => by
    obtain ⟨h1, h2⟩ := sum_neg u g n (fun i hi => h i (by omega))
    simp only [sumTo]
    by_cases hb : bitN g n = true
    · have := h n (by omega) hb
      rw [if_pos hb]
      refine ⟨by omega, fun q i hi hbi => ?_⟩
      by_cases e : i = n
      · rw [e]; omega
      · exact h2 (by omega) i (by omega) hbi
    · rw [if_neg hb]
      refine ⟨h1, fun q i hi hbi => ?_⟩
      by_cases e : i = n
      · rw [e] at hbi; exact absurd hbi hb
      · exact h2 q i (by omega) hbi
theorem nz_none (w : List Int) : ∀ n : Nat, (∀ i : Nat, i < n → rd w (i : Int) = 0) → nzTo w n = 0
  | 0, _ => rfl
  | n + 1, h => by
    simp only [nzTo]
    rw [nz_none w n (fun i hi => h i (by omega)), if_neg (by simpa using h n (by omega))]
theorem nz_all (w : List Int) : ∀ n : Nat, nzTo w n = 0 → ∀ i : Nat, i < n → rd w (i : Int) = 0
  | 0, _, i, hi => by omega
  | n + 1, h, i, hi => by
    simp only [nzTo] at h
    by_cases e : rd w (n : Int) ≠ 0
    · rw [if_pos e] at h; omega
    · rw [if_neg e] at h
      by_cases q : i = n
      · rw [q]; simpa using e
      · exact nz_all w n (by omega) i (by omega)
theorem nz_two (w : List Int) (hw : w.length = 6) (a b : Nat) (ha : a < 6) (hb : b < 6) (hne : a ≠ b) (h1 : rd w (a : Int) ≠ 0) (h2 : rd w (b : Int) ≠ 0) : 2 ≤ nzTo w 6 := by
  have r := fun (v : List Int) (hv : v.length = 6) (a : Nat) (ha : a < 6) (j : Nat) => rd_upd v (a : Int) 0 (j : Int) (by omega) (by omega) (by omega)
  have s1 := z52 w (upd w (a : Int) 0) a h1 (by rw [r w hw a ha, if_pos rfl]) (fun j hj => by rw [r w hw a ha]; split <;> first | rfl | exact hj) 6
  have hl : (upd w (a : Int) 0).length = 6 := by rw [z43, hw]
  have s2 := z52 (upd w (a : Int) 0) (upd (upd w (a : Int) 0) (b : Int) 0) b (by rw [r w hw a ha, if_neg (by omega)]; exact h2) (by rw [r _ hl b hb, if_pos rfl]) (fun j hj => by rw [r _ hl b hb]; split <;> first | rfl | exact hj) 6
  rw [if_pos ha] at s1
  rw [if_pos hb] at s2
  omega
theorem nz_mask_le (g : Nat) (v : List Int) : nzTo (maskV g v) 6 ≤ (bitsL g).length := by
  unfold bitsL
  rw [List.length_map]
  have : ∀ n : Nat, n ≤ 6 → nzTo (maskV g v) n ≤ ((List.range n).filter (bitN g)).length := by
    intro n
    induction n with
    | zero => intro _; simp [nzTo]
    | succ n ih =>
      intro hn
      have := ih (by omega)
      simp only [nzTo]
      rw [List.range_succ, List.filter_append, List.length_append, z53]
      by_cases hb : bitN g n = true
      · have h1 : ∀ x : Int, (if x ≠ 0 then 1 else 0) ≤ 1 := fun x => by split <;> omega
        have h2 := h1 (if n < 6 ∧ bitN g n = true then rd v (n : Int) else 0)
        simp only [List.filter_cons, List.filter_nil, hb, if_true, List.length_cons, List.length_nil] at h2 ⊢
        omega
      · have e : (if n < 6 ∧ bitN g n = true then rd v (n : Int) else 0) = 0 := if_neg (fun q => hb q.2)
        rw [e]
        simp only [ne_eq, not_true_eq_false, if_false]
        omega
  exact this 6 (by omega)
/-- What the payments of a group do. -/
def Good (g : Nat) (B : Int) (ps : List S76) : Prop := ∀ p ∈ ps, Six p ∧ bitN g p.f0.toNat = true ∧ bitN g p.f1.toNat = true ∧ 1 ≤ p.f2 ∧ p.f2 ≤ B
theorem settle_spec (g : Nat) (hg : g < 64) (B : Int) : ∀ (k : Nat) (u : List Int), u.length = 6 → sumN u g = 0 → (∀ i : Nat, i < 6 → -B ≤ rd u (i : Int) ∧ rd u (i : Int) ≤ B) → nzTo (maskV g u) 6 ≤ k →
    Good g B (z31 (bitsL g) k u) ∧ (∀ i : Nat, i < 6 → eff (z31 (bitsL g) k u) (i : Int) = if bitN g i = true then -rd u (i : Int) else 0) ∧
      (z31 (bitsL g) k u).length + (if nzTo (maskV g u) 6 = 0 then 0 else 1) ≤ nzTo (maskV g u) 6
  | 0, u, hu, hs, hB, hk => by
    have hz := nz_all (maskV g u) 6 (by omega)
    refine ⟨fun p hp => by simp [z31] at hp, fun i hi => ?_, ?_⟩
    · have := hz i hi
      rw [z53] at this
      simp only [z31, eff, List.map_nil, List.sum_nil]
      by_cases hb : bitN g i = true
      · rw [if_pos ⟨hi, hb⟩] at this
        rw [if_pos hb]; omega
      · rw [if_neg hb]
    · rw [if_pos (by omega)]
      simp [z31]
  | k + 1, u, hu, hs, hB, hk => by
    by_cases c : fi (negB u) (bitsL g) < 0 ∨ fi (posB u) (bitsL g) < 0
    · have hz : ∀ i : Nat, i < 6 → bitN g i = true → rd u (i : Int) = 0 := by
        rcases c with c | c
        · have hn := fi_neg _ _ c
          exact (sum_pos u g 6 (fun i hi hb => by
            have := hn (i : Int) ((mem_bitsL g _).2 ⟨by omega, by omega, by rw [Int.toNat_natCast]; exact hb⟩)
            unfold negB at this
            have := of_decide_eq_false this
            omega)).2 hs
        · have hn := fi_neg _ _ c
          exact (sum_neg u g 6 (fun i hi hb => by
            have := hn (i : Int) ((mem_bitsL g _).2 ⟨by omega, by omega, by rw [Int.toNat_natCast]; exact hb⟩)
            unfold posB at this
            have := of_decide_eq_false this
            omega)).2 hs
      have hnz : nzTo (maskV g u) 6 = 0 := nz_none _ 6 (fun i hi => by
        rw [z53]
        split
        · rename_i q; exact hz i hi q.2
        · rfl)
      simp only [z31, if_pos c]
      refine ⟨fun p hp => by simp at hp, fun i hi => ?_, by rw [hnz]; simp⟩
      simp only [eff, List.map_nil, List.sum_nil]
      by_cases hb : bitN g i = true
      · rw [if_pos hb, hz i hi hb]; rfl
      · rw [if_neg hb]
    · have c1 : ¬ fi (negB u) (bitsL g) < 0 := fun q => c (Or.inl q)
      have c2 : ¬ fi (posB u) (bitsL g) < 0 := fun q => c (Or.inr q)
      obtain ⟨⟨p0, p1⟩, ⟨p2, p3⟩, p4, p5, p6, p7, p8, p9⟩ := pay_left (bitsL g) u hu (bitsL_lt g) c1 c2
      have hm0 : (nextPay (bitsL g) u).f0 ∈ bitsL g := by
        obtain ⟨n0, n1, n2⟩ := (fi_spec (0 : Int) (negB u) (bitsL g)).resolve_left (by omega)
        have hlt : (fi (negB u) (bitsL g)).toNat < (bitsL g).length := by omega
        show (bitsL g).getD (fi (negB u) (bitsL g)).toNat 0 ∈ bitsL g
        rw [List.getD_eq_getElem?_getD, List.getElem?_eq_getElem hlt]
        exact List.getElem_mem hlt
      have hm1 : (nextPay (bitsL g) u).f1 ∈ bitsL g := by
        obtain ⟨n0, n1, n2⟩ := (fi_spec (0 : Int) (posB u) (bitsL g)).resolve_left (by omega)
        have hlt : (fi (posB u) (bitsL g)).toNat < (bitsL g).length := by omega
        show (bitsL g).getD (fi (posB u) (bitsL g)).toNat 0 ∈ bitsL g
        rw [List.getD_eq_getElem?_getD, List.getElem?_eq_getElem hlt]
        exact List.getElem_mem hlt
      generalize hp : nextPay (bitsL g) u = p at *
      have hb0 := ((mem_bitsL g _).1 hm0).2.2
      have hb1 := ((mem_bitsL g _).1 hm1).2.2
      have hsix : Six p := ⟨p0, p1, p2, p3, p4⟩
      have hr := rd_pay1 u p hu hsix
      have hB0 := hB p.f0.toNat (by omega)
      have hB1 := hB p.f1.toNat (by omega)
      rw [show ((p.f0.toNat : Nat) : Int) = p.f0 by omega] at hB0
      rw [show ((p.f1.toNat : Nat) : Int) = p.f1 by omega] at hB1
      have hmn : p.f2 ≤ -(rd u p.f0) ∧ p.f2 ≤ rd u p.f1 ∧ (p.f2 = -(rd u p.f0) ∨ p.f2 = rd u p.f1) := by rw [p7]; unfold mn; split <;> omega
      have hs' : sumN (pay1 u p) g = 0 := by rw [sumN_pay hsix hr (by rw [hb0, hb1])]; exact hs
      have e0 : eff1 p p.f0 = p.f2 := by unfold eff1; rw [if_pos rfl, if_neg (by omega)]; omega
      have e1 : eff1 p p.f1 = -p.f2 := by unfold eff1; rw [if_neg (by omega), if_pos rfl]; omega
      have r0 := hr p.f0 p0 p1
      have r1 := hr p.f1 p2 p3
      rw [e0] at r0
      rw [e1] at r1
      have eo : ∀ i : Int, i ≠ p.f0 → i ≠ p.f1 → eff1 p i = 0 := fun i a b => by unfold eff1; rw [if_neg (fun q => a q.symm), if_neg (fun q => b q.symm)]; rfl
      have hkeep : ∀ j : Nat, rd (maskV g u) (j : Int) = 0 → rd (maskV g (pay1 u p)) (j : Int) = 0 := fun j hj => by
        rw [z53] at hj ⊢
        split
        · rename_i q
          rw [if_pos q] at hj
          by_cases a : (j : Int) = p.f0
          · rw [a] at hj; omega
          · by_cases b : (j : Int) = p.f1
            · rw [b] at hj; omega
            · rw [hr j (by omega) (by omega), eo _ a b, hj]; rfl
        · rfl
      have m0 : rd (maskV g u) ((p.f0.toNat : Nat) : Int) = rd u p.f0 := by rw [z53, if_pos ⟨by omega, hb0⟩, show ((p.f0.toNat : Nat) : Int) = p.f0 by omega]
      have m1 : rd (maskV g u) ((p.f1.toNat : Nat) : Int) = rd u p.f1 := by rw [z53, if_pos ⟨by omega, hb1⟩, show ((p.f1.toNat : Nat) : Int) = p.f1 by omega]
      have m0' : rd (maskV g (pay1 u p)) ((p.f0.toNat : Nat) : Int) = rd (pay1 u p) p.f0 := by rw [z53, if_pos ⟨by omega, hb0⟩, show ((p.f0.toNat : Nat) : Int) = p.f0 by omega]
      have m1' : rd (maskV g (pay1 u p)) ((p.f1.toNat : Nat) : Int) = rd (pay1 u p) p.f1 := by rw [z53, if_pos ⟨by omega, hb1⟩, show ((p.f1.toNat : Nat) : Int) = p.f1 by omega]
      have hlt : nzTo (maskV g (pay1 u p)) 6 < nzTo (maskV g u) 6 := by
        rcases hmn.2.2 with q | q
        · have := z52 (maskV g u) (maskV g (pay1 u p)) p.f0.toNat (by rw [m0]; omega) (by rw [m0', r0]; omega) hkeep 6
          rw [if_pos (by omega)] at this
          omega
        · have := z52 (maskV g u) (maskV g (pay1 u p)) p.f1.toNat (by rw [m1]; omega) (by rw [m1', r1]; omega) hkeep 6
          rw [if_pos (by omega)] at this
          omega
      have h2 := nz_two (maskV g u) (by simp [maskV]) p.f0.toNat p.f1.toNat (by omega) (by omega) (by omega) (by rw [m0]; omega) (by rw [m1]; omega)
      obtain ⟨i1, i2, i3⟩ := settle_spec g hg B k (pay1 u p) (by rw [pay1_length]; exact hu) hs' (fun i hi => by
        have := hB i hi
        rw [hr i (by omega) (by omega)]
        by_cases a : (i : Int) = p.f0
        · rw [a, e0]; omega
        · by_cases b : (i : Int) = p.f1
          · rw [b, e1]; omega
          · rw [eo _ a b]; omega) (by omega)
      simp only [z31, if_neg c, hp]
      refine ⟨?_, ?_, ?_⟩
      · intro q hq
        rcases List.mem_cons.1 hq with rfl | hq
        · exact ⟨hsix, hb0, hb1, p8, by omega⟩
        · exact i1 q hq
      · intro i hi
        rw [z54, i2 i hi, hr i (by omega) (by omega)]
        by_cases hb : bitN g i = true
        · rw [if_pos hb, if_pos hb]; omega
        · rw [if_neg hb, if_neg hb, eo _ (fun q => hb (by rw [← q, Int.toNat_natCast] at hb0; exact hb0)) (fun q => hb (by rw [← q, Int.toNat_natCast] at hb1; exact hb1))]
          rfl
      · rw [List.length_cons]
        split at i3 <;> split <;> omega
theorem settleL_spec (g : Nat) (hg : g < 64) (B : Int) (u : List Int) (hu : u.length = 6) (hs : sumN u g = 0) (hB : ∀ i : Nat, i < 6 → -B ≤ rd u (i : Int) ∧ rd u (i : Int) ≤ B) :
    Good g B (settleL (bitsL g) u) ∧ (∀ i : Nat, i < 6 → eff (settleL (bitsL g) u) (i : Int) = if bitN g i = true then -rd u (i : Int) else 0) ∧ (g ≠ 0 → (settleL (bitsL g) u).length + 1 ≤ (bitsL g).length) := by
  have hn := nz_mask_le g u
  have hl := bitsL_len g
  obtain ⟨h1, h2, h3⟩ := settle_spec g hg B 7 u hu hs hB (by omega)
  refine ⟨h1, h2, fun h0 => ?_⟩
  unfold settleL
  have hpos : 1 ≤ (bitsL g).length := by
    obtain ⟨i, hi⟩ := has_bit_all ⟨g, hg⟩ h0
    have : ((i.val : Nat) : Int) ∈ bitsL g := (mem_bitsL g _).2 ⟨by omega, by omega, by rw [Int.toNat_natCast]; exact hi⟩
    exact List.length_pos_of_mem this
  split at h3 <;> omega
end Go.Proofs.Ytncaadckehikpaa.Q
namespace Go.Proofs.Ytncaadckehikpaa.Q
open Go.RowKit Go.Proofs.YtncaadckehikpaaW.PrintWords Go.Proofs.YtncaadckehikpaaW.PrintLast Go.Proofs.YtncaadckehikpaaW.PrintMore
set_option linter.unusedVariables false
set_option linter.unusedSimpArgs false
set_option linter.unusedSectionVars false
section
variable (n : Int) (l1 : List S91) (l2 : List S94) (os : List Int) (hck : checkS n (l1.map c91) (l2.map c94) = 0) (ho : Small (l1.map c91) os)
include hck ho
end
end Go.Proofs.Ytncaadckehikpaa.Q
namespace Go.Proofs.Ytncaadckehikpaa.Q
open Go.RowKit Go.Proofs.YtncaadckehikpaaW.PrintWords Go.Proofs.YtncaadckehikpaaW.PrintLast Go.Proofs.YtncaadckehikpaaW.PrintMore
attribute [local go_sem] z37 z36 max_two min_two   -- for this text's walks alone
set_option linter.unusedVariables false
set_option linter.unusedSimpArgs false
end Go.Proofs.Ytncaadckehikpaa.Q
namespace Go.Proofs.Ytncaadckehikpaa.Q
open Go.RowKit Go.Proofs.YtncaadckehikpaaW.PrintWords Go.Proofs.YtncaadckehikpaaW.PrintLast Go.Proofs.YtncaadckehikpaaW.PrintMore
set_option linter.unusedVariables false
set_option linter.unusedSimpArgs false
attribute [local go_sem] Oper.semAt_some
/-- Whether some of the ounces make all sayings right. -/
def anyL (l1 : List S122) (l2 : List S124) (out : List Int) (oss : List (List Int)) : Bool := oss.any (fun os => rightB l2 (owedL l1 os) out)
def possB (l1 : List S122) (l2 : List S124) (out : List Int) : Bool := anyL l1 l2 out (enumO [] l1)
/-- What holds between two rounds, and behind the loop. -/
structure PossI (w0 : World) (tb ob rb : Nat) (n : Int) (A1 : Option Addr) (c1 : Nat) (l1 : List S122) (A2 : Option Addr) (c2 : Nat) (l2 : List S124) (A3 : Option Addr) (m3 c3 : Nat) (r : Bool) (W : World) : Prop where
  below : Below w0.heap.size w0 W
  tb : W.heap[tb]? = some (.cells #[.int .i64 n, .slice A1 l1.length c1, .slice A2 l2.length c2] 35 (0, 0))
  ob : W.heap[ob]? = some (.cells #[.slice A3 m3 c3] 37 (0, 0))
  rb : W.heap[rb]? = some (.cells #[.bool r] 4 (0, 0))
theorem PossI.zone {w0 : World} {tb ob rb B : Nat} {n : Int} {A1 : Option Addr} {c1 : Nat} {l1 : List S122} {A2 : Option Addr} {c2 : Nat} {l2 : List S124} {A3 : Option Addr} {m3 c3 : Nat} {r : Bool} {W W' : World}
    (h : PossI w0 tb ob rb n A1 c1 l1 A2 c2 l2 A3 m3 c3 r W) (hz : Zone6 B W W') (h0 : w0.heap.size ≤ B) (h1 : tb < B) (h2 : ob < B) (h3 : rb < B) : PossI w0 tb ob rb n A1 c1 l1 A2 c2 l2 A3 m3 c3 r W' :=
  ⟨⟨hz.os.trans h.below.os, hz.tape.trans h.below.tape, hz.output.trans h.below.output, Nat.le_trans h.below.size hz.size, fun k hk => (hz.block k (by have := h.below.size; omega) (by omega)).trans (h.below.block k hk)⟩,
   (hz.block _ (z23 h.tb) (by omega)).trans h.tb, (hz.block _ (z23 h.ob) (by omega)).trans h.ob, (hz.block _ (z23 h.rb) (by omega)).trans h.rb⟩
set_option maxHeartbeats 4000000 in
set_option maxRecDepth 100000 in
theorem possible_calls (n : Int) (A1 : Option Addr) (c1 : Nat) (l1 : List S122) (A2 : Option Addr) (c2 : Nat) (l2 : List S124) (A3 : Option Addr) (c3 : Nat) (out : List Int) (w : World) (hck : checkS n l1 l2 = 0)
    (hr1 : Kd.C k122 w A1 l1.length l1) (hc1 : l1.length ≤ c1) (hr2 : Kd.C k124 w A2 l2.length l2) (hc2 : l2.length ≤ c2) (hr3 : Kd.C (Kd.int .i64) w A3 out.length out) (hc3 : out.length ≤ c3) (hout : (out.length : Int) ≤ 140737488355328) :
    Calls Try.prog 84 #[.agg #[.int .i64 n, .slice A1 l1.length c1, .slice A2 l2.length c2], .slice A3 out.length c3] w fun e w' => e = .returned (.bool (possB l1 l2 out)) ∧ Below w.heap.size w w' := by
  have hu35 := Try.underlying35
  have hu128 := Try.underlying128
  obtain ⟨wa, hwa⟩ : ∃ wa, ((w.alloc (.cells #[.int .i64 n, .slice A1 l1.length c1, .slice A2 l2.length c2] 35)).alloc (.cells #[.slice A3 out.length c3] 37)).alloc (.cells #[.bool false] 4) = wa := ⟨_, rfl⟩
  have hwz : wa.heap.size = w.heap.size + 3 := by rw [← hwa]; simp
  have hbw : Below w.heap.size w wa := by rw [← hwa]; exact z10 (z10 (z10 (Below.refl _ _) _) _) _
  have HPA := mkA (show PossI w w.heap.size (w.heap.size + 1) (w.heap.size + 2) n A1 c1 l1 A2 c2 l2 A3 out.length c3 false wa from by
    refine ⟨hbw, ?_, ?_, ?_⟩
    · rw [← hwa]; exact blk_below (z19 w _) (z10 (z10 (Below.refl _ _) _) _)
    · rw [← hwa]; exact blk_below (by simpa using z19 (w.alloc _) (.cells #[.slice A3 out.length c3] 37)) (z10 (Below.refl _ _) _)
    · rw [← hwa]; simpa using z19 ((w.alloc _).alloc _) (.cells #[.bool false] 4))
  have HR1 := mkA hr1
  have HR2 := mkA hr2
  have HR3 := mkA hr3
  have HZ := mkA hck
  have hs0 : wa.cell? ⟨w.heap.size, 0, none⟩ = some (.int .i64 n) := (z13 HPA.out.tb 0).trans rfl
  have hs1 : wa.cell? ⟨w.heap.size, 1, none⟩ = some (.slice A1 l1.length c1) := (z13 HPA.out.tb 1).trans rfl
  have hs2 : wa.cell? ⟨w.heap.size, 2, none⟩ = some (.slice A2 l2.length c2) := (z13 HPA.out.tb 2).trans rfl
  clear hr1 hr2 hr3 hck hbw
  refine (callsIn_wide (n := 4)).1 ?_
  refine callsIn_of_wp_marks Try.func84 rfl trivial ?_ rfl
  simp only [Try.ntmps84, List.size_toArray, List.length_cons, List.length_nil, Nat.reduceAdd, Nat.reduceSub, Array.replicate_succ, Array.replicate_zero, List.push_toArray, List.append_toArray, List.nil_append, List.cons_append]
  gi_wp2_with fail
  refine ⟨trivial, ?_⟩
  refine (callsIn_wide.2 (ounces_calls _ _ _ _ _ _ _ _)).mono ?_
  rintro e w2 ⟨rfl, hw2⟩
  clear hwa hs0 hs1 hs2
  have hz2 : w2.heap.size = w.heap.size + 4 := by rw [hw2]; simp [hwz]
  have HI2 := mkA (show PossI w w.heap.size (w.heap.size + 1) (w.heap.size + 2) n A1 c1 l1 A2 c2 l2 A3 out.length c3 false w2 from by
    rw [hw2]
    have hb := z10 (Below.refl wa.heap.size wa) (.cells #[.int .i64 n, .slice A1 l1.length c1, .slice A2 l2.length c2] 35)
    exact ⟨z16 HPA.out.below hb, blk_below HPA.out.tb hb, blk_below HPA.out.ob hb, blk_below HPA.out.rb hb⟩)
  have HBS := mkA (show w2.heap[wa.heap.size]? = some (.cells #[.int .i64 n, .slice A1 l1.length c1, .slice A2 l2.length c2] 35 (0, 0)) from by rw [hw2]; exact z19 wa _)
  clear hw2 HPA
  gi_wp2_with fail
  refine range_ounces w (w.heap.size + 3) n A1 c1 l1 A2 c2 l2 HZ.out HR1.out hc1 rfl HI2.out.below (by rw [← hwz]; exact HBS.out)
    (fun pre W => PossI w w.heap.size (w.heap.size + 1) (w.heap.size + 2) n A1 c1 l1 A2 c2 l2 A3 out.length c3 false W ∧ anyL l1 l2 out pre = false)
    (fun c pre W => c = .ret ∧ PossI w w.heap.size (w.heap.size + 1) (w.heap.size + 2) n A1 c1 l1 A2 c2 l2 A3 out.length c3 true W ∧ anyL l1 l2 out pre = true)
    (fun pre V V' h hz => ⟨h.1.zone hz (by omega) (by omega) (by omega) (by omega), h.2⟩) (fun c pre V V' h hz => ⟨h.1, h.2.1.zone hz (by omega) (by omega) (by omega) (by omega), h.2.2⟩) ⟨HI2.out, rfl⟩ 5 ?assign ?body ?done ?stop
  case assign =>
    intro l os W K hK
    unfold aggV roundAct at *
    gi_wp2
    exact hK
  case body =>
    rintro l pre os bx W ⟨hi, han⟩ hbW hol hfit hpre hbx hbox
    have HI := mkA hi
    have HBX := mkA hbox
    clear hi hbox hfit HI2 HBS
    unfold aggV roundAct
    simp only [xq1, xq2, xq3]
    generalize hu : owedL l1 os = u at HBX ⊢
    have HU := mkA hu
    have hul : u.length = 6 := by rw [← hu]; exact z34 _ _ _
    clear hu
    have HRC := mkA (right_calls n A1 c1 l1 A2 c2 l2 u A3 c3 out W (Kd.C_below HR2.out hbW) hc2 (Kd.C_below HR3.out hbW) hc3 hul hout (by obtain ⟨z0, z1, z2, z3, _⟩ := z29 HZ.out; exact z3) (fun i q0 q1 => by
      have := saying_in HZ.out i q0 q1
      obtain ⟨z0, z1, z2, z3, _⟩ := z29 HZ.out
      omega))
    unfold aggV at HRC
    have k0 : W.cell? ⟨w.heap.size, 0, none⟩ = some (.int .i64 n) := (z13 HI.out.tb 0).trans rfl
    have k1 : W.cell? ⟨w.heap.size, 1, none⟩ = some (.slice A1 l1.length c1) := (z13 HI.out.tb 1).trans rfl
    have k2 : W.cell? ⟨w.heap.size, 2, none⟩ = some (.slice A2 l2.length c2) := (z13 HI.out.tb 2).trans rfl
    have k3 : W.cell? ⟨w.heap.size + 1, 0, none⟩ = some (.slice A3 out.length c3) := (z13 HI.out.ob 0).trans rfl
    have j0 : W.cell? ⟨bx, 0, none⟩ = some (.int .i64 (rd u 0)) := (z13 HBX.out 0).trans rfl
    have j1 : W.cell? ⟨bx, 1, none⟩ = some (.int .i64 (rd u 1)) := (z13 HBX.out 1).trans rfl
    have j2 : W.cell? ⟨bx, 2, none⟩ = some (.int .i64 (rd u 2)) := (z13 HBX.out 2).trans rfl
    have j3 : W.cell? ⟨bx, 3, none⟩ = some (.int .i64 (rd u 3)) := (z13 HBX.out 3).trans rfl
    have j4 : W.cell? ⟨bx, 4, none⟩ = some (.int .i64 (rd u 4)) := (z13 HBX.out 4).trans rfl
    have j5 : W.cell? ⟨bx, 5, none⟩ = some (.int .i64 (rd u 5)) := (z13 HBX.out 5).trans rfl
    have HAN := mkA (show anyL l1 l2 out (pre ++ [os]) = rightB l2 u out from by
      unfold anyL at han ⊢
      rw [List.any_append, han, ← HU.out]
      simp)
    have HBW2 := mkA hbW
    clear han hbW
    gi_wp2_with fail
    refine ⟨trivial, ?_⟩
    refine (calls_in_round HRC.out).mono ?_
    rintro e w3 ⟨rfl, hb⟩
    have HB3 := mkA hb
    have hq := blk_below HI.out.rb hb
    have hrc : w3.cell? ⟨w.heap.size + 2, 0, none⟩ = some (.bool false) := (z13 hq 0).trans rfl
    have hrf : w3.frozen? ⟨w.heap.size + 2, 0, none⟩ = false := z14 hq _
    have HQ := mkA hq
    clear hb hq HRC k0 k1 k2 k3 j0 j1 j2 j3 j4 j5
    have HI3 := mkA (show PossI w w.heap.size (w.heap.size + 1) (w.heap.size + 2) n A1 c1 l1 A2 c2 l2 A3 out.length c3 false w3 from ⟨z16 HI.out.below HB3.out, blk_below HI.out.tb HB3.out, blk_below HI.out.ob HB3.out, HQ.out⟩)
    cases hr : rightB l2 u out with
    | true =>
      have HRR := mkA hr
      clear hr
      gi_wp2
      have hs3 := HB3.out.size
      refine ⟨⟨by simp [World.setCell]; exact hs3, fun k hk hz => (Below.heap_setCell _ _ _ _ (show k ≠ w.heap.size + 2 by omega)).trans (HB3.out.block k hk)⟩, rfl, ⟨z15 HI3.out.below (show w.heap.size ≤ w.heap.size + 2 by omega), (Below.heap_setCell _ _ _ _ (show w.heap.size ≠ w.heap.size + 2 by omega)).trans HI3.out.tb, (Below.heap_setCell _ _ _ _ (show w.heap.size + 1 ≠ w.heap.size + 2 by omega)).trans HI3.out.ob, ?_⟩, by rw [HAN.out]; exact HRR.out⟩
      simp [World.setCell, Array.getElem?_modify, HI3.out.rb]
    | false =>
      have HRR := mkA hr
      clear hr
      gi_wp2
      exact ⟨KeepZ.of_below HB3.out, HI3.out.below, HI3.out, by rw [HAN.out]; exact HRR.out⟩
  case done =>
    rintro W ⟨hi, han⟩ hK
    have HI := mkA hi
    have HKK := mkA hK
    have HAN := mkA han
    have hrc : W.cell? ⟨w.heap.size + 2, 0, none⟩ = some (.bool false) := (z13 hi.rb 0).trans rfl
    have hrf : W.frozen? ⟨w.heap.size + 2, 0, none⟩ = false := z14 hi.rb _
    clear hi han hK
    gi_wp2
    rw [z27 hrc]
    refine ⟨by simp, .inl ⟨_, _, rfl, run_takeDeferred HKK.out, ?_⟩⟩
    have hz := HI.out.zone (Zone6.put W (.deferred none) ⟨Nat.le_refl w2.heap.size, by omega⟩) (by omega) (by omega) (by omega) (by omega)
    have hc : (W.putObj w2.heap.size (.deferred none)).cell? ⟨w.heap.size + 2, 0, none⟩ = some (.bool false) := (z13 hz.rb 0).trans rfl
    refine ⟨.bool false, by simp [results, Try.results84, go_sem, hc], by rw [show possB l1 l2 out = false from HAN.out], hz.below⟩
  case stop =>
    rintro c pre W hpre ⟨rfl, hi, han⟩ hK
    have HI := mkA hi
    have HKK := mkA hK
    have HAN := mkA (show possB l1 l2 out = true from by
      unfold possB anyL at *
      rw [List.any_eq_true] at han ⊢
      obtain ⟨x, hx, hr⟩ := han
      exact ⟨x, hpre.subset hx, hr⟩)
    clear hi han hK
    gi_wp2
    refine ⟨by simp, .inl ⟨_, _, rfl, run_takeDeferred HKK.out, ?_⟩⟩
    have hz := HI.out.zone (Zone6.put W (.deferred none) ⟨Nat.le_refl w2.heap.size, by omega⟩) (by omega) (by omega) (by omega) (by omega)
    have hc : (W.putObj w2.heap.size (.deferred none)).cell? ⟨w.heap.size + 2, 0, none⟩ = some (.bool true) := (z13 hz.rb 0).trans rfl
    refine ⟨.bool true, by simp [results, Try.results84, go_sem, hc], by rw [HAN.out], hz.below⟩
end Go.Proofs.Ytncaadckehikpaa.Q
namespace Go.Proofs.Ytncaadckehikpaa.Q
open Go.RowKit Go.Proofs.YtncaadckehikpaaW.PrintWords Go.Proofs.YtncaadckehikpaaW.PrintLast Go.Proofs.YtncaadckehikpaaW.PrintMore
set_option linter.unusedVariables false
set_option linter.unusedSimpArgs false
/-- The first lie, by its number. -/
def firstO (l1 : List S122) (l2 : List S124) : Option Nat := (List.range l2.length).find? (fun i => !possB l1 (l2.take (i + 1)) [])
def soap_First.f (a0_0 : Int) (l0_1 : List (S122)) (l0_2 : List (S124)) : Option (Int × Int) :=
  some (if checkS a0_0 l0_1 l0_2 = 0 then (match firstO l0_1 l0_2 with | some i => ((i : Int), 0) | none => (0, 7)) else (0, checkS a0_0 l0_1 l0_2))
theorem checkS_take {n : Int} {l1 : List S122} {l2 : List S124} (h : checkS n l1 l2 = 0) (m : Nat) : checkS n l1 (l2.take m) = 0 := by
  obtain ⟨z0, z1, z2, z3, z4, z5, z6⟩ := z29 h
  have z5' : (l2.take m).all (sayingB n) = true := by
    rw [List.all_eq_true] at z5 ⊢
    exact fun x hx => z5 x (List.mem_of_mem_take hx)
  unfold checkS
  rw [if_neg (by
    rintro (q | q | q)
    · omega
    · omega
    · rw [List.length_take] at q; omega), if_neg (by
    rintro (q | q | q)
    · omega
    · rw [z4] at q; cases q
    · rw [z5'] at q; cases q), if_neg (by omega)]
theorem find_some {p : Nat → Bool} {n k : Nat} (hk : k < n) (hp : p k = true) (hm : ∀ j, j < k → p j = false) : (List.range n).find? p = some k := by
  rw [List.find?_eq_some_iff_getElem]
  refine ⟨hp, k, by simpa using hk, by simp, fun j hj => ?_⟩
  rw [List.getElem_range, hm j hj]
  rfl
theorem find_none {p : Nat → Bool} {n : Nat} (hm : ∀ j, j < n → p j = false) : (List.range n).find? p = none := by
  rw [List.find?_eq_none]
  intro x hx
  rw [hm x (List.mem_range.1 hx)]
  simp
set_option maxHeartbeats 4000000 in
set_option maxRecDepth 100000 in
theorem soap_First.calls (a0_0 : Int) (A0_1 : Option Addr) (c0_1 : Nat) (l0_1 : List (S122)) (A0_2 : Option Addr) (c0_2 : Nat) (l0_2 : List (S124)) (r1 r2 : Int) (w : World) (hr0_1 : Kd.C k122 w A0_1 l0_1.length l0_1) (hc0_1 : l0_1.length ≤ c0_1) (hr0_2 : Kd.C k124 w A0_2 l0_2.length l0_2) (hc0_2 : l0_2.length ≤ c0_2) (h : soap_First.f a0_0 l0_1 l0_2 = some (r1, r2)) :
    Calls Try.prog 39 #[.agg #[.int .i64 a0_0, .slice A0_1 l0_1.length c0_1, .slice A0_2 l0_2.length c0_2]] w fun e w' => e = .returned (.tuple #[.int .i64 r1, .int .i64 r2]) ∧ Below w.heap.size w w' := by
  have hu35 := Try.underlying35
  have hu33 := Try.underlying33
  have h2 := Option.some.inj h
  clear h
  have hbw : Below w.heap.size w (w.alloc (.cells #[.int .i64 a0_0, .slice A0_1 l0_1.length c0_1, .slice A0_2 l0_2.length c0_2] 35)) := z10 (Below.refl _ _) _
  have HCK := mkA (soap_CheckSlate.calls a0_0 A0_1 c0_1 l0_1 A0_2 c0_2 l0_2 _ _ (Kd.C_below hr0_1 hbw) hc0_1 (Kd.C_below hr0_2 hbw) hc0_2 rfl)
  have HR1 := mkA hr0_1
  have HR2 := mkA hr0_2
  have HBW := mkA hbw
  have HS0 := mkA (z19 w (.cells #[.int .i64 a0_0, .slice A0_1 l0_1.length c0_1, .slice A0_2 l0_2.length c0_2] 35))
  clear hr0_1 hr0_2 hbw
  go_enter Try.func39, Try.ntmps39
  go_wp2_with fail
  refine HCK.out.mono ?_
  rintro e w1 ⟨rfl, hb⟩
  have HB1 := mkA (z16 HBW.out hb)
  have HS1 := mkA (blk_below HS0.out hb)
  clear hb HCK HBW HS0
  by_cases hck : checkS a0_0 l0_1 l0_2 = 0
  · rw [if_pos hck] at h2
    have HZ := mkA hck
    have HH2 := mkA h2
    have hlt : w.heap.size < w1.heap.size := z23 HS1.out
    have hs0 : w1.cell? ⟨w.heap.size, 0, none⟩ = some (.int .i64 a0_0) := (z13 HS1.out 0).trans rfl
    have hs1 : w1.cell? ⟨w.heap.size, 1, none⟩ = some (.slice A0_1 l0_1.length c0_1) := (z13 HS1.out 1).trans rfl
    have hs2 : w1.cell? ⟨w.heap.size, 2, none⟩ = some (.slice A0_2 l0_2.length c0_2) := (z13 HS1.out 2).trans rfl
    have hl5 : l0_2.length ≤ 5 := by obtain ⟨z0, z1, z2, z3, _⟩ := z29 hck; exact z3
    rw [hck]
    clear h2 hck
    go_wp2
    go_loopw [16] (fun i wr => ∃ (k : Int) (sv : Value), 0 ≤ k ∧ k ≤ (l0_2.length : Int) ∧ i = .int .i64 k ∧ Aside0 (wr.heap[w.heap.size]? = some (.cells #[.int .i64 a0_0, .slice A0_1 l0_1.length c0_1, .slice A0_2 l0_2.length c0_2] 35 (0, 0))) ∧ Aside0 (wr.heap[w1.heap.size]? = some (.cells #[.int .i64 a0_0, .slice A0_1 l0_1.length c0_1, sv] 35 (0, 0))) ∧ Aside0 (Below w.heap.size w wr) ∧ Aside0 (∀ j : Nat, j < k.toNat → possB l0_1 (l0_2.take (j + 1)) [] = true)) (fun i _ => l0_2.length - (intOf i).toNat)
    case atStart => exact ⟨0, _, by omega, by omega, rfl, ⟨blk_below HS1.out (z10 (Below.refl _ _) _)⟩, ⟨z19 w1 _⟩, ⟨z10 HB1.out _⟩, ⟨fun j hj => by simp at hj⟩⟩
    case round =>
      obtain ⟨k, sv, hk0, hk1, rfl, HT, HG, HB, HM⟩ := hrel
      have t2 : wr.cell? ⟨w.heap.size, 2, none⟩ = some (.slice A0_2 l0_2.length c0_2) := (z13 HT.out 2).trans rfl
      by_cases hlk : k < (l0_2.length : Int)
      · have g1 : decide (k < (l0_2.length : Int)) = true := decide_eq_true hlk
        have u2 : wr.cell? ⟨w1.heap.size, 2, none⟩ = some sv := (z13 HG.out 2).trans rfl
        have uf2 : wr.frozen? ⟨w1.heap.size, 2, none⟩ = false := z14 HG.out _
        have u0 : wr.cell? ⟨w1.heap.size, 0, none⟩ = some (.int .i64 a0_0) := (z13 HG.out 0).trans rfl
        have u1 : wr.cell? ⟨w1.heap.size, 1, none⟩ = some (.slice A0_1 l0_1.length c0_1) := (z13 HG.out 1).trans rfl
        have hkl : (l0_2.take (k + 1).toNat).length = (k + 1).toNat := by rw [List.length_take]; omega
        have hd2 : (wr.setCell ⟨w1.heap.size, 2, none⟩ (.slice A0_2 (k + 1).toNat c0_2)).cell? ⟨w1.heap.size, 2, none⟩ = some (.slice A0_2 (k + 1).toNat c0_2) := World.cell?_setCell_same' _ _ _ (by rw [u2]; rfl)
        have HB2 := mkA (show Below w.heap.size w (wr.setCell ⟨w1.heap.size, 2, none⟩ (.slice A0_2 (k + 1).toNat c0_2)) from z15 HB.out (show w.heap.size ≤ w1.heap.size by omega))
        have HG2 := mkA (show (wr.setCell ⟨w1.heap.size, 2, none⟩ (.slice A0_2 (k + 1).toNat c0_2)).heap[w1.heap.size]? = some (.cells #[.int .i64 a0_0, .slice A0_1 l0_1.length c0_1, .slice A0_2 (k + 1).toNat c0_2] 35 (0, 0)) from by simp [World.setCell, Array.getElem?_modify, HG.out])
        have HT2 := mkA (show (wr.setCell ⟨w1.heap.size, 2, none⟩ (.slice A0_2 (k + 1).toNat c0_2)).heap[w.heap.size]? = _ from (Below.heap_setCell _ _ _ _ (show w.heap.size ≠ w1.heap.size by omega)).trans HT.out)
        have HPC := mkA (possible_calls a0_0 A0_1 c0_1 l0_1 A0_2 c0_2 (l0_2.take (k + 1).toNat) none 0 [] _ (checkS_take HZ.out _) (Kd.C_below HR1.out HB2.out) hc0_1 (Kd.C_take (Kd.C_below HR2.out HB2.out) (by omega)) (by omega) (Kd.C_nil _ _) (Nat.le_refl _) (by simp))
        rw [hkl] at HPC
        generalize hp : possB l0_1 (l0_2.take (k + 1).toNat) [] = pb at HPC
        have HP := mkA hp
        clear hp hkl
        simp only [List.length_nil] at HPC
        go_wp2_with fail
        refine HPC.out.mono ?_
        rintro e w3 ⟨rfl, hb⟩
        have HB3 := mkA (HB2.out.trans (hb.mono HB2.out.size))
        have HG3 := mkA (blk_below HG2.out hb)
        have HT3 := mkA (blk_below HT2.out hb)
        clear hb HPC
        cases pb with
        | true =>
          go_wp2
          go_round
          case measure => simp [intOf]; omega
          case rel =>
            refine ⟨k + 1, _, by omega, by omega, by go_num, HT3, HG3, HB3, ⟨fun j hj => ?_⟩⟩
            by_cases hjk : j < k.toNat
            · exact HM.out j hjk
            · obtain rfl : j = k.toNat := by omega
              rw [show k.toNat + 1 = (k + 1).toNat by omega]
              exact HP.out
        | false =>
          have hf : firstO l0_1 l0_2 = some k.toNat := find_some (by omega) (by rw [show k.toNat + 1 = (k + 1).toNat by omega, HP.out]; rfl) (fun j hj => by rw [HM.out j hj]; rfl)
          have hh := HH2.out
          rw [hf] at hh
          obtain ⟨rfl, rfl⟩ := Prod.mk.inj hh
          have HK := mkA (show ((k.toNat : Nat) : Int) = k by omega)
          clear hh hf
          go_wp2
          go_ret2
          exact ⟨by rw [HK.out]; rfl, HB3.out⟩
      · have g1 : decide (k < (l0_2.length : Int)) = false := decide_eq_false hlk
        obtain rfl : k = l0_2.length := by omega
        have hf : firstO l0_1 l0_2 = none := find_none (fun j hj => by rw [HM.out j (by simpa using hj)]; rfl)
        have hh := HH2.out
        rw [hf] at hh
        obtain ⟨rfl, rfl⟩ := Prod.mk.inj hh
        clear hh hf
        go_wp2
        go_ret2
        exact ⟨rfl, HB.out⟩
  · rw [if_neg hck] at h2
    obtain ⟨rfl, rfl⟩ := Prod.mk.inj h2
    generalize hqq : checkS a0_0 l0_1 l0_2 = q at hck ⊢
    have HQQ := mkA hqq
    have g1 : (q != 0) = true := bne_iff_ne.2 hck
    clear h2 hck hqq
    go_wp2
    go_ret2
    exact ⟨by rw [HQQ.out]; rfl, HB1.out⟩
end Go.Proofs.Ytncaadckehikpaa.Q
