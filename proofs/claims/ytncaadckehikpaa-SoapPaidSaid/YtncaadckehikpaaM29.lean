/- A part of the proof: contracts of functions and plain facts (Q21, HPay3, HNth, HPay4, HLaw). No condition. -/
import Derived.Test.YtncaadckehikpaaM3
import Derived.Test.YtncaadckehikpaaM14
import Derived.Test.YtncaadckehikpaaM26
import Derived.Test.YtncaadckehikpaaM27
import Derived.Test.YtncaadckehikpaaM28
import Derived.Test.YtncaadckehikpaaM16
namespace Go.Proofs.Ytncaadckehikpaa.Q
open Go.RowKit Go.Proofs.YtncaadckehikpaaW.PrintWords Go.Proofs.YtncaadckehikpaaW.PrintLast Go.Proofs.YtncaadckehikpaaW.PrintMore
attribute [local go_sem] z37 z36 max_two min_two   -- for this text's walks alone
set_option linter.unusedVariables false
set_option linter.unusedSimpArgs false
/-! ### pr_Settles: function 69 -/
mutual
def pr_Settles.l0 : Nat → List Int → List (S140) → Int → Int → List (S91) → List (S94) → Option (Bool)
 | 0, _, _, _, _, _, _ => none
 | k + 1, x1, x2, x7, x1081000, x1081001, x1081002 => if x7 < x1081000 then ((pr_Owed.f k x1081000 x1081001 x1081002 x1 x7).bind fun t1081 => (pr_Settles.l1 k x1 x2 x7 t1081 0 x1081000 x1081001 x1081002)) else (some true)
def pr_Settles.l1 : Nat → List Int → List (S140) → Int → Int → Int → Int → List (S91) → List (S94) → Option (Bool)
 | 0, _, _, _, _, _, _, _, _ => none
 | k + 1, x1, x2, x7, x8, x9, x1081000, x1081001, x1081002 => if x9 < (x2.length : Int) then (if 0 ≤ x9 then (if ((rd_T140 x2 x9).f0) = x7 then (if ((rd_T140 x2 x9).f1) = x7 then (pr_Settles.l1 k x1 x2 x7 (wrap64 ((wrap64 (x8 + ((rd_T140 x2 x9).f2))) - ((rd_T140 x2 x9).f2))) (wrap64 (x9 + 1)) x1081000 x1081001 x1081002) else (pr_Settles.l1 k x1 x2 x7 (wrap64 (x8 + ((rd_T140 x2 x9).f2))) (wrap64 (x9 + 1)) x1081000 x1081001 x1081002)) else (if ((rd_T140 x2 x9).f1) = x7 then (pr_Settles.l1 k x1 x2 x7 (wrap64 (x8 - ((rd_T140 x2 x9).f2))) (wrap64 (x9 + 1)) x1081000 x1081001 x1081002) else (pr_Settles.l1 k x1 x2 x7 x8 (wrap64 (x9 + 1)) x1081000 x1081001 x1081002))) else (none)) else (if x8 = 0 then (pr_Settles.l0 k x1 x2 (wrap64 (x7 + 1)) x1081000 x1081001 x1081002) else (some false))
end
def pr_Settles.f (k : Nat) (a0_0 : Int) (l0_1 : List (S91)) (l0_2 : List (S94)) (l1 : List Int) (l2 : List (S140)) : Option (Bool) := pr_Settles.l0 k l1 l2 0 a0_0 l0_1 l0_2
end Go.Proofs.Ytncaadckehikpaa.Q
namespace Go.Proofs.Ytncaadckehikpaa.Q
open Go.RowKit Go.Proofs.YtncaadckehikpaaW.PrintWords Go.Proofs.YtncaadckehikpaaW.PrintLast Go.Proofs.YtncaadckehikpaaW.PrintMore
set_option linter.unusedVariables false
set_option linter.unusedSimpArgs false
set_option linter.unusedSectionVars false
def c140 (p : S140) : S76 := ⟨p.f0, p.f1, p.f2⟩
def c76 (p : S76) : S140 := ⟨p.f0, p.f1, p.f2⟩
theorem c140_76 (ps : List S76) : (ps.map c76).map c140 = ps := by
  rw [List.map_map]
  have : c140 ∘ c76 = id := rfl
  rw [this, List.map_id]
theorem rd140 (xs : List S140) (i : Nat) (h : i < xs.length) : rd_T140 xs (i : Int) = xs[i] := getD_of xs _ i h
theorem rd76 (xs : List S76) (i : Nat) (h : i < xs.length) : rd_T76 xs (i : Int) = xs[i] := getD_of xs _ i h
theorem pays_l0 (l : List S76) (hl : l.length ≤ 1000) : ∀ (d k i : Nat) (acc : List S140), i + d = l.length → d < k → acc.length = i → pl_payments.l0 k l acc i = some (acc ++ (l.drop i).map c76)
  | 0, k + 1, i, acc, hi, hk, ha => by
    rw [pl_payments.l0, if_neg (by omega), List.drop_of_length_le (by omega)]
    simp
  | d + 1, k + 1, i, acc, hi, hk, ha => by
    have hn : i < l.length := by omega
    rw [pl_payments.l0, if_pos (by omega), if_pos (by omega), if_pos (by omega), w1 i (by omega), pays_l0 l hl d k (i + 1) _ (by omega) (by omega) (by simp [ha]), List.drop_eq_getElem_cons hn, rd76 l i hn, List.map_cons, List.append_assoc]
    rfl
theorem pays_f (k : Nat) (l : List S76) (hl : l.length ≤ 1000) (hk : l.length < k) : pl_payments.f k l = some (l.map c76) := by
  have := pays_l0 l hl l.length k 0 [] (by omega) (by omega) rfl
  simpa [pl_payments.f] using this
theorem ArePays_l0 (n : Int) (l1 : List S91) (l2 : List S94) (l : List S140) (h0 : 0 ≤ n) (h6 : n ≤ 6) (hl : l.length ≤ 1000) : ∀ (d k i : Nat), i + d = l.length → d < k → pr_ArePayments.l0 k l i n l1 l2 = some (((l.drop i).map c140).all (payB n))
  | 0, k + 1, i, hi, hk => by
    rw [pr_ArePayments.l0, if_neg (by omega), List.drop_of_length_le (by omega)]
    rfl
  | d + 1, k + 1, i, hi, hk => by
    have hn : i < l.length := by omega
    have hin : ∀ x : Int, pr_In.f x 1 240 = some (decide (1 ≤ x) && decide (x ≤ 240)) := fun x => by
      unfold pr_In.f
      by_cases q : x ≥ 1
      · rw [if_pos q]; simp [show 1 ≤ x from q]
      · rw [if_neg q]; simp [show ¬ 1 ≤ x from q]
    rw [pr_ArePayments.l0, if_pos (by omega), if_pos (by omega), rd140 l i hn, ArePair_f n _ _ _ _ h0 h6, Option.bind_some, hin, Option.bind_some, w1 i (by omega), List.drop_eq_getElem_cons hn, List.map_cons, List.all_cons, ArePays_l0 n l1 l2 l h0 h6 hl d k (i + 1) (by omega) (by omega)]
    have e : payB n (c140 l[i]) = (pairB n l[i].f0 l[i].f1 && (decide (1 ≤ l[i].f2) && decide (l[i].f2 ≤ 240))) := rfl
    rw [e]
    cases pairB n l[i].f0 l[i].f1 <;> cases (decide (1 ≤ l[i].f2) && decide (l[i].f2 ≤ 240)) <;> simp
theorem ArePays_f (k : Nat) (n : Int) (l1 : List S91) (l2 : List S94) (l : List S140) (h0 : 0 ≤ n) (h6 : n ≤ 6) (hl : l.length ≤ 1000) (hk : l.length < k) : pr_ArePayments.f k n l1 l2 l = some ((l.map c140).all (payB n)) := by
  have := ArePays_l0 n l1 l2 l h0 h6 hl l.length k 0 (by omega) (by omega)
  exact this
theorem payB_six {n : Int} {p : S76} (h6 : n ≤ 6) (h : payB n p = true) : Six p ∧ p.f0 < n ∧ p.f1 < n ∧ 1 ≤ p.f2 ∧ p.f2 ≤ 240 := by
  simp only [payB, pairB, womanB, Bool.and_eq_true, decide_eq_true_eq, bne_iff_ne, ne_eq] at h
  exact ⟨⟨by omega, by omega, by omega, by omega, h.1.2⟩, by omega, by omega, by omega, by omega⟩
theorem eff1_bd {p : S76} (h : 1 ≤ p.f2 ∧ p.f2 ≤ 240) (i : Int) : -240 ≤ eff1 p i ∧ eff1 p i ≤ 240 := by
  unfold eff1
  split <;> split <;> omega
section
variable (n : Int) (l1 : List S91) (l2 : List S94) (os : List Int) (hck : checkS n (l1.map c91) (l2.map c94) = 0) (ho : Small (l1.map c91) os) (l : List S140) (hl : l.length ≤ 1000) (hp : (l.map c140).all (payB n) = true)
include hck ho hl hp
theorem Settles_l1 (w : Int) : ∀ (d k i : Nat) (acc : Int), i + d = l.length → -(1000 + 240 * (i : Int)) ≤ acc → acc ≤ 1000 + 240 * (i : Int) →
    pr_Settles.l1 (k + d + 1) os l w acc i n l1 l2 = if acc + eff ((l.drop i).map c140) w = 0 then pr_Settles.l0 k os l (wrap64 (w + 1)) n l1 l2 else some false
  | 0, k, i, acc, hi, h0, h1 => by
    rw [pr_Settles.l1, if_neg (by omega), List.drop_of_length_le (by omega)]
    simp [eff]
  | d + 1, k, i, acc, hi, h0, h1 => by
    have hn : i < l.length := by omega
    have hm := List.all_eq_true.1 hp (c140 l[i]) (List.mem_map_of_mem (List.getElem_mem hn))
    obtain ⟨⟨q0, q1, q2, q3, q4⟩, q5, q6, q7, q8⟩ := payB_six (z33 hck).2.1 hm
    have hb := eff1_bd (p := c140 l[i]) ⟨q7, q8⟩ w
    have ih := fun a h0 h1 => Settles_l1 w d k (i + 1) a (by omega) h0 h1
    rw [List.drop_eq_getElem_cons hn, List.map_cons, z54, ← Int.add_assoc]
    rw [← ih (acc + eff1 (c140 l[i]) w) (by omega) (by omega), show k + (d + 1) + 1 = (k + d + 1) + 1 by omega, pr_Settles.l1, if_pos (by omega), if_pos (by omega), rd140 l i hn, w1 i (by omega)]
    have x0 : (c140 l[i]).f0 = l[i].f0 := rfl
    have x1 : (c140 l[i]).f1 = l[i].f1 := rfl
    have x2 : (c140 l[i]).f2 = l[i].f2 := rfl
    rw [x2] at q7 q8
    rw [x0, x1] at q4
    have hw : ∀ z : Int, -1000000 ≤ z → z ≤ 1000000 → wrap64 z = z := fun z a b => by unfold wrap64; omega
    unfold eff1
    rw [x0, x1, x2]
    by_cases a : l[i].f0 = w
    · rw [if_pos a, if_neg (by omega), if_pos a, if_neg (by omega), hw _ (by omega) (by omega), Int.sub_zero]
    · rw [if_neg a, if_neg a]
      by_cases b : l[i].f1 = w
      · rw [if_pos b, if_pos b, hw _ (by omega) (by omega), show acc + (0 - l[i].f2) = acc - l[i].f2 by omega]
      · rw [if_neg b, if_neg b, show acc + (0 - 0) = acc by omega]
theorem Settles_l0 : ∀ (d k w : Nat), (w : Int) + d = n → d * (l.length + 3) + 30 < k → ∃ b, pr_Settles.l0 k os l w n l1 l2 = some b ∧ (b = true ↔ ∀ j : Nat, w ≤ j → (j : Int) < n → rd (owedL (l1.map c91) os) (j : Int) + eff (l.map c140) (j : Int) = 0)
  | 0, k + 1, w, hi, hk => by
    rw [pr_Settles.l0, if_neg (by omega)]
    exact ⟨true, rfl, ⟨fun _ j h1 h2 => by omega, fun _ => rfl⟩⟩
  | d + 1, k + 1, w, hi, hk => by
    obtain ⟨z0, z1, z2, z3, z4, z5⟩ := z33 hck
    have hv := owed_500 n l1 l2 os hck ho (w : Int)
    rw [Nat.succ_mul] at hk
    obtain ⟨k', rfl⟩ : ∃ k', k = k' + l.length + 1 := ⟨k - l.length - 1, by omega⟩
    rw [pr_Settles.l0, if_pos (by omega), Owed_f _ n l1 l2 os (w : Int) hck ho (by omega) (by omega) (by omega), Option.bind_some]
    have h1 := Settles_l1 n l1 l2 os hck ho l hl hp (w : Int) l.length k' 0 (rd (owedL (l1.map c91) os) (w : Int)) (by omega) (by omega) (by omega)
    rw [List.drop_zero] at h1
    rw [show (0 : Int) = ((0 : Nat) : Int) from rfl, h1, w1 w (by omega)]
    by_cases e : rd (owedL (l1.map c91) os) (w : Int) + eff (l.map c140) (w : Int) = 0
    · rw [if_pos e]
      obtain ⟨b, hb, hb2⟩ := Settles_l0 d k' (w + 1) (by omega) (by omega)
      refine ⟨b, hb, hb2.trans ⟨fun q j h1 h2 => ?_, fun q j h1 h2 => q j (by omega) h2⟩⟩
      by_cases x : j = w
      · rw [x]; exact e
      · exact q j (by omega) h2
    · rw [if_neg e]
      exact ⟨false, rfl, ⟨fun q => by simp at q, fun q => absurd (q w (Nat.le_refl _) (by omega)) e⟩⟩
/-- Whether payments settle all, as the program proves it. -/
theorem Settles_f (k : Nat) (hk : 7 * (l.length + 3) + 30 < k) : pr_Settles.f k n l1 l2 os l = some (allZero (paid (owedL (l1.map c91) os) (l.map c140) (l.map c140).length)) := by
  obtain ⟨z0, z1, z2, z3, z4, z5⟩ := z33 hck
  have h6 : (owedL (l1.map c91) os).length = 6 := z34 _ _ _
  have hsix : ∀ p ∈ l.map c140, Six p ∧ p.f0 < n ∧ p.f1 < n ∧ 1 ≤ p.f2 ∧ p.f2 ≤ 240 := fun p hq => payB_six z1 (List.all_eq_true.1 hp p hq)
  obtain ⟨b, hb, hb2⟩ := Settles_l0 n l1 l2 os hck ho l hl hp n.toNat k 0 (by omega) (by
    have : n.toNat * (l.length + 3) ≤ 6 * (l.length + 3) := Nat.mul_le_mul_right _ (by omega)
    omega)
  refine Eq.trans (show pr_Settles.f k n l1 l2 os l = some b from hb) (congrArg some ?_)
  have hr := fun (i : Int) h0 h6' => rd_pays (l.map c140) (owedL (l1.map c91) os) h6 (fun p hq => (hsix p hq).1) i h0 h6'
  have hout : ∀ i : Int, n ≤ i → i < 6 → rd (owedL (l1.map c91) os) i + eff (l.map c140) i = 0 := fun i a b' => by
    have e1 : rd (owedL (l1.map c91) os) i = 0 := by
      have := owed_out n l1 l2 os hck ho i a b' l1.length (Nat.le_refl _)
      unfold owedL
      rw [List.length_map]
      exact this
    have e2 : ∀ ps : List S76, (∀ p ∈ ps, p.f0 < n ∧ p.f1 < n) → eff ps i = 0 := by
      intro ps
      induction ps with
      | nil => intro _; rfl
      | cons p ps ih =>
        intro h
        have := h p (by simp)
        rw [z54, ih (fun q hq => h q (by simp [hq]))]
        unfold eff1
        rw [if_neg (by omega), if_neg (by omega)]
        rfl
    rw [e1, e2 _ (fun p hq => ⟨(hsix p hq).2.1, (hsix p hq).2.2.1⟩)]
    rfl
  rw [Bool.eq_iff_iff, hb2]
  unfold allZero paid
  rw [List.take_length]
  simp only [Bool.and_eq_true, beq_iff_eq]
  rw [hr 0 (by omega) (by omega), hr 1 (by omega) (by omega), hr 2 (by omega) (by omega), hr 3 (by omega) (by omega), hr 4 (by omega) (by omega), hr 5 (by omega) (by omega)]
  constructor
  · intro q
    have g : ∀ j : Nat, j < 6 → rd (owedL (l1.map c91) os) (j : Int) + eff (l.map c140) (j : Int) = 0 := fun j hj => by
      by_cases a : (j : Int) < n
      · exact q j (by omega) a
      · exact hout j (by omega) (by omega)
    exact ⟨⟨⟨⟨⟨g 0 (by omega), g 1 (by omega)⟩, g 2 (by omega)⟩, g 3 (by omega)⟩, g 4 (by omega)⟩, g 5 (by omega)⟩
  · rintro ⟨⟨⟨⟨⟨a0, a1⟩, a2⟩, a3⟩, a4⟩, a5⟩ j _ hj
    have : j = 0 ∨ j = 1 ∨ j = 2 ∨ j = 3 ∨ j = 4 ∨ j = 5 := by omega
    rcases this with rfl | rfl | rfl | rfl | rfl | rfl
    · exact a0
    · exact a1
    · exact a2
    · exact a3
    · exact a4
    · exact a5
end
section
variable (n : Int) (l1 : List S91) (l2 : List S94) (os : List Int) (hck : checkS n (l1.map c91) (l2.map c94) = 0) (ho : Small (l1.map c91) os)
include hck ho
/-- Nobody is owed more than 240 ounces. -/
theorem owed_240 (w : Int) (hw : 0 ≤ w) (hw6 : w < 6) : ∀ i : Nat, i ≤ l1.length → -(40 * (i : Int)) ≤ rd (owedTo (l1.map c91) os i) w ∧ rd (owedTo (l1.map c91) os i) w ≤ 40 * (i : Int)
  | 0, _ => by
    obtain ⟨m, rfl⟩ : ∃ m : Nat, w = m := ⟨w.toNat, by omega⟩
    unfold rd owedTo
    rw [Int.toNat_natCast]
    rcases m with _ | _ | _ | _ | _ | _ | m <;> simp [List.getD]
  | i + 1, hi => by
    obtain ⟨z0, z1, z2, z3, z4, z5⟩ := z33 hck
    have he := z48 hck (i : Int) (by omega) (by rw [List.length_map]; omega)
    have hr := ho.2 (i : Int) (by omega) (by rw [List.length_map]; omega)
    have ih := owed_240 w hw hw6 i (by omega)
    rw [owedTo_step (l1.map c91) os i w (by omega) (by omega) (by omega) (by omega) he.2.2.2.2.1 hw hw6]
    push_cast
    split
    · omega
    · split <;> omega
/-- What the program's payments are to the reference. -/
theorem program_pays : ((z22 (owedL (l1.map c91) os) (groupsL (owedL (l1.map c91) os))).all (payB n) = true) ∧ allZero (paid (owedL (l1.map c91) os) (z22 (owedL (l1.map c91) os) (groupsL (owedL (l1.map c91) os))) (z22 (owedL (l1.map c91) os) (groupsL (owedL (l1.map c91) os))).length) = true ∧
    ((z22 (owedL (l1.map c91) os) (groupsL (owedL (l1.map c91) os))).length : Int) = payN (owedL (l1.map c91) os) := by
  obtain ⟨z0, z1, z2, z3, z4, z5⟩ := z33 hck
  have h6 : (owedL (l1.map c91) os).length = 6 := z34 _ _ _
  have hB : ∀ i : Nat, i < 6 → -240 ≤ rd (owedL (l1.map c91) os) (i : Int) ∧ rd (owedL (l1.map c91) os) (i : Int) ≤ 240 := fun i hi => by
    have := owed_240 n l1 l2 os hck ho (i : Int) (by omega) (by omega) l1.length (Nat.le_refl _)
    unfold owedL
    rw [List.length_map]
    omega
  obtain ⟨s1, s2, s3⟩ := settle_all (owedL (l1.map c91) os) h6 (sum_open_owed n l1 l2 os hck ho) 240 hB
  have hout : ∀ i : Int, n ≤ i → i < 6 → rd (owedL (l1.map c91) os) i = 0 := fun i a b' => by
    have := owed_out n l1 l2 os hck ho i a b' l1.length (Nat.le_refl _)
    unfold owedL
    rw [List.length_map]
    exact this
  refine ⟨?_, ?_, s3⟩
  · rw [List.all_eq_true]
    intro p hp
    obtain ⟨⟨q0, q1, q2, q3, q4⟩, q5, q6, q7, q8⟩ := s1 p hp
    have a0 : p.f0 < n := by
      by_cases h : p.f0 < n
      · exact h
      · exact absurd (hout p.f0 (by omega) q1) q7
    have a1 : p.f1 < n := by
      by_cases h : p.f1 < n
      · exact h
      · exact absurd (hout p.f1 (by omega) q3) q8
    simp only [payB, pairB, womanB, Bool.and_eq_true, decide_eq_true_eq, bne_iff_ne, ne_eq]
    exact ⟨⟨⟨⟨q0, by omega⟩, ⟨q2, by omega⟩⟩, q4⟩, ⟨q5, q6⟩⟩
  · have hr := fun (i : Int) h0 h6' => rd_pays _ (owedL (l1.map c91) os) h6 (fun p hq => (s1 p hq).1) i h0 h6'
    have g : ∀ i : Int, 0 ≤ i → i < 6 → rd ((z22 (owedL (l1.map c91) os) (groupsL (owedL (l1.map c91) os))).foldl pay1 (owedL (l1.map c91) os)) i = 0 := fun i h0 h6' => by
      rw [hr i h0 h6', s2 i h0 h6']; omega
    unfold allZero paid
    rw [List.take_length]
    simp only [Bool.and_eq_true, beq_iff_eq]
    exact ⟨⟨⟨⟨⟨g 0 (by omega) (by omega), g 1 (by omega) (by omega)⟩, g 2 (by omega) (by omega)⟩, g 3 (by omega) (by omega)⟩, g 4 (by omega) (by omega)⟩, g 5 (by omega) (by omega)⟩
end
end Go.Proofs.Ytncaadckehikpaa.Q
namespace Go.Proofs.Ytncaadckehikpaa.Q
open Go.RowKit Go.Proofs.YtncaadckehikpaaW.PrintWords Go.Proofs.YtncaadckehikpaaW.PrintLast Go.Proofs.YtncaadckehikpaaW.PrintMore
set_option linter.unusedVariables false
set_option linter.unusedSimpArgs false
set_option linter.unusedSectionVars false
theorem ready_f (k : Nat) (n : Int) (l1 : List S91) (l2 : List S94) (hk : 40 ≤ k) : pl_ready.f k n l1 l2 = some (decide (l1.length ≤ 30 ∧ l2.length ≤ 30) && decide (checkS n (l1.map c91) (l2.map c94) = 0)) := by
  unfold pl_ready.f
  rw [Thin_f, Option.bind_some]
  by_cases ht : l1.length ≤ 30 ∧ l2.length ≤ 30
  · rw [if_pos (by simpa using ht), pl_fault.f, Fault_f k n l1 l2 hk, Option.bind_some, Option.bind_some, decide_eq_true ht, Bool.true_and]
    by_cases h : checkS n (l1.map c91) (l2.map c94) = 0 <;> simp [h]
  · rw [if_neg (by simpa using ht), decide_eq_false ht, Bool.false_and]
theorem nth_are {n : Int} {l1 : List S122} {l2 : List S124} (hck : checkS n l1 l2 = 0) (m : Nat) (hm : m < prodN l1) : areB l1 (nthS l1 m) = true := by
  have h := enumO_fit l1 l1 [] rfl (by simp) (fun j h0 h1 => absurd h1 (by simp; omega)) (nthS l1 m) ((mem_enumO l1 [] _).2 ⟨m, hm, by simp⟩)
  unfold areB
  rw [decide_eq_true_eq]
  refine ⟨h.1, fun i hi => ?_⟩
  have := h.2 (i : Int) (by omega) (by omega)
  exact this
theorem nth_play {n : Int} {l1 : List S122} {l2 : List S124} (hck : checkS n l1 l2 = 0) (m : Nat) (hm : m < prodN l1) : playE n l1 l2 (nthS l1 m) = 0 := by
  unfold playE
  simp [hck, nth_are hck m hm]
/-- The number that a statement takes. -/
theorem which_f (k : Nat) (n : Int) (l1 : List S91) (l2 : List S94) (a : Int) (h0 : 0 ≤ a) (ha : a < 1000000000) (hck : checkS n (l1.map c91) (l2.map c94) = 0) (hk : 7 ≤ k) : 0 < prodN (l1.map c91) ∧ (a.toNat % prodN (l1.map c91) < prodN (l1.map c91)) ∧
    pr_Nth.f k n l1 l2 (Int.tmod (wrap64 a) ((prodN (l1.map c91) : Nat) : Int)) = some (nthS (l1.map c91) (a.toNat % prodN (l1.map c91))) := by
  obtain ⟨z0, z1, z2, z3, z4, z5⟩ := z33 hck
  have hp := prodS_pos (l1.map c91) (fun e h => (z4.sizes e h).1)
  have hpn := prodN_le hck
  have hpos : 0 < prodN (l1.map c91) := by omega
  have hlt := Nat.mod_lt a.toNat hpos
  have e : Int.tmod (wrap64 a) ((prodN (l1.map c91) : Nat) : Int) = ((a.toNat % prodN (l1.map c91) : Nat) : Int) := by
    rw [show wrap64 a = ((a.toNat : Nat) : Int) by unfold wrap64; omega]
    rfl
  refine ⟨hpos, hlt, ?_⟩
  rw [e]
  exact Nth_f k n l1 l2 _ z2 z4 hk (by omega)
end Go.Proofs.Ytncaadckehikpaa.Q
namespace Go.Proofs.Ytncaadckehikpaa.Q
open Go.RowKit Go.Proofs.YtncaadckehikpaaW.PrintWords Go.Proofs.YtncaadckehikpaaW.PrintLast Go.Proofs.YtncaadckehikpaaW.PrintMore
set_option linter.unusedVariables false
set_option linter.unusedSimpArgs false
set_option linter.unusedSectionVars false
theorem allZero_rd {v : List Int} (h : allZero v = true) : ∀ i : Int, 0 ≤ i → i < 6 → rd v i = 0 := by
  intro i h0 h6
  simp only [allZero, Bool.and_eq_true, beq_iff_eq] at h
  have : i = 0 ∨ i = 1 ∨ i = 2 ∨ i = 3 ∨ i = 4 ∨ i = 5 := by omega
  rcases this with rfl | rfl | rfl | rfl | rfl | rfl <;> simp [h]
section
variable (n : Int) (l1 : List S91) (l2 : List S94) (os : List Int) (hck : checkS n (l1.map c91) (l2.map c94) = 0) (ho : Small (l1.map c91) os)
include hck ho
/-- Payments that settle all are no fewer than the fewest. -/
theorem prove_lower (ps : List S76) (hp : ps.all (payB n) = true) (hz : allZero (paid (owedL (l1.map c91) os) ps ps.length) = true) : payN (owedL (l1.map c91) os) ≤ ps.length := by
  obtain ⟨z0, z1, z2, z3, z4, z5⟩ := z33 hck
  have h63 := F_63 (owedL (l1.map c91) os) (sum_open_owed n l1 l2 os hck ho)
  unfold paid at hz
  rw [List.take_length] at hz
  have := pays_lower ps (owedL (l1.map c91) os) (z34 _ _ _) (fun p h => (payB_six z1 (List.all_eq_true.1 hp p h)).1) h63.2 (allZero_rd hz)
  omega
theorem pays_groups : ((z22 (owedL (l1.map c91) os) (groupsL (owedL (l1.map c91) os))).length : Int) = payN (owedL (l1.map c91) os) ∧ (z22 (owedL (l1.map c91) os) (groupsL (owedL (l1.map c91) os))).length ≤ 6 ∧
    (groupsL (owedL (l1.map c91) os)).length ≤ 6 ∧ (z22 (owedL (l1.map c91) os) (groupsL (owedL (l1.map c91) os))).length + (groupsL (owedL (l1.map c91) os)).length = (bitsL (openN (owedL (l1.map c91) os))).length := by
  obtain ⟨p1, p2, p3⟩ := program_pays n l1 l2 os hck ho
  obtain ⟨g1, g2, g3, g4⟩ := gm_spec (owedL (l1.map c91) os) (sum_open_owed n l1 l2 os hck ho)
  have hlb := bitsL_length (openN (owedL (l1.map c91) os))
  have hg : ((groupsL (owedL (l1.map c91) os)).length : Int) = F (owedL (l1.map c91) os) (openN (owedL (l1.map c91) os)) := by
    rw [← g4, groupsL_gm, List.length_map]
  have hpn : payN (owedL (l1.map c91) os) = ((bitsL (openN (owedL (l1.map c91) os))).length : Int) - F (owedL (l1.map c91) os) (openN (owedL (l1.map c91) os)) := rfl
  refine ⟨p3, ?_, ?_, ?_⟩ <;> omega
end
section
variable (n : Int) (l1 : List S91) (l2 : List S94) (a : Int) (h0 : 0 ≤ a) (ha : a < 1000000000) (hck : checkS n (l1.map c91) (l2.map c94) = 0)
include h0 ha hck
/-- The ounces with a number, and what they are. -/
theorem which_g (k : Nat) (hk : 7 ≤ k) : ∃ T, pr_Nth.f k n l1 l2 ((IntKind.i64.wrap a).tmod ((prodN (l1.map c91) : Nat) : Int)) = some T ∧ 0 < prodN (l1.map c91) ∧ playE n (l1.map c91) (l2.map c94) T = 0 ∧ Small (l1.map c91) T ∧ T.length ≤ 6 ∧ T.length = l1.length ∧ areB (l1.map c91) T = true ∧ T ∈ enumO [] (l1.map c91) := by
  obtain ⟨q1, q2, q3⟩ := which_f k n l1 l2 a h0 ha hck hk
  obtain ⟨z0, z1, z2, z3, z4, z5⟩ := z33 hck
  have hl : (nthS (l1.map c91) (a.toNat % prodN (l1.map c91))).length = l1.length := by rw [nthS_length, List.length_map]
  rw [← Go.Proofs.YtncaadckehikpaaW.PrintLast.i64_w] at q3
  exact ⟨_, q3, q1, nth_play hck _ q2, small_nth hck _ q2, by omega, hl, nth_are hck _ q2, (mem_enumO _ [] _).2 ⟨_, q2, by simp⟩⟩
end
end Go.Proofs.Ytncaadckehikpaa.Q
namespace Go.Proofs.Ytncaadckehikpaa.Q
open Go.RowKit Go.Proofs.YtncaadckehikpaaW.PrintWords Go.Proofs.YtncaadckehikpaaW.PrintLast Go.Proofs.YtncaadckehikpaaW.PrintMore
set_option linter.unusedVariables false
set_option linter.unusedSimpArgs false
/-- In each later world the law's Slate (23) takes a value to a slate of the program with these entries and sayings. -/
def SlateOk (w : World) (v : Value) (n : Int) (L1 : List S122) (L2 : List S124) : Prop :=
  ∀ W, Below w.heap.size w W → Calls Try.prog 23 #[v] W fun e w' => ∃ B1 d1 B2 d2, e = .returned (.agg #[.int .i64 n, .slice B1 L1.length d1, .slice B2 L2.length d2]) ∧
    Kd.C k122 w' B1 L1.length L1 ∧ L1.length ≤ d1 ∧ Kd.C k124 w' B2 L2.length L2 ∧ L2.length ≤ d2 ∧ Below W.heap.size W w'
theorem slate_ok (n : Int) (A1 : Option Addr) (m1 c1 : Nat) (l1 : List S91) (A2 : Option Addr) (m2 c2 : Nat) (l2 : List S94) (w : World) (h1 : Kd.C k91 w A1 m1 l1) (g1 : m1 ≤ c1) (h2 : Kd.C k94 w A2 m2 l2) (g2 : m2 ≤ c2) (q1 : l1.length ≤ 30) (q2 : l2.length ≤ 30) :
    SlateOk w (.agg #[.int .i64 n, .slice A1 m1 c1, .slice A2 m2 c2]) n (l1.map c91) (l2.map c94) := by
  intro W hb
  obtain rfl : l1.length = m1 := h1.1
  obtain rfl : l2.length = m2 := h2.1
  refine (pl_Slate.calls 100 n A1 c1 l1 A2 c2 l2 n _ _ W (Kd.C_below h1 hb) g1 (Kd.C_below h2 hb) g2 (Slate_f 100 n l1 l2 q1 q2 (Nat.le_refl _))).mono ?_
  rintro e w' ⟨v1, v2, rfl, R1, R2, hb2⟩
  obtain ⟨B1, d1, rfl, p1, K1⟩ := Kd.R_reads R1
  obtain ⟨B2, d2, rfl, p2, K2⟩ := Kd.R_reads R2
  exact ⟨B1, d1, B2, d2, rfl, K1, p1, K2, p2, hb2⟩
theorem SlateOk.below {w W : World} {v : Value} {n : Int} {L1 : List S122} {L2 : List S124} (h : SlateOk w v n L1 L2) (hb : Below w.heap.size w W) : SlateOk W v n L1 L2 := fun W2 hb2 => h W2 (z16 hb hb2)
/-- The three cells of a block. -/
theorem box3 {W : World} {g : Nat} {t : TypeId} {a b c : Value} (h : W.heap[g]? = some (.cells #[a, b, c] t (0, 0))) :
    W.cell? ⟨g, 0, none⟩ = some a ∧ W.cell? ⟨g, 1, none⟩ = some b ∧ W.cell? ⟨g, 2, none⟩ = some c := ⟨(z13 h 0).trans rfl, (z13 h 1).trans rfl, (z13 h 2).trans rfl⟩
/-- A row that fills a block of its own. -/
theorem R_block {α : Type} {d : Kd α} {W : World} {base e g : Nat} {cs : Array Value} {xs : List α} (h : W.heap[g]? = some (.cells cs e (0, 0))) (hb : base ≤ g) (hm : xs.length ≤ maxLen) (hs : cs.size = xs.length * d.sz)
    (hrep : Reps (d.M W base (fun k => True ∧ some k ≠ some g)) d.sz xs cs.toList) : Kd.R d e W base (fun _ => True) (.slice (some ⟨g, 0, none⟩) xs.length xs.length) xs :=
  ⟨fun _ _ => trivial, ⟨cs.toList, ⟨by simpa using hs, .inr ⟨g, xs.length, cs, rfl, hb, h, Nat.le_refl _, hm, hs, List.take_of_length_le (by rw [Array.length_toList, hs]; exact Nat.le_refl _)⟩⟩, hrep⟩⟩
theorem R_none {α : Type} {d : Kd α} {W : World} {base e g : Nat} (h : W.heap[g]? = some (.cells #[] e (0, 0))) (hb : base ≤ g) : Kd.R d e W base (fun _ => True) (.slice (some ⟨g, 0, none⟩) 0 0) ([] : List α) :=
  R_block (xs := []) h hb (by simp) (by simp) (Reps.none _ _)
theorem heap_first (w : World) (o o2 : Obj) : ((w.alloc o).alloc o2).heap[w.heap.size]? = some o := blk_below (z19 w o) (z10 (Below.refl _ _) _)
theorem heap_second (w : World) (o o2 : Obj) : ((w.alloc o).alloc o2).heap[w.heap.size + 1]? = some o2 := by
  have := z19 (w.alloc o) o2
  rwa [show (w.alloc o).heap.size = w.heap.size + 1 from Array.size_push _] at this
def cells91 (x : S91) : List Value := [.int .i64 x.f0, .int .i64 x.f1, .int .i64 x.f2.f0, .int .i64 x.f2.f1]
/-- The append of rows that are read, at a step of a held region. -/
theorem z47 {P : Program} {ops : Array Oper} {o : Oper} {a : Act} {Q : Exit → Act → World → Prop} {Kc : Act → World → Prop} {E : Prop} {α : Type} (d : Kd α) {w0 W : World} (hw : Region.wanted o (yielded ops a.tmps) = true) (s x : Operand) (t e : TypeId) (z : Value) (bytes : Nat)
    (ho : o.op = .call { callee := .builtin .append, args := #[s, x], argTypes := #[t, t] })
    (ht : P.underlying t = some (.slice e)) (hinfo : (P.info? e).map (fun i => (i.zero, i.size, i.bytes)) = some (some z, d.sz, bytes)) (hz : z.cells.size = d.sz) (hs0 : 0 < d.sz) (hb0 : 0 < bytes)
    (v : Value) (xs ys : List α) (A : Option Addr) (m c : Nat) (hs : a.eval s = v) (hx : a.eval x = .slice A m c)
    (HO : d.R e W w0.heap.size (fun _ => True) v xs) (HR : d.C W A m ys) (hKM : ∀ x cs, d.K W x cs → d.M W w0.heap.size (fun _ => False) x cs)
    (HB : Below w0.heap.size w0 W) (hl : (xs.length + m) * bytes ≤ 140737488355328)
    (h : ∀ v1 w1, d.R e w1 w0.heap.size (fun _ => True) v1 (xs ++ ys) → Below w0.heap.size w0 w1 → W.grownBy w1 v.ownBlock → (v1.ownBlock = v.ownBlock ∨ ∃ b, v1.ownBlock = some b ∧ W.heap.size ≤ b) → Kc (a.put o.dst v1) w1) :
    if Region.wanted o (yielded ops a.tmps) = true then Oper.wp P o a W Kc Q else E := by
  have := Kd.R_append_rows_step (ops := ops) (Q := Q) d (w0 := w0) w0.heap.size hw s x t e z bytes ho ht hinfo hz hs0 hb0 v xs ys A m c (fun _ => True) (fun _ => False) hs hx HO HR hKM (fun _ h => h.elim) (fun _ _ => trivial) HB HB.size hl h
  rw [if_pos hw] at this ⊢
  exact this
/-- A step of a held region, in a world of this form. -/
theorem at_w (W : World) {P : Program} {o : Oper} {a : Act} {Q : Exit → Act → World → Prop} {Kc : Act → World → Prop} {c E : Prop} [Decidable c] (h : if c then Oper.wp P o a W Kc Q else E) : if c then Oper.wp P o a W Kc Q else E := h
theorem at_c (W : World) {P : Program} {f : FuncId} {args : Array Value} {R : Ending → World → Prop} (h : Calls P f args W R) : Calls P f args W R := h
end Go.Proofs.Ytncaadckehikpaa.Q
