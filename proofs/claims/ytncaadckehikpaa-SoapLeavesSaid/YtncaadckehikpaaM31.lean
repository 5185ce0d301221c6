/- The last part: the row, by the parts before. No condition. -/
import Derived.Lib.SmallJoins
import Derived.Deep.Slices
import Derived.ChangeSame
import Derived.WideLaws
import Derived.Test.YtncaadckehikpaaRows
import Derived.WalkKit
import Derived.ProofKit
import Derived.OpenShut
import Derived.ChangeOld
import Derived.Below
import Derived.SizedLaws
import Derived.Test.YtncaadckehikpaaM23
import Derived.Test.YtncaadckehikpaaM25
import Derived.Test.YtncaadckehikpaaM24
import Derived.Test.YtncaadckehikpaaM30
import Derived.Test.YtncaadckehikpaaM3
namespace Go.Proofs.Ytncaadckehikpaa.Q
open Go.RowKit Go.Proofs.YtncaadckehikpaaW.PrintWords Go.Proofs.YtncaadckehikpaaW.PrintLast Go.Proofs.YtncaadckehikpaaW.PrintMore
set_option linter.unusedVariables false
set_option linter.unusedSimpArgs false
set_option linter.unusedSectionVars false
theorem pw32 {n : Nat} (h : n ≤ 5) : 2 ^ n ≤ 32 := Nat.le_trans (Nat.pow_le_pow_right (by omega) h) (by decide : 2 ^ 5 ≤ 32)
/-- Which sayings are right with all ounces, by bits. -/
def allN (l1 : List S122) (l2 : List S124) : List Nat := (List.range (prodN l1)).map (fun m => rightN l2 (owedL l1 (nthS l1 m)))
theorem All_l0 (n : Int) (l1 : List S91) (l2 : List S94) (hck : checkS n (l1.map c91) (l2.map c94) = 0) : ∀ (d k i : Nat) (acc : List Int), i + d = prodN (l1.map c91) → d + 30 < k → acc.length = i →
    pr_All.l0 k acc i n l1 l2 = some (acc ++ (List.range' i d).map (fun m => ((rightN (l2.map c94) (owedL (l1.map c91) (nthS (l1.map c91) m)) : Nat) : Int)))
  | 0, k + 1, i, acc, hi, hk, ha => by
    rw [pr_All.l0, Many_f0 k n l1 l2 hck (by omega), Option.bind_some, if_neg (by omega)]
    simp
  | d + 1, k + 1, i, acc, hi, hk, ha => by
    obtain ⟨z0, z1, z2, z3, z4, z5⟩ := z34 hck
    have hp := (prodN_le hck).1
    have hs := small_nth hck i (by omega)
    rw [pr_All.l0, Many_f0 k n l1 l2 hck (by omega), Option.bind_some, if_pos (by omega), Nth_f k n l1 l2 i z2 z4 (by omega) (by omega), Option.bind_some, Right_f k n l1 l2 _ hck hs (by omega), Option.bind_some,
      if_pos (by omega), w1 i (by omega), List.range'_succ, List.map_cons, All_l0 n l1 l2 hck d k (i + 1) _ (by omega) (by omega) (by simp [ha]), List.append_assoc]
    rfl
theorem All_f (k : Nat) (n : Int) (l1 : List S91) (l2 : List S94) (hck : checkS n (l1.map c91) (l2.map c94) = 0) (hk : 3000 ≤ k) : pr_All.f k n l1 l2 = some ((allN (l1.map c91) (l2.map c94)).map (fun x : Nat => (x : Int))) := by
  have hp := (prodN_le hck).1
  have := All_l0 n l1 l2 hck (prodN (l1.map c91)) k 0 [] (by omega) (by omega) rfl
  rw [List.nil_append] at this
  refine Eq.trans (show pr_All.f k n l1 l2 = _ from this) ?_
  rw [allN, List.map_map, List.range_eq_range']
  rfl
theorem Can_l0 (all : List Int) (x : Int) (hl : all.length ≤ 2000) : ∀ (d k i : Nat), i + d = all.length → d < k → pr_Can.l0 k all x i = some ((all.drop i).any (fun a => decide (bits .and .i64 a x = x)))
  | 0, k + 1, i, hi, hk => by
    rw [pr_Can.l0, if_neg (by omega), List.drop_of_length_le (by omega)]
    rfl
  | d + 1, k + 1, i, hi, hk => by
    have hn : i < all.length := by omega
    rw [pr_Can.l0, if_pos (by omega), if_pos (by omega), rdI' all i hn, List.drop_eq_getElem_cons hn, List.any_cons, w1 i (by omega)]
    by_cases h : bits .and .i64 all[i] x = x
    · rw [if_pos h, decide_eq_true h]
      rfl
    · rw [if_neg h, decide_eq_false h, Bool.false_or]
      exact Can_l0 all x hl d k (i + 1) (by omega) (by omega)
theorem Can_f (k : Nat) (all : List Int) (x : Int) (hl : all.length ≤ 2000) (hk : 2100 ≤ k) : pr_Can.f k all x = some (all.any (fun a => decide (bits .and .i64 a x = x))) :=
  Can_l0 all x hl all.length k 0 (by omega) (by omega)
theorem or_bits_all' : ∀ n : Fin 6, ∀ a : Fin 64, a.val < 2 ^ n.val → ∀ i : Fin 6, bitN (a.val + 2 ^ n.val) i.val = (bitN a.val i.val || i.val == n.val) := by decide +kernel
theorem rightTo_bit (l2 : List S124) (v : List Int) : ∀ n, n ≤ 6 → ∀ i, i < 6 → bitN (rightTo l2 v n) i = (decide (i < n) && rightAt l2 v [] i)
  | 0, _, i, _ => by simp [rightTo, bitN]
  | n + 1, hn, i, hi => by
    have ih := rightTo_bit l2 v n (by omega) i hi
    have hlt := rightTo_lt l2 v n
    have h64 : (2 : Nat) ^ n ≤ 2 ^ 6 := Nat.pow_le_pow_right (by omega) (by omega)
    have hd : i ≠ n → (decide (i < n + 1)) = decide (i < n) := fun e => by
      by_cases q : i < n
      · simp [q, show i < n + 1 by omega]
      · simp [q, show ¬ i < n + 1 by omega]
    simp only [rightTo]
    by_cases h : rightAt l2 v [] n = true
    · rw [if_pos h, or_bits_all' ⟨n, by omega⟩ ⟨rightTo l2 v n, by omega⟩ hlt ⟨i, hi⟩, ih]
      by_cases e : i = n
      · subst e; simp [h]
      · rw [hd e]; simp [e]
    · rw [if_neg h, Nat.add_zero, ih]
      by_cases e : i = n
      · subst e; simp [h]
      · rw [hd e]
theorem mask_all : ∀ len : Fin 6, ∀ x : Fin 32, ∀ a : Fin 32, x.val < 2 ^ len.val → a.val < 2 ^ len.val →
    (bits .and .i64 (a.val : Int) ((2 ^ len.val - 1 - x.val : Nat) : Int) = ((2 ^ len.val - 1 - x.val : Nat) : Int) ↔ ∀ i : Fin 6, i.val < len.val → (bitN x.val i.val || bitN a.val i.val) = true) := by decide +kernel
theorem first_all : ∀ n : Fin 5, ∀ a : Fin 32, (bits .and .i64 (a.val : Int) (wrap64 (shl .i64 2 (n.val : Int) - 1)) = wrap64 (shl .i64 2 (n.val : Int) - 1) ↔ ∀ i : Fin 6, i.val < n.val + 1 → bitN a.val i.val = true) := by decide +kernel
theorem andNot_full_all : ∀ len : Fin 6, ∀ x : Fin 32, x.val < 2 ^ len.val → bits .andNot .i64 ((2 ^ len.val - 1 : Nat) : Int) (x.val : Int) = ((2 ^ len.val - 1 - x.val : Nat) : Int) := by decide +kernel
theorem has_bits_all : ∀ b : Fin 64, ∀ i : Fin 6, hasB (bitsL b.val) ((i.val : Nat) : Int) = bitN b.val i.val := by decide +kernel
section
variable (l1 : List S122) (l2 : List S124) (hl : l2.length ≤ 5)
include hl
theorem pow32 : 2 ^ l2.length ≤ 32 := pw32 hl
/-- Whether a set may be left out, as both say it. -/
theorem poss_mask (b : Nat) (hb : b < 2 ^ l2.length) : possB l1 l2 (bitsL b) = ((allN l1 l2).map (fun x : Nat => (x : Int))).any (fun a => decide (bits .and .i64 a ((2 ^ l2.length - 1 - b : Nat) : Int) = ((2 ^ l2.length - 1 - b : Nat) : Int))) := by
  have h32 := pow32 l2 hl
  have key : ∀ os, rightB l2 (owedL l1 os) (bitsL b) = decide (bits .and .i64 ((rightN l2 (owedL l1 os) : Nat) : Int) ((2 ^ l2.length - 1 - b : Nat) : Int) = ((2 ^ l2.length - 1 - b : Nat) : Int)) := fun os => by
    have hlt := rightTo_lt l2 (owedL l1 os) l2.length
    have hm := mask_all ⟨l2.length, by omega⟩ ⟨b, by omega⟩ ⟨rightN l2 (owedL l1 os), by unfold rightN; omega⟩ hb hlt
    unfold rightB
    rw [decide_eq_decide]
    refine Iff.trans ⟨fun q i hi => ?_, fun q i hi => ?_⟩ hm.symm
    · have := q i.val hi
      unfold rightAt at this
      rw [has_bits_all ⟨b, by omega⟩ ⟨i.val, i.isLt⟩] at this
      have h2 := rightTo_bit l2 (owedL l1 os) l2.length (by omega) i.val i.isLt
      unfold rightN
      rw [h2]
      unfold rightAt
      simp only [hasB, List.any_nil, Bool.false_or]
      simp only [hi, decide_true, Bool.true_and]
      exact this
    · have h1 := q ⟨i, by omega⟩ hi
      have h2 := rightTo_bit l2 (owedL l1 os) l2.length (by omega) i (by omega)
      simp only [] at h1
      unfold rightN at h1
      rw [h2] at h1
      unfold rightAt at h1
      simp only [hasB, List.any_nil, Bool.false_or] at h1
      simp only [hi, decide_true, Bool.true_and] at h1
      unfold rightAt
      rw [has_bits_all ⟨b, by omega⟩ ⟨i, by omega⟩]
      exact h1
  unfold possB anyL
  rw [Bool.eq_iff_iff, List.any_eq_true, List.any_eq_true]
  unfold allN
  constructor
  · rintro ⟨os, ho, hr⟩
    obtain ⟨m, hm, he⟩ := (z48 l1 [] os).1 ho
    rw [List.nil_append] at he
    subst he
    rw [key] at hr
    exact ⟨_, List.mem_map.2 ⟨_, List.mem_map.2 ⟨m, List.mem_range.2 hm, rfl⟩, rfl⟩, hr⟩
  · rintro ⟨a, ha, hr⟩
    obtain ⟨x, hx, rfl⟩ := List.mem_map.1 ha
    obtain ⟨m, hm, rfl⟩ := List.mem_map.1 hx
    exact ⟨_, (z48 l1 [] _).2 ⟨m, List.mem_range.1 hm, rfl⟩, by rw [List.nil_append, key]; exact hr⟩
theorem poss_first (i : Nat) (hi : i < l2.length) : possB l1 (l2.take (i + 1)) [] = ((allN l1 l2).map (fun x : Nat => (x : Int))).any (fun a => decide (bits .and .i64 a (wrap64 (shl .i64 2 (i : Int) - 1)) = wrap64 (shl .i64 2 (i : Int) - 1))) := by
  have h32 := pow32 l2 hl
  have hat : ∀ v : List Int, ∀ j, j < i + 1 → rightAt (l2.take (i + 1)) v [] j = rightAt l2 v [] j := fun v j hj => by
    unfold rightAt
    have : rd_T124 (l2.take (i + 1)) (j : Int) = rd_T124 l2 (j : Int) := by
      rw [rd124 _ j (by rw [List.length_take]; omega), rd124 _ j (by omega), List.getElem_take]
    rw [this]
  have key : ∀ os, rightB (l2.take (i + 1)) (owedL l1 os) [] = decide (bits .and .i64 ((rightN l2 (owedL l1 os) : Nat) : Int) (wrap64 (shl .i64 2 (i : Int) - 1)) = wrap64 (shl .i64 2 (i : Int) - 1)) := fun os => by
    have hlt := rightTo_lt l2 (owedL l1 os) l2.length
    have hm := first_all ⟨i, by omega⟩ ⟨rightN l2 (owedL l1 os), by unfold rightN; omega⟩
    unfold rightB
    rw [decide_eq_decide]
    refine Iff.trans ⟨fun q j hj => ?_, fun q j hj => ?_⟩ hm.symm
    · have := q j.val (by rw [List.length_take]; have : j.val < i + 1 := hj; omega)
      rw [hat _ _ hj] at this
      have h2 := rightTo_bit l2 (owedL l1 os) l2.length (by omega) j.val j.isLt
      have hjl : j.val < l2.length := by
        have : j.val < i + 1 := hj
        omega
      unfold rightN
      rw [h2, this, decide_eq_true hjl, Bool.true_and]
    · rw [List.length_take] at hj
      have h1 := q ⟨j, by omega⟩ (show j < i + 1 by omega)
      have h2 := rightTo_bit l2 (owedL l1 os) l2.length (by omega) j (by omega)
      simp only [] at h1
      unfold rightN at h1
      rw [h2, Bool.and_eq_true] at h1
      rw [hat _ _ (by omega)]
      exact h1.2
  unfold possB anyL
  rw [Bool.eq_iff_iff, List.any_eq_true, List.any_eq_true]
  unfold allN
  constructor
  · rintro ⟨os, ho, hr⟩
    obtain ⟨m, hm, he⟩ := (z48 l1 [] os).1 ho
    rw [List.nil_append] at he
    subst he
    rw [key] at hr
    exact ⟨_, List.mem_map.2 ⟨_, List.mem_map.2 ⟨m, List.mem_range.2 hm, rfl⟩, rfl⟩, hr⟩
  · rintro ⟨a, ha, hr⟩
    obtain ⟨x, hx, rfl⟩ := List.mem_map.1 ha
    obtain ⟨m, hm, rfl⟩ := List.mem_map.1 hx
    exact ⟨_, (z48 l1 [] _).2 ⟨m, List.mem_range.1 hm, rfl⟩, by rw [List.nil_append, key]; exact hr⟩
end
/-! All sets in the order of their lists. -/
def maskOf (o : List Int) : Nat := o.foldl (fun m i => m + 2 ^ i.toNat) 0
def orderM (len : Nat) : List Nat := (z42 len (len + 1)).map maskOf
theorem order_all : ∀ len : Fin 6, z42 len.val (len.val + 1) = (orderM len.val).map bitsL := by decide +kernel
theorem order_mem_all : ∀ len : Fin 6, ∀ b : Fin 32, b.val < 2 ^ len.val → b.val ∈ orderM len.val := by decide +kernel
theorem order_lt_all : ∀ len : Fin 6, ∀ b ∈ orderM len.val, b < 2 ^ len.val := by decide +kernel
theorem shorter_all : ∀ len : Fin 6, ((List.range (2 ^ len.val)).all fun a => (List.range (2 ^ len.val)).all fun b => pr_Shorter.f 20 (bitsL a) (bitsL b) == some (decide ((orderM len.val).idxOf a < (orderM len.val).idxOf b))) = true := by decide +kernel
theorem Shorter_f (k len a b : Nat) (hl : len ≤ 5) (ha : a < 2 ^ len) (hb : b < 2 ^ len) (hk : 20 ≤ k) : pr_Shorter.f k (bitsL a) (bitsL b) = some (decide ((orderM len).idxOf a < (orderM len).idxOf b)) := by
  obtain ⟨d, rfl⟩ : ∃ d, k = 20 + d := ⟨k - 20, by omega⟩
  clear hk
  induction d with
  | zero =>
    have h1 := List.all_eq_true.1 (shorter_all ⟨len, by omega⟩) a (List.mem_range.2 ha)
    have h2 := List.all_eq_true.1 h1 b (List.mem_range.2 hb)
    simpa using h2
  | succ d ih => exact pr_Shorter.mono _ _ _ _ ih
theorem find_least (p : Nat → Bool) : ∀ (M : List Nat) (x : Nat), M.find? p = some x → p x = true ∧ x ∈ M ∧ ∀ y ∈ M, p y = true → M.idxOf x ≤ M.idxOf y
  | [], x, h => by simp at h
  | z :: M, x, h => by
    by_cases hz : p z = true
    · rw [List.find?_cons_of_pos hz] at h
      injection h with h
      subst h
      exact ⟨hz, by simp, fun y _ _ => by simp⟩
    · rw [List.find?_cons_of_neg hz] at h
      obtain ⟨h1, h2, h3⟩ := find_least p M x h
      refine ⟨h1, by simp [h2], fun y hy hp => ?_⟩
      have hxz : x ≠ z := fun e => hz (e ▸ h1)
      have hyz : y ≠ z := fun e => hz (e ▸ hp)
      have hym : y ∈ M := by simpa [hyz] using hy
      have := h3 y hym hp
      rw [List.idxOf_cons, List.idxOf_cons, show (z == x) = false by simpa using Ne.symm hxz, show (z == y) = false by simpa using Ne.symm hyz]
      simpa using this
theorem idx_inj (M : List Nat) {x y : Nat} (hx : x ∈ M) (hy : y ∈ M) (h : M.idxOf x = M.idxOf y) : x = y := by
  have h1 := List.getElem_idxOf (List.idxOf_lt_length_of_mem hx)
  have h2 := List.getElem_idxOf (List.idxOf_lt_length_of_mem hy)
  rw [← h1, ← h2]
  simp only [h]
section
variable (n : Int) (l1 : List S91) (l2 : List S94) (hck : checkS n (l1.map c91) (l2.map c94) = 0)
include hck
theorem allN_len : ((allN (l1.map c91) (l2.map c94)).map (fun x : Nat => (x : Int))).length ≤ 2000 := by
  rw [List.length_map, allN, List.length_map, List.length_range]
  exact (prodN_le hck).1
theorem Can_mask (k b : Nat) (hb : b < 2 ^ l2.length) (hk : 2100 ≤ k) : pr_Can.f k ((allN (l1.map c91) (l2.map c94)).map (fun x : Nat => (x : Int))) (bits .andNot .i64 ((2 ^ l2.length - 1 : Nat) : Int) (b : Int)) = some (possB (l1.map c91) (l2.map c94) (bitsL b)) := by
  obtain ⟨z0, z1, z2, z3, z4, z5⟩ := z34 hck
  have h32 : 2 ^ l2.length ≤ 32 := pw32 z3
  have h1 := andNot_full_all ⟨l2.length, by omega⟩ ⟨b, by omega⟩ hb
  simp only [] at h1
  have h2 := poss_mask (l1.map c91) (l2.map c94) (by rw [List.length_map]; exact z3) b (by rw [List.length_map]; exact hb)
  rw [List.length_map] at h2
  rw [h1, Can_f k _ _ (allN_len n l1 l2 hck) hk, h2]
theorem RLeave_l0 : ∀ (d k i bm : Nat), i + d = 2 ^ l2.length → d + 2200 < k → bm < 2 ^ l2.length →
    ∃ r, r < 2 ^ l2.length ∧ pr_Leave.l0 k ((allN (l1.map c91) (l2.map c94)).map (fun x : Nat => (x : Int))) (bitsL bm) i n l1 l2 = some (bitsL r) ∧ (orderM l2.length).idxOf r ≤ (orderM l2.length).idxOf bm ∧
      (∀ b, i ≤ b → b < 2 ^ l2.length → possB (l1.map c91) (l2.map c94) (bitsL b) = true → (orderM l2.length).idxOf r ≤ (orderM l2.length).idxOf b) ∧ (r = bm ∨ possB (l1.map c91) (l2.map c94) (bitsL r) = true)
  | 0, k + 1, i, bm, hi, hk, hb => by
    obtain ⟨z0, z1, z2, z3, z4, z5⟩ := z34 hck
    refine ⟨bm, hb, ?_, Nat.le_refl _, fun b h1 h2 => by omega, Or.inl rfl⟩
    rw [pr_Leave.l0, Full_f n l1 l2 z3, Option.bind_some, if_neg (by omega)]
  | d + 1, k + 1, i, bm, hi, hk, hb => by
    obtain ⟨z0, z1, z2, z3, z4, z5⟩ := z34 hck
    have h32 : 2 ^ l2.length ≤ 32 := pw32 z3
    rw [pr_Leave.l0, Full_f n l1 l2 z3, Option.bind_some, if_pos (by omega), Bits_f k i (by omega) (by omega), Option.bind_some, Shorter_f k l2.length i bm z3 (by omega) hb (by omega), Option.bind_some, Option.bind_some, Can_mask n l1 l2 hck k i (by omega) (by omega), Option.bind_some, w1 i (by omega)]
    by_cases hs : (orderM l2.length).idxOf i < (orderM l2.length).idxOf bm
    · rw [if_pos (by simpa using hs)]
      by_cases hp : possB (l1.map c91) (l2.map c94) (bitsL i) = true
      · rw [if_pos hp]
        obtain ⟨r, r1, r2, r3, r4, r5⟩ := RLeave_l0 d k (i + 1) i (by omega) (by omega) (by omega)
        refine ⟨r, r1, r2, by omega, fun b h1 h2 h3 => ?_, Or.inr ?_⟩
        · by_cases e : b = i
          · rw [e]; exact r3
          · exact r4 b (by omega) h2 h3
        · rcases r5 with e | e
          · rw [e]; exact hp
          · exact e
      · rw [if_neg hp]
        obtain ⟨r, r1, r2, r3, r4, r5⟩ := RLeave_l0 d k (i + 1) bm (by omega) (by omega) hb
        refine ⟨r, r1, r2, r3, fun b h1 h2 h3 => ?_, r5⟩
        by_cases e : b = i
        · rw [e] at h3; exact absurd h3 hp
        · exact r4 b (by omega) h2 h3
    · rw [if_neg (by simpa using hs)]
      obtain ⟨r, r1, r2, r3, r4, r5⟩ := RLeave_l0 d k (i + 1) bm (by omega) (by omega) hb
      refine ⟨r, r1, r2, r3, fun b h1 h2 h3 => ?_, r5⟩
      by_cases e : b = i
      · rw [e]; omega
      · exact r4 b (by omega) h2 h3
/-- All sayings may be left out. -/
theorem poss_full : possB (l1.map c91) (l2.map c94) (bitsL (2 ^ l2.length - 1)) = true := by
  obtain ⟨z0, z1, z2, z3, z4, z5⟩ := z34 hck
  have hp := prodS_pos (l1.map c91) (fun e h => (z4.sizes e h).1)
  have hpn := (prodN_le hck).2
  have h32 : 1 ≤ 2 ^ l2.length ∧ 2 ^ l2.length ≤ 32 := ⟨Nat.one_le_two_pow, pw32 z3⟩
  unfold possB anyL
  rw [List.any_eq_true]
  refine ⟨_, (z48 (l1.map c91) [] _).2 ⟨0, by omega, rfl⟩, ?_⟩
  unfold rightB
  rw [decide_eq_true_eq, List.length_map]
  intro i hi
  unfold rightAt
  have hb : ∀ len : Fin 6, ∀ i : Fin 6, i.val < len.val → bitN (2 ^ len.val - 1) i.val = true := by decide +kernel
  rw [has_bits_all ⟨2 ^ l2.length - 1, by omega⟩ ⟨i, by omega⟩, hb ⟨l2.length, by omega⟩ ⟨i, by omega⟩ hi]
  rfl
theorem Leave_same (k : Nat) (hk : 3000 ≤ k) : ∃ o, leaveO (l1.map c91) (l2.map c94) = some o ∧ o.length ≤ 6 ∧ pr_Leave.f k n l1 l2 ((allN (l1.map c91) (l2.map c94)).map (fun x : Nat => (x : Int))) = some o := by
  obtain ⟨z0, z1, z2, z3, z4, z5⟩ := z34 hck
  have h32 : 1 ≤ 2 ^ l2.length ∧ 2 ^ l2.length ≤ 32 := ⟨Nat.one_le_two_pow, pw32 z3⟩
  have hf := poss_full n l1 l2 hck
  obtain ⟨r, r1, r2, r3, r4, r5⟩ := RLeave_l0 n l1 l2 hck (2 ^ l2.length) k 0 (2 ^ l2.length - 1) (by omega) (by omega) (by omega)
  have hr : possB (l1.map c91) (l2.map c94) (bitsL r) = true := by
    rcases r5 with e | e
    · rw [e]; exact hf
    · exact e
  have hL : leaveO (l1.map c91) (l2.map c94) = ((orderM l2.length).find? (fun b => possB (l1.map c91) (l2.map c94) (bitsL b))).map bitsL := by
    unfold leaveO
    rw [List.length_map, order_all ⟨l2.length, by omega⟩, List.find?_map]
    rfl
  have hmem := order_mem_all ⟨l2.length, by omega⟩ ⟨r, by omega⟩ r1
  rcases hx : (orderM l2.length).find? (fun b => possB (l1.map c91) (l2.map c94) (bitsL b)) with _ | x
  · exact absurd hr (by simpa using List.find?_eq_none.1 hx r hmem)
  · obtain ⟨x1, x2, x3⟩ := find_least _ _ _ hx
    have hxl := order_lt_all ⟨l2.length, by omega⟩ x x2
    have h1 := x3 r hmem hr
    have h2 := r4 x (by omega) hxl x1
    simp only [] at hmem x2 x3 hxl h1
    have e : r = x := idx_inj _ hmem x2 (Nat.le_antisymm h2 h1)
    refine ⟨bitsL r, by rw [hL, hx, e]; rfl, bitsL_length r, ?_⟩
    unfold pr_Leave.f
    rw [Full_f n l1 l2 z3, Option.bind_some, Bits_f k _ (by omega) (by omega), Option.bind_some]
    exact r2
theorem RFirst_l0 : ∀ (d k i : Nat), i + d = l2.length → d + 2200 < k →
    pr_First.l0 k ((allN (l1.map c91) (l2.map c94)).map (fun x : Nat => (x : Int))) i n l1 l2 = some (match (List.range' i d).find? (fun i => !possB (l1.map c91) ((l2.map c94).take (i + 1)) []) with | some i => (i : Int) | none => -1)
  | 0, k + 1, i, hi, hk => by
    rw [pr_First.l0, if_neg (by omega)]
    rfl
  | d + 1, k + 1, i, hi, hk => by
    obtain ⟨z0, z1, z2, z3, z4, z5⟩ := z34 hck
    have h2 := poss_first (l1.map c91) (l2.map c94) (by rw [List.length_map]; exact z3) i (by rw [List.length_map]; omega)
    rw [pr_First.l0, if_pos (by omega), u64_small i (by omega), if_pos (by omega), Can_f k _ _ (allN_len n l1 l2 hck) (by omega), ← h2, Option.bind_some, w1 i (by omega), List.range'_succ, List.find?_cons]
    cases possB (l1.map c91) ((l2.map c94).take (i + 1)) []
    · simp
    · simp only [if_true, Bool.not_true]
      exact RFirst_l0 d k (i + 1) (by omega) (by omega)
theorem RFirst_f (k : Nat) (hk : 3000 ≤ k) : pr_First.f k n l1 l2 ((allN (l1.map c91) (l2.map c94)).map (fun x : Nat => (x : Int))) = some (match firstO (l1.map c91) (l2.map c94) with | some i => (i : Int) | none => -1) := by
  obtain ⟨z0, z1, z2, z3, z4, z5⟩ := z34 hck
  have := RFirst_l0 n l1 l2 hck l2.length k 0 (by omega) (by omega)
  unfold firstO
  rw [List.length_map, List.range_eq_range']
  exact this
end
theorem same_l0 (l : List Int) (hl : l.length ≤ 100) : ∀ (d k i : Nat), i + d = l.length → d < k → pl_same.l0 k l l i = some true
  | 0, k + 1, i, hi, hk => by rw [pl_same.l0, if_neg (by omega)]
  | d + 1, k + 1, i, hi, hk => by
    rw [pl_same.l0, if_pos (by omega), if_pos (by omega), if_pos (by omega), if_pos rfl, w1 i (by omega)]
    exact same_l0 l hl d k (i + 1) (by omega) (by omega)
theorem same_f (k : Nat) (l : List Int) (hl : l.length ≤ 100) (hk : 200 ≤ k) : pl_same.f k l l = some true := by
  unfold pl_same.f
  rw [if_pos rfl]
  exact same_l0 l hl l.length k 0 (by omega) (by omega)
/-- The law holds at every slate. -/
theorem soapLeaves_true (n : Int) (l1 : List S91) (l2 : List S94) : pl_SoapLeaves.f 4000 n l1 l2 = some true := by
  unfold pl_SoapLeaves.f
  rw [Thin_f, Option.bind_some]
  by_cases ht : l1.length ≤ 30 ∧ l2.length ≤ 30
  · rw [if_pos (by simpa using ht), Slate_f 4000 n l1 l2 ht.1 ht.2 (by omega), Option.bind_some, soap_First.f, Option.bind_some, Option.bind_some]
    simp only []
    rw [soap_Leave.f, pl_fault.f, Fault_f 4000 n l1 l2 (by omega)]
    simp only [Option.bind_some]
    by_cases hc : checkS n (l1.map c91) (l2.map c94) = 0
    · obtain ⟨o, o1, o2, o3⟩ := Leave_same n l1 l2 hc 4000 (by omega)
      rw [if_pos hc, if_pos hc, o1, Option.map_some, Option.bind_some, if_pos hc, All_f 4000 n l1 l2 hc (by omega), Option.bind_some]
      simp only []
      rw [if_pos trivial, o3, Option.bind_some, same_f 4000 o (by omega) (by omega), Option.bind_some, pl_SoapLeaves.j0, if_neg (by simp), RFirst_f n l1 l2 hc 3999 (by omega), Option.bind_some]
      rcases hfo : firstO (l1.map c91) (l2.map c94) with _ | i
      · simp only []
        rw [if_pos (by decide)]
        simp only [if_true]
        rfl
      · simp only []
        rw [if_neg (by omega)]
        simp only [if_true]
        rfl
    · rw [if_neg hc, if_neg hc, Option.bind_some, if_neg hc]
      simp only [if_true]
      rfl
  · rw [if_neg (by simpa using ht)]
    rfl
end Go.Proofs.Ytncaadckehikpaa.Q
namespace Go.Proofs.Ytncaadckehikpaa.Q
open Go.RowKit Go.Proofs.YtncaadckehikpaaW.PrintWords Go.Proofs.YtncaadckehikpaaW.PrintLast Go.Proofs.YtncaadckehikpaaW.PrintMore
open Go.ChangeShapes Go.WideShapes Go.Deep Go.Joins
set_option linter.unusedVariables false
set_option linter.unusedSimpArgs false
theorem list2 {α : Type} {l : List α} (h : l.length = 2) : ∃ a b, l = [a, b] := by
  match l, h with
  | [a, b], _ => exact ⟨a, b, rfl⟩
theorem list3 {α : Type} {l : List α} (h : l.length = 3) : ∃ a b c, l = [a, b, c] := by
  match l, h with
  | [a, b, c], _ => exact ⟨a, b, c, rfl⟩
theorem list4 {α : Type} {l : List α} (h : l.length = 4) : ∃ a b c d, l = [a, b, c, d] := by
  match l, h with
  | [a, b, c, d], _ => exact ⟨a, b, c, d, rfl⟩
section
variable {H : Type} {enc : TypeId × Value → H} {w : World} {base : Nat} {spare : Nat → Bool} {held : Bool}
theorem cells_3 : Try.prog.cellsOf 3 = 1 := by kernel_rfl
theorem cells_46 : Try.prog.cellsOf 46 = 2 := by kernel_rfl
theorem cells_91 : Try.prog.cellsOf 91 = 4 := by kernel_rfl
theorem cells_94 : Try.prog.cellsOf 94 = 3 := by kernel_rfl
theorem cells_25 : Try.prog.cellsOf 25 = 3 := by kernel_rfl
theorem one25 : oneCellFields Try.prog #[{ name := "Women", type := 3, offset := 0, embedded := false, tag := "", pkgPath := "", byteOffset := 0 }, { name := "Entries", type := 22, offset := 1, embedded := false, tag := "", pkgPath := "", byteOffset := 8 }, { name := "Sayings", type := 23, offset := 2, embedded := false, tag := "", pkgPath := "", byteOffset := 32 }] = true := by kernel_rfl
/-- A range. -/
theorem open_46 {fuel : Nat} {cs : List Value} {x : DataW H × List MemPlace} (h : DataW.trod enc Try.prog w base spare held fuel 46 cs = some x) :
    ∃ a b : Int, cs = [.int .i64 a, .int .i64 b] := by
  obtain ⟨xs, n, _, _, hl, hlen, hf⟩ := DataW.trod_struct Try.underlying46 h
  rw [cells_46] at hl
  obtain ⟨c0, c1, rfl⟩ := list2 hl
  obtain ⟨y0, y1, rfl⟩ := list2 hlen
  have h0 := hf 0 _ rfl
  change DataW.trod enc Try.prog w base spare held n 3 (([c0, c1].drop 0).take (Try.prog.cellsOf 3)) = some y0 at h0
  rw [cells_3] at h0
  have h1 := hf 1 _ rfl
  change DataW.trod enc Try.prog w base spare held n 3 (([c0, c1].drop 1).take (Try.prog.cellsOf 3)) = some y1 at h1
  rw [cells_3] at h1
  obtain ⟨a, ha, _, _⟩ := DataW.trod_int Try.underlying3 h0
  obtain ⟨b, hb, _, _⟩ := DataW.trod_int Try.underlying3 h1
  have ha' : [c0] = _ := ha
  have hb' : [c1] = _ := hb
  simp only [List.cons.injEq, and_true] at ha' hb'
  exact ⟨a, b, by rw [ha', hb']⟩
/-- An entry. -/
theorem open_91 {fuel : Nat} {cs : List Value} {x : DataW H × List MemPlace} (h : DataW.trod enc Try.prog w base spare held fuel 91 cs = some x) :
    ∃ e : S91, cs = [.int .i64 e.f0, .int .i64 e.f1, .int .i64 e.f2.f0, .int .i64 e.f2.f1] := by
  obtain ⟨xs, n, _, _, hl, hlen, hf⟩ := DataW.trod_struct Try.underlying91 h
  rw [cells_91] at hl
  obtain ⟨c0, c1, c2, c3, rfl⟩ := list4 hl
  obtain ⟨y0, y1, y2, rfl⟩ := list3 hlen
  have h0 := hf 0 _ rfl
  change DataW.trod enc Try.prog w base spare held n 3 (([c0, c1, c2, c3].drop 0).take (Try.prog.cellsOf 3)) = some y0 at h0
  rw [cells_3] at h0
  have h1 := hf 1 _ rfl
  change DataW.trod enc Try.prog w base spare held n 3 (([c0, c1, c2, c3].drop 1).take (Try.prog.cellsOf 3)) = some y1 at h1
  rw [cells_3] at h1
  have h2 := hf 2 _ rfl
  change DataW.trod enc Try.prog w base spare held n 46 (([c0, c1, c2, c3].drop 2).take (Try.prog.cellsOf 46)) = some y2 at h2
  rw [cells_46] at h2
  obtain ⟨a, ha, _, _⟩ := DataW.trod_int Try.underlying3 h0
  obtain ⟨b, hb, _, _⟩ := DataW.trod_int Try.underlying3 h1
  obtain ⟨c, d, hc⟩ := open_46 h2
  have ha' : [c0] = _ := ha
  have hb' : [c1] = _ := hb
  have hc' : [c2, c3] = _ := hc
  simp only [List.cons.injEq, and_true] at ha' hb' hc'
  exact ⟨⟨a, b, ⟨c, d⟩⟩, by rw [ha', hb', hc'.1, hc'.2]⟩
/-- A saying. -/
theorem open_94 {fuel : Nat} {cs : List Value} {x : DataW H × List MemPlace} (h : DataW.trod enc Try.prog w base spare held fuel 94 cs = some x) :
    ∃ e : S94, cs = [.int .i64 e.f0, .int .i64 e.f1.f0, .int .i64 e.f1.f1] := by
  obtain ⟨xs, n, _, _, hl, hlen, hf⟩ := DataW.trod_struct Try.underlying94 h
  rw [cells_94] at hl
  obtain ⟨c0, c1, c2, rfl⟩ := list3 hl
  obtain ⟨y0, y1, rfl⟩ := list2 hlen
  have h0 := hf 0 _ rfl
  change DataW.trod enc Try.prog w base spare held n 3 (([c0, c1, c2].drop 0).take (Try.prog.cellsOf 3)) = some y0 at h0
  rw [cells_3] at h0
  have h1 := hf 1 _ rfl
  change DataW.trod enc Try.prog w base spare held n 46 (([c0, c1, c2].drop 1).take (Try.prog.cellsOf 46)) = some y1 at h1
  rw [cells_46] at h1
  obtain ⟨a, ha, _, _⟩ := DataW.trod_int Try.underlying3 h0
  obtain ⟨c, d, hc⟩ := open_46 h1
  have ha' : [c0] = _ := ha
  have hc' : [c1, c2] = _ := hc
  simp only [List.cons.injEq, and_true] at ha' hc'
  exact ⟨⟨a, ⟨c, d⟩⟩, by rw [ha', hc'.1, hc'.2]⟩
/-- A row whose elements open. -/
theorem open_row {α : Type} (d : Kd α) {t e : TypeId} (ht : Try.prog.underlying t = some (.slice e)) (hC : Try.prog.cellsOf e = d.sz)
    (ho : ∀ (fuel : Nat) (cs : List Value) (x : DataW H × List MemPlace), DataW.trod enc Try.prog w base spare held fuel e cs = some x → ∃ y : α, d.K w y cs)
    {fuel : Nat} {v : Value} {x : DataW H × List MemPlace} (h : DataW.trod enc Try.prog w base spare held fuel t [v] = some x) :
    ∃ (A : Option Addr) (c : Nat) (l : List α), v = .slice A l.length c ∧ Kd.C d w A l.length l ∧ l.length ≤ c := by
  rcases open_slice ht h with ⟨hcs, _⟩ | ⟨a, len, cap, m, n, D, Pl, hcs, hb, hl, hm, hmm, hx, hi⟩
  · simp only [List.cons.injEq, and_true] at hcs
    subst hcs
    exact ⟨none, 0, [], rfl, ⟨rfl, by simp, fun q => absurd q (by simp)⟩, by simp⟩
  · simp only [List.cons.injEq, and_true] at hcs
    subst hcs
    have hlm : len ≤ m := by rw [hmm]; split <;> omega
    have hcell : ∀ i : Nat, i < len → ∃ y : α, ∃ cs', w.cells? base (a.add (i * d.sz)) d.sz = some cs' ∧ d.K w y cs' := fun i hil => by
      obtain ⟨cs', h1, h2⟩ := hi i (by omega)
      rw [hC] at h1
      obtain ⟨y, hy⟩ := ho _ _ _ h2
      exact ⟨y, cs', h1, hy⟩
    have hsel : ∀ j, j ≤ len → ∃ l : List α, l.length = j ∧ ∀ (i : Nat) (y : α), l[i]? = some y → ∃ cs', w.cells? base (a.add (i * d.sz)) d.sz = some cs' ∧ d.K w y cs' := by
      intro j
      induction j with
      | zero => exact fun _ => ⟨[], rfl, fun i y hy => by simp at hy⟩
      | succ j ih =>
        intro hj
        obtain ⟨l, hll, hlr⟩ := ih (by omega)
        obtain ⟨y, cs', h1, h2⟩ := hcell j (by omega)
        refine ⟨l ++ [y], by simp [hll], fun i z hz => ?_⟩
        by_cases hij : i < j
        · rw [List.getElem?_append_left (by omega)] at hz
          exact hlr i z hz
        · rw [List.getElem?_append_right (by omega)] at hz
          have hi0 : i = j := by
            by_cases q : i - l.length = 0
            · omega
            · obtain ⟨q', hq'⟩ : ∃ q', i - l.length = q' + 1 := ⟨i - l.length - 1, by omega⟩
              rw [hq'] at hz
              simp at hz
          subst hi0
          rw [show i - l.length = 0 by omega] at hz
          simp only [List.getElem?_cons_zero, Option.some.injEq] at hz
          subst hz
          exact ⟨cs', h1, h2⟩
    obtain ⟨l, hll, hlr⟩ := hsel len (Nat.le_refl _)
    refine ⟨some a, cap, l, by rw [hll], ⟨rfl, ?_, fun _ => ⟨a, rfl, fun j p hp => ?_⟩⟩, by omega⟩
    · have : cap ≤ 9223372036854775807 := hm
      omega
    · obtain ⟨cs', h1, h2⟩ := hlr j p hp
      obtain ⟨_, hcl, hat⟩ := World.cells?_some h1
      refine ⟨cs', hcl, h2, fun i u hu => ?_⟩
      have hil : i < d.sz := by rw [← hcl]; exact (List.getElem?_eq_some_iff.1 hu).1
      rw [← Go.Deep.add_add, hat i hil, hu]
set_option maxRecDepth 100000 in
theorem open_slate {r : Reach} {b0 : Nat} {v : Value} {d : DataW H} {p : List MemPlace} (hv : Value.okWide Try.prog w r b0 25 v) (h : DataW.Trod enc Try.prog w base spare held 25 v d p) :
    ∃ (n : Int) (A1 : Option Addr) (c1 : Nat) (l1 : List S91) (A2 : Option Addr) (c2 : Nat) (l2 : List S94), v = .agg #[.int .i64 n, .slice A1 l1.length c1, .slice A2 l2.length c2] ∧
      Kd.C k91 w A1 l1.length l1 ∧ l1.length ≤ c1 ∧ Kd.C k94 w A2 l2.length l2 ∧ l2.length ≤ c2 ∧ (Lit.int .i64 n).wf = true := by
  obtain ⟨v0, v1, v2, y0, y1, y2, n, rfl, _, _, h0, h1, h2⟩ := open_agg3 Try.underlying25 one25 cells_25 hv h
  obtain ⟨a, ha, _, hwf⟩ := DataW.trod_int Try.underlying3 h0
  simp only [List.cons.injEq, and_true] at ha
  subst ha
  obtain ⟨A1, c1, l1, rfl, q1, q2⟩ := open_row k91 Try.underlying22 cells_91 (fun fuel cs x hx => by
    obtain ⟨e, rfl⟩ := open_91 hx
    exact ⟨e, k91_mk w e⟩) h1
  obtain ⟨A2, c2, l2, rfl, q3, q4⟩ := open_row k94 Try.underlying23 cells_94 (fun fuel cs x hx => by
    obtain ⟨e, rfl⟩ := open_94 hx
    exact ⟨e, k94_mk w e⟩) h2
  exact ⟨a, A1, c1, l1, A2, c2, l2, rfl, q1, q2, q3, q4, hwf⟩
end
end Go.Proofs.Ytncaadckehikpaa.Q
namespace Go.Proofs.Ytncaadckehikpaa.soapLeaves
open Go.ChangeShapes Go.WideShapes Go.ChangeAt Go.RowKit
set_option linter.unusedVariables false
theorem own : ownKnob Try.prog.godebug = none := by kernel_rfl
theorem laidOut : laidOutB Try.prog = true := by kernel_rfl
set_option maxRecDepth 100000 in
theorem lifted (os : Os) (started : os.Started) (H : Type) (enc : TypeId × Value → H) :
    ReturnsInHanded {} Try.checked os 6 .any (Rows.soapLeavesSpec.pre6 enc Try.prog Try.f6 Rows.soapLeavesRow.domain false) (Rows.soapLeavesSpec.post enc Try.prog Try.f6 false true false false) := by
  refine returnsInHanded_of_change_sized (C := Try.checked) own started (by kernel_rfl) Try.func6
    (ChangeSpec.witness6 (enc := enc) (C := Try.checked) false ⟨#[], #[.agg #[.int .i64 0, .slice none 0 0, .slice none 0 0]], []⟩ 8 (by kernel_rfl) (by kernel_rfl) (by kernel_rfl) (by kernel_rfl)) ?_
  intro W base args ds gs before hval0 hW hcnd hsz0 _
  have hval : ∀ (j : Nat) t v, Try.f6.params[j]? = some t → args[j]? = some v → Value.okWide Try.prog W .any base t v := hval0
  have hW' := hW
  obtain ⟨p, q, hA0, hV, rfl, hfz, hnd⟩ := hW
  have hA : DataW.TrodAll enc Try.prog W 0 (fun _ => true) true Try.f6.params.toList args.toList ds p := hA0
  rw [Try.params6] at hA hval
  obtain ⟨v0, vs0, d0, ds0, p0, q0, hargs, rfl, rfl, h0, r0⟩ := trodAll_cons hA
  obtain ⟨rfl, rfl, rfl⟩ := trodAll_nil r0
  obtain rfl : args = #[v0] := by cases args; simp_all
  obtain ⟨rfl, rfl⟩ := trodVars_none hV
  have k0 := h0
  have lt0 : ∀ x ∈ p0, x.block < W.heap.size := by obtain ⟨m, hm⟩ := k0; exact DataW.trod_lt m _ _ _ hm
  obtain ⟨n0, A0a, c0a, l0a, A0b, c0b, l0b, rfl, hr0a, hc0a, hr0b, hc0b, hwf0⟩ := Q.open_slate (hval 0 25 v0 rfl rfl) h0
  clear hA0 hval0 hsz0
  refine (Q.pl_SoapLeaves.calls 4000 n0 A0a c0a l0a A0b c0b l0b true W hr0a hc0a hr0b hc0b (Q.soapLeaves_true n0 l0a l0b)).mono fun e W' ⟨he, bel⟩ => ?_
  subst he
  exact ⟨_, rfl, _, _, _, [], _, [], hW', trodAll_mk1 (shut_bool Try.underlying4 _), (trodAll_cons_mk (Below.trod laidOut (by kernel_rfl) (of_decide_eq_true (by kernel_rfl)) k0 bel lt0) trodAll_mk0), rfl, bel.frame _, fun h => by cases h⟩
theorem over : Rows.soapLeavesRow.holds Try.pinned (OpenSpec.ofChange Rows.soapLeavesSpec) :=
  OpenClaim.holds_of_wide 6 Try.f6 rfl rfl rfl rfl rfl rfl rfl ⟨rfl, rfl, rfl, rfl, rfl⟩ rfl rfl rfl rfl rfl (by kernel_rfl) Try.func6 (by kernel_rfl)
    (of_decide_eq_true (by kernel_rfl)) (by unfold Func.isWrapper; first | (rw [if_pos (by decide +kernel)]; kernel_rfl) | (rw [if_neg (by decide +kernel)]; exact ⟨rfl, rfl⟩))
    (fun os started H enc _ => lifted os started H enc)
end Go.Proofs.Ytncaadckehikpaa.soapLeaves
namespace Go.Proofs.Ytncaadckehikpaa
/-- The statement. -/
theorem soapLeaves_holds : Rows.SoapLeavesSaid := soapLeaves.over
end Go.Proofs.Ytncaadckehikpaa
