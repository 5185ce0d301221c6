/- A part of the proof: contracts of functions and plain facts (HRef2, HRef3, Q1, HPossible, HFirst). No condition. -/
import Derived.Test.YtncaadckehikpaaM18
import Derived.Test.YtncaadckehikpaaM8
import Derived.Test.YtncaadckehikpaaM23
import Derived.Test.YtncaadckehikpaaM24
import Derived.Test.YtncaadckehikpaaM22
import Derived.Test.YtncaadckehikpaaM3
import Derived.Test.YtncaadckehikpaaM19
namespace Go.Proofs.Ytncaadckehikpaa.Q
open Go.RowKit Go.Proofs.YtncaadckehikpaaW.PrintWords Go.Proofs.YtncaadckehikpaaW.PrintLast Go.Proofs.YtncaadckehikpaaW.PrintMore
set_option linter.unusedVariables false
set_option linter.unusedSimpArgs false
theorem z34 {n : Int} {l1 : List S91} {l2 : List S94} (h : checkS n (l1.map c91) (l2.map c94) = 0) : 0 ≤ n ∧ n ≤ 6 ∧ l1.length ≤ 6 ∧ l2.length ≤ 5 ∧ EntOk n l1 ∧ prodS (l1.map c91) ≤ 2000 := by
  obtain ⟨z0, z1, z2, z3, z4, z5, z6⟩ := z30 h
  rw [List.length_map] at z2 z3
  have he : EntOk n l1 := fun e he => List.all_eq_true.1 z4 e he
  rw [manyS_eq _ (fun e h => (he.sizes e h).1)] at z6
  refine ⟨z0, z1, z2, z3, he, ?_⟩
  unfold mn at z6
  split at z6 <;> omega
/-- Ounces of at most 40. -/
def Small (l : List S122) (os : List Int) : Prop := os.length = l.length ∧ ∀ i : Int, 0 ≤ i → i < l.length → 0 ≤ rd os i ∧ rd os i ≤ 40
theorem owedTo_step (l : List S122) (os : List Int) (i : Nat) (w : Int) (h0 : 0 ≤ (rd_T122 l i).f0) (h1 : (rd_T122 l i).f0 < 6) (h2 : 0 ≤ (rd_T122 l i).f1) (h3 : (rd_T122 l i).f1 < 6) (hne : (rd_T122 l i).f0 ≠ (rd_T122 l i).f1) (hw : 0 ≤ w) (hw6 : w < 6) :
    rd (owedTo l os (i + 1)) w = if (rd_T122 l i).f0 = w then rd (owedTo l os i) w + rd os i else if (rd_T122 l i).f1 = w then rd (owedTo l os i) w - rd os i else rd (owedTo l os i) w := by
  simp only [owedTo]
  have hl := z40 l os i
  rw [rd_upd _ _ _ _ h2 (by rw [z48, hl]; omega) hw]
  by_cases a : w = (rd_T122 l i).f1
  · rw [if_pos a, if_neg (show ¬ (rd_T122 l i).f0 = w by omega), if_pos a.symm, rd_upd _ _ _ _ h0 (by rw [hl]; omega) h2, if_neg (by omega), a]
  · rw [if_neg a, rd_upd _ _ _ _ h0 (by rw [hl]; omega) hw]
    by_cases b : w = (rd_T122 l i).f0
    · rw [if_pos b, if_pos b.symm, b]
    · rw [if_neg b, if_neg (fun h => b h.symm), if_neg (fun h => a h.symm)]
theorem Owed_l0 (n : Int) (l1 : List S91) (l2 : List S94) (os : List Int) (w : Int) (hck : checkS n (l1.map c91) (l2.map c94) = 0) (ho : Small (l1.map c91) os) (hw : 0 ≤ w) (hw6 : w < 6) :
    ∀ (d k i : Nat), i + d = l1.length → d < k → pr_Owed.l0 k os w (rd (owedTo (l1.map c91) os i) w) i n l1 l2 = some (rd (owedL (l1.map c91) os) w)
  | 0, k + 1, i, hi, hk => by
    have hl : (l1.map c91).length = i := by rw [List.length_map]; omega
    rw [pr_Owed.l0, if_neg (by omega), owedL, hl]
  | d + 1, k + 1, i, hi, hk => by
    have hn : i < l1.length := by omega
    obtain ⟨z0, z1, z2, z3, z4, z5⟩ := z34 hck
    have he := z49 hck (i : Int) (by omega) (by rw [List.length_map]; omega)
    have hol := ho.1
    rw [List.length_map] at hol
    have hb := owedTo_bd (l1.map c91) os ho.2 i (by rw [List.length_map]; omega) w
    have hr := ho.2 (i : Int) (by omega) (by rw [List.length_map]; omega)
    have hst := owedTo_step (l1.map c91) os i w (by omega) (by omega) (by omega) (by omega) he.2.2.2.2.1 hw hw6
    have ih := Owed_l0 n l1 l2 os w hck ho hw hw6 d k (i + 1) (by omega) (by omega)
    rw [hst] at ih
    rw [rd_map91 l1 i hn] at ih he
    rw [pr_Owed.l0, if_pos (by omega), if_pos (by omega), w1 i (by omega)]
    have e0 : (c91 (rd_T91 l1 (i : Int))).f0 = (rd_T91 l1 (i : Int)).f0 := rfl
    have e1 : (c91 (rd_T91 l1 (i : Int))).f1 = (rd_T91 l1 (i : Int)).f1 := rfl
    rw [e0, e1] at ih
    rw [e0, e1] at he
    by_cases a : (rd_T91 l1 (i : Int)).f0 = w
    · rw [if_pos a, if_pos (by omega), if_neg (show ¬ (rd_T91 l1 (i : Int)).f1 = w by omega), show ∀ x y : Int, -1000 ≤ x → x ≤ 1000 → 0 ≤ y → y ≤ 40 → wrap64 (x + y) = x + y by intro x y q1 q2 q3 q4; unfold wrap64; omega]
      · rw [if_pos a] at ih; exact ih
      all_goals omega
    · rw [if_neg a] at ih ⊢
      by_cases b : (rd_T91 l1 (i : Int)).f1 = w
      · rw [if_pos b] at ih
        rw [if_pos b, if_pos (by omega), show ∀ x y : Int, -1000 ≤ x → x ≤ 1000 → 0 ≤ y → y ≤ 40 → wrap64 (x - y) = x - y by intro x y q1 q2 q3 q4; unfold wrap64; omega]
        · exact ih
        all_goals omega
      · rw [if_neg b] at ih ⊢
        exact ih
/-- What the reference says a woman is owed. -/
theorem Owed_f (k : Nat) (n : Int) (l1 : List S91) (l2 : List S94) (os : List Int) (w : Int) (hck : checkS n (l1.map c91) (l2.map c94) = 0) (ho : Small (l1.map c91) os) (hw : 0 ≤ w) (hw6 : w < 6) (hk : 7 ≤ k) :
    pr_Owed.f k n l1 l2 os w = some (rd (owedL (l1.map c91) os) w) := by
  have hl := (z34 hck).2.2.1
  have := Owed_l0 n l1 l2 os w hck ho hw hw6 l1.length k 0 (by omega) (by omega)
  have h0 : rd (owedTo (l1.map c91) os 0) w = 0 := by
    obtain ⟨m, rfl⟩ : ∃ m : Nat, w = m := ⟨w.toNat, by omega⟩
    unfold rd owedTo
    rw [Int.toNat_natCast]
    rcases m with _ | _ | _ | _ | _ | _ | m <;> simp [List.getD]
  rw [h0] at this
  exact this
/-- The first sayings that are right, by bits. -/
def rightTo (l2 : List S124) (v : List Int) : Nat → Nat
  | 0 => 0
  | i + 1 => rightTo l2 v i + (if rightAt l2 v [] i = true then 2 ^ i else 0)
theorem rightTo_lt (l2 : List S124) (v : List Int) : ∀ i, rightTo l2 v i < 2 ^ i
  | 0 => by simp [rightTo]
  | i + 1 => by
    have := rightTo_lt l2 v i
    have h2 : 2 ^ (i + 1) = 2 ^ i + 2 ^ i := by rw [Nat.pow_succ]; omega
    rw [rightTo, h2]
    split <;> omega
theorem rightTo_all (l2 : List S124) (v : List Int) : ∀ i, rightTo l2 v i = 2 ^ i - 1 ↔ ∀ j, j < i → rightAt l2 v [] j = true
  | 0 => by simp [rightTo]
  | i + 1 => by
    have h1 := rightTo_lt l2 v i
    have h2 : 2 ^ (i + 1) = 2 ^ i + 2 ^ i := by rw [Nat.pow_succ]; omega
    have ih := rightTo_all l2 v i
    rw [rightTo, h2]
    constructor
    · intro h j hj
      by_cases a : rightAt l2 v [] i = true
      · rw [if_pos a] at h
        rcases Nat.lt_succ_iff_lt_or_eq.1 hj with q | q
        · exact ih.1 (by omega) j q
        · rw [q]; exact a
      · rw [if_neg a] at h
        omega
    · intro h
      have := ih.2 (fun j hj => h j (by omega))
      rw [if_pos (h i (by omega))]
      omega
/-- The sayings that are right, by bits. -/
def rightN (l2 : List S124) (v : List Int) : Nat := rightTo l2 v l2.length
theorem rightN_all (l2 : List S124) (v : List Int) : rightN l2 v = 2 ^ l2.length - 1 ↔ rightB l2 v [] = true := by
  unfold rightN rightB
  rw [rightTo_all, decide_eq_true_eq]
theorem u64_all : ∀ i : Fin 6, IntKind.u64.wrap ((i.val : Nat) : Int) = ((i.val : Nat) : Int) := by decide +kernel
theorem u64_small (i : Nat) (h : i < 6) : IntKind.u64.wrap ((i : Nat) : Int) = ((i : Nat) : Int) := u64_all ⟨i, h⟩
theorem shl_all : ∀ i : Fin 6, shl .i64 1 ((i.val : Nat) : Int) = wrap64 (2 ^ i.val) := by decide +kernel
theorem shlS6 (i : Nat) (h : i < 6) : shl .i64 1 ((i : Nat) : Int) = wrap64 (2 ^ i) := shl_all ⟨i, h⟩
theorem full_all : ∀ i : Fin 6, wrap64 (wrap64 (2 ^ i.val) - 1) = ((2 ^ i.val - 1 : Nat) : Int) := by decide +kernel
theorem full_small (i : Nat) (h : i < 6) : wrap64 (wrap64 (2 ^ i) - 1) = ((2 ^ i - 1 : Nat) : Int) := full_all ⟨i, h⟩
theorem Right_l0 (n : Int) (l1 : List S91) (l2 : List S94) (os : List Int) (hck : checkS n (l1.map c91) (l2.map c94) = 0) (ho : Small (l1.map c91) os) :
    ∀ (d k i : Nat), i + d = l2.length → d + 7 < k → pr_Right.l0 k os (rightTo (l2.map c94) (owedL (l1.map c91) os) i : Nat) i n l1 l2 = some ((rightN (l2.map c94) (owedL (l1.map c91) os) : Nat) : Int)
  | 0, k + 1, i, hi, hk => by
    have hl : (l2.map c94).length = i := by rw [List.length_map]; omega
    rw [pr_Right.l0, if_neg (by omega), rightN, hl]
  | d + 1, k + 1, i, hi, hk => by
    have hn : i < l2.length := by omega
    obtain ⟨z0, z1, z2, z3, z4, z5⟩ := z34 hck
    have he := saying_in hck (i : Int) (by omega) (by rw [List.length_map]; omega)
    have ih := Right_l0 n l1 l2 os hck ho d k (i + 1) (by omega) (by omega)
    have hb := rightTo_lt (l2.map c94) (owedL (l1.map c91) os) i
    rw [rightTo, rightAt, rd_map94 l2 i hn] at ih
    rw [rd_map94 l2 i hn] at he
    rw [pr_Right.l0, if_pos (by omega), if_pos (by omega), w1 i (by omega)]
    have e0 : (c94 (rd_T94 l2 (i : Int))).f0 = (rd_T94 l2 (i : Int)).f0 := rfl
    have e1 : (c94 (rd_T94 l2 (i : Int))).f1.f0 = (rd_T94 l2 (i : Int)).f1.f0 := rfl
    have e2 : (c94 (rd_T94 l2 (i : Int))).f1.f1 = (rd_T94 l2 (i : Int)).f1.f1 := rfl
    rw [e0, e1, e2] at ih he
    rw [Owed_f k n l1 l2 os _ hck ho (by omega) (by omega) (by omega), Option.bind_some]
    have his : pr_Is.f (rd (owedL (l1.map c91) os) (rd_T94 l2 (i : Int)).f0) (rd_T94 l2 (i : Int)).f1.f0 (rd_T94 l2 (i : Int)).f1.f1 =
        some (decide ((rd_T94 l2 (i : Int)).f1.f0 ≤ rd (owedL (l1.map c91) os) (rd_T94 l2 (i : Int)).f0) && decide (rd (owedL (l1.map c91) os) (rd_T94 l2 (i : Int)).f0 ≤ (rd_T94 l2 (i : Int)).f1.f1)) := by
      unfold pr_Is.f pr_In.f
      by_cases a : rd (owedL (l1.map c91) os) (rd_T94 l2 (i : Int)).f0 ≥ (rd_T94 l2 (i : Int)).f1.f0
      · rw [if_pos a]; simp [show (rd_T94 l2 (i : Int)).f1.f0 ≤ rd (owedL (l1.map c91) os) (rd_T94 l2 (i : Int)).f0 from a]
      · rw [if_neg a]; simp [show ¬ (rd_T94 l2 (i : Int)).f1.f0 ≤ rd (owedL (l1.map c91) os) (rd_T94 l2 (i : Int)).f0 from a]
    rw [his, Option.bind_some]
    rw [show hasB [] ((i : Nat) : Int) = false from rfl, Bool.false_or] at ih
    rw [u64_small i (by omega)]
    have hs := shlS6 i (by omega)
    rw [hs, if_pos (show (0 : Int) ≤ ((i : Nat) : Int) by omega), or_bit _ i (by omega) hb]
    cases hc : (decide ((rd_T94 l2 (i : Int)).f1.f0 ≤ rd (owedL (l1.map c91) os) (rd_T94 l2 (i : Int)).f0) && decide (rd (owedL (l1.map c91) os) (rd_T94 l2 (i : Int)).f0 ≤ (rd_T94 l2 (i : Int)).f1.f1))
    · rw [hc, if_neg (by simp)] at ih
      rw [if_neg (by simp)]
      exact ih
    · rw [hc, if_pos rfl] at ih
      rw [if_pos rfl]
      exact ih
theorem Right_f (k : Nat) (n : Int) (l1 : List S91) (l2 : List S94) (os : List Int) (hck : checkS n (l1.map c91) (l2.map c94) = 0) (ho : Small (l1.map c91) os) (hk : 20 ≤ k) :
    pr_Right.f k n l1 l2 os = some ((rightN (l2.map c94) (owedL (l1.map c91) os) : Nat) : Int) := by
  have hl := (z34 hck).2.2.2.1
  exact Right_l0 n l1 l2 os hck ho l2.length k 0 (by omega) (by omega)
theorem Full_f (n : Int) (l1 : List S91) (l2 : List S94) (h : l2.length ≤ 5) : pr_Full.f n l1 l2 = some ((2 ^ l2.length - 1 : Nat) : Int) := by
  unfold pr_Full.f
  rw [u64_small _ (by omega), if_pos (by omega), shlS6 _ (by omega), full_small _ (by omega)]
end Go.Proofs.Ytncaadckehikpaa.Q
namespace Go.Proofs.Ytncaadckehikpaa.Q
open Go.RowKit Go.Proofs.YtncaadckehikpaaW.PrintWords Go.Proofs.YtncaadckehikpaaW.PrintLast Go.Proofs.YtncaadckehikpaaW.PrintMore
set_option linter.unusedVariables false
set_option linter.unusedSimpArgs false
/-- The reference's truths. -/
def truthsR (l1 : List S122) (l2 : List S124) : List (List Int) := ((List.range (prodN l1)).map (nthS l1)).filter (fun os => rightB l2 (owedL l1 os) [])
theorem small_nth {n : Int} {l1 : List S122} {l2 : List S124} (hck : checkS n l1 l2 = 0) (m : Nat) (hm : m < prodN l1) : Small l1 (nthS l1 m) := by
  have h := enumO_fit l1 l1 [] rfl (by simp) (fun j h0 h1 => absurd h1 (by simp; omega)) (nthS l1 m) ((mem_enumO l1 [] _).2 ⟨m, hm, by simp⟩)
  refine ⟨h.1, fun i h0 h1 => ?_⟩
  have h2 := h.2 i h0 h1
  have h3 := z49 hck i h0 h1
  omega
theorem prodN_le {n : Int} {l1 : List S91} {l2 : List S94} (hck : checkS n (l1.map c91) (l2.map c94) = 0) : prodN (l1.map c91) ≤ 2000 ∧ ((prodN (l1.map c91) : Nat) : Int) = prodS (l1.map c91) := by
  obtain ⟨z0, z1, z2, z3, z4, z5⟩ := z34 hck
  have := prodN_eq (l1.map c91) (fun e h => (z4.sizes e h).1)
  omega
theorem Many_f0 (k : Nat) (n : Int) (l1 : List S91) (l2 : List S94) (hck : checkS n (l1.map c91) (l2.map c94) = 0) (hk : 7 ≤ k) : pr_Many.f k n l1 l2 = some ((prodN (l1.map c91) : Nat) : Int) := by
  obtain ⟨z0, z1, z2, z3, z4, z5⟩ := z34 hck
  rw [Many_f k n l1 l2 z2 z4.sizes hk, (prodN_le hck).2]
  refine congrArg some ?_
  unfold mn
  rw [if_neg (by omega)]
theorem Truths_l0 (n : Int) (l1 : List S91) (l2 : List S94) (hck : checkS n (l1.map c91) (l2.map c94) = 0) : ∀ (d k i : Nat) (acc : List (List Int)), i + d = prodN (l1.map c91) → d + 30 < k → acc.length ≤ i →
    pr_Truths.l0 k acc i n l1 l2 = some (acc ++ ((List.range' i d).map (nthS (l1.map c91))).filter (fun os => rightB (l2.map c94) (owedL (l1.map c91) os) []))
  | 0, k + 1, i, acc, hi, hk, ha => by
    rw [pr_Truths.l0, Many_f0 k n l1 l2 hck (by omega), Option.bind_some, if_neg (by omega)]
    simp
  | d + 1, k + 1, i, acc, hi, hk, ha => by
    obtain ⟨z0, z1, z2, z3, z4, z5⟩ := z34 hck
    have hp := (prodN_le hck).1
    have hs := small_nth hck i (by omega)
    rw [pr_Truths.l0, Many_f0 k n l1 l2 hck (by omega), Option.bind_some, if_pos (by omega), Nth_f k n l1 l2 i z2 z4 (by omega) (by omega), Option.bind_some, Right_f k n l1 l2 _ hck hs (by omega), Option.bind_some,
      Full_f n l1 l2 z3, Option.bind_some, w1 i (by omega), if_pos (show acc.length < 5864062014805 by omega), List.range'_succ, List.map_cons, List.filter_cons]
    have hr := rightN_all (l2.map c94) (owedL (l1.map c91) (nthS (l1.map c91) i))
    rw [List.length_map] at hr
    by_cases h : rightB (l2.map c94) (owedL (l1.map c91) (nthS (l1.map c91) i)) [] = true
    · rw [if_pos (by rw [hr.2 h]), Truths_l0 n l1 l2 hck d k (i + 1) _ (by omega) (by omega) (by simp; omega), if_pos h, List.append_assoc]
      rfl
    · rw [if_neg (fun q => h (hr.1 (by exact_mod_cast q))), Truths_l0 n l1 l2 hck d k (i + 1) _ (by omega) (by omega) (by omega), if_neg h]
theorem Truths_f (k : Nat) (n : Int) (l1 : List S91) (l2 : List S94) (hck : checkS n (l1.map c91) (l2.map c94) = 0) (hk : 3000 ≤ k) : pr_Truths.f k n l1 l2 = some (truthsR (l1.map c91) (l2.map c94)) := by
  have hp := (prodN_le hck).1
  have := Truths_l0 n l1 l2 hck (prodN (l1.map c91)) k 0 [] (by omega) (by omega) (by simp)
  rw [List.nil_append] at this
  rw [truthsR, List.range_eq_range']
  exact this
theorem mem_ask (l1 : List S122) (l2 : List S124) (v : List Int) : ∀ (oss acc : List (List Int)), v ∈ oss.foldl (askStep l1 l2) acc ↔ v ∈ acc ∨ ∃ os ∈ oss, rightB l2 (owedL l1 os) [] = true ∧ v = owedL l1 os
  | [], acc => by simp
  | o :: r, acc => by
    rw [List.foldl_cons, mem_ask l1 l2 v r]
    have h : v ∈ askStep l1 l2 acc o ↔ v ∈ acc ∨ (rightB l2 (owedL l1 o) [] = true ∧ v = owedL l1 o) := by
      unfold askStep
      by_cases h : rightB l2 (owedL l1 o) [] = true
      · by_cases h2 : acc.getLast? = some (owedL l1 o)
        · rw [if_neg (fun q => q.2 h2)]
          exact ⟨Or.inl, fun q => q.elim id (fun q => q.2 ▸ List.mem_of_getLast? h2)⟩
        · rw [if_pos ⟨h, h2⟩]
          simp [h]
      · rw [if_neg (fun q => h q.1)]
        simp [h]
    rw [h]
    constructor
    · rintro ((h | h) | ⟨os, h1, h2⟩)
      · exact Or.inl h
      · exact Or.inr ⟨o, by simp, h⟩
      · exact Or.inr ⟨os, by simp [h1], h2⟩
    · rintro (h | ⟨os, h1, h2⟩)
      · exact Or.inl (Or.inl h)
      · rcases List.mem_cons.1 h1 with rfl | h1
        · exact Or.inl (Or.inr h2)
        · exact Or.inr ⟨os, h1, h2⟩
theorem mem_truthsR (l1 : List S122) (l2 : List S124) (os : List Int) : os ∈ truthsR l1 l2 ↔ os ∈ enumO [] l1 ∧ rightB l2 (owedL l1 os) [] = true := by
  unfold truthsR
  rw [List.mem_filter, mem_enumO]
  refine and_congr ?_ Iff.rfl
  simp only [List.mem_map, List.mem_range, List.nil_append]
  exact ⟨fun ⟨m, h, e⟩ => ⟨m, h, e.symm⟩, fun ⟨m, h, e⟩ => ⟨m, h, e.symm⟩⟩
/-- The program's vectors are those of the reference's truths. -/
theorem mem_truthsL (l1 : List S122) (l2 : List S124) (v : List Int) : v ∈ truthsL l1 l2 ↔ ∃ os ∈ truthsR l1 l2, v = owedL l1 os := by
  unfold truthsL askedL
  rw [mem_ask]
  simp only [List.not_mem_nil, false_or, mem_truthsR]
  exact ⟨fun ⟨os, h1, h2, h3⟩ => ⟨os, ⟨h1, h2⟩, h3⟩, fun ⟨os, ⟨h1, h2⟩, h3⟩ => ⟨os, h1, h2, h3⟩⟩
theorem truthsL_nil (l1 : List S122) (l2 : List S124) : truthsL l1 l2 = [] ↔ truthsR l1 l2 = [] := by
  rw [List.eq_nil_iff_forall_not_mem, List.eq_nil_iff_forall_not_mem]
  constructor
  · intro h os ho
    exact h _ ((mem_truthsL l1 l2 _).2 ⟨os, ho, rfl⟩)
  · intro h v hv
    obtain ⟨os, ho, _⟩ := (mem_truthsL l1 l2 v).1 hv
    exact h os ho
theorem small_truths {n : Int} {l1 : List S122} {l2 : List S124} (hck : checkS n l1 l2 = 0) : ∀ os ∈ truthsR l1 l2, Small l1 os := by
  intro os ho
  obtain ⟨m, hm, rfl⟩ := (mem_enumO l1 [] os).1 ((mem_truthsR l1 l2 os).1 ho).1
  exact small_nth hck m hm
/-- Bounds of numbers: the ends are among them. -/
theorem bnd_fold : ∀ (r : List Int) (b : Int × Int) (P : Int → Prop), P b.1 → P b.2 → (∀ x, P x → b.1 ≤ x ∧ x ≤ b.2) →
    (P (r.foldl (fun b y => (mn b.1 y, mx b.2 y)) b).1 ∨ (r.foldl (fun b y => (mn b.1 y, mx b.2 y)) b).1 ∈ r) ∧ (P (r.foldl (fun b y => (mn b.1 y, mx b.2 y)) b).2 ∨ (r.foldl (fun b y => (mn b.1 y, mx b.2 y)) b).2 ∈ r) ∧
      ∀ x, P x ∨ x ∈ r → (r.foldl (fun b y => (mn b.1 y, mx b.2 y)) b).1 ≤ x ∧ x ≤ (r.foldl (fun b y => (mn b.1 y, mx b.2 y)) b).2
  | [], b, P, h1, h2, h3 => ⟨Or.inl h1, Or.inl h2, fun x h => h3 x (h.elim id (fun q => absurd q (by simp)))⟩
  | y :: r, b, P, h1, h2, h3 => by
    have h := bnd_fold r (mn b.1 y, mx b.2 y) (fun x => P x ∨ x = y) (by unfold mn; simp only; split <;> simp [h1]) (by unfold mx; simp only; split <;> simp [h2]) (by
      intro x hx
      rcases hx with hx | hx
      · have := h3 x hx
        unfold mn mx
        simp only
        constructor <;> split <;> omega
      · unfold mn mx
        simp only
        constructor <;> split <;> omega)
    rw [List.foldl_cons]
    refine ⟨?_, ?_, fun x hx => h.2.2 x ?_⟩
    · rcases h.1 with (q | q) | q
      · exact Or.inl q
      · exact Or.inr (by rw [q]; simp)
      · exact Or.inr (List.mem_cons_of_mem _ q)
    · rcases h.2.1 with (q | q) | q
      · exact Or.inl q
      · exact Or.inr (by rw [q]; simp)
      · exact Or.inr (List.mem_cons_of_mem _ q)
    · rcases hx with hx | hx
      · exact Or.inl (Or.inl hx)
      · rcases List.mem_cons.1 hx with hx | hx
        · exact Or.inl (Or.inr hx)
        · exact Or.inr hx
theorem bnd_spec (xs : List Int) (h : xs ≠ []) : (bndL xs).1 ∈ xs ∧ (bndL xs).2 ∈ xs ∧ ∀ x ∈ xs, (bndL xs).1 ≤ x ∧ x ≤ (bndL xs).2 := by
  cases xs with
  | nil => exact absurd rfl h
  | cons x r =>
    have := bnd_fold r (x, x) (fun y => y = x) rfl rfl (fun y hy => by subst hy; simp)
    simp only [bndL]
    refine ⟨?_, ?_, fun y hy => this.2.2 y (List.mem_cons.1 hy)⟩
    · exact List.mem_cons.2 this.1
    · exact List.mem_cons.2 this.2.1
theorem rdL4 (xs : List (List Int)) (i : Nat) (h : i < xs.length) : rd_L4 xs (i : Int) = xs[i] := getD_of xs _ i h
section
variable (n : Int) (l1 : List S91) (l2 : List S94) (oss : List (List Int)) (w : Int) (hck : checkS n (l1.map c91) (l2.map c94) = 0) (ho : ∀ os ∈ oss, Small (l1.map c91) os) (hl : oss.length ≤ 2000) (hw : 0 ≤ w) (hw6 : w < 6)
include hck ho hl hw hw6
end
end Go.Proofs.Ytncaadckehikpaa.Q
namespace Go.Proofs.Ytncaadckehikpaa.Q
open Go.RowKit Go.Proofs.YtncaadckehikpaaW.PrintWords Go.Proofs.YtncaadckehikpaaW.PrintLast Go.Proofs.YtncaadckehikpaaW.PrintMore
attribute [local go_sem] z32 z31 max_two min_two   -- for this text's walks alone
set_option linter.unusedVariables false
set_option linter.unusedSimpArgs false
end Go.Proofs.Ytncaadckehikpaa.Q
namespace Go.Proofs.Ytncaadckehikpaa.Q
open Go.RowKit Go.Proofs.YtncaadckehikpaaW.PrintWords Go.Proofs.YtncaadckehikpaaW.PrintLast Go.Proofs.YtncaadckehikpaaW.PrintMore
set_option linter.unusedVariables false
set_option linter.unusedSimpArgs false
attribute [local go_sem] Oper.semAt_some
/-- Whether some of the ounces make all sayings right. -/
def anyL (l1 : List S122) (l2 : List S124) (out : List Int) (oss : List (List Int)) : Bool := oss.any (fun os => rightB l2 (owedL l1 os) out)
def possB (l1 : List S122) (l2 : List S124) (out : List Int) : Bool := anyL l1 l2 out (enumO [] l1)
/-- What holds between two rounds, and behind the loop. -/
structure PossI (w0 : World) (tb ob rb : Nat) (n : Int) (A1 : Option Addr) (c1 : Nat) (l1 : List S122) (A2 : Option Addr) (c2 : Nat) (l2 : List S124) (A3 : Option Addr) (m3 c3 : Nat) (r : Bool) (W : World) : Prop where
  below : Below w0.heap.size w0 W
  tb : W.heap[tb]? = some (.cells #[.int .i64 n, .slice A1 l1.length c1, .slice A2 l2.length c2] 35 (0, 0))
  ob : W.heap[ob]? = some (.cells #[.slice A3 m3 c3] 37 (0, 0))
  rb : W.heap[rb]? = some (.cells #[.bool r] 4 (0, 0))
theorem PossI.zone {w0 : World} {tb ob rb B : Nat} {n : Int} {A1 : Option Addr} {c1 : Nat} {l1 : List S122} {A2 : Option Addr} {c2 : Nat} {l2 : List S124} {A3 : Option Addr} {m3 c3 : Nat} {r : Bool} {W W' : World}
    (h : PossI w0 tb ob rb n A1 c1 l1 A2 c2 l2 A3 m3 c3 r W) (hz : Zone6 B W W') (h0 : w0.heap.size ≤ B) (h1 : tb < B) (h2 : ob < B) (h3 : rb < B) : PossI w0 tb ob rb n A1 c1 l1 A2 c2 l2 A3 m3 c3 r W' :=
  ⟨⟨hz.os.trans h.below.os, hz.tape.trans h.below.tape, hz.output.trans h.below.output, Nat.le_trans h.below.size hz.size, fun k hk => (hz.block k (by have := h.below.size; omega) (by omega)).trans (h.below.block k hk)⟩,
   (hz.block _ (z25 h.tb) (by omega)).trans h.tb, (hz.block _ (z25 h.ob) (by omega)).trans h.ob, (hz.block _ (z25 h.rb) (by omega)).trans h.rb⟩
set_option maxHeartbeats 4000000 in
set_option maxRecDepth 100000 in
theorem possible_calls (n : Int) (A1 : Option Addr) (c1 : Nat) (l1 : List S122) (A2 : Option Addr) (c2 : Nat) (l2 : List S124) (A3 : Option Addr) (c3 : Nat) (out : List Int) (w : World) (hck : checkS n l1 l2 = 0)
    (hr1 : Kd.C k122 w A1 l1.length l1) (hc1 : l1.length ≤ c1) (hr2 : Kd.C k124 w A2 l2.length l2) (hc2 : l2.length ≤ c2) (hr3 : Kd.C (Kd.int .i64) w A3 out.length out) (hc3 : out.length ≤ c3) (hout : (out.length : Int) ≤ 140737488355328) :
    Calls Try.prog 84 #[.agg #[.int .i64 n, .slice A1 l1.length c1, .slice A2 l2.length c2], .slice A3 out.length c3] w fun e w' => e = .returned (.bool (possB l1 l2 out)) ∧ Below w.heap.size w w' := by
  have hu35 := Try.underlying35
  have hu128 := Try.underlying128
  obtain ⟨wa, hwa⟩ : ∃ wa, ((w.alloc (.cells #[.int .i64 n, .slice A1 l1.length c1, .slice A2 l2.length c2] 35)).alloc (.cells #[.slice A3 out.length c3] 37)).alloc (.cells #[.bool false] 4) = wa := ⟨_, rfl⟩
  have hwz : wa.heap.size = w.heap.size + 3 := by rw [← hwa]; simp
  have hbw : Below w.heap.size w wa := by rw [← hwa]; exact z11 (z11 (z11 (Below.refl _ _) _) _) _
  have HPA := mkA (show PossI w w.heap.size (w.heap.size + 1) (w.heap.size + 2) n A1 c1 l1 A2 c2 l2 A3 out.length c3 false wa from by
    refine ⟨hbw, ?_, ?_, ?_⟩
    · rw [← hwa]; exact blk_below (z21 w _) (z11 (z11 (Below.refl _ _) _) _)
    · rw [← hwa]; exact blk_below (by simpa using z21 (w.alloc _) (.cells #[.slice A3 out.length c3] 37)) (z11 (Below.refl _ _) _)
    · rw [← hwa]; simpa using z21 ((w.alloc _).alloc _) (.cells #[.bool false] 4))
  have HR1 := mkA hr1
  have HR2 := mkA hr2
  have HR3 := mkA hr3
  have HZ := mkA hck
  have hs0 : wa.cell? ⟨w.heap.size, 0, none⟩ = some (.int .i64 n) := (z13 HPA.out.tb 0).trans rfl
  have hs1 : wa.cell? ⟨w.heap.size, 1, none⟩ = some (.slice A1 l1.length c1) := (z13 HPA.out.tb 1).trans rfl
  have hs2 : wa.cell? ⟨w.heap.size, 2, none⟩ = some (.slice A2 l2.length c2) := (z13 HPA.out.tb 2).trans rfl
  clear hr1 hr2 hr3 hck hbw
  refine (callsIn_wide (n := 4)).1 ?_
  refine callsIn_of_wp_marks Try.func84 rfl trivial ?_ rfl
  simp only [Try.ntmps84, List.size_toArray, List.length_cons, List.length_nil, Nat.reduceAdd, Nat.reduceSub, Array.replicate_succ, Array.replicate_zero, List.push_toArray, List.append_toArray, List.nil_append, List.cons_append]
  gi_wp2_with fail
  refine ⟨trivial, ?_⟩
  refine (callsIn_wide.2 (ounces_calls _ _ _ _ _ _ _ _)).mono ?_
  rintro e w2 ⟨rfl, hw2⟩
  clear hwa hs0 hs1 hs2
  have hz2 : w2.heap.size = w.heap.size + 4 := by rw [hw2]; simp [hwz]
  have HI2 := mkA (show PossI w w.heap.size (w.heap.size + 1) (w.heap.size + 2) n A1 c1 l1 A2 c2 l2 A3 out.length c3 false w2 from by
    rw [hw2]
    have hb := z11 (Below.refl wa.heap.size wa) (.cells #[.int .i64 n, .slice A1 l1.length c1, .slice A2 l2.length c2] 35)
    exact ⟨z17 HPA.out.below hb, blk_below HPA.out.tb hb, blk_below HPA.out.ob hb, blk_below HPA.out.rb hb⟩)
  have HBS := mkA (show w2.heap[wa.heap.size]? = some (.cells #[.int .i64 n, .slice A1 l1.length c1, .slice A2 l2.length c2] 35 (0, 0)) from by rw [hw2]; exact z21 wa _)
  clear hw2 HPA
  gi_wp2_with fail
  refine range_ounces w (w.heap.size + 3) n A1 c1 l1 A2 c2 l2 HZ.out HR1.out hc1 rfl HI2.out.below (by rw [← hwz]; exact HBS.out)
    (fun pre W => PossI w w.heap.size (w.heap.size + 1) (w.heap.size + 2) n A1 c1 l1 A2 c2 l2 A3 out.length c3 false W ∧ anyL l1 l2 out pre = false)
    (fun c pre W => c = .ret ∧ PossI w w.heap.size (w.heap.size + 1) (w.heap.size + 2) n A1 c1 l1 A2 c2 l2 A3 out.length c3 true W ∧ anyL l1 l2 out pre = true)
    (fun pre V V' h hz => ⟨h.1.zone hz (by omega) (by omega) (by omega) (by omega), h.2⟩) (fun c pre V V' h hz => ⟨h.1, h.2.1.zone hz (by omega) (by omega) (by omega) (by omega), h.2.2⟩) ⟨HI2.out, rfl⟩ 5 ?assign ?body ?done ?stop
  case assign =>
    intro l os W K hK
    unfold aggV roundAct at *
    gi_wp2
    exact hK
  case body =>
    rintro l pre os bx W ⟨hi, han⟩ hbW hol hfit hpre hbx hbox
    have HI := mkA hi
    have HBX := mkA hbox
    clear hi hbox hfit HI2 HBS
    unfold aggV roundAct
    simp only [xq1, xq2, xq3]
    generalize hu : owedL l1 os = u at HBX ⊢
    have HU := mkA hu
    have hul : u.length = 6 := by rw [← hu]; exact z40 _ _ _
    clear hu
    have HRC := mkA (right_calls n A1 c1 l1 A2 c2 l2 u A3 c3 out W (Kd.C_below HR2.out hbW) hc2 (Kd.C_below HR3.out hbW) hc3 hul hout (by obtain ⟨z0, z1, z2, z3, _⟩ := z30 HZ.out; exact z3) (fun i q0 q1 => by
      have := saying_in HZ.out i q0 q1
      obtain ⟨z0, z1, z2, z3, _⟩ := z30 HZ.out
      omega))
    unfold aggV at HRC
    have k0 : W.cell? ⟨w.heap.size, 0, none⟩ = some (.int .i64 n) := (z13 HI.out.tb 0).trans rfl
    have k1 : W.cell? ⟨w.heap.size, 1, none⟩ = some (.slice A1 l1.length c1) := (z13 HI.out.tb 1).trans rfl
    have k2 : W.cell? ⟨w.heap.size, 2, none⟩ = some (.slice A2 l2.length c2) := (z13 HI.out.tb 2).trans rfl
    have k3 : W.cell? ⟨w.heap.size + 1, 0, none⟩ = some (.slice A3 out.length c3) := (z13 HI.out.ob 0).trans rfl
    have j0 : W.cell? ⟨bx, 0, none⟩ = some (.int .i64 (rd u 0)) := (z13 HBX.out 0).trans rfl
    have j1 : W.cell? ⟨bx, 1, none⟩ = some (.int .i64 (rd u 1)) := (z13 HBX.out 1).trans rfl
    have j2 : W.cell? ⟨bx, 2, none⟩ = some (.int .i64 (rd u 2)) := (z13 HBX.out 2).trans rfl
    have j3 : W.cell? ⟨bx, 3, none⟩ = some (.int .i64 (rd u 3)) := (z13 HBX.out 3).trans rfl
    have j4 : W.cell? ⟨bx, 4, none⟩ = some (.int .i64 (rd u 4)) := (z13 HBX.out 4).trans rfl
    have j5 : W.cell? ⟨bx, 5, none⟩ = some (.int .i64 (rd u 5)) := (z13 HBX.out 5).trans rfl
    have HAN := mkA (show anyL l1 l2 out (pre ++ [os]) = rightB l2 u out from by
      unfold anyL at han ⊢
      rw [List.any_append, han, ← HU.out]
      simp)
    have HBW2 := mkA hbW
    clear han hbW
    gi_wp2_with fail
    refine ⟨trivial, ?_⟩
    refine (calls_in_round HRC.out).mono ?_
    rintro e w3 ⟨rfl, hb⟩
    have HB3 := mkA hb
    have hq := blk_below HI.out.rb hb
    have hrc : w3.cell? ⟨w.heap.size + 2, 0, none⟩ = some (.bool false) := (z13 hq 0).trans rfl
    have hrf : w3.frozen? ⟨w.heap.size + 2, 0, none⟩ = false := z14 hq _
    have HQ := mkA hq
    clear hb hq HRC k0 k1 k2 k3 j0 j1 j2 j3 j4 j5
    have HI3 := mkA (show PossI w w.heap.size (w.heap.size + 1) (w.heap.size + 2) n A1 c1 l1 A2 c2 l2 A3 out.length c3 false w3 from ⟨z17 HI.out.below HB3.out, blk_below HI.out.tb HB3.out, blk_below HI.out.ob HB3.out, HQ.out⟩)
    cases hr : rightB l2 u out with
    | true =>
      have HRR := mkA hr
      clear hr
      gi_wp2
      have hs3 := HB3.out.size
      refine ⟨⟨by simp [World.setCell]; exact hs3, fun k hk hz => (Below.heap_setCell _ _ _ _ (show k ≠ w.heap.size + 2 by omega)).trans (HB3.out.block k hk)⟩, rfl, ⟨z15 HI3.out.below (show w.heap.size ≤ w.heap.size + 2 by omega), (Below.heap_setCell _ _ _ _ (show w.heap.size ≠ w.heap.size + 2 by omega)).trans HI3.out.tb, (Below.heap_setCell _ _ _ _ (show w.heap.size + 1 ≠ w.heap.size + 2 by omega)).trans HI3.out.ob, ?_⟩, by rw [HAN.out]; exact HRR.out⟩
      simp [World.setCell, Array.getElem?_modify, HI3.out.rb]
    | false =>
      have HRR := mkA hr
      clear hr
      gi_wp2
      exact ⟨KeepZ.of_below HB3.out, HI3.out.below, HI3.out, by rw [HAN.out]; exact HRR.out⟩
  case done =>
    rintro W ⟨hi, han⟩ hK
    have HI := mkA hi
    have HKK := mkA hK
    have HAN := mkA han
    have hrc : W.cell? ⟨w.heap.size + 2, 0, none⟩ = some (.bool false) := (z13 hi.rb 0).trans rfl
    have hrf : W.frozen? ⟨w.heap.size + 2, 0, none⟩ = false := z14 hi.rb _
    clear hi han hK
    gi_wp2
    rw [z26 hrc]
    refine ⟨by simp, .inl ⟨_, _, rfl, run_takeDeferred HKK.out, ?_⟩⟩
    have hz := HI.out.zone (Zone6.put W (.deferred none) ⟨Nat.le_refl w2.heap.size, by omega⟩) (by omega) (by omega) (by omega) (by omega)
    have hc : (W.putObj w2.heap.size (.deferred none)).cell? ⟨w.heap.size + 2, 0, none⟩ = some (.bool false) := (z13 hz.rb 0).trans rfl
    refine ⟨.bool false, by simp [results, Try.results84, go_sem, hc], by rw [show possB l1 l2 out = false from HAN.out], hz.below⟩
  case stop =>
    rintro c pre W hpre ⟨rfl, hi, han⟩ hK
    have HI := mkA hi
    have HKK := mkA hK
    have HAN := mkA (show possB l1 l2 out = true from by
      unfold possB anyL at *
      rw [List.any_eq_true] at han ⊢
      obtain ⟨x, hx, hr⟩ := han
      exact ⟨x, hpre.subset hx, hr⟩)
    clear hi han hK
    gi_wp2
    refine ⟨by simp, .inl ⟨_, _, rfl, run_takeDeferred HKK.out, ?_⟩⟩
    have hz := HI.out.zone (Zone6.put W (.deferred none) ⟨Nat.le_refl w2.heap.size, by omega⟩) (by omega) (by omega) (by omega) (by omega)
    have hc : (W.putObj w2.heap.size (.deferred none)).cell? ⟨w.heap.size + 2, 0, none⟩ = some (.bool true) := (z13 hz.rb 0).trans rfl
    refine ⟨.bool true, by simp [results, Try.results84, go_sem, hc], by rw [HAN.out], hz.below⟩
end Go.Proofs.Ytncaadckehikpaa.Q
namespace Go.Proofs.Ytncaadckehikpaa.Q
open Go.RowKit Go.Proofs.YtncaadckehikpaaW.PrintWords Go.Proofs.YtncaadckehikpaaW.PrintLast Go.Proofs.YtncaadckehikpaaW.PrintMore
set_option linter.unusedVariables false
set_option linter.unusedSimpArgs false
/-- The first lie, by its number. -/
def firstO (l1 : List S122) (l2 : List S124) : Option Nat := (List.range l2.length).find? (fun i => !possB l1 (l2.take (i + 1)) [])
def soap_First.f (a0_0 : Int) (l0_1 : List (S122)) (l0_2 : List (S124)) : Option (Int × Int) :=
  some (if checkS a0_0 l0_1 l0_2 = 0 then (match firstO l0_1 l0_2 with | some i => ((i : Int), 0) | none => (0, 7)) else (0, checkS a0_0 l0_1 l0_2))
theorem checkS_take {n : Int} {l1 : List S122} {l2 : List S124} (h : checkS n l1 l2 = 0) (m : Nat) : checkS n l1 (l2.take m) = 0 := by
  obtain ⟨z0, z1, z2, z3, z4, z5, z6⟩ := z30 h
  have z5' : (l2.take m).all (sayingB n) = true := by
    rw [List.all_eq_true] at z5 ⊢
    exact fun x hx => z5 x (List.mem_of_mem_take hx)
  unfold checkS
  rw [if_neg (by
    rintro (q | q | q)
    · omega
    · omega
    · rw [List.length_take] at q; omega), if_neg (by
    rintro (q | q | q)
    · omega
    · rw [z4] at q; cases q
    · rw [z5'] at q; cases q), if_neg (by omega)]
theorem find_some {p : Nat → Bool} {n k : Nat} (hk : k < n) (hp : p k = true) (hm : ∀ j, j < k → p j = false) : (List.range n).find? p = some k := by
  rw [List.find?_eq_some_iff_getElem]
  refine ⟨hp, k, by simpa using hk, by simp, fun j hj => ?_⟩
  rw [List.getElem_range, hm j hj]
  rfl
theorem find_none {p : Nat → Bool} {n : Nat} (hm : ∀ j, j < n → p j = false) : (List.range n).find? p = none := by
  rw [List.find?_eq_none]
  intro x hx
  rw [hm x (List.mem_range.1 hx)]
  simp
set_option maxHeartbeats 4000000 in
set_option maxRecDepth 100000 in
theorem soap_First.calls (a0_0 : Int) (A0_1 : Option Addr) (c0_1 : Nat) (l0_1 : List (S122)) (A0_2 : Option Addr) (c0_2 : Nat) (l0_2 : List (S124)) (r1 r2 : Int) (w : World) (hr0_1 : Kd.C k122 w A0_1 l0_1.length l0_1) (hc0_1 : l0_1.length ≤ c0_1) (hr0_2 : Kd.C k124 w A0_2 l0_2.length l0_2) (hc0_2 : l0_2.length ≤ c0_2) (h : soap_First.f a0_0 l0_1 l0_2 = some (r1, r2)) :
    Calls Try.prog 39 #[.agg #[.int .i64 a0_0, .slice A0_1 l0_1.length c0_1, .slice A0_2 l0_2.length c0_2]] w fun e w' => e = .returned (.tuple #[.int .i64 r1, .int .i64 r2]) ∧ Below w.heap.size w w' := by
  have hu35 := Try.underlying35
  have hu33 := Try.underlying33
  have h2 := Option.some.inj h
  clear h
  have hbw : Below w.heap.size w (w.alloc (.cells #[.int .i64 a0_0, .slice A0_1 l0_1.length c0_1, .slice A0_2 l0_2.length c0_2] 35)) := z11 (Below.refl _ _) _
  have HCK := mkA (soap_CheckSlate.calls a0_0 A0_1 c0_1 l0_1 A0_2 c0_2 l0_2 _ _ (Kd.C_below hr0_1 hbw) hc0_1 (Kd.C_below hr0_2 hbw) hc0_2 rfl)
  have HR1 := mkA hr0_1
  have HR2 := mkA hr0_2
  have HBW := mkA hbw
  have HS0 := mkA (z21 w (.cells #[.int .i64 a0_0, .slice A0_1 l0_1.length c0_1, .slice A0_2 l0_2.length c0_2] 35))
  clear hr0_1 hr0_2 hbw
  go_enter Try.func39, Try.ntmps39
  go_wp2_with fail
  refine HCK.out.mono ?_
  rintro e w1 ⟨rfl, hb⟩
  have HB1 := mkA (z17 HBW.out hb)
  have HS1 := mkA (blk_below HS0.out hb)
  clear hb HCK HBW HS0
  by_cases hck : checkS a0_0 l0_1 l0_2 = 0
  · rw [if_pos hck] at h2
    have HZ := mkA hck
    have HH2 := mkA h2
    have hlt : w.heap.size < w1.heap.size := z25 HS1.out
    have hs0 : w1.cell? ⟨w.heap.size, 0, none⟩ = some (.int .i64 a0_0) := (z13 HS1.out 0).trans rfl
    have hs1 : w1.cell? ⟨w.heap.size, 1, none⟩ = some (.slice A0_1 l0_1.length c0_1) := (z13 HS1.out 1).trans rfl
    have hs2 : w1.cell? ⟨w.heap.size, 2, none⟩ = some (.slice A0_2 l0_2.length c0_2) := (z13 HS1.out 2).trans rfl
    have hl5 : l0_2.length ≤ 5 := by obtain ⟨z0, z1, z2, z3, _⟩ := z30 hck; exact z3
    rw [hck]
    clear h2 hck
    go_wp2
    go_loopw [16] (fun i wr => ∃ (k : Int) (sv : Value), 0 ≤ k ∧ k ≤ (l0_2.length : Int) ∧ i = .int .i64 k ∧ Aside0 (wr.heap[w.heap.size]? = some (.cells #[.int .i64 a0_0, .slice A0_1 l0_1.length c0_1, .slice A0_2 l0_2.length c0_2] 35 (0, 0))) ∧ Aside0 (wr.heap[w1.heap.size]? = some (.cells #[.int .i64 a0_0, .slice A0_1 l0_1.length c0_1, sv] 35 (0, 0))) ∧ Aside0 (Below w.heap.size w wr) ∧ Aside0 (∀ j : Nat, j < k.toNat → possB l0_1 (l0_2.take (j + 1)) [] = true)) (fun i _ => l0_2.length - (intOf i).toNat)
    case atStart => exact ⟨0, _, by omega, by omega, rfl, ⟨blk_below HS1.out (z11 (Below.refl _ _) _)⟩, ⟨z21 w1 _⟩, ⟨z11 HB1.out _⟩, ⟨fun j hj => by simp at hj⟩⟩
    case round =>
      obtain ⟨k, sv, hk0, hk1, rfl, HT, HG, HB, HM⟩ := hrel
      have t2 : wr.cell? ⟨w.heap.size, 2, none⟩ = some (.slice A0_2 l0_2.length c0_2) := (z13 HT.out 2).trans rfl
      by_cases hlk : k < (l0_2.length : Int)
      · have g1 : decide (k < (l0_2.length : Int)) = true := decide_eq_true hlk
        have u2 : wr.cell? ⟨w1.heap.size, 2, none⟩ = some sv := (z13 HG.out 2).trans rfl
        have uf2 : wr.frozen? ⟨w1.heap.size, 2, none⟩ = false := z14 HG.out _
        have u0 : wr.cell? ⟨w1.heap.size, 0, none⟩ = some (.int .i64 a0_0) := (z13 HG.out 0).trans rfl
        have u1 : wr.cell? ⟨w1.heap.size, 1, none⟩ = some (.slice A0_1 l0_1.length c0_1) := (z13 HG.out 1).trans rfl
        have hkl : (l0_2.take (k + 1).toNat).length = (k + 1).toNat := by rw [List.length_take]; omega
        have hd2 : (wr.setCell ⟨w1.heap.size, 2, none⟩ (.slice A0_2 (k + 1).toNat c0_2)).cell? ⟨w1.heap.size, 2, none⟩ = some (.slice A0_2 (k + 1).toNat c0_2) := World.cell?_setCell_same' _ _ _ (by rw [u2]; rfl)
        have HB2 := mkA (show Below w.heap.size w (wr.setCell ⟨w1.heap.size, 2, none⟩ (.slice A0_2 (k + 1).toNat c0_2)) from z15 HB.out (show w.heap.size ≤ w1.heap.size by omega))
        have HG2 := mkA (show (wr.setCell ⟨w1.heap.size, 2, none⟩ (.slice A0_2 (k + 1).toNat c0_2)).heap[w1.heap.size]? = some (.cells #[.int .i64 a0_0, .slice A0_1 l0_1.length c0_1, .slice A0_2 (k + 1).toNat c0_2] 35 (0, 0)) from by simp [World.setCell, Array.getElem?_modify, HG.out])
        have HT2 := mkA (show (wr.setCell ⟨w1.heap.size, 2, none⟩ (.slice A0_2 (k + 1).toNat c0_2)).heap[w.heap.size]? = _ from (Below.heap_setCell _ _ _ _ (show w.heap.size ≠ w1.heap.size by omega)).trans HT.out)
        have HPC := mkA (possible_calls a0_0 A0_1 c0_1 l0_1 A0_2 c0_2 (l0_2.take (k + 1).toNat) none 0 [] _ (checkS_take HZ.out _) (Kd.C_below HR1.out HB2.out) hc0_1 (Kd.C_take (Kd.C_below HR2.out HB2.out) (by omega)) (by omega) (Kd.C_nil _ _) (Nat.le_refl _) (by simp))
        rw [hkl] at HPC
        generalize hp : possB l0_1 (l0_2.take (k + 1).toNat) [] = pb at HPC
        have HP := mkA hp
        clear hp hkl
        simp only [List.length_nil] at HPC
        go_wp2_with fail
        refine HPC.out.mono ?_
        rintro e w3 ⟨rfl, hb⟩
        have HB3 := mkA (HB2.out.trans (hb.mono HB2.out.size))
        have HG3 := mkA (blk_below HG2.out hb)
        have HT3 := mkA (blk_below HT2.out hb)
        clear hb HPC
        cases pb with
        | true =>
          go_wp2
          go_round
          case measure => simp [intOf]; omega
          case rel =>
            refine ⟨k + 1, _, by omega, by omega, by go_num, HT3, HG3, HB3, ⟨fun j hj => ?_⟩⟩
            by_cases hjk : j < k.toNat
            · exact HM.out j hjk
            · obtain rfl : j = k.toNat := by omega
              rw [show k.toNat + 1 = (k + 1).toNat by omega]
              exact HP.out
        | false =>
          have hf : firstO l0_1 l0_2 = some k.toNat := find_some (by omega) (by rw [show k.toNat + 1 = (k + 1).toNat by omega, HP.out]; rfl) (fun j hj => by rw [HM.out j hj]; rfl)
          have hh := HH2.out
          rw [hf] at hh
          obtain ⟨rfl, rfl⟩ := Prod.mk.inj hh
          have HK := mkA (show ((k.toNat : Nat) : Int) = k by omega)
          clear hh hf
          go_wp2
          go_ret2
          exact ⟨by rw [HK.out]; rfl, HB3.out⟩
      · have g1 : decide (k < (l0_2.length : Int)) = false := decide_eq_false hlk
        obtain rfl : k = l0_2.length := by omega
        have hf : firstO l0_1 l0_2 = none := find_none (fun j hj => by rw [HM.out j (by simpa using hj)]; rfl)
        have hh := HH2.out
        rw [hf] at hh
        obtain ⟨rfl, rfl⟩ := Prod.mk.inj hh
        clear hh hf
        go_wp2
        go_ret2
        exact ⟨rfl, HB.out⟩
  · rw [if_neg hck] at h2
    obtain ⟨rfl, rfl⟩ := Prod.mk.inj h2
    generalize hqq : checkS a0_0 l0_1 l0_2 = q at hck ⊢
    have HQQ := mkA hqq
    have g1 : (q != 0) = true := bne_iff_ne.2 hck
    clear h2 hck hqq
    go_wp2
    go_ret2
    exact ⟨by rw [HQQ.out]; rfl, HB1.out⟩
end Go.Proofs.Ytncaadckehikpaa.Q
