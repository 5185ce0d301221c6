/- A part of the proof: contracts of functions and plain facts (HRef0). No condition. -/
import Derived.Test.YtncaadckehikpaaM10
import Derived.Test.YtncaadckehikpaaM12
import Derived.Test.YtncaadckehikpaaM14
namespace Go.Proofs.Ytncaadckehikpaa.Q
open Go.RowKit Go.Proofs.YtncaadckehikpaaW.PrintWords Go.Proofs.YtncaadckehikpaaW.PrintLast Go.Proofs.YtncaadckehikpaaW.PrintMore
set_option linter.unusedVariables false
set_option linter.unusedSimpArgs false
/-- An entry, and a saying, of the reference as ones of the program. -/
def c91 (e : S91) : S122 := ⟨e.f0, e.f1, ⟨e.f2.f0, e.f2.f1⟩⟩
def c94 (x : S94) : S124 := ⟨x.f0, ⟨x.f1.f0, x.f1.f1⟩⟩
theorem getD_of {α : Type} (xs : List α) (z : α) (i : Nat) (h : i < xs.length) : xs.getD ((i : Int)).toNat z = xs[i] := by
  simp [List.getD, h]
theorem rd91 (xs : List S91) (i : Nat) (h : i < xs.length) : rd_T91 xs (i : Int) = xs[i] := getD_of xs _ i h
theorem rd94 (xs : List S94) (i : Nat) (h : i < xs.length) : rd_T94 xs (i : Int) = xs[i] := getD_of xs _ i h
theorem rd122 (xs : List S122) (i : Nat) (h : i < xs.length) : rd_T122 xs (i : Int) = xs[i] := getD_of xs _ i h
theorem rd124 (xs : List S124) (i : Nat) (h : i < xs.length) : rd_T124 xs (i : Int) = xs[i] := getD_of xs _ i h
theorem rd_map91 (xs : List S91) (i : Nat) (h : i < xs.length) : rd_T122 (xs.map c91) (i : Int) = c91 (rd_T91 xs (i : Int)) := by
  rw [rd91 xs i h, rd122 _ i (by simpa using h), List.getElem_map]
theorem rd_map94 (xs : List S94) (i : Nat) (h : i < xs.length) : rd_T124 (xs.map c94) (i : Int) = c94 (rd_T94 xs (i : Int)) := by
  rw [rd94 xs i h, rd124 _ i (by simpa using h), List.getElem_map]
theorem w1 (i : Nat) (h : i < 1000000000000) : wrap64 ((i : Int) + 1) = ((i + 1 : Nat) : Int) := by unfold wrap64; omega
theorem Slate_l1 (n m : Int) (l1 : List S91) (l2 : List S94) (es : List S122) (hl : l2.length ≤ 30) : ∀ (d k i : Nat) (acc : List S124), i + d = l2.length → d < k → acc.length = i →
    pl_Slate.l1 k i n l1 l2 m es acc = some (m, es, acc ++ (l2.drop i).map c94)
  | 0, k + 1, i, acc, h, hk, ha => by
    rw [pl_Slate.l1, if_neg (by omega), List.drop_of_length_le (by omega)]
    simp
  | d + 1, k + 1, i, acc, h, hk, ha => by
    have hi : i < l2.length := by omega
    rw [pl_Slate.l1, if_pos (by omega), if_pos (by omega), w1 i (by omega)]
    simp only [pl_to.f, Option.bind_some]
    rw [if_pos (by omega), Slate_l1 n m l1 l2 es hl d k (i + 1) _ (by omega) (by omega) (by simp [ha]), List.drop_eq_getElem_cons hi, rd94 l2 i hi]
    rw [List.map_cons, List.append_assoc]
    rfl
theorem Slate_l0 (n m : Int) (l1 : List S91) (l2 : List S94) (hl : l2.length ≤ 30) (hl1 : l1.length ≤ 30) : ∀ (d k i : Nat) (acc : List S122), i + d = l1.length → d + 31 < k → acc.length = i →
    pl_Slate.l0 k i n l1 l2 m acc = some (m, acc ++ (l1.drop i).map c91, l2.map c94)
  | 0, k + 1, i, acc, h, hk, ha => by
    rw [pl_Slate.l0, if_neg (by omega), List.drop_of_length_le (by omega)]
    have := Slate_l1 n m l1 l2 acc hl l2.length k 0 [] (by omega) (by omega) rfl
    simpa using this
  | d + 1, k + 1, i, acc, h, hk, ha => by
    have hi : i < l1.length := by omega
    rw [pl_Slate.l0, if_pos (by omega), if_pos (by omega), w1 i (by omega)]
    simp only [pl_to.f, Option.bind_some]
    rw [if_pos (by omega), Slate_l0 n m l1 l2 hl hl1 d k (i + 1) _ (by omega) (by omega) (by simp [ha]), List.drop_eq_getElem_cons hi, rd91 l1 i hi]
    rw [List.map_cons, List.append_assoc]
    rfl
/-- The program's slate. -/
theorem Slate_f (k : Nat) (n : Int) (l1 : List S91) (l2 : List S94) (h1 : l1.length ≤ 30) (h2 : l2.length ≤ 30) (hk : 100 ≤ k) : pl_Slate.f k n l1 l2 = some (n, l1.map c91, l2.map c94) := by
  have := Slate_l0 n n l1 l2 h2 h1 l1.length k 0 [] (by omega) (by omega) rfl
  simpa [pl_Slate.f] using this
theorem Thin_f (n : Int) (l1 : List S91) (l2 : List S94) : pl_Thin.f n l1 l2 = some (decide (l1.length ≤ 30 ∧ l2.length ≤ 30)) := by
  unfold pl_Thin.f
  by_cases h : (l1.length : Int) > 30
  · rw [if_pos h, decide_eq_false (by omega)]
  · rw [if_neg h]
    by_cases h2 : (l2.length : Int) > 30
    · rw [if_pos h2, decide_eq_false (by omega)]
    · rw [if_neg h2, decide_eq_true (by omega)]
/-- The product of all sizes. -/
def prodS : List S122 → Int
  | [] => 1
  | e :: es => sizeS e * prodS es
theorem prodS_pos : ∀ (l : List S122), (∀ e ∈ l, 1 ≤ sizeS e) → 1 ≤ prodS l
  | [], _ => by simp [prodS]
  | e :: es, h => by
    have h1 := h e (by simp)
    have h2 := prodS_pos es (fun x hx => h x (by simp [hx]))
    have := Int.mul_le_mul h1 h2 (by omega) (by omega)
    simp only [prodS]
    omega
theorem mul_mn (a s c t : Int) (ha : 1 ≤ a) (hs : 1 ≤ s) (ht : 1 ≤ t) (hc : 1 ≤ c) : mn (mn (a * s) c * t) c = mn (a * (s * t)) c := by
  have h0 : a * (s * t) = a * s * t := (Int.mul_assoc a s t).symm
  rw [h0]
  generalize a * s = b
  unfold mn
  by_cases h : c < b
  · rw [if_pos h]
    have h1 : c * 1 ≤ c * t := Int.mul_le_mul_of_nonneg_left ht (by omega)
    have h2 : c * t < b * t := Int.mul_lt_mul_of_pos_right h (by omega)
    rw [if_pos (show c < b * t by omega)]
    by_cases h3 : c < c * t
    · rw [if_pos h3]
    · rw [if_neg h3]; omega
  · rw [if_neg h]
theorem fold_mn (c : Int) (hc : 1 ≤ c) : ∀ (l : List S122) (m : Int), 1 ≤ m → m ≤ c → (∀ e ∈ l, 1 ≤ sizeS e) → l.foldl (fun m e => mn (m * sizeS e) c) m = mn (m * prodS l) c
  | [], m, h1, h2, _ => by
    simp only [List.foldl_nil, prodS, Int.mul_one]
    unfold mn
    rw [if_neg (by omega)]
  | e :: es, m, h1, h2, h => by
    have hs := h e (by simp)
    have hp := prodS_pos es (fun x hx => h x (by simp [hx]))
    have hm : 1 ≤ m * sizeS e := by
      have := Int.mul_le_mul h1 hs (by omega) (by omega)
      omega
    rw [List.foldl_cons, fold_mn c hc es _ (by unfold mn; split <;> omega) (mn_le _ _) (fun x hx => h x (by simp [hx]))]
    simp only [prodS]
    exact mul_mn m (sizeS e) c (prodS es) h1 hs hp hc
theorem manyS_eq (l : List S122) (h : ∀ e ∈ l, 1 ≤ sizeS e) : manyS l = mn (prodS l) 2001 := by
  unfold manyS
  rw [fold_mn 2001 (by omega) l 1 (by omega) (by omega) h, Int.one_mul]
/-- The reference's number of ounces. -/
theorem Many_l0 (n : Int) (l1 : List S91) (l2 : List S94) (hl : l1.length ≤ 6) (h : ∀ e ∈ l1.map c91, 1 ≤ sizeS e ∧ sizeS e ≤ 41 ∧ 0 ≤ e.f2.f0 ∧ e.f2.f1 ≤ 40) :
    ∀ (d k i : Nat) (m : Int), i + d = l1.length → d < k → 1 ≤ m → m ≤ 3000 → pr_Many.l0 k m i n l1 l2 = some (((l1.drop i).map c91).foldl (fun m e => mn (m * sizeS e) 3000) m)
  | 0, k + 1, i, m, hi, hk, h1, h2 => by
    rw [pr_Many.l0, if_neg (by omega), List.drop_of_length_le (by omega)]
    rfl
  | d + 1, k + 1, i, m, hi, hk, h1, h2 => by
    have hn : i < l1.length := by omega
    have he := h (c91 l1[i]) (List.mem_map_of_mem (List.getElem_mem hn))
    have hp : 1 ≤ m * sizeS (c91 l1[i]) := by
      have := Int.mul_le_mul h1 he.1 (by omega) (by omega)
      omega
    have hq : m * sizeS (c91 l1[i]) ≤ 3000 * 41 := Int.mul_le_mul h2 he.2.1 (by omega) (by omega)
    rw [pr_Many.l0, if_pos (by omega), if_pos (by omega), w1 i (by omega), rd91 l1 i hn]
    have hz : pr_Size.f (l1[i].f2.f0) (l1[i].f2.f1) = some (sizeS (c91 l1[i])) := by
      simp only [pr_Size.f, sizeS, c91] at he ⊢
      refine congrArg some ?_
      unfold wrap64
      omega
    rw [hz, Option.bind_some, show wrap64 (m * sizeS (c91 l1[i])) = m * sizeS (c91 l1[i]) by unfold wrap64; omega]
    have hmn : mn 3000 (m * sizeS (c91 l1[i])) = mn (m * sizeS (c91 l1[i])) 3000 := by unfold mn; split <;> split <;> omega
    rw [hmn, Many_l0 n l1 l2 hl h d k (i + 1) _ (by omega) (by omega) (by unfold mn; split <;> omega) (mn_le _ _), List.drop_eq_getElem_cons hn]
    rfl
theorem Many_f (k : Nat) (n : Int) (l1 : List S91) (l2 : List S94) (hl : l1.length ≤ 6) (h : ∀ e ∈ l1.map c91, 1 ≤ sizeS e ∧ sizeS e ≤ 41 ∧ 0 ≤ e.f2.f0 ∧ e.f2.f1 ≤ 40) (hk : 7 ≤ k) :
    pr_Many.f k n l1 l2 = some (mn (prodS (l1.map c91)) 3000) := by
  have := Many_l0 n l1 l2 hl h l1.length k 0 1 (by omega) (by omega) (by omega) (by omega)
  rw [pr_Many.f, show (0 : Int) = ((0 : Nat) : Int) from rfl, this, List.drop_zero, fold_mn 3000 (by omega) _ 1 (by omega) (by omega) (fun e he => (h e he).1), Int.one_mul]
end Go.Proofs.Ytncaadckehikpaa.Q
