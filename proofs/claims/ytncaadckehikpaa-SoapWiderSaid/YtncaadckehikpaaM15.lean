/- A part of the proof: contracts of functions and plain facts (Q9, Q10, HRef1, HLaw). No condition. -/
import Derived.Test.YtncaadckehikpaaM3
import Derived.Test.YtncaadckehikpaaM13
import Derived.Test.YtncaadckehikpaaM14
namespace Go.Proofs.Ytncaadckehikpaa.Q
open Go.RowKit Go.Proofs.YtncaadckehikpaaW.PrintWords Go.Proofs.YtncaadckehikpaaW.PrintLast Go.Proofs.YtncaadckehikpaaW.PrintMore
attribute [local go_sem] z30 z29 max_two min_two   -- for this text's walks alone
set_option linter.unusedVariables false
set_option linter.unusedSimpArgs false
/-! ### pr_Right: function 87 -/
def pr_Right.l0 : Nat → List Int → Int → Int → Int → List (S91) → List (S94) → Option (Int)
 | 0, _, _, _, _, _, _ => none
 | k + 1, x1, x5, x6, x189000, x189001, x189002 => if x6 < (x189002.length : Int) then (if 0 ≤ x6 then ((pr_Owed.f k x189000 x189001 x189002 x1 ((rd_T94 x189002 x6).f0)).bind fun t191 => ((pr_Is.f t191 ((rd_T94 x189002 x6).f1.f0) ((rd_T94 x189002 x6).f1.f1)).bind fun t192 => (if t192 = true then (if 0 ≤ (IntKind.u64.wrap (x6)) then (pr_Right.l0 k x1 (Go.bits .or .i64 x5 (shl .i64 1 (IntKind.u64.wrap (x6)))) (wrap64 (x6 + 1)) x189000 x189001 x189002) else (none)) else (pr_Right.l0 k x1 x5 (wrap64 (x6 + 1)) x189000 x189001 x189002)))) else (none)) else (some x5)
def pr_Right.f (k : Nat) (a0_0 : Int) (l0_1 : List (S91)) (l0_2 : List (S94)) (l1 : List Int) : Option (Int) := pr_Right.l0 k l1 0 0 a0_0 l0_1 l0_2
/-! ### pr_Truths: function 53 -/
def pr_Truths.l0 : Nat → List (List Int) → Int → Int → List (S91) → List (S94) → Option ((List (List Int)))
 | 0, _, _, _, _, _ => none
 | k + 1, x3, x4, x194000, x194001, x194002 => (pr_Many.f k x194000 x194001 x194002).bind fun t194 => (if x4 < t194 then ((pr_Nth.f k x194000 x194001 x194002 x4).bind fun t195 => ((pr_Right.f k x194000 x194001 x194002 t195).bind fun t198 => ((pr_Full.f x194000 x194001 x194002).bind fun t199 => (if t198 = t199 then (if x3.length < 5864062014805 then (pr_Truths.l0 k (x3 ++ [t195]) (wrap64 (x4 + 1)) x194000 x194001 x194002) else (none)) else (pr_Truths.l0 k x3 (wrap64 (x4 + 1)) x194000 x194001 x194002))))) else (some x3))
def pr_Truths.f (k : Nat) (a0_0 : Int) (l0_1 : List (S91)) (l0_2 : List (S94)) : Option ((List (List Int))) := pr_Truths.l0 k ([] : List (List Int)) 0 a0_0 l0_1 l0_2
end Go.Proofs.Ytncaadckehikpaa.Q
namespace Go.Proofs.Ytncaadckehikpaa.Q
open Go.RowKit Go.Proofs.YtncaadckehikpaaW.PrintWords Go.Proofs.YtncaadckehikpaaW.PrintLast Go.Proofs.YtncaadckehikpaaW.PrintMore
attribute [local go_sem] z30 z29 max_two min_two   -- for this text's walks alone
set_option linter.unusedVariables false
set_option linter.unusedSimpArgs false
/-! ### pl_sure: function 25 -/
def pl_sure.f (k : Nat) (a0_0 : Int) (l0_1 : List (S91)) (l0_2 : List (S94)) : Option ((List (List Int)) × Int) := (pl_fault.f k a0_0 l0_1 l0_2).bind fun t204 => (if t204 = 0 then ((pr_Truths.f k a0_0 l0_1 l0_2).bind fun t205 => (if (t205.length : Int) = 0 then (some (([] : List (List Int)), 11)) else (some (t205, 0)))) else (some (([] : List (List Int)), t204)))
end Go.Proofs.Ytncaadckehikpaa.Q
namespace Go.Proofs.Ytncaadckehikpaa.Q
open Go.RowKit Go.Proofs.YtncaadckehikpaaW.PrintWords Go.Proofs.YtncaadckehikpaaW.PrintLast Go.Proofs.YtncaadckehikpaaW.PrintMore
set_option linter.unusedVariables false
set_option linter.unusedSimpArgs false
theorem In_f (n a : Int) (h0 : 0 ≤ n) (h6 : n ≤ 6) : pr_In.f a 0 (wrap64 (n - 1)) = some (womanB n a) := by
  have hw : wrap64 (n - 1) = n - 1 := by unfold wrap64; omega
  simp only [pr_In.f, hw, womanB]
  by_cases h : 0 ≤ a <;> simp [h]
theorem ArePair_f (n a b : Int) (l1 : List S91) (l2 : List S94) (h0 : 0 ≤ n) (h6 : n ≤ 6) : pr_ArePair.f n l1 l2 a b = some (pairB n a b) := by
  simp only [pr_ArePair.f, In_f n _ h0 h6, Option.bind_some, pairB]
  cases womanB n a <;> cases womanB n b <;> simp
/-- What is needed of a slate's entries. -/
def EntOk (n : Int) (l1 : List S91) : Prop := ∀ e ∈ l1.map c91, entryB n e = true
theorem EntOk.sizes {n : Int} {l1 : List S91} (h : EntOk n l1) : ∀ e ∈ l1.map c91, 1 ≤ sizeS e ∧ sizeS e ≤ 41 ∧ 0 ≤ e.f2.f0 ∧ e.f2.f1 ≤ 40 := fun e he => by
  have := entryB_size n e (h e he)
  omega
theorem Fault_l1 (n : Int) (l1 : List S91) (l2 : List S94) (h0 : 0 ≤ n) (h6 : n ≤ 6) (hl : l1.length ≤ 6) (hl2 : l2.length ≤ 5) (he : EntOk n l1) : ∀ (d k i : Nat), i + d = l2.length → d + 8 < k →
    pr_Fault.l1 k i n l1 l2 = some (if ((l2.drop i).map c94).all (sayingB n) = false then 1 else if manyS (l1.map c91) > 2000 then 3 else 0)
  | 0, k + 1, i, hi, hk => by
    rw [pr_Fault.l1, if_neg (by omega), List.drop_of_length_le (by omega), Many_f k n l1 l2 hl he.sizes (by omega), manyS_eq _ (fun e h => (he.sizes e h).1)]
    simp only [Option.bind_some, List.map_nil, List.all_nil]
    have : (mn (prodS (l1.map c91)) 3000 > 2000) ↔ (mn (prodS (l1.map c91)) 2001 > 2000) := by unfold mn; split <;> split <;> omega
    by_cases h : mn (prodS (l1.map c91)) 3000 > 2000
    · rw [if_pos h, if_neg (by simp), if_pos (this.1 h)]
    · rw [if_neg h, if_neg (by simp), if_neg (fun x => h (this.2 x))]
  | d + 1, k + 1, i, hi, hk => by
    have hn : i < l2.length := by omega
    rw [pr_Fault.l1, if_pos (by omega), if_pos (by omega), w1 i (by omega), rd94 l2 i hn, In_f n _ h0 h6, Option.bind_some, List.drop_eq_getElem_cons hn, List.map_cons, List.all_cons,
      Fault_l1 n l1 l2 h0 h6 hl hl2 he d k (i + 1) (by omega) (by omega)]
    have hs : sayingB n (c94 l2[i]) = (womanB n l2[i].f0 && (decide (-240 ≤ l2[i].f1.f0) && decide (l2[i].f1.f0 ≤ l2[i].f1.f1) && decide (l2[i].f1.f1 ≤ 240))) := rfl
    rw [hs]
    cases womanB n l2[i].f0
    · simp
    · by_cases a : l2[i].f1.f0 < -240
      · simp [a, show ¬ (-240 ≤ l2[i].f1.f0) by omega]
      · by_cases b : l2[i].f1.f0 > l2[i].f1.f1
        · simp [a, b, show ¬ (l2[i].f1.f0 ≤ l2[i].f1.f1) by omega]
        · by_cases c : l2[i].f1.f1 > 240
          · simp [a, b, c, show ¬ (l2[i].f1.f1 ≤ 240) by omega]
          · simp [a, b, c, show (-240 ≤ l2[i].f1.f0) by omega, show (l2[i].f1.f0 ≤ l2[i].f1.f1) by omega, show (l2[i].f1.f1 ≤ 240) by omega]
theorem Fault_l0 (n : Int) (l1 : List S91) (l2 : List S94) (h0 : 0 ≤ n) (h6 : n ≤ 6) (hl : l1.length ≤ 6) (hl2 : l2.length ≤ 5) : ∀ (d k i : Nat), i + d = l1.length → d + 20 < k → (∀ e ∈ (l1.take i).map c91, entryB n e = true) →
    pr_Fault.l0 k i n l1 l2 = some (if ((l1.drop i).map c91).all (entryB n) = false ∨ (l2.map c94).all (sayingB n) = false then 1 else if manyS (l1.map c91) > 2000 then 3 else 0)
  | 0, k + 1, i, hi, hk, ht => by
    rw [pr_Fault.l0, if_neg (by omega), List.drop_of_length_le (by omega)]
    rw [List.take_of_length_le (by omega)] at ht
    have := Fault_l1 n l1 l2 h0 h6 hl hl2 ht l2.length k 0 (by omega) (by omega)
    rw [show (0 : Int) = ((0 : Nat) : Int) from rfl, this]
    simp
  | d + 1, k + 1, i, hi, hk, ht => by
    have hn : i < l1.length := by omega
    rw [pr_Fault.l0, if_pos (by omega), if_pos (by omega), w1 i (by omega), rd91 l1 i hn, ArePair_f n _ _ _ _ h0 h6, Option.bind_some, List.drop_eq_getElem_cons hn, List.map_cons, List.all_cons]
    have hs : entryB n (c91 l1[i]) = (pairB n l1[i].f0 l1[i].f1 && (decide (0 ≤ l1[i].f2.f0) && decide (l1[i].f2.f0 ≤ l1[i].f2.f1) && decide (l1[i].f2.f1 ≤ 40))) := rfl
    have ih : entryB n (c91 l1[i]) = true → _ := fun hx => Fault_l0 n l1 l2 h0 h6 hl hl2 d k (i + 1) (by omega) (by omega) (by
      intro e he
      rw [List.take_succ_eq_append_getElem hn, List.map_append, List.mem_append] at he
      rcases he with he | he
      · exact ht e he
      · rw [List.map_cons, List.map_nil, List.mem_singleton] at he
        rw [he]; exact hx)
    rw [hs] at ih ⊢
    cases hp : pairB n l1[i].f0 l1[i].f1
    · simp
    · by_cases a : l1[i].f2.f0 < 0
      · simp [a, show ¬ (0 ≤ l1[i].f2.f0) by omega]
      · by_cases b : l1[i].f2.f0 > l1[i].f2.f1
        · simp [a, b, show ¬ (l1[i].f2.f0 ≤ l1[i].f2.f1) by omega]
        · by_cases c : l1[i].f2.f1 > 40
          · simp [a, b, c, show ¬ (l1[i].f2.f1 ≤ 40) by omega]
          · have h1 : 0 ≤ l1[i].f2.f0 := by omega
            have h2 : l1[i].f2.f0 ≤ l1[i].f2.f1 := by omega
            have h3 : l1[i].f2.f1 ≤ 40 := by omega
            rw [if_neg a, if_neg b, if_neg c, ih (by rw [hp]; simp [h1, h2, h3])]
            simp [h1, h2, h3]
/-- The reference's fault is the program's check. -/
theorem Fault_f (k : Nat) (n : Int) (l1 : List S91) (l2 : List S94) (hk : 40 ≤ k) : pr_Fault.f k n l1 l2 = some (checkS n (l1.map c91) (l2.map c94)) := by
  obtain ⟨k, rfl⟩ : ∃ j, k = j + 1 := ⟨k - 1, by omega⟩
  unfold pr_Fault.f checkS
  simp only [List.length_map]
  by_cases h6 : n > 6
  · rw [if_pos h6, if_pos (Or.inl h6), pr_Fault.j0, if_pos rfl]
  · rw [if_neg h6]
    by_cases hl : l1.length > 6
    · rw [if_pos (by omega), if_pos (Or.inr (Or.inl hl)), pr_Fault.j0, if_pos rfl]
    · rw [if_neg (by omega)]
      by_cases hl2 : l2.length > 5
      · rw [if_pos (Or.inr (Or.inr hl2)), pr_Fault.j0, if_pos (by simp; omega)]
      · rw [if_neg (by omega), pr_Fault.j0, if_neg (by simp; omega)]
        by_cases h0 : n < 0
        · rw [if_pos h0, if_pos (Or.inl h0)]
        · rw [if_neg h0]
          have := Fault_l0 n l1 l2 (by omega) (by omega) (by omega) (by omega) l1.length k 0 (by omega) (by omega) (by simp)
          refine (show pr_Fault.l0 k 0 n l1 l2 = _ from this).trans ?_
          simp only [List.drop_zero, h0, false_or]
/-- The ounces with a number. -/
def nthS : List S122 → Nat → List Int
  | [], _ => []
  | e :: es, m => (e.f2.f0 + (m % spanN e : Nat)) :: nthS es (m / spanN e)
/-- The product of all sizes, as a natural number. -/
def prodN : List S122 → Nat
  | [] => 1
  | e :: es => spanN e * prodN es
theorem prodN_eq : ∀ (l : List S122), (∀ e ∈ l, 1 ≤ sizeS e) → ((prodN l : Nat) : Int) = prodS l
  | [], _ => rfl
  | e :: es, h => by
    have h1 := h e (by simp)
    have h2 : ((spanN e : Nat) : Int) = sizeS e := by unfold spanN sizeS at *; omega
    rw [prodN, prodS, Int.natCast_mul, h2, prodN_eq es (fun x hx => h x (by simp [hx]))]
/-- The ounces with the numbers are all ounces. -/
theorem mem_enumO : ∀ (l : List S122) (p os : List Int), os ∈ enumO p l ↔ ∃ m, m < prodN l ∧ os = p ++ nthS l m
  | [], p, os => by
    simp only [enumO, prodN, nthS, List.mem_singleton, List.append_nil]
    exact ⟨fun h => ⟨0, by omega, h⟩, fun ⟨_, _, h⟩ => h⟩
  | e :: es, p, os => by
    simp only [enumO, List.mem_flatMap, List.mem_range, prodN, nthS]
    constructor
    · rintro ⟨k, hk, h⟩
      obtain ⟨m, hm, rfl⟩ := (mem_enumO es _ os).1 h
      refine ⟨k + spanN e * m, ?_, ?_⟩
      · have : spanN e * (m + 1) ≤ spanN e * prodN es := Nat.mul_le_mul_left _ hm
        rw [Nat.mul_succ] at this
        omega
      · rw [Nat.add_mul_mod_self_left, Nat.mod_eq_of_lt hk, Nat.add_mul_div_left _ _ (by omega), Nat.div_eq_of_lt hk, Nat.zero_add]
        simp
    · rintro ⟨m, hm, rfl⟩
      have hs : 0 < spanN e := by
        rcases Nat.eq_zero_or_pos (spanN e) with h | h
        · rw [h, Nat.zero_mul] at hm; omega
        · exact h
      exact ⟨m % spanN e, Nat.mod_lt _ hs, (mem_enumO es _ _).2 ⟨m / spanN e, Nat.div_lt_of_lt_mul hm, by simp⟩⟩
end Go.Proofs.Ytncaadckehikpaa.Q
namespace Go.Proofs.Ytncaadckehikpaa.Q
open Go.RowKit Go.Proofs.YtncaadckehikpaaW.PrintWords Go.Proofs.YtncaadckehikpaaW.PrintLast Go.Proofs.YtncaadckehikpaaW.PrintMore
set_option linter.unusedVariables false
set_option linter.unusedSimpArgs false
/-- In each later world the law's Slate (23) takes a value to a slate of the program with these entries and sayings. -/
def SlateOk (w : World) (v : Value) (n : Int) (L1 : List S122) (L2 : List S124) : Prop :=
  ∀ W, Below w.heap.size w W → Calls Try.prog 23 #[v] W fun e w' => ∃ B1 d1 B2 d2, e = .returned (.agg #[.int .i64 n, .slice B1 L1.length d1, .slice B2 L2.length d2]) ∧
    Kd.C k122 w' B1 L1.length L1 ∧ L1.length ≤ d1 ∧ Kd.C k124 w' B2 L2.length L2 ∧ L2.length ≤ d2 ∧ Below W.heap.size W w'
theorem slate_ok (n : Int) (A1 : Option Addr) (m1 c1 : Nat) (l1 : List S91) (A2 : Option Addr) (m2 c2 : Nat) (l2 : List S94) (w : World) (h1 : Kd.C k91 w A1 m1 l1) (g1 : m1 ≤ c1) (h2 : Kd.C k94 w A2 m2 l2) (g2 : m2 ≤ c2) (q1 : l1.length ≤ 30) (q2 : l2.length ≤ 30) :
    SlateOk w (.agg #[.int .i64 n, .slice A1 m1 c1, .slice A2 m2 c2]) n (l1.map c91) (l2.map c94) := by
  intro W hb
  obtain rfl : l1.length = m1 := h1.1
  obtain rfl : l2.length = m2 := h2.1
  refine (pl_Slate.calls 100 n A1 c1 l1 A2 c2 l2 n _ _ W (Kd.C_below h1 hb) g1 (Kd.C_below h2 hb) g2 (Slate_f 100 n l1 l2 q1 q2 (Nat.le_refl _))).mono ?_
  rintro e w' ⟨v1, v2, rfl, R1, R2, hb2⟩
  obtain ⟨B1, d1, rfl, p1, K1⟩ := Kd.R_reads R1
  obtain ⟨B2, d2, rfl, p2, K2⟩ := Kd.R_reads R2
  exact ⟨B1, d1, B2, d2, rfl, K1, p1, K2, p2, hb2⟩
theorem SlateOk.below {w W : World} {v : Value} {n : Int} {L1 : List S122} {L2 : List S124} (h : SlateOk w v n L1 L2) (hb : Below w.heap.size w W) : SlateOk W v n L1 L2 := fun W2 hb2 => h W2 (z16 hb hb2)
/-- The three cells of a block. -/
theorem box3 {W : World} {g : Nat} {t : TypeId} {a b c : Value} (h : W.heap[g]? = some (.cells #[a, b, c] t (0, 0))) :
    W.cell? ⟨g, 0, none⟩ = some a ∧ W.cell? ⟨g, 1, none⟩ = some b ∧ W.cell? ⟨g, 2, none⟩ = some c := ⟨(z12 h 0).trans rfl, (z12 h 1).trans rfl, (z12 h 2).trans rfl⟩
theorem box2 {W : World} {g : Nat} {t : TypeId} {a b : Value} (h : W.heap[g]? = some (.cells #[a, b] t (0, 0))) :
    W.cell? ⟨g, 0, none⟩ = some a ∧ W.cell? ⟨g, 1, none⟩ = some b := ⟨(z12 h 0).trans rfl, (z12 h 1).trans rfl⟩
/-- A row that fills a block of its own. -/
theorem R_block {α : Type} {d : Kd α} {W : World} {base e g : Nat} {cs : Array Value} {xs : List α} (h : W.heap[g]? = some (.cells cs e (0, 0))) (hb : base ≤ g) (hm : xs.length ≤ maxLen) (hs : cs.size = xs.length * d.sz)
    (hrep : Reps (d.M W base (fun k => True ∧ some k ≠ some g)) d.sz xs cs.toList) : Kd.R d e W base (fun _ => True) (.slice (some ⟨g, 0, none⟩) xs.length xs.length) xs :=
  ⟨fun _ _ => trivial, ⟨cs.toList, ⟨by simpa using hs, .inr ⟨g, xs.length, cs, rfl, hb, h, Nat.le_refl _, hm, hs, List.take_of_length_le (by rw [Array.length_toList, hs]; exact Nat.le_refl _)⟩⟩, hrep⟩⟩
theorem R_none {α : Type} {d : Kd α} {W : World} {base e g : Nat} (h : W.heap[g]? = some (.cells #[] e (0, 0))) (hb : base ≤ g) : Kd.R d e W base (fun _ => True) (.slice (some ⟨g, 0, none⟩) 0 0) ([] : List α) :=
  R_block (xs := []) h hb (by simp) (by simp) (Reps.none _ _)
theorem heap_first (w : World) (o o2 : Obj) : ((w.alloc o).alloc o2).heap[w.heap.size]? = some o := blk_below (z19 w o) (z10 (Below.refl _ _) _)
theorem heap_second (w : World) (o o2 : Obj) : ((w.alloc o).alloc o2).heap[w.heap.size + 1]? = some o2 := by
  have := z19 (w.alloc o) o2
  rwa [show (w.alloc o).heap.size = w.heap.size + 1 from Array.size_push _] at this
def cells91 (x : S91) : List Value := [.int .i64 x.f0, .int .i64 x.f1, .int .i64 x.f2.f0, .int .i64 x.f2.f1]
def cells94 (x : S94) : List Value := [.int .i64 x.f0, .int .i64 x.f1.f0, .int .i64 x.f1.f1]
end Go.Proofs.Ytncaadckehikpaa.Q
