/- A part of the proof: contracts of functions and plain facts (HRef2, HRef3, Q1). No condition. -/
import Derived.Test.YtncaadckehikpaaM18
import Derived.Test.YtncaadckehikpaaM8
import Derived.Test.YtncaadckehikpaaM23
import Derived.Test.YtncaadckehikpaaM24
import Derived.Test.YtncaadckehikpaaM22
import Derived.Test.YtncaadckehikpaaM3
namespace Go.Proofs.Ytncaadckehikpaa.Q
open Go.RowKit Go.Proofs.YtncaadckehikpaaW.PrintWords Go.Proofs.YtncaadckehikpaaW.PrintLast Go.Proofs.YtncaadckehikpaaW.PrintMore
set_option linter.unusedVariables false
set_option linter.unusedSimpArgs false
theorem checkS_ent {n : Int} {l1 : List S91} {l2 : List S94} (h : checkS n (l1.map c91) (l2.map c94) = 0) : 0 ≤ n ∧ n ≤ 6 ∧ l1.length ≤ 6 ∧ l2.length ≤ 5 ∧ EntOk n l1 ∧ prodS (l1.map c91) ≤ 2000 := by
  obtain ⟨z0, z1, z2, z3, z4, z5, z6⟩ := checkS_zero h
  rw [List.length_map] at z2 z3
  have he : EntOk n l1 := fun e he => List.all_eq_true.1 z4 e he
  rw [manyS_eq _ (fun e h => (he.sizes e h).1)] at z6
  refine ⟨z0, z1, z2, z3, he, ?_⟩
  unfold mn at z6
  split at z6 <;> omega
/-- Ounces of at most 40. -/
def Small (l : List S122) (os : List Int) : Prop := os.length = l.length ∧ ∀ i : Int, 0 ≤ i → i < l.length → 0 ≤ rd os i ∧ rd os i ≤ 40
theorem owedTo_step (l : List S122) (os : List Int) (i : Nat) (w : Int) (h0 : 0 ≤ (rd_T122 l i).f0) (h1 : (rd_T122 l i).f0 < 6) (h2 : 0 ≤ (rd_T122 l i).f1) (h3 : (rd_T122 l i).f1 < 6) (hne : (rd_T122 l i).f0 ≠ (rd_T122 l i).f1) (hw : 0 ≤ w) (hw6 : w < 6) :
    rd (owedTo l os (i + 1)) w = if (rd_T122 l i).f0 = w then rd (owedTo l os i) w + rd os i else if (rd_T122 l i).f1 = w then rd (owedTo l os i) w - rd os i else rd (owedTo l os i) w := by
  simp only [owedTo]
  have hl := owedTo_length l os i
  rw [rd_upd _ _ _ _ h2 (by rw [upd_length, hl]; omega) hw]
  by_cases a : w = (rd_T122 l i).f1
  · rw [if_pos a, if_neg (show ¬ (rd_T122 l i).f0 = w by omega), if_pos a.symm, rd_upd _ _ _ _ h0 (by rw [hl]; omega) h2, if_neg (by omega), a]
  · rw [if_neg a, rd_upd _ _ _ _ h0 (by rw [hl]; omega) hw]
    by_cases b : w = (rd_T122 l i).f0
    · rw [if_pos b, if_pos b.symm, b]
    · rw [if_neg b, if_neg (fun h => b h.symm), if_neg (fun h => a h.symm)]
theorem Owed_l0 (n : Int) (l1 : List S91) (l2 : List S94) (os : List Int) (w : Int) (hck : checkS n (l1.map c91) (l2.map c94) = 0) (ho : Small (l1.map c91) os) (hw : 0 ≤ w) (hw6 : w < 6) :
    ∀ (d k i : Nat), i + d = l1.length → d < k → posserref08_Owed.l0 k os w (rd (owedTo (l1.map c91) os i) w) i n l1 l2 = some (rd (owedL (l1.map c91) os) w)
  | 0, k + 1, i, hi, hk => by
    have hl : (l1.map c91).length = i := by rw [List.length_map]; omega
    rw [posserref08_Owed.l0, if_neg (by omega), owedL, hl]
  | d + 1, k + 1, i, hi, hk => by
    have hn : i < l1.length := by omega
    obtain ⟨z0, z1, z2, z3, z4, z5⟩ := checkS_ent hck
    have he := entry_in hck (i : Int) (by omega) (by rw [List.length_map]; omega)
    have hol := ho.1
    rw [List.length_map] at hol
    have hb := owedTo_bd (l1.map c91) os ho.2 i (by rw [List.length_map]; omega) w
    have hr := ho.2 (i : Int) (by omega) (by rw [List.length_map]; omega)
    have hst := owedTo_step (l1.map c91) os i w (by omega) (by omega) (by omega) (by omega) he.2.2.2.2.1 hw hw6
    have ih := Owed_l0 n l1 l2 os w hck ho hw hw6 d k (i + 1) (by omega) (by omega)
    rw [hst] at ih
    rw [rd_map91 l1 i hn] at ih he
    rw [posserref08_Owed.l0, if_pos (by omega), if_pos (by omega), w1 i (by omega)]
    have e0 : (c91 (rd_T91 l1 (i : Int))).f0 = (rd_T91 l1 (i : Int)).f0 := rfl
    have e1 : (c91 (rd_T91 l1 (i : Int))).f1 = (rd_T91 l1 (i : Int)).f1 := rfl
    rw [e0, e1] at ih
    rw [e0, e1] at he
    by_cases a : (rd_T91 l1 (i : Int)).f0 = w
    · rw [if_pos a, if_pos (by omega), if_neg (show ¬ (rd_T91 l1 (i : Int)).f1 = w by omega), show ∀ x y : Int, -1000 ≤ x → x ≤ 1000 → 0 ≤ y → y ≤ 40 → wrap64 (x + y) = x + y by intro x y q1 q2 q3 q4; unfold wrap64; omega]
      · rw [if_pos a] at ih; exact ih
      all_goals omega
    · rw [if_neg a] at ih ⊢
      by_cases b : (rd_T91 l1 (i : Int)).f1 = w
      · rw [if_pos b] at ih
        rw [if_pos b, if_pos (by omega), show ∀ x y : Int, -1000 ≤ x → x ≤ 1000 → 0 ≤ y → y ≤ 40 → wrap64 (x - y) = x - y by intro x y q1 q2 q3 q4; unfold wrap64; omega]
        · exact ih
        all_goals omega
      · rw [if_neg b] at ih ⊢
        exact ih
/-- What the reference says a woman is owed. -/
theorem Owed_f (k : Nat) (n : Int) (l1 : List S91) (l2 : List S94) (os : List Int) (w : Int) (hck : checkS n (l1.map c91) (l2.map c94) = 0) (ho : Small (l1.map c91) os) (hw : 0 ≤ w) (hw6 : w < 6) (hk : 7 ≤ k) :
    posserref08_Owed.f k n l1 l2 os w = some (rd (owedL (l1.map c91) os) w) := by
  have hl := (checkS_ent hck).2.2.1
  have := Owed_l0 n l1 l2 os w hck ho hw hw6 l1.length k 0 (by omega) (by omega)
  have h0 : rd (owedTo (l1.map c91) os 0) w = 0 := by
    obtain ⟨m, rfl⟩ : ∃ m : Nat, w = m := ⟨w.toNat, by omega⟩
    unfold rd owedTo
    rw [Int.toNat_natCast]
    rcases m with _ | _ | _ | _ | _ | _ | m <;> simp [List.getD]
  rw [h0] at this
  exact this
/-- The first sayings that are right, by bits. -/
def rightTo (l2 : List S124) (v : List Int) : Nat → Nat
  | 0 => 0
  | i + 1 => rightTo l2 v i + (if rightAt l2 v [] i = true then 2 ^ i else 0)
theorem rightTo_lt (l2 : List S124) (v : List Int) : ∀ i, rightTo l2 v i < 2 ^ i
  | 0 => by simp [rightTo]
  | i + 1 => by
    have := rightTo_lt l2 v i
    have h2 : 2 ^ (i + 1) = 2 ^ i + 2 ^ i := by rw [Nat.pow_succ]; omega
    rw [rightTo, h2]
    split <;> omega
theorem rightTo_all (l2 : List S124) (v : List Int) : ∀ i, rightTo l2 v i = 2 ^ i - 1 ↔ ∀ j, j < i → rightAt l2 v [] j = true
  | 0 => by simp [rightTo]
  | i + 1 => by
    have h1 := rightTo_lt l2 v i
    have h2 : 2 ^ (i + 1) = 2 ^ i + 2 ^ i := by rw [Nat.pow_succ]; omega
    have ih := rightTo_all l2 v i
    rw [rightTo, h2]
    constructor
    · intro h j hj
      by_cases a : rightAt l2 v [] i = true
      · rw [if_pos a] at h
        rcases Nat.lt_succ_iff_lt_or_eq.1 hj with q | q
        · exact ih.1 (by omega) j q
        · rw [q]; exact a
      · rw [if_neg a] at h
        omega
    · intro h
      have := ih.2 (fun j hj => h j (by omega))
      rw [if_pos (h i (by omega))]
      omega
/-- The sayings that are right, by bits. -/
def rightN (l2 : List S124) (v : List Int) : Nat := rightTo l2 v l2.length
theorem rightN_all (l2 : List S124) (v : List Int) : rightN l2 v = 2 ^ l2.length - 1 ↔ rightB l2 v [] = true := by
  unfold rightN rightB
  rw [rightTo_all, decide_eq_true_eq]
theorem u64_all : ∀ i : Fin 6, IntKind.u64.wrap ((i.val : Nat) : Int) = ((i.val : Nat) : Int) := by decide +kernel
theorem u64_small (i : Nat) (h : i < 6) : IntKind.u64.wrap ((i : Nat) : Int) = ((i : Nat) : Int) := u64_all ⟨i, h⟩
theorem shl_all : ∀ i : Fin 6, shl .i64 1 ((i.val : Nat) : Int) = wrap64 (2 ^ i.val) := by decide +kernel
theorem shl_small (i : Nat) (h : i < 6) : shl .i64 1 ((i : Nat) : Int) = wrap64 (2 ^ i) := shl_all ⟨i, h⟩
theorem full_all : ∀ i : Fin 6, wrap64 (wrap64 (2 ^ i.val) - 1) = ((2 ^ i.val - 1 : Nat) : Int) := by decide +kernel
theorem full_small (i : Nat) (h : i < 6) : wrap64 (wrap64 (2 ^ i) - 1) = ((2 ^ i - 1 : Nat) : Int) := full_all ⟨i, h⟩
theorem Right_l0 (n : Int) (l1 : List S91) (l2 : List S94) (os : List Int) (hck : checkS n (l1.map c91) (l2.map c94) = 0) (ho : Small (l1.map c91) os) :
    ∀ (d k i : Nat), i + d = l2.length → d + 7 < k → posserref08_Right.l0 k os (rightTo (l2.map c94) (owedL (l1.map c91) os) i : Nat) i n l1 l2 = some ((rightN (l2.map c94) (owedL (l1.map c91) os) : Nat) : Int)
  | 0, k + 1, i, hi, hk => by
    have hl : (l2.map c94).length = i := by rw [List.length_map]; omega
    rw [posserref08_Right.l0, if_neg (by omega), rightN, hl]
  | d + 1, k + 1, i, hi, hk => by
    have hn : i < l2.length := by omega
    obtain ⟨z0, z1, z2, z3, z4, z5⟩ := checkS_ent hck
    have he := saying_in hck (i : Int) (by omega) (by rw [List.length_map]; omega)
    have ih := Right_l0 n l1 l2 os hck ho d k (i + 1) (by omega) (by omega)
    have hb := rightTo_lt (l2.map c94) (owedL (l1.map c91) os) i
    rw [rightTo, rightAt, rd_map94 l2 i hn] at ih
    rw [rd_map94 l2 i hn] at he
    rw [posserref08_Right.l0, if_pos (by omega), if_pos (by omega), w1 i (by omega)]
    have e0 : (c94 (rd_T94 l2 (i : Int))).f0 = (rd_T94 l2 (i : Int)).f0 := rfl
    have e1 : (c94 (rd_T94 l2 (i : Int))).f1.f0 = (rd_T94 l2 (i : Int)).f1.f0 := rfl
    have e2 : (c94 (rd_T94 l2 (i : Int))).f1.f1 = (rd_T94 l2 (i : Int)).f1.f1 := rfl
    rw [e0, e1, e2] at ih he
    rw [Owed_f k n l1 l2 os _ hck ho (by omega) (by omega) (by omega), Option.bind_some]
    have his : posserref08_Is.f (rd (owedL (l1.map c91) os) (rd_T94 l2 (i : Int)).f0) (rd_T94 l2 (i : Int)).f1.f0 (rd_T94 l2 (i : Int)).f1.f1 =
        some (decide ((rd_T94 l2 (i : Int)).f1.f0 ≤ rd (owedL (l1.map c91) os) (rd_T94 l2 (i : Int)).f0) && decide (rd (owedL (l1.map c91) os) (rd_T94 l2 (i : Int)).f0 ≤ (rd_T94 l2 (i : Int)).f1.f1)) := by
      unfold posserref08_Is.f posserref08_In.f
      by_cases a : rd (owedL (l1.map c91) os) (rd_T94 l2 (i : Int)).f0 ≥ (rd_T94 l2 (i : Int)).f1.f0
      · rw [if_pos a]; simp [show (rd_T94 l2 (i : Int)).f1.f0 ≤ rd (owedL (l1.map c91) os) (rd_T94 l2 (i : Int)).f0 from a]
      · rw [if_neg a]; simp [show ¬ (rd_T94 l2 (i : Int)).f1.f0 ≤ rd (owedL (l1.map c91) os) (rd_T94 l2 (i : Int)).f0 from a]
    rw [his, Option.bind_some]
    rw [show hasB [] ((i : Nat) : Int) = false from rfl, Bool.false_or] at ih
    rw [u64_small i (by omega)]
    have hs := shl_small i (by omega)
    rw [hs, if_pos (show (0 : Int) ≤ ((i : Nat) : Int) by omega), or_bit _ i (by omega) hb]
    cases hc : (decide ((rd_T94 l2 (i : Int)).f1.f0 ≤ rd (owedL (l1.map c91) os) (rd_T94 l2 (i : Int)).f0) && decide (rd (owedL (l1.map c91) os) (rd_T94 l2 (i : Int)).f0 ≤ (rd_T94 l2 (i : Int)).f1.f1))
    · rw [hc, if_neg (by simp)] at ih
      rw [if_neg (by simp)]
      exact ih
    · rw [hc, if_pos rfl] at ih
      rw [if_pos rfl]
      exact ih
theorem Right_f (k : Nat) (n : Int) (l1 : List S91) (l2 : List S94) (os : List Int) (hck : checkS n (l1.map c91) (l2.map c94) = 0) (ho : Small (l1.map c91) os) (hk : 20 ≤ k) :
    posserref08_Right.f k n l1 l2 os = some ((rightN (l2.map c94) (owedL (l1.map c91) os) : Nat) : Int) := by
  have hl := (checkS_ent hck).2.2.2.1
  exact Right_l0 n l1 l2 os hck ho l2.length k 0 (by omega) (by omega)
theorem Full_f (n : Int) (l1 : List S91) (l2 : List S94) (h : l2.length ≤ 5) : posserref08_Full.f n l1 l2 = some ((2 ^ l2.length - 1 : Nat) : Int) := by
  unfold posserref08_Full.f
  rw [u64_small _ (by omega), if_pos (by omega), shl_small _ (by omega), full_small _ (by omega)]
end Go.Proofs.Ytncaadckehikpaa.Q
namespace Go.Proofs.Ytncaadckehikpaa.Q
open Go.RowKit Go.Proofs.YtncaadckehikpaaW.PrintWords Go.Proofs.YtncaadckehikpaaW.PrintLast Go.Proofs.YtncaadckehikpaaW.PrintMore
set_option linter.unusedVariables false
set_option linter.unusedSimpArgs false
/-- The reference's truths. -/
def truthsR (l1 : List S122) (l2 : List S124) : List (List Int) := ((List.range (prodN l1)).map (nthS l1)).filter (fun os => rightB l2 (owedL l1 os) [])
theorem small_nth {n : Int} {l1 : List S122} {l2 : List S124} (hck : checkS n l1 l2 = 0) (m : Nat) (hm : m < prodN l1) : Small l1 (nthS l1 m) := by
  have h := enumO_fit l1 l1 [] rfl (by simp) (fun j h0 h1 => absurd h1 (by simp; omega)) (nthS l1 m) ((mem_enumO l1 [] _).2 ⟨m, hm, by simp⟩)
  refine ⟨h.1, fun i h0 h1 => ?_⟩
  have h2 := h.2 i h0 h1
  have h3 := entry_in hck i h0 h1
  omega
theorem prodN_le {n : Int} {l1 : List S91} {l2 : List S94} (hck : checkS n (l1.map c91) (l2.map c94) = 0) : prodN (l1.map c91) ≤ 2000 ∧ ((prodN (l1.map c91) : Nat) : Int) = prodS (l1.map c91) := by
  obtain ⟨z0, z1, z2, z3, z4, z5⟩ := checkS_ent hck
  have := prodN_eq (l1.map c91) (fun e h => (z4.sizes e h).1)
  omega
theorem Many_f0 (k : Nat) (n : Int) (l1 : List S91) (l2 : List S94) (hck : checkS n (l1.map c91) (l2.map c94) = 0) (hk : 7 ≤ k) : posserref08_Many.f k n l1 l2 = some ((prodN (l1.map c91) : Nat) : Int) := by
  obtain ⟨z0, z1, z2, z3, z4, z5⟩ := checkS_ent hck
  rw [Many_f k n l1 l2 z2 z4.sizes hk, (prodN_le hck).2]
  refine congrArg some ?_
  unfold mn
  rw [if_neg (by omega)]
theorem Truths_l0 (n : Int) (l1 : List S91) (l2 : List S94) (hck : checkS n (l1.map c91) (l2.map c94) = 0) : ∀ (d k i : Nat) (acc : List (List Int)), i + d = prodN (l1.map c91) → d + 30 < k → acc.length ≤ i →
    posserref08_Truths.l0 k acc i n l1 l2 = some (acc ++ ((List.range' i d).map (nthS (l1.map c91))).filter (fun os => rightB (l2.map c94) (owedL (l1.map c91) os) []))
  | 0, k + 1, i, acc, hi, hk, ha => by
    rw [posserref08_Truths.l0, Many_f0 k n l1 l2 hck (by omega), Option.bind_some, if_neg (by omega)]
    simp
  | d + 1, k + 1, i, acc, hi, hk, ha => by
    obtain ⟨z0, z1, z2, z3, z4, z5⟩ := checkS_ent hck
    have hp := (prodN_le hck).1
    have hs := small_nth hck i (by omega)
    rw [posserref08_Truths.l0, Many_f0 k n l1 l2 hck (by omega), Option.bind_some, if_pos (by omega), Nth_f k n l1 l2 i z2 z4 (by omega) (by omega), Option.bind_some, Right_f k n l1 l2 _ hck hs (by omega), Option.bind_some,
      Full_f n l1 l2 z3, Option.bind_some, w1 i (by omega), if_pos (show acc.length < 5864062014805 by omega), List.range'_succ, List.map_cons, List.filter_cons]
    have hr := rightN_all (l2.map c94) (owedL (l1.map c91) (nthS (l1.map c91) i))
    rw [List.length_map] at hr
    by_cases h : rightB (l2.map c94) (owedL (l1.map c91) (nthS (l1.map c91) i)) [] = true
    · rw [if_pos (by rw [hr.2 h]), Truths_l0 n l1 l2 hck d k (i + 1) _ (by omega) (by omega) (by simp; omega), if_pos h, List.append_assoc]
      rfl
    · rw [if_neg (fun q => h (hr.1 (by exact_mod_cast q))), Truths_l0 n l1 l2 hck d k (i + 1) _ (by omega) (by omega) (by omega), if_neg h]
theorem Truths_f (k : Nat) (n : Int) (l1 : List S91) (l2 : List S94) (hck : checkS n (l1.map c91) (l2.map c94) = 0) (hk : 3000 ≤ k) : posserref08_Truths.f k n l1 l2 = some (truthsR (l1.map c91) (l2.map c94)) := by
  have hp := (prodN_le hck).1
  have := Truths_l0 n l1 l2 hck (prodN (l1.map c91)) k 0 [] (by omega) (by omega) (by simp)
  rw [List.nil_append] at this
  rw [truthsR, List.range_eq_range']
  exact this
theorem sure_f (k : Nat) (n : Int) (l1 : List S91) (l2 : List S94) (hk : 3000 ≤ k) : posserlaw08_sure.f k n l1 l2 =
    some (if checkS n (l1.map c91) (l2.map c94) = 0 then (if truthsR (l1.map c91) (l2.map c94) = [] then ([], 11) else (truthsR (l1.map c91) (l2.map c94), 0)) else ([], checkS n (l1.map c91) (l2.map c94))) := by
  unfold posserlaw08_sure.f posserlaw08_fault.f
  rw [Fault_f k n l1 l2 (by omega)]
  simp only [Option.bind_some]
  by_cases h : checkS n (l1.map c91) (l2.map c94) = 0
  · rw [if_pos h, if_pos h, Truths_f k n l1 l2 h hk, Option.bind_some]
    by_cases h2 : truthsR (l1.map c91) (l2.map c94) = []
    · rw [if_pos h2, h2]; rfl
    · rw [if_neg h2, if_neg]
      have := List.length_pos_iff.2 h2
      omega
  · rw [if_neg h, if_neg h]
theorem mem_ask (l1 : List S122) (l2 : List S124) (v : List Int) : ∀ (oss acc : List (List Int)), v ∈ oss.foldl (askStep l1 l2) acc ↔ v ∈ acc ∨ ∃ os ∈ oss, rightB l2 (owedL l1 os) [] = true ∧ v = owedL l1 os
  | [], acc => by simp
  | o :: r, acc => by
    rw [List.foldl_cons, mem_ask l1 l2 v r]
    have h : v ∈ askStep l1 l2 acc o ↔ v ∈ acc ∨ (rightB l2 (owedL l1 o) [] = true ∧ v = owedL l1 o) := by
      unfold askStep
      by_cases h : rightB l2 (owedL l1 o) [] = true
      · by_cases h2 : acc.getLast? = some (owedL l1 o)
        · rw [if_neg (fun q => q.2 h2)]
          exact ⟨Or.inl, fun q => q.elim id (fun q => q.2 ▸ List.mem_of_getLast? h2)⟩
        · rw [if_pos ⟨h, h2⟩]
          simp [h]
      · rw [if_neg (fun q => h q.1)]
        simp [h]
    rw [h]
    constructor
    · rintro ((h | h) | ⟨os, h1, h2⟩)
      · exact Or.inl h
      · exact Or.inr ⟨o, by simp, h⟩
      · exact Or.inr ⟨os, by simp [h1], h2⟩
    · rintro (h | ⟨os, h1, h2⟩)
      · exact Or.inl (Or.inl h)
      · rcases List.mem_cons.1 h1 with rfl | h1
        · exact Or.inl (Or.inr h2)
        · exact Or.inr ⟨os, h1, h2⟩
theorem mem_truthsR (l1 : List S122) (l2 : List S124) (os : List Int) : os ∈ truthsR l1 l2 ↔ os ∈ enumO [] l1 ∧ rightB l2 (owedL l1 os) [] = true := by
  unfold truthsR
  rw [List.mem_filter, mem_enumO]
  refine and_congr ?_ Iff.rfl
  simp only [List.mem_map, List.mem_range, List.nil_append]
  exact ⟨fun ⟨m, h, e⟩ => ⟨m, h, e.symm⟩, fun ⟨m, h, e⟩ => ⟨m, h, e.symm⟩⟩
/-- The program's vectors are those of the reference's truths. -/
theorem mem_truthsL (l1 : List S122) (l2 : List S124) (v : List Int) : v ∈ truthsL l1 l2 ↔ ∃ os ∈ truthsR l1 l2, v = owedL l1 os := by
  unfold truthsL askedL
  rw [mem_ask]
  simp only [List.not_mem_nil, false_or, mem_truthsR]
  exact ⟨fun ⟨os, h1, h2, h3⟩ => ⟨os, ⟨h1, h2⟩, h3⟩, fun ⟨os, ⟨h1, h2⟩, h3⟩ => ⟨os, h1, h2, h3⟩⟩
theorem truthsL_nil (l1 : List S122) (l2 : List S124) : truthsL l1 l2 = [] ↔ truthsR l1 l2 = [] := by
  rw [List.eq_nil_iff_forall_not_mem, List.eq_nil_iff_forall_not_mem]
  constructor
  · intro h os ho
    exact h _ ((mem_truthsL l1 l2 _).2 ⟨os, ho, rfl⟩)
  · intro h v hv
    obtain ⟨os, ho, _⟩ := (mem_truthsL l1 l2 v).1 hv
    exact h os ho
theorem small_truths {n : Int} {l1 : List S122} {l2 : List S124} (hck : checkS n l1 l2 = 0) : ∀ os ∈ truthsR l1 l2, Small l1 os := by
  intro os ho
  obtain ⟨m, hm, rfl⟩ := (mem_enumO l1 [] os).1 ((mem_truthsR l1 l2 os).1 ho).1
  exact small_nth hck m hm
/-- Bounds of numbers: the ends are among them. -/
theorem bnd_fold : ∀ (r : List Int) (b : Int × Int) (P : Int → Prop), P b.1 → P b.2 → (∀ x, P x → b.1 ≤ x ∧ x ≤ b.2) →
    (P (r.foldl (fun b y => (mn b.1 y, mx b.2 y)) b).1 ∨ (r.foldl (fun b y => (mn b.1 y, mx b.2 y)) b).1 ∈ r) ∧ (P (r.foldl (fun b y => (mn b.1 y, mx b.2 y)) b).2 ∨ (r.foldl (fun b y => (mn b.1 y, mx b.2 y)) b).2 ∈ r) ∧
      ∀ x, P x ∨ x ∈ r → (r.foldl (fun b y => (mn b.1 y, mx b.2 y)) b).1 ≤ x ∧ x ≤ (r.foldl (fun b y => (mn b.1 y, mx b.2 y)) b).2
  | [], b, P, h1, h2, h3 => ⟨Or.inl h1, Or.inl h2, fun x h => h3 x (h.elim id (fun q => absurd q (by simp)))⟩
  | y :: r, b, P, h1, h2, h3 => by
    have h := bnd_fold r (mn b.1 y, mx b.2 y) (fun x => P x ∨ x = y) (by unfold mn; simp only; split <;> simp [h1]) (by unfold mx; simp only; split <;> simp [h2]) (by
      intro x hx
      rcases hx with hx | hx
      · have := h3 x hx
        unfold mn mx
        simp only
        constructor <;> split <;> omega
      · unfold mn mx
        simp only
        constructor <;> split <;> omega)
    rw [List.foldl_cons]
    refine ⟨?_, ?_, fun x hx => h.2.2 x ?_⟩
    · rcases h.1 with (q | q) | q
      · exact Or.inl q
      · exact Or.inr (by rw [q]; simp)
      · exact Or.inr (List.mem_cons_of_mem _ q)
    · rcases h.2.1 with (q | q) | q
      · exact Or.inl q
      · exact Or.inr (by rw [q]; simp)
      · exact Or.inr (List.mem_cons_of_mem _ q)
    · rcases hx with hx | hx
      · exact Or.inl (Or.inl hx)
      · rcases List.mem_cons.1 hx with hx | hx
        · exact Or.inl (Or.inr hx)
        · exact Or.inr hx
theorem bnd_spec (xs : List Int) (h : xs ≠ []) : (bndL xs).1 ∈ xs ∧ (bndL xs).2 ∈ xs ∧ ∀ x ∈ xs, (bndL xs).1 ≤ x ∧ x ≤ (bndL xs).2 := by
  cases xs with
  | nil => exact absurd rfl h
  | cons x r =>
    have := bnd_fold r (x, x) (fun y => y = x) rfl rfl (fun y hy => by subst hy; simp)
    simp only [bndL]
    refine ⟨?_, ?_, fun y hy => this.2.2 y (List.mem_cons.1 hy)⟩
    · exact List.mem_cons.2 this.1
    · exact List.mem_cons.2 this.2.1
theorem bnd_ext (xs ys : List Int) (h : xs ≠ []) (he : ∀ x, x ∈ xs ↔ x ∈ ys) : bndL xs = bndL ys := by
  have hy : ys ≠ [] := by
    intro q
    obtain ⟨x, hx⟩ := List.exists_mem_of_ne_nil _ h
    rw [q] at he
    exact absurd ((he x).1 hx) (by simp)
  obtain ⟨a1, a2, a3⟩ := bnd_spec xs h
  obtain ⟨b1, b2, b3⟩ := bnd_spec ys hy
  have c1 := a3 _ ((he _).2 b1)
  have c2 := a3 _ ((he _).2 b2)
  have d1 := b3 _ ((he _).1 a1)
  have d2 := b3 _ ((he _).1 a2)
  refine Prod.ext ?_ ?_ <;> omega
/-- The reference's bounds begin with an empty range. -/
theorem bnd_empty (xs : List Int) (h : xs ≠ []) (hb : ∀ x ∈ xs, -1000 ≤ x ∧ x ≤ 1000) : xs.foldl (fun b y => (mn b.1 y, mx b.2 y)) ((1099511627776, -1099511627776) : Int × Int) = bndL xs := by
  cases xs with
  | nil => exact absurd rfl h
  | cons x r =>
    have := hb x (by simp)
    simp only [List.foldl_cons, bndL]
    rw [show mn 1099511627776 x = x by unfold mn; rw [if_pos (by omega)], show mx (-1099511627776) x = x by unfold mx; rw [if_pos (by omega)]]
theorem rdL4 (xs : List (List Int)) (i : Nat) (h : i < xs.length) : rd_L4 xs (i : Int) = xs[i] := getD_of xs _ i h
section
variable (n : Int) (l1 : List S91) (l2 : List S94) (oss : List (List Int)) (w : Int) (hck : checkS n (l1.map c91) (l2.map c94) = 0) (ho : ∀ os ∈ oss, Small (l1.map c91) os) (hl : oss.length ≤ 2000) (hw : 0 ≤ w) (hw6 : w < 6)
include hck ho hl hw hw6
theorem RBounds_l0 : ∀ (d k i : Nat) (a b : Int), i + d = oss.length → d + 7 < k →
    posserref08_Bounds.l0 k oss w i n l1 l2 a b = some (((oss.drop i).map (fun os => rd (owedL (l1.map c91) os) w)).foldl (fun b y => (mn b.1 y, mx b.2 y)) (a, b))
  | 0, k + 1, i, a, b, hi, hk => by
    rw [posserref08_Bounds.l0, if_neg (by omega), List.drop_of_length_le (by omega)]
    rfl
  | d + 1, k + 1, i, a, b, hi, hk => by
    have hn : i < oss.length := by omega
    rw [posserref08_Bounds.l0, if_pos (by omega), if_pos (by omega), w1 i (by omega), rdL4 oss i hn, Owed_f k n l1 l2 _ w hck (ho _ (List.getElem_mem hn)) hw hw6 (by omega), Option.bind_some, posserref08_Wider.f, Option.bind_some,
      RBounds_l0 d k (i + 1) _ _ (by omega) (by omega), List.drop_eq_getElem_cons hn, List.map_cons, List.foldl_cons]
theorem ROwes_l0 : ∀ (d k i c : Nat), i + d = oss.length → d + 7 < k → c ≤ i →
    posserref08_Owes.l0 k oss w c i n l1 l2 = some (if c + ((oss.drop i).map (fun os => rd (owedL (l1.map c91) os) w)).countP (fun x => decide (x < 0)) = oss.length then 1 else if c + ((oss.drop i).map (fun os => rd (owedL (l1.map c91) os) w)).countP (fun x => decide (x < 0)) = 0 then 2 else 3)
  | 0, k + 1, i, c, hi, hk, hc => by
    rw [posserref08_Owes.l0, if_neg (by omega), List.drop_of_length_le (by omega)]
    simp only [List.map_nil, List.countP_nil, Nat.add_zero]
    by_cases a : c = oss.length
    · rw [if_pos a, if_pos (by omega)]
    · rw [if_neg a, if_neg (by omega)]
      by_cases b : c = 0
      · rw [if_pos b, if_pos (by omega)]
      · rw [if_neg b, if_neg (by omega)]
  | d + 1, k + 1, i, c, hi, hk, hc => by
    have hn : i < oss.length := by omega
    rw [posserref08_Owes.l0, if_pos (by omega), if_pos (by omega), w1 i (by omega), w1 c (by omega), rdL4 oss i hn, Owed_f k n l1 l2 _ w hck (ho _ (List.getElem_mem hn)) hw hw6 (by omega), Option.bind_some, List.drop_eq_getElem_cons hn, List.map_cons, List.countP_cons]
    by_cases a : rd (owedL (l1.map c91) oss[i]) w < 0
    · rw [if_pos a, ROwes_l0 d k (i + 1) (c + 1) (by omega) (by omega) (by omega)]
      simp only [a, decide_true, if_true]
      rw [show c + 1 + List.countP (fun x => decide (x < 0)) (List.map (fun os => rd (owedL (List.map c91 l1) os) w) (List.drop (i + 1) oss)) = c + (List.countP (fun x => decide (x < 0)) (List.map (fun os => rd (owedL (List.map c91 l1) os) w) (List.drop (i + 1) oss)) + 1) by omega]
    · rw [if_neg a, ROwes_l0 d k (i + 1) c (by omega) (by omega) (by omega)]
      simp only [a, decide_false, Bool.false_eq_true, if_false, Nat.add_zero]
theorem RBounds_f (k : Nat) (hne : oss ≠ []) (hb : ∀ os ∈ oss, -1000 ≤ rd (owedL (l1.map c91) os) w ∧ rd (owedL (l1.map c91) os) w ≤ 1000) (hk : 3000 ≤ k) : posserref08_Bounds.f k n l1 l2 oss w = some (bndL (oss.map (fun os => rd (owedL (l1.map c91) os) w))) := by
  have h1 := RBounds_l0 n l1 l2 oss w hck ho hl hw hw6 oss.length k 0 1099511627776 (-1099511627776) (by omega) (by omega)
  rw [List.drop_zero, bnd_empty _ (by simpa using hne) (by intro x hx; obtain ⟨os, h, rfl⟩ := List.mem_map.1 hx; exact hb os h)] at h1
  unfold posserref08_Bounds.f posserref08_Empty.f
  exact h1
/-- The verdict of bounds. -/
theorem ROwes_f (k : Nat) (hne : oss ≠ []) (hk : 3000 ≤ k) : posserref08_Owes.f k n l1 l2 oss w =
    some (if (bndL (oss.map (fun os => rd (owedL (l1.map c91) os) w))).2 < 0 then 1 else if (bndL (oss.map (fun os => rd (owedL (l1.map c91) os) w))).1 ≥ 0 then 2 else 3) := by
  have h1 := ROwes_l0 n l1 l2 oss w hck ho hl hw hw6 oss.length k 0 0 (by omega) (by omega) (by omega)
  have hlen : oss.length = (oss.map (fun os => rd (owedL (l1.map c91) os) w)).length := by simp
  rw [List.drop_zero, Nat.zero_add, hlen] at h1
  refine Eq.trans (show posserref08_Owes.f k n l1 l2 oss w = _ from h1) (congrArg some ?_)
  have hne' : oss.map (fun os => rd (owedL (l1.map c91) os) w) ≠ [] := by simpa using hne
  obtain ⟨a1, a2, a3⟩ := bnd_spec _ hne'
  generalize oss.map (fun os => rd (owedL (l1.map c91) os) w) = xs at *
  by_cases p : (bndL xs).2 < 0
  · rw [if_pos p, if_pos]
    rw [List.countP_eq_length]
    intro x hx
    have := a3 x hx
    simp only [decide_eq_true_eq]
    omega
  · rw [if_neg p, if_neg (fun q => p (by simpa using List.countP_eq_length.1 q _ a2))]
    by_cases r : (bndL xs).1 ≥ 0
    · rw [if_pos r, if_pos]
      rw [List.countP_eq_zero]
      intro x hx
      have := a3 x hx
      simp only [decide_eq_true_eq]
      omega
    · rw [if_neg r, if_neg (fun q => by have := List.countP_eq_zero.1 q _ a1; simp only [decide_eq_true_eq] at this; omega)]
end
end Go.Proofs.Ytncaadckehikpaa.Q
namespace Go.Proofs.Ytncaadckehikpaa.Q
open Go.RowKit Go.Proofs.YtncaadckehikpaaW.PrintWords Go.Proofs.YtncaadckehikpaaW.PrintLast Go.Proofs.YtncaadckehikpaaW.PrintMore
attribute [local go_sem] max2_int min2_int max_two min_two   -- for this text's walks alone
set_option linter.unusedVariables false
set_option linter.unusedSimpArgs false
theorem eqA44 (d : Nat) (w : World) (x0 y0 : Int) (x1 y1 : Int) :
  (Op.equalIn (d + 2) 44 (.agg #[.int .i64 x0, .int .i64 x1]) (.agg #[.int .i64 y0, .int .i64 y1])).run Try.prog w = .ok (x0 == y0 && (x1 == y1)) w := by
 refine eqA_of Try.underlying44 (by kernel_rfl) ?_
 refine eqf_cons (by rfl) (by go_simp; rfl) (by go_simp; rfl) (by go_simp) ?_
 exact eqf_last (by rfl) (by go_simp; rfl) (by go_simp; rfl) (by go_simp)
end Go.Proofs.Ytncaadckehikpaa.Q
