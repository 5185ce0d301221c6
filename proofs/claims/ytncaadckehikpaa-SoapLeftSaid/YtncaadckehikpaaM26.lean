/- A part of the proof: contracts of functions and plain facts (HMono, HPay0, HPay1, Q28, HLFewest, HPay2, Q12, Q19, HRef4, Q5, Q20, Q21, HPay3, HNth, HLMore0, HSome). No condition. -/
import Derived.Test.YtncaadckehikpaaM21
import Derived.Test.YtncaadckehikpaaM25
import Derived.Test.YtncaadckehikpaaM17
import Derived.Test.YtncaadckehikpaaM3
import Derived.Test.YtncaadckehikpaaM22
import Derived.Test.YtncaadckehikpaaM11
import Derived.Test.YtncaadckehikpaaM12
import Derived.Test.YtncaadckehikpaaM15
import Derived.Test.YtncaadckehikpaaM24
import Derived.Test.YtncaadckehikpaaM20
import Derived.Test.YtncaadckehikpaaM13
import Derived.Test.YtncaadckehikpaaM10
namespace Go.Proofs.Ytncaadckehikpaa.Q
open Go.RowKit Go.Proofs.YtncaadckehikpaaW.PrintWords Go.Proofs.YtncaadckehikpaaW.PrintLast Go.Proofs.YtncaadckehikpaaW.PrintMore
set_option linter.unusedVariables false
set_option linter.unusedSimpArgs false
theorem askErr_zero {n : Int} {l1 : List S122} {l2 : List S124} (hck : checkS n l1 l2 = 0) (hne : truthsL l1 l2 ≠ []) : askErr n l1 l2 = 0 := by
  unfold truthsL at hne
  unfold askErr
  rw [if_pos hck, if_neg hne]
theorem askErr_false {n : Int} {l1 : List S122} {l2 : List S124} (hck : checkS n l1 l2 = 0) (hne : truthsL l1 l2 = []) : askErr n l1 l2 = 11 := by
  unfold truthsL at hne
  unfold askErr
  rw [if_pos hck, if_pos hne]
/-- A set that may be left out, as truths of the rest: none is left out. -/
theorem poss_truths (l1 : List S122) (l2 : List S124) : possB l1 l2 [] = true ↔ truthsL l1 l2 ≠ [] := by
  have h : truthsL l1 l2 ≠ [] ↔ ∃ v, v ∈ truthsL l1 l2 := by
    constructor
    · intro h
      cases hx : truthsL l1 l2 with
      | nil => exact absurd hx h
      | cons v r => exact ⟨v, by simp⟩
    · rintro ⟨v, hv⟩ e
      rw [e] at hv
      simp at hv
  rw [h]
  unfold possB anyL
  rw [List.any_eq_true]
  constructor
  · rintro ⟨os, ho, hr⟩
    exact ⟨owedL l1 os, (mem_truthsL l1 l2 _).2 ⟨os, (mem_truthsR l1 l2 os).2 ⟨ho, hr⟩, rfl⟩⟩
  · rintro ⟨v, hv⟩
    obtain ⟨os, ho, rfl⟩ := (mem_truthsL l1 l2 v).1 hv
    exact ⟨os, ((mem_truthsR l1 l2 os).1 ho).1, ((mem_truthsR l1 l2 os).1 ho).2⟩
section
variable (n : Int) (l1 : List S91) (l2 : List S94) (hck : checkS n (l1.map c91) (l2.map c94) = 0)
include hck
/-- What is left out is possible, and first in the order of sets. -/
theorem leave_spec : ∃ x, x < 2 ^ l2.length ∧ leaveO (l1.map c91) (l2.map c94) = some (bitsL x) ∧ possB (l1.map c91) (l2.map c94) (bitsL x) = true ∧ ∀ y, y < 2 ^ l2.length → possB (l1.map c91) (l2.map c94) (bitsL y) = true → (orderM l2.length).idxOf x ≤ (orderM l2.length).idxOf y := by
  obtain ⟨z0, z1, z2, z3, z4, z5⟩ := checkS_ent hck
  have h32 : 1 ≤ 2 ^ l2.length ∧ 2 ^ l2.length ≤ 32 := ⟨Nat.one_le_two_pow, pw32 z3⟩
  have hf := poss_full n l1 l2 hck
  have hL : leaveO (l1.map c91) (l2.map c94) = ((orderM l2.length).find? (fun b => possB (l1.map c91) (l2.map c94) (bitsL b))).map bitsL := by
    unfold leaveO
    rw [List.length_map, order_all ⟨l2.length, by omega⟩, List.find?_map]
    rfl
  rcases hx : (orderM l2.length).find? (fun b => possB (l1.map c91) (l2.map c94) (bitsL b)) with _ | x
  · have hmem := order_mem_all ⟨l2.length, by omega⟩ ⟨2 ^ l2.length - 1, by omega⟩ (by show 2 ^ l2.length - 1 < 2 ^ l2.length; omega)
    exact absurd hf (by simpa using List.find?_eq_none.1 hx _ hmem)
  · obtain ⟨x1, x2, x3⟩ := find_least _ _ _ hx
    have hxl := order_lt_all ⟨l2.length, by omega⟩ x x2
    exact ⟨x, hxl, by rw [hL, hx]; rfl, x1, fun y hy hp => x3 y (order_mem_all ⟨l2.length, by omega⟩ ⟨y, by omega⟩ hy) hp⟩
end
end Go.Proofs.Ytncaadckehikpaa.Q
namespace Go.Proofs.Ytncaadckehikpaa.Q
open Go.RowKit Go.Proofs.YtncaadckehikpaaW.PrintWords Go.Proofs.YtncaadckehikpaaW.PrintLast Go.Proofs.YtncaadckehikpaaW.PrintMore
set_option linter.unusedVariables false
set_option linter.unusedSimpArgs false
end Go.Proofs.Ytncaadckehikpaa.Q
namespace Go.Proofs.Ytncaadckehikpaa.Q
open Go.RowKit Go.Proofs.YtncaadckehikpaaW.PrintWords Go.Proofs.YtncaadckehikpaaW.PrintLast Go.Proofs.YtncaadckehikpaaW.PrintMore
set_option linter.unusedVariables false
set_option linter.unusedSimpArgs false
end Go.Proofs.Ytncaadckehikpaa.Q
namespace Go.Proofs.Ytncaadckehikpaa.Q
open Go.RowKit Go.Proofs.YtncaadckehikpaaW.PrintWords Go.Proofs.YtncaadckehikpaaW.PrintLast Go.Proofs.YtncaadckehikpaaW.PrintMore
attribute [local go_sem] z30 z29 max_two min_two   -- for this text's walks alone
set_option linter.unusedVariables false
set_option linter.unusedSimpArgs false
/-! ### pl_SoapFewest: function 5 -/
def pl_SoapFewest.f (k : Nat) (a0_0 : Int) (l0_1 : List (S91)) (l0_2 : List (S94)) : Option (Bool) := (pl_Thin.f a0_0 l0_1 l0_2).bind fun t336 => (if t336 = true then ((pl_Slate.f k a0_0 l0_1 l0_2).bind fun bt338 => ((soap_Fewest.f bt338.1 bt338.2.1 bt338.2.2).bind fun bt345 => ((pl_sure.f k a0_0 l0_1 l0_2).bind fun bt349 => (if bt349.2 = 0 then (if bt345.2.2 = 0 then ((pr_Fewest.f k a0_0 l0_1 l0_2 bt349.1).bind fun bt353 => ((pl_to.f bt353.1 bt353.2).bind fun bt355 => (if (bt345.1 == bt355.1 && (bt345.2.1 == bt355.2)) = true then ((pl_awake.f).bind fun t357 => (some t357)) else (some false)))) else (some false)) else (if bt345.2.2 = bt349.2 then (if (bt345.1 == 0 && (bt345.2.1 == 0)) = true then ((pl_awake.f).bind fun t358 => (some t358)) else (some false)) else (some false)))))) else ((pl_awake.f).bind fun t337 => (some t337)))
end Go.Proofs.Ytncaadckehikpaa.Q
namespace Go.Proofs.Ytncaadckehikpaa.Q
open Go.RowKit Go.Proofs.YtncaadckehikpaaW.PrintWords Go.Proofs.YtncaadckehikpaaW.PrintLast Go.Proofs.YtncaadckehikpaaW.PrintMore
set_option linter.unusedVariables false
set_option linter.unusedSimpArgs false
set_option linter.unusedSectionVars false
section
variable (n : Int) (l1 : List S91) (l2 : List S94) (os : List Int) (hck : checkS n (l1.map c91) (l2.map c94) = 0) (ho : Small (l1.map c91) os)
include hck ho
end
section
variable (n : Int) (l1 : List S91) (l2 : List S94) (oss : List (List Int)) (hck : checkS n (l1.map c91) (l2.map c94) = 0) (ho : ∀ os ∈ oss, Small (l1.map c91) os) (hl : oss.length ≤ 2000)
include hck ho hl
end
end Go.Proofs.Ytncaadckehikpaa.Q
namespace Go.Proofs.Ytncaadckehikpaa.Q
open Go.RowKit Go.Proofs.YtncaadckehikpaaW.PrintWords Go.Proofs.YtncaadckehikpaaW.PrintLast Go.Proofs.YtncaadckehikpaaW.PrintMore
set_option linter.unusedVariables false
set_option linter.unusedSimpArgs false
end Go.Proofs.Ytncaadckehikpaa.Q
namespace Go.Proofs.Ytncaadckehikpaa.Q
open Go.RowKit Go.Proofs.YtncaadckehikpaaW.PrintWords Go.Proofs.YtncaadckehikpaaW.PrintLast Go.Proofs.YtncaadckehikpaaW.PrintMore
attribute [local go_sem] z30 z29 max_two min_two   -- for this text's walks alone
set_option linter.unusedVariables false
set_option linter.unusedSimpArgs false
/-! ### pl_list: function 30 -/
def pl_list.f (l0 : List Int) : Option (List Int) := (some (([] : List Int) : List Int)).bind fun y261 => (if y261.length + l0.length < 17592186044416 then (some (y261 ++ l0)) else (none))
/-! ### pr_AreOunces: function 32 -/
def pr_AreOunces.l0 : Nat → List Int → Int → Int → List (S91) → List (S94) → Option (Bool)
 | 0, _, _, _, _, _ => none
 | k + 1, x1, x5, x268000, x268001, x268002 => if x5 < (x1.length : Int) then (if 0 ≤ x5 then (if x5 < (x268001.length : Int) then ((pr_Is.f (rd x1 x5) ((rd_T91 x268001 x5).f2.f0) ((rd_T91 x268001 x5).f2.f1)).bind fun t270 => (if t270 = true then (pr_AreOunces.l0 k x1 (wrap64 (x5 + 1)) x268000 x268001 x268002) else (some false))) else (none)) else (none)) else (some true)
def pr_AreOunces.f (k : Nat) (a0_0 : Int) (l0_1 : List (S91)) (l0_2 : List (S94)) (l1 : List Int) : Option (Bool) := if (l1.length : Int) = (l0_1.length : Int) then (pr_AreOunces.l0 k l1 0 a0_0 l0_1 l0_2) else (some false)
end Go.Proofs.Ytncaadckehikpaa.Q
namespace Go.Proofs.Ytncaadckehikpaa.Q
open Go.RowKit Go.Proofs.YtncaadckehikpaaW.PrintWords Go.Proofs.YtncaadckehikpaaW.PrintLast Go.Proofs.YtncaadckehikpaaW.PrintMore
attribute [local go_sem] z30 z29 max_two min_two   -- for this text's walks alone
set_option linter.unusedVariables false
set_option linter.unusedSimpArgs false
/-! ### pr_IsTruth: function 66 -/
def pr_IsTruth.f (k : Nat) (a0_0 : Int) (l0_1 : List (S91)) (l0_2 : List (S94)) (l1 : List Int) : Option (Bool) := (pr_AreOunces.f k a0_0 l0_1 l0_2 l1).bind fun t1016 => (if t1016 = true then ((pr_Right.f k a0_0 l0_1 l0_2 l1).bind fun t1017 => ((pr_Full.f a0_0 l0_1 l0_2).bind fun t1018 => (some (t1017 == t1018)))) else (some false))
end Go.Proofs.Ytncaadckehikpaa.Q
namespace Go.Proofs.Ytncaadckehikpaa.Q
open Go.RowKit Go.Proofs.YtncaadckehikpaaW.PrintWords Go.Proofs.YtncaadckehikpaaW.PrintLast Go.Proofs.YtncaadckehikpaaW.PrintMore
set_option linter.unusedVariables false
set_option linter.unusedSimpArgs false
end Go.Proofs.Ytncaadckehikpaa.Q
namespace Go.Proofs.Ytncaadckehikpaa.Q
open Go.RowKit Go.Proofs.YtncaadckehikpaaW.PrintWords Go.Proofs.YtncaadckehikpaaW.PrintLast Go.Proofs.YtncaadckehikpaaW.PrintMore
attribute [local go_sem] z30 z29 max_two min_two   -- for this text's walks alone
set_option linter.unusedVariables false
set_option linter.unusedSimpArgs false
/-! ### pl_payments: function 51 -/
def pl_payments.l0 : Nat → List (S76) → List (S140) → Int → Option ((List (S140)))
 | 0, _, _, _ => none
 | k + 1, x0, x3, x4 => if x4 < (x0.length : Int) then (if 0 ≤ x4 then (if x3.length < 5864062014805 then (pl_payments.l0 k x0 (x3 ++ [(⟨(rd_T76 x0 x4).f0, (rd_T76 x0 x4).f1, (rd_T76 x0 x4).f2⟩ : S140)]) (wrap64 (x4 + 1))) else (none)) else (none)) else (some x3)
def pl_payments.f (k : Nat) (l0 : List (S76)) : Option ((List (S140))) := pl_payments.l0 k l0 ([] : List (S140)) 0
/-! ### pl_Payments: function 57 -/
def pl_Payments.l0 : Nat → List (S140) → List (S76) → Int → Option ((List (S76)))
 | 0, _, _, _ => none
 | k + 1, x0, x3, x4 => if x4 < (x0.length : Int) then (if 0 ≤ x4 then (if x3.length < 5864062014805 then (pl_Payments.l0 k x0 (x3 ++ [(⟨(rd_T140 x0 x4).f0, (rd_T140 x0 x4).f1, (rd_T140 x0 x4).f2⟩ : S76)]) (wrap64 (x4 + 1))) else (none)) else (none)) else (some x3)
def pl_Payments.f (k : Nat) (l0 : List (S140)) : Option ((List (S76))) := pl_Payments.l0 k l0 ([] : List (S76)) 0
end Go.Proofs.Ytncaadckehikpaa.Q
namespace Go.Proofs.Ytncaadckehikpaa.Q
open Go.RowKit Go.Proofs.YtncaadckehikpaaW.PrintWords Go.Proofs.YtncaadckehikpaaW.PrintLast Go.Proofs.YtncaadckehikpaaW.PrintMore
attribute [local go_sem] z30 z29 max_two min_two   -- for this text's walks alone
set_option linter.unusedVariables false
set_option linter.unusedSimpArgs false
/-! ### pr_ArePayments: function 50 -/
def pr_ArePayments.l0 : Nat → List (S140) → Int → Int → List (S91) → List (S94) → Option (Bool)
 | 0, _, _, _, _, _ => none
 | k + 1, x1, x5, x427000, x427001, x427002 => if x5 < (x1.length : Int) then (if 0 ≤ x5 then ((pr_ArePair.f x427000 x427001 x427002 ((rd_T140 x1 x5).f0) ((rd_T140 x1 x5).f1)).bind fun t429 => (if t429 = true then ((pr_In.f ((rd_T140 x1 x5).f2) 1 240).bind fun t431 => (if t431 = true then (pr_ArePayments.l0 k x1 (wrap64 (x5 + 1)) x427000 x427001 x427002) else (some false))) else (some false))) else (none)) else (some true)
def pr_ArePayments.f (k : Nat) (a0_0 : Int) (l0_1 : List (S91)) (l0_2 : List (S94)) (l1 : List (S140)) : Option (Bool) := pr_ArePayments.l0 k l1 0 a0_0 l0_1 l0_2
end Go.Proofs.Ytncaadckehikpaa.Q
namespace Go.Proofs.Ytncaadckehikpaa.Q
open Go.RowKit Go.Proofs.YtncaadckehikpaaW.PrintWords Go.Proofs.YtncaadckehikpaaW.PrintLast Go.Proofs.YtncaadckehikpaaW.PrintMore
attribute [local go_sem] z30 z29 max_two min_two   -- for this text's walks alone
set_option linter.unusedVariables false
set_option linter.unusedSimpArgs false
/-! ### pr_Settles: function 69 -/
mutual
def pr_Settles.l0 : Nat → List Int → List (S140) → Int → Int → List (S91) → List (S94) → Option (Bool)
 | 0, _, _, _, _, _, _ => none
 | k + 1, x1, x2, x7, x1081000, x1081001, x1081002 => if x7 < x1081000 then ((pr_Owed.f k x1081000 x1081001 x1081002 x1 x7).bind fun t1081 => (pr_Settles.l1 k x1 x2 x7 t1081 0 x1081000 x1081001 x1081002)) else (some true)
def pr_Settles.l1 : Nat → List Int → List (S140) → Int → Int → Int → Int → List (S91) → List (S94) → Option (Bool)
 | 0, _, _, _, _, _, _, _, _ => none
 | k + 1, x1, x2, x7, x8, x9, x1081000, x1081001, x1081002 => if x9 < (x2.length : Int) then (if 0 ≤ x9 then (if ((rd_T140 x2 x9).f0) = x7 then (if ((rd_T140 x2 x9).f1) = x7 then (pr_Settles.l1 k x1 x2 x7 (wrap64 ((wrap64 (x8 + ((rd_T140 x2 x9).f2))) - ((rd_T140 x2 x9).f2))) (wrap64 (x9 + 1)) x1081000 x1081001 x1081002) else (pr_Settles.l1 k x1 x2 x7 (wrap64 (x8 + ((rd_T140 x2 x9).f2))) (wrap64 (x9 + 1)) x1081000 x1081001 x1081002)) else (if ((rd_T140 x2 x9).f1) = x7 then (pr_Settles.l1 k x1 x2 x7 (wrap64 (x8 - ((rd_T140 x2 x9).f2))) (wrap64 (x9 + 1)) x1081000 x1081001 x1081002) else (pr_Settles.l1 k x1 x2 x7 x8 (wrap64 (x9 + 1)) x1081000 x1081001 x1081002))) else (none)) else (if x8 = 0 then (pr_Settles.l0 k x1 x2 (wrap64 (x7 + 1)) x1081000 x1081001 x1081002) else (some false))
end
def pr_Settles.f (k : Nat) (a0_0 : Int) (l0_1 : List (S91)) (l0_2 : List (S94)) (l1 : List Int) (l2 : List (S140)) : Option (Bool) := pr_Settles.l0 k l1 l2 0 a0_0 l0_1 l0_2
end Go.Proofs.Ytncaadckehikpaa.Q
namespace Go.Proofs.Ytncaadckehikpaa.Q
open Go.RowKit Go.Proofs.YtncaadckehikpaaW.PrintWords Go.Proofs.YtncaadckehikpaaW.PrintLast Go.Proofs.YtncaadckehikpaaW.PrintMore
set_option linter.unusedVariables false
set_option linter.unusedSimpArgs false
set_option linter.unusedSectionVars false
def c140 (p : S140) : S76 := ⟨p.f0, p.f1, p.f2⟩
section
variable (n : Int) (l1 : List S91) (l2 : List S94) (os : List Int) (hck : checkS n (l1.map c91) (l2.map c94) = 0) (ho : Small (l1.map c91) os) (l : List S140) (hl : l.length ≤ 1000) (hp : (l.map c140).all (payB n) = true)
include hck ho hl hp
end
section
variable (n : Int) (l1 : List S91) (l2 : List S94) (os : List Int) (hck : checkS n (l1.map c91) (l2.map c94) = 0) (ho : Small (l1.map c91) os)
include hck ho
end
end Go.Proofs.Ytncaadckehikpaa.Q
namespace Go.Proofs.Ytncaadckehikpaa.Q
open Go.RowKit Go.Proofs.YtncaadckehikpaaW.PrintWords Go.Proofs.YtncaadckehikpaaW.PrintLast Go.Proofs.YtncaadckehikpaaW.PrintMore
set_option linter.unusedVariables false
set_option linter.unusedSimpArgs false
set_option linter.unusedSectionVars false
theorem ready_f (k : Nat) (n : Int) (l1 : List S91) (l2 : List S94) (hk : 40 ≤ k) : pl_ready.f k n l1 l2 = some (decide (l1.length ≤ 30 ∧ l2.length ≤ 30) && decide (checkS n (l1.map c91) (l2.map c94) = 0)) := by
  unfold pl_ready.f
  rw [Thin_f, Option.bind_some]
  by_cases ht : l1.length ≤ 30 ∧ l2.length ≤ 30
  · rw [if_pos (by simpa using ht), pl_fault.f, Fault_f k n l1 l2 hk, Option.bind_some, Option.bind_some, decide_eq_true ht, Bool.true_and]
    by_cases h : checkS n (l1.map c91) (l2.map c94) = 0 <;> simp [h]
  · rw [if_neg (by simpa using ht), decide_eq_false ht, Bool.false_and]
end Go.Proofs.Ytncaadckehikpaa.Q
namespace Go.Proofs.Ytncaadckehikpaa.Q
open Go.RowKit Go.Proofs.YtncaadckehikpaaW.PrintWords Go.Proofs.YtncaadckehikpaaW.PrintLast Go.Proofs.YtncaadckehikpaaW.PrintMore
set_option linter.unusedVariables false
set_option linter.unusedSimpArgs false
theorem ready_split {n : Int} {l1 : List S91} {l2 : List S94} (k : Nat) (hk : 40 ≤ k) : pl_ready.f k n l1 l2 = some (decide (checkS n (l1.map c91) (l2.map c94) = 0)) := by
  rw [ready_f k n l1 l2 hk]
  by_cases h : checkS n (l1.map c91) (l2.map c94) = 0
  · obtain ⟨z0, z1, z2, z3, z4, z5⟩ := checkS_ent h
    rw [decide_eq_true (show l1.length ≤ 30 ∧ l2.length ≤ 30 by omega), decide_eq_true h]
    rfl
  · rw [decide_eq_false h, Bool.and_false]
end Go.Proofs.Ytncaadckehikpaa.Q
namespace Go.Proofs.Ytncaadckehikpaa.Q
open Go.RowKit Go.Proofs.YtncaadckehikpaaW.PrintWords Go.Proofs.YtncaadckehikpaaW.PrintLast Go.Proofs.YtncaadckehikpaaW.PrintMore
set_option linter.unusedVariables false
set_option linter.unusedSimpArgs false
/-- The first k sayings, those of the bits alone. -/
def someTo (l : List S94) (b : Nat) : Nat → List S94
  | 0 => []
  | k + 1 => if bitN b k = true then someTo l b k ++ [rd_T94 l (k : Int)] else someTo l b k
def someL (l : List S94) (b : Nat) : List S94 := someTo l b l.length
theorem someTo_len (l : List S94) (b : Nat) : ∀ k, (someTo l b k).length ≤ k
  | 0 => by simp [someTo]
  | k + 1 => by
    have := someTo_len l b k
    unfold someTo
    split
    · rw [List.length_append, List.length_singleton]; omega
    · omega
theorem shr_bits_all : ∀ b : Fin 64, ∀ k : Fin 6, ((((b.val : Nat) : Int) / (2 : Int) ^ k.val).tmod 2 == 1) = bitN b.val k.val := by decide +kernel
structure SomeI (w0 : World) (n : Int) (A1 : Option Addr) (m1 c1 : Nat) (A2 : Option Addr) (c2 : Nat) (l2 : List S94) (b k : Nat) (v : Value) (W : World) : Prop where
  s : W.heap[w0.heap.size]? = some (.cells #[.int .i64 n, .slice A1 m1 c1, .slice A2 l2.length c2] 25 (0, 0))
  r : W.heap[w0.heap.size + 1]? = some (.cells #[.int .i64 0, .slice none 0 0, .slice none 0 0] 25 (0, 0))
  x : W.heap[w0.heap.size + 1 + 1]? = some (.cells #[.int .i64 n, .slice A1 m1 c1, v] 25 (0, 0))
  row : Kd.R k94 94 W w0.heap.size (fun _ => True) v (someTo l2 b k)
  below : Below w0.heap.size w0 W
set_option maxHeartbeats 4000000 in
set_option maxRecDepth 100000 in
theorem some_calls (n : Int) (A1 : Option Addr) (m1 c1 : Nat) (A2 : Option Addr) (c2 : Nat) (l2 : List S94) (b : Nat) (w : World) (hr2 : Kd.C k94 w A2 l2.length l2) (hc2 : l2.length ≤ c2) (hl : l2.length ≤ 5) (hb : b < 64) :
    Calls Try.prog 61 #[.agg #[.int .i64 n, .slice A1 m1 c1, .slice A2 l2.length c2], .int .i64 b] w fun e w' => ∃ v, e = .returned (.agg #[.int .i64 n, .slice A1 m1 c1, v]) ∧ Kd.R k94 94 w' w.heap.size (fun _ => True) v (someL l2 b) ∧ Below w.heap.size w w' := by
  have hu25 := Try.underlying25
  have hu94 := Try.underlying94
  have HR := mkA hr2
  clear hr2
  go_enter Try.func61, Try.ntmps61
  go_wp2
  have hz1 : (w.alloc (.cells #[.int .i64 n, .slice A1 m1 c1, .slice A2 l2.length c2] 25)).heap.size = w.heap.size + 1 := Array.size_push _
  have hz2 : ((w.alloc (.cells #[.int .i64 n, .slice A1 m1 c1, .slice A2 l2.length c2] 25)).alloc (.cells #[.int .i64 0, .slice none 0 0, .slice none 0 0] 25)).heap.size = w.heap.size + 1 + 1 := by rw [show ((w.alloc (.cells #[.int .i64 n, .slice A1 m1 c1, .slice A2 l2.length c2] 25)).alloc (.cells #[.int .i64 0, .slice none 0 0, .slice none 0 0] 25)).heap.size = (w.alloc (.cells #[.int .i64 n, .slice A1 m1 c1, .slice A2 l2.length c2] 25)).heap.size + 1 from Array.size_push _, hz1]
  have hI := mkA (show SomeI w n A1 m1 c1 A2 c2 l2 b 0 (.slice none 0 0) (((w.alloc (.cells #[.int .i64 n, .slice A1 m1 c1, .slice A2 l2.length c2] 25)).alloc (.cells #[.int .i64 0, .slice none 0 0, .slice none 0 0] 25)).alloc (.cells #[.int .i64 n, .slice A1 m1 c1, .slice none 0 0] 25)) from
    ⟨blk_below (heap_first w _ _) (z10 (Below.refl _ _) _), blk_below (heap_second w _ _) (z10 (Below.refl _ _) _), by have := z19 ((w.alloc (.cells #[.int .i64 n, .slice A1 m1 c1, .slice A2 l2.length c2] 25)).alloc (.cells #[.int .i64 0, .slice none 0 0, .slice none 0 0] 25)) (.cells #[.int .i64 n, .slice A1 m1 c1, .slice none 0 0] 25); rwa [hz2] at this,
      ⟨fun _ _ => trivial, [], ⟨rfl, .inl ⟨rfl, rfl⟩⟩, Reps.none _ _⟩, z10 (z10 (z10 (Below.refl _ _) _) _) _⟩)
  clear hz1 hz2
  go_loopw [6] (fun i wr => ∃ (k : Nat) (v : Value), k ≤ l2.length ∧ i = .int .i64 k ∧ SomeI w n A1 m1 c1 A2 c2 l2 b k v wr) (fun i _ => l2.length - (intOf i).toNat)
  case atStart => exact ⟨0, .slice none 0 0, by omega, rfl, hI.out⟩
  case round =>
    clear hI
    obtain ⟨k, v, hk, rfl, hI⟩ := hrel
    have HI := mkA hI
    clear hI
    obtain ⟨k0, k1, k2⟩ := box3 HI.out.s
    by_cases hlt : k < l2.length
    · have c0 : decide ((k : Int) < (l2.length : Int)) = true := decide_eq_true (by omega)
      have c0' : decide (k < l2.length) = true := decide_eq_true hlt
      have y4 := shr_bits_all ⟨b, hb⟩ ⟨k, by omega⟩
      simp only [] at y4
      by_cases hbit : bitN b k = true
      · rw [hbit] at y4
        obtain ⟨PV, dV, hv, qV, RV⟩ := Kd.R_reads HI.out.row
        subst hv
        obtain ⟨ad, e1, x0, x1, x2⟩ := at_T94 (Kd.C_below HR.out HI.out.below) (k : Int) (by omega) (by omega)
        simp only [Int.toNat_natCast] at x0 x1 x2
        cases e1
        clear qV RV
        go_wp2
        clear x0 x1 x2
        have HL := mkA hlt
        have hk0 : (0 : Int) ≤ (k : Int) := by omega
        have hk1 : (k : Int) < (l2.length : Int) := by omega
        have HKS := mkA (fun (W' : World) (hb1 : Below w.heap.size w W') (hs : W'.heap[w.heap.size]? = some (.cells #[.int .i64 n, .slice A1 m1 c1, .slice (some ad) l2.length c2] 25 (0, 0))) (hx : W'.heap[w.heap.size + 1 + 1]? = some (.cells #[.int .i64 n, .slice A1 m1 c1, .slice PV (someTo l2 b k).length dV] 25 (0, 0))) => show W'.cell? ⟨w.heap.size + 1 + 1, 2, none⟩ = some (.slice PV (someTo l2 b k).length dV) ∧ W'.cell? ⟨w.heap.size, 2, none⟩ = some (.slice (some ad) l2.length c2) ∧ W'.cell? (ad.add (k * 3)) = some (.int .i64 (rd_T94 l2 k).f0) ∧ W'.cell? ⟨(ad.add (k * 3)).block, (ad.add (k * 3)).off + 1, none⟩ = some (.int .i64 (rd_T94 l2 k).f1.f0) ∧ W'.cell? ⟨(ad.add (k * 3)).block, (ad.add (k * 3)).off + 2, none⟩ = some (.int .i64 (rd_T94 l2 k).f1.f1) from by
          obtain ⟨ad2, e2, x0, x1, x2⟩ := at_T94 (Kd.C_below HR.out hb1) (k : Int) (by omega) (by omega)
          cases e2
          exact ⟨(box3 hx).2.2, (box3 hs).2.2, x0, x1, x2⟩)
        focus
          refine plain_region_head (S := fun w' => w'.cell? ⟨w.heap.size + 1 + 1, 2, none⟩ = some (.slice PV (someTo l2 b k).length dV) ∧ w'.cell? ⟨w.heap.size, 2, none⟩ = some (.slice (some ad) l2.length c2) ∧ w'.cell? (ad.add (k * 3)) = some (.int .i64 (rd_T94 l2 k).f0) ∧ w'.cell? ⟨(ad.add (k * 3)).block, (ad.add (k * 3)).off + 1, none⟩ = some (.int .i64 (rd_T94 l2 k).f1.f0) ∧ w'.cell? ⟨(ad.add (k * 3)).block, (ad.add (k * 3)).off + 2, none⟩ = some (.int .i64 (rd_T94 l2 k).f1.f1)) 10 (by kernel_rfl) (by kernel_rfl) ?_ (fun hHeld => ?_)
          · (try dsimp only); exact HKS.out _ (z12 HI.out.below) (z37 HI.out.s) (z37 HI.out.x)
          try simp only [List.take_succ_cons, List.take_zero, List.drop_succ_cons, List.drop_zero]
          refine tk (v := ?_) 0 hHeld rfl (by kernel_rfl) (fun _ _ _ h => h) (Or.inl ⟨?tkh, ?tky⟩) ?_
          case tkh => rfl
          case tky => intro w hSw; (try dsimp only at hSw); go_simp; (try with_reducible rfl)
          try simp only [Act.put, xq1, xq2, xq3]
          refine tk (v := ?_) 1 hHeld rfl (by kernel_rfl) (fun _ _ _ h => h) (Or.inl ⟨?tkh, ?tky⟩) ?_
          case tkh => rfl
          case tky => intro w hSw; (try dsimp only at hSw); go_simp; (try with_reducible rfl)
          try simp only [Act.put, xq1, xq2, xq3]
          refine tk (v := ?_) 2 hHeld rfl (by kernel_rfl) (fun _ _ _ h => h) (Or.inl ⟨?tkh, ?tky⟩) ?_
          case tkh => rfl
          case tky => intro w hSw; (try dsimp only at hSw); go_simp; (try with_reducible rfl)
          try simp only [Act.put, xq1, xq2, xq3]
          refine tk (v := ?_) 3 hHeld rfl (by kernel_rfl) (fun _ _ _ h => h) (Or.inl ⟨?tkh, ?tky⟩) ?_
          case tkh => rfl
          case tky => intro w hSw; (try dsimp only at hSw); go_simp; (try with_reducible rfl)
          try simp only [Act.put, xq1, xq2, xq3]
          refine tk (v := ?_) 4 hHeld rfl (by kernel_rfl) (fun _ _ _ h => h) (Or.inl ⟨?tkh, ?tky⟩) ?_
          case tkh => rfl
          case tky => intro w hSw; (try dsimp only at hSw); go_simp; (try with_reducible rfl)
          try simp only [Act.put, xq1, xq2, xq3]
          refine tk (v := ?_) 5 hHeld rfl (by kernel_rfl) (fun _ _ _ h => h) (Or.inl ⟨?tkh, ?tky⟩) ?_
          case tkh => rfl
          case tky => intro w hSw; (try dsimp only at hSw); go_simp; (try with_reducible rfl)
          try simp only [Act.put, xq1, xq2, xq3]
          refine tk (v := ?_) 6 hHeld rfl (by kernel_rfl) (fun _ _ _ h => h) (Or.inl ⟨?tkh, ?tky⟩) ?_
          case tkh => rfl
          case tky => intro w hSw; (try dsimp only at hSw); go_simp; (try with_reducible rfl)
          try simp only [Act.put, xq1, xq2, xq3]
          refine wpAnyH_ready (rs := [7]) (by kernel_rfl) (by simp) (cs rfl (fun K hK => ?_) AllReadyH.nil)
          go_simp
          try simp only [Act.put, xq1, xq2, xq3]
          refine hK.out _ _ ?_ (fun hHeld2 => ?_)
          · (try dsimp only); exact HKS.out _ (z10 (z12 HI.out.below) _) (blk_below (z37 HI.out.s) (z10 (Below.refl _ _) _)) (blk_below (z37 HI.out.x) (z10 (Below.refl _ _) _))
          clear hK K hHeld; have hHeld := hHeld2; clear hHeld2
          refine wpAnyH_ready (rs := [8]) (by kernel_rfl) (by simp) (cs rfl (fun K hK => ?_) AllReadyH.nil)
          refine append_any k94 (w0 := w) (by rfl) (.tmp 23) (.tmp 29) 23 94 (.agg #[(.int .i64 0), (.int .i64 0), (.int .i64 0)]) 24 (by rfl) Try.underlying23 info94 (by rfl) (by decide) (by omega) (.slice PV (someTo l2 b k).length dV) (someTo l2 b k) [rd_T94 l2 k] (some ⟨wr.heap.size, 0, none⟩) 1 1 (by rfl) (by rfl) (Kd.R_below (Kd.R_below HI.out.row (z12 (Below.refl _ _))) (z10 (Below.refl _ _) _)) (C_block k94 cells94 (fun x => k94_mk _ x) [rd_T94 l2 k] (by simp) (z19 wr _)) (fun _ _ h => h) (z10 (z12 HI.out.below) _) (by have := someTo_len l2 b k; omega) ?_
          intro v1 w1 ho hbl hg hat
          have hs1 := z34 (blk_below (z37 HI.out.s) (z10 (Below.refl _ _) (.cells #[.int .i64 (rd_T94 l2 k).f0, .int .i64 (rd_T94 l2 k).f1.f0, .int .i64 (rd_T94 l2 k).f1.f1] 94))) hg (Kd.R_ne HI.out.row HI.out.s (by decide))
          have hr1 := z34 (blk_below (z37 HI.out.r) (z10 (Below.refl _ _) (.cells #[.int .i64 (rd_T94 l2 k).f0, .int .i64 (rd_T94 l2 k).f1.f0, .int .i64 (rd_T94 l2 k).f1.f1] 94))) hg (Kd.R_ne HI.out.row HI.out.r (by decide))
          have hx1 := z34 (blk_below (z37 HI.out.x) (z10 (Below.refl _ _) (.cells #[.int .i64 (rd_T94 l2 k).f0, .int .i64 (rd_T94 l2 k).f1.f0, .int .i64 (rd_T94 l2 k).f1.f1] 94))) hg (Kd.R_ne HI.out.row HI.out.x (by decide))
          obtain ⟨PN, dN, hv, qN, RN⟩ := Kd.R_reads ho
          simp only [List.length_append, List.length_cons, List.length_nil, Nat.zero_add] at hv
          subst hv
          clear qN RN hg hat
          try simp only [Act.put, xq1, xq2, xq3]
          refine hK.out _ _ ?_ (fun hHeld2 => ?_)
          · (try dsimp only); exact HKS.out _ hbl hs1 hx1
          clear hK K hHeld; have hHeld := hHeld2; clear hHeld2
          have HS1 := mkA hs1
          have HR1 := mkA hr1
          have HX1 := mkA hx1
          have HO1 := mkA ho
          have HB1 := mkA hbl
          clear hs1 hr1 hx1 ho hbl
          refine tk (v := ?_) 9 hHeld rfl (by kernel_rfl) (fun _ _ _ h => h) (Or.inl ⟨?tkh, ?tky⟩) ?_
          case tkh => rfl
          case tky => intro w hSw; (try dsimp only at hSw); go_simp; (try with_reducible rfl)
          try simp only [Act.put, xq1, xq2, xq3]
          refine wpAnyH_done (by kernel_rfl) ?_ _
          all_goals (refine EndsBy.mk ?_)
        have f2 := z14 HX1.out 2
        have x2 := (box3 HX1.out).2.2
        clear HKS
        go_wp2
        go_roundw
        case rel =>
          refine ⟨k + 1, _, by omega, by go_num, blk_far HS1.out (show w.heap.size ≠ w.heap.size + 1 + 1 by omega) _, blk_far HR1.out (show w.heap.size + 1 ≠ w.heap.size + 1 + 1 by omega) _, blk_put HX1.out 2 _ rfl, ?_, z15 HB1.out (by omega)⟩
          rw [show someTo l2 b (k + 1) = someTo l2 b k ++ [rd_T94 l2 (k : Int)] by rw [someTo, if_pos hbit]]
          exact Kd.R_set HO1.out HX1.out (by decide) 2 _
        case measure => simp [intOf]; omega
      · rw [Bool.not_eq_true] at hbit
        rw [hbit] at y4
        go_wp2
        go_roundw
        case rel =>
          refine ⟨k + 1, v, by omega, by go_num, HI.out.s, HI.out.r, HI.out.x, ?_, HI.out.below⟩
          unfold someTo
          rw [hbit]
          exact HI.out.row
        case measure => simp [intOf]; omega
    · have c0 : decide ((k : Int) < (l2.length : Int)) = false := decide_eq_false (by omega)
      have c0' : decide (k < l2.length) = false := decide_eq_false hlt
      obtain rfl : k = l2.length := by omega
      obtain ⟨PV, dV, hv, qV, RV⟩ := Kd.R_reads HI.out.row
      subst hv
      clear qV RV
      obtain ⟨x0, x1, x2⟩ := box3 HI.out.x
      obtain ⟨r0, r1, r2⟩ := box3 HI.out.r
      have f0 := z14 HI.out.r 0
      have f1 := z14 HI.out.r 1
      have f2 := z14 HI.out.r 2
      have HS2 := mkA (show (((wr.setCell ⟨w.heap.size + 1, 0, none⟩ (.int .i64 n)).setCell ⟨w.heap.size + 1, 1, none⟩ (.slice A1 m1 c1)).setCell ⟨w.heap.size + 1, 2, none⟩ (.slice PV (someTo l2 b l2.length).length dV)).heap[w.heap.size + 1]? = some (.cells #[.int .i64 n, .slice A1 m1 c1, .slice PV (someTo l2 b l2.length).length dV] 25 (0, 0)) from
        blk_put (blk_put (blk_put HI.out.r 0 _ rfl) 1 _ rfl) 2 _ rfl)
      have HO2 := mkA (Kd.R_set (Kd.R_set (Kd.R_set HI.out.row HI.out.r (by decide) 0 (.int .i64 n)) (blk_put HI.out.r 0 _ rfl) (by decide) 1 (.slice A1 m1 c1)) (blk_put (blk_put HI.out.r 0 _ rfl) 1 _ rfl) (by decide) 2 (.slice PV (someTo l2 b l2.length).length dV))
      have HB2 := mkA (z15 (j := 2) (v := .slice PV (someTo l2 b l2.length).length dV) (z15 (j := 1) (v := .slice A1 m1 c1) (z15 (j := 0) (v := .int .i64 n) HI.out.below (show w.heap.size ≤ w.heap.size + 1 by omega)) (show w.heap.size ≤ w.heap.size + 1 by omega)) (show w.heap.size ≤ w.heap.size + 1 by omega))
      go_wp2
      generalize (((wr.setCell ⟨w.heap.size + 1, 0, none⟩ (.int .i64 n)).setCell ⟨w.heap.size + 1, 1, none⟩ (.slice A1 m1 c1)).setCell ⟨w.heap.size + 1, 2, none⟩ (.slice PV (someTo l2 b l2.length).length dV)) = w9 at HS2 HO2 HB2 ⊢
      obtain ⟨e0, e1, e2⟩ := box3 HS2.out
      refine bodyPost_ret (v := .agg #[.int .i64 n, .slice A1 m1 c1, .slice PV (someTo l2 b l2.length).length dV]) (by simp [results, Try.results61, go_sem, e0, e1, e2]) rfl ⟨_, rfl, HO2.out, HB2.out⟩
end Go.Proofs.Ytncaadckehikpaa.Q
