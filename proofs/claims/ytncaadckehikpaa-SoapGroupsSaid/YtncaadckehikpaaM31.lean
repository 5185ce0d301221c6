/- A part of the proof: contracts of functions and plain facts (Q21, HPay3, HNth). No condition. -/
import Derived.Test.YtncaadckehikpaaM3
import Derived.Test.YtncaadckehikpaaM14
import Derived.Test.YtncaadckehikpaaM29
import Derived.Test.YtncaadckehikpaaM30
namespace Go.Proofs.Ytncaadckehikpaa.Q
open Go.RowKit Go.Proofs.YtncaadckehikpaaW.PrintWords Go.Proofs.YtncaadckehikpaaW.PrintLast Go.Proofs.YtncaadckehikpaaW.PrintMore
attribute [local go_sem] z35 z34 max_two min_two   -- for this text's walks alone
set_option linter.unusedVariables false
set_option linter.unusedSimpArgs false
/-! ### pr_Settles: function 69 -/
mutual
def pr_Settles.l0 : Nat → List Int → List (S140) → Int → Int → List (S91) → List (S94) → Option (Bool)
 | 0, _, _, _, _, _, _ => none
 | k + 1, x1, x2, x7, x1081000, x1081001, x1081002 => if x7 < x1081000 then ((pr_Owed.f k x1081000 x1081001 x1081002 x1 x7).bind fun t1081 => (pr_Settles.l1 k x1 x2 x7 t1081 0 x1081000 x1081001 x1081002)) else (some true)
def pr_Settles.l1 : Nat → List Int → List (S140) → Int → Int → Int → Int → List (S91) → List (S94) → Option (Bool)
 | 0, _, _, _, _, _, _, _, _ => none
 | k + 1, x1, x2, x7, x8, x9, x1081000, x1081001, x1081002 => if x9 < (x2.length : Int) then (if 0 ≤ x9 then (if ((rd_T140 x2 x9).f0) = x7 then (if ((rd_T140 x2 x9).f1) = x7 then (pr_Settles.l1 k x1 x2 x7 (wrap64 ((wrap64 (x8 + ((rd_T140 x2 x9).f2))) - ((rd_T140 x2 x9).f2))) (wrap64 (x9 + 1)) x1081000 x1081001 x1081002) else (pr_Settles.l1 k x1 x2 x7 (wrap64 (x8 + ((rd_T140 x2 x9).f2))) (wrap64 (x9 + 1)) x1081000 x1081001 x1081002)) else (if ((rd_T140 x2 x9).f1) = x7 then (pr_Settles.l1 k x1 x2 x7 (wrap64 (x8 - ((rd_T140 x2 x9).f2))) (wrap64 (x9 + 1)) x1081000 x1081001 x1081002) else (pr_Settles.l1 k x1 x2 x7 x8 (wrap64 (x9 + 1)) x1081000 x1081001 x1081002))) else (none)) else (if x8 = 0 then (pr_Settles.l0 k x1 x2 (wrap64 (x7 + 1)) x1081000 x1081001 x1081002) else (some false))
end
def pr_Settles.f (k : Nat) (a0_0 : Int) (l0_1 : List (S91)) (l0_2 : List (S94)) (l1 : List Int) (l2 : List (S140)) : Option (Bool) := pr_Settles.l0 k l1 l2 0 a0_0 l0_1 l0_2
end Go.Proofs.Ytncaadckehikpaa.Q
namespace Go.Proofs.Ytncaadckehikpaa.Q
open Go.RowKit Go.Proofs.YtncaadckehikpaaW.PrintWords Go.Proofs.YtncaadckehikpaaW.PrintLast Go.Proofs.YtncaadckehikpaaW.PrintMore
set_option linter.unusedVariables false
set_option linter.unusedSimpArgs false
set_option linter.unusedSectionVars false
def c140 (p : S140) : S76 := ⟨p.f0, p.f1, p.f2⟩
section
variable (n : Int) (l1 : List S91) (l2 : List S94) (os : List Int) (hck : checkS n (l1.map c91) (l2.map c94) = 0) (ho : Small (l1.map c91) os) (l : List S140) (hl : l.length ≤ 1000) (hp : (l.map c140).all (payB n) = true)
include hck ho hl hp
end
section
variable (n : Int) (l1 : List S91) (l2 : List S94) (os : List Int) (hck : checkS n (l1.map c91) (l2.map c94) = 0) (ho : Small (l1.map c91) os)
include hck ho
end
end Go.Proofs.Ytncaadckehikpaa.Q
namespace Go.Proofs.Ytncaadckehikpaa.Q
open Go.RowKit Go.Proofs.YtncaadckehikpaaW.PrintWords Go.Proofs.YtncaadckehikpaaW.PrintLast Go.Proofs.YtncaadckehikpaaW.PrintMore
set_option linter.unusedVariables false
set_option linter.unusedSimpArgs false
set_option linter.unusedSectionVars false
theorem small_l0 (gs : List (List Int)) (hl : gs.length ≤ 30) (hg : ∀ g ∈ gs, g.length ≤ 30) : ∀ (d k i : Nat), i + d = gs.length → 2 * d + 2 < k → pl_small.l0 k gs i = some true
  | 0, k + 2, i, hi, hk => by
    rw [pl_small.l0, if_neg (by omega), pl_small.j1, if_neg (by simp), decide_eq_true (by omega)]
  | d + 1, k + 2, i, hi, hk => by
    have hn : i < gs.length := by omega
    have hm := hg _ (List.getElem_mem hn)
    rw [pl_small.l0, if_pos (by omega), pl_small.j1, if_pos (by simp; omega), if_pos (by omega), if_pos (by omega), rdL4 gs i hn, if_neg (by omega), w1 i (by omega)]
    exact small_l0 gs hl hg d k (i + 1) (by omega) (by omega)
theorem small_f (k : Nat) (gs : List (List Int)) (hl : gs.length ≤ 30) (hg : ∀ g ∈ gs, g.length ≤ 30) (hk : 100 ≤ k) : pl_small.f k gs = some true := small_l0 gs hl hg gs.length k 0 (by omega) (by omega)
end Go.Proofs.Ytncaadckehikpaa.Q
