/- A part of the proof: contracts of functions and plain facts (Q26, HLBounds, Q13, Q14, Q15, HMostRef, HMostRef2, Q17, Q18, Q29, HLLeaves, HMono, HPay0, HPay1, Q28, HLFewest, HPay2, Q12, Q19, HRef4, Q5, Q20, Q21, HPay3, HNth). No condition. -/
import Derived.Test.YtncaadckehikpaaM3
import Derived.Test.YtncaadckehikpaaM22
import Derived.Test.YtncaadckehikpaaM11
import Derived.Test.YtncaadckehikpaaM12
import Derived.Test.YtncaadckehikpaaM15
import Derived.Test.YtncaadckehikpaaM21
import Derived.Test.YtncaadckehikpaaM24
import Derived.Test.YtncaadckehikpaaM19
import Derived.Test.YtncaadckehikpaaM13
import Derived.Test.YtncaadckehikpaaM10
import Derived.Test.YtncaadckehikpaaM14
import Derived.Test.YtncaadckehikpaaM23
import Derived.Test.YtncaadckehikpaaM17
import Derived.Test.YtncaadckehikpaaM20
namespace Go.Proofs.Ytncaadckehikpaa.Q
open Go.RowKit Go.Proofs.YtncaadckehikpaaW.PrintWords Go.Proofs.YtncaadckehikpaaW.PrintLast Go.Proofs.YtncaadckehikpaaW.PrintMore
attribute [local go_sem] z30 z29 max_two min_two   -- for this text's walks alone
set_option linter.unusedVariables false
set_option linter.unusedSimpArgs false
/-! ### pl_SoapBounds: function 3 -/
mutual
def pl_SoapBounds.j0 : Nat → List (S44) → List Int → List (List Int) → Bool → Int → List (S91) → List (S94) → Option (Bool)
 | 0, _, _, _, _, _, _, _ => none
 | k + 1, x3, x5, x7, x71, x224000, x224001, x224002 => if x71 = true then (some false) else (pl_SoapBounds.l0 k x3 x5 x7 0 x224000 x224001 x224002)
def pl_SoapBounds.l0 : Nat → List (S44) → List Int → List (List Int) → Int → Int → List (S91) → List (S94) → Option (Bool)
 | 0, _, _, _, _, _, _, _ => none
 | k + 1, x3, x5, x7, x9, x224000, x224001, x224002 => if x9 < x224000 then (if 0 ≤ x9 then (if x9 < (x3.length : Int) then ((pr_Bounds.f k x224000 x224001 x224002 x7 x9).bind fun bt255 => ((pl_to.f bt255.1 bt255.2).bind fun bt257 => (if (!(((rd_T44 x3 x9).f0) == bt257.1) || (!(((rd_T44 x3 x9).f1) == bt257.2))) = true then (some false) else (if x9 < (x5.length : Int) then ((pr_Owes.f k x224000 x224001 x224002 x7 x9).bind fun t260 => (if (rd x5 x9) = t260 then (pl_SoapBounds.l0 k x3 x5 x7 (wrap64 (x9 + 1)) x224000 x224001 x224002) else (some false))) else (none))))) else (none)) else (none)) else ((pl_awake.f).bind fun t253 => (some t253))
end
def pl_SoapBounds.f (k : Nat) (a0_0 : Int) (l0_1 : List (S91)) (l0_2 : List (S94)) : Option (Bool) := (pl_Thin.f a0_0 l0_1 l0_2).bind fun t224 => (if t224 = true then ((pl_Slate.f k a0_0 l0_1 l0_2).bind fun bt226 => ((soap_Bounds.f bt226.1 bt226.2.1 bt226.2.2).bind fun bt233 => ((pl_Slate.f k a0_0 l0_1 l0_2).bind fun bt237 => ((soap_Owes.f k bt237.1 bt237.2.1 bt237.2.2).bind fun bt244 => ((pl_sure.f k a0_0 l0_1 l0_2).bind fun bt248 => (if bt248.2 = 0 then (if bt233.2 = 0 then (if bt244.2 = 0 then (if (bt233.1.length : Int) = a0_0 then (pl_SoapBounds.j0 k bt233.1 bt244.1 bt248.1 ((bt244.1.length : Int) != a0_0) a0_0 l0_1 l0_2) else (pl_SoapBounds.j0 k bt233.1 bt244.1 bt248.1 true a0_0 l0_1 l0_2)) else (pl_SoapBounds.j0 k bt233.1 bt244.1 bt248.1 true a0_0 l0_1 l0_2)) else (pl_SoapBounds.j0 k bt233.1 bt244.1 bt248.1 true a0_0 l0_1 l0_2)) else (if bt233.2 = bt248.2 then (if bt244.2 = bt248.2 then (if (wrap64 ((bt233.1.length : Int) + (bt244.1.length : Int))) = 0 then ((pl_awake.f).bind fun t252 => (some t252)) else (some false)) else (some false)) else (some false)))))))) else ((pl_awake.f).bind fun t225 => (some t225)))
end Go.Proofs.Ytncaadckehikpaa.Q
namespace Go.Proofs.Ytncaadckehikpaa.Q
open Go.RowKit Go.Proofs.YtncaadckehikpaaW.PrintWords Go.Proofs.YtncaadckehikpaaW.PrintLast Go.Proofs.YtncaadckehikpaaW.PrintMore
set_option linter.unusedVariables false
set_option linter.unusedSimpArgs false
/-- The verdict of bounds. -/
def verd (b : S44) : Int := if b.f1 < 0 then 1 else if b.f0 ≥ 0 then 2 else 3
theorem rd44 (xs : List S44) (i : Nat) (h : i < xs.length) : rd_T44 xs (i : Int) = xs[i] := getD_of xs _ i h
theorem rdI (xs : List Int) (i : Nat) (h : i < xs.length) : rd xs (i : Int) = xs[i] := getD_of xs _ i h
theorem Owes_l0 (bs : List S44) (hb : bs.length ≤ 6) : ∀ (d k i : Nat) (acc : List Int), i + d = bs.length → d < k → acc.length = i →
    soap_Owes.l0 k acc bs (bs.length : Int) i = some (acc ++ (bs.drop i).map verd, 0)
  | 0, k + 1, i, acc, hi, hk, ha => by
    rw [soap_Owes.l0, if_neg (by omega), List.drop_of_length_le (by omega)]
    simp
  | d + 1, k + 1, i, acc, hi, hk, ha => by
    have hn : i < bs.length := by omega
    rw [soap_Owes.l0, if_pos (by omega), if_pos (by omega), if_pos (by omega), w1 i (by omega), if_pos (show acc.length < 17592186044416 by omega), if_pos (show acc.length < 17592186044416 by omega), if_pos (show acc.length < 17592186044416 by omega),
      rd44 bs i hn, List.drop_eq_getElem_cons hn, List.map_cons]
    have hv : verd bs[i] = if bs[i].f1 < 0 then 1 else if bs[i].f0 ≥ 0 then 2 else 3 := rfl
    rw [hv]
    by_cases a : bs[i].f1 < 0
    · rw [if_pos a, if_pos a, Owes_l0 bs hb d k (i + 1) _ (by omega) (by omega) (by simp [ha]), List.append_assoc]
      rfl
    · rw [if_neg a, if_neg a]
      by_cases b : bs[i].f0 ≥ 0
      · rw [if_pos b, if_pos b, Owes_l0 bs hb d k (i + 1) _ (by omega) (by omega) (by simp [ha]), List.append_assoc]
        rfl
      · rw [if_neg b, if_neg b, Owes_l0 bs hb d k (i + 1) _ (by omega) (by omega) (by simp [ha]), List.append_assoc]
        rfl
theorem boundsTo_length (vs : List (List Int)) (k : Nat) : (z39 vs k).length = k := by simp [z39]
theorem soapOwes_f (k : Nat) (n : Int) (l1 : List S122) (l2 : List S124) (hk : 10 ≤ k) : soap_Owes.f k n l1 l2 = some (if askErr n l1 l2 = 0 then ((z39 (truthsL l1 l2) n.toNat).map verd, 0) else ([], askErr n l1 l2)) := by
  unfold soap_Owes.f soap_Bounds.f
  simp only [Option.bind_some]
  by_cases h : askErr n l1 l2 = 0
  · rw [if_pos h, if_pos h, if_pos rfl]
    have hc : checkS n l1 l2 = 0 := by
      by_cases c : checkS n l1 l2 = 0
      · exact c
      · unfold askErr at h
        rw [if_neg c] at h
        exact absurd h c
    have hn := z28 hc
    have hl := boundsTo_length (truthsL l1 l2) n.toNat
    have := Owes_l0 (z39 (truthsL l1 l2) n.toNat) (by omega) (z39 (truthsL l1 l2) n.toNat).length k 0 [] (by omega) (by omega) rfl
    simpa using this
  · rw [if_neg h, if_neg h, if_neg h]
section
variable (n : Int) (l1 : List S91) (l2 : List S94) (hck : checkS n (l1.map c91) (l2.map c94) = 0) (hne : truthsR (l1.map c91) (l2.map c94) ≠ [])
set_option linter.unusedSectionVars false
include hck hne
end
end Go.Proofs.Ytncaadckehikpaa.Q
namespace Go.Proofs.Ytncaadckehikpaa.Q
open Go.RowKit Go.Proofs.YtncaadckehikpaaW.PrintWords Go.Proofs.YtncaadckehikpaaW.PrintLast Go.Proofs.YtncaadckehikpaaW.PrintMore
attribute [local go_sem] z30 z29 max_two min_two   -- for this text's walks alone
set_option linter.unusedVariables false
set_option linter.unusedSimpArgs false
/-! ### pr_Bits: function 58 -/
def pr_Bits.l0 : Nat → Int → List Int → Int → Option (List Int)
 | 0, _, _, _ => none
 | k + 1, x0, x3, x4 => if 0 ≤ (IntKind.u64.wrap (x4)) then (if (shr .i64 x0 (IntKind.u64.wrap (x4))) > 0 then (if (Int.tmod (shr .i64 x0 (IntKind.u64.wrap (x4))) 2) = 1 then (if x3.length < 17592186044416 then (pr_Bits.l0 k x0 (x3 ++ [x4]) (wrap64 (x4 + 1))) else (none)) else (pr_Bits.l0 k x0 x3 (wrap64 (x4 + 1)))) else (some x3)) else (none)
def pr_Bits.f (k : Nat) (a0 : Int) : Option (List Int) := pr_Bits.l0 k a0 ([] : List Int) 0
/-! ### pr_Together: function 82 -/
def pr_Together.l0 : Nat → List Int → Int → List Int → Int → Int → List (S91) → List (S94) → Option (Int)
 | 0, _, _, _, _, _, _, _ => none
 | k + 1, x1, x7, x8, x9, x275000, x275001, x275002 => if x9 < (x8.length : Int) then (if 0 ≤ x9 then ((pr_Owed.f k x275000 x275001 x275002 x1 (rd x8 x9)).bind fun t279 => (pr_Together.l0 k x1 (wrap64 (x7 + t279)) x8 (wrap64 (x9 + 1)) x275000 x275001 x275002)) else (none)) else (some x7)
def pr_Together.f (k : Nat) (a0_0 : Int) (l0_1 : List (S91)) (l0_2 : List (S94)) (l1 : List Int) (a2 : Int) : Option (Int) := (pr_Bits.f k a2).bind fun t275 => (pr_Together.l0 k l1 0 t275 0 a0_0 l0_1 l0_2)
end Go.Proofs.Ytncaadckehikpaa.Q
namespace Go.Proofs.Ytncaadckehikpaa.Q
open Go.RowKit Go.Proofs.YtncaadckehikpaaW.PrintWords Go.Proofs.YtncaadckehikpaaW.PrintLast Go.Proofs.YtncaadckehikpaaW.PrintMore
attribute [local go_sem] z30 z29 max_two min_two   -- for this text's walks alone
set_option linter.unusedVariables false
set_option linter.unusedSimpArgs false
/-! ### pr_Most: function 33 -/
mutual
def pr_Most.l0 : Nat → List Int → Int → Int → Int → Int → Int → List (S91) → List (S94) → Option (Int)
 | 0, _, _, _, _, _, _, _, _ => none
 | k + 1, x1, x2, x7, x8, x9, x281000, x281001, x281002 => if x9 > 0 then (if (Go.bits .and .i64 x9 x7) = 0 then (pr_Most.l0 k x1 x2 x7 x8 (Go.bits .and .i64 (wrap64 (x9 - 1)) x2) x281000 x281001 x281002) else ((pr_Together.f k x281000 x281001 x281002 x1 x9).bind fun t281 => (if t281 = 0 then ((pr_Most.f k x281000 x281001 x281002 x1 (Go.bits .andNot .i64 x2 x9)).bind fun t282 => (pr_Most.l0 k x1 x2 x7 (mx x8 (wrap64 (1 + t282))) (Go.bits .and .i64 (wrap64 (x9 - 1)) x2) x281000 x281001 x281002)) else (pr_Most.l0 k x1 x2 x7 x8 (Go.bits .and .i64 (wrap64 (x9 - 1)) x2) x281000 x281001 x281002)))) else (some x8)
def pr_Most.f : Nat → Int → List (S91) → List (S94) → List Int → Int → Option (Int)
 | 0, _, _, _, _, _ => none
 | k + 1, a0_0, l0_1, l0_2, l1, a2 => if a2 = 0 then (some 0) else (pr_Most.l0 k l1 a2 (Go.bits .and .i64 a2 (wrap64 (-a2))) 0 a2 a0_0 l0_1 l0_2)
end
end Go.Proofs.Ytncaadckehikpaa.Q
namespace Go.Proofs.Ytncaadckehikpaa.Q
open Go.RowKit Go.Proofs.YtncaadckehikpaaW.PrintWords Go.Proofs.YtncaadckehikpaaW.PrintLast Go.Proofs.YtncaadckehikpaaW.PrintMore
attribute [local go_sem] z30 z29 max_two min_two   -- for this text's walks alone
set_option linter.unusedVariables false
set_option linter.unusedSimpArgs false
/-! ### pr_Open: function 34 -/
def pr_Open.l0 : Nat → List Int → Int → Int → Int → List (S91) → List (S94) → Option (Int)
 | 0, _, _, _, _, _, _ => none
 | k + 1, x1, x5, x6, x284000, x284001, x284002 => if x6 < x284000 then ((pr_Owed.f k x284000 x284001 x284002 x1 x6).bind fun t284 => (if t284 = 0 then (pr_Open.l0 k x1 x5 (wrap64 (x6 + 1)) x284000 x284001 x284002) else (if 0 ≤ (IntKind.u64.wrap (x6)) then (pr_Open.l0 k x1 (Go.bits .or .i64 x5 (shl .i64 1 (IntKind.u64.wrap (x6)))) (wrap64 (x6 + 1)) x284000 x284001 x284002) else (none)))) else (some x5)
def pr_Open.f (k : Nat) (a0_0 : Int) (l0_1 : List (S91)) (l0_2 : List (S94)) (l1 : List Int) : Option (Int) := pr_Open.l0 k l1 0 0 a0_0 l0_1 l0_2
/-! ### pr_Payments: function 55 -/
def pr_Payments.f (k : Nat) (a0_0 : Int) (l0_1 : List (S91)) (l0_2 : List (S94)) (l1 : List Int) : Option (Int) := (pr_Open.f k a0_0 l0_1 l0_2 l1).bind fun t321 => ((pr_Bits.f k t321).bind fun t322 => ((pr_Most.f k a0_0 l0_1 l0_2 l1 t321).bind fun t325 => (some (wrap64 ((t322.length : Int) - t325)))))
/-! ### pr_Fewest: function 38 -/
def pr_Fewest.l0 : Nat → List (List Int) → Int → Int → List (S91) → List (S94) → Int → Int → Option (Int × Int)
 | 0, _, _, _, _, _, _, _ => none
 | k + 1, x1, x6, x327000, x327001, x327002, x331000, x331001 => if x6 < (x1.length : Int) then (if 0 ≤ x6 then ((pr_Payments.f k x327000 x327001 x327002 (rd_L4 x1 x6)).bind fun t332 => ((pr_Wider.f x331000 x331001 t332).bind fun bt333 => (pr_Fewest.l0 k x1 (wrap64 (x6 + 1)) x327000 x327001 x327002 bt333.1 bt333.2))) else (none)) else (some (x331000, x331001))
def pr_Fewest.f (k : Nat) (a0_0 : Int) (l0_1 : List (S91)) (l0_2 : List (S94)) (l1 : List (List Int)) : Option (Int × Int) := (pr_Empty.f).bind fun bt328 => (pr_Fewest.l0 k l1 0 a0_0 l0_1 l0_2 bt328.1 bt328.2)
end Go.Proofs.Ytncaadckehikpaa.Q
namespace Go.Proofs.Ytncaadckehikpaa.Q
open Go.RowKit Go.Proofs.YtncaadckehikpaaW.PrintWords Go.Proofs.YtncaadckehikpaaW.PrintLast Go.Proofs.YtncaadckehikpaaW.PrintMore
set_option linter.unusedVariables false
set_option linter.unusedSimpArgs false
/-- Some women are among others. -/
def SubB (a b : Nat) : Prop := ∀ i, i < 6 → bitN a i = true → bitN b i = true
theorem SubB.trans {a b c : Nat} (h : SubB a b) (k : SubB b c) : SubB a c := fun i hi q => k i hi (h i hi q)
/-! The reference's search. -/
section
variable (n : Int) (l1 : List S91) (l2 : List S94) (os : List Int) (hck : checkS n (l1.map c91) (l2.map c94) = 0) (ho : Small (l1.map c91) os)
set_option linter.unusedSectionVars false
include hck ho
end
end Go.Proofs.Ytncaadckehikpaa.Q
namespace Go.Proofs.Ytncaadckehikpaa.Q
open Go.RowKit Go.Proofs.YtncaadckehikpaaW.PrintWords Go.Proofs.YtncaadckehikpaaW.PrintLast Go.Proofs.YtncaadckehikpaaW.PrintMore
set_option linter.unusedVariables false
set_option linter.unusedSimpArgs false
set_option linter.unusedSectionVars false
section
variable (n : Int) (l1 : List S91) (l2 : List S94) (os : List Int) (hck : checkS n (l1.map c91) (l2.map c94) = 0) (ho : Small (l1.map c91) os)
include hck ho
end
end Go.Proofs.Ytncaadckehikpaa.Q
namespace Go.Proofs.Ytncaadckehikpaa.Q
open Go.RowKit Go.Proofs.YtncaadckehikpaaW.PrintWords Go.Proofs.YtncaadckehikpaaW.PrintLast Go.Proofs.YtncaadckehikpaaW.PrintMore
attribute [local go_sem] z30 z29 max_two min_two   -- for this text's walks alone
set_option linter.unusedVariables false
set_option linter.unusedSimpArgs false
/-! ### pr_All: function 41 -/
def pr_All.l0 : Nat → List Int → Int → Int → List (S91) → List (S94) → Option (List Int)
 | 0, _, _, _, _, _ => none
 | k + 1, x3, x4, x360000, x360001, x360002 => (pr_Many.f k x360000 x360001 x360002).bind fun t360 => (if x4 < t360 then ((pr_Nth.f k x360000 x360001 x360002 x4).bind fun t361 => ((pr_Right.f k x360000 x360001 x360002 t361).bind fun t364 => (if x3.length < 17592186044416 then (pr_All.l0 k (x3 ++ [t364]) (wrap64 (x4 + 1)) x360000 x360001 x360002) else (none)))) else (some x3))
def pr_All.f (k : Nat) (a0_0 : Int) (l0_1 : List (S91)) (l0_2 : List (S94)) : Option (List Int) := pr_All.l0 k ([] : List Int) 0 a0_0 l0_1 l0_2
/-! ### pr_Can: function 88 -/
def pr_Can.l0 : Nat → List Int → Int → Int → Option (Bool)
 | 0, _, _, _ => none
 | k + 1, x0, x1, x5 => if x5 < (x0.length : Int) then (if 0 ≤ x5 then (if (Go.bits .and .i64 (rd x0 x5) x1) = x1 then (some true) else (pr_Can.l0 k x0 x1 (wrap64 (x5 + 1)))) else (none)) else (some false)
def pr_Can.f (k : Nat) (l0 : List Int) (a1 : Int) : Option (Bool) := pr_Can.l0 k l0 a1 0
end Go.Proofs.Ytncaadckehikpaa.Q
namespace Go.Proofs.Ytncaadckehikpaa.Q
open Go.RowKit Go.Proofs.YtncaadckehikpaaW.PrintWords Go.Proofs.YtncaadckehikpaaW.PrintLast Go.Proofs.YtncaadckehikpaaW.PrintMore
attribute [local go_sem] z30 z29 max_two min_two   -- for this text's walks alone
set_option linter.unusedVariables false
set_option linter.unusedSimpArgs false
/-! ### pr_Before: function 97 -/
mutual
def pr_Before.l0 : Nat → List Int → List Int → Int → Option (Bool)
 | 0, _, _, _ => none
 | k + 1, x0, x1, x5 => if x5 < (x0.length : Int) then (pr_Before.j1 k x0 x1 x5 (decide (x5 < (x1.length : Int)))) else (pr_Before.j1 k x0 x1 x5 false)
def pr_Before.j1 : Nat → List Int → List Int → Int → Bool → Option (Bool)
 | 0, _, _, _, _ => none
 | k + 1, x0, x1, x5, x15 => if x15 = true then (if 0 ≤ x5 then (if x5 < (x0.length : Int) then (if x5 < (x1.length : Int) then (if (rd x0 x5) = (rd x1 x5) then (pr_Before.l0 k x0 x1 (wrap64 (x5 + 1))) else (some (decide ((rd x0 x5) < (rd x1 x5))))) else (none)) else (none)) else (none)) else (some (decide ((x0.length : Int) < (x1.length : Int))))
end
def pr_Before.f (k : Nat) (l0 : List Int) (l1 : List Int) : Option (Bool) := pr_Before.l0 k l0 l1 0
/-! ### pr_Shorter: function 63 -/
def pr_Shorter.f (k : Nat) (l0 : List Int) (l1 : List Int) : Option (Bool) := if (l0.length : Int) < (l1.length : Int) then (some true) else (if (l0.length : Int) = (l1.length : Int) then ((pr_Before.f k l0 l1).bind fun t372 => (some t372)) else (some false))
/-! ### pr_Leave: function 43 -/
def pr_Leave.l0 : Nat → List Int → List Int → Int → Int → List (S91) → List (S94) → Option (List Int)
 | 0, _, _, _, _, _, _ => none
 | k + 1, x1, x5, x6, x375000, x375001, x375002 => (pr_Full.f x375000 x375001 x375002).bind fun t379 => (if x6 ≤ t379 then ((pr_Bits.f k x6).bind fun t380 => ((pr_Shorter.f k t380 x5).bind fun t383 => (if t383 = true then ((pr_Full.f x375000 x375001 x375002).bind fun t384 => ((pr_Can.f k x1 (Go.bits .andNot .i64 t384 x6)).bind fun t385 => (if t385 = true then (pr_Leave.l0 k x1 t380 (wrap64 (x6 + 1)) x375000 x375001 x375002) else (pr_Leave.l0 k x1 x5 (wrap64 (x6 + 1)) x375000 x375001 x375002)))) else (pr_Leave.l0 k x1 x5 (wrap64 (x6 + 1)) x375000 x375001 x375002)))) else (some x5))
def pr_Leave.f (k : Nat) (a0_0 : Int) (l0_1 : List (S91)) (l0_2 : List (S94)) (l1 : List Int) : Option (List Int) := (pr_Full.f a0_0 l0_1 l0_2).bind fun t375 => ((pr_Bits.f k t375).bind fun t376 => (pr_Leave.l0 k l1 t376 0 a0_0 l0_1 l0_2))
/-! ### pr_First: function 44 -/
def pr_First.l0 : Nat → List Int → Int → Int → List (S91) → List (S94) → Option (Int)
 | 0, _, _, _, _, _ => none
 | k + 1, x1, x5, x387000, x387001, x387002 => if x5 < (x387002.length : Int) then (if 0 ≤ (IntKind.u64.wrap (x5)) then ((pr_Can.f k x1 (wrap64 ((shl .i64 2 (IntKind.u64.wrap (x5))) - 1))).bind fun t387 => (if t387 = true then (pr_First.l0 k x1 (wrap64 (x5 + 1)) x387000 x387001 x387002) else (some x5))) else (none)) else (some (-1))
def pr_First.f (k : Nat) (a0_0 : Int) (l0_1 : List (S91)) (l0_2 : List (S94)) (l1 : List Int) : Option (Int) := pr_First.l0 k l1 0 a0_0 l0_1 l0_2
end Go.Proofs.Ytncaadckehikpaa.Q
namespace Go.Proofs.Ytncaadckehikpaa.Q
open Go.RowKit Go.Proofs.YtncaadckehikpaaW.PrintWords Go.Proofs.YtncaadckehikpaaW.PrintLast Go.Proofs.YtncaadckehikpaaW.PrintMore
attribute [local go_sem] z30 z29 max_two min_two   -- for this text's walks alone
set_option linter.unusedVariables false
set_option linter.unusedSimpArgs false
/-! ### pl_SoapLeaves: function 6 -/
def pl_SoapLeaves.j0 : Nat → Int → Int → List Int → Bool → Int → List (S91) → List (S94) → Option (Bool)
 | 0, _, _, _, _, _, _, _ => none
 | k + 1, x3, x4, x8, x61, x389000, x389001, x389002 => if x61 = true then (some false) else ((pr_First.f k x389000 x389001 x389002 x8).bind fun t420 => (if t420 < 0 then (if x4 = 7 then (if x3 = 0 then ((pl_awake.f).bind fun t421 => (some t421)) else (some false)) else (some false)) else (if x4 = 0 then (if x3 = t420 then ((pl_awake.f).bind fun t422 => (some t422)) else (some false)) else (some false))))
def pl_SoapLeaves.f (k : Nat) (a0_0 : Int) (l0_1 : List (S91)) (l0_2 : List (S94)) : Option (Bool) := (pl_Thin.f a0_0 l0_1 l0_2).bind fun t389 => (if t389 = true then ((pl_Slate.f k a0_0 l0_1 l0_2).bind fun bt391 => ((soap_First.f bt391.1 bt391.2.1 bt391.2.2).bind fun bt398 => ((pl_Slate.f k a0_0 l0_1 l0_2).bind fun bt400 => ((soap_Leave.f bt400.1 bt400.2.1 bt400.2.2).bind fun bt407 => ((pl_fault.f k a0_0 l0_1 l0_2).bind fun t411 => (if t411 = 0 then ((pr_All.f k a0_0 l0_1 l0_2).bind fun t413 => (if bt407.2 = 0 then ((pr_Leave.f k a0_0 l0_1 l0_2 t413).bind fun t416 => ((pl_same.f k bt407.1 t416).bind fun t419 => (pl_SoapLeaves.j0 k bt398.1 bt398.2 t413 (!t419) a0_0 l0_1 l0_2))) else (pl_SoapLeaves.j0 k bt398.1 bt398.2 t413 true a0_0 l0_1 l0_2))) else (if bt398.2 = t411 then (if bt398.1 = 0 then (if bt407.2 = t411 then (if (bt407.1.length : Int) = 0 then ((pl_awake.f).bind fun t412 => (some t412)) else (some false)) else (some false)) else (some false)) else (some false)))))))) else ((pl_awake.f).bind fun t390 => (some t390)))
end Go.Proofs.Ytncaadckehikpaa.Q
namespace Go.Proofs.Ytncaadckehikpaa.Q
open Go.RowKit Go.Proofs.YtncaadckehikpaaW.PrintWords Go.Proofs.YtncaadckehikpaaW.PrintLast Go.Proofs.YtncaadckehikpaaW.PrintMore
set_option linter.unusedVariables false
set_option linter.unusedSimpArgs false
set_option linter.unusedSectionVars false
theorem pw32 {n : Nat} (h : n ≤ 5) : 2 ^ n ≤ 32 := Nat.le_trans (Nat.pow_le_pow_right (by omega) h) (by decide : 2 ^ 5 ≤ 32)
theorem has_bits_all : ∀ b : Fin 64, ∀ i : Fin 6, hasB (bitsL b.val) ((i.val : Nat) : Int) = bitN b.val i.val := by decide +kernel
section
variable (l1 : List S122) (l2 : List S124) (hl : l2.length ≤ 5)
include hl
end
/-! All sets in the order of their lists. -/
def maskOf (o : List Int) : Nat := o.foldl (fun m i => m + 2 ^ i.toNat) 0
def orderM (len : Nat) : List Nat := (z41 len (len + 1)).map maskOf
theorem order_all : ∀ len : Fin 6, z41 len.val (len.val + 1) = (orderM len.val).map bitsL := by decide +kernel
theorem order_mem_all : ∀ len : Fin 6, ∀ b : Fin 32, b.val < 2 ^ len.val → b.val ∈ orderM len.val := by decide +kernel
theorem order_lt_all : ∀ len : Fin 6, ∀ b ∈ orderM len.val, b < 2 ^ len.val := by decide +kernel
theorem find_least (p : Nat → Bool) : ∀ (M : List Nat) (x : Nat), M.find? p = some x → p x = true ∧ x ∈ M ∧ ∀ y ∈ M, p y = true → M.idxOf x ≤ M.idxOf y
  | [], x, h => by simp at h
  | z :: M, x, h => by
    by_cases hz : p z = true
    · rw [List.find?_cons_of_pos hz] at h
      injection h with h
      subst h
      exact ⟨hz, by simp, fun y _ _ => by simp⟩
    · rw [List.find?_cons_of_neg hz] at h
      obtain ⟨h1, h2, h3⟩ := find_least p M x h
      refine ⟨h1, by simp [h2], fun y hy hp => ?_⟩
      have hxz : x ≠ z := fun e => hz (e ▸ h1)
      have hyz : y ≠ z := fun e => hz (e ▸ hp)
      have hym : y ∈ M := by simpa [hyz] using hy
      have := h3 y hym hp
      rw [List.idxOf_cons, List.idxOf_cons, show (z == x) = false by simpa using Ne.symm hxz, show (z == y) = false by simpa using Ne.symm hyz]
      simpa using this
section
variable (n : Int) (l1 : List S91) (l2 : List S94) (hck : checkS n (l1.map c91) (l2.map c94) = 0)
include hck
/-- All sayings may be left out. -/
theorem poss_full : possB (l1.map c91) (l2.map c94) (bitsL (2 ^ l2.length - 1)) = true := by
  obtain ⟨z0, z1, z2, z3, z4, z5⟩ := z48 hck
  have hp := prodS_pos (l1.map c91) (fun e h => (z4.sizes e h).1)
  have hpn := (prodN_le hck).2
  have h32 : 1 ≤ 2 ^ l2.length ∧ 2 ^ l2.length ≤ 32 := ⟨Nat.one_le_two_pow, pw32 z3⟩
  unfold possB anyL
  rw [List.any_eq_true]
  refine ⟨_, (mem_enumO (l1.map c91) [] _).2 ⟨0, by omega, rfl⟩, ?_⟩
  unfold rightB
  rw [decide_eq_true_eq, List.length_map]
  intro i hi
  unfold rightAt
  have hb : ∀ len : Fin 6, ∀ i : Fin 6, i.val < len.val → bitN (2 ^ len.val - 1) i.val = true := by decide +kernel
  rw [has_bits_all ⟨2 ^ l2.length - 1, by omega⟩ ⟨i, by omega⟩, hb ⟨l2.length, by omega⟩ ⟨i, by omega⟩ hi]
  rfl
end
end Go.Proofs.Ytncaadckehikpaa.Q
namespace Go.Proofs.Ytncaadckehikpaa.Q
open Go.RowKit Go.Proofs.YtncaadckehikpaaW.PrintWords Go.Proofs.YtncaadckehikpaaW.PrintLast Go.Proofs.YtncaadckehikpaaW.PrintMore
set_option linter.unusedVariables false
set_option linter.unusedSimpArgs false
theorem inside_l0 (a b : List S44) (hl : a.length ≤ 50) (hab : a.length = b.length) (h : ∀ j : Nat, j < a.length → (rd_T44 b (j : Int)).f0 ≤ (rd_T44 a (j : Int)).f0 ∧ (rd_T44 a (j : Int)).f1 ≤ (rd_T44 b (j : Int)).f1) : ∀ (d k i : Nat), i + d = a.length → d < k → pl_inside.l0 k a b i = some true
  | 0, k + 1, i, hi, hk => by rw [pl_inside.l0, if_neg (by omega)]
  | d + 1, k + 1, i, hi, hk => by
    have := h i (by omega)
    rw [pl_inside.l0, if_pos (by omega), if_pos (by omega), if_pos (by omega), if_neg (by omega), if_neg (by omega), w1 i (by omega)]
    exact inside_l0 a b hl hab h d k (i + 1) (by omega) (by omega)
theorem kept_l0 (a b : List Int) (hl : a.length ≤ 50) (hab : a.length = b.length) (h : ∀ j : Nat, j < a.length → rd a (j : Int) = 3 ∨ rd a (j : Int) = rd b (j : Int)) : ∀ (d k i : Nat), i + d = a.length → d < k → pl_kept.l0 k a b i = some true
  | 0, k + 1, i, hi, hk => by rw [pl_kept.l0, if_neg (by omega)]
  | d + 1, k + 1, i, hi, hk => by
    have ih := kept_l0 a b hl hab h d k (i + 1) (by omega) (by omega)
    rw [pl_kept.l0, if_pos (by omega), if_pos (by omega), w1 i (by omega)]
    by_cases e : rd a (i : Int) = 3
    · rw [if_pos e]
      exact ih
    · rw [if_neg e, if_pos (by omega), if_pos ((h i (by omega)).resolve_left e)]
      exact ih
theorem bnd_sub {xs ys : List Int} (h : xs ≠ []) (hs : ∀ x ∈ xs, x ∈ ys) : (bndL ys).1 ≤ (bndL xs).1 ∧ (bndL xs).2 ≤ (bndL ys).2 ∧ (bndL xs).1 ≤ (bndL xs).2 := by
  have hy : ys ≠ [] := by
    rintro rfl
    cases xs with
    | nil => exact h rfl
    | cons x r => exact absurd (hs x (by simp)) (by simp)
  obtain ⟨a1, a2, a3⟩ := bnd_spec xs h
  obtain ⟨b1, b2, b3⟩ := bnd_spec ys hy
  exact ⟨(b3 _ (hs _ a1)).1, (b3 _ (hs _ a2)).2, (a3 _ a1).2⟩
theorem askErr_zero {n : Int} {l1 : List S122} {l2 : List S124} (hck : checkS n l1 l2 = 0) (hne : truthsL l1 l2 ≠ []) : askErr n l1 l2 = 0 := by
  unfold truthsL at hne
  unfold askErr
  rw [if_pos hck, if_neg hne]
theorem rdI_map {α : Type} (xs : List α) (f : α → Int) (i : Nat) (h : i < xs.length) : rd (xs.map f) (i : Int) = f xs[i] := by
  rw [rdI _ i (by rw [List.length_map]; exact h), List.getElem_map]
/-- Of two slates the truths of the first are among the second's. -/
theorem closer_ok {n : Int} {l1 : List S91} {l2 : List S94} {l3 : List S91} {l4 : List S94} (h1 : checkS n (l1.map c91) (l2.map c94) = 0) (h2 : checkS n (l3.map c91) (l4.map c94) = 0)
    (hne : truthsL (l1.map c91) (l2.map c94) ≠ []) (hs : ∀ v ∈ truthsL (l1.map c91) (l2.map c94), v ∈ truthsL (l3.map c91) (l4.map c94)) : CloserOk n l1 l2 n l3 l4 := by
  obtain ⟨z0, z1, z2, z3, z4, z5⟩ := z48 h1
  obtain ⟨y0, y1, y2, y3, y4, y5⟩ := z48 h2
  have hne2 : truthsL (l3.map c91) (l4.map c94) ≠ [] := by
    intro e
    cases hx : truthsL (l1.map c91) (l2.map c94) with
    | nil => exact hne hx
    | cons v r => have := hs v (by rw [hx]; simp); rw [e] at this; simp at this
  have e1 := askErr_zero h1 hne
  have e2 := askErr_zero h2 hne2
  have hb := fun (f : List Int → Int) => bnd_sub (xs := (truthsL (l1.map c91) (l2.map c94)).map f) (ys := (truthsL (l3.map c91) (l4.map c94)).map f) (by simpa using hne) (fun x hx => by
    obtain ⟨v, hv, rfl⟩ := List.mem_map.1 hx
    exact List.mem_map.2 ⟨v, hs v hv, rfl⟩)
  have hl1 := boundsTo_length (truthsL (l1.map c91) (l2.map c94)) n.toNat
  have hl2 := boundsTo_length (truthsL (l3.map c91) (l4.map c94)) n.toNat
  have hat : ∀ (vs : List (List Int)) (j : Nat), j < n.toNat → rd_T44 (z39 vs n.toNat) (j : Int) = ⟨(bndL (vs.map (fun v => rd v (j : Int)))).1, (bndL (vs.map (fun v => rd v (j : Int)))).2⟩ := fun vs j hj => by
    rw [rd44 _ j (by rw [boundsTo_length]; exact hj)]
    simp [z39]
  refine ⟨⟨by omega, by omega, by omega, by omega⟩, ⟨_, _, by rw [soap_Bounds.f, e1]; rfl, by rw [soap_Bounds.f, e2]; rfl, ?_⟩, ⟨_, _, by rw [soapOwes_f 40 n _ _ (by omega), e1]; rfl, by rw [soapOwes_f 40 n _ _ (by omega), e2]; rfl, ?_⟩, ⟨_, _, _, _, by rw [soap_Fewest.f, e1]; rfl, by rw [soap_Fewest.f, e2]; rfl, (hb payN).1, (hb payN).2.1⟩⟩
  · unfold pl_inside.f
    rw [if_pos (by omega)]
    refine inside_l0 _ _ (by omega) (by omega) (fun j hj => ?_) n.toNat 100 0 (by omega) (by omega)
    rw [hat _ j (by omega), hat _ j (by omega)]
    exact ⟨(hb _).1, (hb _).2.1⟩
  · unfold pl_kept.f
    rw [if_pos (by rw [List.length_map, List.length_map]; omega)]
    refine kept_l0 _ _ (by rw [List.length_map]; omega) (by rw [List.length_map, List.length_map]; omega) (fun j hj => ?_) n.toNat 100 0 (by rw [List.length_map]; omega) (by omega)
    rw [List.length_map] at hj
    have q1 := hat (truthsL (l1.map c91) (l2.map c94)) j (by omega)
    have q2 := hat (truthsL (l3.map c91) (l4.map c94)) j (by omega)
    rw [rd44 _ j (by omega)] at q1 q2
    rw [rdI_map _ _ j (by omega), rdI_map _ _ j (by omega), q1, q2]
    obtain ⟨b1, b2, b3⟩ := hb (fun v => rd v (j : Int))
    unfold verd
    simp only []
    by_cases c1 : (bndL ((truthsL (l3.map c91) (l4.map c94)).map (fun v => rd v (j : Int)))).2 < 0
    · rw [if_pos c1, if_pos (by omega)]; exact .inr rfl
    · rw [if_neg c1]
      by_cases c2 : (bndL ((truthsL (l3.map c91) (l4.map c94)).map (fun v => rd v (j : Int)))).1 ≥ 0
      · rw [if_pos c2, if_neg (by omega), if_pos (by omega)]; exact .inr rfl
      · rw [if_neg c2]; exact .inl rfl
/-- A set that may be left out, as truths of the rest: none is left out. -/
theorem poss_truths (l1 : List S122) (l2 : List S124) : possB l1 l2 [] = true ↔ truthsL l1 l2 ≠ [] := by
  have h : truthsL l1 l2 ≠ [] ↔ ∃ v, v ∈ truthsL l1 l2 := by
    constructor
    · intro h
      cases hx : truthsL l1 l2 with
      | nil => exact absurd hx h
      | cons v r => exact ⟨v, by simp⟩
    · rintro ⟨v, hv⟩ e
      rw [e] at hv
      simp at hv
  rw [h]
  unfold possB anyL
  rw [List.any_eq_true]
  constructor
  · rintro ⟨os, ho, hr⟩
    exact ⟨owedL l1 os, (mem_truthsL l1 l2 _).2 ⟨os, (mem_truthsR l1 l2 os).2 ⟨ho, hr⟩, rfl⟩⟩
  · rintro ⟨v, hv⟩
    obtain ⟨os, ho, rfl⟩ := (mem_truthsL l1 l2 v).1 hv
    exact ⟨os, ((mem_truthsR l1 l2 os).1 ho).1, ((mem_truthsR l1 l2 os).1 ho).2⟩
theorem order_len_all : ∀ len : Fin 6, ((List.range (2 ^ len.val)).all fun a => (List.range (2 ^ len.val)).all fun b => !decide ((orderM len.val).idxOf a ≤ (orderM len.val).idxOf b) || decide ((bitsL a).length ≤ (bitsL b).length)) = true := by decide +kernel
theorem order_len (len a b : Nat) (hl : len ≤ 5) (ha : a < 2 ^ len) (hb : b < 2 ^ len) (h : (orderM len).idxOf a ≤ (orderM len).idxOf b) : (bitsL a).length ≤ (bitsL b).length := by
  have := order_len_all ⟨len, by omega⟩
  rw [List.all_eq_true] at this
  have := this a (List.mem_range.2 ha)
  rw [List.all_eq_true] at this
  have := this b (List.mem_range.2 hb)
  simp only [Bool.or_eq_true, Bool.not_eq_true', decide_eq_false_iff_not, decide_eq_true_eq] at this
  rcases this with c | c
  · exact absurd h c
  · exact c
section
variable (n : Int) (l1 : List S91) (l2 : List S94) (hck : checkS n (l1.map c91) (l2.map c94) = 0)
include hck
/-- What is left out is possible, and first in the order of sets. -/
theorem leave_spec : ∃ x, x < 2 ^ l2.length ∧ leaveO (l1.map c91) (l2.map c94) = some (bitsL x) ∧ possB (l1.map c91) (l2.map c94) (bitsL x) = true ∧ ∀ y, y < 2 ^ l2.length → possB (l1.map c91) (l2.map c94) (bitsL y) = true → (orderM l2.length).idxOf x ≤ (orderM l2.length).idxOf y := by
  obtain ⟨z0, z1, z2, z3, z4, z5⟩ := z48 hck
  have h32 : 1 ≤ 2 ^ l2.length ∧ 2 ^ l2.length ≤ 32 := ⟨Nat.one_le_two_pow, pw32 z3⟩
  have hf := poss_full n l1 l2 hck
  have hL : leaveO (l1.map c91) (l2.map c94) = ((orderM l2.length).find? (fun b => possB (l1.map c91) (l2.map c94) (bitsL b))).map bitsL := by
    unfold leaveO
    rw [List.length_map, order_all ⟨l2.length, by omega⟩, List.find?_map]
    rfl
  rcases hx : (orderM l2.length).find? (fun b => possB (l1.map c91) (l2.map c94) (bitsL b)) with _ | x
  · have hmem := order_mem_all ⟨l2.length, by omega⟩ ⟨2 ^ l2.length - 1, by omega⟩ (by show 2 ^ l2.length - 1 < 2 ^ l2.length; omega)
    exact absurd hf (by simpa using List.find?_eq_none.1 hx _ hmem)
  · obtain ⟨x1, x2, x3⟩ := find_least _ _ _ hx
    have hxl := order_lt_all ⟨l2.length, by omega⟩ x x2
    exact ⟨x, hxl, by rw [hL, hx]; rfl, x1, fun y hy hp => x3 y (order_mem_all ⟨l2.length, by omega⟩ ⟨y, by omega⟩ hy) hp⟩
end
end Go.Proofs.Ytncaadckehikpaa.Q
namespace Go.Proofs.Ytncaadckehikpaa.Q
open Go.RowKit Go.Proofs.YtncaadckehikpaaW.PrintWords Go.Proofs.YtncaadckehikpaaW.PrintLast Go.Proofs.YtncaadckehikpaaW.PrintMore
set_option linter.unusedVariables false
set_option linter.unusedSimpArgs false
end Go.Proofs.Ytncaadckehikpaa.Q
namespace Go.Proofs.Ytncaadckehikpaa.Q
open Go.RowKit Go.Proofs.YtncaadckehikpaaW.PrintWords Go.Proofs.YtncaadckehikpaaW.PrintLast Go.Proofs.YtncaadckehikpaaW.PrintMore
set_option linter.unusedVariables false
set_option linter.unusedSimpArgs false
end Go.Proofs.Ytncaadckehikpaa.Q
namespace Go.Proofs.Ytncaadckehikpaa.Q
open Go.RowKit Go.Proofs.YtncaadckehikpaaW.PrintWords Go.Proofs.YtncaadckehikpaaW.PrintLast Go.Proofs.YtncaadckehikpaaW.PrintMore
attribute [local go_sem] z30 z29 max_two min_two   -- for this text's walks alone
set_option linter.unusedVariables false
set_option linter.unusedSimpArgs false
/-! ### pl_SoapFewest: function 5 -/
def pl_SoapFewest.f (k : Nat) (a0_0 : Int) (l0_1 : List (S91)) (l0_2 : List (S94)) : Option (Bool) := (pl_Thin.f a0_0 l0_1 l0_2).bind fun t336 => (if t336 = true then ((pl_Slate.f k a0_0 l0_1 l0_2).bind fun bt338 => ((soap_Fewest.f bt338.1 bt338.2.1 bt338.2.2).bind fun bt345 => ((pl_sure.f k a0_0 l0_1 l0_2).bind fun bt349 => (if bt349.2 = 0 then (if bt345.2.2 = 0 then ((pr_Fewest.f k a0_0 l0_1 l0_2 bt349.1).bind fun bt353 => ((pl_to.f bt353.1 bt353.2).bind fun bt355 => (if (bt345.1 == bt355.1 && (bt345.2.1 == bt355.2)) = true then ((pl_awake.f).bind fun t357 => (some t357)) else (some false)))) else (some false)) else (if bt345.2.2 = bt349.2 then (if (bt345.1 == 0 && (bt345.2.1 == 0)) = true then ((pl_awake.f).bind fun t358 => (some t358)) else (some false)) else (some false)))))) else ((pl_awake.f).bind fun t337 => (some t337)))
end Go.Proofs.Ytncaadckehikpaa.Q
namespace Go.Proofs.Ytncaadckehikpaa.Q
open Go.RowKit Go.Proofs.YtncaadckehikpaaW.PrintWords Go.Proofs.YtncaadckehikpaaW.PrintLast Go.Proofs.YtncaadckehikpaaW.PrintMore
set_option linter.unusedVariables false
set_option linter.unusedSimpArgs false
set_option linter.unusedSectionVars false
section
variable (n : Int) (l1 : List S91) (l2 : List S94) (os : List Int) (hck : checkS n (l1.map c91) (l2.map c94) = 0) (ho : Small (l1.map c91) os)
include hck ho
end
section
variable (n : Int) (l1 : List S91) (l2 : List S94) (oss : List (List Int)) (hck : checkS n (l1.map c91) (l2.map c94) = 0) (ho : ∀ os ∈ oss, Small (l1.map c91) os) (hl : oss.length ≤ 2000)
include hck ho hl
end
end Go.Proofs.Ytncaadckehikpaa.Q
namespace Go.Proofs.Ytncaadckehikpaa.Q
open Go.RowKit Go.Proofs.YtncaadckehikpaaW.PrintWords Go.Proofs.YtncaadckehikpaaW.PrintLast Go.Proofs.YtncaadckehikpaaW.PrintMore
set_option linter.unusedVariables false
set_option linter.unusedSimpArgs false
end Go.Proofs.Ytncaadckehikpaa.Q
namespace Go.Proofs.Ytncaadckehikpaa.Q
open Go.RowKit Go.Proofs.YtncaadckehikpaaW.PrintWords Go.Proofs.YtncaadckehikpaaW.PrintLast Go.Proofs.YtncaadckehikpaaW.PrintMore
attribute [local go_sem] z30 z29 max_two min_two   -- for this text's walks alone
set_option linter.unusedVariables false
set_option linter.unusedSimpArgs false
/-! ### pl_list: function 30 -/
def pl_list.f (l0 : List Int) : Option (List Int) := (some (([] : List Int) : List Int)).bind fun y261 => (if y261.length + l0.length < 17592186044416 then (some (y261 ++ l0)) else (none))
/-! ### pr_AreOunces: function 32 -/
def pr_AreOunces.l0 : Nat → List Int → Int → Int → List (S91) → List (S94) → Option (Bool)
 | 0, _, _, _, _, _ => none
 | k + 1, x1, x5, x268000, x268001, x268002 => if x5 < (x1.length : Int) then (if 0 ≤ x5 then (if x5 < (x268001.length : Int) then ((pr_Is.f (rd x1 x5) ((rd_T91 x268001 x5).f2.f0) ((rd_T91 x268001 x5).f2.f1)).bind fun t270 => (if t270 = true then (pr_AreOunces.l0 k x1 (wrap64 (x5 + 1)) x268000 x268001 x268002) else (some false))) else (none)) else (none)) else (some true)
def pr_AreOunces.f (k : Nat) (a0_0 : Int) (l0_1 : List (S91)) (l0_2 : List (S94)) (l1 : List Int) : Option (Bool) := if (l1.length : Int) = (l0_1.length : Int) then (pr_AreOunces.l0 k l1 0 a0_0 l0_1 l0_2) else (some false)
end Go.Proofs.Ytncaadckehikpaa.Q
namespace Go.Proofs.Ytncaadckehikpaa.Q
open Go.RowKit Go.Proofs.YtncaadckehikpaaW.PrintWords Go.Proofs.YtncaadckehikpaaW.PrintLast Go.Proofs.YtncaadckehikpaaW.PrintMore
attribute [local go_sem] z30 z29 max_two min_two   -- for this text's walks alone
set_option linter.unusedVariables false
set_option linter.unusedSimpArgs false
/-! ### pr_IsTruth: function 66 -/
def pr_IsTruth.f (k : Nat) (a0_0 : Int) (l0_1 : List (S91)) (l0_2 : List (S94)) (l1 : List Int) : Option (Bool) := (pr_AreOunces.f k a0_0 l0_1 l0_2 l1).bind fun t1016 => (if t1016 = true then ((pr_Right.f k a0_0 l0_1 l0_2 l1).bind fun t1017 => ((pr_Full.f a0_0 l0_1 l0_2).bind fun t1018 => (some (t1017 == t1018)))) else (some false))
end Go.Proofs.Ytncaadckehikpaa.Q
namespace Go.Proofs.Ytncaadckehikpaa.Q
open Go.RowKit Go.Proofs.YtncaadckehikpaaW.PrintWords Go.Proofs.YtncaadckehikpaaW.PrintLast Go.Proofs.YtncaadckehikpaaW.PrintMore
set_option linter.unusedVariables false
set_option linter.unusedSimpArgs false
end Go.Proofs.Ytncaadckehikpaa.Q
namespace Go.Proofs.Ytncaadckehikpaa.Q
open Go.RowKit Go.Proofs.YtncaadckehikpaaW.PrintWords Go.Proofs.YtncaadckehikpaaW.PrintLast Go.Proofs.YtncaadckehikpaaW.PrintMore
attribute [local go_sem] z30 z29 max_two min_two   -- for this text's walks alone
set_option linter.unusedVariables false
set_option linter.unusedSimpArgs false
/-! ### pl_payments: function 51 -/
def pl_payments.l0 : Nat → List (S76) → List (S140) → Int → Option ((List (S140)))
 | 0, _, _, _ => none
 | k + 1, x0, x3, x4 => if x4 < (x0.length : Int) then (if 0 ≤ x4 then (if x3.length < 5864062014805 then (pl_payments.l0 k x0 (x3 ++ [(⟨(rd_T76 x0 x4).f0, (rd_T76 x0 x4).f1, (rd_T76 x0 x4).f2⟩ : S140)]) (wrap64 (x4 + 1))) else (none)) else (none)) else (some x3)
def pl_payments.f (k : Nat) (l0 : List (S76)) : Option ((List (S140))) := pl_payments.l0 k l0 ([] : List (S140)) 0
/-! ### pl_Payments: function 57 -/
def pl_Payments.l0 : Nat → List (S140) → List (S76) → Int → Option ((List (S76)))
 | 0, _, _, _ => none
 | k + 1, x0, x3, x4 => if x4 < (x0.length : Int) then (if 0 ≤ x4 then (if x3.length < 5864062014805 then (pl_Payments.l0 k x0 (x3 ++ [(⟨(rd_T140 x0 x4).f0, (rd_T140 x0 x4).f1, (rd_T140 x0 x4).f2⟩ : S76)]) (wrap64 (x4 + 1))) else (none)) else (none)) else (some x3)
def pl_Payments.f (k : Nat) (l0 : List (S140)) : Option ((List (S76))) := pl_Payments.l0 k l0 ([] : List (S76)) 0
end Go.Proofs.Ytncaadckehikpaa.Q
namespace Go.Proofs.Ytncaadckehikpaa.Q
open Go.RowKit Go.Proofs.YtncaadckehikpaaW.PrintWords Go.Proofs.YtncaadckehikpaaW.PrintLast Go.Proofs.YtncaadckehikpaaW.PrintMore
attribute [local go_sem] z30 z29 max_two min_two   -- for this text's walks alone
set_option linter.unusedVariables false
set_option linter.unusedSimpArgs false
/-! ### pr_ArePayments: function 50 -/
def pr_ArePayments.l0 : Nat → List (S140) → Int → Int → List (S91) → List (S94) → Option (Bool)
 | 0, _, _, _, _, _ => none
 | k + 1, x1, x5, x427000, x427001, x427002 => if x5 < (x1.length : Int) then (if 0 ≤ x5 then ((pr_ArePair.f x427000 x427001 x427002 ((rd_T140 x1 x5).f0) ((rd_T140 x1 x5).f1)).bind fun t429 => (if t429 = true then ((pr_In.f ((rd_T140 x1 x5).f2) 1 240).bind fun t431 => (if t431 = true then (pr_ArePayments.l0 k x1 (wrap64 (x5 + 1)) x427000 x427001 x427002) else (some false))) else (some false))) else (none)) else (some true)
def pr_ArePayments.f (k : Nat) (a0_0 : Int) (l0_1 : List (S91)) (l0_2 : List (S94)) (l1 : List (S140)) : Option (Bool) := pr_ArePayments.l0 k l1 0 a0_0 l0_1 l0_2
end Go.Proofs.Ytncaadckehikpaa.Q
namespace Go.Proofs.Ytncaadckehikpaa.Q
open Go.RowKit Go.Proofs.YtncaadckehikpaaW.PrintWords Go.Proofs.YtncaadckehikpaaW.PrintLast Go.Proofs.YtncaadckehikpaaW.PrintMore
attribute [local go_sem] z30 z29 max_two min_two   -- for this text's walks alone
set_option linter.unusedVariables false
set_option linter.unusedSimpArgs false
/-! ### pr_Settles: function 69 -/
mutual
def pr_Settles.l0 : Nat → List Int → List (S140) → Int → Int → List (S91) → List (S94) → Option (Bool)
 | 0, _, _, _, _, _, _ => none
 | k + 1, x1, x2, x7, x1081000, x1081001, x1081002 => if x7 < x1081000 then ((pr_Owed.f k x1081000 x1081001 x1081002 x1 x7).bind fun t1081 => (pr_Settles.l1 k x1 x2 x7 t1081 0 x1081000 x1081001 x1081002)) else (some true)
def pr_Settles.l1 : Nat → List Int → List (S140) → Int → Int → Int → Int → List (S91) → List (S94) → Option (Bool)
 | 0, _, _, _, _, _, _, _, _ => none
 | k + 1, x1, x2, x7, x8, x9, x1081000, x1081001, x1081002 => if x9 < (x2.length : Int) then (if 0 ≤ x9 then (if ((rd_T140 x2 x9).f0) = x7 then (if ((rd_T140 x2 x9).f1) = x7 then (pr_Settles.l1 k x1 x2 x7 (wrap64 ((wrap64 (x8 + ((rd_T140 x2 x9).f2))) - ((rd_T140 x2 x9).f2))) (wrap64 (x9 + 1)) x1081000 x1081001 x1081002) else (pr_Settles.l1 k x1 x2 x7 (wrap64 (x8 + ((rd_T140 x2 x9).f2))) (wrap64 (x9 + 1)) x1081000 x1081001 x1081002)) else (if ((rd_T140 x2 x9).f1) = x7 then (pr_Settles.l1 k x1 x2 x7 (wrap64 (x8 - ((rd_T140 x2 x9).f2))) (wrap64 (x9 + 1)) x1081000 x1081001 x1081002) else (pr_Settles.l1 k x1 x2 x7 x8 (wrap64 (x9 + 1)) x1081000 x1081001 x1081002))) else (none)) else (if x8 = 0 then (pr_Settles.l0 k x1 x2 (wrap64 (x7 + 1)) x1081000 x1081001 x1081002) else (some false))
end
def pr_Settles.f (k : Nat) (a0_0 : Int) (l0_1 : List (S91)) (l0_2 : List (S94)) (l1 : List Int) (l2 : List (S140)) : Option (Bool) := pr_Settles.l0 k l1 l2 0 a0_0 l0_1 l0_2
end Go.Proofs.Ytncaadckehikpaa.Q
namespace Go.Proofs.Ytncaadckehikpaa.Q
open Go.RowKit Go.Proofs.YtncaadckehikpaaW.PrintWords Go.Proofs.YtncaadckehikpaaW.PrintLast Go.Proofs.YtncaadckehikpaaW.PrintMore
set_option linter.unusedVariables false
set_option linter.unusedSimpArgs false
set_option linter.unusedSectionVars false
def c140 (p : S140) : S76 := ⟨p.f0, p.f1, p.f2⟩
section
variable (n : Int) (l1 : List S91) (l2 : List S94) (os : List Int) (hck : checkS n (l1.map c91) (l2.map c94) = 0) (ho : Small (l1.map c91) os) (l : List S140) (hl : l.length ≤ 1000) (hp : (l.map c140).all (payB n) = true)
include hck ho hl hp
end
section
variable (n : Int) (l1 : List S91) (l2 : List S94) (os : List Int) (hck : checkS n (l1.map c91) (l2.map c94) = 0) (ho : Small (l1.map c91) os)
include hck ho
end
end Go.Proofs.Ytncaadckehikpaa.Q
namespace Go.Proofs.Ytncaadckehikpaa.Q
open Go.RowKit Go.Proofs.YtncaadckehikpaaW.PrintWords Go.Proofs.YtncaadckehikpaaW.PrintLast Go.Proofs.YtncaadckehikpaaW.PrintMore
set_option linter.unusedVariables false
set_option linter.unusedSimpArgs false
set_option linter.unusedSectionVars false
theorem ready_f (k : Nat) (n : Int) (l1 : List S91) (l2 : List S94) (hk : 40 ≤ k) : pl_ready.f k n l1 l2 = some (decide (l1.length ≤ 30 ∧ l2.length ≤ 30) && decide (checkS n (l1.map c91) (l2.map c94) = 0)) := by
  unfold pl_ready.f
  rw [Thin_f, Option.bind_some]
  by_cases ht : l1.length ≤ 30 ∧ l2.length ≤ 30
  · rw [if_pos (by simpa using ht), pl_fault.f, Fault_f k n l1 l2 hk, Option.bind_some, Option.bind_some, decide_eq_true ht, Bool.true_and]
    by_cases h : checkS n (l1.map c91) (l2.map c94) = 0 <;> simp [h]
  · rw [if_neg (by simpa using ht), decide_eq_false ht, Bool.false_and]
end Go.Proofs.Ytncaadckehikpaa.Q
