/- A part of the proof: contracts of functions and plain facts (Q26, HLBounds, Q13, Q14, Q15, HMostRef, HMostRef2, Q17, Q18, Q29, HLLeaves). No condition. -/
import Derived.Test.YtncaadckehikpaaM3
import Derived.Test.YtncaadckehikpaaM22
import Derived.Test.YtncaadckehikpaaM11
import Derived.Test.YtncaadckehikpaaM12
import Derived.Test.YtncaadckehikpaaM15
import Derived.Test.YtncaadckehikpaaM21
import Derived.Test.YtncaadckehikpaaM24
import Derived.Test.YtncaadckehikpaaM19
import Derived.Test.YtncaadckehikpaaM13
import Derived.Test.YtncaadckehikpaaM10
import Derived.Test.YtncaadckehikpaaM14
import Derived.Test.YtncaadckehikpaaM23
namespace Go.Proofs.Ytncaadckehikpaa.Q
open Go.RowKit Go.Proofs.YtncaadckehikpaaW.PrintWords Go.Proofs.YtncaadckehikpaaW.PrintLast Go.Proofs.YtncaadckehikpaaW.PrintMore
attribute [local go_sem] z30 z29 max_two min_two   -- for this text's walks alone
set_option linter.unusedVariables false
set_option linter.unusedSimpArgs false
/-! ### pl_SoapBounds: function 3 -/
mutual
def pl_SoapBounds.j0 : Nat → List (S44) → List Int → List (List Int) → Bool → Int → List (S91) → List (S94) → Option (Bool)
 | 0, _, _, _, _, _, _, _ => none
 | k + 1, x3, x5, x7, x71, x224000, x224001, x224002 => if x71 = true then (some false) else (pl_SoapBounds.l0 k x3 x5 x7 0 x224000 x224001 x224002)
def pl_SoapBounds.l0 : Nat → List (S44) → List Int → List (List Int) → Int → Int → List (S91) → List (S94) → Option (Bool)
 | 0, _, _, _, _, _, _, _ => none
 | k + 1, x3, x5, x7, x9, x224000, x224001, x224002 => if x9 < x224000 then (if 0 ≤ x9 then (if x9 < (x3.length : Int) then ((pr_Bounds.f k x224000 x224001 x224002 x7 x9).bind fun bt255 => ((pl_to.f bt255.1 bt255.2).bind fun bt257 => (if (!(((rd_T44 x3 x9).f0) == bt257.1) || (!(((rd_T44 x3 x9).f1) == bt257.2))) = true then (some false) else (if x9 < (x5.length : Int) then ((pr_Owes.f k x224000 x224001 x224002 x7 x9).bind fun t260 => (if (rd x5 x9) = t260 then (pl_SoapBounds.l0 k x3 x5 x7 (wrap64 (x9 + 1)) x224000 x224001 x224002) else (some false))) else (none))))) else (none)) else (none)) else ((pl_awake.f).bind fun t253 => (some t253))
end
def pl_SoapBounds.f (k : Nat) (a0_0 : Int) (l0_1 : List (S91)) (l0_2 : List (S94)) : Option (Bool) := (pl_Thin.f a0_0 l0_1 l0_2).bind fun t224 => (if t224 = true then ((pl_Slate.f k a0_0 l0_1 l0_2).bind fun bt226 => ((soap_Bounds.f bt226.1 bt226.2.1 bt226.2.2).bind fun bt233 => ((pl_Slate.f k a0_0 l0_1 l0_2).bind fun bt237 => ((soap_Owes.f k bt237.1 bt237.2.1 bt237.2.2).bind fun bt244 => ((pl_sure.f k a0_0 l0_1 l0_2).bind fun bt248 => (if bt248.2 = 0 then (if bt233.2 = 0 then (if bt244.2 = 0 then (if (bt233.1.length : Int) = a0_0 then (pl_SoapBounds.j0 k bt233.1 bt244.1 bt248.1 ((bt244.1.length : Int) != a0_0) a0_0 l0_1 l0_2) else (pl_SoapBounds.j0 k bt233.1 bt244.1 bt248.1 true a0_0 l0_1 l0_2)) else (pl_SoapBounds.j0 k bt233.1 bt244.1 bt248.1 true a0_0 l0_1 l0_2)) else (pl_SoapBounds.j0 k bt233.1 bt244.1 bt248.1 true a0_0 l0_1 l0_2)) else (if bt233.2 = bt248.2 then (if bt244.2 = bt248.2 then (if (wrap64 ((bt233.1.length : Int) + (bt244.1.length : Int))) = 0 then ((pl_awake.f).bind fun t252 => (some t252)) else (some false)) else (some false)) else (some false)))))))) else ((pl_awake.f).bind fun t225 => (some t225)))
end Go.Proofs.Ytncaadckehikpaa.Q
namespace Go.Proofs.Ytncaadckehikpaa.Q
open Go.RowKit Go.Proofs.YtncaadckehikpaaW.PrintWords Go.Proofs.YtncaadckehikpaaW.PrintLast Go.Proofs.YtncaadckehikpaaW.PrintMore
set_option linter.unusedVariables false
set_option linter.unusedSimpArgs false
section
variable (n : Int) (l1 : List S91) (l2 : List S94) (hck : checkS n (l1.map c91) (l2.map c94) = 0) (hne : truthsR (l1.map c91) (l2.map c94) ≠ [])
set_option linter.unusedSectionVars false
include hck hne
end
end Go.Proofs.Ytncaadckehikpaa.Q
namespace Go.Proofs.Ytncaadckehikpaa.Q
open Go.RowKit Go.Proofs.YtncaadckehikpaaW.PrintWords Go.Proofs.YtncaadckehikpaaW.PrintLast Go.Proofs.YtncaadckehikpaaW.PrintMore
attribute [local go_sem] z30 z29 max_two min_two   -- for this text's walks alone
set_option linter.unusedVariables false
set_option linter.unusedSimpArgs false
/-! ### pr_Bits: function 58 -/
def pr_Bits.l0 : Nat → Int → List Int → Int → Option (List Int)
 | 0, _, _, _ => none
 | k + 1, x0, x3, x4 => if 0 ≤ (IntKind.u64.wrap (x4)) then (if (shr .i64 x0 (IntKind.u64.wrap (x4))) > 0 then (if (Int.tmod (shr .i64 x0 (IntKind.u64.wrap (x4))) 2) = 1 then (if x3.length < 17592186044416 then (pr_Bits.l0 k x0 (x3 ++ [x4]) (wrap64 (x4 + 1))) else (none)) else (pr_Bits.l0 k x0 x3 (wrap64 (x4 + 1)))) else (some x3)) else (none)
def pr_Bits.f (k : Nat) (a0 : Int) : Option (List Int) := pr_Bits.l0 k a0 ([] : List Int) 0
theorem pr_Bits.mono_l : ∀ k, (∀ y0 y1 y2, LeO (pr_Bits.l0 k y0 y1 y2) (pr_Bits.l0 (k + 1) y0 y1 y2))
 | 0 => fun _ _ _ r h => by simp [pr_Bits.l0] at h
 | k + 1 => by
  have ih0 := pr_Bits.mono_l k
  ·intro y0 y1 y2
   unfold pr_Bits.l0
   repeat' first
   | (with_reducible exact ih0 _ _ _)
   | (with_reducible exact LeO.refl _)
   | (with_reducible exact LeO.none _)
   | (with_reducible refine LeO.ite ?_ ?_)
   | (with_reducible refine LeO.bind ?_ (fun _ => ?_))
   | exact ih0 _ _ _
   | exact LeO.none _
   | refine LeO.ite ?_ ?_
   | refine LeO.bind ?_ (fun _ => ?_)
theorem pr_Bits.mono : ∀ a0 k, LeO (pr_Bits.f k a0) (pr_Bits.f (k + 1) a0) := by
 intro a0 k
 have ih0 := pr_Bits.mono_l k
 unfold pr_Bits.f
 repeat' first
   | (with_reducible exact ih0 _ _ _)
   | (with_reducible exact LeO.refl _)
   | (with_reducible exact LeO.none _)
   | (with_reducible refine LeO.ite ?_ ?_)
   | (with_reducible refine LeO.bind ?_ (fun _ => ?_))
   | exact ih0 _ _ _
   | exact LeO.none _
   | refine LeO.ite ?_ ?_
   | refine LeO.bind ?_ (fun _ => ?_)
set_option maxHeartbeats 8000000 in
set_option maxRecDepth 100000 in
theorem pr_Bits.calls (k : Nat) (a0 : Int) (r : List Int) (w : World) (h : pr_Bits.f k a0 = some r) :
  Calls Try.prog 58 #[.int .i64 a0] w fun e w' => ∃ v0_ : Value, e = .returned (v0_) ∧ Kd.R (Kd.int .i64) 3 w' w.heap.size (fun _ => True) v0_ r ∧ Below w.heap.size w w' := by
 have HB := mkA (Below.refl w.heap.size w)
 have H : (pr_Bits.l0 k a0 ([] : List Int) 0) = some r := h
 clear h
 have H' := mkA H
 clear H
 go_enter Try.func58, Try.ntmps58
 go_wp2
 go_loopg [3, 4] k (fun kq v3 v4 w' => ∃ (x3_1 : List Int) (x4_1 : Int), v4 = .int .i64 x4_1 ∧ Aside0 (pr_Bits.l0 kq a0 x3_1 x4_1 = some r) ∧ Aside0 (kq ≤ k) ∧ Aside0 (Kd.R (Kd.int .i64) 3 w' w.heap.size (fun _ => True) v3 x3_1) ∧ Aside0 (Below w.heap.size w w'))
 case atStart => exact ⟨(([] : List Int)), (0), (by first | rfl | (simp; done) | (simp [*]; done)), H', ⟨Nat.le_refl _⟩, ⟨by first | exact Kd.R_nil _ _ _ _ _ | exact Kd.N_nil _ _ _ _ _ | exact Kd.V_nil _ _ _ _ _ | exact Kd.Q_nil _ _ _ _ _ | exact Kd.S_nil _ _ _ _ _⟩, ⟨by repeat (first | (with_reducible first | exact HB.out | apply z10 | apply z11 | apply z12) | exact HB.out)⟩⟩
 case round =>
  clear H'
  obtain ⟨x3_1, x4_1, rfl, HA, HK1, HO_3, HB⟩ := hrel
  cases gk with
  | zero => exact absurd HA.out (by simp [pr_Bits.l0])
  | succ k1 =>
   have H := HA.out
   clear HA
   simp only [pr_Bits.l0] at H
   obtain ⟨ji2, hji2⟩ : ∃ j_ : Int, (IntKind.u64.wrap (x4_1)) = j_ := ⟨_, rfl⟩
   replace H : (if 0 ≤ (ji2) then (if (shr .i64 a0 (ji2)) > 0 then (if (Int.tmod (shr .i64 a0 (ji2)) 2) = 1 then (if x3_1.length < 17592186044416 then (pr_Bits.l0 k1 a0 (x3_1 ++ [x4_1]) (wrap64 (x4_1 + 1))) else (none)) else (pr_Bits.l0 k1 a0 x3_1 (wrap64 (x4_1 + 1)))) else (some x3_1)) else (none)) = some r := by first | (rw [hji2] at H; exact H) | (simp only [hji2] at H ⊢; exact H)
   by_cases c3 : 0 ≤ (ji2)
   ·rw [if_pos c3] at H
    have c3b0 := eq_true c3
    have c3b1 : decide (0 ≤ (ji2)) = true := decide_eq_true c3
    clear c3
    obtain ⟨ji4, hji4⟩ : ∃ j_ : Int, (shr .i64 a0 (ji2)) = j_ := ⟨_, rfl⟩
    replace H : (if (ji4) > 0 then (if (Int.tmod (ji4) 2) = 1 then (if x3_1.length < 17592186044416 then (pr_Bits.l0 k1 a0 (x3_1 ++ [x4_1]) (wrap64 (x4_1 + 1))) else (none)) else (pr_Bits.l0 k1 a0 x3_1 (wrap64 (x4_1 + 1)))) else (some x3_1)) = some r := by first | (rw [hji4] at H; exact H) | (simp only [hji4] at H ⊢; exact H)
    have hji4_ : (a0 / 2 ^ min (ji2).toNat 64) = ji4 := hji4
    have hji4z : (ji2) ≤ 64 → (a0 / 2 ^ (ji2).toNat) = ji4 := shr_small hji4
    by_cases c5 : (ji4) > 0
    ·rw [if_pos c5] at H
     have c5b0 : decide (0 < (ji4)) = true := decide_eq_true c5
     clear c5
     have c6b0 := eq_true (of_decide_eq_true (by first | (with_reducible assumption) | assumption) : 0 ≤ (ji2))
     have c7b0 := eq_true (of_decide_eq_true (by first | (with_reducible assumption) | assumption) :  0 < ji4)
     by_cases c8 : (Int.tmod (ji4) 2) = 1
     ·rw [if_pos c8] at H
      have c8b0 : ((Int.tmod (ji4) 2) == 1) = true := beq_iff_eq.mpr c8
      have c8b1 : ((Int.tmod (ji4) 2) != 1) = false := bne_eq_false_iff_eq.mpr c8
      clear c8
      by_cases c9 : x3_1.length < 17592186044416
      ·rw [if_pos c9] at H
       have LMc9 := mkA c9
       clear c9
       obtain ⟨y271, hy271⟩ : ∃ y_ : List Int, y_ = (x3_1 ++ [x4_1]) := ⟨_, rfl⟩
       replace H : (pr_Bits.l0 k1 a0 y271 (wrap64 (x4_1 + 1))) = some r := by first | (rw [hy271]; with_reducible exact H) | (have H2_ := (Option.bind_some _ _).symm.trans H; rw [hy271]; with_reducible exact H2_) | (have H2_ := (Option.bind_some _ _).symm.trans H; with_reducible exact H2_) | with_reducible exact H | (rw [hy271]; exact H) | exact H
       have Ny271 := mkA hy271
       clear hy271
       have H' := mkA H
       clear H
       go_wp2_with (first | ((with_reducible refine z33 (b := .append) (xs := #[.tmp 18, .tmp 20]) rfl ?_); at_builtin; refine Kd.R_append (Kd.int .i64) (w0 := w) w.heap.size rfl (.tmp 18) (.tmp 20) 37 3 (.int .i64 0) 8 rfl Try.underlying37 info3 rfl (by decide) (by omega) u3 x3_1 x4_1 [.int .i64 x4_1] (fun _ => True) (fun _ => False) rfl rfl ?aP (fun _ hk => hk.elim) ?aF ?aO ?aB ?aS ?aL ?_; (case aP => exact rfl); (case aB => exact (by repeat (first | (with_reducible first | exact HB.out | apply z10 | apply z11 | apply z12) | exact HB.out))); (case aF => exact (fun _ _ => trivial)); (case aO => exact (by (with_reducible repeat (first | apply Kd.R_alloc | apply Kd.R_drewN | apply Kd.R_drew)); exact HO_3.out)); (case aS => exact (z18 (by repeat (first | (with_reducible first | exact HB.out | apply z10 | apply z11 | apply z12) | exact HB.out)))); (case aL => have := LMc9.out; omega); intro v272 w10 ho hb hg hat; rw [← Ny271.out] at ho; have n0_ := mkA (hb); have n1_ := mkA (ho); clear HB; clear HO_3; have HB := n0_; have HO273 := n1_; clear n0_ n1_; clear ho hb hg hat))
       go_roundg k1
       case measure => have := HK1.out; omega
       case rel => exact ⟨(y271), (wrap64 (x4_1 + 1)), (by first | rfl | (simp; done) | (simp [*]; done)), H', ⟨by have := HK1.out; omega⟩, ⟨by (with_reducible repeat (first | apply Kd.R_alloc | apply Kd.R_drewN | apply Kd.R_drew)); exact HO273.out⟩, ⟨by repeat (first | (with_reducible first | exact HB.out | apply z10 | apply z11 | apply z12) | exact HB.out)⟩⟩
      ·rw [if_neg c9] at H
       exact absurd H (by simp)
     ·rw [if_neg c8] at H
      have c8b0 : ((Int.tmod (ji4) 2) == 1) = false := beq_eq_false_iff_ne.mpr c8
      have c8b1 : ((Int.tmod (ji4) 2) != 1) = true := bne_iff_ne.mpr c8
      have H' := mkA H
      clear H
      go_wp2
      go_roundg k1
      case measure => have := HK1.out; omega
      case rel => exact ⟨(x3_1), (wrap64 (x4_1 + 1)), (by first | rfl | (simp; done) | (simp [*]; done)), H', ⟨by have := HK1.out; omega⟩, ⟨by (with_reducible repeat (first | apply Kd.R_alloc | apply Kd.R_drewN | apply Kd.R_drew)); exact HO_3.out⟩, ⟨by repeat (first | (with_reducible first | exact HB.out | apply z10 | apply z11 | apply z12) | exact HB.out)⟩⟩
    ·rw [if_neg c5] at H
     have c5b0 : decide (0 < (ji4)) = false := decide_eq_false c5
     clear c5
     obtain rfl := Option.some.inj H
     go_wp2
     go_ret
     exact ⟨_, by first | rfl | (simp [z21, z20] <;> rfl) | (simp only [← hji2, ← hji4]; first | rfl | (simp [z21, z20] <;> rfl)) | (simp [*, z21, z20] <;> rfl), by (with_reducible repeat (first | apply Kd.R_alloc | apply Kd.R_drewN | apply Kd.R_drew)); exact HO_3.out, by repeat (first | (with_reducible first | exact HB.out | apply z10 | apply z11 | apply z12) | exact HB.out)⟩
   ·rw [if_neg c3] at H
    exact absurd H (by simp)
/-! ### pr_Together: function 82 -/
def pr_Together.l0 : Nat → List Int → Int → List Int → Int → Int → List (S91) → List (S94) → Option (Int)
 | 0, _, _, _, _, _, _, _ => none
 | k + 1, x1, x7, x8, x9, x275000, x275001, x275002 => if x9 < (x8.length : Int) then (if 0 ≤ x9 then ((pr_Owed.f k x275000 x275001 x275002 x1 (rd x8 x9)).bind fun t279 => (pr_Together.l0 k x1 (wrap64 (x7 + t279)) x8 (wrap64 (x9 + 1)) x275000 x275001 x275002)) else (none)) else (some x7)
def pr_Together.f (k : Nat) (a0_0 : Int) (l0_1 : List (S91)) (l0_2 : List (S94)) (l1 : List Int) (a2 : Int) : Option (Int) := (pr_Bits.f k a2).bind fun t275 => (pr_Together.l0 k l1 0 t275 0 a0_0 l0_1 l0_2)
end Go.Proofs.Ytncaadckehikpaa.Q
namespace Go.Proofs.Ytncaadckehikpaa.Q
open Go.RowKit Go.Proofs.YtncaadckehikpaaW.PrintWords Go.Proofs.YtncaadckehikpaaW.PrintLast Go.Proofs.YtncaadckehikpaaW.PrintMore
attribute [local go_sem] z30 z29 max_two min_two   -- for this text's walks alone
set_option linter.unusedVariables false
set_option linter.unusedSimpArgs false
/-! ### pr_Most: function 33 -/
mutual
def pr_Most.l0 : Nat → List Int → Int → Int → Int → Int → Int → List (S91) → List (S94) → Option (Int)
 | 0, _, _, _, _, _, _, _, _ => none
 | k + 1, x1, x2, x7, x8, x9, x281000, x281001, x281002 => if x9 > 0 then (if (Go.bits .and .i64 x9 x7) = 0 then (pr_Most.l0 k x1 x2 x7 x8 (Go.bits .and .i64 (wrap64 (x9 - 1)) x2) x281000 x281001 x281002) else ((pr_Together.f k x281000 x281001 x281002 x1 x9).bind fun t281 => (if t281 = 0 then ((pr_Most.f k x281000 x281001 x281002 x1 (Go.bits .andNot .i64 x2 x9)).bind fun t282 => (pr_Most.l0 k x1 x2 x7 (mx x8 (wrap64 (1 + t282))) (Go.bits .and .i64 (wrap64 (x9 - 1)) x2) x281000 x281001 x281002)) else (pr_Most.l0 k x1 x2 x7 x8 (Go.bits .and .i64 (wrap64 (x9 - 1)) x2) x281000 x281001 x281002)))) else (some x8)
def pr_Most.f : Nat → Int → List (S91) → List (S94) → List Int → Int → Option (Int)
 | 0, _, _, _, _, _ => none
 | k + 1, a0_0, l0_1, l0_2, l1, a2 => if a2 = 0 then (some 0) else (pr_Most.l0 k l1 a2 (Go.bits .and .i64 a2 (wrap64 (-a2))) 0 a2 a0_0 l0_1 l0_2)
end
end Go.Proofs.Ytncaadckehikpaa.Q
namespace Go.Proofs.Ytncaadckehikpaa.Q
open Go.RowKit Go.Proofs.YtncaadckehikpaaW.PrintWords Go.Proofs.YtncaadckehikpaaW.PrintLast Go.Proofs.YtncaadckehikpaaW.PrintMore
attribute [local go_sem] z30 z29 max_two min_two   -- for this text's walks alone
set_option linter.unusedVariables false
set_option linter.unusedSimpArgs false
/-! ### pr_Open: function 34 -/
def pr_Open.l0 : Nat → List Int → Int → Int → Int → List (S91) → List (S94) → Option (Int)
 | 0, _, _, _, _, _, _ => none
 | k + 1, x1, x5, x6, x284000, x284001, x284002 => if x6 < x284000 then ((pr_Owed.f k x284000 x284001 x284002 x1 x6).bind fun t284 => (if t284 = 0 then (pr_Open.l0 k x1 x5 (wrap64 (x6 + 1)) x284000 x284001 x284002) else (if 0 ≤ (IntKind.u64.wrap (x6)) then (pr_Open.l0 k x1 (Go.bits .or .i64 x5 (shl .i64 1 (IntKind.u64.wrap (x6)))) (wrap64 (x6 + 1)) x284000 x284001 x284002) else (none)))) else (some x5)
def pr_Open.f (k : Nat) (a0_0 : Int) (l0_1 : List (S91)) (l0_2 : List (S94)) (l1 : List Int) : Option (Int) := pr_Open.l0 k l1 0 0 a0_0 l0_1 l0_2
/-! ### pr_Payments: function 55 -/
def pr_Payments.f (k : Nat) (a0_0 : Int) (l0_1 : List (S91)) (l0_2 : List (S94)) (l1 : List Int) : Option (Int) := (pr_Open.f k a0_0 l0_1 l0_2 l1).bind fun t321 => ((pr_Bits.f k t321).bind fun t322 => ((pr_Most.f k a0_0 l0_1 l0_2 l1 t321).bind fun t325 => (some (wrap64 ((t322.length : Int) - t325)))))
/-! ### pr_Fewest: function 38 -/
def pr_Fewest.l0 : Nat → List (List Int) → Int → Int → List (S91) → List (S94) → Int → Int → Option (Int × Int)
 | 0, _, _, _, _, _, _, _ => none
 | k + 1, x1, x6, x327000, x327001, x327002, x331000, x331001 => if x6 < (x1.length : Int) then (if 0 ≤ x6 then ((pr_Payments.f k x327000 x327001 x327002 (rd_L4 x1 x6)).bind fun t332 => ((pr_Wider.f x331000 x331001 t332).bind fun bt333 => (pr_Fewest.l0 k x1 (wrap64 (x6 + 1)) x327000 x327001 x327002 bt333.1 bt333.2))) else (none)) else (some (x331000, x331001))
def pr_Fewest.f (k : Nat) (a0_0 : Int) (l0_1 : List (S91)) (l0_2 : List (S94)) (l1 : List (List Int)) : Option (Int × Int) := (pr_Empty.f).bind fun bt328 => (pr_Fewest.l0 k l1 0 a0_0 l0_1 l0_2 bt328.1 bt328.2)
end Go.Proofs.Ytncaadckehikpaa.Q
namespace Go.Proofs.Ytncaadckehikpaa.Q
open Go.RowKit Go.Proofs.YtncaadckehikpaaW.PrintWords Go.Proofs.YtncaadckehikpaaW.PrintLast Go.Proofs.YtncaadckehikpaaW.PrintMore
set_option linter.unusedVariables false
set_option linter.unusedSimpArgs false
/-- Some women are among others. -/
def SubB (a b : Nat) : Prop := ∀ i, i < 6 → bitN a i = true → bitN b i = true
theorem SubB.trans {a b c : Nat} (h : SubB a b) (k : SubB b c) : SubB a c := fun i hi q => k i hi (h i hi q)
/-! The reference's search. -/
theorem rbits_all : ∀ m : Fin 64, pr_Bits.f 8 (m.val : Int) = some (bitsL m.val) := by decide +kernel
theorem Bits_f (k m : Nat) (h : m < 64) (hk : 8 ≤ k) : pr_Bits.f k (m : Int) = some (bitsL m) := by
  obtain ⟨d, rfl⟩ : ∃ d, k = 8 + d := ⟨k - 8, by omega⟩
  clear hk
  induction d with
  | zero => exact rbits_all ⟨m, h⟩
  | succ d ih => exact pr_Bits.mono _ _ _ ih
section
variable (n : Int) (l1 : List S91) (l2 : List S94) (os : List Int) (hck : checkS n (l1.map c91) (l2.map c94) = 0) (ho : Small (l1.map c91) os)
set_option linter.unusedSectionVars false
include hck ho
end
end Go.Proofs.Ytncaadckehikpaa.Q
namespace Go.Proofs.Ytncaadckehikpaa.Q
open Go.RowKit Go.Proofs.YtncaadckehikpaaW.PrintWords Go.Proofs.YtncaadckehikpaaW.PrintLast Go.Proofs.YtncaadckehikpaaW.PrintMore
set_option linter.unusedVariables false
set_option linter.unusedSimpArgs false
set_option linter.unusedSectionVars false
section
variable (n : Int) (l1 : List S91) (l2 : List S94) (os : List Int) (hck : checkS n (l1.map c91) (l2.map c94) = 0) (ho : Small (l1.map c91) os)
include hck ho
end
end Go.Proofs.Ytncaadckehikpaa.Q
namespace Go.Proofs.Ytncaadckehikpaa.Q
open Go.RowKit Go.Proofs.YtncaadckehikpaaW.PrintWords Go.Proofs.YtncaadckehikpaaW.PrintLast Go.Proofs.YtncaadckehikpaaW.PrintMore
attribute [local go_sem] z30 z29 max_two min_two   -- for this text's walks alone
set_option linter.unusedVariables false
set_option linter.unusedSimpArgs false
/-! ### pr_All: function 41 -/
def pr_All.l0 : Nat → List Int → Int → Int → List (S91) → List (S94) → Option (List Int)
 | 0, _, _, _, _, _ => none
 | k + 1, x3, x4, x360000, x360001, x360002 => (pr_Many.f k x360000 x360001 x360002).bind fun t360 => (if x4 < t360 then ((pr_Nth.f k x360000 x360001 x360002 x4).bind fun t361 => ((pr_Right.f k x360000 x360001 x360002 t361).bind fun t364 => (if x3.length < 17592186044416 then (pr_All.l0 k (x3 ++ [t364]) (wrap64 (x4 + 1)) x360000 x360001 x360002) else (none)))) else (some x3))
def pr_All.f (k : Nat) (a0_0 : Int) (l0_1 : List (S91)) (l0_2 : List (S94)) : Option (List Int) := pr_All.l0 k ([] : List Int) 0 a0_0 l0_1 l0_2
/-! ### pr_Can: function 88 -/
def pr_Can.l0 : Nat → List Int → Int → Int → Option (Bool)
 | 0, _, _, _ => none
 | k + 1, x0, x1, x5 => if x5 < (x0.length : Int) then (if 0 ≤ x5 then (if (Go.bits .and .i64 (rd x0 x5) x1) = x1 then (some true) else (pr_Can.l0 k x0 x1 (wrap64 (x5 + 1)))) else (none)) else (some false)
def pr_Can.f (k : Nat) (l0 : List Int) (a1 : Int) : Option (Bool) := pr_Can.l0 k l0 a1 0
end Go.Proofs.Ytncaadckehikpaa.Q
namespace Go.Proofs.Ytncaadckehikpaa.Q
open Go.RowKit Go.Proofs.YtncaadckehikpaaW.PrintWords Go.Proofs.YtncaadckehikpaaW.PrintLast Go.Proofs.YtncaadckehikpaaW.PrintMore
attribute [local go_sem] z30 z29 max_two min_two   -- for this text's walks alone
set_option linter.unusedVariables false
set_option linter.unusedSimpArgs false
/-! ### pr_Before: function 97 -/
mutual
def pr_Before.l0 : Nat → List Int → List Int → Int → Option (Bool)
 | 0, _, _, _ => none
 | k + 1, x0, x1, x5 => if x5 < (x0.length : Int) then (pr_Before.j1 k x0 x1 x5 (decide (x5 < (x1.length : Int)))) else (pr_Before.j1 k x0 x1 x5 false)
def pr_Before.j1 : Nat → List Int → List Int → Int → Bool → Option (Bool)
 | 0, _, _, _, _ => none
 | k + 1, x0, x1, x5, x15 => if x15 = true then (if 0 ≤ x5 then (if x5 < (x0.length : Int) then (if x5 < (x1.length : Int) then (if (rd x0 x5) = (rd x1 x5) then (pr_Before.l0 k x0 x1 (wrap64 (x5 + 1))) else (some (decide ((rd x0 x5) < (rd x1 x5))))) else (none)) else (none)) else (none)) else (some (decide ((x0.length : Int) < (x1.length : Int))))
end
def pr_Before.f (k : Nat) (l0 : List Int) (l1 : List Int) : Option (Bool) := pr_Before.l0 k l0 l1 0
theorem pr_Before.mono_l : ∀ k, (∀ y0 y1 y2, LeO (pr_Before.l0 k y0 y1 y2) (pr_Before.l0 (k + 1) y0 y1 y2)) ∧ (∀ y0 y1 y2 y3, LeO (pr_Before.j1 k y0 y1 y2 y3) (pr_Before.j1 (k + 1) y0 y1 y2 y3))
 | 0 => ⟨fun _ _ _ r h => by simp [pr_Before.l0] at h, fun _ _ _ _ r h => by simp [pr_Before.j1] at h⟩
 | k + 1 => by
  obtain ⟨ih0, ih1⟩ := pr_Before.mono_l k
  refine ⟨?_, ?_⟩
  ·intro y0 y1 y2
   unfold pr_Before.l0
   repeat' first
   | (with_reducible exact ih0 _ _ _)
   | (with_reducible exact ih1 _ _ _ _)
   | (with_reducible exact LeO.refl _)
   | (with_reducible exact LeO.none _)
   | (with_reducible refine LeO.ite ?_ ?_)
   | (with_reducible refine LeO.bind ?_ (fun _ => ?_))
   | exact ih0 _ _ _
   | exact ih1 _ _ _ _
   | exact LeO.none _
   | refine LeO.ite ?_ ?_
   | refine LeO.bind ?_ (fun _ => ?_)
  ·intro y0 y1 y2 y3
   unfold pr_Before.j1
   repeat' first
   | (with_reducible exact ih0 _ _ _)
   | (with_reducible exact ih1 _ _ _ _)
   | (with_reducible exact LeO.refl _)
   | (with_reducible exact LeO.none _)
   | (with_reducible refine LeO.ite ?_ ?_)
   | (with_reducible refine LeO.bind ?_ (fun _ => ?_))
   | exact ih0 _ _ _
   | exact ih1 _ _ _ _
   | exact LeO.none _
   | refine LeO.ite ?_ ?_
   | refine LeO.bind ?_ (fun _ => ?_)
theorem pr_Before.mono : ∀ a0 a1 k, LeO (pr_Before.f k a0 a1) (pr_Before.f (k + 1) a0 a1) := by
 intro a0 a1 k
 obtain ⟨ih0, ih1⟩ := pr_Before.mono_l k
 unfold pr_Before.f
 repeat' first
   | (with_reducible exact ih0 _ _ _)
   | (with_reducible exact ih1 _ _ _ _)
   | (with_reducible exact LeO.refl _)
   | (with_reducible exact LeO.none _)
   | (with_reducible refine LeO.ite ?_ ?_)
   | (with_reducible refine LeO.bind ?_ (fun _ => ?_))
   | exact ih0 _ _ _
   | exact ih1 _ _ _ _
   | exact LeO.none _
   | refine LeO.ite ?_ ?_
   | refine LeO.bind ?_ (fun _ => ?_)
set_option maxHeartbeats 8000000 in
set_option maxRecDepth 100000 in
theorem pr_Before.calls (k : Nat) (A0 : Option Addr) (c0 : Nat) (l0 : List Int) (A1 : Option Addr) (c1 : Nat) (l1 : List Int) (r : Bool) (w : World) (hr0 : Kd.C (Kd.int .i64) w A0 l0.length l0) (hc0 : l0.length ≤ c0) (hr1 : Kd.C (Kd.int .i64) w A1 l1.length l1) (hc1 : l1.length ≤ c1) (h : pr_Before.f k l0 l1 = some r) :
  Calls Try.prog 97 #[.slice A0 l0.length c0, .slice A1 l1.length c1] w fun e w' => e = .returned (.bool r) ∧ Drawn0 w w' := by
 have HR0 := mkA hr0
 have HC0 := mkA hc0
 clear hr0 hc0
 have HR1 := mkA hr1
 have HC1 := mkA hc1
 clear hr1 hc1
 have H : (pr_Before.l0 k l0 l1 0) = some r := h
 clear h
 have H' := mkA H
 clear H
 go_enter Try.func97, Try.ntmps97
 go_wp2
 repeat (go_quiet (fail); try go_wp2)
 go_loopg [5] k (fun kq v5 w' => ∃ (x5_1 : Int), v5 = .int .i64 x5_1 ∧ Aside0 (pr_Before.l0 kq l0 l1 x5_1 = some r) ∧ Aside0 (kq ≤ k) ∧ Drawn0 w w')
 case atStart => exact ⟨(0), (by first | rfl | (simp; done) | (simp [*]; done)), H', ⟨Nat.le_refl _⟩, by repeat (first | exact Drawn0.refl _ | apply Drawn0.step)⟩
 case round =>
  clear H'
  try clear c1
  try clear p2
  obtain ⟨x5_1, rfl, HA, HK1, ⟨m1, rfl⟩⟩ := hrel
  cases gk with
  | zero => exact absurd HA.out (by simp [pr_Before.l0])
  | succ k1 =>
   have H := HA.out
   clear HA
   simp only [pr_Before.l0] at H
   have HC3 := mkA H
   clear H
   go_upto_region 2 with (fail)
   repeat (go_quiet (fail); go_upto_region 2 with (fail))
   go_cut [15] (fun v15 wc => ∃ (kq : Nat) (x15_2 : Bool), v15 = .bool x15_2 ∧ Aside0 (pr_Before.j1 kq l0 l1 x5_1 x15_2 = some r) ∧ Aside0 (kq ≤ k1) ∧ Drawn0 w wc)
   case first =>
    have H := HC3.out
    clear HC3
    by_cases c4 : x5_1 < (l0.length : Int)
    ·rw [if_pos c4] at H
     have c4b0 : decide (x5_1 < (l0.length : Int)) = true := decide_eq_true c4
     clear c4
     (first | rw [c4b0] | (simp only [i64_w, i32_w]; rw [c4b0]) | skip)
     have H' := mkA H
     clear H
     go_wp2
     repeat (go_quiet (fail); try go_wp2)
     go_meet
     case rel => exact ⟨_, (decide (x5_1 < (l1.length : Int))), (by first | rfl | (simp; done) | (simp [*]; done)), H', ⟨by have := HK1.out; first | omega | exact Nat.le_refl _⟩, by repeat (first | exact Drawn0.refl _ | apply Drawn0.step)⟩
    ·rw [if_neg c4] at H
     have c4b0 : decide (x5_1 < (l0.length : Int)) = false := decide_eq_false c4
     clear c4
     (first | rw [c4b0] | (simp only [i64_w, i32_w]; rw [c4b0]) | skip)
     have H' := mkA H
     clear H
     go_wp2
     repeat (go_quiet (fail); try go_wp2)
     go_meet
     case rel => exact ⟨_, (false), (by first | rfl | (simp; done) | (simp [*]; done)), H', ⟨by have := HK1.out; first | omega | exact Nat.le_refl _⟩, by repeat (first | exact Drawn0.refl _ | apply Drawn0.step)⟩
   case rest =>
    clear HC3
    try clear c1
    try clear p2
    try clear c4
    try clear c4b0
    try clear p2
    obtain ⟨kq, x15_2, rfl, HA, HJ2, ⟨mc2, rfl⟩⟩ := hcut
    cases kq with
    | zero => exact absurd HA.out (by simp [pr_Before.j1])
    | succ kj2 =>
     have H := HA.out
     clear HA
     simp only [pr_Before.j1] at H
     by_cases c5 : x15_2 = true
     ·subst c5
      have H1 : (if 0 ≤ x5_1 then (if x5_1 < (l0.length : Int) then (if x5_1 < (l1.length : Int) then (if (rd l0 x5_1) = (rd l1 x5_1) then (pr_Before.l0 kj2 l0 l1 (wrap64 (x5_1 + 1))) else (some (decide ((rd l0 x5_1) < (rd l1 x5_1))))) else (none)) else (none)) else (none)) = some r := by rw [if_pos rfl] at H; exact H
      clear H
      have H := H1
      clear H1
      by_cases c6 : 0 ≤ x5_1
      ·rw [if_pos c6] at H
       have c6b0 : decide (0 ≤ x5_1) = true := decide_eq_true c6
       clear c6
       by_cases c7 : x5_1 < (l0.length : Int)
       ·rw [if_pos c7] at H
        have c7b0 : decide (x5_1 < (l0.length : Int)) = true := decide_eq_true c7
        clear c7
        by_cases c8 : x5_1 < (l1.length : Int)
        ·rw [if_pos c8] at H
         have c8b0 : decide (x5_1 < (l1.length : Int)) = true := decide_eq_true c8
         clear c8
         by_cases c9 : (rd l0 x5_1) = (rd l1 x5_1)
         ·rw [if_pos c9] at H
          have c9b0 : ((rd l0 x5_1) == (rd l1 x5_1)) = true := beq_iff_eq.mpr c9
          have c9b1 : ((rd l0 x5_1) != (rd l1 x5_1)) = false := bne_eq_false_iff_eq.mpr c9
          clear c9
          have H' := mkA H
          clear H
          have p368 : 0 ≤ (x5_1 : Int) := of_decide_eq_true (by first | (with_reducible assumption) | assumption)
          have q368 : x5_1 < (l0.length : Int) := of_decide_eq_true (by first | (with_reducible assumption) | assumption)
          obtain ⟨ad368, e368, hx368_0⟩ := Kd.at_int HR0.out x5_1 p368 q368
          cases e368
          replace p368 := eq_true p368
          replace q368 := eq_true q368
          have p369 : 0 ≤ (x5_1 : Int) := of_decide_eq_true (by first | (with_reducible assumption) | assumption)
          have q369 : x5_1 < (l1.length : Int) := of_decide_eq_true (by first | (with_reducible assumption) | assumption)
          obtain ⟨ad369, e369, hx369_0⟩ := Kd.at_int HR1.out x5_1 p369 q369
          cases e369
          replace p369 := eq_true p369
          replace q369 := eq_true q369
          go_wp2
          repeat (go_quiet (fail); try go_wp2)
          go_roundg kj2
          case measure => have := HK1.out; have := HJ2.out; omega
          case rel => exact ⟨(wrap64 (x5_1 + 1)), (by first | rfl | (simp; done) | (simp [*]; done)), H', ⟨by have := HK1.out; have := HJ2.out; omega⟩, by repeat (first | exact Drawn0.refl _ | apply Drawn0.step)⟩
         ·rw [if_neg c9] at H
          have c9b0 : ((rd l0 x5_1) == (rd l1 x5_1)) = false := beq_eq_false_iff_ne.mpr c9
          have c9b1 : ((rd l0 x5_1) != (rd l1 x5_1)) = true := bne_iff_ne.mpr c9
          obtain rfl := Option.some.inj H
          have p368 : 0 ≤ (x5_1 : Int) := of_decide_eq_true (by first | (with_reducible assumption) | assumption)
          have q368 : x5_1 < (l0.length : Int) := of_decide_eq_true (by first | (with_reducible assumption) | assumption)
          obtain ⟨ad368, e368, hx368_0⟩ := Kd.at_int HR0.out x5_1 p368 q368
          cases e368
          replace p368 := eq_true p368
          replace q368 := eq_true q368
          have p369 : 0 ≤ (x5_1 : Int) := of_decide_eq_true (by first | (with_reducible assumption) | assumption)
          have q369 : x5_1 < (l1.length : Int) := of_decide_eq_true (by first | (with_reducible assumption) | assumption)
          obtain ⟨ad369, e369, hx369_0⟩ := Kd.at_int HR1.out x5_1 p369 q369
          cases e369
          replace p369 := eq_true p369
          replace q369 := eq_true q369
          have p370 : 0 ≤ (x5_1 : Int) := of_decide_eq_true (by first | (with_reducible assumption) | assumption)
          have q370 : x5_1 < (l0.length : Int) := of_decide_eq_true (by first | (with_reducible assumption) | assumption)
          obtain ⟨ad370, e370, hx370_0⟩ := Kd.at_int HR0.out x5_1 p370 q370
          obtain rfl : ad368 = ad370 := (by injection e370)
          replace p370 := eq_true p370
          replace q370 := eq_true q370
          have p371 : 0 ≤ (x5_1 : Int) := of_decide_eq_true (by first | (with_reducible assumption) | assumption)
          have q371 : x5_1 < (l1.length : Int) := of_decide_eq_true (by first | (with_reducible assumption) | assumption)
          obtain ⟨ad371, e371, hx371_0⟩ := Kd.at_int HR1.out x5_1 p371 q371
          obtain rfl : ad369 = ad371 := (by injection e371)
          replace p371 := eq_true p371
          replace q371 := eq_true q371
          go_wp2
          repeat (go_quiet (fail); try go_wp2)
          go_ret
          exact ⟨by first | rfl | (simp; done) | (simp [*]; done), by repeat (first | exact Drawn0.refl _ | apply Drawn0.step)⟩
        ·rw [if_neg c8] at H
         exact absurd H (by simp)
       ·rw [if_neg c7] at H
        exact absurd H (by simp)
      ·rw [if_neg c6] at H
       exact absurd H (by simp)
     ·replace c5 := Bool.eq_false_iff.mpr c5
      subst c5
      have H1 : (some (decide ((l0.length : Int) < (l1.length : Int)))) = some r := by rw [if_neg (show ¬ (false = true) by decide)] at H; exact H
      clear H
      have H := H1
      clear H1
      obtain rfl := Option.some.inj H
      go_wp2
      repeat (go_quiet (fail); try go_wp2)
      go_ret
      exact ⟨by first | rfl | (simp; done) | (simp [*]; done), by repeat (first | exact Drawn0.refl _ | apply Drawn0.step)⟩
/-! ### pr_Shorter: function 63 -/
def pr_Shorter.f (k : Nat) (l0 : List Int) (l1 : List Int) : Option (Bool) := if (l0.length : Int) < (l1.length : Int) then (some true) else (if (l0.length : Int) = (l1.length : Int) then ((pr_Before.f k l0 l1).bind fun t372 => (some t372)) else (some false))
theorem pr_Shorter.mono : ∀ a0 a1 k, LeO (pr_Shorter.f k a0 a1) (pr_Shorter.f (k + 1) a0 a1) := by
 intro a0 a1 k
 unfold pr_Shorter.f
 repeat' first
   | (with_reducible exact pr_Before.mono _ _ _)
   | (with_reducible exact LeO.refl _)
   | (with_reducible exact LeO.none _)
   | (with_reducible refine LeO.ite ?_ ?_)
   | (with_reducible refine LeO.bind ?_ (fun _ => ?_))
   | exact pr_Before.mono _ _ _
   | exact LeO.none _
   | refine LeO.ite ?_ ?_
   | refine LeO.bind ?_ (fun _ => ?_)
set_option maxHeartbeats 8000000 in
set_option maxRecDepth 100000 in
theorem pr_Shorter.calls (k : Nat) (A0 : Option Addr) (c0 : Nat) (l0 : List Int) (A1 : Option Addr) (c1 : Nat) (l1 : List Int) (r : Bool) (w : World) (hr0 : Kd.C (Kd.int .i64) w A0 l0.length l0) (hc0 : l0.length ≤ c0) (hr1 : Kd.C (Kd.int .i64) w A1 l1.length l1) (hc1 : l1.length ≤ c1) (h : pr_Shorter.f k l0 l1 = some r) :
  Calls Try.prog 63 #[.slice A0 l0.length c0, .slice A1 l1.length c1] w fun e w' => e = .returned (.bool r) ∧ Drawn0 w w' := by
 have HR0 := mkA hr0
 have HC0 := mkA hc0
 clear hr0 hc0
 have HR1 := mkA hr1
 have HC1 := mkA hc1
 clear hr1 hc1
 have H : (if (l0.length : Int) < (l1.length : Int) then (some true) else (if (l0.length : Int) = (l1.length : Int) then ((pr_Before.f k l0 l1).bind fun t372 => (some t372)) else (some false))) = some r := h
 clear h
 by_cases c3 : (l0.length : Int) < (l1.length : Int)
 ·rw [if_pos c3] at H
  have c3b0 : decide ((l0.length : Int) < (l1.length : Int)) = true := decide_eq_true c3
  have c3b1 : decide (l0.length < l1.length) = true := decide_eq_true (Int.ofNat_lt.mp c3)
  clear c3
  obtain rfl := Option.some.inj H
  go_enter Try.func63, Try.ntmps63
  go_wp2
  go_ret
  exact ⟨by first | rfl | (simp; done) | (simp [*]; done), by repeat (first | exact Drawn0.refl _ | apply Drawn0.step)⟩
 ·rw [if_neg c3] at H
  have c3b0 : decide ((l0.length : Int) < (l1.length : Int)) = false := decide_eq_false c3
  have c3b1 : decide (l0.length < l1.length) = false := decide_eq_false (fun h => c3 (Int.ofNat_lt.mpr h))
  clear c3
  by_cases c4 : (l0.length : Int) = (l1.length : Int)
  ·rw [if_pos c4] at H
   have c4b0 : ((l0.length : Int) == (l1.length : Int)) = true := beq_iff_eq.mpr c4
   have c4b1 : ((l0.length : Int) != (l1.length : Int)) = false := bne_eq_false_iff_eq.mpr c4
   have c4b2 : (l0.length == l1.length) = true := by first | simpa using c4 | (simp at c4 ⊢; omega)
   clear c4
   replace H := Option.bind_eq_some_iff.mp H
   obtain ⟨t372, A50, H⟩ := H
   replace H : (some t372) = some r := H
   have A5 := mkA A50
   clear A50
   obtain rfl := Option.some.inj H
   go_enter Try.func63, Try.ntmps63
   go_wp2_with (first | (go_at_call 97; (with_reducible refine (pr_Before.calls k _ _ l0 _ _ l1 t372 _ ?side1 ?side2 ?side3 ?side4 A5.out).mono ?_); (case side1 => repeat (first | exact HR0.out | (with_reducible refine Kd.C_alloc ?_ _) | (with_reducible refine Kd.C_drewN ?_ _) | (with_reducible refine Kd.C_drew ?_))); (case side2 => exact HC0.out); (case side3 => repeat (first | exact HR1.out | (with_reducible refine Kd.C_alloc ?_ _) | (with_reducible refine Kd.C_drewN ?_ _) | (with_reducible refine Kd.C_drew ?_))); (case side4 => exact HC1.out); rintro e w' ⟨rfl, ⟨nd, rfl⟩⟩))
   go_ret
   exact ⟨by first | rfl | (simp; done) | (simp [*]; done), by repeat (first | exact Drawn0.refl _ | apply Drawn0.step)⟩
  ·rw [if_neg c4] at H
   have c4b0 : ((l0.length : Int) == (l1.length : Int)) = false := beq_eq_false_iff_ne.mpr c4
   have c4b1 : ((l0.length : Int) != (l1.length : Int)) = true := bne_iff_ne.mpr c4
   have c4b2 : (l0.length == l1.length) = false := by first | simpa using c4 | (simp at c4 ⊢; omega)
   obtain rfl := Option.some.inj H
   go_enter Try.func63, Try.ntmps63
   go_wp2
   go_ret
   exact ⟨by first | rfl | (simp; done) | (simp [*]; done), by repeat (first | exact Drawn0.refl _ | apply Drawn0.step)⟩
/-! ### pr_Leave: function 43 -/
def pr_Leave.l0 : Nat → List Int → List Int → Int → Int → List (S91) → List (S94) → Option (List Int)
 | 0, _, _, _, _, _, _ => none
 | k + 1, x1, x5, x6, x375000, x375001, x375002 => (pr_Full.f x375000 x375001 x375002).bind fun t379 => (if x6 ≤ t379 then ((pr_Bits.f k x6).bind fun t380 => ((pr_Shorter.f k t380 x5).bind fun t383 => (if t383 = true then ((pr_Full.f x375000 x375001 x375002).bind fun t384 => ((pr_Can.f k x1 (Go.bits .andNot .i64 t384 x6)).bind fun t385 => (if t385 = true then (pr_Leave.l0 k x1 t380 (wrap64 (x6 + 1)) x375000 x375001 x375002) else (pr_Leave.l0 k x1 x5 (wrap64 (x6 + 1)) x375000 x375001 x375002)))) else (pr_Leave.l0 k x1 x5 (wrap64 (x6 + 1)) x375000 x375001 x375002)))) else (some x5))
def pr_Leave.f (k : Nat) (a0_0 : Int) (l0_1 : List (S91)) (l0_2 : List (S94)) (l1 : List Int) : Option (List Int) := (pr_Full.f a0_0 l0_1 l0_2).bind fun t375 => ((pr_Bits.f k t375).bind fun t376 => (pr_Leave.l0 k l1 t376 0 a0_0 l0_1 l0_2))
/-! ### pr_First: function 44 -/
def pr_First.l0 : Nat → List Int → Int → Int → List (S91) → List (S94) → Option (Int)
 | 0, _, _, _, _, _ => none
 | k + 1, x1, x5, x387000, x387001, x387002 => if x5 < (x387002.length : Int) then (if 0 ≤ (IntKind.u64.wrap (x5)) then ((pr_Can.f k x1 (wrap64 ((shl .i64 2 (IntKind.u64.wrap (x5))) - 1))).bind fun t387 => (if t387 = true then (pr_First.l0 k x1 (wrap64 (x5 + 1)) x387000 x387001 x387002) else (some x5))) else (none)) else (some (-1))
def pr_First.f (k : Nat) (a0_0 : Int) (l0_1 : List (S91)) (l0_2 : List (S94)) (l1 : List Int) : Option (Int) := pr_First.l0 k l1 0 a0_0 l0_1 l0_2
end Go.Proofs.Ytncaadckehikpaa.Q
namespace Go.Proofs.Ytncaadckehikpaa.Q
open Go.RowKit Go.Proofs.YtncaadckehikpaaW.PrintWords Go.Proofs.YtncaadckehikpaaW.PrintLast Go.Proofs.YtncaadckehikpaaW.PrintMore
attribute [local go_sem] z30 z29 max_two min_two   -- for this text's walks alone
set_option linter.unusedVariables false
set_option linter.unusedSimpArgs false
/-! ### pl_SoapLeaves: function 6 -/
def pl_SoapLeaves.j0 : Nat → Int → Int → List Int → Bool → Int → List (S91) → List (S94) → Option (Bool)
 | 0, _, _, _, _, _, _, _ => none
 | k + 1, x3, x4, x8, x61, x389000, x389001, x389002 => if x61 = true then (some false) else ((pr_First.f k x389000 x389001 x389002 x8).bind fun t420 => (if t420 < 0 then (if x4 = 7 then (if x3 = 0 then ((pl_awake.f).bind fun t421 => (some t421)) else (some false)) else (some false)) else (if x4 = 0 then (if x3 = t420 then ((pl_awake.f).bind fun t422 => (some t422)) else (some false)) else (some false))))
def pl_SoapLeaves.f (k : Nat) (a0_0 : Int) (l0_1 : List (S91)) (l0_2 : List (S94)) : Option (Bool) := (pl_Thin.f a0_0 l0_1 l0_2).bind fun t389 => (if t389 = true then ((pl_Slate.f k a0_0 l0_1 l0_2).bind fun bt391 => ((soap_First.f bt391.1 bt391.2.1 bt391.2.2).bind fun bt398 => ((pl_Slate.f k a0_0 l0_1 l0_2).bind fun bt400 => ((soap_Leave.f bt400.1 bt400.2.1 bt400.2.2).bind fun bt407 => ((pl_fault.f k a0_0 l0_1 l0_2).bind fun t411 => (if t411 = 0 then ((pr_All.f k a0_0 l0_1 l0_2).bind fun t413 => (if bt407.2 = 0 then ((pr_Leave.f k a0_0 l0_1 l0_2 t413).bind fun t416 => ((pl_same.f k bt407.1 t416).bind fun t419 => (pl_SoapLeaves.j0 k bt398.1 bt398.2 t413 (!t419) a0_0 l0_1 l0_2))) else (pl_SoapLeaves.j0 k bt398.1 bt398.2 t413 true a0_0 l0_1 l0_2))) else (if bt398.2 = t411 then (if bt398.1 = 0 then (if bt407.2 = t411 then (if (bt407.1.length : Int) = 0 then ((pl_awake.f).bind fun t412 => (some t412)) else (some false)) else (some false)) else (some false)) else (some false)))))))) else ((pl_awake.f).bind fun t390 => (some t390)))
end Go.Proofs.Ytncaadckehikpaa.Q
namespace Go.Proofs.Ytncaadckehikpaa.Q
open Go.RowKit Go.Proofs.YtncaadckehikpaaW.PrintWords Go.Proofs.YtncaadckehikpaaW.PrintLast Go.Proofs.YtncaadckehikpaaW.PrintMore
set_option linter.unusedVariables false
set_option linter.unusedSimpArgs false
set_option linter.unusedSectionVars false
theorem pw32 {n : Nat} (h : n ≤ 5) : 2 ^ n ≤ 32 := Nat.le_trans (Nat.pow_le_pow_right (by omega) h) (by decide : 2 ^ 5 ≤ 32)
theorem andNot_full_all : ∀ len : Fin 6, ∀ x : Fin 32, x.val < 2 ^ len.val → bits .andNot .i64 ((2 ^ len.val - 1 : Nat) : Int) (x.val : Int) = ((2 ^ len.val - 1 - x.val : Nat) : Int) := by decide +kernel
theorem has_bits_all : ∀ b : Fin 64, ∀ i : Fin 6, hasB (bitsL b.val) ((i.val : Nat) : Int) = bitN b.val i.val := by decide +kernel
section
variable (l1 : List S122) (l2 : List S124) (hl : l2.length ≤ 5)
include hl
end
/-! All sets in the order of their lists. -/
def maskOf (o : List Int) : Nat := o.foldl (fun m i => m + 2 ^ i.toNat) 0
def orderM (len : Nat) : List Nat := (z40 len (len + 1)).map maskOf
theorem order_all : ∀ len : Fin 6, z40 len.val (len.val + 1) = (orderM len.val).map bitsL := by decide +kernel
theorem order_mem_all : ∀ len : Fin 6, ∀ b : Fin 32, b.val < 2 ^ len.val → b.val ∈ orderM len.val := by decide +kernel
theorem order_lt_all : ∀ len : Fin 6, ∀ b ∈ orderM len.val, b < 2 ^ len.val := by decide +kernel
theorem shorter_all : ∀ len : Fin 6, ((List.range (2 ^ len.val)).all fun a => (List.range (2 ^ len.val)).all fun b => pr_Shorter.f 20 (bitsL a) (bitsL b) == some (decide ((orderM len.val).idxOf a < (orderM len.val).idxOf b))) = true := by decide +kernel
theorem Shorter_f (k len a b : Nat) (hl : len ≤ 5) (ha : a < 2 ^ len) (hb : b < 2 ^ len) (hk : 20 ≤ k) : pr_Shorter.f k (bitsL a) (bitsL b) = some (decide ((orderM len).idxOf a < (orderM len).idxOf b)) := by
  obtain ⟨d, rfl⟩ : ∃ d, k = 20 + d := ⟨k - 20, by omega⟩
  clear hk
  induction d with
  | zero =>
    have h1 := List.all_eq_true.1 (shorter_all ⟨len, by omega⟩) a (List.mem_range.2 ha)
    have h2 := List.all_eq_true.1 h1 b (List.mem_range.2 hb)
    simpa using h2
  | succ d ih => exact pr_Shorter.mono _ _ _ _ ih
theorem find_least (p : Nat → Bool) : ∀ (M : List Nat) (x : Nat), M.find? p = some x → p x = true ∧ x ∈ M ∧ ∀ y ∈ M, p y = true → M.idxOf x ≤ M.idxOf y
  | [], x, h => by simp at h
  | z :: M, x, h => by
    by_cases hz : p z = true
    · rw [List.find?_cons_of_pos hz] at h
      injection h with h
      subst h
      exact ⟨hz, by simp, fun y _ _ => by simp⟩
    · rw [List.find?_cons_of_neg hz] at h
      obtain ⟨h1, h2, h3⟩ := find_least p M x h
      refine ⟨h1, by simp [h2], fun y hy hp => ?_⟩
      have hxz : x ≠ z := fun e => hz (e ▸ h1)
      have hyz : y ≠ z := fun e => hz (e ▸ hp)
      have hym : y ∈ M := by simpa [hyz] using hy
      have := h3 y hym hp
      rw [List.idxOf_cons, List.idxOf_cons, show (z == x) = false by simpa using Ne.symm hxz, show (z == y) = false by simpa using Ne.symm hyz]
      simpa using this
section
variable (n : Int) (l1 : List S91) (l2 : List S94) (hck : checkS n (l1.map c91) (l2.map c94) = 0)
include hck
/-- All sayings may be left out. -/
theorem poss_full : possB (l1.map c91) (l2.map c94) (bitsL (2 ^ l2.length - 1)) = true := by
  obtain ⟨z0, z1, z2, z3, z4, z5⟩ := checkS_ent hck
  have hp := prodS_pos (l1.map c91) (fun e h => (z4.sizes e h).1)
  have hpn := (prodN_le hck).2
  have h32 : 1 ≤ 2 ^ l2.length ∧ 2 ^ l2.length ≤ 32 := ⟨Nat.one_le_two_pow, pw32 z3⟩
  unfold possB anyL
  rw [List.any_eq_true]
  refine ⟨_, (mem_enumO (l1.map c91) [] _).2 ⟨0, by omega, rfl⟩, ?_⟩
  unfold rightB
  rw [decide_eq_true_eq, List.length_map]
  intro i hi
  unfold rightAt
  have hb : ∀ len : Fin 6, ∀ i : Fin 6, i.val < len.val → bitN (2 ^ len.val - 1) i.val = true := by decide +kernel
  rw [has_bits_all ⟨2 ^ l2.length - 1, by omega⟩ ⟨i, by omega⟩, hb ⟨l2.length, by omega⟩ ⟨i, by omega⟩ hi]
  rfl
end
end Go.Proofs.Ytncaadckehikpaa.Q
