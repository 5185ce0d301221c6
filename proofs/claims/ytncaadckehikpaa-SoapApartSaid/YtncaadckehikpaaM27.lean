/- A part of the proof: contracts of functions and plain facts (Q31). No condition. -/
import Derived.Test.YtncaadckehikpaaM3
import Derived.Test.YtncaadckehikpaaM11
import Derived.Test.YtncaadckehikpaaM12
import Derived.Test.YtncaadckehikpaaM13
import Derived.Test.YtncaadckehikpaaM15
import Derived.Test.YtncaadckehikpaaM14
import Derived.Test.YtncaadckehikpaaM26
import Derived.Test.YtncaadckehikpaaM25
import Derived.Test.YtncaadckehikpaaM9
import Derived.Test.YtncaadckehikpaaM10
import Derived.Test.YtncaadckehikpaaM18
namespace Go.Proofs.Ytncaadckehikpaa.Q
open Go.RowKit Go.Proofs.YtncaadckehikpaaW.PrintWords Go.Proofs.YtncaadckehikpaaW.PrintLast Go.Proofs.YtncaadckehikpaaW.PrintMore
attribute [local go_sem] z37 z36 max_two min_two   -- for this text's walks alone
set_option linter.unusedVariables false
set_option linter.unusedSimpArgs false
/-! ### pl_SoapApart: function 10 -/
mutual
def pl_SoapApart.j0 : Nat → List Int → List (List Int) → List (S76) → Bool → Int → List (S91) → List (S94) → Option (Bool)
 | 0, _, _, _, _, _, _, _ => none
 | k + 1, x6, x8, x10, x74, x641000, x641001, x641002 => if x74 = true then (some false) else (if 0 ≤ x641000 then (if (x641000 : Int).toNat ≤ 281474976710656 then (pl_SoapApart.l0 k x6 x8 x10 (List.replicate (x641000 : Int).toNat false) 0 x641000 x641001 x641002) else (none)) else (none))
def pl_SoapApart.l0 : Nat → List Int → List (List Int) → List (S76) → List Bool → Int → Int → List (S91) → List (S94) → Option (Bool)
 | 0, _, _, _, _, _, _, _, _ => none
 | k + 1, x6, x8, x10, x12, x13, x641000, x641001, x641002 => if x13 < (x8.length : Int) then (pl_SoapApart.l1 k x6 x8 x10 x12 x13 0 0 x641000 x641001 x641002) else (pl_SoapApart.l2 k x6 x10 x12 0 x641000 x641001 x641002)
def pl_SoapApart.l1 : Nat → List Int → List (List Int) → List (S76) → List Bool → Int → Int → Int → Int → List (S91) → List (S94) → Option (Bool)
 | 0, _, _, _, _, _, _, _, _, _, _ => none
 | k + 1, x6, x8, x10, x12, x13, x14, x15, x641000, x641001, x641002 => if 0 ≤ x13 then (if x13 < (x8.length : Int) then (if x15 < ((rd_L4 x8 x13).length : Int) then (if 0 ≤ x15 then ((pr_In.f (rd (rd_L4 x8 x13) x15) 0 (wrap64 (x641000 - 1))).bind fun t696 => (if t696 = true then (if 0 ≤ (rd (rd_L4 x8 x13) x15) then (if (rd (rd_L4 x8 x13) x15) < (x12.length : Int) then (if rdOf false x12 (rd (rd_L4 x8 x13) x15) = true then (some false) else (if (rd (rd_L4 x8 x13) x15) < (x6.length : Int) then (if (rd x6 (rd (rd_L4 x8 x13) x15)) = 0 then (some false) else (pl_SoapApart.l1 k x6 x8 x10 (x12.set ((rd (rd_L4 x8 x13) x15) : Int).toNat true) x13 (wrap64 (x14 + (rd x6 (rd (rd_L4 x8 x13) x15)))) (wrap64 (x15 + 1)) x641000 x641001 x641002)) else (none))) else (none)) else (none)) else (some false))) else (none)) else (if x14 = 0 then (if ((rd_L4 x8 x13).length : Int) = 0 then (some false) else (pl_SoapApart.l0 k x6 x8 x10 x12 (wrap64 (x13 + 1)) x641000 x641001 x641002)) else (some false))) else (none)) else (none)
def pl_SoapApart.l2 : Nat → List Int → List (S76) → List Bool → Int → Int → List (S91) → List (S94) → Option (Bool)
 | 0, _, _, _, _, _, _, _ => none
 | k + 1, x6, x10, x12, x17, x641000, x641001, x641002 => if x17 < x641000 then (if 0 ≤ x17 then (if x17 < (x12.length : Int) then (if rdOf false x12 x17 = true then (pl_SoapApart.l2 k x6 x10 x12 (wrap64 (x17 + 1)) x641000 x641001 x641002) else (if x17 < (x6.length : Int) then (if (rd x6 x17) = 0 then (pl_SoapApart.l2 k x6 x10 x12 (wrap64 (x17 + 1)) x641000 x641001 x641002) else (some false)) else (none))) else (none)) else (none)) else (if 0 ≤ x641000 then (if (x641000 : Int).toNat ≤ 35184372088832 then ((pl_same.f k x6 (List.replicate (x641000 : Int).toNat 0)).bind fun t707 => (if (((x10.length : Int) == 0) == t707) = true then ((pl_awake.f).bind fun t708 => (some t708)) else (some false))) else (none)) else (none))
end
def pl_SoapApart.f (k : Nat) (a0_0 : Int) (l0_1 : List (S91)) (l0_2 : List (S94)) (a1 : Int) : Option (Bool) := (pl_ready.f k a0_0 l0_1 l0_2).bind fun t641 => (if t641 = true then ((pr_Many.f k a0_0 l0_1 l0_2).bind fun t643 => (if t643 = 0 then (none) else ((pr_Nth.f k a0_0 l0_1 l0_2 (Int.tmod (wrap64 (a1)) t643)).bind fun t644 => ((pl_Slate.f k a0_0 l0_1 l0_2).bind fun bt647 => ((pl_list.f t644).bind fun t654 => ((soap_Play.f bt647.1 bt647.2.1 bt647.2.2 t654).bind fun bt657 => ((pl_Slate.f k a0_0 l0_1 l0_2).bind fun bt661 => ((pl_list.f t644).bind fun t668 => ((soap_Groups.f bt661.1 bt661.2.1 bt661.2.2 t668).bind fun bt671 => ((pl_Slate.f k a0_0 l0_1 l0_2).bind fun bt675 => ((pl_list.f t644).bind fun t682 => ((soap_Settle.f bt675.1 bt675.2.1 bt675.2.2 t682).bind fun bt685 => (if bt657.2 = 0 then (if bt671.2 = 0 then (if bt685.2 = 0 then (if (bt657.1.length : Int) = a0_0 then ((pl_small.f k bt671.1).bind fun t689 => (pl_SoapApart.j0 k bt657.1 bt671.1 bt685.1 (!t689) a0_0 l0_1 l0_2)) else (pl_SoapApart.j0 k bt657.1 bt671.1 bt685.1 true a0_0 l0_1 l0_2)) else (pl_SoapApart.j0 k bt657.1 bt671.1 bt685.1 true a0_0 l0_1 l0_2)) else (pl_SoapApart.j0 k bt657.1 bt671.1 bt685.1 true a0_0 l0_1 l0_2)) else (pl_SoapApart.j0 k bt657.1 bt671.1 bt685.1 true a0_0 l0_1 l0_2)))))))))))))) else ((pl_awake.f).bind fun t642 => (some t642)))
def pl_SoapApart.T3 : Bool × List (List Nat × List Nat) := (true, [([], []), ([], []), ([1], [1]), ([], []), ([3], [3]), ([2, 4], [2, 4]), ([0, 5, 4], [0, 5]), ([6, 6, 0, 1, 2, 3, 4, 5, 6], [6])])
def pl_SoapApart.B3 : List Nat := [0, 0, 2, 0, 8, 30, 63, 127]
theorem pl_SoapApart.tab3 : rtab .any (opsOf Try.f10 3) = pl_SoapApart.T3 := by kernel_rfl
theorem pl_SoapApart.bits3 : waitsOk pl_SoapApart.T3.2 pl_SoapApart.B3 = true := by kernel_rfl
set_option maxHeartbeats 8000000 in
set_option maxRecDepth 100000 in
theorem pl_SoapApart.calls (k : Nat) (a0_0 : Int) (A0_1 : Option Addr) (c0_1 : Nat) (l0_1 : List (S91)) (A0_2 : Option Addr) (c0_2 : Nat) (l0_2 : List (S94)) (a1 : Int) (r : Bool) (w : World) (hr0_1 : Kd.C k91 w A0_1 l0_1.length l0_1) (hc0_1 : l0_1.length ≤ c0_1) (hr0_2 : Kd.C k94 w A0_2 l0_2.length l0_2) (hc0_2 : l0_2.length ≤ c0_2) (h : pl_SoapApart.f k a0_0 l0_1 l0_2 a1 = some r) :
  Calls Try.prog 10 #[.agg #[.int .i64 a0_0, .slice A0_1 l0_1.length c0_1, .slice A0_2 l0_2.length c0_2], .int .u16 a1] w fun e w' => e = .returned (.bool r) ∧ Below w.heap.size w w' := by
 have hu25 := Try.underlying25
 have HR0_1 := mkA hr0_1
 have HC0_1 := mkA hc0_1
 clear hr0_1 hc0_1
 have HR0_2 := mkA hr0_2
 have HC0_2 := mkA hc0_2
 clear hr0_2 hc0_2
 have HB := mkA (Below.refl w.heap.size w)
 have H : ((pl_ready.f k a0_0 l0_1 l0_2).bind fun t641 => (if t641 = true then ((pr_Many.f k a0_0 l0_1 l0_2).bind fun t643 => (if t643 = 0 then (none) else ((pr_Nth.f k a0_0 l0_1 l0_2 (Int.tmod (wrap64 (a1)) t643)).bind fun t644 => ((pl_Slate.f k a0_0 l0_1 l0_2).bind fun bt647 => ((pl_list.f t644).bind fun t654 => ((soap_Play.f bt647.1 bt647.2.1 bt647.2.2 t654).bind fun bt657 => ((pl_Slate.f k a0_0 l0_1 l0_2).bind fun bt661 => ((pl_list.f t644).bind fun t668 => ((soap_Groups.f bt661.1 bt661.2.1 bt661.2.2 t668).bind fun bt671 => ((pl_Slate.f k a0_0 l0_1 l0_2).bind fun bt675 => ((pl_list.f t644).bind fun t682 => ((soap_Settle.f bt675.1 bt675.2.1 bt675.2.2 t682).bind fun bt685 => (if bt657.2 = 0 then (if bt671.2 = 0 then (if bt685.2 = 0 then (if (bt657.1.length : Int) = a0_0 then ((pl_small.f k bt671.1).bind fun t689 => (pl_SoapApart.j0 k bt657.1 bt671.1 bt685.1 (!t689) a0_0 l0_1 l0_2)) else (pl_SoapApart.j0 k bt657.1 bt671.1 bt685.1 true a0_0 l0_1 l0_2)) else (pl_SoapApart.j0 k bt657.1 bt671.1 bt685.1 true a0_0 l0_1 l0_2)) else (pl_SoapApart.j0 k bt657.1 bt671.1 bt685.1 true a0_0 l0_1 l0_2)) else (pl_SoapApart.j0 k bt657.1 bt671.1 bt685.1 true a0_0 l0_1 l0_2)))))))))))))) else ((pl_awake.f).bind fun t642 => (some t642)))) = some r := h
 clear h
 replace H := Option.bind_eq_some_iff.mp H
 obtain ⟨t641, A30, H⟩ := H
 replace H : (if t641 = true then ((pr_Many.f k a0_0 l0_1 l0_2).bind fun t643 => (if t643 = 0 then (none) else ((pr_Nth.f k a0_0 l0_1 l0_2 (Int.tmod (wrap64 (a1)) t643)).bind fun t644 => ((pl_Slate.f k a0_0 l0_1 l0_2).bind fun bt647 => ((pl_list.f t644).bind fun t654 => ((soap_Play.f bt647.1 bt647.2.1 bt647.2.2 t654).bind fun bt657 => ((pl_Slate.f k a0_0 l0_1 l0_2).bind fun bt661 => ((pl_list.f t644).bind fun t668 => ((soap_Groups.f bt661.1 bt661.2.1 bt661.2.2 t668).bind fun bt671 => ((pl_Slate.f k a0_0 l0_1 l0_2).bind fun bt675 => ((pl_list.f t644).bind fun t682 => ((soap_Settle.f bt675.1 bt675.2.1 bt675.2.2 t682).bind fun bt685 => (if bt657.2 = 0 then (if bt671.2 = 0 then (if bt685.2 = 0 then (if (bt657.1.length : Int) = a0_0 then ((pl_small.f k bt671.1).bind fun t689 => (pl_SoapApart.j0 k bt657.1 bt671.1 bt685.1 (!t689) a0_0 l0_1 l0_2)) else (pl_SoapApart.j0 k bt657.1 bt671.1 bt685.1 true a0_0 l0_1 l0_2)) else (pl_SoapApart.j0 k bt657.1 bt671.1 bt685.1 true a0_0 l0_1 l0_2)) else (pl_SoapApart.j0 k bt657.1 bt671.1 bt685.1 true a0_0 l0_1 l0_2)) else (pl_SoapApart.j0 k bt657.1 bt671.1 bt685.1 true a0_0 l0_1 l0_2)))))))))))))) else ((pl_awake.f).bind fun t642 => (some t642))) = some r := H
 have A3 := mkA A30
 clear A30
 by_cases c4 : t641 = true
 ·subst c4
  have H1 : ((pr_Many.f k a0_0 l0_1 l0_2).bind fun t643 => (if t643 = 0 then (none) else ((pr_Nth.f k a0_0 l0_1 l0_2 (Int.tmod (wrap64 (a1)) t643)).bind fun t644 => ((pl_Slate.f k a0_0 l0_1 l0_2).bind fun bt647 => ((pl_list.f t644).bind fun t654 => ((soap_Play.f bt647.1 bt647.2.1 bt647.2.2 t654).bind fun bt657 => ((pl_Slate.f k a0_0 l0_1 l0_2).bind fun bt661 => ((pl_list.f t644).bind fun t668 => ((soap_Groups.f bt661.1 bt661.2.1 bt661.2.2 t668).bind fun bt671 => ((pl_Slate.f k a0_0 l0_1 l0_2).bind fun bt675 => ((pl_list.f t644).bind fun t682 => ((soap_Settle.f bt675.1 bt675.2.1 bt675.2.2 t682).bind fun bt685 => (if bt657.2 = 0 then (if bt671.2 = 0 then (if bt685.2 = 0 then (if (bt657.1.length : Int) = a0_0 then ((pl_small.f k bt671.1).bind fun t689 => (pl_SoapApart.j0 k bt657.1 bt671.1 bt685.1 (!t689) a0_0 l0_1 l0_2)) else (pl_SoapApart.j0 k bt657.1 bt671.1 bt685.1 true a0_0 l0_1 l0_2)) else (pl_SoapApart.j0 k bt657.1 bt671.1 bt685.1 true a0_0 l0_1 l0_2)) else (pl_SoapApart.j0 k bt657.1 bt671.1 bt685.1 true a0_0 l0_1 l0_2)) else (pl_SoapApart.j0 k bt657.1 bt671.1 bt685.1 true a0_0 l0_1 l0_2)))))))))))))) = some r := by rw [if_pos rfl] at H; exact H
  clear H
  have H := H1
  clear H1
  replace H := Option.bind_eq_some_iff.mp H
  obtain ⟨t643, A50, H⟩ := H
  replace H : (if t643 = 0 then (none) else ((pr_Nth.f k a0_0 l0_1 l0_2 (Int.tmod (wrap64 (a1)) t643)).bind fun t644 => ((pl_Slate.f k a0_0 l0_1 l0_2).bind fun bt647 => ((pl_list.f t644).bind fun t654 => ((soap_Play.f bt647.1 bt647.2.1 bt647.2.2 t654).bind fun bt657 => ((pl_Slate.f k a0_0 l0_1 l0_2).bind fun bt661 => ((pl_list.f t644).bind fun t668 => ((soap_Groups.f bt661.1 bt661.2.1 bt661.2.2 t668).bind fun bt671 => ((pl_Slate.f k a0_0 l0_1 l0_2).bind fun bt675 => ((pl_list.f t644).bind fun t682 => ((soap_Settle.f bt675.1 bt675.2.1 bt675.2.2 t682).bind fun bt685 => (if bt657.2 = 0 then (if bt671.2 = 0 then (if bt685.2 = 0 then (if (bt657.1.length : Int) = a0_0 then ((pl_small.f k bt671.1).bind fun t689 => (pl_SoapApart.j0 k bt657.1 bt671.1 bt685.1 (!t689) a0_0 l0_1 l0_2)) else (pl_SoapApart.j0 k bt657.1 bt671.1 bt685.1 true a0_0 l0_1 l0_2)) else (pl_SoapApart.j0 k bt657.1 bt671.1 bt685.1 true a0_0 l0_1 l0_2)) else (pl_SoapApart.j0 k bt657.1 bt671.1 bt685.1 true a0_0 l0_1 l0_2)) else (pl_SoapApart.j0 k bt657.1 bt671.1 bt685.1 true a0_0 l0_1 l0_2))))))))))))) = some r := H
  have A5 := mkA A50
  clear A50
  by_cases c6 : t643 = 0
  ·rw [if_pos c6] at H
   exact absurd H (by simp)
  ·rw [if_neg c6] at H
   have c6b0 : (t643 == 0) = false := beq_eq_false_iff_ne.mpr c6
   have c6b1 : (t643 != 0) = true := bne_iff_ne.mpr c6
   replace H := Option.bind_eq_some_iff.mp H
   obtain ⟨t644, A70, H⟩ := H
   replace H : ((pl_Slate.f k a0_0 l0_1 l0_2).bind fun bt647 => ((pl_list.f t644).bind fun t654 => ((soap_Play.f bt647.1 bt647.2.1 bt647.2.2 t654).bind fun bt657 => ((pl_Slate.f k a0_0 l0_1 l0_2).bind fun bt661 => ((pl_list.f t644).bind fun t668 => ((soap_Groups.f bt661.1 bt661.2.1 bt661.2.2 t668).bind fun bt671 => ((pl_Slate.f k a0_0 l0_1 l0_2).bind fun bt675 => ((pl_list.f t644).bind fun t682 => ((soap_Settle.f bt675.1 bt675.2.1 bt675.2.2 t682).bind fun bt685 => (if bt657.2 = 0 then (if bt671.2 = 0 then (if bt685.2 = 0 then (if (bt657.1.length : Int) = a0_0 then ((pl_small.f k bt671.1).bind fun t689 => (pl_SoapApart.j0 k bt657.1 bt671.1 bt685.1 (!t689) a0_0 l0_1 l0_2)) else (pl_SoapApart.j0 k bt657.1 bt671.1 bt685.1 true a0_0 l0_1 l0_2)) else (pl_SoapApart.j0 k bt657.1 bt671.1 bt685.1 true a0_0 l0_1 l0_2)) else (pl_SoapApart.j0 k bt657.1 bt671.1 bt685.1 true a0_0 l0_1 l0_2)) else (pl_SoapApart.j0 k bt657.1 bt671.1 bt685.1 true a0_0 l0_1 l0_2))))))))))) = some r := H
   have A7 := mkA A70
   clear A70
   replace H := Option.bind_eq_some_iff.mp H
   obtain ⟨⟨t647, t648, t651⟩, A80, H⟩ := H
   replace H : ((pl_list.f t644).bind fun t654 => ((soap_Play.f t647 t648 t651 t654).bind fun bt657 => ((pl_Slate.f k a0_0 l0_1 l0_2).bind fun bt661 => ((pl_list.f t644).bind fun t668 => ((soap_Groups.f bt661.1 bt661.2.1 bt661.2.2 t668).bind fun bt671 => ((pl_Slate.f k a0_0 l0_1 l0_2).bind fun bt675 => ((pl_list.f t644).bind fun t682 => ((soap_Settle.f bt675.1 bt675.2.1 bt675.2.2 t682).bind fun bt685 => (if bt657.2 = 0 then (if bt671.2 = 0 then (if bt685.2 = 0 then (if (bt657.1.length : Int) = a0_0 then ((pl_small.f k bt671.1).bind fun t689 => (pl_SoapApart.j0 k bt657.1 bt671.1 bt685.1 (!t689) a0_0 l0_1 l0_2)) else (pl_SoapApart.j0 k bt657.1 bt671.1 bt685.1 true a0_0 l0_1 l0_2)) else (pl_SoapApart.j0 k bt657.1 bt671.1 bt685.1 true a0_0 l0_1 l0_2)) else (pl_SoapApart.j0 k bt657.1 bt671.1 bt685.1 true a0_0 l0_1 l0_2)) else (pl_SoapApart.j0 k bt657.1 bt671.1 bt685.1 true a0_0 l0_1 l0_2)))))))))) = some r := H
   have A8 := mkA A80
   clear A80
   replace H := Option.bind_eq_some_iff.mp H
   obtain ⟨t654, A90, H⟩ := H
   replace H : ((soap_Play.f t647 t648 t651 t654).bind fun bt657 => ((pl_Slate.f k a0_0 l0_1 l0_2).bind fun bt661 => ((pl_list.f t644).bind fun t668 => ((soap_Groups.f bt661.1 bt661.2.1 bt661.2.2 t668).bind fun bt671 => ((pl_Slate.f k a0_0 l0_1 l0_2).bind fun bt675 => ((pl_list.f t644).bind fun t682 => ((soap_Settle.f bt675.1 bt675.2.1 bt675.2.2 t682).bind fun bt685 => (if bt657.2 = 0 then (if bt671.2 = 0 then (if bt685.2 = 0 then (if (bt657.1.length : Int) = a0_0 then ((pl_small.f k bt671.1).bind fun t689 => (pl_SoapApart.j0 k bt657.1 bt671.1 bt685.1 (!t689) a0_0 l0_1 l0_2)) else (pl_SoapApart.j0 k bt657.1 bt671.1 bt685.1 true a0_0 l0_1 l0_2)) else (pl_SoapApart.j0 k bt657.1 bt671.1 bt685.1 true a0_0 l0_1 l0_2)) else (pl_SoapApart.j0 k bt657.1 bt671.1 bt685.1 true a0_0 l0_1 l0_2)) else (pl_SoapApart.j0 k bt657.1 bt671.1 bt685.1 true a0_0 l0_1 l0_2))))))))) = some r := H
   have A9 := mkA A90
   clear A90
   replace H := Option.bind_eq_some_iff.mp H
   obtain ⟨⟨t657, t660⟩, A100, H⟩ := H
   replace H : ((pl_Slate.f k a0_0 l0_1 l0_2).bind fun bt661 => ((pl_list.f t644).bind fun t668 => ((soap_Groups.f bt661.1 bt661.2.1 bt661.2.2 t668).bind fun bt671 => ((pl_Slate.f k a0_0 l0_1 l0_2).bind fun bt675 => ((pl_list.f t644).bind fun t682 => ((soap_Settle.f bt675.1 bt675.2.1 bt675.2.2 t682).bind fun bt685 => (if t660 = 0 then (if bt671.2 = 0 then (if bt685.2 = 0 then (if (t657.length : Int) = a0_0 then ((pl_small.f k bt671.1).bind fun t689 => (pl_SoapApart.j0 k t657 bt671.1 bt685.1 (!t689) a0_0 l0_1 l0_2)) else (pl_SoapApart.j0 k t657 bt671.1 bt685.1 true a0_0 l0_1 l0_2)) else (pl_SoapApart.j0 k t657 bt671.1 bt685.1 true a0_0 l0_1 l0_2)) else (pl_SoapApart.j0 k t657 bt671.1 bt685.1 true a0_0 l0_1 l0_2)) else (pl_SoapApart.j0 k t657 bt671.1 bt685.1 true a0_0 l0_1 l0_2)))))))) = some r := H
   have A10 := mkA A100
   clear A100
   replace H := Option.bind_eq_some_iff.mp H
   obtain ⟨⟨t661, t662, t665⟩, A110, H⟩ := H
   replace H : ((pl_list.f t644).bind fun t668 => ((soap_Groups.f t661 t662 t665 t668).bind fun bt671 => ((pl_Slate.f k a0_0 l0_1 l0_2).bind fun bt675 => ((pl_list.f t644).bind fun t682 => ((soap_Settle.f bt675.1 bt675.2.1 bt675.2.2 t682).bind fun bt685 => (if t660 = 0 then (if bt671.2 = 0 then (if bt685.2 = 0 then (if (t657.length : Int) = a0_0 then ((pl_small.f k bt671.1).bind fun t689 => (pl_SoapApart.j0 k t657 bt671.1 bt685.1 (!t689) a0_0 l0_1 l0_2)) else (pl_SoapApart.j0 k t657 bt671.1 bt685.1 true a0_0 l0_1 l0_2)) else (pl_SoapApart.j0 k t657 bt671.1 bt685.1 true a0_0 l0_1 l0_2)) else (pl_SoapApart.j0 k t657 bt671.1 bt685.1 true a0_0 l0_1 l0_2)) else (pl_SoapApart.j0 k t657 bt671.1 bt685.1 true a0_0 l0_1 l0_2))))))) = some r := H
   have A11 := mkA A110
   clear A110
   replace H := Option.bind_eq_some_iff.mp H
   obtain ⟨t668, A120, H⟩ := H
   replace H : ((soap_Groups.f t661 t662 t665 t668).bind fun bt671 => ((pl_Slate.f k a0_0 l0_1 l0_2).bind fun bt675 => ((pl_list.f t644).bind fun t682 => ((soap_Settle.f bt675.1 bt675.2.1 bt675.2.2 t682).bind fun bt685 => (if t660 = 0 then (if bt671.2 = 0 then (if bt685.2 = 0 then (if (t657.length : Int) = a0_0 then ((pl_small.f k bt671.1).bind fun t689 => (pl_SoapApart.j0 k t657 bt671.1 bt685.1 (!t689) a0_0 l0_1 l0_2)) else (pl_SoapApart.j0 k t657 bt671.1 bt685.1 true a0_0 l0_1 l0_2)) else (pl_SoapApart.j0 k t657 bt671.1 bt685.1 true a0_0 l0_1 l0_2)) else (pl_SoapApart.j0 k t657 bt671.1 bt685.1 true a0_0 l0_1 l0_2)) else (pl_SoapApart.j0 k t657 bt671.1 bt685.1 true a0_0 l0_1 l0_2)))))) = some r := H
   have A12 := mkA A120
   clear A120
   replace H := Option.bind_eq_some_iff.mp H
   obtain ⟨⟨t671, t674⟩, A130, H⟩ := H
   replace H : ((pl_Slate.f k a0_0 l0_1 l0_2).bind fun bt675 => ((pl_list.f t644).bind fun t682 => ((soap_Settle.f bt675.1 bt675.2.1 bt675.2.2 t682).bind fun bt685 => (if t660 = 0 then (if t674 = 0 then (if bt685.2 = 0 then (if (t657.length : Int) = a0_0 then ((pl_small.f k t671).bind fun t689 => (pl_SoapApart.j0 k t657 t671 bt685.1 (!t689) a0_0 l0_1 l0_2)) else (pl_SoapApart.j0 k t657 t671 bt685.1 true a0_0 l0_1 l0_2)) else (pl_SoapApart.j0 k t657 t671 bt685.1 true a0_0 l0_1 l0_2)) else (pl_SoapApart.j0 k t657 t671 bt685.1 true a0_0 l0_1 l0_2)) else (pl_SoapApart.j0 k t657 t671 bt685.1 true a0_0 l0_1 l0_2))))) = some r := H
   have A13 := mkA A130
   clear A130
   replace H := Option.bind_eq_some_iff.mp H
   obtain ⟨⟨t675, t676, t679⟩, A140, H⟩ := H
   replace H : ((pl_list.f t644).bind fun t682 => ((soap_Settle.f t675 t676 t679 t682).bind fun bt685 => (if t660 = 0 then (if t674 = 0 then (if bt685.2 = 0 then (if (t657.length : Int) = a0_0 then ((pl_small.f k t671).bind fun t689 => (pl_SoapApart.j0 k t657 t671 bt685.1 (!t689) a0_0 l0_1 l0_2)) else (pl_SoapApart.j0 k t657 t671 bt685.1 true a0_0 l0_1 l0_2)) else (pl_SoapApart.j0 k t657 t671 bt685.1 true a0_0 l0_1 l0_2)) else (pl_SoapApart.j0 k t657 t671 bt685.1 true a0_0 l0_1 l0_2)) else (pl_SoapApart.j0 k t657 t671 bt685.1 true a0_0 l0_1 l0_2)))) = some r := H
   have A14 := mkA A140
   clear A140
   replace H := Option.bind_eq_some_iff.mp H
   obtain ⟨t682, A150, H⟩ := H
   replace H : ((soap_Settle.f t675 t676 t679 t682).bind fun bt685 => (if t660 = 0 then (if t674 = 0 then (if bt685.2 = 0 then (if (t657.length : Int) = a0_0 then ((pl_small.f k t671).bind fun t689 => (pl_SoapApart.j0 k t657 t671 bt685.1 (!t689) a0_0 l0_1 l0_2)) else (pl_SoapApart.j0 k t657 t671 bt685.1 true a0_0 l0_1 l0_2)) else (pl_SoapApart.j0 k t657 t671 bt685.1 true a0_0 l0_1 l0_2)) else (pl_SoapApart.j0 k t657 t671 bt685.1 true a0_0 l0_1 l0_2)) else (pl_SoapApart.j0 k t657 t671 bt685.1 true a0_0 l0_1 l0_2))) = some r := H
   have A15 := mkA A150
   clear A150
   replace H := Option.bind_eq_some_iff.mp H
   obtain ⟨⟨t685, t688⟩, A160, H⟩ := H
   replace H : (if t660 = 0 then (if t674 = 0 then (if t688 = 0 then (if (t657.length : Int) = a0_0 then ((pl_small.f k t671).bind fun t689 => (pl_SoapApart.j0 k t657 t671 t685 (!t689) a0_0 l0_1 l0_2)) else (pl_SoapApart.j0 k t657 t671 t685 true a0_0 l0_1 l0_2)) else (pl_SoapApart.j0 k t657 t671 t685 true a0_0 l0_1 l0_2)) else (pl_SoapApart.j0 k t657 t671 t685 true a0_0 l0_1 l0_2)) else (pl_SoapApart.j0 k t657 t671 t685 true a0_0 l0_1 l0_2)) = some r := H
   have A16 := mkA A160
   clear A160
   have HC17 := mkA H
   clear H
   go_enter Try.func10, Try.ntmps10
   try go_wp2_with (first | ((with_reducible refine z25 (N := 2) rfl ?_); (try (refine z34 (by rfl) ?_; dsimp only)); refine z23 ?hg (N := 2) ?hd (cs := #[.int .i64 a0_0, .slice A0_1 l0_1.length c0_1, .slice A0_2 l0_2.length c0_2]) (t := 25) ?hr ?_; (case hd => rfl); (case hg => rfl); (case hr => first | (go_simp; done) | (go_simp; rfl)); intro gb640 hg w18 hbox hb; have n0_ := mkA (z17 (by repeat (first | (with_reducible first | exact HB.out | apply z11 | apply z10 | apply z12) | exact HB.out)) hb); have n1_ := mkA (hbox); have n2_ := mkA ((by rw [hg]; exact (z18 (by repeat (first | (with_reducible first | exact HB.out | apply z11 | apply z10 | apply z12) | exact HB.out))) : w.heap.size ≤ gb640)); have n3_ := mkA ((by rw [hg]; exact (z18 (by repeat (first | (with_reducible first | exact HB.out | apply z11 | apply z10 | apply z12) | exact HB.out))) : w.heap.size ≤ gb640)); clear HB; have HB := n0_; have BK640 := n1_; have GW640 := n2_; have GE640 := n3_; clear n0_ n1_ n2_ n3_; clear hb hbox hg; have hcz19_0 : w18.cell? ⟨gb640, 0, none⟩ = some (.int .i64 a0_0) := (z13 BK640.out 0).trans rfl; have hcz19_1 : w18.cell? ⟨gb640, 1, none⟩ = some (.slice A0_1 l0_1.length c0_1) := (z13 BK640.out 1).trans rfl; have hcz19_2 : w18.cell? ⟨gb640, 2, none⟩ = some (.slice A0_2 l0_2.length c0_2) := (z13 BK640.out 2).trans rfl; have hfz19_0 := z14 BK640.out 0; have hfz19_1 := z14 BK640.out 1; have hfz19_2 := z14 BK640.out 2) | ((with_reducible refine z22 (f := 45) rfl ?_); refine goesL_ (some 19) rfl rfl Try.func45 (by kernel_rfl) rfl #[.agg #[.int .i64 a0_0, .slice A0_1 l0_1.length c0_1, .slice A0_2 l0_2.length c0_2]] rfl (by (try simp only [List.map_toArray, List.map_cons, List.map_nil]); first | done | rfl | (simp only [List.length_drop, List.length_take]; rfl)) ?_; (with_reducible refine (pl_ready.calls k a0_0 _ _ l0_1 _ _ l0_2 true _ ?side1 ?side2 ?side3 ?side4 A3.out).mono ?_); (case side1 => repeat (first | exact (Kd.C_below HR0_1.out HB.out) | (with_reducible refine Kd.C_alloc ?_ _) | (with_reducible refine Kd.C_drewN ?_ _) | (with_reducible refine Kd.C_drew ?_))); (case side2 => exact HC0_1.out); (case side3 => repeat (first | exact (Kd.C_below HR0_2.out HB.out) | (with_reducible refine Kd.C_alloc ?_ _) | (with_reducible refine Kd.C_drewN ?_ _) | (with_reducible refine Kd.C_drew ?_))); (case side4 => exact HC0_2.out); rintro e w20 ⟨rfl, hb⟩; refine ⟨_, rfl, ?_⟩; have n0_ := mkA (blk_below (g := gb640) (o := .cells #[.int .i64 a0_0, .slice A0_1 l0_1.length c0_1, .slice A0_2 l0_2.length c0_2] 25 (0, 0)) (by (with_reducible repeat (first | refine z16 ?_ _ | refine z28 ?_ | refine z26 ?_ _)); exact BK640.out) hb); have n1_ := mkA (z17 (by repeat (first | (with_reducible first | exact HB.out | apply z11 | apply z10 | apply z12 | refine z15 ?_ GE640.out) | exact HB.out)) hb); clear BK640; clear HB; have BK640 := n0_; have HB := n1_; clear n0_ n1_; (try clear hb); (try clear hb2); (try clear hk); (try clear hi)))
   have n0_ := mkA (z28 BK640.out)
   have n1_ := mkA (z12 HB.out)
   clear BK640
   clear HB
   have BK640 := n0_
   have HB := n1_
   clear n0_ n1_
   refine start_ (n := 8) (S := fun w' => w'.cell? ⟨gb640, 0, none⟩ = some (.int .i64 a0_0) ∧ w'.cell? ⟨gb640, 1, none⟩ = some (.slice A0_1 l0_1.length c0_1) ∧ w'.cell? ⟨gb640, 2, none⟩ = some (.slice A0_2 l0_2.length c0_2)) (ds := []) #[false, false, false, false, false, false, false, false] (by kernel_rfl) rfl rfl ⟨(z13 BK640.out 0).trans rfl, (z13 BK640.out 1).trans rfl, (z13 BK640.out 2).trans rfl⟩ (fun hHeld => ?_); refine with_tabW pl_SoapApart.tab3 pl_SoapApart.bits3 (fun HT_ HW_ => ?_)
   generalize w20.drew = w21 at BK640 HB hHeld ⊢
   refine pure_ (i := 1) (N := some 23) (v := ?_) (a' := ?_) #[false, true, false, false, false, false, false, false] rfl rfl (any_of HT_.out (by kernel_rfl)) (fun _ _ _ h => h) (Or.inl ⟨by rfl, ?_⟩) ?_ ?_
   rotate_left
   ·intro w'
    go_simp
    with_reducible rfl
   rotate_left
   ·simp only [Act.put, xq1, xq2, xq3, i64_w, i32_w]
    rfl
   refine pure_ (i := 2) (N := some 24) (v := ?_) (a' := ?_) #[false, true, true, false, false, false, false, false] rfl rfl (any_of HT_.out (by kernel_rfl)) (fun _ _ _ h => h) (Or.inl ⟨by rfl, ?_⟩) ?_ ?_
   rotate_left
   ·intro w'
    go_simp
    with_reducible rfl
   rotate_left
   ·simp only [Act.put, xq1, xq2, xq3, i64_w, i32_w]
    rfl
   refine take_ (i := 0) (N := some 22) (v := ?_) (a' := ?_) #[true, true, true, false, false, false, false, false] rfl rfl (z41 HT_.out HW_.out (by kernel_rfl)) (fun _ _ _ h => h) (Or.inl ⟨by rfl, ?_⟩) hHeld ?_ ?_
   rotate_left
   ·rintro w' ⟨s0, s1, s2⟩
    go_simp
    with_reducible rfl
   rotate_left
   ·simp only [Act.put, xq1, xq2, xq3, i64_w, i32_w]
    rfl
   refine take_ (i := 3) (N := some 25) (v := ?_) (a' := ?_) #[true, true, true, true, false, false, false, false] rfl rfl (z41 HT_.out HW_.out (by kernel_rfl)) (fun _ _ _ h => h) (Or.inl ⟨by rfl, ?_⟩) hHeld ?_ ?_
   rotate_left
   ·rintro w' ⟨s0, s1, s2⟩
    go_simp
    with_reducible rfl
   rotate_left
   ·simp only [Act.put, xq1, xq2, xq3, i64_w, i32_w]
    rfl
   refine one_ (i := 4) (N := some 26) #[true, true, true, true, true, false, false, false] rfl rfl (one_of HT_.out (by kernel_rfl)) (by decide) (fun K hK => ?_)
   refine goes_ Try.func47 (by kernel_rfl) rfl #[.agg #[.int .i64 a0_0, .slice A0_1 l0_1.length c0_1, .slice A0_2 l0_2.length c0_2]] (by rfl) rfl rfl (by (try simp only [List.map_toArray, List.map_cons, List.map_nil]); first | done | rfl | (simp only [List.length_drop, List.length_take]; rfl)) ?_
   with_reducible refine (pr_Many.calls k a0_0 _ _ l0_1 _ _ l0_2 t643 _ ?side1 ?side2 ?side3 ?side4 A5.out).mono ?_
   (case side1 => repeat (first | exact (Kd.C_below HR0_1.out HB.out) | (with_reducible refine Kd.C_alloc ?_ _) | (with_reducible refine Kd.C_drewN ?_ _) | (with_reducible refine Kd.C_drew ?_)))
   (case side2 => exact HC0_1.out)
   (case side3 => repeat (first | exact (Kd.C_below HR0_2.out HB.out) | (with_reducible refine Kd.C_alloc ?_ _) | (with_reducible refine Kd.C_drewN ?_ _) | (with_reducible refine Kd.C_drew ?_)))
   (case side4 => exact HC0_2.out)
   rintro e w22 ⟨rfl, hb⟩
   refine ⟨_, rfl, ?_⟩
   have n0_ := mkA (blk_below (g := gb640) (o := .cells #[.int .i64 a0_0, .slice A0_1 l0_1.length c0_1, .slice A0_2 l0_2.length c0_2] 25 (0, 0)) (by (with_reducible repeat (first | refine z16 ?_ _ | refine z28 ?_ | refine z26 ?_ _)); exact BK640.out) hb)
   have n1_ := mkA (z17 (by repeat (first | (with_reducible first | exact HB.out | apply z11 | apply z10 | apply z12 | refine z15 ?_ GE640.out) | exact HB.out)) hb)
   clear BK640
   clear HB
   have BK640 := n0_
   have HB := n1_
   clear n0_ n1_
   (try clear hb)
   (try clear hb2)
   (try clear hk)
   (try clear hi)
   refine hK.out _ _ ⟨(z13 BK640.out 0).trans rfl, (z13 BK640.out 1).trans rfl, (z13 BK640.out 2).trans rfl⟩ (fun hHeld => ?_)
   clear hK K
   refine norm_ (a' := ?_) ?_ ?_
   rotate_left
   ·show Act.put _ (some 26) _ = _
    simp only [Act.put, xq1, xq2, xq3, i64_w, i32_w]
    rfl
   refine pure_ (i := 5) (N := some 27) (v := ?_) (a' := ?_) #[true, true, true, true, true, true, false, false] rfl rfl (any_of HT_.out (by kernel_rfl)) (fun _ _ _ h => h) (Or.inl ⟨by rfl, ?_⟩) ?_ ?_
   rotate_left
   ·intro w'
    go_simp
    with_reducible rfl
   rotate_left
   ·simp only [Act.put, xq1, xq2, xq3, i64_w, i32_w]
    rfl
   refine one_ (i := 6) (N := some 28) #[true, true, true, true, true, true, true, false] rfl rfl (one_of HT_.out (by kernel_rfl)) (by decide) (fun K hK => ?_)
   refine goes_ Try.func46 (by kernel_rfl) rfl #[.agg #[.int .i64 a0_0, .slice A0_1 l0_1.length c0_1, .slice A0_2 l0_2.length c0_2], .int .i64 (Int.tmod (wrap64 (a1)) t643)] (by rfl) rfl rfl (by (try simp only [List.map_toArray, List.map_cons, List.map_nil]); first | done | rfl | (simp only [List.length_drop, List.length_take]; rfl)) ?_
   with_reducible refine (pr_Nth.calls k a0_0 _ _ l0_1 _ _ l0_2 (Int.tmod (wrap64 (a1)) t643) t644 _ ?side1 ?side2 ?side3 ?side4 A7.out).mono ?_
   (case side1 => repeat (first | exact (Kd.C_below HR0_1.out HB.out) | (with_reducible refine Kd.C_alloc ?_ _) | (with_reducible refine Kd.C_drewN ?_ _) | (with_reducible refine Kd.C_drew ?_)))
   (case side2 => exact HC0_1.out)
   (case side3 => repeat (first | exact (Kd.C_below HR0_2.out HB.out) | (with_reducible refine Kd.C_alloc ?_ _) | (with_reducible refine Kd.C_drewN ?_ _) | (with_reducible refine Kd.C_drew ?_)))
   (case side4 => exact HC0_2.out)
   rintro e w23 ⟨v645, rfl, ho0, hb⟩
   refine ⟨_, rfl, ?_⟩
   have n0_ := mkA (Kd.R_lower ho0 (z18 (by repeat (first | (with_reducible first | exact HB.out | apply z11 | apply z10 | apply z12 | refine z15 ?_ GE640.out) | exact HB.out))))
   have n1_ := mkA (blk_below (g := gb640) (o := .cells #[.int .i64 a0_0, .slice A0_1 l0_1.length c0_1, .slice A0_2 l0_2.length c0_2] 25 (0, 0)) (by (with_reducible repeat (first | refine z16 ?_ _ | refine z28 ?_ | refine z26 ?_ _)); exact BK640.out) hb)
   have n2_ := mkA (z17 (by repeat (first | (with_reducible first | exact HB.out | apply z11 | apply z10 | apply z12 | refine z15 ?_ GE640.out) | exact HB.out)) hb)
   clear BK640
   clear HB
   have HO646 := n0_
   have BK640 := n1_
   have HB := n2_
   clear n0_ n1_ n2_
   (try clear hb)
   (try clear hb2)
   (try clear hk)
   (try clear hi)
   (try clear ho0)
   refine hK.out _ _ ⟨(z13 BK640.out 0).trans rfl, (z13 BK640.out 1).trans rfl, (z13 BK640.out 2).trans rfl⟩ (fun hHeld => ?_)
   clear hK K
   refine norm_ (a' := ?_) ?_ ?_
   rotate_left
   ·show Act.put _ (some 28) _ = _
    simp only [Act.put, xq1, xq2, xq3, i64_w, i32_w]
    rfl
   refine pure_ (i := 7) (N := some 5) (v := ?_) (a' := ?_) #[true, true, true, true, true, true, true, true] rfl rfl (any_of HT_.out (by kernel_rfl)) (fun _ _ _ h => h) (Or.inl ⟨by rfl, ?_⟩) ?_ ?_
   rotate_left
   ·intro w'
    go_simp
    with_reducible rfl
   rotate_left
   ·simp only [Act.put, xq1, xq2, xq3, i64_w, i32_w]
    rfl
   refine done_ (done_of HT_.out (by kernel_rfl)) ?_
   have hcz24_0 : w23.cell? ⟨gb640, 0, none⟩ = some (.int .i64 a0_0) := (z13 BK640.out 0).trans rfl
   have hcz24_1 : w23.cell? ⟨gb640, 1, none⟩ = some (.slice A0_1 l0_1.length c0_1) := (z13 BK640.out 1).trans rfl
   have hcz24_2 : w23.cell? ⟨gb640, 2, none⟩ = some (.slice A0_2 l0_2.length c0_2) := (z13 BK640.out 2).trans rfl
   have hfz24_0 := z14 BK640.out 0
   have hfz24_1 := z14 BK640.out 1
   have hfz24_2 := z14 BK640.out 2
   go_upto_region 7 with (first | ((with_reducible refine z22 (f := 23) rfl ?_); refine goesL_ (some 31) rfl rfl Try.func23 (by kernel_rfl) rfl #[.agg #[.int .i64 a0_0, .slice A0_1 l0_1.length c0_1, .slice A0_2 l0_2.length c0_2]] rfl (by (try simp only [List.map_toArray, List.map_cons, List.map_nil]); first | done | rfl | (simp only [List.length_drop, List.length_take]; rfl)) ?_; (with_reducible refine (pl_Slate.calls k a0_0 _ _ l0_1 _ _ l0_2 t647 t648 t651 _ ?side1 ?side2 ?side3 ?side4 A8.out).mono ?_); (case side1 => repeat (first | exact (Kd.C_below HR0_1.out HB.out) | (with_reducible refine Kd.C_alloc ?_ _) | (with_reducible refine Kd.C_drewN ?_ _) | (with_reducible refine Kd.C_drew ?_))); (case side2 => exact HC0_1.out); (case side3 => repeat (first | exact (Kd.C_below HR0_2.out HB.out) | (with_reducible refine Kd.C_alloc ?_ _) | (with_reducible refine Kd.C_drewN ?_ _) | (with_reducible refine Kd.C_drew ?_))); (case side4 => exact HC0_2.out); rintro e w25 ⟨v649, v652, rfl, ho0, ho1, hb⟩; refine ⟨_, rfl, ?_⟩; have n0_ := mkA (Kd.R_below (by (with_reducible repeat (first | apply Kd.R_alloc | apply Kd.R_drewN | apply Kd.R_drew)); exact HO646.out) hb); have n1_ := mkA (Kd.R_lower ho0 (z18 (by repeat (first | (with_reducible first | exact HB.out | apply z11 | apply z10 | apply z12 | refine z15 ?_ GE640.out) | exact HB.out)))); have n2_ := mkA (Kd.R_lower ho1 (z18 (by repeat (first | (with_reducible first | exact HB.out | apply z11 | apply z10 | apply z12 | refine z15 ?_ GE640.out) | exact HB.out)))); have n3_ := mkA (blk_below (g := gb640) (o := .cells #[.int .i64 a0_0, .slice A0_1 l0_1.length c0_1, .slice A0_2 l0_2.length c0_2] 25 (0, 0)) (by (with_reducible repeat (first | refine z16 ?_ _ | refine z28 ?_ | refine z26 ?_ _)); exact BK640.out) hb); have n4_ := mkA (z17 (by repeat (first | (with_reducible first | exact HB.out | apply z11 | apply z10 | apply z12 | refine z15 ?_ GE640.out) | exact HB.out)) hb); clear HO646; clear BK640; clear HB; have HO646 := n0_; have HO650 := n1_; have HO653 := n2_; have BK640 := n3_; have HB := n4_; clear n0_ n1_ n2_ n3_ n4_; (try clear hb); (try clear hb2); (try clear hk); (try clear hi); (try clear ho0); (try clear ho1); obtain ⟨Ao26, co26, eo26⟩ := Kd.R_slice HO646.out; subst eo26) | ((with_reducible refine z22 (f := 30) rfl ?_); refine goesL_ (some 33) rfl rfl Try.func30 (by kernel_rfl) rfl #[.slice Ao26 t644.length co26] rfl (by (try simp only [List.map_toArray, List.map_cons, List.map_nil]); first | done | rfl | (simp only [List.length_drop, List.length_take]; rfl)) ?_; (with_reducible refine (pl_list.calls _ _ t644 t654 _ ?side1 ?side2 A9.out).mono ?_); (case side1 => repeat (first | exact (Kd.R_reads' HO646.out).2.2 | (with_reducible refine Kd.C_alloc ?_ _) | (with_reducible refine Kd.C_drewN ?_ _) | (with_reducible refine Kd.C_drew ?_))); (case side2 => exact (Kd.R_reads' HO646.out).2.1); rintro e w27 ⟨v655, rfl, ho0, hb⟩; refine ⟨_, rfl, ?_⟩; have n0_ := mkA (Kd.R_elder' (by (with_reducible repeat (first | apply Kd.R_alloc | apply Kd.R_drewN | apply Kd.R_drew)); exact HO646.out) (Kd.R_base ho0) hb); have n1_ := mkA (Kd.R_below (by (with_reducible repeat (first | apply Kd.R_alloc | apply Kd.R_drewN | apply Kd.R_drew)); exact HO650.out) hb); have n2_ := mkA (Kd.R_below (by (with_reducible repeat (first | apply Kd.R_alloc | apply Kd.R_drewN | apply Kd.R_drew)); exact HO653.out) hb); have n3_ := mkA (Kd.R_lower (Kd.R_new' ho0 (Kd.R_lt (by (with_reducible repeat (first | apply Kd.R_alloc | apply Kd.R_drewN | apply Kd.R_drew)); exact HO646.out))) (z18 (by repeat (first | (with_reducible first | exact HB.out | apply z11 | apply z10 | apply z12 | refine z15 ?_ GE640.out) | exact HB.out)))); have n4_ := mkA (blk_below (g := gb640) (o := .cells #[.int .i64 a0_0, .slice A0_1 l0_1.length c0_1, .slice A0_2 l0_2.length c0_2] 25 (0, 0)) (by (with_reducible repeat (first | refine z16 ?_ _ | refine z28 ?_ | refine z26 ?_ _)); exact BK640.out) hb); have n5_ := mkA (z17 (by repeat (first | (with_reducible first | exact HB.out | apply z11 | apply z10 | apply z12 | refine z15 ?_ GE640.out) | exact HB.out)) hb); clear HO646; clear HO650; clear HO653; clear BK640; clear HB; have HO646 := n0_; have HO650 := n1_; have HO653 := n2_; have HO656 := n3_; have BK640 := n4_; have HB := n5_; clear n0_ n1_ n2_ n3_ n4_ n5_; (try clear hb); (try clear hb2); (try clear hk); (try clear hi); (try clear ho0); obtain ⟨Ao28, co28, eo28⟩ := Kd.R_slice HO650.out; subst eo28; obtain ⟨Ao29, co29, eo29⟩ := Kd.R_slice HO653.out; subst eo29; obtain ⟨Ao30, co30, eo30⟩ := Kd.R_slice HO656.out; subst eo30) | ((with_reducible refine z22 (f := 48) rfl ?_); refine goesL_ (some 34) rfl rfl Try.func48 (by kernel_rfl) rfl #[.agg #[.int .i64 t647, .slice Ao28 t648.length co28, .slice Ao29 t651.length co29], .slice Ao30 t654.length co30] rfl (by (try simp only [List.map_toArray, List.map_cons, List.map_nil]); first | done | rfl | (simp only [List.length_drop, List.length_take]; rfl)) ?_; (with_reducible refine (soap_Play.calls t647 _ _ t648 _ _ t651 _ _ t654 t657 t660 _ ?side1 ?side2 ?side3 ?side4 ?side5 ?side6 A10.out).mono ?_); (case side1 => repeat (first | exact (Kd.R_reads' HO650.out).2.2 | (with_reducible refine Kd.C_alloc ?_ _) | (with_reducible refine Kd.C_drewN ?_ _) | (with_reducible refine Kd.C_drew ?_))); (case side2 => exact (Kd.R_reads' HO650.out).2.1); (case side3 => repeat (first | exact (Kd.R_reads' HO653.out).2.2 | (with_reducible refine Kd.C_alloc ?_ _) | (with_reducible refine Kd.C_drewN ?_ _) | (with_reducible refine Kd.C_drew ?_))); (case side4 => exact (Kd.R_reads' HO653.out).2.1); (case side5 => repeat (first | exact (Kd.R_reads' HO656.out).2.2 | (with_reducible refine Kd.C_alloc ?_ _) | (with_reducible refine Kd.C_drewN ?_ _) | (with_reducible refine Kd.C_drew ?_))); (case side6 => exact (Kd.R_reads' HO656.out).2.1); rintro e w31 ⟨v658, rfl, ho0, hb⟩; refine ⟨_, rfl, ?_⟩; have n0_ := mkA (Kd.R_elder' (by (with_reducible repeat (first | apply Kd.R_alloc | apply Kd.R_drewN | apply Kd.R_drew)); exact HO646.out) (Kd.R_base ho0) hb); have n1_ := mkA (Kd.R_below (by (with_reducible repeat (first | apply Kd.R_alloc | apply Kd.R_drewN | apply Kd.R_drew)); exact HO650.out) hb); have n2_ := mkA (Kd.R_below (by (with_reducible repeat (first | apply Kd.R_alloc | apply Kd.R_drewN | apply Kd.R_drew)); exact HO653.out) hb); have n3_ := mkA (Kd.R_elder' (by (with_reducible repeat (first | apply Kd.R_alloc | apply Kd.R_drewN | apply Kd.R_drew)); exact HO656.out) (Kd.R_base ho0) hb); have n4_ := mkA (Kd.R_lower (Kd.R_new' (Kd.R_new' ho0 (Kd.R_lt (by (with_reducible repeat (first | apply Kd.R_alloc | apply Kd.R_drewN | apply Kd.R_drew)); exact HO646.out))) (Kd.R_lt (by (with_reducible repeat (first | apply Kd.R_alloc | apply Kd.R_drewN | apply Kd.R_drew)); exact HO656.out))) (z18 (by repeat (first | (with_reducible first | exact HB.out | apply z11 | apply z10 | apply z12 | refine z15 ?_ GE640.out) | exact HB.out)))); have n5_ := mkA (blk_below (g := gb640) (o := .cells #[.int .i64 a0_0, .slice A0_1 l0_1.length c0_1, .slice A0_2 l0_2.length c0_2] 25 (0, 0)) (by (with_reducible repeat (first | refine z16 ?_ _ | refine z28 ?_ | refine z26 ?_ _)); exact BK640.out) hb); have n6_ := mkA (z17 (by repeat (first | (with_reducible first | exact HB.out | apply z11 | apply z10 | apply z12 | refine z15 ?_ GE640.out) | exact HB.out)) hb); clear HO646; clear HO650; clear HO653; clear HO656; clear BK640; clear HB; have HO646 := n0_; have HO650 := n1_; have HO653 := n2_; have HO656 := n3_; have HO659 := n4_; have BK640 := n5_; have HB := n6_; clear n0_ n1_ n2_ n3_ n4_ n5_ n6_; (try clear hb); (try clear hb2); (try clear hk); (try clear hi); (try clear ho0); have hcz32_0 : w31.cell? ⟨gb640, 0, none⟩ = some (.int .i64 a0_0) := (z13 BK640.out 0).trans rfl; have hcz32_1 : w31.cell? ⟨gb640, 1, none⟩ = some (.slice A0_1 l0_1.length c0_1) := (z13 BK640.out 1).trans rfl; have hcz32_2 : w31.cell? ⟨gb640, 2, none⟩ = some (.slice A0_2 l0_2.length c0_2) := (z13 BK640.out 2).trans rfl; have hfz32_0 := z14 BK640.out 0; have hfz32_1 := z14 BK640.out 1; have hfz32_2 := z14 BK640.out 2) | ((with_reducible refine z22 (f := 23) rfl ?_); refine goesL_ (some 39) rfl rfl Try.func23 (by kernel_rfl) rfl #[.agg #[.int .i64 a0_0, .slice A0_1 l0_1.length c0_1, .slice A0_2 l0_2.length c0_2]] rfl (by (try simp only [List.map_toArray, List.map_cons, List.map_nil]); first | done | rfl | (simp only [List.length_drop, List.length_take]; rfl)) ?_; (with_reducible refine (pl_Slate.calls k a0_0 _ _ l0_1 _ _ l0_2 t661 t662 t665 _ ?side1 ?side2 ?side3 ?side4 A11.out).mono ?_); (case side1 => repeat (first | exact (Kd.C_below HR0_1.out HB.out) | (with_reducible refine Kd.C_alloc ?_ _) | (with_reducible refine Kd.C_drewN ?_ _) | (with_reducible refine Kd.C_drew ?_))); (case side2 => exact HC0_1.out); (case side3 => repeat (first | exact (Kd.C_below HR0_2.out HB.out) | (with_reducible refine Kd.C_alloc ?_ _) | (with_reducible refine Kd.C_drewN ?_ _) | (with_reducible refine Kd.C_drew ?_))); (case side4 => exact HC0_2.out); rintro e w33 ⟨v663, v666, rfl, ho0, ho1, hb⟩; refine ⟨_, rfl, ?_⟩; have n0_ := mkA (Kd.R_below (by (with_reducible repeat (first | apply Kd.R_alloc | apply Kd.R_drewN | apply Kd.R_drew)); exact HO646.out) hb); have n1_ := mkA (Kd.R_elder' (by (with_reducible repeat (first | apply Kd.R_alloc | apply Kd.R_drewN | apply Kd.R_drew)); exact HO650.out) (Kd.R_base ho0) hb); have n2_ := mkA (Kd.R_elder' (by (with_reducible repeat (first | apply Kd.R_alloc | apply Kd.R_drewN | apply Kd.R_drew)); exact HO653.out) (Kd.R_base ho1) hb); have n3_ := mkA (Kd.R_below (by (with_reducible repeat (first | apply Kd.R_alloc | apply Kd.R_drewN | apply Kd.R_drew)); exact HO656.out) hb); have n4_ := mkA (Kd.R_below (by (with_reducible repeat (first | apply Kd.R_alloc | apply Kd.R_drewN | apply Kd.R_drew)); exact HO659.out) hb); have n5_ := mkA (Kd.R_lower (Kd.R_new' ho0 (Kd.R_lt (by (with_reducible repeat (first | apply Kd.R_alloc | apply Kd.R_drewN | apply Kd.R_drew)); exact HO650.out))) (z18 (by repeat (first | (with_reducible first | exact HB.out | apply z11 | apply z10 | apply z12 | refine z15 ?_ GE640.out) | exact HB.out)))); have n6_ := mkA (Kd.R_lower (Kd.R_new' ho1 (Kd.R_lt (by (with_reducible repeat (first | apply Kd.R_alloc | apply Kd.R_drewN | apply Kd.R_drew)); exact HO653.out))) (z18 (by repeat (first | (with_reducible first | exact HB.out | apply z11 | apply z10 | apply z12 | refine z15 ?_ GE640.out) | exact HB.out)))); have n7_ := mkA (blk_below (g := gb640) (o := .cells #[.int .i64 a0_0, .slice A0_1 l0_1.length c0_1, .slice A0_2 l0_2.length c0_2] 25 (0, 0)) (by (with_reducible repeat (first | refine z16 ?_ _ | refine z28 ?_ | refine z26 ?_ _)); exact BK640.out) hb); have n8_ := mkA (z17 (by repeat (first | (with_reducible first | exact HB.out | apply z11 | apply z10 | apply z12 | refine z15 ?_ GE640.out) | exact HB.out)) hb); clear HO646; clear HO650; clear HO653; clear HO656; clear HO659; clear BK640; clear HB; have HO646 := n0_; have HO650 := n1_; have HO653 := n2_; have HO656 := n3_; have HO659 := n4_; have HO664 := n5_; have HO667 := n6_; have BK640 := n7_; have HB := n8_; clear n0_ n1_ n2_ n3_ n4_ n5_ n6_ n7_ n8_; (try clear hb); (try clear hb2); (try clear hk); (try clear hi); (try clear ho0); (try clear ho1)) | ((with_reducible refine z22 (f := 30) rfl ?_); refine goesL_ (some 41) rfl rfl Try.func30 (by kernel_rfl) rfl #[.slice Ao26 t644.length co26] rfl (by (try simp only [List.map_toArray, List.map_cons, List.map_nil]); first | done | rfl | (simp only [List.length_drop, List.length_take]; rfl)) ?_; (with_reducible refine (pl_list.calls _ _ t644 t668 _ ?side1 ?side2 A12.out).mono ?_); (case side1 => repeat (first | exact (Kd.R_reads' HO646.out).2.2 | (with_reducible refine Kd.C_alloc ?_ _) | (with_reducible refine Kd.C_drewN ?_ _) | (with_reducible refine Kd.C_drew ?_))); (case side2 => exact (Kd.R_reads' HO646.out).2.1); rintro e w34 ⟨v669, rfl, ho0, hb⟩; refine ⟨_, rfl, ?_⟩; have n0_ := mkA (Kd.R_elder' (by (with_reducible repeat (first | apply Kd.R_alloc | apply Kd.R_drewN | apply Kd.R_drew)); exact HO646.out) (Kd.R_base ho0) hb); have n1_ := mkA (Kd.R_below (by (with_reducible repeat (first | apply Kd.R_alloc | apply Kd.R_drewN | apply Kd.R_drew)); exact HO650.out) hb); have n2_ := mkA (Kd.R_below (by (with_reducible repeat (first | apply Kd.R_alloc | apply Kd.R_drewN | apply Kd.R_drew)); exact HO653.out) hb); have n3_ := mkA (Kd.R_elder' (by (with_reducible repeat (first | apply Kd.R_alloc | apply Kd.R_drewN | apply Kd.R_drew)); exact HO656.out) (Kd.R_base ho0) hb); have n4_ := mkA (Kd.R_elder' (by (with_reducible repeat (first | apply Kd.R_alloc | apply Kd.R_drewN | apply Kd.R_drew)); exact HO659.out) (Kd.R_base ho0) hb); have n5_ := mkA (Kd.R_below (by (with_reducible repeat (first | apply Kd.R_alloc | apply Kd.R_drewN | apply Kd.R_drew)); exact HO664.out) hb); have n6_ := mkA (Kd.R_below (by (with_reducible repeat (first | apply Kd.R_alloc | apply Kd.R_drewN | apply Kd.R_drew)); exact HO667.out) hb); have n7_ := mkA (Kd.R_lower (Kd.R_new' (Kd.R_new' (Kd.R_new' ho0 (Kd.R_lt (by (with_reducible repeat (first | apply Kd.R_alloc | apply Kd.R_drewN | apply Kd.R_drew)); exact HO646.out))) (Kd.R_lt (by (with_reducible repeat (first | apply Kd.R_alloc | apply Kd.R_drewN | apply Kd.R_drew)); exact HO656.out))) (Kd.R_lt (by (with_reducible repeat (first | apply Kd.R_alloc | apply Kd.R_drewN | apply Kd.R_drew)); exact HO659.out))) (z18 (by repeat (first | (with_reducible first | exact HB.out | apply z11 | apply z10 | apply z12 | refine z15 ?_ GE640.out) | exact HB.out)))); have n8_ := mkA (blk_below (g := gb640) (o := .cells #[.int .i64 a0_0, .slice A0_1 l0_1.length c0_1, .slice A0_2 l0_2.length c0_2] 25 (0, 0)) (by (with_reducible repeat (first | refine z16 ?_ _ | refine z28 ?_ | refine z26 ?_ _)); exact BK640.out) hb); have n9_ := mkA (z17 (by repeat (first | (with_reducible first | exact HB.out | apply z11 | apply z10 | apply z12 | refine z15 ?_ GE640.out) | exact HB.out)) hb); clear HO646; clear HO650; clear HO653; clear HO656; clear HO659; clear HO664; clear HO667; clear BK640; clear HB; have HO646 := n0_; have HO650 := n1_; have HO653 := n2_; have HO656 := n3_; have HO659 := n4_; have HO664 := n5_; have HO667 := n6_; have HO670 := n7_; have BK640 := n8_; have HB := n9_; clear n0_ n1_ n2_ n3_ n4_ n5_ n6_ n7_ n8_ n9_; (try clear hb); (try clear hb2); (try clear hk); (try clear hi); (try clear ho0); obtain ⟨Ao35, co35, eo35⟩ := Kd.R_slice HO664.out; subst eo35; obtain ⟨Ao36, co36, eo36⟩ := Kd.R_slice HO667.out; subst eo36; obtain ⟨Ao37, co37, eo37⟩ := Kd.R_slice HO670.out; subst eo37) | ((with_reducible refine z22 (f := 29) rfl ?_); refine goesL_ (some 42) rfl rfl Try.func29 (by kernel_rfl) rfl #[.agg #[.int .i64 t661, .slice Ao35 t662.length co35, .slice Ao36 t665.length co36], .slice Ao37 t668.length co37] rfl (by (try simp only [List.map_toArray, List.map_cons, List.map_nil]); first | done | rfl | (simp only [List.length_drop, List.length_take]; rfl)) ?_; (with_reducible refine (soap_Groups.calls t661 _ _ t662 _ _ t665 _ _ t668 t671 t674 _ ?side1 ?side2 ?side3 ?side4 ?side5 ?side6 A13.out).mono ?_); (case side1 => repeat (first | exact (Kd.R_reads' HO664.out).2.2 | (with_reducible refine Kd.C_alloc ?_ _) | (with_reducible refine Kd.C_drewN ?_ _) | (with_reducible refine Kd.C_drew ?_))); (case side2 => exact (Kd.R_reads' HO664.out).2.1); (case side3 => repeat (first | exact (Kd.R_reads' HO667.out).2.2 | (with_reducible refine Kd.C_alloc ?_ _) | (with_reducible refine Kd.C_drewN ?_ _) | (with_reducible refine Kd.C_drew ?_))); (case side4 => exact (Kd.R_reads' HO667.out).2.1); (case side5 => repeat (first | exact (Kd.R_reads' HO670.out).2.2 | (with_reducible refine Kd.C_alloc ?_ _) | (with_reducible refine Kd.C_drewN ?_ _) | (with_reducible refine Kd.C_drew ?_))); (case side6 => exact (Kd.R_reads' HO670.out).2.1); rintro e w38 ⟨v672, rfl, ho0, hb⟩; refine ⟨_, rfl, ?_⟩; have n0_ := mkA (Kd.R_below (by (with_reducible repeat (first | apply Kd.R_alloc | apply Kd.R_drewN | apply Kd.R_drew)); exact HO646.out) hb); have n1_ := mkA (Kd.R_below (by (with_reducible repeat (first | apply Kd.R_alloc | apply Kd.R_drewN | apply Kd.R_drew)); exact HO650.out) hb); have n2_ := mkA (Kd.R_below (by (with_reducible repeat (first | apply Kd.R_alloc | apply Kd.R_drewN | apply Kd.R_drew)); exact HO653.out) hb); have n3_ := mkA (Kd.R_below (by (with_reducible repeat (first | apply Kd.R_alloc | apply Kd.R_drewN | apply Kd.R_drew)); exact HO656.out) hb); have n4_ := mkA (Kd.R_below (by (with_reducible repeat (first | apply Kd.R_alloc | apply Kd.R_drewN | apply Kd.R_drew)); exact HO659.out) hb); have n5_ := mkA (Kd.R_below (by (with_reducible repeat (first | apply Kd.R_alloc | apply Kd.R_drewN | apply Kd.R_drew)); exact HO664.out) hb); have n6_ := mkA (Kd.R_below (by (with_reducible repeat (first | apply Kd.R_alloc | apply Kd.R_drewN | apply Kd.R_drew)); exact HO667.out) hb); have n7_ := mkA (Kd.R_below (by (with_reducible repeat (first | apply Kd.R_alloc | apply Kd.R_drewN | apply Kd.R_drew)); exact HO670.out) hb); have n8_ := mkA (Kd.S_lower (Kd.S_new' (Kd.S_new' (Kd.S_new' (Kd.S_new' ho0 (Kd.R_lt (by (with_reducible repeat (first | apply Kd.R_alloc | apply Kd.R_drewN | apply Kd.R_drew)); exact HO646.out))) (Kd.R_lt (by (with_reducible repeat (first | apply Kd.R_alloc | apply Kd.R_drewN | apply Kd.R_drew)); exact HO656.out))) (Kd.R_lt (by (with_reducible repeat (first | apply Kd.R_alloc | apply Kd.R_drewN | apply Kd.R_drew)); exact HO659.out))) (Kd.R_lt (by (with_reducible repeat (first | apply Kd.R_alloc | apply Kd.R_drewN | apply Kd.R_drew)); exact HO670.out))) (z18 (by repeat (first | (with_reducible first | exact HB.out | apply z11 | apply z10 | apply z12 | refine z15 ?_ GE640.out) | exact HB.out)))); have n9_ := mkA (blk_below (g := gb640) (o := .cells #[.int .i64 a0_0, .slice A0_1 l0_1.length c0_1, .slice A0_2 l0_2.length c0_2] 25 (0, 0)) (by (with_reducible repeat (first | refine z16 ?_ _ | refine z28 ?_ | refine z26 ?_ _)); exact BK640.out) hb); have n10_ := mkA (z17 (by repeat (first | (with_reducible first | exact HB.out | apply z11 | apply z10 | apply z12 | refine z15 ?_ GE640.out) | exact HB.out)) hb); clear HO646; clear HO650; clear HO653; clear HO656; clear HO659; clear HO664; clear HO667; clear HO670; clear BK640; clear HB; have HO646 := n0_; have HO650 := n1_; have HO653 := n2_; have HO656 := n3_; have HO659 := n4_; have HO664 := n5_; have HO667 := n6_; have HO670 := n7_; have HO673 := n8_; have BK640 := n9_; have HB := n10_; clear n0_ n1_ n2_ n3_ n4_ n5_ n6_ n7_ n8_ n9_ n10_; (try clear hb); (try clear hb2); (try clear hk); (try clear hi); (try clear ho0); have hcz39_0 : w38.cell? ⟨gb640, 0, none⟩ = some (.int .i64 a0_0) := (z13 BK640.out 0).trans rfl; have hcz39_1 : w38.cell? ⟨gb640, 1, none⟩ = some (.slice A0_1 l0_1.length c0_1) := (z13 BK640.out 1).trans rfl; have hcz39_2 : w38.cell? ⟨gb640, 2, none⟩ = some (.slice A0_2 l0_2.length c0_2) := (z13 BK640.out 2).trans rfl; have hfz39_0 := z14 BK640.out 0; have hfz39_1 := z14 BK640.out 1; have hfz39_2 := z14 BK640.out 2) | ((with_reducible refine z22 (f := 23) rfl ?_); refine goesL_ (some 47) rfl rfl Try.func23 (by kernel_rfl) rfl #[.agg #[.int .i64 a0_0, .slice A0_1 l0_1.length c0_1, .slice A0_2 l0_2.length c0_2]] rfl (by (try simp only [List.map_toArray, List.map_cons, List.map_nil]); first | done | rfl | (simp only [List.length_drop, List.length_take]; rfl)) ?_; (with_reducible refine (pl_Slate.calls k a0_0 _ _ l0_1 _ _ l0_2 t675 t676 t679 _ ?side1 ?side2 ?side3 ?side4 A14.out).mono ?_); (case side1 => repeat (first | exact (Kd.C_below HR0_1.out HB.out) | (with_reducible refine Kd.C_alloc ?_ _) | (with_reducible refine Kd.C_drewN ?_ _) | (with_reducible refine Kd.C_drew ?_))); (case side2 => exact HC0_1.out); (case side3 => repeat (first | exact (Kd.C_below HR0_2.out HB.out) | (with_reducible refine Kd.C_alloc ?_ _) | (with_reducible refine Kd.C_drewN ?_ _) | (with_reducible refine Kd.C_drew ?_))); (case side4 => exact HC0_2.out); rintro e w40 ⟨v677, v680, rfl, ho0, ho1, hb⟩; refine ⟨_, rfl, ?_⟩; have n0_ := mkA (Kd.R_below (by (with_reducible repeat (first | apply Kd.R_alloc | apply Kd.R_drewN | apply Kd.R_drew)); exact HO646.out) hb); have n1_ := mkA (Kd.R_elder' (by (with_reducible repeat (first | apply Kd.R_alloc | apply Kd.R_drewN | apply Kd.R_drew)); exact HO650.out) (Kd.R_base ho0) hb); have n2_ := mkA (Kd.R_elder' (by (with_reducible repeat (first | apply Kd.R_alloc | apply Kd.R_drewN | apply Kd.R_drew)); exact HO653.out) (Kd.R_base ho1) hb); have n3_ := mkA (Kd.R_below (by (with_reducible repeat (first | apply Kd.R_alloc | apply Kd.R_drewN | apply Kd.R_drew)); exact HO656.out) hb); have n4_ := mkA (Kd.R_below (by (with_reducible repeat (first | apply Kd.R_alloc | apply Kd.R_drewN | apply Kd.R_drew)); exact HO659.out) hb); have n5_ := mkA (Kd.R_elder' (by (with_reducible repeat (first | apply Kd.R_alloc | apply Kd.R_drewN | apply Kd.R_drew)); exact HO664.out) (Kd.R_base ho0) hb); have n6_ := mkA (Kd.R_elder' (by (with_reducible repeat (first | apply Kd.R_alloc | apply Kd.R_drewN | apply Kd.R_drew)); exact HO667.out) (Kd.R_base ho1) hb); have n7_ := mkA (Kd.R_below (by (with_reducible repeat (first | apply Kd.R_alloc | apply Kd.R_drewN | apply Kd.R_drew)); exact HO670.out) hb); have n8_ := mkA (Kd.S_below (by (with_reducible repeat (first | apply Kd.S_alloc | apply Kd.S_drewN | apply Kd.S_drew)); exact HO673.out) hb); have n9_ := mkA (Kd.R_lower (Kd.R_new' (Kd.R_new' ho0 (Kd.R_lt (by (with_reducible repeat (first | apply Kd.R_alloc | apply Kd.R_drewN | apply Kd.R_drew)); exact HO650.out))) (Kd.R_lt (by (with_reducible repeat (first | apply Kd.R_alloc | apply Kd.R_drewN | apply Kd.R_drew)); exact HO664.out))) (z18 (by repeat (first | (with_reducible first | exact HB.out | apply z11 | apply z10 | apply z12 | refine z15 ?_ GE640.out) | exact HB.out)))); have n10_ := mkA (Kd.R_lower (Kd.R_new' (Kd.R_new' ho1 (Kd.R_lt (by (with_reducible repeat (first | apply Kd.R_alloc | apply Kd.R_drewN | apply Kd.R_drew)); exact HO653.out))) (Kd.R_lt (by (with_reducible repeat (first | apply Kd.R_alloc | apply Kd.R_drewN | apply Kd.R_drew)); exact HO667.out))) (z18 (by repeat (first | (with_reducible first | exact HB.out | apply z11 | apply z10 | apply z12 | refine z15 ?_ GE640.out) | exact HB.out)))); have n11_ := mkA (blk_below (g := gb640) (o := .cells #[.int .i64 a0_0, .slice A0_1 l0_1.length c0_1, .slice A0_2 l0_2.length c0_2] 25 (0, 0)) (by (with_reducible repeat (first | refine z16 ?_ _ | refine z28 ?_ | refine z26 ?_ _)); exact BK640.out) hb); have n12_ := mkA (z17 (by repeat (first | (with_reducible first | exact HB.out | apply z11 | apply z10 | apply z12 | refine z15 ?_ GE640.out) | exact HB.out)) hb); clear HO646; clear HO650; clear HO653; clear HO656; clear HO659; clear HO664; clear HO667; clear HO670; clear HO673; clear BK640; clear HB; have HO646 := n0_; have HO650 := n1_; have HO653 := n2_; have HO656 := n3_; have HO659 := n4_; have HO664 := n5_; have HO667 := n6_; have HO670 := n7_; have HO673 := n8_; have HO678 := n9_; have HO681 := n10_; have BK640 := n11_; have HB := n12_; clear n0_ n1_ n2_ n3_ n4_ n5_ n6_ n7_ n8_ n9_ n10_ n11_ n12_; (try clear hb); (try clear hb2); (try clear hk); (try clear hi); (try clear ho0); (try clear ho1)) | ((with_reducible refine z22 (f := 30) rfl ?_); refine goesL_ (some 49) rfl rfl Try.func30 (by kernel_rfl) rfl #[.slice Ao26 t644.length co26] rfl (by (try simp only [List.map_toArray, List.map_cons, List.map_nil]); first | done | rfl | (simp only [List.length_drop, List.length_take]; rfl)) ?_; (with_reducible refine (pl_list.calls _ _ t644 t682 _ ?side1 ?side2 A15.out).mono ?_); (case side1 => repeat (first | exact (Kd.R_reads' HO646.out).2.2 | (with_reducible refine Kd.C_alloc ?_ _) | (with_reducible refine Kd.C_drewN ?_ _) | (with_reducible refine Kd.C_drew ?_))); (case side2 => exact (Kd.R_reads' HO646.out).2.1); rintro e w41 ⟨v683, rfl, ho0, hb⟩; refine ⟨_, rfl, ?_⟩; have n0_ := mkA (Kd.R_elder' (by (with_reducible repeat (first | apply Kd.R_alloc | apply Kd.R_drewN | apply Kd.R_drew)); exact HO646.out) (Kd.R_base ho0) hb); have n1_ := mkA (Kd.R_below (by (with_reducible repeat (first | apply Kd.R_alloc | apply Kd.R_drewN | apply Kd.R_drew)); exact HO650.out) hb); have n2_ := mkA (Kd.R_below (by (with_reducible repeat (first | apply Kd.R_alloc | apply Kd.R_drewN | apply Kd.R_drew)); exact HO653.out) hb); have n3_ := mkA (Kd.R_elder' (by (with_reducible repeat (first | apply Kd.R_alloc | apply Kd.R_drewN | apply Kd.R_drew)); exact HO656.out) (Kd.R_base ho0) hb); have n4_ := mkA (Kd.R_elder' (by (with_reducible repeat (first | apply Kd.R_alloc | apply Kd.R_drewN | apply Kd.R_drew)); exact HO659.out) (Kd.R_base ho0) hb); have n5_ := mkA (Kd.R_below (by (with_reducible repeat (first | apply Kd.R_alloc | apply Kd.R_drewN | apply Kd.R_drew)); exact HO664.out) hb); have n6_ := mkA (Kd.R_below (by (with_reducible repeat (first | apply Kd.R_alloc | apply Kd.R_drewN | apply Kd.R_drew)); exact HO667.out) hb); have n7_ := mkA (Kd.R_elder' (by (with_reducible repeat (first | apply Kd.R_alloc | apply Kd.R_drewN | apply Kd.R_drew)); exact HO670.out) (Kd.R_base ho0) hb); have n8_ := mkA (Kd.S_elder' (by (with_reducible repeat (first | apply Kd.S_alloc | apply Kd.S_drewN | apply Kd.S_drew)); exact HO673.out) (Kd.R_base ho0) hb); have n9_ := mkA (Kd.R_below (by (with_reducible repeat (first | apply Kd.R_alloc | apply Kd.R_drewN | apply Kd.R_drew)); exact HO678.out) hb); have n10_ := mkA (Kd.R_below (by (with_reducible repeat (first | apply Kd.R_alloc | apply Kd.R_drewN | apply Kd.R_drew)); exact HO681.out) hb); have n11_ := mkA (Kd.R_lower (Kd.R_new' (Kd.R_new' (Kd.R_new' (Kd.R_new' ho0 (Kd.R_lt (by (with_reducible repeat (first | apply Kd.R_alloc | apply Kd.R_drewN | apply Kd.R_drew)); exact HO646.out))) (Kd.R_lt (by (with_reducible repeat (first | apply Kd.R_alloc | apply Kd.R_drewN | apply Kd.R_drew)); exact HO656.out))) (Kd.R_lt (by (with_reducible repeat (first | apply Kd.R_alloc | apply Kd.R_drewN | apply Kd.R_drew)); exact HO659.out))) (Kd.R_lt (by (with_reducible repeat (first | apply Kd.R_alloc | apply Kd.R_drewN | apply Kd.R_drew)); exact HO670.out))) (z18 (by repeat (first | (with_reducible first | exact HB.out | apply z11 | apply z10 | apply z12 | refine z15 ?_ GE640.out) | exact HB.out)))); have n12_ := mkA (blk_below (g := gb640) (o := .cells #[.int .i64 a0_0, .slice A0_1 l0_1.length c0_1, .slice A0_2 l0_2.length c0_2] 25 (0, 0)) (by (with_reducible repeat (first | refine z16 ?_ _ | refine z28 ?_ | refine z26 ?_ _)); exact BK640.out) hb); have n13_ := mkA (z17 (by repeat (first | (with_reducible first | exact HB.out | apply z11 | apply z10 | apply z12 | refine z15 ?_ GE640.out) | exact HB.out)) hb); clear HO646; clear HO650; clear HO653; clear HO656; clear HO659; clear HO664; clear HO667; clear HO670; clear HO673; clear HO678; clear HO681; clear BK640; clear HB; have HO646 := n0_; have HO650 := n1_; have HO653 := n2_; have HO656 := n3_; have HO659 := n4_; have HO664 := n5_; have HO667 := n6_; have HO670 := n7_; have HO673 := n8_; have HO678 := n9_; have HO681 := n10_; have HO684 := n11_; have BK640 := n12_; have HB := n13_; clear n0_ n1_ n2_ n3_ n4_ n5_ n6_ n7_ n8_ n9_ n10_ n11_ n12_ n13_; (try clear hb); (try clear hb2); (try clear hk); (try clear hi); (try clear ho0); obtain ⟨Ao42, co42, eo42⟩ := Kd.R_slice HO678.out; subst eo42; obtain ⟨Ao43, co43, eo43⟩ := Kd.R_slice HO681.out; subst eo43; obtain ⟨Ao44, co44, eo44⟩ := Kd.R_slice HO684.out; subst eo44) | ((with_reducible refine z22 (f := 49) rfl ?_); refine goesL_ (some 50) rfl rfl Try.func49 (by kernel_rfl) rfl #[.agg #[.int .i64 t675, .slice Ao42 t676.length co42, .slice Ao43 t679.length co43], .slice Ao44 t682.length co44] rfl (by (try simp only [List.map_toArray, List.map_cons, List.map_nil]); first | done | rfl | (simp only [List.length_drop, List.length_take]; rfl)) ?_; (with_reducible refine (soap_Settle.calls t675 _ _ t676 _ _ t679 _ _ t682 t685 t688 _ ?side1 ?side2 ?side3 ?side4 ?side5 ?side6 A16.out).mono ?_); (case side1 => repeat (first | exact (Kd.R_reads' HO678.out).2.2 | (with_reducible refine Kd.C_alloc ?_ _) | (with_reducible refine Kd.C_drewN ?_ _) | (with_reducible refine Kd.C_drew ?_))); (case side2 => exact (Kd.R_reads' HO678.out).2.1); (case side3 => repeat (first | exact (Kd.R_reads' HO681.out).2.2 | (with_reducible refine Kd.C_alloc ?_ _) | (with_reducible refine Kd.C_drewN ?_ _) | (with_reducible refine Kd.C_drew ?_))); (case side4 => exact (Kd.R_reads' HO681.out).2.1); (case side5 => repeat (first | exact (Kd.R_reads' HO684.out).2.2 | (with_reducible refine Kd.C_alloc ?_ _) | (with_reducible refine Kd.C_drewN ?_ _) | (with_reducible refine Kd.C_drew ?_))); (case side6 => exact (Kd.R_reads' HO684.out).2.1); rintro e w45 ⟨v686, rfl, ho0, hb⟩; refine ⟨_, rfl, ?_⟩; have n0_ := mkA (Kd.R_below (by (with_reducible repeat (first | apply Kd.R_alloc | apply Kd.R_drewN | apply Kd.R_drew)); exact HO646.out) hb); have n1_ := mkA (Kd.R_below (by (with_reducible repeat (first | apply Kd.R_alloc | apply Kd.R_drewN | apply Kd.R_drew)); exact HO650.out) hb); have n2_ := mkA (Kd.R_below (by (with_reducible repeat (first | apply Kd.R_alloc | apply Kd.R_drewN | apply Kd.R_drew)); exact HO653.out) hb); have n3_ := mkA (Kd.R_below (by (with_reducible repeat (first | apply Kd.R_alloc | apply Kd.R_drewN | apply Kd.R_drew)); exact HO656.out) hb); have n4_ := mkA (Kd.R_below (by (with_reducible repeat (first | apply Kd.R_alloc | apply Kd.R_drewN | apply Kd.R_drew)); exact HO659.out) hb); have n5_ := mkA (Kd.R_below (by (with_reducible repeat (first | apply Kd.R_alloc | apply Kd.R_drewN | apply Kd.R_drew)); exact HO664.out) hb); have n6_ := mkA (Kd.R_below (by (with_reducible repeat (first | apply Kd.R_alloc | apply Kd.R_drewN | apply Kd.R_drew)); exact HO667.out) hb); have n7_ := mkA (Kd.R_below (by (with_reducible repeat (first | apply Kd.R_alloc | apply Kd.R_drewN | apply Kd.R_drew)); exact HO670.out) hb); have n8_ := mkA (Kd.S_below (by (with_reducible repeat (first | apply Kd.S_alloc | apply Kd.S_drewN | apply Kd.S_drew)); exact HO673.out) hb); have n9_ := mkA (Kd.R_below (by (with_reducible repeat (first | apply Kd.R_alloc | apply Kd.R_drewN | apply Kd.R_drew)); exact HO678.out) hb); have n10_ := mkA (Kd.R_below (by (with_reducible repeat (first | apply Kd.R_alloc | apply Kd.R_drewN | apply Kd.R_drew)); exact HO681.out) hb); have n11_ := mkA (Kd.R_below (by (with_reducible repeat (first | apply Kd.R_alloc | apply Kd.R_drewN | apply Kd.R_drew)); exact HO684.out) hb); have n12_ := mkA (Kd.R_lower ho0 (z18 (by repeat (first | (with_reducible first | exact HB.out | apply z11 | apply z10 | apply z12 | refine z15 ?_ GE640.out) | exact HB.out)))); have n13_ := mkA (blk_below (g := gb640) (o := .cells #[.int .i64 a0_0, .slice A0_1 l0_1.length c0_1, .slice A0_2 l0_2.length c0_2] 25 (0, 0)) (by (with_reducible repeat (first | refine z16 ?_ _ | refine z28 ?_ | refine z26 ?_ _)); exact BK640.out) hb); have n14_ := mkA (z17 (by repeat (first | (with_reducible first | exact HB.out | apply z11 | apply z10 | apply z12 | refine z15 ?_ GE640.out) | exact HB.out)) hb); clear HO646; clear HO650; clear HO653; clear HO656; clear HO659; clear HO664; clear HO667; clear HO670; clear HO673; clear HO678; clear HO681; clear HO684; clear BK640; clear HB; have HO646 := n0_; have HO650 := n1_; have HO653 := n2_; have HO656 := n3_; have HO659 := n4_; have HO664 := n5_; have HO667 := n6_; have HO670 := n7_; have HO673 := n8_; have HO678 := n9_; have HO681 := n10_; have HO684 := n11_; have HO687 := n12_; have BK640 := n13_; have HB := n14_; clear n0_ n1_ n2_ n3_ n4_ n5_ n6_ n7_ n8_ n9_ n10_ n11_ n12_ n13_ n14_; (try clear hb); (try clear hb2); (try clear hk); (try clear hi); (try clear ho0)))
   (try simp only [Act.put, xq1, xq2, xq3])
   go_cut [74] (fun v74 wc => ∃ (kq : Nat) (x74_16 : Bool), v74 = .bool x74_16 ∧ Aside0 (pl_SoapApart.j0 kq t657 t671 t685 x74_16 a0_0 l0_1 l0_2 = some r) ∧ Aside0 (kq ≤ k) ∧ Aside0 (Kd.R (Kd.int .i64) 3 wc w.heap.size (fun _ => True) v658 t657) ∧ Aside0 (Kd.S (Kd.slice 3 (Kd.int .i64)) 37 wc w.heap.size (fun k_ => some k_ ≠ (v658 : Value).ownBlock) v672 t671) ∧ Aside0 (Kd.R k76 76 wc w.heap.size (fun _ => True) v686 t685) ∧ Aside0 (wc.heap[gb640]? = some (.cells #[.int .i64 a0_0, (.slice A0_1 l0_1.length c0_1), (.slice A0_2 l0_2.length c0_2)] 25 (0, 0))) ∧ Aside0 (Below w.heap.size w wc))
   case first =>
    have H := HC17.out
    clear HC17
    by_cases c46 : t660 = 0
    ·rw [if_pos c46] at H
     have c46b0 : (t660 == 0) = true := beq_iff_eq.mpr c46
     have c46b1 : (t660 != 0) = false := bne_eq_false_iff_eq.mpr c46
     clear c46
     (first | rw [c46b0] | (simp only [i64_w, i32_w]; rw [c46b0]) | skip)
     by_cases c47 : t674 = 0
     ·rw [if_pos c47] at H
      have c47b0 : (t674 == 0) = true := beq_iff_eq.mpr c47
      have c47b1 : (t674 != 0) = false := bne_eq_false_iff_eq.mpr c47
      clear c47
      by_cases c48 : t688 = 0
      ·rw [if_pos c48] at H
       have c48b0 : (t688 == 0) = true := beq_iff_eq.mpr c48
       have c48b1 : (t688 != 0) = false := bne_eq_false_iff_eq.mpr c48
       clear c48
       by_cases c49 : (t657.length : Int) = a0_0
       ·rw [if_pos c49] at H
        have c49b0 : ((t657.length : Int) == a0_0) = true := beq_iff_eq.mpr c49
        have c49b1 : ((t657.length : Int) != a0_0) = false := bne_eq_false_iff_eq.mpr c49
        clear c49
        replace H := Option.bind_eq_some_iff.mp H
        obtain ⟨t689, A500, H⟩ := H
        replace H : (pl_SoapApart.j0 k t657 t671 t685 (!t689) a0_0 l0_1 l0_2) = some r := H
        have A50 := mkA A500
        clear A500
        have H' := mkA H
        clear H
        obtain ⟨Ao51, co51, eo51⟩ := Kd.R_slice HO659.out
        subst eo51
        have hcz52_0 : w45.cell? ⟨gb640, 0, none⟩ = some (.int .i64 a0_0) := (z13 BK640.out 0).trans rfl
        have hcz52_1 : w45.cell? ⟨gb640, 1, none⟩ = some (.slice A0_1 l0_1.length c0_1) := (z13 BK640.out 1).trans rfl
        have hcz52_2 : w45.cell? ⟨gb640, 2, none⟩ = some (.slice A0_2 l0_2.length c0_2) := (z13 BK640.out 2).trans rfl
        have hfz52_0 := z14 BK640.out 0
        have hfz52_1 := z14 BK640.out 1
        have hfz52_2 := z14 BK640.out 2
        obtain ⟨Ao53, co53, eo53⟩ := Kd.S_slice HO673.out
        subst eo53
        go_wp2_with (first | (go_at_call 35; (with_reducible refine (pl_small.calls k _ _ t671 t689 _ ?side1 ?side2 A50.out).mono ?_); (case side1 => repeat (first | exact (Kd.S_reads' HO673.out).2.2 | (with_reducible refine Kd.C_alloc ?_ _) | (with_reducible refine Kd.C_drewN ?_ _) | (with_reducible refine Kd.C_drew ?_))); (case side2 => exact (Kd.S_reads' HO673.out).2.1); rintro e w' ⟨rfl, ⟨nd, rfl⟩⟩))
        go_meet
        case rel => exact ⟨_, (!t689), (by first | rfl | (simp; done) | (simp [*]; done)), H', ⟨by first | omega | exact Nat.le_refl _⟩, ⟨by (with_reducible repeat (first | apply Kd.R_alloc | apply Kd.R_drewN | apply Kd.R_drew)); exact Kd.R_mono HO659.out (fun _ hk => trivial)⟩, ⟨by (with_reducible repeat (first | apply Kd.S_alloc | apply Kd.S_drewN | apply Kd.S_drew)); exact Kd.S_mono HO673.out (fun _ hk => hk.1.1.2)⟩, ⟨by (with_reducible repeat (first | apply Kd.R_alloc | apply Kd.R_drewN | apply Kd.R_drew)); exact HO687.out⟩, ⟨by (with_reducible repeat (first | refine z16 ?_ _ | refine z28 ?_ | refine z26 ?_ _)); exact BK640.out⟩, ⟨by repeat (first | (with_reducible first | exact HB.out | apply z11 | apply z10 | apply z12 | refine z15 ?_ GE640.out) | exact HB.out)⟩⟩
       ·rw [if_neg c49] at H
        have c49b0 : ((t657.length : Int) == a0_0) = false := beq_eq_false_iff_ne.mpr c49
        have c49b1 : ((t657.length : Int) != a0_0) = true := bne_iff_ne.mpr c49
        have H' := mkA H
        clear H
        obtain ⟨Ao54, co54, eo54⟩ := Kd.R_slice HO659.out
        subst eo54
        have hcz55_0 : w45.cell? ⟨gb640, 0, none⟩ = some (.int .i64 a0_0) := (z13 BK640.out 0).trans rfl
        have hcz55_1 : w45.cell? ⟨gb640, 1, none⟩ = some (.slice A0_1 l0_1.length c0_1) := (z13 BK640.out 1).trans rfl
        have hcz55_2 : w45.cell? ⟨gb640, 2, none⟩ = some (.slice A0_2 l0_2.length c0_2) := (z13 BK640.out 2).trans rfl
        have hfz55_0 := z14 BK640.out 0
        have hfz55_1 := z14 BK640.out 1
        have hfz55_2 := z14 BK640.out 2
        go_wp2
        go_meet
        case rel => exact ⟨_, (true), (by first | rfl | (simp; done) | (simp [*]; done)), H', ⟨by first | omega | exact Nat.le_refl _⟩, ⟨by (with_reducible repeat (first | apply Kd.R_alloc | apply Kd.R_drewN | apply Kd.R_drew)); exact Kd.R_mono HO659.out (fun _ hk => trivial)⟩, ⟨by (with_reducible repeat (first | apply Kd.S_alloc | apply Kd.S_drewN | apply Kd.S_drew)); exact Kd.S_mono HO673.out (fun _ hk => hk.1.1.2)⟩, ⟨by (with_reducible repeat (first | apply Kd.R_alloc | apply Kd.R_drewN | apply Kd.R_drew)); exact HO687.out⟩, ⟨by (with_reducible repeat (first | refine z16 ?_ _ | refine z28 ?_ | refine z26 ?_ _)); exact BK640.out⟩, ⟨by repeat (first | (with_reducible first | exact HB.out | apply z11 | apply z10 | apply z12 | refine z15 ?_ GE640.out) | exact HB.out)⟩⟩
      ·rw [if_neg c48] at H
       have c48b0 : (t688 == 0) = false := beq_eq_false_iff_ne.mpr c48
       have c48b1 : (t688 != 0) = true := bne_iff_ne.mpr c48
       have H' := mkA H
       clear H
       go_wp2
       go_meet
       case rel => exact ⟨_, (true), (by first | rfl | (simp; done) | (simp [*]; done)), H', ⟨by first | omega | exact Nat.le_refl _⟩, ⟨by (with_reducible repeat (first | apply Kd.R_alloc | apply Kd.R_drewN | apply Kd.R_drew)); exact Kd.R_mono HO659.out (fun _ hk => trivial)⟩, ⟨by (with_reducible repeat (first | apply Kd.S_alloc | apply Kd.S_drewN | apply Kd.S_drew)); exact Kd.S_mono HO673.out (fun _ hk => hk.1.1.2)⟩, ⟨by (with_reducible repeat (first | apply Kd.R_alloc | apply Kd.R_drewN | apply Kd.R_drew)); exact HO687.out⟩, ⟨by (with_reducible repeat (first | refine z16 ?_ _ | refine z28 ?_ | refine z26 ?_ _)); exact BK640.out⟩, ⟨by repeat (first | (with_reducible first | exact HB.out | apply z11 | apply z10 | apply z12 | refine z15 ?_ GE640.out) | exact HB.out)⟩⟩
     ·rw [if_neg c47] at H
      have c47b0 : (t674 == 0) = false := beq_eq_false_iff_ne.mpr c47
      have c47b1 : (t674 != 0) = true := bne_iff_ne.mpr c47
      have H' := mkA H
      clear H
      go_wp2
      go_meet
      case rel => exact ⟨_, (true), (by first | rfl | (simp; done) | (simp [*]; done)), H', ⟨by first | omega | exact Nat.le_refl _⟩, ⟨by (with_reducible repeat (first | apply Kd.R_alloc | apply Kd.R_drewN | apply Kd.R_drew)); exact Kd.R_mono HO659.out (fun _ hk => trivial)⟩, ⟨by (with_reducible repeat (first | apply Kd.S_alloc | apply Kd.S_drewN | apply Kd.S_drew)); exact Kd.S_mono HO673.out (fun _ hk => hk.1.1.2)⟩, ⟨by (with_reducible repeat (first | apply Kd.R_alloc | apply Kd.R_drewN | apply Kd.R_drew)); exact HO687.out⟩, ⟨by (with_reducible repeat (first | refine z16 ?_ _ | refine z28 ?_ | refine z26 ?_ _)); exact BK640.out⟩, ⟨by repeat (first | (with_reducible first | exact HB.out | apply z11 | apply z10 | apply z12 | refine z15 ?_ GE640.out) | exact HB.out)⟩⟩
    ·rw [if_neg c46] at H
     have c46b0 : (t660 == 0) = false := beq_eq_false_iff_ne.mpr c46
     have c46b1 : (t660 != 0) = true := bne_iff_ne.mpr c46
     (first | rw [c46b0] | (simp only [i64_w, i32_w]; rw [c46b0]) | skip)
     have H' := mkA H
     clear H
     go_wp2
     go_meet
     case rel => exact ⟨_, (true), (by first | rfl | (simp; done) | (simp [*]; done)), H', ⟨by first | omega | exact Nat.le_refl _⟩, ⟨by (with_reducible repeat (first | apply Kd.R_alloc | apply Kd.R_drewN | apply Kd.R_drew)); exact Kd.R_mono HO659.out (fun _ hk => trivial)⟩, ⟨by (with_reducible repeat (first | apply Kd.S_alloc | apply Kd.S_drewN | apply Kd.S_drew)); exact Kd.S_mono HO673.out (fun _ hk => hk.1.1.2)⟩, ⟨by (with_reducible repeat (first | apply Kd.R_alloc | apply Kd.R_drewN | apply Kd.R_drew)); exact HO687.out⟩, ⟨by (with_reducible repeat (first | refine z16 ?_ _ | refine z28 ?_ | refine z26 ?_ _)); exact BK640.out⟩, ⟨by repeat (first | (with_reducible first | exact HB.out | apply z11 | apply z10 | apply z12 | refine z15 ?_ GE640.out) | exact HB.out)⟩⟩
   case rest =>
    clear HC17
    try clear c1
    try clear c2
    try clear p2
    try clear c3
    try clear c4
    try clear c6
    try clear c6b0
    try clear c6b1
    try clear p6
    try clear c10
    try clear c23
    try clear c29
    try clear c30
    try clear c45
    try clear c46
    try clear c46b0
    try clear c46b1
    try clear c47
    try clear c47b0
    try clear c47b1
    try clear c48
    try clear c48b0
    try clear c48b1
    try clear c49
    try clear c49b0
    try clear c49b1
    try clear hcz19_0
    try clear hcz19_1
    try clear hcz19_2
    try clear hcz24_0
    try clear hcz24_1
    try clear hcz24_2
    try clear hcz32_0
    try clear hcz32_1
    try clear hcz32_2
    try clear hcz39_0
    try clear hcz39_1
    try clear hcz39_2
    try clear hcz52_0
    try clear hcz52_1
    try clear hcz52_2
    try clear hcz55_0
    try clear hcz55_1
    try clear hcz55_2
    try clear hfz19_0
    try clear hfz19_1
    try clear hfz19_2
    try clear hfz24_0
    try clear hfz24_1
    try clear hfz24_2
    try clear hfz32_0
    try clear hfz32_1
    try clear hfz32_2
    try clear hfz39_0
    try clear hfz39_1
    try clear hfz39_2
    try clear hfz52_0
    try clear hfz52_1
    try clear hfz52_2
    try clear hfz55_0
    try clear hfz55_1
    try clear hfz55_2
    obtain ⟨kq, x74_16, rfl, HA, HJ16, HO_6, HO_8, HO_10, BK640, HB⟩ := hcut
    cases kq with
    | zero => exact absurd HA.out (by simp [pl_SoapApart.j0])
    | succ kj16 =>
     have H := HA.out
     clear HA
     simp only [pl_SoapApart.j0] at H
     by_cases c56 : x74_16 = true
     ·subst c56
      have H1 : (some false) = some r := by rw [if_pos rfl] at H; exact H
      clear H
      have H := H1
      clear H1
      obtain rfl := Option.some.inj H
      go_wp2
      go_ret
      exact ⟨by first | rfl | (simp [z20, z19] <;> rfl) | (simp [*, z20, z19] <;> rfl), by repeat (first | (with_reducible first | exact HB.out | apply z11 | apply z10 | apply z12 | refine z15 ?_ GE640.out) | exact HB.out)⟩
     ·replace c56 := Bool.eq_false_iff.mpr c56
      subst c56
      have H1 : (if 0 ≤ a0_0 then (if (a0_0 : Int).toNat ≤ 281474976710656 then (pl_SoapApart.l0 kj16 t657 t671 t685 (List.replicate (a0_0 : Int).toNat false) 0 a0_0 l0_1 l0_2) else (none)) else (none)) = some r := by rw [if_neg (show ¬ (false = true) by decide)] at H; exact H
      clear H
      have H := H1
      clear H1
      by_cases c57 : 0 ≤ a0_0
      ·rw [if_pos c57] at H
       have c57b0 := eq_true c57
       have c57b1 : decide (0 ≤ a0_0) = true := decide_eq_true c57
       clear c57
       by_cases c58 : (a0_0 : Int).toNat ≤ 281474976710656
       ·rw [if_pos c58] at H
        have c58b0 := eq_true c58
        have c58b1 : decide ((a0_0 : Int).toNat ≤ 281474976710656) = true := decide_eq_true c58
        clear c58
        obtain ⟨y690, hy690⟩ : ∃ y_ : List Bool, y_ = (List.replicate (a0_0 : Int).toNat false) := ⟨_, rfl⟩
        replace H : (pl_SoapApart.l0 kj16 t657 t671 t685 y690 0 a0_0 l0_1 l0_2) = some r := by first | (rw [hy690]; with_reducible exact H) | (have H2_ := (Option.bind_some _ _).symm.trans H; rw [hy690]; with_reducible exact H2_) | (have H2_ := (Option.bind_some _ _).symm.trans H; with_reducible exact H2_) | with_reducible exact H | (rw [hy690]; exact H) | exact H
        have Ny690 := mkA hy690
        clear hy690
        have H' := mkA H
        clear H
        have hcz59_0 : wc.cell? ⟨gb640, 0, none⟩ = some (.int .i64 a0_0) := (z13 BK640.out 0).trans rfl
        have hcz59_1 : wc.cell? ⟨gb640, 1, none⟩ = some (.slice A0_1 l0_1.length c0_1) := (z13 BK640.out 1).trans rfl
        have hcz59_2 : wc.cell? ⟨gb640, 2, none⟩ = some (.slice A0_2 l0_2.length c0_2) := (z13 BK640.out 2).trans rfl
        have hfz59_0 := z14 BK640.out 0
        have hfz59_1 := z14 BK640.out 1
        have hfz59_2 := z14 BK640.out 2
        go_wp2_with (first | ((with_reducible refine z25 (N := 77) rfl ?_); (try (refine z34 (by rfl) ?_; dsimp only)); refine Kd.R_make Kd.bool _ 4 rfl (N := 77) rfl 88 _ _ rfl a0_0 rfl rfl Try.underlying88 (.bool false) 1 info4 rfl (by decide) (by omega) false (ok := fun _ => True) (okp := fun _ => True) rfl (fun _ hk => hk) trivial (of_decide_eq_true (by first | (with_reducible assumption) | assumption)) (Nat.le_trans (Nat.mul_le_mul_right _ (of_decide_eq_true (by first | (with_reducible assumption) | assumption) : a0_0.toNat ≤ 281474976710656)) (by omega)) (Below.refl _ _) (Nat.le_refl _) ?_; intro v691 w60 ho61 hb hg_ hnew_; clear hg_ hnew_; (first | rw [← Ny690.out] at ho61 | (simp only [Int.reduceToNat] at ho61; rw [← Ny690.out] at ho61)); have n0_ := mkA (Kd.R_below (by (with_reducible repeat (first | apply Kd.R_alloc | apply Kd.R_drewN | apply Kd.R_drew)); exact HO_6.out) hb); have n1_ := mkA (Kd.S_below (by (with_reducible repeat (first | apply Kd.S_alloc | apply Kd.S_drewN | apply Kd.S_drew)); exact HO_8.out) hb); have n2_ := mkA (Kd.R_below (by (with_reducible repeat (first | apply Kd.R_alloc | apply Kd.R_drewN | apply Kd.R_drew)); exact HO_10.out) hb); have n3_ := mkA (Kd.R_lower ho61 (z18 (by repeat (first | (with_reducible first | exact HB.out | apply z11 | apply z10 | apply z12 | refine z15 ?_ GE640.out) | exact HB.out)))); have n4_ := mkA (blk_below (g := gb640) (o := .cells #[.int .i64 a0_0, .slice A0_1 l0_1.length c0_1, .slice A0_2 l0_2.length c0_2] 25 (0, 0)) (by (with_reducible repeat (first | refine z16 ?_ _ | refine z28 ?_ | refine z26 ?_ _)); exact BK640.out) hb); have n5_ := mkA (z17 (by repeat (first | (with_reducible first | exact HB.out | apply z11 | apply z10 | apply z12 | refine z15 ?_ GE640.out) | exact HB.out)) hb); clear HO_6; clear HO_8; clear HO_10; clear BK640; clear HB; have HO_6 := n0_; have HO_8 := n1_; have HO_10 := n2_; have HO692 := n3_; have BK640 := n4_; have HB := n5_; clear n0_ n1_ n2_ n3_ n4_ n5_; clear hb ho61))
        go_loopg [13] kj16 (fun kq v13 w' => ∃ (x12_2 : List Bool) (x13_2 : Int), v13 = .int .i64 x13_2 ∧ Aside0 (pl_SoapApart.l0 kq t657 t671 t685 x12_2 x13_2 a0_0 l0_1 l0_2 = some r) ∧ Aside0 (kq ≤ kj16) ∧ Aside0 (Kd.R (Kd.int .i64) 3 w' w.heap.size (fun _ => True) v658 t657) ∧ Aside0 (Kd.S (Kd.slice 3 (Kd.int .i64)) 37 w' w.heap.size (fun k_ => some k_ ≠ (v658 : Value).ownBlock) v672 t671) ∧ Aside0 (Kd.R k76 76 w' w.heap.size (fun _ => True) v686 t685) ∧ Aside0 (Kd.R Kd.bool 4 w' w.heap.size (fun _ => True) v691 x12_2) ∧ Aside0 (w'.heap[gb640]? = some (.cells #[.int .i64 a0_0, (.slice A0_1 l0_1.length c0_1), (.slice A0_2 l0_2.length c0_2)] 25 (0, 0))) ∧ Aside0 (Below w.heap.size w w'))
        case atStart => exact ⟨(y690), (0), (by first | rfl | (simp; done) | (simp [*]; done)), H', ⟨Nat.le_refl _⟩, ⟨by (with_reducible repeat (first | apply Kd.R_alloc | apply Kd.R_drewN | apply Kd.R_drew)); exact HO_6.out⟩, ⟨by (with_reducible repeat (first | apply Kd.S_alloc | apply Kd.S_drewN | apply Kd.S_drew)); exact HO_8.out⟩, ⟨by (with_reducible repeat (first | apply Kd.R_alloc | apply Kd.R_drewN | apply Kd.R_drew)); exact HO_10.out⟩, ⟨by (with_reducible repeat (first | apply Kd.R_alloc | apply Kd.R_drewN | apply Kd.R_drew)); exact HO692.out⟩, ⟨by (with_reducible repeat (first | refine z16 ?_ _ | refine z28 ?_ | refine z26 ?_ _)); exact BK640.out⟩, ⟨by repeat (first | (with_reducible first | exact HB.out | apply z11 | apply z10 | apply z12 | refine z15 ?_ GE640.out) | exact HB.out)⟩⟩
        case round =>
         clear H'
         try clear c1
         try clear c2
         try clear p2
         try clear c3
         try clear c4
         try clear c5
         try clear c6
         try clear c6b0
         try clear c6b1
         try clear p6
         try clear c10
         try clear c23
         try clear c29
         try clear c30
         try clear c45
         try clear c46
         try clear c46b0
         try clear c46b1
         try clear c47
         try clear c47b0
         try clear c47b1
         try clear c48
         try clear c48b0
         try clear c48b1
         try clear c49
         try clear c49b0
         try clear c49b1
         try clear c56
         try clear c57
         try clear c57b0
         try clear c57b1
         try clear c58
         try clear c58b0
         try clear c58b1
         try clear hcz19_0
         try clear hcz19_1
         try clear hcz19_2
         try clear hcz24_0
         try clear hcz24_1
         try clear hcz24_2
         try clear hcz32_0
         try clear hcz32_1
         try clear hcz32_2
         try clear hcz39_0
         try clear hcz39_1
         try clear hcz39_2
         try clear hcz52_0
         try clear hcz52_1
         try clear hcz52_2
         try clear hcz55_0
         try clear hcz55_1
         try clear hcz55_2
         try clear hcz59_0
         try clear hcz59_1
         try clear hcz59_2
         try clear hfz19_0
         try clear hfz19_1
         try clear hfz19_2
         try clear hfz24_0
         try clear hfz24_1
         try clear hfz24_2
         try clear hfz32_0
         try clear hfz32_1
         try clear hfz32_2
         try clear hfz39_0
         try clear hfz39_1
         try clear hfz39_2
         try clear hfz52_0
         try clear hfz52_1
         try clear hfz52_2
         try clear hfz55_0
         try clear hfz55_1
         try clear hfz55_2
         try clear hfz59_0
         try clear hfz59_1
         try clear hfz59_2
         try clear p2
         try clear p6
         obtain ⟨x12_2, x13_2, rfl, HA, HK2, HO_6, HO_8, HO_10, HO_12, BK640, HB⟩ := hrel
         cases gk with
         | zero => exact absurd HA.out (by simp [pl_SoapApart.l0])
         | succ k2 =>
          have H := HA.out
          clear HA
          simp only [pl_SoapApart.l0] at H
          by_cases c62 : x13_2 < (t671.length : Int)
          ·rw [if_pos c62] at H
           have c62b0 : decide (x13_2 < (t671.length : Int)) = true := decide_eq_true c62
           clear c62
           have H' := mkA H
           clear H
           obtain ⟨Ao63, co63, eo63⟩ := Kd.S_slice HO_8.out
           subst eo63
           go_wp2
           go_loopg [14, 15] k2 (fun kq v14 v15 w' => ∃ (x12_3 : List Bool) (x14_3 : Int) (x15_3 : Int), v14 = .int .i64 x14_3 ∧ v15 = .int .i64 x15_3 ∧ Aside0 (pl_SoapApart.l1 kq t657 t671 t685 x12_3 x13_2 x14_3 x15_3 a0_0 l0_1 l0_2 = some r) ∧ Aside0 (kq ≤ k2) ∧ Aside0 (Kd.R (Kd.int .i64) 3 w' w.heap.size (fun _ => True) v658 t657) ∧ Aside0 (Kd.S (Kd.slice 3 (Kd.int .i64)) 37 w' w.heap.size (fun k_ => some k_ ≠ (v658 : Value).ownBlock) (.slice Ao63 t671.length co63) t671) ∧ Aside0 (Kd.R k76 76 w' w.heap.size (fun _ => True) v686 t685) ∧ Aside0 (Kd.R Kd.bool 4 w' w.heap.size (fun _ => True) v691 x12_3) ∧ Aside0 (w'.heap[gb640]? = some (.cells #[.int .i64 a0_0, (.slice A0_1 l0_1.length c0_1), (.slice A0_2 l0_2.length c0_2)] 25 (0, 0))) ∧ Aside0 (Below w.heap.size w w'))
           case atStart => exact ⟨(x12_2), (0), (0), (by first | rfl | (simp; done) | (simp [*]; done)), (by first | rfl | (simp; done) | (simp [*]; done)), H', ⟨Nat.le_refl _⟩, ⟨by (with_reducible repeat (first | apply Kd.R_alloc | apply Kd.R_drewN | apply Kd.R_drew)); exact HO_6.out⟩, ⟨by (with_reducible repeat (first | apply Kd.S_alloc | apply Kd.S_drewN | apply Kd.S_drew)); exact HO_8.out⟩, ⟨by (with_reducible repeat (first | apply Kd.R_alloc | apply Kd.R_drewN | apply Kd.R_drew)); exact HO_10.out⟩, ⟨by (with_reducible repeat (first | apply Kd.R_alloc | apply Kd.R_drewN | apply Kd.R_drew)); exact HO_12.out⟩, ⟨by (with_reducible repeat (first | refine z16 ?_ _ | refine z28 ?_ | refine z26 ?_ _)); exact BK640.out⟩, ⟨by repeat (first | (with_reducible first | exact HB.out | apply z11 | apply z10 | apply z12 | refine z15 ?_ GE640.out) | exact HB.out)⟩⟩
           case round =>
            clear H'
            try clear c1
            try clear c2
            try clear p2
            try clear c3
            try clear c4
            try clear c5
            try clear c6
            try clear c6b0
            try clear c6b1
            try clear p6
            try clear c10
            try clear c23
            try clear c29
            try clear c30
            try clear c45
            try clear c46
            try clear c46b0
            try clear c46b1
            try clear c47
            try clear c47b0
            try clear c47b1
            try clear c48
            try clear c48b0
            try clear c48b1
            try clear c49
            try clear c49b0
            try clear c49b1
            try clear c56
            try clear c57
            try clear c57b0
            try clear c57b1
            try clear c58
            try clear c58b0
            try clear c58b1
            try clear c62
            try clear c62b0
            try clear hcz19_0
            try clear hcz19_1
            try clear hcz19_2
            try clear hcz24_0
            try clear hcz24_1
            try clear hcz24_2
            try clear hcz32_0
            try clear hcz32_1
            try clear hcz32_2
            try clear hcz39_0
            try clear hcz39_1
            try clear hcz39_2
            try clear hcz52_0
            try clear hcz52_1
            try clear hcz52_2
            try clear hcz55_0
            try clear hcz55_1
            try clear hcz55_2
            try clear hcz59_0
            try clear hcz59_1
            try clear hcz59_2
            try clear hfz19_0
            try clear hfz19_1
            try clear hfz19_2
            try clear hfz24_0
            try clear hfz24_1
            try clear hfz24_2
            try clear hfz32_0
            try clear hfz32_1
            try clear hfz32_2
            try clear hfz39_0
            try clear hfz39_1
            try clear hfz39_2
            try clear hfz52_0
            try clear hfz52_1
            try clear hfz52_2
            try clear hfz55_0
            try clear hfz55_1
            try clear hfz55_2
            try clear hfz59_0
            try clear hfz59_1
            try clear hfz59_2
            try clear p2
            try clear p6
            obtain ⟨x12_3, x14_3, x15_3, rfl, rfl, HA, HK3, HO_6, HO_8, HO_10, HO_12, BK640, HB⟩ := hrel
            cases gk with
            | zero => exact absurd HA.out (by simp [pl_SoapApart.l1])
            | succ k3 =>
             have H := HA.out
             clear HA
             simp only [pl_SoapApart.l1] at H
             by_cases c64 : 0 ≤ x13_2
             ·rw [if_pos c64] at H
              have c64b0 : decide (0 ≤ x13_2) = true := decide_eq_true c64
              clear c64
              by_cases c65 : x13_2 < (t671.length : Int)
              ·rw [if_pos c65] at H
               have c65b0 : decide (x13_2 < (t671.length : Int)) = true := decide_eq_true c65
               clear c65
               by_cases c66 : x15_3 < ((rd_L4 t671 x13_2).length : Int)
               ·rw [if_pos c66] at H
                have c66b0 : decide (x15_3 < ((rd_L4 t671 x13_2).length : Int)) = true := decide_eq_true c66
                clear c66
                by_cases c67 : 0 ≤ x15_3
                ·rw [if_pos c67] at H
                 have c67b0 : decide (0 ≤ x15_3) = true := decide_eq_true c67
                 clear c67
                 replace H := Option.bind_eq_some_iff.mp H
                 obtain ⟨t696, A680, H⟩ := H
                 replace H : (if t696 = true then (if 0 ≤ (rd (rd_L4 t671 x13_2) x15_3) then (if (rd (rd_L4 t671 x13_2) x15_3) < (x12_3.length : Int) then (if rdOf false x12_3 (rd (rd_L4 t671 x13_2) x15_3) = true then (some false) else (if (rd (rd_L4 t671 x13_2) x15_3) < (t657.length : Int) then (if (rd t657 (rd (rd_L4 t671 x13_2) x15_3)) = 0 then (some false) else (pl_SoapApart.l1 k3 t657 t671 t685 (x12_3.set ((rd (rd_L4 t671 x13_2) x15_3) : Int).toNat true) x13_2 (wrap64 (x14_3 + (rd t657 (rd (rd_L4 t671 x13_2) x15_3)))) (wrap64 (x15_3 + 1)) a0_0 l0_1 l0_2)) else (none))) else (none)) else (none)) else (some false)) = some r := H
                 have A68 := mkA A680
                 clear A680
                 by_cases c69 : t696 = true
                 ·subst c69
                  have H1 : (if 0 ≤ (rd (rd_L4 t671 x13_2) x15_3) then (if (rd (rd_L4 t671 x13_2) x15_3) < (x12_3.length : Int) then (if rdOf false x12_3 (rd (rd_L4 t671 x13_2) x15_3) = true then (some false) else (if (rd (rd_L4 t671 x13_2) x15_3) < (t657.length : Int) then (if (rd t657 (rd (rd_L4 t671 x13_2) x15_3)) = 0 then (some false) else (pl_SoapApart.l1 k3 t657 t671 t685 (x12_3.set ((rd (rd_L4 t671 x13_2) x15_3) : Int).toNat true) x13_2 (wrap64 (x14_3 + (rd t657 (rd (rd_L4 t671 x13_2) x15_3)))) (wrap64 (x15_3 + 1)) a0_0 l0_1 l0_2)) else (none))) else (none)) else (none)) = some r := by rw [if_pos rfl] at H; exact H
                  clear H
                  have H := H1
                  clear H1
                  by_cases c70 : 0 ≤ (rd (rd_L4 t671 x13_2) x15_3)
                  ·rw [if_pos c70] at H
                   have c70b0 : decide (0 ≤ (rd (rd_L4 t671 x13_2) x15_3)) = true := decide_eq_true c70
                   clear c70
                   by_cases c71 : (rd (rd_L4 t671 x13_2) x15_3) < (x12_3.length : Int)
                   ·rw [if_pos c71] at H
                    have c71b0 : decide ((rd (rd_L4 t671 x13_2) x15_3) < (x12_3.length : Int)) = true := decide_eq_true c71
                    clear c71
                    obtain ⟨bq72, hbq72⟩ : ∃ b_ : Bool, b_ = (rdOf false x12_3 (rd (rd_L4 t671 x13_2) x15_3)) := ⟨_, rfl⟩
                    replace H : (if bq72 = true then (some false) else (if (rd (rd_L4 t671 x13_2) x15_3) < (t657.length : Int) then (if (rd t657 (rd (rd_L4 t671 x13_2) x15_3)) = 0 then (some false) else (pl_SoapApart.l1 k3 t657 t671 t685 (x12_3.set ((rd (rd_L4 t671 x13_2) x15_3) : Int).toNat true) x13_2 (wrap64 (x14_3 + (rd t657 (rd (rd_L4 t671 x13_2) x15_3)))) (wrap64 (x15_3 + 1)) a0_0 l0_1 l0_2)) else (none))) = some r := by rw [← hbq72] at H; exact H
                    have Nbq72 := mkA hbq72
                    clear hbq72
                    by_cases c73 : bq72 = true
                    ·subst c73
                     have H1 : (some false) = some r := by rw [if_pos rfl] at H; exact H
                     clear H
                     have H := H1
                     clear H1
                     obtain rfl := Option.some.inj H
                     have p693 : 0 ≤ (x13_2 : Int) := of_decide_eq_true (by first | (with_reducible assumption) | assumption)
                     have q693 : x13_2 < (t671.length : Int) := of_decide_eq_true (by first | (with_reducible assumption) | assumption)
                     obtain ⟨ad693, A693_0, c693_0, e693, hx693_0, hl693_0, hi693_0⟩ := at_L4 (Kd.S_reads' HO_8.out).2.2 x13_2 p693 q693
                     cases e693
                     obtain ⟨ce693, hce693, hMe693, hcc693⟩ := Kd.S_get HO_8.out [] x13_2 p693 (by first | exact q693 | exact of_decide_eq_true (by first | (with_reducible assumption) | assumption) | (have e_ := (Kd.S_reads' HO_8.out).1; omega))
                     obtain ⟨ve693_0, rfl, ge693_0⟩ := hMe693
                     have hv693_0 := hcc693 0 _ rfl
                     rw [Nat.add_zero, show ((Kd.slice 3 (Kd.int .i64))).sz = 1 from rfl, Nat.mul_one] at hv693_0
                     replace hv693_0 := Option.some.inj (hv693_0.symm.trans hx693_0)
                     rw [hv693_0] at ge693_0
                     have HL693_0 := mkA (show Kd.R (Kd.int .i64) 3 _ _ _ _ (rd_L4 t671 x13_2) from ge693_0)
                     clear hv693_0 ge693_0
                     clear hcc693 hce693
                     have HR693_0 := mkA hi693_0
                     have HC693_0 := mkA hl693_0
                     clear hi693_0 hl693_0
                     replace p693 := eq_true p693
                     replace q693 := eq_true q693
                     have p694 : 0 ≤ (x13_2 : Int) := of_decide_eq_true (by first | (with_reducible assumption) | assumption)
                     have q694 : x13_2 < (t671.length : Int) := of_decide_eq_true (by first | (with_reducible assumption) | assumption)
                     obtain ⟨ad694, A694_0, c694_0, e694, hx694_0, hl694_0, hi694_0⟩ := at_L4 (Kd.S_reads' HO_8.out).2.2 x13_2 p694 q694
                     obtain rfl : ad693 = ad694 := (by injection e694)
                     obtain ⟨ce694, hce694, hMe694, hcc694⟩ := Kd.S_get HO_8.out [] x13_2 p694 (by first | exact q694 | exact of_decide_eq_true (by first | (with_reducible assumption) | assumption) | (have e_ := (Kd.S_reads' HO_8.out).1; omega))
                     obtain ⟨ve694_0, rfl, ge694_0⟩ := hMe694
                     have hv694_0 := hcc694 0 _ rfl
                     rw [Nat.add_zero, show ((Kd.slice 3 (Kd.int .i64))).sz = 1 from rfl, Nat.mul_one] at hv694_0
                     replace hv694_0 := Option.some.inj (hv694_0.symm.trans hx694_0)
                     rw [hv694_0] at ge694_0
                     have HL694_0 := mkA (show Kd.R (Kd.int .i64) 3 _ _ _ _ (rd_L4 t671 x13_2) from ge694_0)
                     clear hv694_0 ge694_0
                     clear hcc694 hce694
                     have HR694_0 := mkA hi694_0
                     have HC694_0 := mkA hl694_0
                     clear hi694_0 hl694_0
                     replace p694 := eq_true p694
                     replace q694 := eq_true q694
                     have ea_ := Option.some.inj (hx693_0.symm.trans hx694_0)
                     injection ea_ with ea_ en_ ec_
                     subst ea_
                     subst ec_
                     clear en_
                     have p695 : 0 ≤ (x15_3 : Int) := of_decide_eq_true (by first | (with_reducible assumption) | assumption)
                     have q695 : x15_3 < ((rd_L4 t671 x13_2).length : Int) := of_decide_eq_true (by first | (with_reducible assumption) | assumption)
                     obtain ⟨ad695, e695, hx695_0⟩ := Kd.at_int (by repeat (first | (with_reducible exact HR694_0.out) | (with_reducible refine Kd.C_alloc ?_ _) | (with_reducible refine Kd.C_drewN ?_ _) | (with_reducible refine Kd.C_drew ?_) | exact HR694_0.out)) x15_3 p695 q695
                     cases e695
                     replace p695 := eq_true p695
                     replace q695 := eq_true q695
                     have hcz74_0 : wr.cell? ⟨gb640, 0, none⟩ = some (.int .i64 a0_0) := (z13 BK640.out 0).trans rfl
                     have hcz74_1 : wr.cell? ⟨gb640, 1, none⟩ = some (.slice A0_1 l0_1.length c0_1) := (z13 BK640.out 1).trans rfl
                     have hcz74_2 : wr.cell? ⟨gb640, 2, none⟩ = some (.slice A0_2 l0_2.length c0_2) := (z13 BK640.out 2).trans rfl
                     have hfz74_0 := z14 BK640.out 0
                     have hfz74_1 := z14 BK640.out 1
                     have hfz74_2 := z14 BK640.out 2
                     go_wp2_with (first | ((with_reducible refine z22 (f := 59) rfl ?_); refine goesL_ (some 104) rfl rfl Try.func59 (by kernel_rfl) rfl #[.int .i64 (rd (rd_L4 t671 x13_2) x15_3), .int .i64 0, .int .i64 (wrap64 (a0_0 - 1))] rfl (by (try simp only [List.map_toArray, List.map_cons, List.map_nil]); first | done | rfl | (simp only [List.length_drop, List.length_take]; rfl)) ?_; (with_reducible refine (pr_In.calls (rd (rd_L4 t671 x13_2) x15_3) 0 (wrap64 (a0_0 - 1)) true _ A68.out).mono ?_); rintro e w' ⟨rfl, ⟨nd, rfl⟩⟩; refine ⟨_, rfl, ?_⟩; obtain ⟨Ao75, co75, eo75⟩ := Kd.R_slice HO_12.out; subst eo75; have p697 : 0 ≤ ((rd (rd_L4 t671 x13_2) x15_3) : Int) := of_decide_eq_true (by first | (with_reducible assumption) | assumption); have q697 : (rd (rd_L4 t671 x13_2) x15_3) < (x12_3.length : Int) := of_decide_eq_true (by first | (with_reducible assumption) | assumption); obtain ⟨ad697, e697, hx697_0⟩ := Kd.at_bool (Kd.R_reads' HO_12.out).2.2 (rd (rd_L4 t671 x13_2) x15_3) p697 q697; (try rw [← Nbq72.out] at hx697_0); cases e697; replace p697 := eq_true p697; replace q697 := eq_true q697))
                     go_ret
                     exact ⟨by first | rfl | (simp [z20, z19] <;> rfl) | (simp [*, z20, z19] <;> rfl), by repeat (first | (with_reducible first | exact HB.out | apply z11 | apply z10 | apply z12 | refine z15 ?_ GE640.out) | exact HB.out)⟩
                    ·replace c73 := Bool.eq_false_iff.mpr c73
                     subst c73
                     have H1 : (if (rd (rd_L4 t671 x13_2) x15_3) < (t657.length : Int) then (if (rd t657 (rd (rd_L4 t671 x13_2) x15_3)) = 0 then (some false) else (pl_SoapApart.l1 k3 t657 t671 t685 (x12_3.set ((rd (rd_L4 t671 x13_2) x15_3) : Int).toNat true) x13_2 (wrap64 (x14_3 + (rd t657 (rd (rd_L4 t671 x13_2) x15_3)))) (wrap64 (x15_3 + 1)) a0_0 l0_1 l0_2)) else (none)) = some r := by rw [if_neg (show ¬ (false = true) by decide)] at H; exact H
                     clear H
                     have H := H1
                     clear H1
                     by_cases c76 : (rd (rd_L4 t671 x13_2) x15_3) < (t657.length : Int)
                     ·rw [if_pos c76] at H
                      have c76b0 : decide ((rd (rd_L4 t671 x13_2) x15_3) < (t657.length : Int)) = true := decide_eq_true c76
                      clear c76
                      by_cases c77 : (rd t657 (rd (rd_L4 t671 x13_2) x15_3)) = 0
                      ·rw [if_pos c77] at H
                       have c77b0 : ((rd t657 (rd (rd_L4 t671 x13_2) x15_3)) == 0) = true := beq_iff_eq.mpr c77
                       have c77b1 : ((rd t657 (rd (rd_L4 t671 x13_2) x15_3)) != 0) = false := bne_eq_false_iff_eq.mpr c77
                       clear c77
                       obtain rfl := Option.some.inj H
                       have p693 : 0 ≤ (x13_2 : Int) := of_decide_eq_true (by first | (with_reducible assumption) | assumption)
                       have q693 : x13_2 < (t671.length : Int) := of_decide_eq_true (by first | (with_reducible assumption) | assumption)
                       obtain ⟨ad693, A693_0, c693_0, e693, hx693_0, hl693_0, hi693_0⟩ := at_L4 (Kd.S_reads' HO_8.out).2.2 x13_2 p693 q693
                       cases e693
                       obtain ⟨ce693, hce693, hMe693, hcc693⟩ := Kd.S_get HO_8.out [] x13_2 p693 (by first | exact q693 | exact of_decide_eq_true (by first | (with_reducible assumption) | assumption) | (have e_ := (Kd.S_reads' HO_8.out).1; omega))
                       obtain ⟨ve693_0, rfl, ge693_0⟩ := hMe693
                       have hv693_0 := hcc693 0 _ rfl
                       rw [Nat.add_zero, show ((Kd.slice 3 (Kd.int .i64))).sz = 1 from rfl, Nat.mul_one] at hv693_0
                       replace hv693_0 := Option.some.inj (hv693_0.symm.trans hx693_0)
                       rw [hv693_0] at ge693_0
                       have HL693_0 := mkA (show Kd.R (Kd.int .i64) 3 _ _ _ _ (rd_L4 t671 x13_2) from ge693_0)
                       clear hv693_0 ge693_0
                       clear hcc693 hce693
                       have HR693_0 := mkA hi693_0
                       have HC693_0 := mkA hl693_0
                       clear hi693_0 hl693_0
                       replace p693 := eq_true p693
                       replace q693 := eq_true q693
                       have p694 : 0 ≤ (x13_2 : Int) := of_decide_eq_true (by first | (with_reducible assumption) | assumption)
                       have q694 : x13_2 < (t671.length : Int) := of_decide_eq_true (by first | (with_reducible assumption) | assumption)
                       obtain ⟨ad694, A694_0, c694_0, e694, hx694_0, hl694_0, hi694_0⟩ := at_L4 (Kd.S_reads' HO_8.out).2.2 x13_2 p694 q694
                       obtain rfl : ad693 = ad694 := (by injection e694)
                       obtain ⟨ce694, hce694, hMe694, hcc694⟩ := Kd.S_get HO_8.out [] x13_2 p694 (by first | exact q694 | exact of_decide_eq_true (by first | (with_reducible assumption) | assumption) | (have e_ := (Kd.S_reads' HO_8.out).1; omega))
                       obtain ⟨ve694_0, rfl, ge694_0⟩ := hMe694
                       have hv694_0 := hcc694 0 _ rfl
                       rw [Nat.add_zero, show ((Kd.slice 3 (Kd.int .i64))).sz = 1 from rfl, Nat.mul_one] at hv694_0
                       replace hv694_0 := Option.some.inj (hv694_0.symm.trans hx694_0)
                       rw [hv694_0] at ge694_0
                       have HL694_0 := mkA (show Kd.R (Kd.int .i64) 3 _ _ _ _ (rd_L4 t671 x13_2) from ge694_0)
                       clear hv694_0 ge694_0
                       clear hcc694 hce694
                       have HR694_0 := mkA hi694_0
                       have HC694_0 := mkA hl694_0
                       clear hi694_0 hl694_0
                       replace p694 := eq_true p694
                       replace q694 := eq_true q694
                       have ea_ := Option.some.inj (hx693_0.symm.trans hx694_0)
                       injection ea_ with ea_ en_ ec_
                       subst ea_
                       subst ec_
                       clear en_
                       have p695 : 0 ≤ (x15_3 : Int) := of_decide_eq_true (by first | (with_reducible assumption) | assumption)
                       have q695 : x15_3 < ((rd_L4 t671 x13_2).length : Int) := of_decide_eq_true (by first | (with_reducible assumption) | assumption)
                       obtain ⟨ad695, e695, hx695_0⟩ := Kd.at_int (by repeat (first | (with_reducible exact HR694_0.out) | (with_reducible refine Kd.C_alloc ?_ _) | (with_reducible refine Kd.C_drewN ?_ _) | (with_reducible refine Kd.C_drew ?_) | exact HR694_0.out)) x15_3 p695 q695
                       cases e695
                       replace p695 := eq_true p695
                       replace q695 := eq_true q695
                       have hcz78_0 : wr.cell? ⟨gb640, 0, none⟩ = some (.int .i64 a0_0) := (z13 BK640.out 0).trans rfl
                       have hcz78_1 : wr.cell? ⟨gb640, 1, none⟩ = some (.slice A0_1 l0_1.length c0_1) := (z13 BK640.out 1).trans rfl
                       have hcz78_2 : wr.cell? ⟨gb640, 2, none⟩ = some (.slice A0_2 l0_2.length c0_2) := (z13 BK640.out 2).trans rfl
                       have hfz78_0 := z14 BK640.out 0
                       have hfz78_1 := z14 BK640.out 1
                       have hfz78_2 := z14 BK640.out 2
                       go_wp2_with (first | ((with_reducible refine z22 (f := 59) rfl ?_); refine goesL_ (some 104) rfl rfl Try.func59 (by kernel_rfl) rfl #[.int .i64 (rd (rd_L4 t671 x13_2) x15_3), .int .i64 0, .int .i64 (wrap64 (a0_0 - 1))] rfl (by (try simp only [List.map_toArray, List.map_cons, List.map_nil]); first | done | rfl | (simp only [List.length_drop, List.length_take]; rfl)) ?_; (with_reducible refine (pr_In.calls (rd (rd_L4 t671 x13_2) x15_3) 0 (wrap64 (a0_0 - 1)) true _ A68.out).mono ?_); rintro e w' ⟨rfl, ⟨nd, rfl⟩⟩; refine ⟨_, rfl, ?_⟩; obtain ⟨Ao79, co79, eo79⟩ := Kd.R_slice HO_12.out; subst eo79; have p697 : 0 ≤ ((rd (rd_L4 t671 x13_2) x15_3) : Int) := of_decide_eq_true (by first | (with_reducible assumption) | assumption); have q697 : (rd (rd_L4 t671 x13_2) x15_3) < (x12_3.length : Int) := of_decide_eq_true (by first | (with_reducible assumption) | assumption); obtain ⟨ad697, e697, hx697_0⟩ := Kd.at_bool (Kd.R_reads' HO_12.out).2.2 (rd (rd_L4 t671 x13_2) x15_3) p697 q697; (try rw [← Nbq72.out] at hx697_0); cases e697; replace p697 := eq_true p697; replace q697 := eq_true q697; obtain ⟨Ao80, co80, eo80⟩ := Kd.R_slice HO_6.out; subst eo80; have p698 : 0 ≤ ((rd (rd_L4 t671 x13_2) x15_3) : Int) := of_decide_eq_true (by first | (with_reducible assumption) | assumption); have q698 : (rd (rd_L4 t671 x13_2) x15_3) < (t657.length : Int) := of_decide_eq_true (by first | (with_reducible assumption) | assumption); obtain ⟨ad698, e698, hx698_0⟩ := Kd.at_int (Kd.R_reads' HO_6.out).2.2 (rd (rd_L4 t671 x13_2) x15_3) p698 q698; cases e698; replace p698 := eq_true p698; replace q698 := eq_true q698))
                       go_ret
                       exact ⟨by first | rfl | (simp [z20, z19] <;> rfl) | (simp [*, z20, z19] <;> rfl), by repeat (first | (with_reducible first | exact HB.out | apply z11 | apply z10 | apply z12 | refine z15 ?_ GE640.out) | exact HB.out)⟩
                      ·rw [if_neg c77] at H
                       have c77b0 : ((rd t657 (rd (rd_L4 t671 x13_2) x15_3)) == 0) = false := beq_eq_false_iff_ne.mpr c77
                       have c77b1 : ((rd t657 (rd (rd_L4 t671 x13_2) x15_3)) != 0) = true := bne_iff_ne.mpr c77
                       obtain ⟨y699, hy699⟩ : ∃ y_ : List Bool, y_ = (x12_3.set ((rd (rd_L4 t671 x13_2) x15_3) : Int).toNat true) := ⟨_, rfl⟩
                       replace H : (pl_SoapApart.l1 k3 t657 t671 t685 y699 x13_2 (wrap64 (x14_3 + (rd t657 (rd (rd_L4 t671 x13_2) x15_3)))) (wrap64 (x15_3 + 1)) a0_0 l0_1 l0_2) = some r := by first | (rw [hy699]; with_reducible exact H) | (have H2_ := (Option.bind_some _ _).symm.trans H; rw [hy699]; with_reducible exact H2_) | (have H2_ := (Option.bind_some _ _).symm.trans H; with_reducible exact H2_) | with_reducible exact H | (rw [hy699]; exact H) | exact H
                       have Ny699 := mkA hy699
                       clear hy699
                       have H' := mkA H
                       clear H
                       have p693 : 0 ≤ (x13_2 : Int) := of_decide_eq_true (by first | (with_reducible assumption) | assumption)
                       have q693 : x13_2 < (t671.length : Int) := of_decide_eq_true (by first | (with_reducible assumption) | assumption)
                       obtain ⟨ad693, A693_0, c693_0, e693, hx693_0, hl693_0, hi693_0⟩ := at_L4 (Kd.S_reads' HO_8.out).2.2 x13_2 p693 q693
                       cases e693
                       obtain ⟨ce693, hce693, hMe693, hcc693⟩ := Kd.S_get HO_8.out [] x13_2 p693 (by first | exact q693 | exact of_decide_eq_true (by first | (with_reducible assumption) | assumption) | (have e_ := (Kd.S_reads' HO_8.out).1; omega))
                       obtain ⟨ve693_0, rfl, ge693_0⟩ := hMe693
                       have hv693_0 := hcc693 0 _ rfl
                       rw [Nat.add_zero, show ((Kd.slice 3 (Kd.int .i64))).sz = 1 from rfl, Nat.mul_one] at hv693_0
                       replace hv693_0 := Option.some.inj (hv693_0.symm.trans hx693_0)
                       rw [hv693_0] at ge693_0
                       have HL693_0 := mkA (show Kd.R (Kd.int .i64) 3 _ _ _ _ (rd_L4 t671 x13_2) from ge693_0)
                       clear hv693_0 ge693_0
                       clear hcc693 hce693
                       have HR693_0 := mkA hi693_0
                       have HC693_0 := mkA hl693_0
                       clear hi693_0 hl693_0
                       replace p693 := eq_true p693
                       replace q693 := eq_true q693
                       have p694 : 0 ≤ (x13_2 : Int) := of_decide_eq_true (by first | (with_reducible assumption) | assumption)
                       have q694 : x13_2 < (t671.length : Int) := of_decide_eq_true (by first | (with_reducible assumption) | assumption)
                       obtain ⟨ad694, A694_0, c694_0, e694, hx694_0, hl694_0, hi694_0⟩ := at_L4 (Kd.S_reads' HO_8.out).2.2 x13_2 p694 q694
                       obtain rfl : ad693 = ad694 := (by injection e694)
                       obtain ⟨ce694, hce694, hMe694, hcc694⟩ := Kd.S_get HO_8.out [] x13_2 p694 (by first | exact q694 | exact of_decide_eq_true (by first | (with_reducible assumption) | assumption) | (have e_ := (Kd.S_reads' HO_8.out).1; omega))
                       obtain ⟨ve694_0, rfl, ge694_0⟩ := hMe694
                       have hv694_0 := hcc694 0 _ rfl
                       rw [Nat.add_zero, show ((Kd.slice 3 (Kd.int .i64))).sz = 1 from rfl, Nat.mul_one] at hv694_0
                       replace hv694_0 := Option.some.inj (hv694_0.symm.trans hx694_0)
                       rw [hv694_0] at ge694_0
                       have HL694_0 := mkA (show Kd.R (Kd.int .i64) 3 _ _ _ _ (rd_L4 t671 x13_2) from ge694_0)
                       clear hv694_0 ge694_0
                       clear hcc694 hce694
                       have HR694_0 := mkA hi694_0
                       have HC694_0 := mkA hl694_0
                       clear hi694_0 hl694_0
                       replace p694 := eq_true p694
                       replace q694 := eq_true q694
                       have ea_ := Option.some.inj (hx693_0.symm.trans hx694_0)
                       injection ea_ with ea_ en_ ec_
                       subst ea_
                       subst ec_
                       clear en_
                       have p695 : 0 ≤ (x15_3 : Int) := of_decide_eq_true (by first | (with_reducible assumption) | assumption)
                       have q695 : x15_3 < ((rd_L4 t671 x13_2).length : Int) := of_decide_eq_true (by first | (with_reducible assumption) | assumption)
                       obtain ⟨ad695, e695, hx695_0⟩ := Kd.at_int (by repeat (first | (with_reducible exact HR694_0.out) | (with_reducible refine Kd.C_alloc ?_ _) | (with_reducible refine Kd.C_drewN ?_ _) | (with_reducible refine Kd.C_drew ?_) | exact HR694_0.out)) x15_3 p695 q695
                       cases e695
                       replace p695 := eq_true p695
                       replace q695 := eq_true q695
                       have hcz82_0 : wr.cell? ⟨gb640, 0, none⟩ = some (.int .i64 a0_0) := (z13 BK640.out 0).trans rfl
                       have hcz82_1 : wr.cell? ⟨gb640, 1, none⟩ = some (.slice A0_1 l0_1.length c0_1) := (z13 BK640.out 1).trans rfl
                       have hcz82_2 : wr.cell? ⟨gb640, 2, none⟩ = some (.slice A0_2 l0_2.length c0_2) := (z13 BK640.out 2).trans rfl
                       have hfz82_0 := z14 BK640.out 0
                       have hfz82_1 := z14 BK640.out 1
                       have hfz82_2 := z14 BK640.out 2
                       go_wp2_with (first | ((with_reducible refine z22 (f := 59) rfl ?_); refine goesL_ (some 104) rfl rfl Try.func59 (by kernel_rfl) rfl #[.int .i64 (rd (rd_L4 t671 x13_2) x15_3), .int .i64 0, .int .i64 (wrap64 (a0_0 - 1))] rfl (by (try simp only [List.map_toArray, List.map_cons, List.map_nil]); first | done | rfl | (simp only [List.length_drop, List.length_take]; rfl)) ?_; (with_reducible refine (pr_In.calls (rd (rd_L4 t671 x13_2) x15_3) 0 (wrap64 (a0_0 - 1)) true _ A68.out).mono ?_); rintro e w' ⟨rfl, ⟨nd, rfl⟩⟩; refine ⟨_, rfl, ?_⟩; (try (rw [drewN_self wr]; generalize hq_ : World.drewN wr _ = wr; have n0_ : Aside0 (Kd.R (Kd.int .i64) 3 wr w.heap.size (fun k_ => some k_ ≠ (v658 : Value).ownBlock ∧ some k_ ≠ (.slice (some ad693) t671.length co63 : Value).ownBlock) (.slice (some ad695) (rd_L4 t671 x13_2).length c693_0) (rd_L4 t671 x13_2)) := ⟨by rw [← hq_]; exact (by (with_reducible repeat (first | apply Kd.R_alloc | apply Kd.R_drewN | apply Kd.R_drew)); exact HL693_0.out)⟩; have n1_ : Aside0 (Kd.R (Kd.int .i64) 3 wr w.heap.size (fun k_ => some k_ ≠ (v658 : Value).ownBlock ∧ some k_ ≠ (.slice (some ad693) t671.length co63 : Value).ownBlock) (.slice (some ad695) (rd_L4 t671 x13_2).length c693_0) (rd_L4 t671 x13_2)) := ⟨by rw [← hq_]; exact (by (with_reducible repeat (first | apply Kd.R_alloc | apply Kd.R_drewN | apply Kd.R_drew)); exact HL694_0.out)⟩; have n2_ : Aside0 (Kd.R k76 76 wr w.heap.size (fun _ => True) v686 t685) := ⟨by rw [← hq_]; exact (by (with_reducible repeat (first | apply Kd.R_alloc | apply Kd.R_drewN | apply Kd.R_drew)); exact HO_10.out)⟩; have n3_ : Aside0 (Kd.R Kd.bool 4 wr w.heap.size (fun _ => True) v691 x12_3) := ⟨by rw [← hq_]; exact (by (with_reducible repeat (first | apply Kd.R_alloc | apply Kd.R_drewN | apply Kd.R_drew)); exact HO_12.out)⟩; have n4_ : Aside0 (Kd.R (Kd.int .i64) 3 wr w.heap.size (fun _ => True) v658 t657) := ⟨by rw [← hq_]; exact (by (with_reducible repeat (first | apply Kd.R_alloc | apply Kd.R_drewN | apply Kd.R_drew)); exact HO_6.out)⟩; have n5_ : Aside0 (Kd.S (Kd.slice 3 (Kd.int .i64)) 37 wr w.heap.size (fun k_ => some k_ ≠ (v658 : Value).ownBlock) (.slice (some ad693) t671.length co63) t671) := ⟨by rw [← hq_]; exact (by (with_reducible repeat (first | apply Kd.S_alloc | apply Kd.S_drewN | apply Kd.S_drew)); exact HO_8.out)⟩; have n6_ : Aside0 (wr.heap[gb640]? = some (.cells #[.int .i64 a0_0, .slice A0_1 l0_1.length c0_1, .slice A0_2 l0_2.length c0_2] 25 (0, 0))) := ⟨by rw [← hq_]; exact (by (with_reducible repeat (first | refine z16 ?_ _ | refine z28 ?_ | refine z26 ?_ _)); exact BK640.out)⟩; have n7_ : Aside0 (Below w.heap.size w wr) := ⟨by rw [← hq_]; exact (by repeat (first | (with_reducible first | exact HB.out | apply z11 | apply z10 | apply z12 | refine z15 ?_ GE640.out) | exact HB.out))⟩; have n8_ : Aside0 (Kd.C (Kd.int .i64) wr (some ad695) (rd_L4 t671 x13_2).length (rd_L4 t671 x13_2)) := ⟨by rw [← hq_]; exact (by repeat (first | (with_reducible exact HR693_0.out) | (with_reducible refine Kd.C_alloc ?_ _) | (with_reducible refine Kd.C_drewN ?_ _) | (with_reducible refine Kd.C_drew ?_) | exact HR693_0.out))⟩; have n9_ : Aside0 (Kd.C (Kd.int .i64) wr (some ad695) (rd_L4 t671 x13_2).length (rd_L4 t671 x13_2)) := ⟨by rw [← hq_]; exact (by repeat (first | (with_reducible exact HR694_0.out) | (with_reducible refine Kd.C_alloc ?_ _) | (with_reducible refine Kd.C_drewN ?_ _) | (with_reducible refine Kd.C_drew ?_) | exact HR694_0.out))⟩; clear HL693_0 HL694_0 HO_10 HO_12 HO_6 HO_8 BK640 HB HR693_0 HR694_0 hq_; have HL693_0 := n0_; have HL694_0 := n1_; have HO_10 := n2_; have HO_12 := n3_; have HO_6 := n4_; have HO_8 := n5_; have BK640 := n6_; have HB := n7_; have HR693_0 := n8_; have HR694_0 := n9_; clear n0_ n1_ n2_ n3_ n4_ n5_ n6_ n7_ n8_ n9_)); obtain ⟨Ao83, co83, eo83⟩ := Kd.R_slice HO_12.out; subst eo83; have p697 : 0 ≤ ((rd (rd_L4 t671 x13_2) x15_3) : Int) := of_decide_eq_true (by first | (with_reducible assumption) | assumption); have q697 : (rd (rd_L4 t671 x13_2) x15_3) < (x12_3.length : Int) := of_decide_eq_true (by first | (with_reducible assumption) | assumption); obtain ⟨ad697, e697, hx697_0⟩ := Kd.at_bool (Kd.R_reads' HO_12.out).2.2 (rd (rd_L4 t671 x13_2) x15_3) p697 q697; (try rw [← Nbq72.out] at hx697_0); cases e697; replace p697 := eq_true p697; replace q697 := eq_true q697; obtain ⟨Ao84, co84, eo84⟩ := Kd.R_slice HO_6.out; subst eo84; have p698 : 0 ≤ ((rd (rd_L4 t671 x13_2) x15_3) : Int) := of_decide_eq_true (by first | (with_reducible assumption) | assumption); have q698 : (rd (rd_L4 t671 x13_2) x15_3) < (t657.length : Int) := of_decide_eq_true (by first | (with_reducible assumption) | assumption); obtain ⟨ad698, e698, hx698_0⟩ := Kd.at_int (Kd.R_reads' HO_6.out).2.2 (rd (rd_L4 t671 x13_2) x15_3) p698 q698; cases e698; replace p698 := eq_true p698; replace q698 := eq_true q698; have p81 : 0 ≤ ((rd (rd_L4 t671 x13_2) x15_3) : Int) := of_decide_eq_true (by first | (with_reducible assumption) | assumption); have q81 : ((rd (rd_L4 t671 x13_2) x15_3) : Int) < ((x12_3.length : Int) : Int) := of_decide_eq_true (by first | (with_reducible assumption) | assumption); obtain ⟨go81, co81, eo81, gb81, gl81, cl81, HG81⟩ := Kd.R_form HO_12.out (by omega); (first | cases eo81 | (injection eo81 with ea_ en_ ec_; (first | subst ea_ | (injection ea_ with ea_; subst ea_)); subst ec_; clear en_)); have GB81 := mkA gb81; have GG81 := mkA HG81; clear gb81 gl81 HG81; (first | simp only [add_plain] at hx697_0 | skip); obtain ⟨hx81_0, hf81_0⟩ := Kd.R_celln false HO_12.out ((rd (rd_L4 t671 x13_2) x15_3) : Int) p81 q81; replace p81 := eq_true p81; replace q81 := eq_true q81; obtain ⟨hy85_, hz85_⟩ := Kd.R_celln false HO_12.out ((rd (rd_L4 t671 x13_2) x15_3) : Int) (of_decide_eq_true (by first | (with_reducible assumption) | assumption)) (of_decide_eq_true (by first | (with_reducible assumption) | assumption)); have HP85 := Kd.R_putg HO_12.out ((rd (rd_L4 t671 x13_2) x15_3) : Int) true) | ((with_reducible refine gate_store (t := 4) (p := 121) rfl ?_); refine store_event (t := 4) (p := 121) (v := ?vo_w86) (w1 := (wr.setCell ⟨go81, ((rd (rd_L4 t671 x13_2) x15_3) : Int).toNat, none⟩ (.bool true))) ?hg ?ho ?hn ?hr ?_; (case ho => rfl); (case hg => rfl); (case hn => rfl); (case hr => first | (go_simp; done) | (go_simp; rfl)); intro w86 hw; have hg : wr.grownBy w86 (some go81) := (by rw [hw]; exact HP85.2); have hp_ : Kd.R Kd.bool 4 w86 w.heap.size (fun _ => True) (.slice (some ⟨go81, 0, none⟩) x12_3.length co83) y699 := (by rw [hw, Ny699.out]; exact HP85.1); clear HP85; have n0_ := mkA (Kd.R_over' (v := (.slice (some ⟨go81, 0, none⟩) x12_3.length co83)) (by (with_reducible repeat (first | apply Kd.R_alloc | apply Kd.R_drewN | apply Kd.R_drew)); exact HO_6.out) (Kd.R_typed HO_12.out) (by decide) hg); have n1_ := mkA (Kd.S_over' (v := (.slice (some ⟨go81, 0, none⟩) x12_3.length co83)) (by (with_reducible repeat (first | apply Kd.S_alloc | apply Kd.S_drewN | apply Kd.S_drew)); exact HO_8.out) (Kd.R_typed HO_12.out) (by decide) hg); have n2_ := mkA (Kd.R_over' (v := (.slice (some ⟨go81, 0, none⟩) x12_3.length co83)) (by (with_reducible repeat (first | apply Kd.R_alloc | apply Kd.R_drewN | apply Kd.R_drew)); exact HO_10.out) (Kd.R_typed HO_12.out) (by decide) hg); have n3_ := mkA (hp_); have n4_ := mkA (z40 (g := gb640) (o := .cells #[.int .i64 a0_0, .slice A0_1 l0_1.length c0_1, .slice A0_2 l0_2.length c0_2] 25 (0, 0)) (by (with_reducible repeat (first | refine z16 ?_ _ | refine z28 ?_ | refine z26 ?_ _)); exact BK640.out) hg (Kd.R_ne HO_12.out BK640.out (by decide))); have n5_ := mkA (Kd.R_over' (v := (.slice (some ⟨go81, 0, none⟩) x12_3.length co83)) (by (with_reducible repeat (first | apply Kd.R_alloc | apply Kd.R_drewN | apply Kd.R_drew)); exact HL693_0.out) (Kd.R_typed HO_12.out) (by decide) hg); have n6_ := mkA (Kd.R_over' (v := (.slice (some ⟨go81, 0, none⟩) x12_3.length co83)) (by (with_reducible repeat (first | apply Kd.R_alloc | apply Kd.R_drewN | apply Kd.R_drew)); exact HL694_0.out) (Kd.R_typed HO_12.out) (by decide) hg); have n7_ := mkA ((by rw [hw]; exact z15 (HB.out) GB81.out : Below w.heap.size w w86)); clear HO_6; clear HO_8; clear HO_10; clear HO_12; clear BK640; clear HL693_0; clear HL694_0; clear HB; have HO_6 := n0_; have HO_8 := n1_; have HO_10 := n2_; have HO_12 := n3_; have BK640 := n4_; have HL693_0 := n5_; have HL694_0 := n6_; have HB := n7_; clear n0_ n1_ n2_ n3_ n4_ n5_ n6_ n7_; clear hg hw hp_; have p700 : 0 ≤ ((rd (rd_L4 t671 x13_2) x15_3) : Int) := of_decide_eq_true (by first | (with_reducible assumption) | assumption); have q700 : (rd (rd_L4 t671 x13_2) x15_3) < (t657.length : Int) := of_decide_eq_true (by first | (with_reducible assumption) | assumption); obtain ⟨ad700, e700, hx700_0⟩ := Kd.at_int (Kd.R_reads' HO_6.out).2.2 (rd (rd_L4 t671 x13_2) x15_3) p700 q700; obtain rfl : ad698 = ad700 := (by injection e700); replace p700 := eq_true p700; replace q700 := eq_true q700))
                       go_roundg k3
                       case measure => have := HJ16.out; have := HK2.out; have := HK3.out; omega
                       case rel => exact ⟨(y699), (wrap64 (x14_3 + (rd t657 (rd (rd_L4 t671 x13_2) x15_3)))), (wrap64 (x15_3 + 1)), (by first | rfl | (simp; done) | (simp [*]; done)), (by first | rfl | (simp; done) | (simp [*]; done)), H', ⟨by have := HJ16.out; have := HK2.out; have := HK3.out; omega⟩, ⟨by (with_reducible repeat (first | apply Kd.R_alloc | apply Kd.R_drewN | apply Kd.R_drew)); exact HO_6.out⟩, ⟨by (with_reducible repeat (first | apply Kd.S_alloc | apply Kd.S_drewN | apply Kd.S_drew)); exact HO_8.out⟩, ⟨by (with_reducible repeat (first | apply Kd.R_alloc | apply Kd.R_drewN | apply Kd.R_drew)); exact HO_10.out⟩, ⟨by (with_reducible repeat (first | apply Kd.R_alloc | apply Kd.R_drewN | apply Kd.R_drew)); exact HO_12.out⟩, ⟨by (with_reducible repeat (first | refine z16 ?_ _ | refine z28 ?_ | refine z26 ?_ _)); exact BK640.out⟩, ⟨by repeat (first | (with_reducible first | exact HB.out | apply z11 | apply z10 | apply z12 | refine z15 ?_ GE640.out) | exact HB.out)⟩⟩
                     ·rw [if_neg c76] at H
                      exact absurd H (by simp)
                   ·rw [if_neg c71] at H
                    exact absurd H (by simp)
                  ·rw [if_neg c70] at H
                   exact absurd H (by simp)
                 ·replace c69 := Bool.eq_false_iff.mpr c69
                  subst c69
                  have H1 : (some false) = some r := by rw [if_neg (show ¬ (false = true) by decide)] at H; exact H
                  clear H
                  have H := H1
                  clear H1
                  obtain rfl := Option.some.inj H
                  have p693 : 0 ≤ (x13_2 : Int) := of_decide_eq_true (by first | (with_reducible assumption) | assumption)
                  have q693 : x13_2 < (t671.length : Int) := of_decide_eq_true (by first | (with_reducible assumption) | assumption)
                  obtain ⟨ad693, A693_0, c693_0, e693, hx693_0, hl693_0, hi693_0⟩ := at_L4 (Kd.S_reads' HO_8.out).2.2 x13_2 p693 q693
                  cases e693
                  obtain ⟨ce693, hce693, hMe693, hcc693⟩ := Kd.S_get HO_8.out [] x13_2 p693 (by first | exact q693 | exact of_decide_eq_true (by first | (with_reducible assumption) | assumption) | (have e_ := (Kd.S_reads' HO_8.out).1; omega))
                  obtain ⟨ve693_0, rfl, ge693_0⟩ := hMe693
                  have hv693_0 := hcc693 0 _ rfl
                  rw [Nat.add_zero, show ((Kd.slice 3 (Kd.int .i64))).sz = 1 from rfl, Nat.mul_one] at hv693_0
                  replace hv693_0 := Option.some.inj (hv693_0.symm.trans hx693_0)
                  rw [hv693_0] at ge693_0
                  have HL693_0 := mkA (show Kd.R (Kd.int .i64) 3 _ _ _ _ (rd_L4 t671 x13_2) from ge693_0)
                  clear hv693_0 ge693_0
                  clear hcc693 hce693
                  have HR693_0 := mkA hi693_0
                  have HC693_0 := mkA hl693_0
                  clear hi693_0 hl693_0
                  replace p693 := eq_true p693
                  replace q693 := eq_true q693
                  have p694 : 0 ≤ (x13_2 : Int) := of_decide_eq_true (by first | (with_reducible assumption) | assumption)
                  have q694 : x13_2 < (t671.length : Int) := of_decide_eq_true (by first | (with_reducible assumption) | assumption)
                  obtain ⟨ad694, A694_0, c694_0, e694, hx694_0, hl694_0, hi694_0⟩ := at_L4 (Kd.S_reads' HO_8.out).2.2 x13_2 p694 q694
                  obtain rfl : ad693 = ad694 := (by injection e694)
                  obtain ⟨ce694, hce694, hMe694, hcc694⟩ := Kd.S_get HO_8.out [] x13_2 p694 (by first | exact q694 | exact of_decide_eq_true (by first | (with_reducible assumption) | assumption) | (have e_ := (Kd.S_reads' HO_8.out).1; omega))
                  obtain ⟨ve694_0, rfl, ge694_0⟩ := hMe694
                  have hv694_0 := hcc694 0 _ rfl
                  rw [Nat.add_zero, show ((Kd.slice 3 (Kd.int .i64))).sz = 1 from rfl, Nat.mul_one] at hv694_0
                  replace hv694_0 := Option.some.inj (hv694_0.symm.trans hx694_0)
                  rw [hv694_0] at ge694_0
                  have HL694_0 := mkA (show Kd.R (Kd.int .i64) 3 _ _ _ _ (rd_L4 t671 x13_2) from ge694_0)
                  clear hv694_0 ge694_0
                  clear hcc694 hce694
                  have HR694_0 := mkA hi694_0
                  have HC694_0 := mkA hl694_0
                  clear hi694_0 hl694_0
                  replace p694 := eq_true p694
                  replace q694 := eq_true q694
                  have ea_ := Option.some.inj (hx693_0.symm.trans hx694_0)
                  injection ea_ with ea_ en_ ec_
                  subst ea_
                  subst ec_
                  clear en_
                  have p695 : 0 ≤ (x15_3 : Int) := of_decide_eq_true (by first | (with_reducible assumption) | assumption)
                  have q695 : x15_3 < ((rd_L4 t671 x13_2).length : Int) := of_decide_eq_true (by first | (with_reducible assumption) | assumption)
                  obtain ⟨ad695, e695, hx695_0⟩ := Kd.at_int (by repeat (first | (with_reducible exact HR694_0.out) | (with_reducible refine Kd.C_alloc ?_ _) | (with_reducible refine Kd.C_drewN ?_ _) | (with_reducible refine Kd.C_drew ?_) | exact HR694_0.out)) x15_3 p695 q695
                  cases e695
                  replace p695 := eq_true p695
                  replace q695 := eq_true q695
                  have hcz87_0 : wr.cell? ⟨gb640, 0, none⟩ = some (.int .i64 a0_0) := (z13 BK640.out 0).trans rfl
                  have hcz87_1 : wr.cell? ⟨gb640, 1, none⟩ = some (.slice A0_1 l0_1.length c0_1) := (z13 BK640.out 1).trans rfl
                  have hcz87_2 : wr.cell? ⟨gb640, 2, none⟩ = some (.slice A0_2 l0_2.length c0_2) := (z13 BK640.out 2).trans rfl
                  have hfz87_0 := z14 BK640.out 0
                  have hfz87_1 := z14 BK640.out 1
                  have hfz87_2 := z14 BK640.out 2
                  go_wp2_with (first | ((with_reducible refine z22 (f := 59) rfl ?_); refine goesL_ (some 104) rfl rfl Try.func59 (by kernel_rfl) rfl #[.int .i64 (rd (rd_L4 t671 x13_2) x15_3), .int .i64 0, .int .i64 (wrap64 (a0_0 - 1))] rfl (by (try simp only [List.map_toArray, List.map_cons, List.map_nil]); first | done | rfl | (simp only [List.length_drop, List.length_take]; rfl)) ?_; (with_reducible refine (pr_In.calls (rd (rd_L4 t671 x13_2) x15_3) 0 (wrap64 (a0_0 - 1)) false _ A68.out).mono ?_); rintro e w' ⟨rfl, ⟨nd, rfl⟩⟩; refine ⟨_, rfl, ?_⟩))
                  go_ret
                  exact ⟨by first | rfl | (simp [z20, z19] <;> rfl) | (simp [*, z20, z19] <;> rfl), by repeat (first | (with_reducible first | exact HB.out | apply z11 | apply z10 | apply z12 | refine z15 ?_ GE640.out) | exact HB.out)⟩
                ·rw [if_neg c67] at H
                 exact absurd H (by simp)
               ·rw [if_neg c66] at H
                have c66b0 : decide (x15_3 < ((rd_L4 t671 x13_2).length : Int)) = false := decide_eq_false c66
                clear c66
                by_cases c88 : x14_3 = 0
                ·rw [if_pos c88] at H
                 have c88b0 : (x14_3 == 0) = true := beq_iff_eq.mpr c88
                 have c88b1 : (x14_3 != 0) = false := bne_eq_false_iff_eq.mpr c88
                 clear c88
                 by_cases c89 : ((rd_L4 t671 x13_2).length : Int) = 0
                 ·rw [if_pos c89] at H
                  have c89b0 : (((rd_L4 t671 x13_2).length : Int) == 0) = true := beq_iff_eq.mpr c89
                  have c89b1 : (((rd_L4 t671 x13_2).length : Int) != 0) = false := bne_eq_false_iff_eq.mpr c89
                  clear c89
                  obtain rfl := Option.some.inj H
                  have p693 : 0 ≤ (x13_2 : Int) := of_decide_eq_true (by first | (with_reducible assumption) | assumption)
                  have q693 : x13_2 < (t671.length : Int) := of_decide_eq_true (by first | (with_reducible assumption) | assumption)
                  obtain ⟨ad693, A693_0, c693_0, e693, hx693_0, hl693_0, hi693_0⟩ := at_L4 (Kd.S_reads' HO_8.out).2.2 x13_2 p693 q693
                  cases e693
                  obtain ⟨ce693, hce693, hMe693, hcc693⟩ := Kd.S_get HO_8.out [] x13_2 p693 (by first | exact q693 | exact of_decide_eq_true (by first | (with_reducible assumption) | assumption) | (have e_ := (Kd.S_reads' HO_8.out).1; omega))
                  obtain ⟨ve693_0, rfl, ge693_0⟩ := hMe693
                  have hv693_0 := hcc693 0 _ rfl
                  rw [Nat.add_zero, show ((Kd.slice 3 (Kd.int .i64))).sz = 1 from rfl, Nat.mul_one] at hv693_0
                  replace hv693_0 := Option.some.inj (hv693_0.symm.trans hx693_0)
                  rw [hv693_0] at ge693_0
                  have HL693_0 := mkA (show Kd.R (Kd.int .i64) 3 _ _ _ _ (rd_L4 t671 x13_2) from ge693_0)
                  clear hv693_0 ge693_0
                  clear hcc693 hce693
                  have HR693_0 := mkA hi693_0
                  have HC693_0 := mkA hl693_0
                  clear hi693_0 hl693_0
                  replace p693 := eq_true p693
                  replace q693 := eq_true q693
                  have p701 : 0 ≤ (x13_2 : Int) := of_decide_eq_true (by first | (with_reducible assumption) | assumption)
                  have q701 : x13_2 < (t671.length : Int) := of_decide_eq_true (by first | (with_reducible assumption) | assumption)
                  obtain ⟨ad701, A701_0, c701_0, e701, hx701_0, hl701_0, hi701_0⟩ := at_L4 (Kd.S_reads' HO_8.out).2.2 x13_2 p701 q701
                  obtain rfl : ad693 = ad701 := (by injection e701)
                  obtain ⟨ce701, hce701, hMe701, hcc701⟩ := Kd.S_get HO_8.out [] x13_2 p701 (by first | exact q701 | exact of_decide_eq_true (by first | (with_reducible assumption) | assumption) | (have e_ := (Kd.S_reads' HO_8.out).1; omega))
                  obtain ⟨ve701_0, rfl, ge701_0⟩ := hMe701
                  have hv701_0 := hcc701 0 _ rfl
                  rw [Nat.add_zero, show ((Kd.slice 3 (Kd.int .i64))).sz = 1 from rfl, Nat.mul_one] at hv701_0
                  replace hv701_0 := Option.some.inj (hv701_0.symm.trans hx701_0)
                  rw [hv701_0] at ge701_0
                  have HL701_0 := mkA (show Kd.R (Kd.int .i64) 3 _ _ _ _ (rd_L4 t671 x13_2) from ge701_0)
                  clear hv701_0 ge701_0
                  clear hcc701 hce701
                  have HR701_0 := mkA hi701_0
                  have HC701_0 := mkA hl701_0
                  clear hi701_0 hl701_0
                  replace p701 := eq_true p701
                  replace q701 := eq_true q701
                  have ea_ := Option.some.inj (hx693_0.symm.trans hx701_0)
                  injection ea_ with ea_ en_ ec_
                  subst ea_
                  subst ec_
                  clear en_
                  go_wp2
                  go_ret
                  exact ⟨by first | rfl | (simp [z20, z19] <;> rfl) | (simp [*, z20, z19] <;> rfl), by repeat (first | (with_reducible first | exact HB.out | apply z11 | apply z10 | apply z12 | refine z15 ?_ GE640.out) | exact HB.out)⟩
                 ·rw [if_neg c89] at H
                  have c89b0 : (((rd_L4 t671 x13_2).length : Int) == 0) = false := beq_eq_false_iff_ne.mpr c89
                  have c89b1 : (((rd_L4 t671 x13_2).length : Int) != 0) = true := bne_iff_ne.mpr c89
                  have c89b2 : ¬ ((rd_L4 t671 x13_2) = []) := fun h_ => c89 (by rw [h_]; rfl)
                  have H' := mkA H
                  clear H
                  have p693 : 0 ≤ (x13_2 : Int) := of_decide_eq_true (by first | (with_reducible assumption) | assumption)
                  have q693 : x13_2 < (t671.length : Int) := of_decide_eq_true (by first | (with_reducible assumption) | assumption)
                  obtain ⟨ad693, A693_0, c693_0, e693, hx693_0, hl693_0, hi693_0⟩ := at_L4 (Kd.S_reads' HO_8.out).2.2 x13_2 p693 q693
                  cases e693
                  obtain ⟨ce693, hce693, hMe693, hcc693⟩ := Kd.S_get HO_8.out [] x13_2 p693 (by first | exact q693 | exact of_decide_eq_true (by first | (with_reducible assumption) | assumption) | (have e_ := (Kd.S_reads' HO_8.out).1; omega))
                  obtain ⟨ve693_0, rfl, ge693_0⟩ := hMe693
                  have hv693_0 := hcc693 0 _ rfl
                  rw [Nat.add_zero, show ((Kd.slice 3 (Kd.int .i64))).sz = 1 from rfl, Nat.mul_one] at hv693_0
                  replace hv693_0 := Option.some.inj (hv693_0.symm.trans hx693_0)
                  rw [hv693_0] at ge693_0
                  have HL693_0 := mkA (show Kd.R (Kd.int .i64) 3 _ _ _ _ (rd_L4 t671 x13_2) from ge693_0)
                  clear hv693_0 ge693_0
                  clear hcc693 hce693
                  have HR693_0 := mkA hi693_0
                  have HC693_0 := mkA hl693_0
                  clear hi693_0 hl693_0
                  replace p693 := eq_true p693
                  replace q693 := eq_true q693
                  have p701 : 0 ≤ (x13_2 : Int) := of_decide_eq_true (by first | (with_reducible assumption) | assumption)
                  have q701 : x13_2 < (t671.length : Int) := of_decide_eq_true (by first | (with_reducible assumption) | assumption)
                  obtain ⟨ad701, A701_0, c701_0, e701, hx701_0, hl701_0, hi701_0⟩ := at_L4 (Kd.S_reads' HO_8.out).2.2 x13_2 p701 q701
                  obtain rfl : ad693 = ad701 := (by injection e701)
                  obtain ⟨ce701, hce701, hMe701, hcc701⟩ := Kd.S_get HO_8.out [] x13_2 p701 (by first | exact q701 | exact of_decide_eq_true (by first | (with_reducible assumption) | assumption) | (have e_ := (Kd.S_reads' HO_8.out).1; omega))
                  obtain ⟨ve701_0, rfl, ge701_0⟩ := hMe701
                  have hv701_0 := hcc701 0 _ rfl
                  rw [Nat.add_zero, show ((Kd.slice 3 (Kd.int .i64))).sz = 1 from rfl, Nat.mul_one] at hv701_0
                  replace hv701_0 := Option.some.inj (hv701_0.symm.trans hx701_0)
                  rw [hv701_0] at ge701_0
                  have HL701_0 := mkA (show Kd.R (Kd.int .i64) 3 _ _ _ _ (rd_L4 t671 x13_2) from ge701_0)
                  clear hv701_0 ge701_0
                  clear hcc701 hce701
                  have HR701_0 := mkA hi701_0
                  have HC701_0 := mkA hl701_0
                  clear hi701_0 hl701_0
                  replace p701 := eq_true p701
                  replace q701 := eq_true q701
                  have ea_ := Option.some.inj (hx693_0.symm.trans hx701_0)
                  injection ea_ with ea_ en_ ec_
                  subst ea_
                  subst ec_
                  clear en_
                  go_wp2
                  go_roundg k3
                  case measure => have := HJ16.out; have := HK2.out; have := HK3.out; omega
                  case rel => exact ⟨(x12_3), (wrap64 (x13_2 + 1)), (by first | rfl | (simp; done) | (simp [*]; done)), H', ⟨by have := HJ16.out; have := HK2.out; have := HK3.out; omega⟩, ⟨by (with_reducible repeat (first | apply Kd.R_alloc | apply Kd.R_drewN | apply Kd.R_drew)); exact HO_6.out⟩, ⟨by (with_reducible repeat (first | apply Kd.S_alloc | apply Kd.S_drewN | apply Kd.S_drew)); exact HO_8.out⟩, ⟨by (with_reducible repeat (first | apply Kd.R_alloc | apply Kd.R_drewN | apply Kd.R_drew)); exact HO_10.out⟩, ⟨by (with_reducible repeat (first | apply Kd.R_alloc | apply Kd.R_drewN | apply Kd.R_drew)); exact HO_12.out⟩, ⟨by (with_reducible repeat (first | refine z16 ?_ _ | refine z28 ?_ | refine z26 ?_ _)); exact BK640.out⟩, ⟨by repeat (first | (with_reducible first | exact HB.out | apply z11 | apply z10 | apply z12 | refine z15 ?_ GE640.out) | exact HB.out)⟩⟩
                ·rw [if_neg c88] at H
                 have c88b0 : (x14_3 == 0) = false := beq_eq_false_iff_ne.mpr c88
                 have c88b1 : (x14_3 != 0) = true := bne_iff_ne.mpr c88
                 obtain rfl := Option.some.inj H
                 have p693 : 0 ≤ (x13_2 : Int) := of_decide_eq_true (by first | (with_reducible assumption) | assumption)
                 have q693 : x13_2 < (t671.length : Int) := of_decide_eq_true (by first | (with_reducible assumption) | assumption)
                 obtain ⟨ad693, A693_0, c693_0, e693, hx693_0, hl693_0, hi693_0⟩ := at_L4 (Kd.S_reads' HO_8.out).2.2 x13_2 p693 q693
                 cases e693
                 obtain ⟨ce693, hce693, hMe693, hcc693⟩ := Kd.S_get HO_8.out [] x13_2 p693 (by first | exact q693 | exact of_decide_eq_true (by first | (with_reducible assumption) | assumption) | (have e_ := (Kd.S_reads' HO_8.out).1; omega))
                 obtain ⟨ve693_0, rfl, ge693_0⟩ := hMe693
                 have hv693_0 := hcc693 0 _ rfl
                 rw [Nat.add_zero, show ((Kd.slice 3 (Kd.int .i64))).sz = 1 from rfl, Nat.mul_one] at hv693_0
                 replace hv693_0 := Option.some.inj (hv693_0.symm.trans hx693_0)
                 rw [hv693_0] at ge693_0
                 have HL693_0 := mkA (show Kd.R (Kd.int .i64) 3 _ _ _ _ (rd_L4 t671 x13_2) from ge693_0)
                 clear hv693_0 ge693_0
                 clear hcc693 hce693
                 have HR693_0 := mkA hi693_0
                 have HC693_0 := mkA hl693_0
                 clear hi693_0 hl693_0
                 replace p693 := eq_true p693
                 replace q693 := eq_true q693
                 go_wp2
                 go_ret
                 exact ⟨by first | rfl | (simp [z20, z19] <;> rfl) | (simp [*, z20, z19] <;> rfl), by repeat (first | (with_reducible first | exact HB.out | apply z11 | apply z10 | apply z12 | refine z15 ?_ GE640.out) | exact HB.out)⟩
              ·rw [if_neg c65] at H
               exact absurd H (by simp)
             ·rw [if_neg c64] at H
              exact absurd H (by simp)
          ·rw [if_neg c62] at H
           have c62b0 : decide (x13_2 < (t671.length : Int)) = false := decide_eq_false c62
           clear c62
           have H' := mkA H
           clear H
           obtain ⟨Ao90, co90, eo90⟩ := Kd.S_slice HO_8.out
           subst eo90
           go_wp2
           go_loopg [17] k2 (fun kq v17 w' => ∃ (x17_3 : Int), v17 = .int .i64 x17_3 ∧ Aside0 (pl_SoapApart.l2 kq t657 t685 x12_2 x17_3 a0_0 l0_1 l0_2 = some r) ∧ Aside0 (kq ≤ k2) ∧ Aside0 (Kd.R (Kd.int .i64) 3 w' w.heap.size (fun _ => True) v658 t657) ∧ Aside0 (Kd.R k76 76 w' w.heap.size (fun _ => True) v686 t685) ∧ Aside0 (Kd.R Kd.bool 4 w' w.heap.size (fun _ => True) v691 x12_2) ∧ Aside0 (w'.heap[gb640]? = some (.cells #[.int .i64 a0_0, (.slice A0_1 l0_1.length c0_1), (.slice A0_2 l0_2.length c0_2)] 25 (0, 0))) ∧ Aside0 (Below w.heap.size w w'))
           case atStart => exact ⟨(0), (by first | rfl | (simp; done) | (simp [*]; done)), H', ⟨Nat.le_refl _⟩, ⟨by (with_reducible repeat (first | apply Kd.R_alloc | apply Kd.R_drewN | apply Kd.R_drew)); exact HO_6.out⟩, ⟨by (with_reducible repeat (first | apply Kd.R_alloc | apply Kd.R_drewN | apply Kd.R_drew)); exact HO_10.out⟩, ⟨by (with_reducible repeat (first | apply Kd.R_alloc | apply Kd.R_drewN | apply Kd.R_drew)); exact HO_12.out⟩, ⟨by (with_reducible repeat (first | refine z16 ?_ _ | refine z28 ?_ | refine z26 ?_ _)); exact BK640.out⟩, ⟨by repeat (first | (with_reducible first | exact HB.out | apply z11 | apply z10 | apply z12 | refine z15 ?_ GE640.out) | exact HB.out)⟩⟩
           case round =>
            clear H'
            try clear c1
            try clear c2
            try clear p2
            try clear c3
            try clear c4
            try clear c5
            try clear c6
            try clear c6b0
            try clear c6b1
            try clear p6
            try clear q6
            try clear hx6
            try clear c7
            try clear p7
            try clear q7
            try clear hx7
            try clear c8
            try clear p8
            try clear q8
            try clear hx8
            try clear hf8
            try clear c10
            try clear c23
            try clear c29
            try clear c30
            try clear c45
            try clear c46
            try clear c46b0
            try clear c46b1
            try clear c47
            try clear c47b0
            try clear c47b1
            try clear c48
            try clear c48b0
            try clear c48b1
            try clear c49
            try clear c49b0
            try clear c49b1
            try clear c56
            try clear c57
            try clear c57b0
            try clear c57b1
            try clear c58
            try clear c58b0
            try clear c58b1
            try clear c59
            try clear c62
            try clear c62b0
            try clear c64
            try clear c64b0
            try clear p64
            try clear c65
            try clear c65b0
            try clear c66
            try clear c66b0
            try clear c67
            try clear c67b0
            try clear c69
            try clear p69
            try clear q69
            try clear hx69
            try clear c70
            try clear c70b0
            try clear p70
            try clear q70
            try clear hx70
            try clear c71
            try clear c71b0
            try clear q72
            try clear c73
            try clear c76
            try clear c76b0
            try clear c77
            try clear c77b0
            try clear c77b1
            try clear p81
            try clear q81
            try clear hx81
            try clear hf81
            try clear c88
            try clear c88b0
            try clear c88b1
            try clear c89
            try clear c89b0
            try clear c89b1
            try clear c89b2
            try clear hcz19_0
            try clear hcz19_1
            try clear hcz19_2
            try clear hcz24_0
            try clear hcz24_1
            try clear hcz24_2
            try clear hcz32_0
            try clear hcz32_1
            try clear hcz32_2
            try clear hcz39_0
            try clear hcz39_1
            try clear hcz39_2
            try clear hcz52_0
            try clear hcz52_1
            try clear hcz52_2
            try clear hcz55_0
            try clear hcz55_1
            try clear hcz55_2
            try clear hcz59_0
            try clear hcz59_1
            try clear hcz59_2
            try clear hcz74_0
            try clear hcz74_1
            try clear hcz74_2
            try clear hcz78_0
            try clear hcz78_1
            try clear hcz78_2
            try clear hcz82_0
            try clear hcz82_1
            try clear hcz82_2
            try clear hcz87_0
            try clear hcz87_1
            try clear hcz87_2
            try clear hfz19_0
            try clear hfz19_1
            try clear hfz19_2
            try clear hfz24_0
            try clear hfz24_1
            try clear hfz24_2
            try clear hfz32_0
            try clear hfz32_1
            try clear hfz32_2
            try clear hfz39_0
            try clear hfz39_1
            try clear hfz39_2
            try clear hfz52_0
            try clear hfz52_1
            try clear hfz52_2
            try clear hfz55_0
            try clear hfz55_1
            try clear hfz55_2
            try clear hfz59_0
            try clear hfz59_1
            try clear hfz59_2
            try clear hfz74_0
            try clear hfz74_1
            try clear hfz74_2
            try clear hfz78_0
            try clear hfz78_1
            try clear hfz78_2
            try clear hfz82_0
            try clear hfz82_1
            try clear hfz82_2
            try clear hfz87_0
            try clear hfz87_1
            try clear hfz87_2
            try clear hx693_0
            try clear hx694_0
            try clear hx695_0
            try clear hx697_0
            try clear hx698_0
            try clear hx700_0
            try clear hx701_0
            try clear hx81_0
            try clear p2
            try clear p6
            try clear p693
            try clear p694
            try clear p695
            try clear p697
            try clear p698
            try clear p700
            try clear p701
            try clear p81
            try clear q693
            try clear q694
            try clear q695
            try clear q697
            try clear q698
            try clear q700
            try clear q701
            try clear q81
            obtain ⟨x17_3, rfl, HA, HK3, HO_6, HO_10, HO_12, BK640, HB⟩ := hrel
            cases gk with
            | zero => exact absurd HA.out (by simp [pl_SoapApart.l2])
            | succ k3 =>
             have H := HA.out
             clear HA
             simp only [pl_SoapApart.l2] at H
             by_cases c91 : x17_3 < a0_0
             ·rw [if_pos c91] at H
              have c91b0 : decide (x17_3 < a0_0) = true := decide_eq_true c91
              clear c91
              by_cases c92 : 0 ≤ x17_3
              ·rw [if_pos c92] at H
               have c92b0 : decide (0 ≤ x17_3) = true := decide_eq_true c92
               clear c92
               by_cases c93 : x17_3 < (x12_2.length : Int)
               ·rw [if_pos c93] at H
                have c93b0 : decide (x17_3 < (x12_2.length : Int)) = true := decide_eq_true c93
                clear c93
                obtain ⟨bq94, hbq94⟩ : ∃ b_ : Bool, b_ = (rdOf false x12_2 x17_3) := ⟨_, rfl⟩
                replace H : (if bq94 = true then (pl_SoapApart.l2 k3 t657 t685 x12_2 (wrap64 (x17_3 + 1)) a0_0 l0_1 l0_2) else (if x17_3 < (t657.length : Int) then (if (rd t657 x17_3) = 0 then (pl_SoapApart.l2 k3 t657 t685 x12_2 (wrap64 (x17_3 + 1)) a0_0 l0_1 l0_2) else (some false)) else (none))) = some r := by rw [← hbq94] at H; exact H
                have Nbq94 := mkA hbq94
                clear hbq94
                by_cases c95 : bq94 = true
                ·subst c95
                 have H1 : (pl_SoapApart.l2 k3 t657 t685 x12_2 (wrap64 (x17_3 + 1)) a0_0 l0_1 l0_2) = some r := by rw [if_pos rfl] at H; exact H
                 clear H
                 have H := H1
                 clear H1
                 have H' := mkA H
                 clear H
                 have hcz96_0 : wr.cell? ⟨gb640, 0, none⟩ = some (.int .i64 a0_0) := (z13 BK640.out 0).trans rfl
                 have hcz96_1 : wr.cell? ⟨gb640, 1, none⟩ = some (.slice A0_1 l0_1.length c0_1) := (z13 BK640.out 1).trans rfl
                 have hcz96_2 : wr.cell? ⟨gb640, 2, none⟩ = some (.slice A0_2 l0_2.length c0_2) := (z13 BK640.out 2).trans rfl
                 have hfz96_0 := z14 BK640.out 0
                 have hfz96_1 := z14 BK640.out 1
                 have hfz96_2 := z14 BK640.out 2
                 obtain ⟨Ao97, co97, eo97⟩ := Kd.R_slice HO_12.out
                 subst eo97
                 have p702 : 0 ≤ (x17_3 : Int) := of_decide_eq_true (by first | (with_reducible assumption) | assumption)
                 have q702 : x17_3 < (x12_2.length : Int) := of_decide_eq_true (by first | (with_reducible assumption) | assumption)
                 obtain ⟨ad702, e702, hx702_0⟩ := Kd.at_bool (Kd.R_reads' HO_12.out).2.2 x17_3 p702 q702
                 (try rw [← Nbq94.out] at hx702_0)
                 cases e702
                 replace p702 := eq_true p702
                 replace q702 := eq_true q702
                 go_wp2
                 go_roundg k3
                 case measure => have := HJ16.out; have := HK2.out; have := HK3.out; omega
                 case rel => exact ⟨(wrap64 (x17_3 + 1)), (by first | rfl | (simp; done) | (simp [*]; done)), H', ⟨by have := HJ16.out; have := HK2.out; have := HK3.out; omega⟩, ⟨by (with_reducible repeat (first | apply Kd.R_alloc | apply Kd.R_drewN | apply Kd.R_drew)); exact HO_6.out⟩, ⟨by (with_reducible repeat (first | apply Kd.R_alloc | apply Kd.R_drewN | apply Kd.R_drew)); exact HO_10.out⟩, ⟨by (with_reducible repeat (first | apply Kd.R_alloc | apply Kd.R_drewN | apply Kd.R_drew)); exact HO_12.out⟩, ⟨by (with_reducible repeat (first | refine z16 ?_ _ | refine z28 ?_ | refine z26 ?_ _)); exact BK640.out⟩, ⟨by repeat (first | (with_reducible first | exact HB.out | apply z11 | apply z10 | apply z12 | refine z15 ?_ GE640.out) | exact HB.out)⟩⟩
                ·replace c95 := Bool.eq_false_iff.mpr c95
                 subst c95
                 have H1 : (if x17_3 < (t657.length : Int) then (if (rd t657 x17_3) = 0 then (pl_SoapApart.l2 k3 t657 t685 x12_2 (wrap64 (x17_3 + 1)) a0_0 l0_1 l0_2) else (some false)) else (none)) = some r := by rw [if_neg (show ¬ (false = true) by decide)] at H; exact H
                 clear H
                 have H := H1
                 clear H1
                 by_cases c98 : x17_3 < (t657.length : Int)
                 ·rw [if_pos c98] at H
                  have c98b0 : decide (x17_3 < (t657.length : Int)) = true := decide_eq_true c98
                  clear c98
                  by_cases c99 : (rd t657 x17_3) = 0
                  ·rw [if_pos c99] at H
                   have c99b0 : ((rd t657 x17_3) == 0) = true := beq_iff_eq.mpr c99
                   have c99b1 : ((rd t657 x17_3) != 0) = false := bne_eq_false_iff_eq.mpr c99
                   clear c99
                   have H' := mkA H
                   clear H
                   have hcz100_0 : wr.cell? ⟨gb640, 0, none⟩ = some (.int .i64 a0_0) := (z13 BK640.out 0).trans rfl
                   have hcz100_1 : wr.cell? ⟨gb640, 1, none⟩ = some (.slice A0_1 l0_1.length c0_1) := (z13 BK640.out 1).trans rfl
                   have hcz100_2 : wr.cell? ⟨gb640, 2, none⟩ = some (.slice A0_2 l0_2.length c0_2) := (z13 BK640.out 2).trans rfl
                   have hfz100_0 := z14 BK640.out 0
                   have hfz100_1 := z14 BK640.out 1
                   have hfz100_2 := z14 BK640.out 2
                   obtain ⟨Ao101, co101, eo101⟩ := Kd.R_slice HO_12.out
                   subst eo101
                   have p702 : 0 ≤ (x17_3 : Int) := of_decide_eq_true (by first | (with_reducible assumption) | assumption)
                   have q702 : x17_3 < (x12_2.length : Int) := of_decide_eq_true (by first | (with_reducible assumption) | assumption)
                   obtain ⟨ad702, e702, hx702_0⟩ := Kd.at_bool (Kd.R_reads' HO_12.out).2.2 x17_3 p702 q702
                   (try rw [← Nbq94.out] at hx702_0)
                   cases e702
                   replace p702 := eq_true p702
                   replace q702 := eq_true q702
                   obtain ⟨Ao102, co102, eo102⟩ := Kd.R_slice HO_6.out
                   subst eo102
                   have p703 : 0 ≤ (x17_3 : Int) := of_decide_eq_true (by first | (with_reducible assumption) | assumption)
                   have q703 : x17_3 < (t657.length : Int) := of_decide_eq_true (by first | (with_reducible assumption) | assumption)
                   obtain ⟨ad703, e703, hx703_0⟩ := Kd.at_int (Kd.R_reads' HO_6.out).2.2 x17_3 p703 q703
                   cases e703
                   replace p703 := eq_true p703
                   replace q703 := eq_true q703
                   go_wp2
                   go_roundg k3
                   case measure => have := HJ16.out; have := HK2.out; have := HK3.out; omega
                   case rel => exact ⟨(wrap64 (x17_3 + 1)), (by first | rfl | (simp; done) | (simp [*]; done)), H', ⟨by have := HJ16.out; have := HK2.out; have := HK3.out; omega⟩, ⟨by (with_reducible repeat (first | apply Kd.R_alloc | apply Kd.R_drewN | apply Kd.R_drew)); exact HO_6.out⟩, ⟨by (with_reducible repeat (first | apply Kd.R_alloc | apply Kd.R_drewN | apply Kd.R_drew)); exact HO_10.out⟩, ⟨by (with_reducible repeat (first | apply Kd.R_alloc | apply Kd.R_drewN | apply Kd.R_drew)); exact HO_12.out⟩, ⟨by (with_reducible repeat (first | refine z16 ?_ _ | refine z28 ?_ | refine z26 ?_ _)); exact BK640.out⟩, ⟨by repeat (first | (with_reducible first | exact HB.out | apply z11 | apply z10 | apply z12 | refine z15 ?_ GE640.out) | exact HB.out)⟩⟩
                  ·rw [if_neg c99] at H
                   have c99b0 : ((rd t657 x17_3) == 0) = false := beq_eq_false_iff_ne.mpr c99
                   have c99b1 : ((rd t657 x17_3) != 0) = true := bne_iff_ne.mpr c99
                   obtain rfl := Option.some.inj H
                   have hcz103_0 : wr.cell? ⟨gb640, 0, none⟩ = some (.int .i64 a0_0) := (z13 BK640.out 0).trans rfl
                   have hcz103_1 : wr.cell? ⟨gb640, 1, none⟩ = some (.slice A0_1 l0_1.length c0_1) := (z13 BK640.out 1).trans rfl
                   have hcz103_2 : wr.cell? ⟨gb640, 2, none⟩ = some (.slice A0_2 l0_2.length c0_2) := (z13 BK640.out 2).trans rfl
                   have hfz103_0 := z14 BK640.out 0
                   have hfz103_1 := z14 BK640.out 1
                   have hfz103_2 := z14 BK640.out 2
                   obtain ⟨Ao104, co104, eo104⟩ := Kd.R_slice HO_12.out
                   subst eo104
                   have p702 : 0 ≤ (x17_3 : Int) := of_decide_eq_true (by first | (with_reducible assumption) | assumption)
                   have q702 : x17_3 < (x12_2.length : Int) := of_decide_eq_true (by first | (with_reducible assumption) | assumption)
                   obtain ⟨ad702, e702, hx702_0⟩ := Kd.at_bool (Kd.R_reads' HO_12.out).2.2 x17_3 p702 q702
                   (try rw [← Nbq94.out] at hx702_0)
                   cases e702
                   replace p702 := eq_true p702
                   replace q702 := eq_true q702
                   obtain ⟨Ao105, co105, eo105⟩ := Kd.R_slice HO_6.out
                   subst eo105
                   have p703 : 0 ≤ (x17_3 : Int) := of_decide_eq_true (by first | (with_reducible assumption) | assumption)
                   have q703 : x17_3 < (t657.length : Int) := of_decide_eq_true (by first | (with_reducible assumption) | assumption)
                   obtain ⟨ad703, e703, hx703_0⟩ := Kd.at_int (Kd.R_reads' HO_6.out).2.2 x17_3 p703 q703
                   cases e703
                   replace p703 := eq_true p703
                   replace q703 := eq_true q703
                   go_wp2
                   go_ret
                   exact ⟨by first | rfl | (simp [z20, z19] <;> rfl) | (simp [*, z20, z19] <;> rfl), by repeat (first | (with_reducible first | exact HB.out | apply z11 | apply z10 | apply z12 | refine z15 ?_ GE640.out) | exact HB.out)⟩
                 ·rw [if_neg c98] at H
                  exact absurd H (by simp)
               ·rw [if_neg c93] at H
                exact absurd H (by simp)
              ·rw [if_neg c92] at H
               exact absurd H (by simp)
             ·rw [if_neg c91] at H
              have c91b0 : decide (x17_3 < a0_0) = false := decide_eq_false c91
              clear c91
              by_cases c106 : 0 ≤ a0_0
              ·rw [if_pos c106] at H
               have c106b0 := eq_true c106
               have c106b1 : decide (0 ≤ a0_0) = true := decide_eq_true c106
               clear c106
               by_cases c107 : (a0_0 : Int).toNat ≤ 35184372088832
               ·rw [if_pos c107] at H
                have c107b0 := eq_true c107
                have c107b1 : decide ((a0_0 : Int).toNat ≤ 35184372088832) = true := decide_eq_true c107
                clear c107
                obtain ⟨y704, hy704⟩ : ∃ y_ : List Int, y_ = (List.replicate (a0_0 : Int).toNat 0) := ⟨_, rfl⟩
                replace H : ((pl_same.f k3 t657 y704).bind fun t707 => (if (((t685.length : Int) == 0) == t707) = true then ((pl_awake.f).bind fun t708 => (some t708)) else (some false))) = some r := by first | (rw [hy704]; with_reducible exact H) | (have H2_ := (Option.bind_some _ _).symm.trans H; rw [hy704]; with_reducible exact H2_) | (have H2_ := (Option.bind_some _ _).symm.trans H; with_reducible exact H2_) | with_reducible exact H | (rw [hy704]; exact H) | exact H
                have Ny704 := mkA hy704
                clear hy704
                replace H := Option.bind_eq_some_iff.mp H
                obtain ⟨t707, A1080, H⟩ := H
                replace H : (if (((t685.length : Int) == 0) == t707) = true then ((pl_awake.f).bind fun t708 => (some t708)) else (some false)) = some r := H
                have A108 := mkA A1080
                clear A1080
                by_cases c109 : (((t685.length : Int) == 0) == t707) = true
                ·rw [if_pos c109] at H
                 have c109b0 : (((t685.length : Int) == 0) == t707) = true := c109
                 (try (have c109b1 : decide (((t685.length : Int) == 0) = t707) = true := by simpa using c109))
                 (try (have c109b2 : (((t685.length : Int) == 0) == t707) = true := by simpa using c109))
                 clear c109
                 replace H := Option.bind_eq_some_iff.mp H
                 obtain ⟨t708, A1100, H⟩ := H
                 replace H : (some t708) = some r := H
                 have A110 := mkA A1100
                 clear A1100
                 obtain rfl := Option.some.inj H
                 have hcz111_0 : wr.cell? ⟨gb640, 0, none⟩ = some (.int .i64 a0_0) := (z13 BK640.out 0).trans rfl
                 have hcz111_1 : wr.cell? ⟨gb640, 1, none⟩ = some (.slice A0_1 l0_1.length c0_1) := (z13 BK640.out 1).trans rfl
                 have hcz111_2 : wr.cell? ⟨gb640, 2, none⟩ = some (.slice A0_2 l0_2.length c0_2) := (z13 BK640.out 2).trans rfl
                 have hfz111_0 := z14 BK640.out 0
                 have hfz111_1 := z14 BK640.out 1
                 have hfz111_2 := z14 BK640.out 2
                 obtain ⟨Ao112, co112, eo112⟩ := Kd.R_slice HO_10.out
                 subst eo112
                 go_wp2_with (first | ((with_reducible refine z25 (N := 162) rfl ?_); (try (refine z34 (by rfl) ?_; dsimp only)); refine Kd.R_make (Kd.int .i64) _ 3 rfl (N := 162) rfl 37 _ _ rfl a0_0 rfl rfl Try.underlying37 (.int .i64 0) 8 info3 rfl (by decide) (by omega) 0 (ok := fun _ => True) (okp := fun _ => True) rfl (fun _ hk => hk) trivial (of_decide_eq_true (by first | (with_reducible assumption) | assumption)) (Nat.le_trans (Nat.mul_le_mul_right _ (of_decide_eq_true (by first | (with_reducible assumption) | assumption) : a0_0.toNat ≤ 35184372088832)) (by omega)) (Below.refl _ _) (Nat.le_refl _) ?_; intro v705 w113 ho114 hb hg_ hnew_; clear hg_ hnew_; (first | rw [← Ny704.out] at ho114 | (simp only [Int.reduceToNat] at ho114; rw [← Ny704.out] at ho114)); have n0_ := mkA (Kd.R_elder' (by (with_reducible repeat (first | apply Kd.R_alloc | apply Kd.R_drewN | apply Kd.R_drew)); exact HO_6.out) (Kd.R_base ho114) hb); have n1_ := mkA (Kd.R_below (by (with_reducible repeat (first | apply Kd.R_alloc | apply Kd.R_drewN | apply Kd.R_drew)); exact HO_10.out) hb); have n2_ := mkA (Kd.R_below (by (with_reducible repeat (first | apply Kd.R_alloc | apply Kd.R_drewN | apply Kd.R_drew)); exact HO_12.out) hb); have n3_ := mkA (Kd.R_lower (Kd.R_new' ho114 (Kd.R_lt (by (with_reducible repeat (first | apply Kd.R_alloc | apply Kd.R_drewN | apply Kd.R_drew)); exact HO_6.out))) (z18 (by repeat (first | (with_reducible first | exact HB.out | apply z11 | apply z10 | apply z12 | refine z15 ?_ GE640.out) | exact HB.out)))); have n4_ := mkA (blk_below (g := gb640) (o := .cells #[.int .i64 a0_0, .slice A0_1 l0_1.length c0_1, .slice A0_2 l0_2.length c0_2] 25 (0, 0)) (by (with_reducible repeat (first | refine z16 ?_ _ | refine z28 ?_ | refine z26 ?_ _)); exact BK640.out) hb); have n5_ := mkA (z17 (by repeat (first | (with_reducible first | exact HB.out | apply z11 | apply z10 | apply z12 | refine z15 ?_ GE640.out) | exact HB.out)) hb); clear HO_6; clear HO_10; clear HO_12; clear BK640; clear HB; have HO_6 := n0_; have HO_10 := n1_; have HO_12 := n2_; have HO706 := n3_; have BK640 := n4_; have HB := n5_; clear n0_ n1_ n2_ n3_ n4_ n5_; clear hb ho114; obtain ⟨Ao115, co115, eo115⟩ := Kd.R_slice HO_6.out; subst eo115; obtain ⟨Ao116, co116, eo116⟩ := Kd.R_slice HO706.out; subst eo116) | ((with_reducible refine z22 (f := 42) rfl ?_); refine goesL_ (some 163) rfl rfl Try.func42 (by kernel_rfl) rfl #[.slice Ao115 t657.length co115, .slice Ao116 y704.length co116] rfl (by (try simp only [List.map_toArray, List.map_cons, List.map_nil]); first | done | rfl | (simp only [List.length_drop, List.length_take]; rfl)) ?_; (with_reducible refine (pl_same.calls k3 _ _ t657 _ _ y704 t707 _ ?side1 ?side2 ?side3 ?side4 A108.out).mono ?_); (case side1 => repeat (first | exact (Kd.R_reads' HO_6.out).2.2 | (with_reducible refine Kd.C_alloc ?_ _) | (with_reducible refine Kd.C_drewN ?_ _) | (with_reducible refine Kd.C_drew ?_))); (case side2 => exact (Kd.R_reads' HO_6.out).2.1); (case side3 => repeat (first | exact (Kd.R_reads' HO706.out).2.2 | (with_reducible refine Kd.C_alloc ?_ _) | (with_reducible refine Kd.C_drewN ?_ _) | (with_reducible refine Kd.C_drew ?_))); (case side4 => exact (Kd.R_reads' HO706.out).2.1); rintro e w' ⟨rfl, ⟨nd, rfl⟩⟩; refine ⟨_, rfl, ?_⟩) | (go_at_call 21; (with_reducible refine (pl_awake.calls  t708 _ A110.out).mono ?_); rintro e w117 ⟨rfl, hb⟩; have n0_ := mkA (Kd.R_below (by (with_reducible repeat (first | apply Kd.R_alloc | apply Kd.R_drewN | apply Kd.R_drew)); exact HO_6.out) hb); have n1_ := mkA (Kd.R_below (by (with_reducible repeat (first | apply Kd.R_alloc | apply Kd.R_drewN | apply Kd.R_drew)); exact HO_10.out) hb); have n2_ := mkA (Kd.R_below (by (with_reducible repeat (first | apply Kd.R_alloc | apply Kd.R_drewN | apply Kd.R_drew)); exact HO_12.out) hb); have n3_ := mkA (Kd.R_below (by (with_reducible repeat (first | apply Kd.R_alloc | apply Kd.R_drewN | apply Kd.R_drew)); exact HO706.out) hb); have n4_ := mkA (blk_below (g := gb640) (o := .cells #[.int .i64 a0_0, .slice A0_1 l0_1.length c0_1, .slice A0_2 l0_2.length c0_2] 25 (0, 0)) (by (with_reducible repeat (first | refine z16 ?_ _ | refine z28 ?_ | refine z26 ?_ _)); exact BK640.out) hb); have n5_ := mkA (z17 (by repeat (first | (with_reducible first | exact HB.out | apply z11 | apply z10 | apply z12 | refine z15 ?_ GE640.out) | exact HB.out)) hb); clear HO_6; clear HO_10; clear HO_12; clear HO706; clear BK640; clear HB; have HO_6 := n0_; have HO_10 := n1_; have HO_12 := n2_; have HO706 := n3_; have BK640 := n4_; have HB := n5_; clear n0_ n1_ n2_ n3_ n4_ n5_; (try clear hb); (try clear hb2); (try clear hk); (try clear hi)))
                 go_ret
                 exact ⟨by first | rfl | (simp [z20, z19] <;> rfl) | (simp [*, z20, z19] <;> rfl), by repeat (first | (with_reducible first | exact HB.out | apply z11 | apply z10 | apply z12 | refine z15 ?_ GE640.out) | exact HB.out)⟩
                ·rw [if_neg c109] at H
                 have c109b0 : (((t685.length : Int) == 0) == t707) = false := by simpa using c109
                 (try (have c109b1 : decide (((t685.length : Int) == 0) = t707) = false := by simpa using c109))
                 (try (have c109b2 : (((t685.length : Int) == 0) == t707) = false := by simpa using c109))
                 (try (have c109b3 : ¬ (((t685.length : Int) == 0) = t707) := by simpa using c109))
                 clear c109
                 obtain rfl := Option.some.inj H
                 have hcz118_0 : wr.cell? ⟨gb640, 0, none⟩ = some (.int .i64 a0_0) := (z13 BK640.out 0).trans rfl
                 have hcz118_1 : wr.cell? ⟨gb640, 1, none⟩ = some (.slice A0_1 l0_1.length c0_1) := (z13 BK640.out 1).trans rfl
                 have hcz118_2 : wr.cell? ⟨gb640, 2, none⟩ = some (.slice A0_2 l0_2.length c0_2) := (z13 BK640.out 2).trans rfl
                 have hfz118_0 := z14 BK640.out 0
                 have hfz118_1 := z14 BK640.out 1
                 have hfz118_2 := z14 BK640.out 2
                 obtain ⟨Ao119, co119, eo119⟩ := Kd.R_slice HO_10.out
                 subst eo119
                 go_wp2_with (first | ((with_reducible refine z25 (N := 162) rfl ?_); (try (refine z34 (by rfl) ?_; dsimp only)); refine Kd.R_make (Kd.int .i64) _ 3 rfl (N := 162) rfl 37 _ _ rfl a0_0 rfl rfl Try.underlying37 (.int .i64 0) 8 info3 rfl (by decide) (by omega) 0 (ok := fun _ => True) (okp := fun _ => True) rfl (fun _ hk => hk) trivial (of_decide_eq_true (by first | (with_reducible assumption) | assumption)) (Nat.le_trans (Nat.mul_le_mul_right _ (of_decide_eq_true (by first | (with_reducible assumption) | assumption) : a0_0.toNat ≤ 35184372088832)) (by omega)) (Below.refl _ _) (Nat.le_refl _) ?_; intro v705 w120 ho121 hb hg_ hnew_; clear hg_ hnew_; (first | rw [← Ny704.out] at ho121 | (simp only [Int.reduceToNat] at ho121; rw [← Ny704.out] at ho121)); have n0_ := mkA (Kd.R_elder' (by (with_reducible repeat (first | apply Kd.R_alloc | apply Kd.R_drewN | apply Kd.R_drew)); exact HO_6.out) (Kd.R_base ho121) hb); have n1_ := mkA (Kd.R_below (by (with_reducible repeat (first | apply Kd.R_alloc | apply Kd.R_drewN | apply Kd.R_drew)); exact HO_10.out) hb); have n2_ := mkA (Kd.R_below (by (with_reducible repeat (first | apply Kd.R_alloc | apply Kd.R_drewN | apply Kd.R_drew)); exact HO_12.out) hb); have n3_ := mkA (Kd.R_lower (Kd.R_new' ho121 (Kd.R_lt (by (with_reducible repeat (first | apply Kd.R_alloc | apply Kd.R_drewN | apply Kd.R_drew)); exact HO_6.out))) (z18 (by repeat (first | (with_reducible first | exact HB.out | apply z11 | apply z10 | apply z12 | refine z15 ?_ GE640.out) | exact HB.out)))); have n4_ := mkA (blk_below (g := gb640) (o := .cells #[.int .i64 a0_0, .slice A0_1 l0_1.length c0_1, .slice A0_2 l0_2.length c0_2] 25 (0, 0)) (by (with_reducible repeat (first | refine z16 ?_ _ | refine z28 ?_ | refine z26 ?_ _)); exact BK640.out) hb); have n5_ := mkA (z17 (by repeat (first | (with_reducible first | exact HB.out | apply z11 | apply z10 | apply z12 | refine z15 ?_ GE640.out) | exact HB.out)) hb); clear HO_6; clear HO_10; clear HO_12; clear BK640; clear HB; have HO_6 := n0_; have HO_10 := n1_; have HO_12 := n2_; have HO706 := n3_; have BK640 := n4_; have HB := n5_; clear n0_ n1_ n2_ n3_ n4_ n5_; clear hb ho121; obtain ⟨Ao122, co122, eo122⟩ := Kd.R_slice HO_6.out; subst eo122; obtain ⟨Ao123, co123, eo123⟩ := Kd.R_slice HO706.out; subst eo123) | ((with_reducible refine z22 (f := 42) rfl ?_); refine goesL_ (some 163) rfl rfl Try.func42 (by kernel_rfl) rfl #[.slice Ao122 t657.length co122, .slice Ao123 y704.length co123] rfl (by (try simp only [List.map_toArray, List.map_cons, List.map_nil]); first | done | rfl | (simp only [List.length_drop, List.length_take]; rfl)) ?_; (with_reducible refine (pl_same.calls k3 _ _ t657 _ _ y704 t707 _ ?side1 ?side2 ?side3 ?side4 A108.out).mono ?_); (case side1 => repeat (first | exact (Kd.R_reads' HO_6.out).2.2 | (with_reducible refine Kd.C_alloc ?_ _) | (with_reducible refine Kd.C_drewN ?_ _) | (with_reducible refine Kd.C_drew ?_))); (case side2 => exact (Kd.R_reads' HO_6.out).2.1); (case side3 => repeat (first | exact (Kd.R_reads' HO706.out).2.2 | (with_reducible refine Kd.C_alloc ?_ _) | (with_reducible refine Kd.C_drewN ?_ _) | (with_reducible refine Kd.C_drew ?_))); (case side4 => exact (Kd.R_reads' HO706.out).2.1); rintro e w' ⟨rfl, ⟨nd, rfl⟩⟩; refine ⟨_, rfl, ?_⟩))
                 go_ret
                 exact ⟨by first | rfl | (simp [z20, z19] <;> rfl) | (simp [*, z20, z19] <;> rfl), by repeat (first | (with_reducible first | exact HB.out | apply z11 | apply z10 | apply z12 | refine z15 ?_ GE640.out) | exact HB.out)⟩
               ·rw [if_neg c107] at H
                exact absurd H (by simp)
              ·rw [if_neg c106] at H
               exact absurd H (by simp)
       ·rw [if_neg c58] at H
        exact absurd H (by simp)
      ·rw [if_neg c57] at H
       exact absurd H (by simp)
 ·replace c4 := Bool.eq_false_iff.mpr c4
  subst c4
  have H1 : ((pl_awake.f).bind fun t642 => (some t642)) = some r := by rw [if_neg (show ¬ (false = true) by decide)] at H; exact H
  clear H
  have H := H1
  clear H1
  replace H := Option.bind_eq_some_iff.mp H
  obtain ⟨t642, A1240, H⟩ := H
  replace H : (some t642) = some r := H
  have A124 := mkA A1240
  clear A1240
  obtain rfl := Option.some.inj H
  go_enter Try.func10, Try.ntmps10
  go_wp2_with (first | ((with_reducible refine z25 (N := 2) rfl ?_); (try (refine z34 (by rfl) ?_; dsimp only)); refine z23 ?hg (N := 2) ?hd (cs := #[.int .i64 a0_0, .slice A0_1 l0_1.length c0_1, .slice A0_2 l0_2.length c0_2]) (t := 25) ?hr ?_; (case hd => rfl); (case hg => rfl); (case hr => first | (go_simp; done) | (go_simp; rfl)); intro gb640 hg w125 hbox hb; have n0_ := mkA (z17 (by repeat (first | (with_reducible first | exact HB.out | apply z11 | apply z10 | apply z12) | exact HB.out)) hb); have n1_ := mkA (hbox); have n2_ := mkA ((by rw [hg]; exact (z18 (by repeat (first | (with_reducible first | exact HB.out | apply z11 | apply z10 | apply z12) | exact HB.out))) : w.heap.size ≤ gb640)); have n3_ := mkA ((by rw [hg]; exact (z18 (by repeat (first | (with_reducible first | exact HB.out | apply z11 | apply z10 | apply z12) | exact HB.out))) : w.heap.size ≤ gb640)); clear HB; have HB := n0_; have BK640 := n1_; have GW640 := n2_; have GE640 := n3_; clear n0_ n1_ n2_ n3_; clear hb hbox hg; have hcz126_0 : w125.cell? ⟨gb640, 0, none⟩ = some (.int .i64 a0_0) := (z13 BK640.out 0).trans rfl; have hcz126_1 : w125.cell? ⟨gb640, 1, none⟩ = some (.slice A0_1 l0_1.length c0_1) := (z13 BK640.out 1).trans rfl; have hcz126_2 : w125.cell? ⟨gb640, 2, none⟩ = some (.slice A0_2 l0_2.length c0_2) := (z13 BK640.out 2).trans rfl; have hfz126_0 := z14 BK640.out 0; have hfz126_1 := z14 BK640.out 1; have hfz126_2 := z14 BK640.out 2) | ((with_reducible refine z22 (f := 45) rfl ?_); refine goesL_ (some 19) rfl rfl Try.func45 (by kernel_rfl) rfl #[.agg #[.int .i64 a0_0, .slice A0_1 l0_1.length c0_1, .slice A0_2 l0_2.length c0_2]] rfl (by (try simp only [List.map_toArray, List.map_cons, List.map_nil]); first | done | rfl | (simp only [List.length_drop, List.length_take]; rfl)) ?_; (with_reducible refine (pl_ready.calls k a0_0 _ _ l0_1 _ _ l0_2 false _ ?side1 ?side2 ?side3 ?side4 A3.out).mono ?_); (case side1 => repeat (first | exact (Kd.C_below HR0_1.out HB.out) | (with_reducible refine Kd.C_alloc ?_ _) | (with_reducible refine Kd.C_drewN ?_ _) | (with_reducible refine Kd.C_drew ?_))); (case side2 => exact HC0_1.out); (case side3 => repeat (first | exact (Kd.C_below HR0_2.out HB.out) | (with_reducible refine Kd.C_alloc ?_ _) | (with_reducible refine Kd.C_drewN ?_ _) | (with_reducible refine Kd.C_drew ?_))); (case side4 => exact HC0_2.out); rintro e w127 ⟨rfl, hb⟩; refine ⟨_, rfl, ?_⟩; have n0_ := mkA (blk_below (g := gb640) (o := .cells #[.int .i64 a0_0, .slice A0_1 l0_1.length c0_1, .slice A0_2 l0_2.length c0_2] 25 (0, 0)) (by (with_reducible repeat (first | refine z16 ?_ _ | refine z28 ?_ | refine z26 ?_ _)); exact BK640.out) hb); have n1_ := mkA (z17 (by repeat (first | (with_reducible first | exact HB.out | apply z11 | apply z10 | apply z12 | refine z15 ?_ GE640.out) | exact HB.out)) hb); clear BK640; clear HB; have BK640 := n0_; have HB := n1_; clear n0_ n1_; (try clear hb); (try clear hb2); (try clear hk); (try clear hi)) | ((with_reducible refine z22 (f := 21) rfl ?_); refine goesL_ (some 21) rfl rfl Try.func21 (by kernel_rfl) rfl #[] rfl (by (try simp only [List.map_toArray, List.map_cons, List.map_nil]); first | done | rfl | (simp only [List.length_drop, List.length_take]; rfl)) ?_; (with_reducible refine (pl_awake.calls  t642 _ A124.out).mono ?_); rintro e w128 ⟨rfl, hb⟩; refine ⟨_, rfl, ?_⟩; have n0_ := mkA (blk_below (g := gb640) (o := .cells #[.int .i64 a0_0, .slice A0_1 l0_1.length c0_1, .slice A0_2 l0_2.length c0_2] 25 (0, 0)) (by (with_reducible repeat (first | refine z16 ?_ _ | refine z28 ?_ | refine z26 ?_ _)); exact BK640.out) hb); have n1_ := mkA (z17 (by repeat (first | (with_reducible first | exact HB.out | apply z11 | apply z10 | apply z12 | refine z15 ?_ GE640.out) | exact HB.out)) hb); clear BK640; clear HB; have BK640 := n0_; have HB := n1_; clear n0_ n1_; (try clear hb); (try clear hb2); (try clear hk); (try clear hi)))
  go_ret
  exact ⟨by first | rfl | (simp [z20, z19] <;> rfl) | (simp [*, z20, z19] <;> rfl), by repeat (first | (with_reducible first | exact HB.out | apply z11 | apply z10 | apply z12 | refine z15 ?_ GE640.out) | exact HB.out)⟩
end Go.Proofs.Ytncaadckehikpaa.Q
