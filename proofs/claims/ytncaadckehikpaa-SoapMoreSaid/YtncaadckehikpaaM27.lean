/- A part of the proof: contracts of functions and plain facts (Q32). No condition. -/
import Derived.Test.YtncaadckehikpaaM3
import Derived.Test.YtncaadckehikpaaM12
import Derived.Test.YtncaadckehikpaaM14
import Derived.Test.YtncaadckehikpaaM25
import Derived.Test.YtncaadckehikpaaM22
import Derived.Test.YtncaadckehikpaaM23
namespace Go.Proofs.Ytncaadckehikpaa.Q
open Go.RowKit Go.Proofs.YtncaadckehikpaaW.PrintWords Go.Proofs.YtncaadckehikpaaW.PrintLast Go.Proofs.YtncaadckehikpaaW.PrintMore
attribute [local go_sem] z33 z32 max_two min_two   -- for this text's walks alone
set_option linter.unusedVariables false
set_option linter.unusedSimpArgs false
/-! ### pl_SoapMore: function 13 -/
mutual
def pl_SoapMore.j0 : Nat → Bool → Int → List (S91) → List (S94) → Int → List (S91) → List (S94) → Option (Bool)
 | 0, _, _, _, _, _, _, _ => none
 | k + 1, x26, x900000, x900001, x900002, x902000, x902001, x902002 => if x26 = true then ((pl_awake.f).bind fun t916 => (some t916)) else ((pl_Slate.f k x900000 x900001 x900002).bind fun bt917 => ((soap_Leave.f bt917.1 bt917.2.1 bt917.2.2).bind fun bt924 => ((pl_Slate.f k x902000 x902001 x902002).bind fun bt928 => ((soap_Leave.f bt928.1 bt928.2.1 bt928.2.2).bind fun bt935 => (if bt924.2 = 0 then (if bt935.2 = 0 then (if (bt935.1.length : Int) < (bt924.1.length : Int) then (pl_SoapMore.j1 k bt935.1 true x900000 x900001 x900002 x902000 x902001 x902002) else (pl_SoapMore.j1 k bt935.1 (decide ((bt935.1.length : Int) > (wrap64 ((bt924.1.length : Int) + 1)))) x900000 x900001 x900002 x902000 x902001 x902002)) else (pl_SoapMore.j1 k bt935.1 true x900000 x900001 x900002 x902000 x902001 x902002)) else (pl_SoapMore.j1 k bt935.1 true x900000 x900001 x900002 x902000 x902001 x902002))))))
def pl_SoapMore.j1 : Nat → List Int → Bool → Int → List (S91) → List (S94) → Int → List (S91) → List (S94) → Option (Bool)
 | 0, _, _, _, _, _, _, _, _ => none
 | k + 1, x8, x60, x900000, x900001, x900002, x902000, x902001, x902002 => if x60 = true then (some false) else (if (x8.length : Int) > 0 then ((pl_awake.f).bind fun t939 => (some t939)) else ((pl_closer.f x902000 x902001 x902002 x900000 x900001 x900002).bind fun t940 => (if t940 = true then ((pl_awake.f).bind fun t941 => (some t941)) else (some false))))
end
def pl_SoapMore.f (k : Nat) (a0_0 : Int) (l0_1 : List (S91)) (l0_2 : List (S94)) (a1_0 : Int) (a1_1 : Int) (a1_2 : Int) : Option (Bool) := (some (([] : List (S94)) : List (S94))).bind fun y902 => (if y902.length + l0_2.length < 5864062014805 then ((some (y902 ++ l0_2 : List (S94))).bind fun y905 => ((some (([(⟨a1_0, (⟨a1_1, a1_2⟩ : S46)⟩ : S94)] : List (S94)) : List (S94))).bind fun y908 => (if y905.length + y908.length < 5864062014805 then ((some (y905 ++ y908 : List (S94))).bind fun y911 => ((pl_ready.f k a0_0 l0_1 l0_2).bind fun t914 => (if t914 = true then ((pl_ready.f k a0_0 l0_1 y911).bind fun t915 => (pl_SoapMore.j0 k (!t915) a0_0 l0_1 l0_2 a0_0 l0_1 y911)) else (pl_SoapMore.j0 k true a0_0 l0_1 l0_2 a0_0 l0_1 y911)))) else (none)))) else (none))
def pl_SoapMore.T2 : Bool × List (List Nat × List Nat) := (true, [([], []), ([], []), ([1], [1]), ([0, 2], [0, 2]), ([], []), ([4], [4]), ([3, 5, 3], [3, 5]), ([0, 1, 2, 3, 4, 5, 6], []), ([7, 6, 6, 0, 1, 2, 3, 4, 5, 6], [6, 7])])
def pl_SoapMore.B2 : List Nat := [0, 0, 2, 7, 0, 16, 63, 127, 255]
theorem pl_SoapMore.tab2 : rtab .any (opsOf Try.f13 2) = pl_SoapMore.T2 := by kernel_rfl
theorem pl_SoapMore.bits2 : waitsOk pl_SoapMore.T2.2 pl_SoapMore.B2 = true := by kernel_rfl
set_option maxHeartbeats 8000000 in
set_option maxRecDepth 100000 in
theorem pl_SoapMore.calls (k : Nat) (a0_0 : Int) (A0_1 : Option Addr) (c0_1 : Nat) (l0_1 : List (S91)) (A0_2 : Option Addr) (c0_2 : Nat) (l0_2 : List (S94)) (a1_0 : Int) (a1_1 : Int) (a1_2 : Int) (r : Bool) (w : World) (hr0_1 : Kd.C k91 w A0_1 l0_1.length l0_1) (hc0_1 : l0_1.length ≤ c0_1) (hr0_2 : Kd.C k94 w A0_2 l0_2.length l0_2) (hc0_2 : l0_2.length ≤ c0_2) (h : pl_SoapMore.f k a0_0 l0_1 l0_2 a1_0 a1_1 a1_2 = some r) :
  Calls Try.prog 13 #[.agg #[.int .i64 a0_0, .slice A0_1 l0_1.length c0_1, .slice A0_2 l0_2.length c0_2], .agg #[.int .i64 a1_0, .int .i64 a1_1, .int .i64 a1_2]] w fun e w' => e = .returned (.bool r) ∧ Below w.heap.size w w' := by
 have hu25 := Try.underlying25
 have hu94 := Try.underlying94
 have HR0_1 := mkA hr0_1
 have HC0_1 := mkA hc0_1
 clear hr0_1 hc0_1
 have HR0_2 := mkA hr0_2
 have HC0_2 := mkA hc0_2
 clear hr0_2 hc0_2
 have HB := mkA (Below.refl w.heap.size w)
 have H : ((some (([] : List (S94)) : List (S94))).bind fun y902 => (if y902.length + l0_2.length < 5864062014805 then ((some (y902 ++ l0_2 : List (S94))).bind fun y905 => ((some (([(⟨a1_0, (⟨a1_1, a1_2⟩ : S46)⟩ : S94)] : List (S94)) : List (S94))).bind fun y908 => (if y905.length + y908.length < 5864062014805 then ((some (y905 ++ y908 : List (S94))).bind fun y911 => ((pl_ready.f k a0_0 l0_1 l0_2).bind fun t914 => (if t914 = true then ((pl_ready.f k a0_0 l0_1 y911).bind fun t915 => (pl_SoapMore.j0 k (!t915) a0_0 l0_1 l0_2 a0_0 l0_1 y911)) else (pl_SoapMore.j0 k true a0_0 l0_1 l0_2 a0_0 l0_1 y911)))) else (none)))) else (none))) = some r := h
 clear h
 obtain ⟨y902, hy902⟩ : ∃ y_ : List (S94), y_ = (([] : List (S94))) := ⟨_, rfl⟩
 replace H : (if y902.length + l0_2.length < 5864062014805 then ((some (y902 ++ l0_2 : List (S94))).bind fun y905 => ((some (([(⟨a1_0, (⟨a1_1, a1_2⟩ : S46)⟩ : S94)] : List (S94)) : List (S94))).bind fun y908 => (if y905.length + y908.length < 5864062014805 then ((some (y905 ++ y908 : List (S94))).bind fun y911 => ((pl_ready.f k a0_0 l0_1 l0_2).bind fun t914 => (if t914 = true then ((pl_ready.f k a0_0 l0_1 y911).bind fun t915 => (pl_SoapMore.j0 k (!t915) a0_0 l0_1 l0_2 a0_0 l0_1 y911)) else (pl_SoapMore.j0 k true a0_0 l0_1 l0_2 a0_0 l0_1 y911)))) else (none)))) else (none)) = some r := by first | (rw [hy902]; with_reducible exact H) | (have H2_ := (Option.bind_some _ _).symm.trans H; rw [hy902]; with_reducible exact H2_) | (have H2_ := (Option.bind_some _ _).symm.trans H; with_reducible exact H2_) | with_reducible exact H | (rw [hy902]; exact H) | exact H
 have Ny902 := mkA hy902
 clear hy902
 by_cases c3 : y902.length + l0_2.length < 5864062014805
 ·rw [if_pos c3] at H
  have LMc3 := mkA c3
  clear c3
  obtain ⟨y905, hy905⟩ : ∃ y_ : List (S94), y_ = (y902 ++ l0_2) := ⟨_, rfl⟩
  replace H : ((some (([(⟨a1_0, (⟨a1_1, a1_2⟩ : S46)⟩ : S94)] : List (S94)) : List (S94))).bind fun y908 => (if y905.length + y908.length < 5864062014805 then ((some (y905 ++ y908 : List (S94))).bind fun y911 => ((pl_ready.f k a0_0 l0_1 l0_2).bind fun t914 => (if t914 = true then ((pl_ready.f k a0_0 l0_1 y911).bind fun t915 => (pl_SoapMore.j0 k (!t915) a0_0 l0_1 l0_2 a0_0 l0_1 y911)) else (pl_SoapMore.j0 k true a0_0 l0_1 l0_2 a0_0 l0_1 y911)))) else (none))) = some r := by first | (rw [hy905]; with_reducible exact H) | (have H2_ := (Option.bind_some _ _).symm.trans H; rw [hy905]; with_reducible exact H2_) | (have H2_ := (Option.bind_some _ _).symm.trans H; with_reducible exact H2_) | with_reducible exact H | (rw [hy905]; exact H) | exact H
  have Ny905 := mkA hy905
  clear hy905
  obtain ⟨y908, hy908⟩ : ∃ y_ : List (S94), y_ = (([(⟨a1_0, (⟨a1_1, a1_2⟩ : S46)⟩ : S94)] : List (S94))) := ⟨_, rfl⟩
  replace H : (if y905.length + y908.length < 5864062014805 then ((some (y905 ++ y908 : List (S94))).bind fun y911 => ((pl_ready.f k a0_0 l0_1 l0_2).bind fun t914 => (if t914 = true then ((pl_ready.f k a0_0 l0_1 y911).bind fun t915 => (pl_SoapMore.j0 k (!t915) a0_0 l0_1 l0_2 a0_0 l0_1 y911)) else (pl_SoapMore.j0 k true a0_0 l0_1 l0_2 a0_0 l0_1 y911)))) else (none)) = some r := by first | (rw [hy908]; with_reducible exact H) | (have H2_ := (Option.bind_some _ _).symm.trans H; rw [hy908]; with_reducible exact H2_) | (have H2_ := (Option.bind_some _ _).symm.trans H; with_reducible exact H2_) | with_reducible exact H | (rw [hy908]; exact H) | exact H
  have Ny908 := mkA hy908
  clear hy908
  by_cases c4 : y905.length + y908.length < 5864062014805
  ·rw [if_pos c4] at H
   have LMc4 := mkA c4
   clear c4
   obtain ⟨y911, hy911⟩ : ∃ y_ : List (S94), y_ = (y905 ++ y908) := ⟨_, rfl⟩
   replace H : ((pl_ready.f k a0_0 l0_1 l0_2).bind fun t914 => (if t914 = true then ((pl_ready.f k a0_0 l0_1 y911).bind fun t915 => (pl_SoapMore.j0 k (!t915) a0_0 l0_1 l0_2 a0_0 l0_1 y911)) else (pl_SoapMore.j0 k true a0_0 l0_1 l0_2 a0_0 l0_1 y911))) = some r := by first | (rw [hy911]; with_reducible exact H) | (have H2_ := (Option.bind_some _ _).symm.trans H; rw [hy911]; with_reducible exact H2_) | (have H2_ := (Option.bind_some _ _).symm.trans H; with_reducible exact H2_) | with_reducible exact H | (rw [hy911]; exact H) | exact H
   have Ny911 := mkA hy911
   clear hy911
   have HC5 := mkA H
   clear H
   go_enter Try.func13, Try.ntmps13
   try go_wp2_with (first | ((with_reducible refine z27 (N := 2) rfl ?_); (try (refine z34 (by rfl) ?_; dsimp only)); refine z24 ?hg (N := 2) ?hd (cs := #[.int .i64 a0_0, .slice A0_1 l0_1.length c0_1, .slice A0_2 l0_2.length c0_2]) (t := 25) ?hr ?_; (case hd => rfl); (case hg => rfl); (case hr => first | (go_simp; done) | (go_simp; rfl)); intro gb899 hg w6 hbox hb; have n0_ := mkA (z17 (by repeat (first | (with_reducible first | exact HB.out | apply z10 | apply z11 | apply z12) | exact HB.out)) hb); have n1_ := mkA (hbox); have n2_ := mkA ((by rw [hg]; exact (z18 (by repeat (first | (with_reducible first | exact HB.out | apply z10 | apply z11 | apply z12) | exact HB.out))) : w.heap.size ≤ gb899)); have n3_ := mkA ((by rw [hg]; exact (z18 (by repeat (first | (with_reducible first | exact HB.out | apply z10 | apply z11 | apply z12) | exact HB.out))) : w.heap.size ≤ gb899)); clear HB; have HB := n0_; have BK899 := n1_; have GW899 := n2_; have GE899 := n3_; clear n0_ n1_ n2_ n3_; clear hb hbox hg) | ((with_reducible refine z27 (N := 3) rfl ?_); (try (refine z34 (by rfl) ?_; dsimp only)); refine z24 ?hg (N := 3) ?hd (cs := #[.int .i64 a1_0, .int .i64 a1_1, .int .i64 a1_2]) (t := 94) ?hr ?_; (case hd => rfl); (case hg => rfl); (case hr => first | (go_simp; done) | (go_simp; rfl)); intro gb900 hg w7 hbox hb; have n0_ := mkA (blk_below (g := gb899) (o := .cells #[.int .i64 a0_0, .slice A0_1 l0_1.length c0_1, .slice A0_2 l0_2.length c0_2] 25 (0, 0)) (by (with_reducible repeat (first | refine z16 ?_ _ | refine z20 ?_ | refine z19 ?_ _)); exact BK899.out) hb); have n1_ := mkA (z17 (by repeat (first | (with_reducible first | exact HB.out | apply z10 | apply z11 | apply z12 | refine z14 ?_ GE899.out) | exact HB.out)) hb); have n2_ := mkA (hbox); have n3_ := mkA ((by rw [hg]; exact (z18 (by repeat (first | (with_reducible first | exact HB.out | apply z10 | apply z11 | apply z12 | refine z14 ?_ GE899.out) | exact HB.out))) : w.heap.size ≤ gb900)); have n4_ := mkA ((by rw [hg]; exact (z18 (by repeat (first | (with_reducible first | exact HB.out | apply z10 | apply z11 | apply z12 | refine z14 ?_ GE899.out) | exact HB.out))) : w.heap.size ≤ gb900)); have n5_ := mkA ((by rw [hg]; exact Nat.ne_of_lt (blk_lt (g := gb899) (o := .cells #[.int .i64 a0_0, .slice A0_1 l0_1.length c0_1, .slice A0_2 l0_2.length c0_2] 25 (0, 0)) (by (with_reducible repeat (first | refine z16 ?_ _ | refine z20 ?_ | refine z19 ?_ _)); exact BK899.out)) : gb899 ≠ gb900)); have n6_ := mkA ((by rw [hg]; exact Nat.ne_of_gt (blk_lt (g := gb899) (o := .cells #[.int .i64 a0_0, .slice A0_1 l0_1.length c0_1, .slice A0_2 l0_2.length c0_2] 25 (0, 0)) (by (with_reducible repeat (first | refine z16 ?_ _ | refine z20 ?_ | refine z19 ?_ _)); exact BK899.out)) : gb900 ≠ gb899)); clear BK899; clear HB; have BK899 := n0_; have HB := n1_; have BK900 := n2_; have GW900 := n3_; have GE900 := n4_; have NB899_900 := n5_; have NB900_899 := n6_; clear n0_ n1_ n2_ n3_ n4_ n5_ n6_; clear hb hbox hg; have hnb8 := NB899_900.out; have hnc8 := NB900_899.out; have hcz9_0 : w7.cell? ⟨gb899, 0, none⟩ = some (.int .i64 a0_0) := (z13 BK899.out 0).trans rfl; have hcz9_1 : w7.cell? ⟨gb899, 1, none⟩ = some (.slice A0_1 l0_1.length c0_1) := (z13 BK899.out 1).trans rfl; have hcz9_2 : w7.cell? ⟨gb899, 2, none⟩ = some (.slice A0_2 l0_2.length c0_2) := (z13 BK899.out 2).trans rfl; have hfz9_0 := z15 BK899.out 0; have hfz9_1 := z15 BK899.out 1; have hfz9_2 := z15 BK899.out 2) | ((with_reducible refine z27 (N := 5) rfl ?_); (try (refine z34 (by rfl) ?_; dsimp only)); refine z24 ?hg (N := 5) ?hd (cs := #[.int .i64 0, .slice none 0 0, .slice none 0 0]) (t := 25) ?hr ?_; (case hd => rfl); (case hg => rfl); (case hr => first | (go_simp; done) | (go_simp; rfl)); intro gb901 hg w10 hbox hb; have n0_ := mkA (blk_below (g := gb899) (o := .cells #[.int .i64 a0_0, .slice A0_1 l0_1.length c0_1, .slice A0_2 l0_2.length c0_2] 25 (0, 0)) (by (with_reducible repeat (first | refine z16 ?_ _ | refine z20 ?_ | refine z19 ?_ _)); exact BK899.out) hb); have n1_ := mkA (blk_below (g := gb900) (o := .cells #[.int .i64 a1_0, .int .i64 a1_1, .int .i64 a1_2] 94 (0, 0)) (by (with_reducible repeat (first | refine z16 ?_ _ | refine z20 ?_ | refine z19 ?_ _)); exact BK900.out) hb); have n2_ := mkA (z17 (by repeat (first | (with_reducible first | exact HB.out | apply z10 | apply z11 | apply z12 | refine z14 ?_ GE899.out | refine z14 ?_ GE900.out) | exact HB.out)) hb); have n3_ := mkA (hbox); have n4_ := mkA ((by rw [hg]; exact (z18 (by repeat (first | (with_reducible first | exact HB.out | apply z10 | apply z11 | apply z12 | refine z14 ?_ GE899.out | refine z14 ?_ GE900.out) | exact HB.out))) : w.heap.size ≤ gb901)); have n5_ := mkA ((by rw [hg]; exact (z18 (by repeat (first | (with_reducible first | exact HB.out | apply z10 | apply z11 | apply z12 | refine z14 ?_ GE899.out | refine z14 ?_ GE900.out) | exact HB.out))) : w.heap.size ≤ gb901)); have n6_ := mkA ((by rw [hg]; exact Nat.ne_of_lt (blk_lt (g := gb899) (o := .cells #[.int .i64 a0_0, .slice A0_1 l0_1.length c0_1, .slice A0_2 l0_2.length c0_2] 25 (0, 0)) (by (with_reducible repeat (first | refine z16 ?_ _ | refine z20 ?_ | refine z19 ?_ _)); exact BK899.out)) : gb899 ≠ gb901)); have n7_ := mkA ((by rw [hg]; exact Nat.ne_of_gt (blk_lt (g := gb899) (o := .cells #[.int .i64 a0_0, .slice A0_1 l0_1.length c0_1, .slice A0_2 l0_2.length c0_2] 25 (0, 0)) (by (with_reducible repeat (first | refine z16 ?_ _ | refine z20 ?_ | refine z19 ?_ _)); exact BK899.out)) : gb901 ≠ gb899)); have n8_ := mkA ((by rw [hg]; exact Nat.ne_of_lt (blk_lt (g := gb900) (o := .cells #[.int .i64 a1_0, .int .i64 a1_1, .int .i64 a1_2] 94 (0, 0)) (by (with_reducible repeat (first | refine z16 ?_ _ | refine z20 ?_ | refine z19 ?_ _)); exact BK900.out)) : gb900 ≠ gb901)); have n9_ := mkA ((by rw [hg]; exact Nat.ne_of_gt (blk_lt (g := gb900) (o := .cells #[.int .i64 a1_0, .int .i64 a1_1, .int .i64 a1_2] 94 (0, 0)) (by (with_reducible repeat (first | refine z16 ?_ _ | refine z20 ?_ | refine z19 ?_ _)); exact BK900.out)) : gb901 ≠ gb900)); clear BK899; clear BK900; clear HB; have BK899 := n0_; have BK900 := n1_; have HB := n2_; have BK901 := n3_; have GW901 := n4_; have GE901 := n5_; have NB899_901 := n6_; have NB901_899 := n7_; have NB900_901 := n8_; have NB901_900 := n9_; clear n0_ n1_ n2_ n3_ n4_ n5_ n6_ n7_ n8_ n9_; clear hb hbox hg; have hnb11 := NB901_899.out; have hnc11 := NB899_901.out; have hnb12 := NB901_900.out; have hnc12 := NB900_901.out; have hcz13_0 : w10.cell? ⟨gb901, 0, none⟩ = some (.int .i64 0) := (z13 BK901.out 0).trans rfl; have hcz13_1 : w10.cell? ⟨gb901, 1, none⟩ = some (.slice none 0 0) := (z13 BK901.out 1).trans rfl; have hcz13_2 : w10.cell? ⟨gb901, 2, none⟩ = some (.slice none 0 0) := (z13 BK901.out 2).trans rfl; have hfz13_0 := z15 BK901.out 0; have hfz13_1 := z15 BK901.out 1; have hfz13_2 := z15 BK901.out 2))
   have n0_ : Aside0 ((((w10.setCell ⟨gb901, 0, none⟩ (.int .i64 a0_0)).setCell ⟨gb901, 1, none⟩ (.slice A0_1 l0_1.length c0_1)).setCell ⟨gb901, 2, none⟩ (.slice A0_2 l0_2.length c0_2)).heap[gb899]? = some (.cells #[.int .i64 a0_0, .slice A0_1 l0_1.length c0_1, .slice A0_2 l0_2.length c0_2] 25 (0, 0))) := ⟨by (with_reducible repeat (first | refine z16 ?_ _ | refine z20 ?_ | refine z19 ?_ _)); refine blk_far ?_ NB899_901.out _; (with_reducible repeat (first | refine z16 ?_ _ | refine z20 ?_ | refine z19 ?_ _)); refine blk_far ?_ NB899_901.out _; (with_reducible repeat (first | refine z16 ?_ _ | refine z20 ?_ | refine z19 ?_ _)); refine blk_far ?_ NB899_901.out _; (with_reducible repeat (first | refine z16 ?_ _ | refine z20 ?_ | refine z19 ?_ _)); exact BK899.out⟩
   have n1_ : Aside0 ((((w10.setCell ⟨gb901, 0, none⟩ (.int .i64 a0_0)).setCell ⟨gb901, 1, none⟩ (.slice A0_1 l0_1.length c0_1)).setCell ⟨gb901, 2, none⟩ (.slice A0_2 l0_2.length c0_2)).heap[gb900]? = some (.cells #[.int .i64 a1_0, .int .i64 a1_1, .int .i64 a1_2] 94 (0, 0))) := ⟨by (with_reducible repeat (first | refine z16 ?_ _ | refine z20 ?_ | refine z19 ?_ _)); refine blk_far ?_ NB900_901.out _; (with_reducible repeat (first | refine z16 ?_ _ | refine z20 ?_ | refine z19 ?_ _)); refine blk_far ?_ NB900_901.out _; (with_reducible repeat (first | refine z16 ?_ _ | refine z20 ?_ | refine z19 ?_ _)); refine blk_far ?_ NB900_901.out _; (with_reducible repeat (first | refine z16 ?_ _ | refine z20 ?_ | refine z19 ?_ _)); exact BK900.out⟩
   have n2_ : Aside0 ((((w10.setCell ⟨gb901, 0, none⟩ (.int .i64 a0_0)).setCell ⟨gb901, 1, none⟩ (.slice A0_1 l0_1.length c0_1)).setCell ⟨gb901, 2, none⟩ (.slice A0_2 l0_2.length c0_2)).heap[gb901]? = some (.cells #[.int .i64 a0_0, .slice A0_1 l0_1.length c0_1, .slice A0_2 l0_2.length c0_2] 25 (0, 0))) := ⟨by (with_reducible repeat (first | refine z16 ?_ _ | refine z20 ?_ | refine z19 ?_ _)); refine blk_put (cs := #[.int .i64 a0_0, .slice A0_1 l0_1.length c0_1, .slice none 0 0]) ?_ 2 _ rfl; (with_reducible repeat (first | refine z16 ?_ _ | refine z20 ?_ | refine z19 ?_ _)); refine blk_put (cs := #[.int .i64 a0_0, .slice none 0 0, .slice none 0 0]) ?_ 1 _ rfl; (with_reducible repeat (first | refine z16 ?_ _ | refine z20 ?_ | refine z19 ?_ _)); refine blk_put (cs := #[.int .i64 0, .slice none 0 0, .slice none 0 0]) ?_ 0 _ rfl; (with_reducible repeat (first | refine z16 ?_ _ | refine z20 ?_ | refine z19 ?_ _)); exact BK901.out⟩
   have n3_ : Aside0 (Below w.heap.size w (((w10.setCell ⟨gb901, 0, none⟩ (.int .i64 a0_0)).setCell ⟨gb901, 1, none⟩ (.slice A0_1 l0_1.length c0_1)).setCell ⟨gb901, 2, none⟩ (.slice A0_2 l0_2.length c0_2))) := ⟨by repeat (first | (with_reducible first | exact HB.out | apply z10 | apply z11 | apply z12 | refine z14 ?_ GE899.out | refine z14 ?_ GE900.out | refine z14 ?_ GE901.out) | exact HB.out)⟩
   (try clear BK899)
   (try clear BK900)
   (try clear BK901)
   (try clear HB)
   generalize (((w10.setCell ⟨gb901, 0, none⟩ (.int .i64 a0_0)).setCell ⟨gb901, 1, none⟩ (.slice A0_1 l0_1.length c0_1)).setCell ⟨gb901, 2, none⟩ (.slice A0_2 l0_2.length c0_2)) = w14 at n0_ n1_ n2_ n3_ ⊢
   have BK899 := n0_
   have BK900 := n1_
   have BK901 := n2_
   have HB := n3_
   clear n0_ n1_ n2_ n3_
   have n0_ := mkA (z20 BK899.out)
   have n1_ := mkA (z20 BK900.out)
   have n2_ := mkA (z20 BK901.out)
   have n3_ := mkA (z12 HB.out)
   clear BK899
   clear BK900
   clear BK901
   clear HB
   have BK899 := n0_
   have BK900 := n1_
   have BK901 := n2_
   have HB := n3_
   clear n0_ n1_ n2_ n3_
   refine start_ (n := 9) (S := fun w' => w'.cell? ⟨gb899, 0, none⟩ = some (.int .i64 a0_0) ∧ w'.cell? ⟨gb899, 1, none⟩ = some (.slice A0_1 l0_1.length c0_1) ∧ w'.cell? ⟨gb899, 2, none⟩ = some (.slice A0_2 l0_2.length c0_2) ∧ w'.cell? ⟨gb900, 0, none⟩ = some (.int .i64 a1_0) ∧ w'.cell? ⟨gb900, 1, none⟩ = some (.int .i64 a1_1) ∧ w'.cell? ⟨gb900, 2, none⟩ = some (.int .i64 a1_2)) (ds := []) #[false, false, false, false, false, false, false, false, false] (by kernel_rfl) rfl rfl ⟨(z13 BK899.out 0).trans rfl, (z13 BK899.out 1).trans rfl, (z13 BK899.out 2).trans rfl, (z13 BK900.out 0).trans rfl, (z13 BK900.out 1).trans rfl, (z13 BK900.out 2).trans rfl⟩ (fun hHeld => ?_); refine with_tabW pl_SoapMore.tab2 pl_SoapMore.bits2 (fun HT_ HW_ => ?_)
   generalize w14.drew = w15 at BK899 BK900 BK901 HB hHeld ⊢
   refine pure_ (i := 1) (N := some 12) (v := ?_) (a' := ?_) #[false, true, false, false, false, false, false, false, false] rfl rfl (any_of HT_.out (by kernel_rfl)) (fun _ _ _ h => h) (Or.inl ⟨by rfl, ?_⟩) ?_ ?_
   rotate_left
   ·intro w'
    go_simp
    with_reducible rfl
   rotate_left
   ·simp only [Act.put, xq1, xq2, xq3, i64_w, i32_w]
    rfl
   refine take_ (i := 2) (N := some 13) (v := ?_) (a' := ?_) #[false, true, true, false, false, false, false, false, false] rfl rfl (z41 HT_.out HW_.out (by kernel_rfl)) (fun _ _ _ h => h) (Or.inl ⟨by rfl, ?_⟩) hHeld ?_ ?_
   rotate_left
   ·rintro w' ⟨s0, s1, s2, s3, s4, s5⟩
    go_simp
    with_reducible rfl
   rotate_left
   ·simp only [Act.put, xq1, xq2, xq3, i64_w, i32_w]
    rfl
   refine take_ (i := 4) (N := some 15) (v := ?_) (a' := ?_) #[false, true, true, false, true, false, false, false, false] rfl rfl (z41 HT_.out HW_.out (by kernel_rfl)) (fun _ _ _ h => h) (Or.inl ⟨by rfl, ?_⟩) hHeld ?_ ?_
   rotate_left
   ·rintro w' ⟨s0, s1, s2, s3, s4, s5⟩
    go_simp
    with_reducible rfl
   rotate_left
   ·simp only [Act.put, xq1, xq2, xq3, i64_w, i32_w]
    rfl
   refine join_ (σ := Value × Value × Value) 3 #[true, true, true, true, true, true, false, false, false] (fun s_ => [(11, s_.1), (14, s_.2.1), (16, s_.2.2)]) (fun s_ w' => (w'.cell? ⟨gb899, 0, none⟩ = some (.int .i64 a0_0) ∧ w'.cell? ⟨gb899, 1, none⟩ = some (.slice A0_1 l0_1.length c0_1) ∧ w'.cell? ⟨gb899, 2, none⟩ = some (.slice A0_2 l0_2.length c0_2) ∧ w'.cell? ⟨gb900, 0, none⟩ = some (.int .i64 a1_0) ∧ w'.cell? ⟨gb900, 1, none⟩ = some (.int .i64 a1_1) ∧ w'.cell? ⟨gb900, 2, none⟩ = some (.int .i64 a1_2)) ∧ (Kd.R k94 94 w' w.heap.size (fun k_ => some k_ ≠ (s_.2.2 : Value).ownBlock ∧ k_ ≠ gb900) s_.2.1 y905) ∧ (Kd.R k94 94 w' w.heap.size (fun k_ => some k_ ≠ (s_.2.1 : Value).ownBlock ∧ k_ ≠ gb900) s_.2.2 y908) ∧ (w'.heap[gb899]? = some (.cells #[.int .i64 a0_0, .slice A0_1 l0_1.length c0_1, .slice A0_2 l0_2.length c0_2] 25 (0, 0))) ∧ (w'.heap[gb900]? = some (.cells #[.int .i64 a1_0, .int .i64 a1_1, .int .i64 a1_2] 94 (0, 0))) ∧ (w'.heap[gb901]? = some (.cells #[.int .i64 a0_0, .slice A0_1 l0_1.length c0_1, .slice A0_2 l0_2.length c0_2] 25 (0, 0))) ∧ (Below w.heap.size w w')) ?_ ?_
   rotate_left
   ·intro hCont
    refine two_ (i := 0) (j := 5) (Ni := some 11) (Nj := some 16) #[true, true, true, false, true, false, false, false, false] #[false, true, true, false, true, true, false, false, false] rfl rfl rfl rfl (two_of HT_.out (by kernel_rfl)) (by decide) (by decide) (fun K hK => ?_) (fun K hK => ?_)
    ·skip
     refine Kd.R_lit_step k94 _ 94 ?hg (N := 11) ?hd (xs := ([] : List (S94))) (inner := []) (ok := fun _ => True) (okp := fun _ => True) ?hr ?hp (fun _ hk => hk) trivial (Below.refl _ _) (Nat.le_refl _) (by simp) ?_; (case hd => rfl); (case hg => rfl); (case hr => first | (go_simp; done) | (go_simp; rfl)); (case hp => exact (Reps.none _ _))
     intro v903 w16 ho17 hb hg_ hnew_
     clear hg_ hnew_
     (first | rw [← Ny902.out] at ho17 | (simp only [Int.reduceToNat] at ho17; rw [← Ny902.out] at ho17))
     have n0_ := mkA (Kd.R_lower (Kd.R_newB ho17 (g := gb900) (o := .cells #[.int .i64 a1_0, .int .i64 a1_1, .int .i64 a1_2] 94 (0, 0)) (by (with_reducible repeat (first | refine z16 ?_ _ | refine z20 ?_ | refine z19 ?_ _)); exact BK900.out)) (z18 (by repeat (first | (with_reducible first | exact HB.out | apply z10 | apply z11 | apply z12 | refine z14 ?_ GE899.out | refine z14 ?_ GE900.out | refine z14 ?_ GE901.out) | exact HB.out))))
     have n1_ := mkA (blk_below (g := gb899) (o := .cells #[.int .i64 a0_0, .slice A0_1 l0_1.length c0_1, .slice A0_2 l0_2.length c0_2] 25 (0, 0)) (by (with_reducible repeat (first | refine z16 ?_ _ | refine z20 ?_ | refine z19 ?_ _)); exact BK899.out) hb)
     have n2_ := mkA (blk_below (g := gb900) (o := .cells #[.int .i64 a1_0, .int .i64 a1_1, .int .i64 a1_2] 94 (0, 0)) (by (with_reducible repeat (first | refine z16 ?_ _ | refine z20 ?_ | refine z19 ?_ _)); exact BK900.out) hb)
     have n3_ := mkA (blk_below (g := gb901) (o := .cells #[.int .i64 a0_0, .slice A0_1 l0_1.length c0_1, .slice A0_2 l0_2.length c0_2] 25 (0, 0)) (by (with_reducible repeat (first | refine z16 ?_ _ | refine z20 ?_ | refine z19 ?_ _)); exact BK901.out) hb)
     have n4_ := mkA (z17 (by repeat (first | (with_reducible first | exact HB.out | apply z10 | apply z11 | apply z12 | refine z14 ?_ GE899.out | refine z14 ?_ GE900.out | refine z14 ?_ GE901.out) | exact HB.out)) hb)
     clear BK899
     clear BK900
     clear BK901
     clear HB
     have HO904 := n0_
     have BK899 := n1_
     have BK900 := n2_
     have BK901 := n3_
     have HB := n4_
     clear n0_ n1_ n2_ n3_ n4_
     clear hb ho17
     refine hK.out _ _ ⟨(z13 BK899.out 0).trans rfl, (z13 BK899.out 1).trans rfl, (z13 BK899.out 2).trans rfl, (z13 BK900.out 0).trans rfl, (z13 BK900.out 1).trans rfl, (z13 BK900.out 2).trans rfl⟩ (fun hHeld => ?_)
     clear hK K
     refine norm_ (a' := ?_) ?_ ?_
     rotate_left
     ·show Act.put _ (some 11) _ = _
      simp only [Act.put, xq1, xq2, xq3, i64_w, i32_w]
      rfl
     refine two_ (i := 3) (j := 5) (Ni := some 14) (Nj := some 16) #[true, true, true, true, true, false, false, false, false] #[true, true, true, false, true, true, false, false, false] rfl rfl rfl rfl (two_of HT_.out (by kernel_rfl)) (by decide) (by decide) (fun K hK => ?_) (fun K hK => ?_)
     ·skip
      refine Kd.R_append_rows_step k94 (w0 := w) w.heap.size (by rfl) (.tmp 11) (.tmp 13) 23 94 (.agg #[(.int .i64 0), (.int .i64 0), (.int .i64 0)]) 24 rfl Try.underlying23 info94 rfl (by decide) (by omega) v903 y902 l0_2 _ _ _ (fun k_ => k_ ≠ gb900) (fun _ => False) rfl rfl ?aO ?aR (fun _ _ h => h) (fun _ h => h.elim) ?aF ?aB ?aS ?aL ?_
      (case aR => repeat (first | exact (Kd.C_below HR0_2.out HB.out) | (with_reducible refine Kd.C_alloc ?_ _) | (with_reducible refine Kd.C_drewN ?_ _) | (with_reducible refine Kd.C_drew ?_)))
      (case aB => exact (by repeat (first | (with_reducible first | exact HB.out | apply z10 | apply z11 | apply z12 | refine z14 ?_ GE899.out | refine z14 ?_ GE900.out | refine z14 ?_ GE901.out) | exact HB.out)))
      (case aF => exact (fun k_ hk => Kd.freshB (g := gb900) (o := .cells #[.int .i64 a1_0, .int .i64 a1_1, .int .i64 a1_2] 94 (0, 0)) (by (with_reducible repeat (first | refine z16 ?_ _ | refine z20 ?_ | refine z19 ?_ _)); exact BK900.out) k_ hk))
      (case aO => exact (by (with_reducible repeat (first | apply Kd.R_alloc | apply Kd.R_drewN | apply Kd.R_drew)); exact Kd.R_mono HO904.out (fun _ hk => hk.2)))
      (case aS => exact (z18 (by repeat (first | (with_reducible first | exact HB.out | apply z10 | apply z11 | apply z12 | refine z14 ?_ GE899.out | refine z14 ?_ GE900.out | refine z14 ?_ GE901.out) | exact HB.out))))
      (case aL => have := LMc3.out; omega)
      intro v906 w18 ho hb hg hat
      rw [← Ny905.out] at ho
      have n0_ := mkA (z31 (g := gb899) (o := .cells #[.int .i64 a0_0, .slice A0_1 l0_1.length c0_1, .slice A0_2 l0_2.length c0_2] 25 (0, 0)) (by (with_reducible repeat (first | refine z16 ?_ _ | refine z20 ?_ | refine z19 ?_ _)); exact BK899.out) hg (Kd.R_ne HO904.out BK899.out (by decide)))
      have n1_ := mkA (z31 (g := gb900) (o := .cells #[.int .i64 a1_0, .int .i64 a1_1, .int .i64 a1_2] 94 (0, 0)) (by (with_reducible repeat (first | refine z16 ?_ _ | refine z20 ?_ | refine z19 ?_ _)); exact BK900.out) hg (Kd.R_away HO904.out (fun _ hk => hk.2)))
      have n2_ := mkA (z31 (g := gb901) (o := .cells #[.int .i64 a0_0, .slice A0_1 l0_1.length c0_1, .slice A0_2 l0_2.length c0_2] 25 (0, 0)) (by (with_reducible repeat (first | refine z16 ?_ _ | refine z20 ?_ | refine z19 ?_ _)); exact BK901.out) hg (Kd.R_ne HO904.out BK901.out (by decide)))
      have n3_ := mkA (hb)
      have n4_ := mkA (ho)
      clear BK899
      clear BK900
      clear BK901
      clear HB
      clear HO904
      have BK899 := n0_
      have BK900 := n1_
      have BK901 := n2_
      have HB := n3_
      have HO907 := n4_
      clear n0_ n1_ n2_ n3_ n4_
      clear ho hb hg hat
      refine hK.out _ _ ⟨(z13 BK899.out 0).trans rfl, (z13 BK899.out 1).trans rfl, (z13 BK899.out 2).trans rfl, (z13 BK900.out 0).trans rfl, (z13 BK900.out 1).trans rfl, (z13 BK900.out 2).trans rfl⟩ (fun hHeld => ?_)
      clear hK K
      refine norm_ (a' := ?_) ?_ ?_
      rotate_left
      ·show Act.put _ (some 14) _ = _
       simp only [Act.put, xq1, xq2, xq3, i64_w, i32_w]
       rfl
      refine one_ (i := 5) (N := some 16) #[true, true, true, true, true, true, false, false, false] rfl rfl (one_of HT_.out (by kernel_rfl)) (by decide) (fun K hK => ?_)
      refine Kd.R_lit_step k94 _ 94 ?hg (N := 16) ?hd (xs := ([(⟨a1_0, (⟨a1_1, a1_2⟩ : S46)⟩ : S94)] : List (S94))) (inner := [.int .i64 a1_0, .int .i64 a1_1, .int .i64 a1_2]) (ok := fun _ => True) (okp := fun _ => True) ?hr ?hp (fun _ hk => hk) trivial (Below.refl _ _) (Nat.le_refl _) (by simp) ?_; (case hd => rfl); (case hg => rfl); (case hr => first | (go_simp; done) | (go_simp; rfl)); (case hp => exact (Reps.c3 (show Kd.M k94 _ _ _ (⟨a1_0, (⟨a1_1, a1_2⟩ : S46)⟩ : S94) [.int .i64 a1_0, .int .i64 a1_1, .int .i64 a1_2] from (k94_mkM _ _ _ (⟨a1_0, (⟨a1_1, a1_2⟩ : S46)⟩ : S94) )) (Reps.none _ _)))
      intro v909 w19 ho20 hb hg_ hnew_
      clear hg_ hnew_
      (first | rw [← Ny908.out] at ho20 | (simp only [Int.reduceToNat] at ho20; rw [← Ny908.out] at ho20))
      have n0_ := mkA (Kd.R_elder' (by (with_reducible repeat (first | apply Kd.R_alloc | apply Kd.R_drewN | apply Kd.R_drew)); exact HO907.out) (Kd.R_base ho20) hb)
      have n1_ := mkA (Kd.R_lower (Kd.R_newB (Kd.R_new' ho20 (Kd.R_lt (by (with_reducible repeat (first | apply Kd.R_alloc | apply Kd.R_drewN | apply Kd.R_drew)); exact HO907.out))) (g := gb900) (o := .cells #[.int .i64 a1_0, .int .i64 a1_1, .int .i64 a1_2] 94 (0, 0)) (by (with_reducible repeat (first | refine z16 ?_ _ | refine z20 ?_ | refine z19 ?_ _)); exact BK900.out)) (z18 (by repeat (first | (with_reducible first | exact HB.out | apply z10 | apply z11 | apply z12 | refine z14 ?_ GE899.out | refine z14 ?_ GE900.out | refine z14 ?_ GE901.out) | exact HB.out))))
      have n2_ := mkA (blk_below (g := gb899) (o := .cells #[.int .i64 a0_0, .slice A0_1 l0_1.length c0_1, .slice A0_2 l0_2.length c0_2] 25 (0, 0)) (by (with_reducible repeat (first | refine z16 ?_ _ | refine z20 ?_ | refine z19 ?_ _)); exact BK899.out) hb)
      have n3_ := mkA (blk_below (g := gb900) (o := .cells #[.int .i64 a1_0, .int .i64 a1_1, .int .i64 a1_2] 94 (0, 0)) (by (with_reducible repeat (first | refine z16 ?_ _ | refine z20 ?_ | refine z19 ?_ _)); exact BK900.out) hb)
      have n4_ := mkA (blk_below (g := gb901) (o := .cells #[.int .i64 a0_0, .slice A0_1 l0_1.length c0_1, .slice A0_2 l0_2.length c0_2] 25 (0, 0)) (by (with_reducible repeat (first | refine z16 ?_ _ | refine z20 ?_ | refine z19 ?_ _)); exact BK901.out) hb)
      have n5_ := mkA (z17 (by repeat (first | (with_reducible first | exact HB.out | apply z10 | apply z11 | apply z12 | refine z14 ?_ GE899.out | refine z14 ?_ GE900.out | refine z14 ?_ GE901.out) | exact HB.out)) hb)
      clear HO907
      clear BK899
      clear BK900
      clear BK901
      clear HB
      have HO907 := n0_
      have HO910 := n1_
      have BK899 := n2_
      have BK900 := n3_
      have BK901 := n4_
      have HB := n5_
      clear n0_ n1_ n2_ n3_ n4_ n5_
      clear hb ho20
      refine hK.out _ _ ⟨(z13 BK899.out 0).trans rfl, (z13 BK899.out 1).trans rfl, (z13 BK899.out 2).trans rfl, (z13 BK900.out 0).trans rfl, (z13 BK900.out 1).trans rfl, (z13 BK900.out 2).trans rfl⟩ (fun hHeld => ?_)
      clear hK K
      refine norm_ (a' := ?_) ?_ ?_
      rotate_left
      ·show Act.put _ (some 16) _ = _
       simp only [Act.put, xq1, xq2, xq3, i64_w, i32_w]
       rfl
      exact norm_ (by simp only [putAll, Act.put, xq1, xq2, xq3]) (hCont (v903, v906, v909) _ ⟨hHeld, (by (with_reducible repeat (first | apply Kd.R_alloc | apply Kd.R_drewN | apply Kd.R_drew)); exact Kd.R_mono HO907.out (fun _ hk => ⟨hk.2, hk.1⟩)), (by (with_reducible repeat (first | apply Kd.R_alloc | apply Kd.R_drewN | apply Kd.R_drew)); exact Kd.R_mono HO910.out (fun _ hk => ⟨hk.1.2, hk.2⟩)), (by (with_reducible repeat (first | refine z16 ?_ _ | refine z20 ?_ | refine z19 ?_ _)); exact BK899.out), (by (with_reducible repeat (first | refine z16 ?_ _ | refine z20 ?_ | refine z19 ?_ _)); exact BK900.out), (by (with_reducible repeat (first | refine z16 ?_ _ | refine z20 ?_ | refine z19 ?_ _)); exact BK901.out), (by repeat (first | (with_reducible first | exact HB.out | apply z10 | apply z11 | apply z12 | refine z14 ?_ GE899.out | refine z14 ?_ GE900.out | refine z14 ?_ GE901.out) | exact HB.out))⟩)
     ·skip
      refine Kd.R_lit_step k94 _ 94 ?hg (N := 16) ?hd (xs := ([(⟨a1_0, (⟨a1_1, a1_2⟩ : S46)⟩ : S94)] : List (S94))) (inner := [.int .i64 a1_0, .int .i64 a1_1, .int .i64 a1_2]) (ok := fun _ => True) (okp := fun _ => True) ?hr ?hp (fun _ hk => hk) trivial (Below.refl _ _) (Nat.le_refl _) (by simp) ?_; (case hd => rfl); (case hg => rfl); (case hr => first | (go_simp; done) | (go_simp; rfl)); (case hp => exact (Reps.c3 (show Kd.M k94 _ _ _ (⟨a1_0, (⟨a1_1, a1_2⟩ : S46)⟩ : S94) [.int .i64 a1_0, .int .i64 a1_1, .int .i64 a1_2] from (k94_mkM _ _ _ (⟨a1_0, (⟨a1_1, a1_2⟩ : S46)⟩ : S94) )) (Reps.none _ _)))
      intro v909 w18 ho19 hb hg_ hnew_
      clear hg_ hnew_
      (first | rw [← Ny908.out] at ho19 | (simp only [Int.reduceToNat] at ho19; rw [← Ny908.out] at ho19))
      have n0_ := mkA (Kd.R_elder' (by (with_reducible repeat (first | apply Kd.R_alloc | apply Kd.R_drewN | apply Kd.R_drew)); exact HO904.out) (Kd.R_base ho19) hb)
      have n1_ := mkA (Kd.R_lower (Kd.R_newB (Kd.R_new' ho19 (Kd.R_lt (by (with_reducible repeat (first | apply Kd.R_alloc | apply Kd.R_drewN | apply Kd.R_drew)); exact HO904.out))) (g := gb900) (o := .cells #[.int .i64 a1_0, .int .i64 a1_1, .int .i64 a1_2] 94 (0, 0)) (by (with_reducible repeat (first | refine z16 ?_ _ | refine z20 ?_ | refine z19 ?_ _)); exact BK900.out)) (z18 (by repeat (first | (with_reducible first | exact HB.out | apply z10 | apply z11 | apply z12 | refine z14 ?_ GE899.out | refine z14 ?_ GE900.out | refine z14 ?_ GE901.out) | exact HB.out))))
      have n2_ := mkA (blk_below (g := gb899) (o := .cells #[.int .i64 a0_0, .slice A0_1 l0_1.length c0_1, .slice A0_2 l0_2.length c0_2] 25 (0, 0)) (by (with_reducible repeat (first | refine z16 ?_ _ | refine z20 ?_ | refine z19 ?_ _)); exact BK899.out) hb)
      have n3_ := mkA (blk_below (g := gb900) (o := .cells #[.int .i64 a1_0, .int .i64 a1_1, .int .i64 a1_2] 94 (0, 0)) (by (with_reducible repeat (first | refine z16 ?_ _ | refine z20 ?_ | refine z19 ?_ _)); exact BK900.out) hb)
      have n4_ := mkA (blk_below (g := gb901) (o := .cells #[.int .i64 a0_0, .slice A0_1 l0_1.length c0_1, .slice A0_2 l0_2.length c0_2] 25 (0, 0)) (by (with_reducible repeat (first | refine z16 ?_ _ | refine z20 ?_ | refine z19 ?_ _)); exact BK901.out) hb)
      have n5_ := mkA (z17 (by repeat (first | (with_reducible first | exact HB.out | apply z10 | apply z11 | apply z12 | refine z14 ?_ GE899.out | refine z14 ?_ GE900.out | refine z14 ?_ GE901.out) | exact HB.out)) hb)
      clear HO904
      clear BK899
      clear BK900
      clear BK901
      clear HB
      have HO904 := n0_
      have HO910 := n1_
      have BK899 := n2_
      have BK900 := n3_
      have BK901 := n4_
      have HB := n5_
      clear n0_ n1_ n2_ n3_ n4_ n5_
      clear hb ho19
      refine hK.out _ _ ⟨(z13 BK899.out 0).trans rfl, (z13 BK899.out 1).trans rfl, (z13 BK899.out 2).trans rfl, (z13 BK900.out 0).trans rfl, (z13 BK900.out 1).trans rfl, (z13 BK900.out 2).trans rfl⟩ (fun hHeld => ?_)
      clear hK K
      refine norm_ (a' := ?_) ?_ ?_
      rotate_left
      ·show Act.put _ (some 16) _ = _
       simp only [Act.put, xq1, xq2, xq3, i64_w, i32_w]
       rfl
      refine one_ (i := 3) (N := some 14) #[true, true, true, true, true, true, false, false, false] rfl rfl (one_of HT_.out (by kernel_rfl)) (by decide) (fun K hK => ?_)
      refine Kd.R_append_rows_step k94 (w0 := w) w.heap.size (by rfl) (.tmp 11) (.tmp 13) 23 94 (.agg #[(.int .i64 0), (.int .i64 0), (.int .i64 0)]) 24 rfl Try.underlying23 info94 rfl (by decide) (by omega) v903 y902 l0_2 _ _ _ (fun k_ => some k_ ≠ (v909 : Value).ownBlock ∧ k_ ≠ gb900) (fun _ => False) rfl rfl ?aO ?aR (fun _ _ h => h) (fun _ h => h.elim) ?aF ?aB ?aS ?aL ?_
      (case aR => repeat (first | exact (Kd.C_below HR0_2.out HB.out) | (with_reducible refine Kd.C_alloc ?_ _) | (with_reducible refine Kd.C_drewN ?_ _) | (with_reducible refine Kd.C_drew ?_)))
      (case aB => exact (by repeat (first | (with_reducible first | exact HB.out | apply z10 | apply z11 | apply z12 | refine z14 ?_ GE899.out | refine z14 ?_ GE900.out | refine z14 ?_ GE901.out) | exact HB.out)))
      (case aF => exact (fun k_ hk => ⟨Kd.fresh' (Kd.R_lt (by (with_reducible repeat (first | apply Kd.R_alloc | apply Kd.R_drewN | apply Kd.R_drew)); exact HO910.out)) k_ hk, Kd.freshB (g := gb900) (o := .cells #[.int .i64 a1_0, .int .i64 a1_1, .int .i64 a1_2] 94 (0, 0)) (by (with_reducible repeat (first | refine z16 ?_ _ | refine z20 ?_ | refine z19 ?_ _)); exact BK900.out) k_ hk⟩))
      (case aO => exact (by (with_reducible repeat (first | apply Kd.R_alloc | apply Kd.R_drewN | apply Kd.R_drew)); exact Kd.R_mono HO904.out (fun _ hk => ⟨hk.2, hk.1.2⟩)))
      (case aS => exact (z18 (by repeat (first | (with_reducible first | exact HB.out | apply z10 | apply z11 | apply z12 | refine z14 ?_ GE899.out | refine z14 ?_ GE900.out | refine z14 ?_ GE901.out) | exact HB.out))))
      (case aL => have := LMc3.out; omega)
      intro v906 w20 ho hb hg hat
      rw [← Ny905.out] at ho
      have n0_ := mkA (z31 (g := gb899) (o := .cells #[.int .i64 a0_0, .slice A0_1 l0_1.length c0_1, .slice A0_2 l0_2.length c0_2] 25 (0, 0)) (by (with_reducible repeat (first | refine z16 ?_ _ | refine z20 ?_ | refine z19 ?_ _)); exact BK899.out) hg (Kd.R_ne HO904.out BK899.out (by decide)))
      have n1_ := mkA (z31 (g := gb900) (o := .cells #[.int .i64 a1_0, .int .i64 a1_1, .int .i64 a1_2] 94 (0, 0)) (by (with_reducible repeat (first | refine z16 ?_ _ | refine z20 ?_ | refine z19 ?_ _)); exact BK900.out) hg (Kd.R_away HO904.out (fun _ hk => hk.1.2)))
      have n2_ := mkA (z31 (g := gb901) (o := .cells #[.int .i64 a0_0, .slice A0_1 l0_1.length c0_1, .slice A0_2 l0_2.length c0_2] 25 (0, 0)) (by (with_reducible repeat (first | refine z16 ?_ _ | refine z20 ?_ | refine z19 ?_ _)); exact BK901.out) hg (Kd.R_ne HO904.out BK901.out (by decide)))
      have n3_ := mkA (Kd.R_after (ok := (fun k_ => k_ ≠ gb900)) (by (with_reducible repeat (first | apply Kd.R_alloc | apply Kd.R_drewN | apply Kd.R_drew)); exact Kd.R_mono HO910.out (fun _ hk => ⟨hk.2, hk.1.2⟩)) hg hat)
      have n4_ := mkA (hb)
      have n5_ := mkA (ho)
      clear BK899
      clear BK900
      clear BK901
      clear HO910
      clear HB
      clear HO904
      have BK899 := n0_
      have BK900 := n1_
      have BK901 := n2_
      have HO910 := n3_
      have HB := n4_
      have HO907 := n5_
      clear n0_ n1_ n2_ n3_ n4_ n5_
      clear ho hb hg hat
      refine hK.out _ _ ⟨(z13 BK899.out 0).trans rfl, (z13 BK899.out 1).trans rfl, (z13 BK899.out 2).trans rfl, (z13 BK900.out 0).trans rfl, (z13 BK900.out 1).trans rfl, (z13 BK900.out 2).trans rfl⟩ (fun hHeld => ?_)
      clear hK K
      refine norm_ (a' := ?_) ?_ ?_
      rotate_left
      ·show Act.put _ (some 14) _ = _
       simp only [Act.put, xq1, xq2, xq3, i64_w, i32_w]
       rfl
      exact norm_ (by simp only [putAll, Act.put, xq1, xq2, xq3]) (hCont (v903, v906, v909) _ ⟨hHeld, (by (with_reducible repeat (first | apply Kd.R_alloc | apply Kd.R_drewN | apply Kd.R_drew)); exact HO907.out), (by (with_reducible repeat (first | apply Kd.R_alloc | apply Kd.R_drewN | apply Kd.R_drew)); exact Kd.R_mono HO910.out (fun _ hk => ⟨hk.2, hk.1⟩)), (by (with_reducible repeat (first | refine z16 ?_ _ | refine z20 ?_ | refine z19 ?_ _)); exact BK899.out), (by (with_reducible repeat (first | refine z16 ?_ _ | refine z20 ?_ | refine z19 ?_ _)); exact BK900.out), (by (with_reducible repeat (first | refine z16 ?_ _ | refine z20 ?_ | refine z19 ?_ _)); exact BK901.out), (by repeat (first | (with_reducible first | exact HB.out | apply z10 | apply z11 | apply z12 | refine z14 ?_ GE899.out | refine z14 ?_ GE900.out | refine z14 ?_ GE901.out) | exact HB.out))⟩)
    ·skip
     refine Kd.R_lit_step k94 _ 94 ?hg (N := 16) ?hd (xs := ([(⟨a1_0, (⟨a1_1, a1_2⟩ : S46)⟩ : S94)] : List (S94))) (inner := [.int .i64 a1_0, .int .i64 a1_1, .int .i64 a1_2]) (ok := fun _ => True) (okp := fun _ => True) ?hr ?hp (fun _ hk => hk) trivial (Below.refl _ _) (Nat.le_refl _) (by simp) ?_; (case hd => rfl); (case hg => rfl); (case hr => first | (go_simp; done) | (go_simp; rfl)); (case hp => exact (Reps.c3 (show Kd.M k94 _ _ _ (⟨a1_0, (⟨a1_1, a1_2⟩ : S46)⟩ : S94) [.int .i64 a1_0, .int .i64 a1_1, .int .i64 a1_2] from (k94_mkM _ _ _ (⟨a1_0, (⟨a1_1, a1_2⟩ : S46)⟩ : S94) )) (Reps.none _ _)))
     intro v909 w16 ho17 hb hg_ hnew_
     clear hg_ hnew_
     (first | rw [← Ny908.out] at ho17 | (simp only [Int.reduceToNat] at ho17; rw [← Ny908.out] at ho17))
     have n0_ := mkA (Kd.R_lower (Kd.R_newB ho17 (g := gb900) (o := .cells #[.int .i64 a1_0, .int .i64 a1_1, .int .i64 a1_2] 94 (0, 0)) (by (with_reducible repeat (first | refine z16 ?_ _ | refine z20 ?_ | refine z19 ?_ _)); exact BK900.out)) (z18 (by repeat (first | (with_reducible first | exact HB.out | apply z10 | apply z11 | apply z12 | refine z14 ?_ GE899.out | refine z14 ?_ GE900.out | refine z14 ?_ GE901.out) | exact HB.out))))
     have n1_ := mkA (blk_below (g := gb899) (o := .cells #[.int .i64 a0_0, .slice A0_1 l0_1.length c0_1, .slice A0_2 l0_2.length c0_2] 25 (0, 0)) (by (with_reducible repeat (first | refine z16 ?_ _ | refine z20 ?_ | refine z19 ?_ _)); exact BK899.out) hb)
     have n2_ := mkA (blk_below (g := gb900) (o := .cells #[.int .i64 a1_0, .int .i64 a1_1, .int .i64 a1_2] 94 (0, 0)) (by (with_reducible repeat (first | refine z16 ?_ _ | refine z20 ?_ | refine z19 ?_ _)); exact BK900.out) hb)
     have n3_ := mkA (blk_below (g := gb901) (o := .cells #[.int .i64 a0_0, .slice A0_1 l0_1.length c0_1, .slice A0_2 l0_2.length c0_2] 25 (0, 0)) (by (with_reducible repeat (first | refine z16 ?_ _ | refine z20 ?_ | refine z19 ?_ _)); exact BK901.out) hb)
     have n4_ := mkA (z17 (by repeat (first | (with_reducible first | exact HB.out | apply z10 | apply z11 | apply z12 | refine z14 ?_ GE899.out | refine z14 ?_ GE900.out | refine z14 ?_ GE901.out) | exact HB.out)) hb)
     clear BK899
     clear BK900
     clear BK901
     clear HB
     have HO910 := n0_
     have BK899 := n1_
     have BK900 := n2_
     have BK901 := n3_
     have HB := n4_
     clear n0_ n1_ n2_ n3_ n4_
     clear hb ho17
     refine hK.out _ _ ⟨(z13 BK899.out 0).trans rfl, (z13 BK899.out 1).trans rfl, (z13 BK899.out 2).trans rfl, (z13 BK900.out 0).trans rfl, (z13 BK900.out 1).trans rfl, (z13 BK900.out 2).trans rfl⟩ (fun hHeld => ?_)
     clear hK K
     refine norm_ (a' := ?_) ?_ ?_
     rotate_left
     ·show Act.put _ (some 16) _ = _
      simp only [Act.put, xq1, xq2, xq3, i64_w, i32_w]
      rfl
     refine one_ (i := 0) (N := some 11) #[true, true, true, false, true, true, false, false, false] rfl rfl (one_of HT_.out (by kernel_rfl)) (by decide) (fun K hK => ?_)
     refine Kd.R_lit_step k94 _ 94 ?hg (N := 11) ?hd (xs := ([] : List (S94))) (inner := []) (ok := fun _ => True) (okp := fun _ => True) ?hr ?hp (fun _ hk => hk) trivial (Below.refl _ _) (Nat.le_refl _) (by simp) ?_; (case hd => rfl); (case hg => rfl); (case hr => first | (go_simp; done) | (go_simp; rfl)); (case hp => exact (Reps.none _ _))
     intro v903 w18 ho19 hb hg_ hnew_
     clear hg_ hnew_
     (first | rw [← Ny902.out] at ho19 | (simp only [Int.reduceToNat] at ho19; rw [← Ny902.out] at ho19))
     have n0_ := mkA (Kd.R_elder' (by (with_reducible repeat (first | apply Kd.R_alloc | apply Kd.R_drewN | apply Kd.R_drew)); exact HO910.out) (Kd.R_base ho19) hb)
     have n1_ := mkA (Kd.R_lower (Kd.R_newB (Kd.R_new' ho19 (Kd.R_lt (by (with_reducible repeat (first | apply Kd.R_alloc | apply Kd.R_drewN | apply Kd.R_drew)); exact HO910.out))) (g := gb900) (o := .cells #[.int .i64 a1_0, .int .i64 a1_1, .int .i64 a1_2] 94 (0, 0)) (by (with_reducible repeat (first | refine z16 ?_ _ | refine z20 ?_ | refine z19 ?_ _)); exact BK900.out)) (z18 (by repeat (first | (with_reducible first | exact HB.out | apply z10 | apply z11 | apply z12 | refine z14 ?_ GE899.out | refine z14 ?_ GE900.out | refine z14 ?_ GE901.out) | exact HB.out))))
     have n2_ := mkA (blk_below (g := gb899) (o := .cells #[.int .i64 a0_0, .slice A0_1 l0_1.length c0_1, .slice A0_2 l0_2.length c0_2] 25 (0, 0)) (by (with_reducible repeat (first | refine z16 ?_ _ | refine z20 ?_ | refine z19 ?_ _)); exact BK899.out) hb)
     have n3_ := mkA (blk_below (g := gb900) (o := .cells #[.int .i64 a1_0, .int .i64 a1_1, .int .i64 a1_2] 94 (0, 0)) (by (with_reducible repeat (first | refine z16 ?_ _ | refine z20 ?_ | refine z19 ?_ _)); exact BK900.out) hb)
     have n4_ := mkA (blk_below (g := gb901) (o := .cells #[.int .i64 a0_0, .slice A0_1 l0_1.length c0_1, .slice A0_2 l0_2.length c0_2] 25 (0, 0)) (by (with_reducible repeat (first | refine z16 ?_ _ | refine z20 ?_ | refine z19 ?_ _)); exact BK901.out) hb)
     have n5_ := mkA (z17 (by repeat (first | (with_reducible first | exact HB.out | apply z10 | apply z11 | apply z12 | refine z14 ?_ GE899.out | refine z14 ?_ GE900.out | refine z14 ?_ GE901.out) | exact HB.out)) hb)
     clear HO910
     clear BK899
     clear BK900
     clear BK901
     clear HB
     have HO910 := n0_
     have HO904 := n1_
     have BK899 := n2_
     have BK900 := n3_
     have BK901 := n4_
     have HB := n5_
     clear n0_ n1_ n2_ n3_ n4_ n5_
     clear hb ho19
     refine hK.out _ _ ⟨(z13 BK899.out 0).trans rfl, (z13 BK899.out 1).trans rfl, (z13 BK899.out 2).trans rfl, (z13 BK900.out 0).trans rfl, (z13 BK900.out 1).trans rfl, (z13 BK900.out 2).trans rfl⟩ (fun hHeld => ?_)
     clear hK K
     refine norm_ (a' := ?_) ?_ ?_
     rotate_left
     ·show Act.put _ (some 11) _ = _
      simp only [Act.put, xq1, xq2, xq3, i64_w, i32_w]
      rfl
     refine one_ (i := 3) (N := some 14) #[true, true, true, true, true, true, false, false, false] rfl rfl (one_of HT_.out (by kernel_rfl)) (by decide) (fun K hK => ?_)
     refine Kd.R_append_rows_step k94 (w0 := w) w.heap.size (by rfl) (.tmp 11) (.tmp 13) 23 94 (.agg #[(.int .i64 0), (.int .i64 0), (.int .i64 0)]) 24 rfl Try.underlying23 info94 rfl (by decide) (by omega) v903 y902 l0_2 _ _ _ (fun k_ => some k_ ≠ (v909 : Value).ownBlock ∧ k_ ≠ gb900) (fun _ => False) rfl rfl ?aO ?aR (fun _ _ h => h) (fun _ h => h.elim) ?aF ?aB ?aS ?aL ?_
     (case aR => repeat (first | exact (Kd.C_below HR0_2.out HB.out) | (with_reducible refine Kd.C_alloc ?_ _) | (with_reducible refine Kd.C_drewN ?_ _) | (with_reducible refine Kd.C_drew ?_)))
     (case aB => exact (by repeat (first | (with_reducible first | exact HB.out | apply z10 | apply z11 | apply z12 | refine z14 ?_ GE899.out | refine z14 ?_ GE900.out | refine z14 ?_ GE901.out) | exact HB.out)))
     (case aF => exact (fun k_ hk => ⟨Kd.fresh' (Kd.R_lt (by (with_reducible repeat (first | apply Kd.R_alloc | apply Kd.R_drewN | apply Kd.R_drew)); exact HO910.out)) k_ hk, Kd.freshB (g := gb900) (o := .cells #[.int .i64 a1_0, .int .i64 a1_1, .int .i64 a1_2] 94 (0, 0)) (by (with_reducible repeat (first | refine z16 ?_ _ | refine z20 ?_ | refine z19 ?_ _)); exact BK900.out) k_ hk⟩))
     (case aO => exact (by (with_reducible repeat (first | apply Kd.R_alloc | apply Kd.R_drewN | apply Kd.R_drew)); exact Kd.R_mono HO904.out (fun _ hk => ⟨hk.1.2, hk.2⟩)))
     (case aS => exact (z18 (by repeat (first | (with_reducible first | exact HB.out | apply z10 | apply z11 | apply z12 | refine z14 ?_ GE899.out | refine z14 ?_ GE900.out | refine z14 ?_ GE901.out) | exact HB.out))))
     (case aL => have := LMc3.out; omega)
     intro v906 w20 ho hb hg hat
     rw [← Ny905.out] at ho
     have n0_ := mkA (z31 (g := gb899) (o := .cells #[.int .i64 a0_0, .slice A0_1 l0_1.length c0_1, .slice A0_2 l0_2.length c0_2] 25 (0, 0)) (by (with_reducible repeat (first | refine z16 ?_ _ | refine z20 ?_ | refine z19 ?_ _)); exact BK899.out) hg (Kd.R_ne HO904.out BK899.out (by decide)))
     have n1_ := mkA (z31 (g := gb900) (o := .cells #[.int .i64 a1_0, .int .i64 a1_1, .int .i64 a1_2] 94 (0, 0)) (by (with_reducible repeat (first | refine z16 ?_ _ | refine z20 ?_ | refine z19 ?_ _)); exact BK900.out) hg (Kd.R_away HO904.out (fun _ hk => hk.2)))
     have n2_ := mkA (z31 (g := gb901) (o := .cells #[.int .i64 a0_0, .slice A0_1 l0_1.length c0_1, .slice A0_2 l0_2.length c0_2] 25 (0, 0)) (by (with_reducible repeat (first | refine z16 ?_ _ | refine z20 ?_ | refine z19 ?_ _)); exact BK901.out) hg (Kd.R_ne HO904.out BK901.out (by decide)))
     have n3_ := mkA (Kd.R_after (ok := (fun k_ => k_ ≠ gb900)) (by (with_reducible repeat (first | apply Kd.R_alloc | apply Kd.R_drewN | apply Kd.R_drew)); exact Kd.R_mono HO910.out (fun _ hk => ⟨hk.1.2, hk.2⟩)) hg hat)
     have n4_ := mkA (hb)
     have n5_ := mkA (ho)
     clear BK899
     clear BK900
     clear BK901
     clear HO910
     clear HB
     clear HO904
     have BK899 := n0_
     have BK900 := n1_
     have BK901 := n2_
     have HO910 := n3_
     have HB := n4_
     have HO907 := n5_
     clear n0_ n1_ n2_ n3_ n4_ n5_
     clear ho hb hg hat
     refine hK.out _ _ ⟨(z13 BK899.out 0).trans rfl, (z13 BK899.out 1).trans rfl, (z13 BK899.out 2).trans rfl, (z13 BK900.out 0).trans rfl, (z13 BK900.out 1).trans rfl, (z13 BK900.out 2).trans rfl⟩ (fun hHeld => ?_)
     clear hK K
     refine norm_ (a' := ?_) ?_ ?_
     rotate_left
     ·show Act.put _ (some 14) _ = _
      simp only [Act.put, xq1, xq2, xq3, i64_w, i32_w]
      rfl
     exact norm_ (by simp only [putAll, Act.put, xq1, xq2, xq3]) (hCont (v903, v906, v909) _ ⟨hHeld, (by (with_reducible repeat (first | apply Kd.R_alloc | apply Kd.R_drewN | apply Kd.R_drew)); exact HO907.out), (by (with_reducible repeat (first | apply Kd.R_alloc | apply Kd.R_drewN | apply Kd.R_drew)); exact Kd.R_mono HO910.out (fun _ hk => ⟨hk.2, hk.1⟩)), (by (with_reducible repeat (first | refine z16 ?_ _ | refine z20 ?_ | refine z19 ?_ _)); exact BK899.out), (by (with_reducible repeat (first | refine z16 ?_ _ | refine z20 ?_ | refine z19 ?_ _)); exact BK900.out), (by (with_reducible repeat (first | refine z16 ?_ _ | refine z20 ?_ | refine z19 ?_ _)); exact BK901.out), (by repeat (first | (with_reducible first | exact HB.out | apply z10 | apply z11 | apply z12 | refine z14 ?_ GE899.out | refine z14 ?_ GE900.out | refine z14 ?_ GE901.out) | exact HB.out))⟩)
   rintro ⟨v903, v906, v909⟩ w21 ⟨hS_, h0_, h1_, h2_, h3_, h4_, h5_⟩
   have n0_ : Aside0 (Kd.R k94 94 w21 w.heap.size (fun k_ => some k_ ≠ (v909 : Value).ownBlock ∧ k_ ≠ gb900) v906 y905) := ⟨h0_⟩
   have n1_ : Aside0 (Kd.R k94 94 w21 w.heap.size (fun k_ => some k_ ≠ (v906 : Value).ownBlock ∧ k_ ≠ gb900) v909 y908) := ⟨h1_⟩
   have n2_ : Aside0 (w21.heap[gb899]? = some (.cells #[.int .i64 a0_0, .slice A0_1 l0_1.length c0_1, .slice A0_2 l0_2.length c0_2] 25 (0, 0))) := ⟨h2_⟩
   have n3_ : Aside0 (w21.heap[gb900]? = some (.cells #[.int .i64 a1_0, .int .i64 a1_1, .int .i64 a1_2] 94 (0, 0))) := ⟨h3_⟩
   have n4_ : Aside0 (w21.heap[gb901]? = some (.cells #[.int .i64 a0_0, .slice A0_1 l0_1.length c0_1, .slice A0_2 l0_2.length c0_2] 25 (0, 0))) := ⟨h4_⟩
   have n5_ : Aside0 (Below w.heap.size w w21) := ⟨h5_⟩
   clear BK899
   clear BK900
   clear BK901
   clear HB
   clear h0_ h1_ h2_ h3_ h4_ h5_
   have HO907 := n0_
   have HO910 := n1_
   have BK899 := n2_
   have BK900 := n3_
   have BK901 := n4_
   have HB := n5_
   clear n0_ n1_ n2_ n3_ n4_ n5_
   have hHeld : w21.cell? ⟨gb899, 0, none⟩ = some (.int .i64 a0_0) ∧ w21.cell? ⟨gb899, 1, none⟩ = some (.slice A0_1 l0_1.length c0_1) ∧ w21.cell? ⟨gb899, 2, none⟩ = some (.slice A0_2 l0_2.length c0_2) ∧ w21.cell? ⟨gb900, 0, none⟩ = some (.int .i64 a1_0) ∧ w21.cell? ⟨gb900, 1, none⟩ = some (.int .i64 a1_1) ∧ w21.cell? ⟨gb900, 2, none⟩ = some (.int .i64 a1_2) := hS_
   obtain ⟨Ao23, co23, eo23⟩ := Kd.R_slice HO910.out
   (first | subst eo23 | (injection eo23 with f1_ f2_ f3_; have f4_ := f1_.symm; have f5_ := f3_.symm; clear f1_ f2_ f3_; subst f4_; subst f5_))
   refine norm_ (a' := ?_) ?_ ?_
   rotate_left
   ·simp only [putAll, Act.put, xq1, xq2, xq3]
    rfl
   refine one_ (i := 6) (N := some 17) #[true, true, true, true, true, true, true, false, false] rfl rfl (one_of HT_.out (by kernel_rfl)) (by decide) (fun K hK => ?_)
   refine Kd.R_append_rows_step k94 (w0 := w) w.heap.size (by rfl) (.tmp 14) (.tmp 16) 23 94 (.agg #[(.int .i64 0), (.int .i64 0), (.int .i64 0)]) 24 rfl Try.underlying23 info94 rfl (by decide) (by omega) v906 y905 y908 _ _ _ (fun k_ => some k_ ≠ (.slice Ao23 y908.length co23 : Value).ownBlock ∧ k_ ≠ gb900) (fun _ => False) rfl rfl ?aO ?aR (fun _ _ h => h) (fun _ h => h.elim) ?aF ?aB ?aS ?aL ?_
   (case aR => repeat (first | exact (Kd.R_reads' HO910.out).2.2 | (with_reducible refine Kd.C_alloc ?_ _) | (with_reducible refine Kd.C_drewN ?_ _) | (with_reducible refine Kd.C_drew ?_)))
   (case aB => exact (by repeat (first | (with_reducible first | exact HB.out | apply z10 | apply z11 | apply z12 | refine z14 ?_ GE899.out | refine z14 ?_ GE900.out | refine z14 ?_ GE901.out) | exact HB.out)))
   (case aF => exact (fun k_ hk => ⟨Kd.fresh' (Kd.R_lt (by (with_reducible repeat (first | apply Kd.R_alloc | apply Kd.R_drewN | apply Kd.R_drew)); exact HO910.out)) k_ hk, Kd.freshB (g := gb900) (o := .cells #[.int .i64 a1_0, .int .i64 a1_1, .int .i64 a1_2] 94 (0, 0)) (by (with_reducible repeat (first | refine z16 ?_ _ | refine z20 ?_ | refine z19 ?_ _)); exact BK900.out) k_ hk⟩))
   (case aO => exact (by (with_reducible repeat (first | apply Kd.R_alloc | apply Kd.R_drewN | apply Kd.R_drew)); exact HO907.out))
   (case aS => exact (z18 (by repeat (first | (with_reducible first | exact HB.out | apply z10 | apply z11 | apply z12 | refine z14 ?_ GE899.out | refine z14 ?_ GE900.out | refine z14 ?_ GE901.out) | exact HB.out))))
   (case aL => have := LMc4.out; omega)
   intro v912 w22 ho hb hg hat
   rw [← Ny911.out] at ho
   have n0_ := mkA (z31 (g := gb899) (o := .cells #[.int .i64 a0_0, .slice A0_1 l0_1.length c0_1, .slice A0_2 l0_2.length c0_2] 25 (0, 0)) (by (with_reducible repeat (first | refine z16 ?_ _ | refine z20 ?_ | refine z19 ?_ _)); exact BK899.out) hg (Kd.R_ne HO907.out BK899.out (by decide)))
   have n1_ := mkA (z31 (g := gb900) (o := .cells #[.int .i64 a1_0, .int .i64 a1_1, .int .i64 a1_2] 94 (0, 0)) (by (with_reducible repeat (first | refine z16 ?_ _ | refine z20 ?_ | refine z19 ?_ _)); exact BK900.out) hg (Kd.R_away HO907.out (fun _ hk => hk.2)))
   have n2_ := mkA (z31 (g := gb901) (o := .cells #[.int .i64 a0_0, .slice A0_1 l0_1.length c0_1, .slice A0_2 l0_2.length c0_2] 25 (0, 0)) (by (with_reducible repeat (first | refine z16 ?_ _ | refine z20 ?_ | refine z19 ?_ _)); exact BK901.out) hg (Kd.R_ne HO907.out BK901.out (by decide)))
   have n3_ := mkA (Kd.R_after (ok := (fun k_ => k_ ≠ gb900)) (by (with_reducible repeat (first | apply Kd.R_alloc | apply Kd.R_drewN | apply Kd.R_drew)); exact Kd.R_mono HO910.out (fun _ hk => ⟨hk.2, hk.1⟩)) hg hat)
   have n4_ := mkA (hb)
   have n5_ := mkA (ho)
   clear BK899
   clear BK900
   clear BK901
   clear HO910
   clear HB
   clear HO907
   have BK899 := n0_
   have BK900 := n1_
   have BK901 := n2_
   have HO910 := n3_
   have HB := n4_
   have HO913 := n5_
   clear n0_ n1_ n2_ n3_ n4_ n5_
   clear ho hb hg hat
   obtain ⟨Ao24, co24, eo24⟩ := Kd.R_slice HO913.out
   (first | subst eo24 | (injection eo24 with f1_ f2_ f3_; have f4_ := f1_.symm; have f5_ := f3_.symm; clear f1_ f2_ f3_; subst f4_; subst f5_))
   refine hK.out _ _ ⟨(z13 BK899.out 0).trans rfl, (z13 BK899.out 1).trans rfl, (z13 BK899.out 2).trans rfl, (z13 BK900.out 0).trans rfl, (z13 BK900.out 1).trans rfl, (z13 BK900.out 2).trans rfl⟩ (fun hHeld => ?_)
   clear hK K
   refine norm_ (a' := ?_) ?_ ?_
   rotate_left
   ·show Act.put _ (some 17) _ = _
    simp only [Act.put, xq1, xq2, xq3, i64_w, i32_w]
    rfl
   refine pure_ (i := 7) (N := some 18) (v := ?_) (a' := ?_) #[true, true, true, true, true, true, true, true, false] rfl rfl (any_of HT_.out (by kernel_rfl)) (fun _ _ _ h => h) (Or.inl ⟨by rfl, ?_⟩) ?_ ?_
   rotate_left
   ·intro w'
    go_simp
    with_reducible rfl
   rotate_left
   ·simp only [Act.put, xq1, xq2, xq3, i64_w, i32_w]
    rfl
   refine one_ (i := 8) (N := none) #[true, true, true, true, true, true, true, true, true] rfl rfl (one_of HT_.out (by kernel_rfl)) (by decide) (fun K hK => ?_)
   have hs25 : w22.cell? ⟨gb901, 2, none⟩ = some (.slice A0_2 l0_2.length c0_2) := (z13 BK901.out 2).trans rfl
   have hfs25 := z15 BK901.out 2
   have hns25_0 := NB899_901.out
   have hns25_1 := NB900_901.out
   have hms25_0 := NB901_899.out
   have hms25_1 := NB901_900.out
   refine skip_ (w1 := ?_) (by rfl) rfl ?_ ?_
   rotate_left
   ·go_simp
    rfl
   refine hK.out _ _ ⟨((cell_far (p := ⟨gb901, _, none⟩) NB899_901.out _).trans (hHeld.1)), ((cell_far (p := ⟨gb901, _, none⟩) NB899_901.out _).trans (hHeld.2.1)), ((cell_far (p := ⟨gb901, _, none⟩) NB899_901.out _).trans (hHeld.2.2.1)), ((cell_far (p := ⟨gb901, _, none⟩) NB900_901.out _).trans (hHeld.2.2.2.1)), ((cell_far (p := ⟨gb901, _, none⟩) NB900_901.out _).trans (hHeld.2.2.2.2.1)), ((cell_far (p := ⟨gb901, _, none⟩) NB900_901.out _).trans (hHeld.2.2.2.2.2))⟩ (fun hHeld => ?_)
   clear hK K
   refine done_ (done_of HT_.out (by kernel_rfl)) ?_
   go_upto_region 3 with (fail)
   go_cut [26] (fun v26 wc => ∃ (kq : Nat) (x26_4 : Bool), v26 = .bool x26_4 ∧ Aside0 (pl_SoapMore.j0 kq x26_4 a0_0 l0_1 l0_2 a0_0 l0_1 y911 = some r) ∧ Aside0 (kq ≤ k) ∧ Aside0 (Kd.R k94 94 wc w.heap.size (fun k_ => k_ ≠ gb900) (.slice Ao24 y911.length co24) y911) ∧ Aside0 (wc.heap[gb899]? = some (.cells #[.int .i64 a0_0, (.slice A0_1 l0_1.length c0_1), (.slice A0_2 l0_2.length c0_2)] 25 (0, 0))) ∧ Aside0 (wc.heap[gb900]? = some (.cells #[.int .i64 a1_0, .int .i64 a1_1, .int .i64 a1_2] 94 (0, 0))) ∧ Aside0 (wc.heap[gb901]? = some (.cells #[.int .i64 a0_0, (.slice A0_1 l0_1.length c0_1), (.slice Ao24 y911.length co24)] 25 (0, 0))) ∧ Aside0 (Below w.heap.size w wc))
   case first =>
    have H := HC5.out
    clear HC5
    replace H := Option.bind_eq_some_iff.mp H
    obtain ⟨t914, A260, H⟩ := H
    replace H : (if t914 = true then ((pl_ready.f k a0_0 l0_1 y911).bind fun t915 => (pl_SoapMore.j0 k (!t915) a0_0 l0_1 l0_2 a0_0 l0_1 y911)) else (pl_SoapMore.j0 k true a0_0 l0_1 l0_2 a0_0 l0_1 y911)) = some r := H
    have A26 := mkA A260
    clear A260
    by_cases c27 : t914 = true
    ·subst c27
     have H1 : ((pl_ready.f k a0_0 l0_1 y911).bind fun t915 => (pl_SoapMore.j0 k (!t915) a0_0 l0_1 l0_2 a0_0 l0_1 y911)) = some r := by rw [if_pos rfl] at H; exact H
     clear H
     have H := H1
     clear H1
     replace H := Option.bind_eq_some_iff.mp H
     obtain ⟨t915, A280, H⟩ := H
     replace H : (pl_SoapMore.j0 k (!t915) a0_0 l0_1 l0_2 a0_0 l0_1 y911) = some r := H
     have A28 := mkA A280
     clear A280
     have H' := mkA H
     clear H
     have hnb29 := NB899_900.out
     have hnc29 := NB900_899.out
     have hnb30 := NB899_901.out
     have hnc30 := NB901_899.out
     have hcz31_0 : w22.cell? ⟨gb899, 0, none⟩ = some (.int .i64 a0_0) := (z13 BK899.out 0).trans rfl
     have hcz31_1 : w22.cell? ⟨gb899, 1, none⟩ = some (.slice A0_1 l0_1.length c0_1) := (z13 BK899.out 1).trans rfl
     have hcz31_2 : w22.cell? ⟨gb899, 2, none⟩ = some (.slice A0_2 l0_2.length c0_2) := (z13 BK899.out 2).trans rfl
     have hfz31_0 := z15 BK899.out 0
     have hfz31_1 := z15 BK899.out 1
     have hfz31_2 := z15 BK899.out 2
     go_wp2_with (first | ((with_reducible refine z25 (f := 45) rfl ?_); refine goesL_ (some 20) rfl rfl Try.func45 (by kernel_rfl) rfl #[.agg #[.int .i64 a0_0, .slice A0_1 l0_1.length c0_1, .slice A0_2 l0_2.length c0_2]] rfl (by (try simp only [List.map_toArray, List.map_cons, List.map_nil]); first | done | rfl | (simp only [List.length_drop, List.length_take]; rfl)) ?_; (with_reducible refine (pl_ready.calls k a0_0 _ _ l0_1 _ _ l0_2 true _ ?side1 ?side2 ?side3 ?side4 A26.out).mono ?_); (case side1 => exact Kd.C_below HR0_1.out (by repeat (first | (with_reducible first | exact HB.out | apply z10 | apply z11 | apply z12 | refine z14 ?_ GE899.out | refine z14 ?_ GE900.out | refine z14 ?_ GE901.out) | exact HB.out))); (case side2 => exact HC0_1.out); (case side3 => exact Kd.C_below HR0_2.out (by repeat (first | (with_reducible first | exact HB.out | apply z10 | apply z11 | apply z12 | refine z14 ?_ GE899.out | refine z14 ?_ GE900.out | refine z14 ?_ GE901.out) | exact HB.out))); (case side4 => exact HC0_2.out); rintro e w32 ⟨rfl, hb⟩; refine ⟨_, rfl, ?_⟩; have n0_ := mkA (Kd.R_below (by (with_reducible repeat (first | apply Kd.R_alloc | apply Kd.R_drewN | apply Kd.R_drew)); exact (Kd.R_mono (Kd.R_far (p := ⟨gb901, 2, none⟩) (Kd.R_types HO910.out BK901.out (by decide)) (fun _ hk => hk.2) (.slice Ao24 y911.length co24)) (fun _ h_ => h_.1))) hb); have n1_ := mkA (Kd.R_below (by (with_reducible repeat (first | apply Kd.R_alloc | apply Kd.R_drewN | apply Kd.R_drew)); exact (Kd.R_mono (Kd.R_far (p := ⟨gb901, 2, none⟩) (Kd.R_types HO913.out BK901.out (by decide)) (fun _ hk => hk.2) (.slice Ao24 y911.length co24)) (fun _ h_ => h_.1))) hb); have n2_ := mkA (blk_below (g := gb899) (o := .cells #[.int .i64 a0_0, .slice A0_1 l0_1.length c0_1, .slice A0_2 l0_2.length c0_2] 25 (0, 0)) (by (with_reducible repeat (first | refine z16 ?_ _ | refine z20 ?_ | refine z19 ?_ _)); refine blk_far ?_ NB899_901.out _; (with_reducible repeat (first | refine z16 ?_ _ | refine z20 ?_ | refine z19 ?_ _)); exact BK899.out) hb); have n3_ := mkA (blk_below (g := gb900) (o := .cells #[.int .i64 a1_0, .int .i64 a1_1, .int .i64 a1_2] 94 (0, 0)) (by (with_reducible repeat (first | refine z16 ?_ _ | refine z20 ?_ | refine z19 ?_ _)); refine blk_far ?_ NB900_901.out _; (with_reducible repeat (first | refine z16 ?_ _ | refine z20 ?_ | refine z19 ?_ _)); exact BK900.out) hb); have n4_ := mkA (blk_below (g := gb901) (o := .cells #[.int .i64 a0_0, .slice A0_1 l0_1.length c0_1, .slice Ao24 y911.length co24] 25 (0, 0)) (by (with_reducible repeat (first | refine z16 ?_ _ | refine z20 ?_ | refine z19 ?_ _)); refine blk_put (cs := #[.int .i64 a0_0, .slice A0_1 l0_1.length c0_1, .slice A0_2 l0_2.length c0_2]) ?_ 2 _ rfl; (with_reducible repeat (first | refine z16 ?_ _ | refine z20 ?_ | refine z19 ?_ _)); exact BK901.out) hb); have n5_ := mkA (z17 (by repeat (first | (with_reducible first | exact HB.out | apply z10 | apply z11 | apply z12 | refine z14 ?_ GE899.out | refine z14 ?_ GE900.out | refine z14 ?_ GE901.out) | exact HB.out)) hb); clear HO910; clear HO913; clear BK899; clear BK900; clear BK901; clear HB; have HO910 := n0_; have HO913 := n1_; have BK899 := n2_; have BK900 := n3_; have BK901 := n4_; have HB := n5_; clear n0_ n1_ n2_ n3_ n4_ n5_; (try clear hb); (try clear hb2); (try clear hk); (try clear hi); have hnb33 := NB901_900.out; have hnc33 := NB900_901.out; have hcz34_0 : w32.cell? ⟨gb901, 0, none⟩ = some (.int .i64 a0_0) := (z13 BK901.out 0).trans rfl; have hcz34_1 : w32.cell? ⟨gb901, 1, none⟩ = some (.slice A0_1 l0_1.length c0_1) := (z13 BK901.out 1).trans rfl; have hcz34_2 : w32.cell? ⟨gb901, 2, none⟩ = some (.slice Ao24 y911.length co24) := (z13 BK901.out 2).trans rfl; have hfz34_0 := z15 BK901.out 0; have hfz34_1 := z15 BK901.out 1; have hfz34_2 := z15 BK901.out 2) | (go_at_call 45; (with_reducible refine (pl_ready.calls k a0_0 _ _ l0_1 _ _ y911 t915 _ ?side1 ?side2 ?side3 ?side4 A28.out).mono ?_); (case side1 => repeat (first | exact (Kd.C_below HR0_1.out HB.out) | (with_reducible refine Kd.C_alloc ?_ _) | (with_reducible refine Kd.C_drewN ?_ _) | (with_reducible refine Kd.C_drew ?_))); (case side2 => exact HC0_1.out); (case side3 => repeat (first | exact (Kd.R_reads' HO913.out).2.2 | (with_reducible refine Kd.C_alloc ?_ _) | (with_reducible refine Kd.C_drewN ?_ _) | (with_reducible refine Kd.C_drew ?_))); (case side4 => exact (Kd.R_reads' HO913.out).2.1); rintro e w35 ⟨rfl, hb⟩; have n0_ := mkA (Kd.R_below (by (with_reducible repeat (first | apply Kd.R_alloc | apply Kd.R_drewN | apply Kd.R_drew)); exact HO910.out) hb); have n1_ := mkA (Kd.R_below (by (with_reducible repeat (first | apply Kd.R_alloc | apply Kd.R_drewN | apply Kd.R_drew)); exact HO913.out) hb); have n2_ := mkA (blk_below (g := gb899) (o := .cells #[.int .i64 a0_0, .slice A0_1 l0_1.length c0_1, .slice A0_2 l0_2.length c0_2] 25 (0, 0)) (by (with_reducible repeat (first | refine z16 ?_ _ | refine z20 ?_ | refine z19 ?_ _)); exact BK899.out) hb); have n3_ := mkA (blk_below (g := gb900) (o := .cells #[.int .i64 a1_0, .int .i64 a1_1, .int .i64 a1_2] 94 (0, 0)) (by (with_reducible repeat (first | refine z16 ?_ _ | refine z20 ?_ | refine z19 ?_ _)); exact BK900.out) hb); have n4_ := mkA (blk_below (g := gb901) (o := .cells #[.int .i64 a0_0, .slice A0_1 l0_1.length c0_1, .slice Ao24 y911.length co24] 25 (0, 0)) (by (with_reducible repeat (first | refine z16 ?_ _ | refine z20 ?_ | refine z19 ?_ _)); exact BK901.out) hb); have n5_ := mkA (z17 (by repeat (first | (with_reducible first | exact HB.out | apply z10 | apply z11 | apply z12 | refine z14 ?_ GE899.out | refine z14 ?_ GE900.out | refine z14 ?_ GE901.out) | exact HB.out)) hb); clear HO910; clear HO913; clear BK899; clear BK900; clear BK901; clear HB; have HO910 := n0_; have HO913 := n1_; have BK899 := n2_; have BK900 := n3_; have BK901 := n4_; have HB := n5_; clear n0_ n1_ n2_ n3_ n4_ n5_; (try clear hb); (try clear hb2); (try clear hk); (try clear hi)))
     go_meet
     case rel => exact ⟨_, (!t915), (by first | rfl | (simp; done) | (simp [*]; done)), H', ⟨by first | omega | exact Nat.le_refl _⟩, ⟨by (with_reducible repeat (first | apply Kd.R_alloc | apply Kd.R_drewN | apply Kd.R_drew)); exact Kd.R_mono HO913.out (fun _ hk => hk.2)⟩, ⟨by (with_reducible repeat (first | refine z16 ?_ _ | refine z20 ?_ | refine z19 ?_ _)); exact BK899.out⟩, ⟨by (with_reducible repeat (first | refine z16 ?_ _ | refine z20 ?_ | refine z19 ?_ _)); exact BK900.out⟩, ⟨by (with_reducible repeat (first | refine z16 ?_ _ | refine z20 ?_ | refine z19 ?_ _)); exact BK901.out⟩, ⟨by repeat (first | (with_reducible first | exact HB.out | apply z10 | apply z11 | apply z12 | refine z14 ?_ GE899.out | refine z14 ?_ GE900.out | refine z14 ?_ GE901.out) | exact HB.out)⟩⟩
    ·replace c27 := Bool.eq_false_iff.mpr c27
     subst c27
     have H1 : (pl_SoapMore.j0 k true a0_0 l0_1 l0_2 a0_0 l0_1 y911) = some r := by rw [if_neg (show ¬ (false = true) by decide)] at H; exact H
     clear H
     have H := H1
     clear H1
     have H' := mkA H
     clear H
     have hnb36 := NB899_900.out
     have hnc36 := NB900_899.out
     have hnb37 := NB899_901.out
     have hnc37 := NB901_899.out
     have hcz38_0 : w22.cell? ⟨gb899, 0, none⟩ = some (.int .i64 a0_0) := (z13 BK899.out 0).trans rfl
     have hcz38_1 : w22.cell? ⟨gb899, 1, none⟩ = some (.slice A0_1 l0_1.length c0_1) := (z13 BK899.out 1).trans rfl
     have hcz38_2 : w22.cell? ⟨gb899, 2, none⟩ = some (.slice A0_2 l0_2.length c0_2) := (z13 BK899.out 2).trans rfl
     have hfz38_0 := z15 BK899.out 0
     have hfz38_1 := z15 BK899.out 1
     have hfz38_2 := z15 BK899.out 2
     go_wp2_with (first | ((with_reducible refine z25 (f := 45) rfl ?_); refine goesL_ (some 20) rfl rfl Try.func45 (by kernel_rfl) rfl #[.agg #[.int .i64 a0_0, .slice A0_1 l0_1.length c0_1, .slice A0_2 l0_2.length c0_2]] rfl (by (try simp only [List.map_toArray, List.map_cons, List.map_nil]); first | done | rfl | (simp only [List.length_drop, List.length_take]; rfl)) ?_; (with_reducible refine (pl_ready.calls k a0_0 _ _ l0_1 _ _ l0_2 false _ ?side1 ?side2 ?side3 ?side4 A26.out).mono ?_); (case side1 => exact Kd.C_below HR0_1.out (by repeat (first | (with_reducible first | exact HB.out | apply z10 | apply z11 | apply z12 | refine z14 ?_ GE899.out | refine z14 ?_ GE900.out | refine z14 ?_ GE901.out) | exact HB.out))); (case side2 => exact HC0_1.out); (case side3 => exact Kd.C_below HR0_2.out (by repeat (first | (with_reducible first | exact HB.out | apply z10 | apply z11 | apply z12 | refine z14 ?_ GE899.out | refine z14 ?_ GE900.out | refine z14 ?_ GE901.out) | exact HB.out))); (case side4 => exact HC0_2.out); rintro e w39 ⟨rfl, hb⟩; refine ⟨_, rfl, ?_⟩; have n0_ := mkA (Kd.R_below (by (with_reducible repeat (first | apply Kd.R_alloc | apply Kd.R_drewN | apply Kd.R_drew)); exact (Kd.R_mono (Kd.R_far (p := ⟨gb901, 2, none⟩) (Kd.R_types HO910.out BK901.out (by decide)) (fun _ hk => hk.2) (.slice Ao24 y911.length co24)) (fun _ h_ => h_.1))) hb); have n1_ := mkA (Kd.R_below (by (with_reducible repeat (first | apply Kd.R_alloc | apply Kd.R_drewN | apply Kd.R_drew)); exact (Kd.R_mono (Kd.R_far (p := ⟨gb901, 2, none⟩) (Kd.R_types HO913.out BK901.out (by decide)) (fun _ hk => hk.2) (.slice Ao24 y911.length co24)) (fun _ h_ => h_.1))) hb); have n2_ := mkA (blk_below (g := gb899) (o := .cells #[.int .i64 a0_0, .slice A0_1 l0_1.length c0_1, .slice A0_2 l0_2.length c0_2] 25 (0, 0)) (by (with_reducible repeat (first | refine z16 ?_ _ | refine z20 ?_ | refine z19 ?_ _)); refine blk_far ?_ NB899_901.out _; (with_reducible repeat (first | refine z16 ?_ _ | refine z20 ?_ | refine z19 ?_ _)); exact BK899.out) hb); have n3_ := mkA (blk_below (g := gb900) (o := .cells #[.int .i64 a1_0, .int .i64 a1_1, .int .i64 a1_2] 94 (0, 0)) (by (with_reducible repeat (first | refine z16 ?_ _ | refine z20 ?_ | refine z19 ?_ _)); refine blk_far ?_ NB900_901.out _; (with_reducible repeat (first | refine z16 ?_ _ | refine z20 ?_ | refine z19 ?_ _)); exact BK900.out) hb); have n4_ := mkA (blk_below (g := gb901) (o := .cells #[.int .i64 a0_0, .slice A0_1 l0_1.length c0_1, .slice Ao24 y911.length co24] 25 (0, 0)) (by (with_reducible repeat (first | refine z16 ?_ _ | refine z20 ?_ | refine z19 ?_ _)); refine blk_put (cs := #[.int .i64 a0_0, .slice A0_1 l0_1.length c0_1, .slice A0_2 l0_2.length c0_2]) ?_ 2 _ rfl; (with_reducible repeat (first | refine z16 ?_ _ | refine z20 ?_ | refine z19 ?_ _)); exact BK901.out) hb); have n5_ := mkA (z17 (by repeat (first | (with_reducible first | exact HB.out | apply z10 | apply z11 | apply z12 | refine z14 ?_ GE899.out | refine z14 ?_ GE900.out | refine z14 ?_ GE901.out) | exact HB.out)) hb); clear HO910; clear HO913; clear BK899; clear BK900; clear BK901; clear HB; have HO910 := n0_; have HO913 := n1_; have BK899 := n2_; have BK900 := n3_; have BK901 := n4_; have HB := n5_; clear n0_ n1_ n2_ n3_ n4_ n5_; (try clear hb); (try clear hb2); (try clear hk); (try clear hi)))
     go_meet
     case rel => exact ⟨_, (true), (by first | rfl | (simp; done) | (simp [*]; done)), H', ⟨by first | omega | exact Nat.le_refl _⟩, ⟨by (with_reducible repeat (first | apply Kd.R_alloc | apply Kd.R_drewN | apply Kd.R_drew)); exact Kd.R_mono HO913.out (fun _ hk => hk.2)⟩, ⟨by (with_reducible repeat (first | refine z16 ?_ _ | refine z20 ?_ | refine z19 ?_ _)); exact BK899.out⟩, ⟨by (with_reducible repeat (first | refine z16 ?_ _ | refine z20 ?_ | refine z19 ?_ _)); exact BK900.out⟩, ⟨by (with_reducible repeat (first | refine z16 ?_ _ | refine z20 ?_ | refine z19 ?_ _)); exact BK901.out⟩, ⟨by repeat (first | (with_reducible first | exact HB.out | apply z10 | apply z11 | apply z12 | refine z14 ?_ GE899.out | refine z14 ?_ GE900.out | refine z14 ?_ GE901.out) | exact HB.out)⟩⟩
   case rest =>
    clear HC5
    try clear c1
    try clear c2
    try clear p2
    try clear c3
    try clear c4
    try clear c8
    try clear c11
    try clear c12
    try clear c13
    try clear c27
    try clear c29
    try clear c30
    try clear c33
    try clear c36
    try clear c37
    try clear hcz13_0
    try clear hcz13_1
    try clear hcz13_2
    try clear hcz31_0
    try clear hcz31_1
    try clear hcz31_2
    try clear hcz34_0
    try clear hcz34_1
    try clear hcz34_2
    try clear hcz38_0
    try clear hcz38_1
    try clear hcz38_2
    try clear hcz9_0
    try clear hcz9_1
    try clear hcz9_2
    try clear hfz13_0
    try clear hfz13_1
    try clear hfz13_2
    try clear hfz31_0
    try clear hfz31_1
    try clear hfz31_2
    try clear hfz34_0
    try clear hfz34_1
    try clear hfz34_2
    try clear hfz38_0
    try clear hfz38_1
    try clear hfz38_2
    try clear hfz9_0
    try clear hfz9_1
    try clear hfz9_2
    obtain ⟨kq, x26_4, rfl, HA, HJ4, HO_902002, BK899, BK900, BK901, HB⟩ := hcut
    cases kq with
    | zero => exact absurd HA.out (by simp [pl_SoapMore.j0])
    | succ kj4 =>
     have H := HA.out
     clear HA
     simp only [pl_SoapMore.j0] at H
     by_cases c40 : x26_4 = true
     ·subst c40
      have H1 : ((pl_awake.f).bind fun t916 => (some t916)) = some r := by rw [if_pos rfl] at H; exact H
      clear H
      have H := H1
      clear H1
      replace H := Option.bind_eq_some_iff.mp H
      obtain ⟨t916, A410, H⟩ := H
      replace H : (some t916) = some r := H
      have A41 := mkA A410
      clear A410
      obtain rfl := Option.some.inj H
      go_wp2_with (first | ((with_reducible refine z25 (f := 21) rfl ?_); refine goesL_ (some 27) rfl rfl Try.func21 (by kernel_rfl) rfl #[] rfl (by (try simp only [List.map_toArray, List.map_cons, List.map_nil]); first | done | rfl | (simp only [List.length_drop, List.length_take]; rfl)) ?_; (with_reducible refine (pl_awake.calls  t916 _ A41.out).mono ?_); rintro e w42 ⟨rfl, hb⟩; refine ⟨_, rfl, ?_⟩; have n0_ := mkA (Kd.R_below (by (with_reducible repeat (first | apply Kd.R_alloc | apply Kd.R_drewN | apply Kd.R_drew)); exact HO_902002.out) hb); have n1_ := mkA (blk_below (g := gb899) (o := .cells #[.int .i64 a0_0, .slice A0_1 l0_1.length c0_1, .slice A0_2 l0_2.length c0_2] 25 (0, 0)) (by (with_reducible repeat (first | refine z16 ?_ _ | refine z20 ?_ | refine z19 ?_ _)); exact BK899.out) hb); have n2_ := mkA (blk_below (g := gb900) (o := .cells #[.int .i64 a1_0, .int .i64 a1_1, .int .i64 a1_2] 94 (0, 0)) (by (with_reducible repeat (first | refine z16 ?_ _ | refine z20 ?_ | refine z19 ?_ _)); exact BK900.out) hb); have n3_ := mkA (blk_below (g := gb901) (o := .cells #[.int .i64 a0_0, .slice A0_1 l0_1.length c0_1, .slice Ao24 y911.length co24] 25 (0, 0)) (by (with_reducible repeat (first | refine z16 ?_ _ | refine z20 ?_ | refine z19 ?_ _)); exact BK901.out) hb); have n4_ := mkA (z17 (by repeat (first | (with_reducible first | exact HB.out | apply z10 | apply z11 | apply z12 | refine z14 ?_ GE899.out | refine z14 ?_ GE900.out | refine z14 ?_ GE901.out) | exact HB.out)) hb); clear HO_902002; clear BK899; clear BK900; clear BK901; clear HB; have HO_902002 := n0_; have BK899 := n1_; have BK900 := n2_; have BK901 := n3_; have HB := n4_; clear n0_ n1_ n2_ n3_ n4_; (try clear hb); (try clear hb2); (try clear hk); (try clear hi)))
      go_ret
      exact ⟨by first | rfl | (simp [z23, z22] <;> rfl) | (simp [*, z23, z22] <;> rfl), by repeat (first | (with_reducible first | exact HB.out | apply z10 | apply z11 | apply z12 | refine z14 ?_ GE899.out | refine z14 ?_ GE900.out | refine z14 ?_ GE901.out) | exact HB.out)⟩
     ·replace c40 := Bool.eq_false_iff.mpr c40
      subst c40
      have H1 : ((pl_Slate.f kj4 a0_0 l0_1 l0_2).bind fun bt917 => ((soap_Leave.f bt917.1 bt917.2.1 bt917.2.2).bind fun bt924 => ((pl_Slate.f kj4 a0_0 l0_1 y911).bind fun bt928 => ((soap_Leave.f bt928.1 bt928.2.1 bt928.2.2).bind fun bt935 => (if bt924.2 = 0 then (if bt935.2 = 0 then (if (bt935.1.length : Int) < (bt924.1.length : Int) then (pl_SoapMore.j1 kj4 bt935.1 true a0_0 l0_1 l0_2 a0_0 l0_1 y911) else (pl_SoapMore.j1 kj4 bt935.1 (decide ((bt935.1.length : Int) > (wrap64 ((bt924.1.length : Int) + 1)))) a0_0 l0_1 l0_2 a0_0 l0_1 y911)) else (pl_SoapMore.j1 kj4 bt935.1 true a0_0 l0_1 l0_2 a0_0 l0_1 y911)) else (pl_SoapMore.j1 kj4 bt935.1 true a0_0 l0_1 l0_2 a0_0 l0_1 y911)))))) = some r := by rw [if_neg (show ¬ (false = true) by decide)] at H; exact H
      clear H
      have H := H1
      clear H1
      replace H := Option.bind_eq_some_iff.mp H
      obtain ⟨⟨t917, t918, t921⟩, A430, H⟩ := H
      replace H : ((soap_Leave.f t917 t918 t921).bind fun bt924 => ((pl_Slate.f kj4 a0_0 l0_1 y911).bind fun bt928 => ((soap_Leave.f bt928.1 bt928.2.1 bt928.2.2).bind fun bt935 => (if bt924.2 = 0 then (if bt935.2 = 0 then (if (bt935.1.length : Int) < (bt924.1.length : Int) then (pl_SoapMore.j1 kj4 bt935.1 true a0_0 l0_1 l0_2 a0_0 l0_1 y911) else (pl_SoapMore.j1 kj4 bt935.1 (decide ((bt935.1.length : Int) > (wrap64 ((bt924.1.length : Int) + 1)))) a0_0 l0_1 l0_2 a0_0 l0_1 y911)) else (pl_SoapMore.j1 kj4 bt935.1 true a0_0 l0_1 l0_2 a0_0 l0_1 y911)) else (pl_SoapMore.j1 kj4 bt935.1 true a0_0 l0_1 l0_2 a0_0 l0_1 y911))))) = some r := H
      have A43 := mkA A430
      clear A430
      replace H := Option.bind_eq_some_iff.mp H
      obtain ⟨⟨t924, t927⟩, A440, H⟩ := H
      replace H : ((pl_Slate.f kj4 a0_0 l0_1 y911).bind fun bt928 => ((soap_Leave.f bt928.1 bt928.2.1 bt928.2.2).bind fun bt935 => (if t927 = 0 then (if bt935.2 = 0 then (if (bt935.1.length : Int) < (t924.length : Int) then (pl_SoapMore.j1 kj4 bt935.1 true a0_0 l0_1 l0_2 a0_0 l0_1 y911) else (pl_SoapMore.j1 kj4 bt935.1 (decide ((bt935.1.length : Int) > (wrap64 ((t924.length : Int) + 1)))) a0_0 l0_1 l0_2 a0_0 l0_1 y911)) else (pl_SoapMore.j1 kj4 bt935.1 true a0_0 l0_1 l0_2 a0_0 l0_1 y911)) else (pl_SoapMore.j1 kj4 bt935.1 true a0_0 l0_1 l0_2 a0_0 l0_1 y911)))) = some r := H
      have A44 := mkA A440
      clear A440
      replace H := Option.bind_eq_some_iff.mp H
      obtain ⟨⟨t928, t929, t932⟩, A450, H⟩ := H
      replace H : ((soap_Leave.f t928 t929 t932).bind fun bt935 => (if t927 = 0 then (if bt935.2 = 0 then (if (bt935.1.length : Int) < (t924.length : Int) then (pl_SoapMore.j1 kj4 bt935.1 true a0_0 l0_1 l0_2 a0_0 l0_1 y911) else (pl_SoapMore.j1 kj4 bt935.1 (decide ((bt935.1.length : Int) > (wrap64 ((t924.length : Int) + 1)))) a0_0 l0_1 l0_2 a0_0 l0_1 y911)) else (pl_SoapMore.j1 kj4 bt935.1 true a0_0 l0_1 l0_2 a0_0 l0_1 y911)) else (pl_SoapMore.j1 kj4 bt935.1 true a0_0 l0_1 l0_2 a0_0 l0_1 y911))) = some r := H
      have A45 := mkA A450
      clear A450
      replace H := Option.bind_eq_some_iff.mp H
      obtain ⟨⟨t935, t938⟩, A460, H⟩ := H
      replace H : (if t927 = 0 then (if t938 = 0 then (if (t935.length : Int) < (t924.length : Int) then (pl_SoapMore.j1 kj4 t935 true a0_0 l0_1 l0_2 a0_0 l0_1 y911) else (pl_SoapMore.j1 kj4 t935 (decide ((t935.length : Int) > (wrap64 ((t924.length : Int) + 1)))) a0_0 l0_1 l0_2 a0_0 l0_1 y911)) else (pl_SoapMore.j1 kj4 t935 true a0_0 l0_1 l0_2 a0_0 l0_1 y911)) else (pl_SoapMore.j1 kj4 t935 true a0_0 l0_1 l0_2 a0_0 l0_1 y911)) = some r := H
      have A46 := mkA A460
      clear A460
      have HC47 := mkA H
      clear H
      have hnb48 := NB899_900.out
      have hnc48 := NB900_899.out
      have hnb49 := NB899_901.out
      have hnc49 := NB901_899.out
      have hcz50_0 : wc.cell? ⟨gb899, 0, none⟩ = some (.int .i64 a0_0) := (z13 BK899.out 0).trans rfl
      have hcz50_1 : wc.cell? ⟨gb899, 1, none⟩ = some (.slice A0_1 l0_1.length c0_1) := (z13 BK899.out 1).trans rfl
      have hcz50_2 : wc.cell? ⟨gb899, 2, none⟩ = some (.slice A0_2 l0_2.length c0_2) := (z13 BK899.out 2).trans rfl
      have hfz50_0 := z15 BK899.out 0
      have hfz50_1 := z15 BK899.out 1
      have hfz50_2 := z15 BK899.out 2
      go_upto_region 7 with (first | ((with_reducible refine z25 (f := 23) rfl ?_); refine goesL_ (some 30) rfl rfl Try.func23 (by kernel_rfl) rfl #[.agg #[.int .i64 a0_0, .slice A0_1 l0_1.length c0_1, .slice A0_2 l0_2.length c0_2]] rfl (by (try simp only [List.map_toArray, List.map_cons, List.map_nil]); first | done | rfl | (simp only [List.length_drop, List.length_take]; rfl)) ?_; (with_reducible refine (pl_Slate.calls kj4 a0_0 _ _ l0_1 _ _ l0_2 t917 t918 t921 _ ?side1 ?side2 ?side3 ?side4 A43.out).mono ?_); (case side1 => repeat (first | exact (Kd.C_below HR0_1.out HB.out) | (with_reducible refine Kd.C_alloc ?_ _) | (with_reducible refine Kd.C_drewN ?_ _) | (with_reducible refine Kd.C_drew ?_))); (case side2 => exact HC0_1.out); (case side3 => repeat (first | exact (Kd.C_below HR0_2.out HB.out) | (with_reducible refine Kd.C_alloc ?_ _) | (with_reducible refine Kd.C_drewN ?_ _) | (with_reducible refine Kd.C_drew ?_))); (case side4 => exact HC0_2.out); rintro e w51 ⟨v919, v922, rfl, ho0, ho1, hb⟩; refine ⟨_, rfl, ?_⟩; have n0_ := mkA (Kd.R_below (by (with_reducible repeat (first | apply Kd.R_alloc | apply Kd.R_drewN | apply Kd.R_drew)); exact HO_902002.out) hb); have n1_ := mkA (Kd.R_lower ho0 (z18 (by repeat (first | (with_reducible first | exact HB.out | apply z10 | apply z11 | apply z12 | refine z14 ?_ GE899.out | refine z14 ?_ GE900.out | refine z14 ?_ GE901.out) | exact HB.out)))); have n2_ := mkA (Kd.R_lower ho1 (z18 (by repeat (first | (with_reducible first | exact HB.out | apply z10 | apply z11 | apply z12 | refine z14 ?_ GE899.out | refine z14 ?_ GE900.out | refine z14 ?_ GE901.out) | exact HB.out)))); have n3_ := mkA (blk_below (g := gb899) (o := .cells #[.int .i64 a0_0, .slice A0_1 l0_1.length c0_1, .slice A0_2 l0_2.length c0_2] 25 (0, 0)) (by (with_reducible repeat (first | refine z16 ?_ _ | refine z20 ?_ | refine z19 ?_ _)); exact BK899.out) hb); have n4_ := mkA (blk_below (g := gb900) (o := .cells #[.int .i64 a1_0, .int .i64 a1_1, .int .i64 a1_2] 94 (0, 0)) (by (with_reducible repeat (first | refine z16 ?_ _ | refine z20 ?_ | refine z19 ?_ _)); exact BK900.out) hb); have n5_ := mkA (blk_below (g := gb901) (o := .cells #[.int .i64 a0_0, .slice A0_1 l0_1.length c0_1, .slice Ao24 y911.length co24] 25 (0, 0)) (by (with_reducible repeat (first | refine z16 ?_ _ | refine z20 ?_ | refine z19 ?_ _)); exact BK901.out) hb); have n6_ := mkA (z17 (by repeat (first | (with_reducible first | exact HB.out | apply z10 | apply z11 | apply z12 | refine z14 ?_ GE899.out | refine z14 ?_ GE900.out | refine z14 ?_ GE901.out) | exact HB.out)) hb); clear HO_902002; clear BK899; clear BK900; clear BK901; clear HB; have HO_902002 := n0_; have HO920 := n1_; have HO923 := n2_; have BK899 := n3_; have BK900 := n4_; have BK901 := n5_; have HB := n6_; clear n0_ n1_ n2_ n3_ n4_ n5_ n6_; (try clear hb); (try clear hb2); (try clear hk); (try clear hi); (try clear ho0); (try clear ho1); obtain ⟨Ao52, co52, eo52⟩ := Kd.R_slice HO920.out; subst eo52; obtain ⟨Ao53, co53, eo53⟩ := Kd.R_slice HO923.out; subst eo53) | ((with_reducible refine z25 (f := 40) rfl ?_); refine goesL_ (some 31) rfl rfl Try.func40 (by kernel_rfl) rfl #[.agg #[.int .i64 t917, .slice Ao52 t918.length co52, .slice Ao53 t921.length co53]] rfl (by (try simp only [List.map_toArray, List.map_cons, List.map_nil]); first | done | rfl | (simp only [List.length_drop, List.length_take]; rfl)) ?_; (with_reducible refine (soap_Leave.calls t917 _ _ t918 _ _ t921 t924 t927 _ ?side1 ?side2 ?side3 ?side4 A44.out).mono ?_); (case side1 => repeat (first | exact (Kd.R_reads' HO920.out).2.2 | (with_reducible refine Kd.C_alloc ?_ _) | (with_reducible refine Kd.C_drewN ?_ _) | (with_reducible refine Kd.C_drew ?_))); (case side2 => exact (Kd.R_reads' HO920.out).2.1); (case side3 => repeat (first | exact (Kd.R_reads' HO923.out).2.2 | (with_reducible refine Kd.C_alloc ?_ _) | (with_reducible refine Kd.C_drewN ?_ _) | (with_reducible refine Kd.C_drew ?_))); (case side4 => exact (Kd.R_reads' HO923.out).2.1); rintro e w54 ⟨v925, rfl, ho0, hb⟩; refine ⟨_, rfl, ?_⟩; have n0_ := mkA (Kd.R_below (by (with_reducible repeat (first | apply Kd.R_alloc | apply Kd.R_drewN | apply Kd.R_drew)); exact HO_902002.out) hb); have n1_ := mkA (Kd.R_below (by (with_reducible repeat (first | apply Kd.R_alloc | apply Kd.R_drewN | apply Kd.R_drew)); exact HO920.out) hb); have n2_ := mkA (Kd.R_below (by (with_reducible repeat (first | apply Kd.R_alloc | apply Kd.R_drewN | apply Kd.R_drew)); exact HO923.out) hb); have n3_ := mkA (Kd.R_lower ho0 (z18 (by repeat (first | (with_reducible first | exact HB.out | apply z10 | apply z11 | apply z12 | refine z14 ?_ GE899.out | refine z14 ?_ GE900.out | refine z14 ?_ GE901.out) | exact HB.out)))); have n4_ := mkA (blk_below (g := gb899) (o := .cells #[.int .i64 a0_0, .slice A0_1 l0_1.length c0_1, .slice A0_2 l0_2.length c0_2] 25 (0, 0)) (by (with_reducible repeat (first | refine z16 ?_ _ | refine z20 ?_ | refine z19 ?_ _)); exact BK899.out) hb); have n5_ := mkA (blk_below (g := gb900) (o := .cells #[.int .i64 a1_0, .int .i64 a1_1, .int .i64 a1_2] 94 (0, 0)) (by (with_reducible repeat (first | refine z16 ?_ _ | refine z20 ?_ | refine z19 ?_ _)); exact BK900.out) hb); have n6_ := mkA (blk_below (g := gb901) (o := .cells #[.int .i64 a0_0, .slice A0_1 l0_1.length c0_1, .slice Ao24 y911.length co24] 25 (0, 0)) (by (with_reducible repeat (first | refine z16 ?_ _ | refine z20 ?_ | refine z19 ?_ _)); exact BK901.out) hb); have n7_ := mkA (z17 (by repeat (first | (with_reducible first | exact HB.out | apply z10 | apply z11 | apply z12 | refine z14 ?_ GE899.out | refine z14 ?_ GE900.out | refine z14 ?_ GE901.out) | exact HB.out)) hb); clear HO_902002; clear HO920; clear HO923; clear BK899; clear BK900; clear BK901; clear HB; have HO_902002 := n0_; have HO920 := n1_; have HO923 := n2_; have HO926 := n3_; have BK899 := n4_; have BK900 := n5_; have BK901 := n6_; have HB := n7_; clear n0_ n1_ n2_ n3_ n4_ n5_ n6_ n7_; (try clear hb); (try clear hb2); (try clear hk); (try clear hi); (try clear ho0); have hnb55 := NB901_900.out; have hnc55 := NB900_901.out; have hcz56_0 : w54.cell? ⟨gb901, 0, none⟩ = some (.int .i64 a0_0) := (z13 BK901.out 0).trans rfl; have hcz56_1 : w54.cell? ⟨gb901, 1, none⟩ = some (.slice A0_1 l0_1.length c0_1) := (z13 BK901.out 1).trans rfl; have hcz56_2 : w54.cell? ⟨gb901, 2, none⟩ = some (.slice Ao24 y911.length co24) := (z13 BK901.out 2).trans rfl; have hfz56_0 := z15 BK901.out 0; have hfz56_1 := z15 BK901.out 1; have hfz56_2 := z15 BK901.out 2) | ((with_reducible refine z25 (f := 23) rfl ?_); refine goesL_ (some 36) rfl rfl Try.func23 (by kernel_rfl) rfl #[.agg #[.int .i64 a0_0, .slice A0_1 l0_1.length c0_1, .slice Ao24 y911.length co24]] rfl (by (try simp only [List.map_toArray, List.map_cons, List.map_nil]); first | done | rfl | (simp only [List.length_drop, List.length_take]; rfl)) ?_; (with_reducible refine (pl_Slate.calls kj4 a0_0 _ _ l0_1 _ _ y911 t928 t929 t932 _ ?side1 ?side2 ?side3 ?side4 A45.out).mono ?_); (case side1 => repeat (first | exact (Kd.C_below HR0_1.out HB.out) | (with_reducible refine Kd.C_alloc ?_ _) | (with_reducible refine Kd.C_drewN ?_ _) | (with_reducible refine Kd.C_drew ?_))); (case side2 => exact HC0_1.out); (case side3 => repeat (first | exact (Kd.R_reads' HO_902002.out).2.2 | (with_reducible refine Kd.C_alloc ?_ _) | (with_reducible refine Kd.C_drewN ?_ _) | (with_reducible refine Kd.C_drew ?_))); (case side4 => exact (Kd.R_reads' HO_902002.out).2.1); rintro e w57 ⟨v930, v933, rfl, ho0, ho1, hb⟩; refine ⟨_, rfl, ?_⟩; have n0_ := mkA (Kd.R_below (by (with_reducible repeat (first | apply Kd.R_alloc | apply Kd.R_drewN | apply Kd.R_drew)); exact HO_902002.out) hb); have n1_ := mkA (Kd.R_elder' (by (with_reducible repeat (first | apply Kd.R_alloc | apply Kd.R_drewN | apply Kd.R_drew)); exact HO920.out) (Kd.R_base ho0) hb); have n2_ := mkA (Kd.R_elder' (by (with_reducible repeat (first | apply Kd.R_alloc | apply Kd.R_drewN | apply Kd.R_drew)); exact HO923.out) (Kd.R_base ho1) hb); have n3_ := mkA (Kd.R_below (by (with_reducible repeat (first | apply Kd.R_alloc | apply Kd.R_drewN | apply Kd.R_drew)); exact HO926.out) hb); have n4_ := mkA (Kd.R_lower (Kd.R_new' ho0 (Kd.R_lt (by (with_reducible repeat (first | apply Kd.R_alloc | apply Kd.R_drewN | apply Kd.R_drew)); exact HO920.out))) (z18 (by repeat (first | (with_reducible first | exact HB.out | apply z10 | apply z11 | apply z12 | refine z14 ?_ GE899.out | refine z14 ?_ GE900.out | refine z14 ?_ GE901.out) | exact HB.out)))); have n5_ := mkA (Kd.R_lower (Kd.R_new' ho1 (Kd.R_lt (by (with_reducible repeat (first | apply Kd.R_alloc | apply Kd.R_drewN | apply Kd.R_drew)); exact HO923.out))) (z18 (by repeat (first | (with_reducible first | exact HB.out | apply z10 | apply z11 | apply z12 | refine z14 ?_ GE899.out | refine z14 ?_ GE900.out | refine z14 ?_ GE901.out) | exact HB.out)))); have n6_ := mkA (blk_below (g := gb899) (o := .cells #[.int .i64 a0_0, .slice A0_1 l0_1.length c0_1, .slice A0_2 l0_2.length c0_2] 25 (0, 0)) (by (with_reducible repeat (first | refine z16 ?_ _ | refine z20 ?_ | refine z19 ?_ _)); exact BK899.out) hb); have n7_ := mkA (blk_below (g := gb900) (o := .cells #[.int .i64 a1_0, .int .i64 a1_1, .int .i64 a1_2] 94 (0, 0)) (by (with_reducible repeat (first | refine z16 ?_ _ | refine z20 ?_ | refine z19 ?_ _)); exact BK900.out) hb); have n8_ := mkA (blk_below (g := gb901) (o := .cells #[.int .i64 a0_0, .slice A0_1 l0_1.length c0_1, .slice Ao24 y911.length co24] 25 (0, 0)) (by (with_reducible repeat (first | refine z16 ?_ _ | refine z20 ?_ | refine z19 ?_ _)); exact BK901.out) hb); have n9_ := mkA (z17 (by repeat (first | (with_reducible first | exact HB.out | apply z10 | apply z11 | apply z12 | refine z14 ?_ GE899.out | refine z14 ?_ GE900.out | refine z14 ?_ GE901.out) | exact HB.out)) hb); clear HO_902002; clear HO920; clear HO923; clear HO926; clear BK899; clear BK900; clear BK901; clear HB; have HO_902002 := n0_; have HO920 := n1_; have HO923 := n2_; have HO926 := n3_; have HO931 := n4_; have HO934 := n5_; have BK899 := n6_; have BK900 := n7_; have BK901 := n8_; have HB := n9_; clear n0_ n1_ n2_ n3_ n4_ n5_ n6_ n7_ n8_ n9_; (try clear hb); (try clear hb2); (try clear hk); (try clear hi); (try clear ho0); (try clear ho1); obtain ⟨Ao58, co58, eo58⟩ := Kd.R_slice HO931.out; subst eo58; obtain ⟨Ao59, co59, eo59⟩ := Kd.R_slice HO934.out; subst eo59) | ((with_reducible refine z25 (f := 40) rfl ?_); refine goesL_ (some 37) rfl rfl Try.func40 (by kernel_rfl) rfl #[.agg #[.int .i64 t928, .slice Ao58 t929.length co58, .slice Ao59 t932.length co59]] rfl (by (try simp only [List.map_toArray, List.map_cons, List.map_nil]); first | done | rfl | (simp only [List.length_drop, List.length_take]; rfl)) ?_; (with_reducible refine (soap_Leave.calls t928 _ _ t929 _ _ t932 t935 t938 _ ?side1 ?side2 ?side3 ?side4 A46.out).mono ?_); (case side1 => repeat (first | exact (Kd.R_reads' HO931.out).2.2 | (with_reducible refine Kd.C_alloc ?_ _) | (with_reducible refine Kd.C_drewN ?_ _) | (with_reducible refine Kd.C_drew ?_))); (case side2 => exact (Kd.R_reads' HO931.out).2.1); (case side3 => repeat (first | exact (Kd.R_reads' HO934.out).2.2 | (with_reducible refine Kd.C_alloc ?_ _) | (with_reducible refine Kd.C_drewN ?_ _) | (with_reducible refine Kd.C_drew ?_))); (case side4 => exact (Kd.R_reads' HO934.out).2.1); rintro e w60 ⟨v936, rfl, ho0, hb⟩; refine ⟨_, rfl, ?_⟩; have n0_ := mkA (Kd.R_below (by (with_reducible repeat (first | apply Kd.R_alloc | apply Kd.R_drewN | apply Kd.R_drew)); exact HO_902002.out) hb); have n1_ := mkA (Kd.R_below (by (with_reducible repeat (first | apply Kd.R_alloc | apply Kd.R_drewN | apply Kd.R_drew)); exact HO920.out) hb); have n2_ := mkA (Kd.R_below (by (with_reducible repeat (first | apply Kd.R_alloc | apply Kd.R_drewN | apply Kd.R_drew)); exact HO923.out) hb); have n3_ := mkA (Kd.R_elder' (by (with_reducible repeat (first | apply Kd.R_alloc | apply Kd.R_drewN | apply Kd.R_drew)); exact HO926.out) (Kd.R_base ho0) hb); have n4_ := mkA (Kd.R_below (by (with_reducible repeat (first | apply Kd.R_alloc | apply Kd.R_drewN | apply Kd.R_drew)); exact HO931.out) hb); have n5_ := mkA (Kd.R_below (by (with_reducible repeat (first | apply Kd.R_alloc | apply Kd.R_drewN | apply Kd.R_drew)); exact HO934.out) hb); have n6_ := mkA (Kd.R_lower (Kd.R_new' ho0 (Kd.R_lt (by (with_reducible repeat (first | apply Kd.R_alloc | apply Kd.R_drewN | apply Kd.R_drew)); exact HO926.out))) (z18 (by repeat (first | (with_reducible first | exact HB.out | apply z10 | apply z11 | apply z12 | refine z14 ?_ GE899.out | refine z14 ?_ GE900.out | refine z14 ?_ GE901.out) | exact HB.out)))); have n7_ := mkA (blk_below (g := gb899) (o := .cells #[.int .i64 a0_0, .slice A0_1 l0_1.length c0_1, .slice A0_2 l0_2.length c0_2] 25 (0, 0)) (by (with_reducible repeat (first | refine z16 ?_ _ | refine z20 ?_ | refine z19 ?_ _)); exact BK899.out) hb); have n8_ := mkA (blk_below (g := gb900) (o := .cells #[.int .i64 a1_0, .int .i64 a1_1, .int .i64 a1_2] 94 (0, 0)) (by (with_reducible repeat (first | refine z16 ?_ _ | refine z20 ?_ | refine z19 ?_ _)); exact BK900.out) hb); have n9_ := mkA (blk_below (g := gb901) (o := .cells #[.int .i64 a0_0, .slice A0_1 l0_1.length c0_1, .slice Ao24 y911.length co24] 25 (0, 0)) (by (with_reducible repeat (first | refine z16 ?_ _ | refine z20 ?_ | refine z19 ?_ _)); exact BK901.out) hb); have n10_ := mkA (z17 (by repeat (first | (with_reducible first | exact HB.out | apply z10 | apply z11 | apply z12 | refine z14 ?_ GE899.out | refine z14 ?_ GE900.out | refine z14 ?_ GE901.out) | exact HB.out)) hb); clear HO_902002; clear HO920; clear HO923; clear HO926; clear HO931; clear HO934; clear BK899; clear BK900; clear BK901; clear HB; have HO_902002 := n0_; have HO920 := n1_; have HO923 := n2_; have HO926 := n3_; have HO931 := n4_; have HO934 := n5_; have HO937 := n6_; have BK899 := n7_; have BK900 := n8_; have BK901 := n9_; have HB := n10_; clear n0_ n1_ n2_ n3_ n4_ n5_ n6_ n7_ n8_ n9_ n10_; (try clear hb); (try clear hb2); (try clear hk); (try clear hi); (try clear ho0)))
      (try simp only [Act.put, xq1, xq2, xq3])
      go_cut [60] (fun v60 wc => ∃ (kq : Nat) (x60_46 : Bool), v60 = .bool x60_46 ∧ Aside0 (pl_SoapMore.j1 kq t935 x60_46 a0_0 l0_1 l0_2 a0_0 l0_1 y911 = some r) ∧ Aside0 (kq ≤ kj4) ∧ Aside0 (Kd.R (Kd.int .i64) 3 wc w.heap.size (fun _ => True) v936 t935) ∧ Aside0 (Kd.R k94 94 wc w.heap.size (fun k_ => k_ ≠ gb900) (.slice Ao24 y911.length co24) y911) ∧ Aside0 (wc.heap[gb899]? = some (.cells #[.int .i64 a0_0, (.slice A0_1 l0_1.length c0_1), (.slice A0_2 l0_2.length c0_2)] 25 (0, 0))) ∧ Aside0 (wc.heap[gb900]? = some (.cells #[.int .i64 a1_0, .int .i64 a1_1, .int .i64 a1_2] 94 (0, 0))) ∧ Aside0 (wc.heap[gb901]? = some (.cells #[.int .i64 a0_0, (.slice A0_1 l0_1.length c0_1), (.slice Ao24 y911.length co24)] 25 (0, 0))) ∧ Aside0 (Below w.heap.size w wc))
      case first =>
       have H := HC47.out
       clear HC47
       by_cases c61 : t927 = 0
       ·rw [if_pos c61] at H
        have c61b0 : (t927 == 0) = true := beq_iff_eq.mpr c61
        have c61b1 : (t927 != 0) = false := bne_eq_false_iff_eq.mpr c61
        clear c61
        (first | rw [c61b0] | (simp only [i64_w, i32_w]; rw [c61b0]) | skip)
        by_cases c62 : t938 = 0
        ·rw [if_pos c62] at H
         have c62b0 : (t938 == 0) = true := beq_iff_eq.mpr c62
         have c62b1 : (t938 != 0) = false := bne_eq_false_iff_eq.mpr c62
         clear c62
         by_cases c63 : (t935.length : Int) < (t924.length : Int)
         ·rw [if_pos c63] at H
          have c63b0 : decide ((t935.length : Int) < (t924.length : Int)) = true := decide_eq_true c63
          have c63b1 : decide (t935.length < t924.length) = true := decide_eq_true (Int.ofNat_lt.mp c63)
          clear c63
          have H' := mkA H
          clear H
          obtain ⟨Ao64, co64, eo64⟩ := Kd.R_slice HO937.out
          subst eo64
          obtain ⟨Ao65, co65, eo65⟩ := Kd.R_slice HO926.out
          subst eo65
          go_wp2
          go_meet
          case rel => exact ⟨_, (true), (by first | rfl | (simp; done) | (simp [*]; done)), H', ⟨by have := HJ4.out; first | omega | exact Nat.le_refl _⟩, ⟨by (with_reducible repeat (first | apply Kd.R_alloc | apply Kd.R_drewN | apply Kd.R_drew)); exact Kd.R_mono HO937.out (fun _ hk => trivial)⟩, ⟨by (with_reducible repeat (first | apply Kd.R_alloc | apply Kd.R_drewN | apply Kd.R_drew)); exact HO_902002.out⟩, ⟨by (with_reducible repeat (first | refine z16 ?_ _ | refine z20 ?_ | refine z19 ?_ _)); exact BK899.out⟩, ⟨by (with_reducible repeat (first | refine z16 ?_ _ | refine z20 ?_ | refine z19 ?_ _)); exact BK900.out⟩, ⟨by (with_reducible repeat (first | refine z16 ?_ _ | refine z20 ?_ | refine z19 ?_ _)); exact BK901.out⟩, ⟨by repeat (first | (with_reducible first | exact HB.out | apply z10 | apply z11 | apply z12 | refine z14 ?_ GE899.out | refine z14 ?_ GE900.out | refine z14 ?_ GE901.out) | exact HB.out)⟩⟩
         ·rw [if_neg c63] at H
          have c63b0 : decide ((t935.length : Int) < (t924.length : Int)) = false := decide_eq_false c63
          have c63b1 : decide (t935.length < t924.length) = false := decide_eq_false (fun h => c63 (Int.ofNat_lt.mpr h))
          clear c63
          have H' := mkA H
          clear H
          obtain ⟨Ao66, co66, eo66⟩ := Kd.R_slice HO937.out
          subst eo66
          obtain ⟨Ao67, co67, eo67⟩ := Kd.R_slice HO926.out
          subst eo67
          go_wp2
          go_meet
          case rel => exact ⟨_, (decide ((t935.length : Int) > (wrap64 ((t924.length : Int) + 1)))), (by first | rfl | (simp; done) | (simp [*]; done)), H', ⟨by have := HJ4.out; first | omega | exact Nat.le_refl _⟩, ⟨by (with_reducible repeat (first | apply Kd.R_alloc | apply Kd.R_drewN | apply Kd.R_drew)); exact Kd.R_mono HO937.out (fun _ hk => trivial)⟩, ⟨by (with_reducible repeat (first | apply Kd.R_alloc | apply Kd.R_drewN | apply Kd.R_drew)); exact HO_902002.out⟩, ⟨by (with_reducible repeat (first | refine z16 ?_ _ | refine z20 ?_ | refine z19 ?_ _)); exact BK899.out⟩, ⟨by (with_reducible repeat (first | refine z16 ?_ _ | refine z20 ?_ | refine z19 ?_ _)); exact BK900.out⟩, ⟨by (with_reducible repeat (first | refine z16 ?_ _ | refine z20 ?_ | refine z19 ?_ _)); exact BK901.out⟩, ⟨by repeat (first | (with_reducible first | exact HB.out | apply z10 | apply z11 | apply z12 | refine z14 ?_ GE899.out | refine z14 ?_ GE900.out | refine z14 ?_ GE901.out) | exact HB.out)⟩⟩
        ·rw [if_neg c62] at H
         have c62b0 : (t938 == 0) = false := beq_eq_false_iff_ne.mpr c62
         have c62b1 : (t938 != 0) = true := bne_iff_ne.mpr c62
         have H' := mkA H
         clear H
         go_wp2
         go_meet
         case rel => exact ⟨_, (true), (by first | rfl | (simp; done) | (simp [*]; done)), H', ⟨by have := HJ4.out; first | omega | exact Nat.le_refl _⟩, ⟨by (with_reducible repeat (first | apply Kd.R_alloc | apply Kd.R_drewN | apply Kd.R_drew)); exact Kd.R_mono HO937.out (fun _ hk => trivial)⟩, ⟨by (with_reducible repeat (first | apply Kd.R_alloc | apply Kd.R_drewN | apply Kd.R_drew)); exact HO_902002.out⟩, ⟨by (with_reducible repeat (first | refine z16 ?_ _ | refine z20 ?_ | refine z19 ?_ _)); exact BK899.out⟩, ⟨by (with_reducible repeat (first | refine z16 ?_ _ | refine z20 ?_ | refine z19 ?_ _)); exact BK900.out⟩, ⟨by (with_reducible repeat (first | refine z16 ?_ _ | refine z20 ?_ | refine z19 ?_ _)); exact BK901.out⟩, ⟨by repeat (first | (with_reducible first | exact HB.out | apply z10 | apply z11 | apply z12 | refine z14 ?_ GE899.out | refine z14 ?_ GE900.out | refine z14 ?_ GE901.out) | exact HB.out)⟩⟩
       ·rw [if_neg c61] at H
        have c61b0 : (t927 == 0) = false := beq_eq_false_iff_ne.mpr c61
        have c61b1 : (t927 != 0) = true := bne_iff_ne.mpr c61
        (first | rw [c61b0] | (simp only [i64_w, i32_w]; rw [c61b0]) | skip)
        have H' := mkA H
        clear H
        go_wp2
        go_meet
        case rel => exact ⟨_, (true), (by first | rfl | (simp; done) | (simp [*]; done)), H', ⟨by have := HJ4.out; first | omega | exact Nat.le_refl _⟩, ⟨by (with_reducible repeat (first | apply Kd.R_alloc | apply Kd.R_drewN | apply Kd.R_drew)); exact Kd.R_mono HO937.out (fun _ hk => trivial)⟩, ⟨by (with_reducible repeat (first | apply Kd.R_alloc | apply Kd.R_drewN | apply Kd.R_drew)); exact HO_902002.out⟩, ⟨by (with_reducible repeat (first | refine z16 ?_ _ | refine z20 ?_ | refine z19 ?_ _)); exact BK899.out⟩, ⟨by (with_reducible repeat (first | refine z16 ?_ _ | refine z20 ?_ | refine z19 ?_ _)); exact BK900.out⟩, ⟨by (with_reducible repeat (first | refine z16 ?_ _ | refine z20 ?_ | refine z19 ?_ _)); exact BK901.out⟩, ⟨by repeat (first | (with_reducible first | exact HB.out | apply z10 | apply z11 | apply z12 | refine z14 ?_ GE899.out | refine z14 ?_ GE900.out | refine z14 ?_ GE901.out) | exact HB.out)⟩⟩
      case rest =>
       clear HC47
       try clear c1
       try clear c2
       try clear p2
       try clear c3
       try clear c4
       try clear c5
       try clear c6
       try clear p6
       try clear c8
       try clear c11
       try clear c12
       try clear c13
       try clear c21
       try clear c23
       try clear c27
       try clear c29
       try clear c30
       try clear c33
       try clear c36
       try clear c37
       try clear c40
       try clear c45
       try clear c48
       try clear c49
       try clear c55
       try clear c61
       try clear c61b0
       try clear c61b1
       try clear c62
       try clear c62b0
       try clear c62b1
       try clear c63
       try clear c63b0
       try clear c63b1
       try clear p64
       try clear hcz13_0
       try clear hcz13_1
       try clear hcz13_2
       try clear hcz31_0
       try clear hcz31_1
       try clear hcz31_2
       try clear hcz34_0
       try clear hcz34_1
       try clear hcz34_2
       try clear hcz38_0
       try clear hcz38_1
       try clear hcz38_2
       try clear hcz50_0
       try clear hcz50_1
       try clear hcz50_2
       try clear hcz56_0
       try clear hcz56_1
       try clear hcz56_2
       try clear hcz9_0
       try clear hcz9_1
       try clear hcz9_2
       try clear hfz13_0
       try clear hfz13_1
       try clear hfz13_2
       try clear hfz31_0
       try clear hfz31_1
       try clear hfz31_2
       try clear hfz34_0
       try clear hfz34_1
       try clear hfz34_2
       try clear hfz38_0
       try clear hfz38_1
       try clear hfz38_2
       try clear hfz50_0
       try clear hfz50_1
       try clear hfz50_2
       try clear hfz56_0
       try clear hfz56_1
       try clear hfz56_2
       try clear hfz9_0
       try clear hfz9_1
       try clear hfz9_2
       try clear p2
       obtain ⟨kq, x60_46, rfl, HA, HJ46, HO_8, HO_902002, BK899, BK900, BK901, HB⟩ := hcut
       cases kq with
       | zero => exact absurd HA.out (by simp [pl_SoapMore.j1])
       | succ kj46 =>
        have H := HA.out
        clear HA
        simp only [pl_SoapMore.j1] at H
        by_cases c68 : x60_46 = true
        ·subst c68
         have H1 : (some false) = some r := by rw [if_pos rfl] at H; exact H
         clear H
         have H := H1
         clear H1
         obtain rfl := Option.some.inj H
         go_wp2
         go_ret
         exact ⟨by first | rfl | (simp [z23, z22] <;> rfl) | (simp [*, z23, z22] <;> rfl), by repeat (first | (with_reducible first | exact HB.out | apply z10 | apply z11 | apply z12 | refine z14 ?_ GE899.out | refine z14 ?_ GE900.out | refine z14 ?_ GE901.out) | exact HB.out)⟩
        ·replace c68 := Bool.eq_false_iff.mpr c68
         subst c68
         have H1 : (if (t935.length : Int) > 0 then ((pl_awake.f).bind fun t939 => (some t939)) else ((pl_closer.f a0_0 l0_1 y911 a0_0 l0_1 l0_2).bind fun t940 => (if t940 = true then ((pl_awake.f).bind fun t941 => (some t941)) else (some false)))) = some r := by rw [if_neg (show ¬ (false = true) by decide)] at H; exact H
         clear H
         have H := H1
         clear H1
         by_cases c69 : (t935.length : Int) > 0
         ·rw [if_pos c69] at H
          have c69b0 : decide (0 < (t935.length : Int)) = true := decide_eq_true c69
          have c69b1 : decide (0 < t935.length) = true := decide_eq_true (by omega)
          clear c69
          replace H := Option.bind_eq_some_iff.mp H
          obtain ⟨t939, A700, H⟩ := H
          replace H : (some t939) = some r := H
          have A70 := mkA A700
          clear A700
          obtain rfl := Option.some.inj H
          obtain ⟨Ao71, co71, eo71⟩ := Kd.R_slice HO_8.out
          subst eo71
          go_wp2_with (first | (go_at_call 21; (with_reducible refine (pl_awake.calls  t939 _ A70.out).mono ?_); rintro e w72 ⟨rfl, hb⟩; have n0_ := mkA (Kd.R_below (by (with_reducible repeat (first | apply Kd.R_alloc | apply Kd.R_drewN | apply Kd.R_drew)); exact HO_8.out) hb); have n1_ := mkA (Kd.R_below (by (with_reducible repeat (first | apply Kd.R_alloc | apply Kd.R_drewN | apply Kd.R_drew)); exact HO_902002.out) hb); have n2_ := mkA (blk_below (g := gb899) (o := .cells #[.int .i64 a0_0, .slice A0_1 l0_1.length c0_1, .slice A0_2 l0_2.length c0_2] 25 (0, 0)) (by (with_reducible repeat (first | refine z16 ?_ _ | refine z20 ?_ | refine z19 ?_ _)); exact BK899.out) hb); have n3_ := mkA (blk_below (g := gb900) (o := .cells #[.int .i64 a1_0, .int .i64 a1_1, .int .i64 a1_2] 94 (0, 0)) (by (with_reducible repeat (first | refine z16 ?_ _ | refine z20 ?_ | refine z19 ?_ _)); exact BK900.out) hb); have n4_ := mkA (blk_below (g := gb901) (o := .cells #[.int .i64 a0_0, .slice A0_1 l0_1.length c0_1, .slice Ao24 y911.length co24] 25 (0, 0)) (by (with_reducible repeat (first | refine z16 ?_ _ | refine z20 ?_ | refine z19 ?_ _)); exact BK901.out) hb); have n5_ := mkA (z17 (by repeat (first | (with_reducible first | exact HB.out | apply z10 | apply z11 | apply z12 | refine z14 ?_ GE899.out | refine z14 ?_ GE900.out | refine z14 ?_ GE901.out) | exact HB.out)) hb); clear HO_8; clear HO_902002; clear BK899; clear BK900; clear BK901; clear HB; have HO_8 := n0_; have HO_902002 := n1_; have BK899 := n2_; have BK900 := n3_; have BK901 := n4_; have HB := n5_; clear n0_ n1_ n2_ n3_ n4_ n5_; (try clear hb); (try clear hb2); (try clear hk); (try clear hi)))
          go_ret
          exact ⟨by first | rfl | (simp [z23, z22] <;> rfl) | (simp [*, z23, z22] <;> rfl), by repeat (first | (with_reducible first | exact HB.out | apply z10 | apply z11 | apply z12 | refine z14 ?_ GE899.out | refine z14 ?_ GE900.out | refine z14 ?_ GE901.out) | exact HB.out)⟩
         ·rw [if_neg c69] at H
          have c69b0 : decide (0 < (t935.length : Int)) = false := decide_eq_false c69
          have c69b1 : decide (0 < t935.length) = false := decide_eq_false (by omega)
          clear c69
          replace H := Option.bind_eq_some_iff.mp H
          obtain ⟨t940, A730, H⟩ := H
          replace H : (if t940 = true then ((pl_awake.f).bind fun t941 => (some t941)) else (some false)) = some r := H
          have A73 := mkA A730
          clear A730
          by_cases c74 : t940 = true
          ·subst c74
           have H1 : ((pl_awake.f).bind fun t941 => (some t941)) = some r := by rw [if_pos rfl] at H; exact H
           clear H
           have H := H1
           clear H1
           replace H := Option.bind_eq_some_iff.mp H
           obtain ⟨t941, A750, H⟩ := H
           replace H : (some t941) = some r := H
           have A75 := mkA A750
           clear A750
           obtain rfl := Option.some.inj H
           obtain ⟨Ao76, co76, eo76⟩ := Kd.R_slice HO_8.out
           subst eo76
           have hnb77 := NB901_899.out
           have hnc77 := NB899_901.out
           have hnb78 := NB901_900.out
           have hnc78 := NB900_901.out
           have hcz79_0 : wc.cell? ⟨gb901, 0, none⟩ = some (.int .i64 a0_0) := (z13 BK901.out 0).trans rfl
           have hcz79_1 : wc.cell? ⟨gb901, 1, none⟩ = some (.slice A0_1 l0_1.length c0_1) := (z13 BK901.out 1).trans rfl
           have hcz79_2 : wc.cell? ⟨gb901, 2, none⟩ = some (.slice Ao24 y911.length co24) := (z13 BK901.out 2).trans rfl
           have hfz79_0 := z15 BK901.out 0
           have hfz79_1 := z15 BK901.out 1
           have hfz79_2 := z15 BK901.out 2
           have hnb80 := NB899_900.out
           have hnc80 := NB900_899.out
           have hcz81_0 : wc.cell? ⟨gb899, 0, none⟩ = some (.int .i64 a0_0) := (z13 BK899.out 0).trans rfl
           have hcz81_1 : wc.cell? ⟨gb899, 1, none⟩ = some (.slice A0_1 l0_1.length c0_1) := (z13 BK899.out 1).trans rfl
           have hcz81_2 : wc.cell? ⟨gb899, 2, none⟩ = some (.slice A0_2 l0_2.length c0_2) := (z13 BK899.out 2).trans rfl
           have hfz81_0 := z15 BK899.out 0
           have hfz81_1 := z15 BK899.out 1
           have hfz81_2 := z15 BK899.out 2
           go_wp2_with (first | (go_at_call 60; (with_reducible refine (pl_closer.calls a0_0 _ _ l0_1 _ _ y911 a0_0 _ _ l0_1 _ _ l0_2 true _ ?side1 ?side2 ?side3 ?side4 ?side5 ?side6 ?side7 ?side8 A73.out).mono ?_); (case side1 => repeat (first | exact (Kd.C_below HR0_1.out HB.out) | (with_reducible refine Kd.C_alloc ?_ _) | (with_reducible refine Kd.C_drewN ?_ _) | (with_reducible refine Kd.C_drew ?_))); (case side2 => exact HC0_1.out); (case side3 => repeat (first | exact (Kd.R_reads' HO_902002.out).2.2 | (with_reducible refine Kd.C_alloc ?_ _) | (with_reducible refine Kd.C_drewN ?_ _) | (with_reducible refine Kd.C_drew ?_))); (case side4 => exact (Kd.R_reads' HO_902002.out).2.1); (case side5 => repeat (first | exact (Kd.C_below HR0_1.out HB.out) | (with_reducible refine Kd.C_alloc ?_ _) | (with_reducible refine Kd.C_drewN ?_ _) | (with_reducible refine Kd.C_drew ?_))); (case side6 => exact HC0_1.out); (case side7 => repeat (first | exact (Kd.C_below HR0_2.out HB.out) | (with_reducible refine Kd.C_alloc ?_ _) | (with_reducible refine Kd.C_drewN ?_ _) | (with_reducible refine Kd.C_drew ?_))); (case side8 => exact HC0_2.out); rintro e w82 ⟨rfl, hb⟩; have n0_ := mkA (Kd.R_below (by (with_reducible repeat (first | apply Kd.R_alloc | apply Kd.R_drewN | apply Kd.R_drew)); exact HO_8.out) hb); have n1_ := mkA (Kd.R_below (by (with_reducible repeat (first | apply Kd.R_alloc | apply Kd.R_drewN | apply Kd.R_drew)); exact HO_902002.out) hb); have n2_ := mkA (blk_below (g := gb899) (o := .cells #[.int .i64 a0_0, .slice A0_1 l0_1.length c0_1, .slice A0_2 l0_2.length c0_2] 25 (0, 0)) (by (with_reducible repeat (first | refine z16 ?_ _ | refine z20 ?_ | refine z19 ?_ _)); exact BK899.out) hb); have n3_ := mkA (blk_below (g := gb900) (o := .cells #[.int .i64 a1_0, .int .i64 a1_1, .int .i64 a1_2] 94 (0, 0)) (by (with_reducible repeat (first | refine z16 ?_ _ | refine z20 ?_ | refine z19 ?_ _)); exact BK900.out) hb); have n4_ := mkA (blk_below (g := gb901) (o := .cells #[.int .i64 a0_0, .slice A0_1 l0_1.length c0_1, .slice Ao24 y911.length co24] 25 (0, 0)) (by (with_reducible repeat (first | refine z16 ?_ _ | refine z20 ?_ | refine z19 ?_ _)); exact BK901.out) hb); have n5_ := mkA (z17 (by repeat (first | (with_reducible first | exact HB.out | apply z10 | apply z11 | apply z12 | refine z14 ?_ GE899.out | refine z14 ?_ GE900.out | refine z14 ?_ GE901.out) | exact HB.out)) hb); clear HO_8; clear HO_902002; clear BK899; clear BK900; clear BK901; clear HB; have HO_8 := n0_; have HO_902002 := n1_; have BK899 := n2_; have BK900 := n3_; have BK901 := n4_; have HB := n5_; clear n0_ n1_ n2_ n3_ n4_ n5_; (try clear hb); (try clear hb2); (try clear hk); (try clear hi)) | (go_at_call 21; (with_reducible refine (pl_awake.calls  t941 _ A75.out).mono ?_); rintro e w83 ⟨rfl, hb⟩; have n0_ := mkA (Kd.R_below (by (with_reducible repeat (first | apply Kd.R_alloc | apply Kd.R_drewN | apply Kd.R_drew)); exact HO_8.out) hb); have n1_ := mkA (Kd.R_below (by (with_reducible repeat (first | apply Kd.R_alloc | apply Kd.R_drewN | apply Kd.R_drew)); exact HO_902002.out) hb); have n2_ := mkA (blk_below (g := gb899) (o := .cells #[.int .i64 a0_0, .slice A0_1 l0_1.length c0_1, .slice A0_2 l0_2.length c0_2] 25 (0, 0)) (by (with_reducible repeat (first | refine z16 ?_ _ | refine z20 ?_ | refine z19 ?_ _)); exact BK899.out) hb); have n3_ := mkA (blk_below (g := gb900) (o := .cells #[.int .i64 a1_0, .int .i64 a1_1, .int .i64 a1_2] 94 (0, 0)) (by (with_reducible repeat (first | refine z16 ?_ _ | refine z20 ?_ | refine z19 ?_ _)); exact BK900.out) hb); have n4_ := mkA (blk_below (g := gb901) (o := .cells #[.int .i64 a0_0, .slice A0_1 l0_1.length c0_1, .slice Ao24 y911.length co24] 25 (0, 0)) (by (with_reducible repeat (first | refine z16 ?_ _ | refine z20 ?_ | refine z19 ?_ _)); exact BK901.out) hb); have n5_ := mkA (z17 (by repeat (first | (with_reducible first | exact HB.out | apply z10 | apply z11 | apply z12 | refine z14 ?_ GE899.out | refine z14 ?_ GE900.out | refine z14 ?_ GE901.out) | exact HB.out)) hb); clear HO_8; clear HO_902002; clear BK899; clear BK900; clear BK901; clear HB; have HO_8 := n0_; have HO_902002 := n1_; have BK899 := n2_; have BK900 := n3_; have BK901 := n4_; have HB := n5_; clear n0_ n1_ n2_ n3_ n4_ n5_; (try clear hb); (try clear hb2); (try clear hk); (try clear hi)))
           go_ret
           exact ⟨by first | rfl | (simp [z23, z22] <;> rfl) | (simp [*, z23, z22] <;> rfl), by repeat (first | (with_reducible first | exact HB.out | apply z10 | apply z11 | apply z12 | refine z14 ?_ GE899.out | refine z14 ?_ GE900.out | refine z14 ?_ GE901.out) | exact HB.out)⟩
          ·replace c74 := Bool.eq_false_iff.mpr c74
           subst c74
           have H1 : (some false) = some r := by rw [if_neg (show ¬ (false = true) by decide)] at H; exact H
           clear H
           have H := H1
           clear H1
           obtain rfl := Option.some.inj H
           obtain ⟨Ao84, co84, eo84⟩ := Kd.R_slice HO_8.out
           subst eo84
           have hnb85 := NB901_899.out
           have hnc85 := NB899_901.out
           have hnb86 := NB901_900.out
           have hnc86 := NB900_901.out
           have hcz87_0 : wc.cell? ⟨gb901, 0, none⟩ = some (.int .i64 a0_0) := (z13 BK901.out 0).trans rfl
           have hcz87_1 : wc.cell? ⟨gb901, 1, none⟩ = some (.slice A0_1 l0_1.length c0_1) := (z13 BK901.out 1).trans rfl
           have hcz87_2 : wc.cell? ⟨gb901, 2, none⟩ = some (.slice Ao24 y911.length co24) := (z13 BK901.out 2).trans rfl
           have hfz87_0 := z15 BK901.out 0
           have hfz87_1 := z15 BK901.out 1
           have hfz87_2 := z15 BK901.out 2
           have hnb88 := NB899_900.out
           have hnc88 := NB900_899.out
           have hcz89_0 : wc.cell? ⟨gb899, 0, none⟩ = some (.int .i64 a0_0) := (z13 BK899.out 0).trans rfl
           have hcz89_1 : wc.cell? ⟨gb899, 1, none⟩ = some (.slice A0_1 l0_1.length c0_1) := (z13 BK899.out 1).trans rfl
           have hcz89_2 : wc.cell? ⟨gb899, 2, none⟩ = some (.slice A0_2 l0_2.length c0_2) := (z13 BK899.out 2).trans rfl
           have hfz89_0 := z15 BK899.out 0
           have hfz89_1 := z15 BK899.out 1
           have hfz89_2 := z15 BK899.out 2
           go_wp2_with (first | (go_at_call 60; (with_reducible refine (pl_closer.calls a0_0 _ _ l0_1 _ _ y911 a0_0 _ _ l0_1 _ _ l0_2 false _ ?side1 ?side2 ?side3 ?side4 ?side5 ?side6 ?side7 ?side8 A73.out).mono ?_); (case side1 => repeat (first | exact (Kd.C_below HR0_1.out HB.out) | (with_reducible refine Kd.C_alloc ?_ _) | (with_reducible refine Kd.C_drewN ?_ _) | (with_reducible refine Kd.C_drew ?_))); (case side2 => exact HC0_1.out); (case side3 => repeat (first | exact (Kd.R_reads' HO_902002.out).2.2 | (with_reducible refine Kd.C_alloc ?_ _) | (with_reducible refine Kd.C_drewN ?_ _) | (with_reducible refine Kd.C_drew ?_))); (case side4 => exact (Kd.R_reads' HO_902002.out).2.1); (case side5 => repeat (first | exact (Kd.C_below HR0_1.out HB.out) | (with_reducible refine Kd.C_alloc ?_ _) | (with_reducible refine Kd.C_drewN ?_ _) | (with_reducible refine Kd.C_drew ?_))); (case side6 => exact HC0_1.out); (case side7 => repeat (first | exact (Kd.C_below HR0_2.out HB.out) | (with_reducible refine Kd.C_alloc ?_ _) | (with_reducible refine Kd.C_drewN ?_ _) | (with_reducible refine Kd.C_drew ?_))); (case side8 => exact HC0_2.out); rintro e w90 ⟨rfl, hb⟩; have n0_ := mkA (Kd.R_below (by (with_reducible repeat (first | apply Kd.R_alloc | apply Kd.R_drewN | apply Kd.R_drew)); exact HO_8.out) hb); have n1_ := mkA (Kd.R_below (by (with_reducible repeat (first | apply Kd.R_alloc | apply Kd.R_drewN | apply Kd.R_drew)); exact HO_902002.out) hb); have n2_ := mkA (blk_below (g := gb899) (o := .cells #[.int .i64 a0_0, .slice A0_1 l0_1.length c0_1, .slice A0_2 l0_2.length c0_2] 25 (0, 0)) (by (with_reducible repeat (first | refine z16 ?_ _ | refine z20 ?_ | refine z19 ?_ _)); exact BK899.out) hb); have n3_ := mkA (blk_below (g := gb900) (o := .cells #[.int .i64 a1_0, .int .i64 a1_1, .int .i64 a1_2] 94 (0, 0)) (by (with_reducible repeat (first | refine z16 ?_ _ | refine z20 ?_ | refine z19 ?_ _)); exact BK900.out) hb); have n4_ := mkA (blk_below (g := gb901) (o := .cells #[.int .i64 a0_0, .slice A0_1 l0_1.length c0_1, .slice Ao24 y911.length co24] 25 (0, 0)) (by (with_reducible repeat (first | refine z16 ?_ _ | refine z20 ?_ | refine z19 ?_ _)); exact BK901.out) hb); have n5_ := mkA (z17 (by repeat (first | (with_reducible first | exact HB.out | apply z10 | apply z11 | apply z12 | refine z14 ?_ GE899.out | refine z14 ?_ GE900.out | refine z14 ?_ GE901.out) | exact HB.out)) hb); clear HO_8; clear HO_902002; clear BK899; clear BK900; clear BK901; clear HB; have HO_8 := n0_; have HO_902002 := n1_; have BK899 := n2_; have BK900 := n3_; have BK901 := n4_; have HB := n5_; clear n0_ n1_ n2_ n3_ n4_ n5_; (try clear hb); (try clear hb2); (try clear hk); (try clear hi)))
           go_ret
           exact ⟨by first | rfl | (simp [z23, z22] <;> rfl) | (simp [*, z23, z22] <;> rfl), by repeat (first | (with_reducible first | exact HB.out | apply z10 | apply z11 | apply z12 | refine z14 ?_ GE899.out | refine z14 ?_ GE900.out | refine z14 ?_ GE901.out) | exact HB.out)⟩
  ·rw [if_neg c4] at H
   exact absurd H (by simp)
 ·rw [if_neg c3] at H
  exact absurd H (by simp)
end Go.Proofs.Ytncaadckehikpaa.Q
