/- A part of the proof: contracts of functions and plain facts (Q19, HRef4, HPossible). No condition. -/
import Derived.Test.YtncaadckehikpaaM3
import Derived.Test.YtncaadckehikpaaM13
import Derived.Test.YtncaadckehikpaaM16
import Derived.Test.YtncaadckehikpaaM23
import Derived.Test.YtncaadckehikpaaM22
import Derived.Test.YtncaadckehikpaaM10
import Derived.Test.YtncaadckehikpaaM18
namespace Go.Proofs.Ytncaadckehikpaa.Q
open Go.RowKit Go.Proofs.YtncaadckehikpaaW.PrintWords Go.Proofs.YtncaadckehikpaaW.PrintLast Go.Proofs.YtncaadckehikpaaW.PrintMore
attribute [local go_sem] z38 z37 max_two min_two   -- for this text's walks alone
set_option linter.unusedVariables false
set_option linter.unusedSimpArgs false
/-! ### pr_IsTruth: function 66 -/
def pr_IsTruth.f (k : Nat) (a0_0 : Int) (l0_1 : List (S91)) (l0_2 : List (S94)) (l1 : List Int) : Option (Bool) := (pr_AreOunces.f k a0_0 l0_1 l0_2 l1).bind fun t1016 => (if t1016 = true then ((pr_Right.f k a0_0 l0_1 l0_2 l1).bind fun t1017 => ((pr_Full.f a0_0 l0_1 l0_2).bind fun t1018 => (some (t1017 == t1018)))) else (some false))
def pr_IsTruth.T1 : Bool × List (List Nat × List Nat) := (true, [([], []), ([], []), ([0, 1], [0, 1]), ([2, 2], [2]), ([3], [3]), ([3], [3]), ([4, 5, 3, 3], [3, 4, 5]), ([3], [3]), ([7, 6, 3], [3, 7]), ([6, 8, 3], [3, 6, 8]), ([3, 9], [3, 9]), ([10, 8, 0, 1, 2, 3, 4, 5, 6, 7, 8, 9, 10], [10])])
def pr_IsTruth.B1 : List Nat := [0, 0, 3, 7, 15, 15, 63, 15, 255, 511, 1023, 2047]
theorem pr_IsTruth.tab1 : rtab .any (opsOf Try.f66 1) = pr_IsTruth.T1 := by kernel_rfl
theorem pr_IsTruth.bits1 : waitsOk pr_IsTruth.T1.2 pr_IsTruth.B1 = true := by kernel_rfl
set_option maxHeartbeats 8000000 in
set_option maxRecDepth 100000 in
theorem pr_IsTruth.calls (k : Nat) (a0_0 : Int) (A0_1 : Option Addr) (c0_1 : Nat) (l0_1 : List (S91)) (A0_2 : Option Addr) (c0_2 : Nat) (l0_2 : List (S94)) (A1 : Option Addr) (c1 : Nat) (l1 : List Int) (r : Bool) (w : World) (hr0_1 : Kd.C k91 w A0_1 l0_1.length l0_1) (hc0_1 : l0_1.length ≤ c0_1) (hr0_2 : Kd.C k94 w A0_2 l0_2.length l0_2) (hc0_2 : l0_2.length ≤ c0_2) (hr1 : Kd.C (Kd.int .i64) w A1 l1.length l1) (hc1 : l1.length ≤ c1) (h : pr_IsTruth.f k a0_0 l0_1 l0_2 l1 = some r) :
  Calls Try.prog 66 #[.agg #[.int .i64 a0_0, .slice A0_1 l0_1.length c0_1, .slice A0_2 l0_2.length c0_2], .slice A1 l1.length c1] w fun e w' => e = .returned (.bool r) ∧ Below w.heap.size w w' := by
 have hu25 := Try.underlying25
 have HR0_1 := mkA hr0_1
 have HC0_1 := mkA hc0_1
 clear hr0_1 hc0_1
 have HR0_2 := mkA hr0_2
 have HC0_2 := mkA hc0_2
 clear hr0_2 hc0_2
 have HR1 := mkA hr1
 have HC1 := mkA hc1
 clear hr1 hc1
 have HB := mkA (Below.refl w.heap.size w)
 have H : ((pr_AreOunces.f k a0_0 l0_1 l0_2 l1).bind fun t1016 => (if t1016 = true then ((pr_Right.f k a0_0 l0_1 l0_2 l1).bind fun t1017 => ((pr_Full.f a0_0 l0_1 l0_2).bind fun t1018 => (some (t1017 == t1018)))) else (some false))) = some r := h
 clear h
 replace H := Option.bind_eq_some_iff.mp H
 obtain ⟨t1016, A30, H⟩ := H
 replace H : (if t1016 = true then ((pr_Right.f k a0_0 l0_1 l0_2 l1).bind fun t1017 => ((pr_Full.f a0_0 l0_1 l0_2).bind fun t1018 => (some (t1017 == t1018)))) else (some false)) = some r := H
 have A3 := mkA A30
 clear A30
 by_cases c4 : t1016 = true
 ·subst c4
  have H1 : ((pr_Right.f k a0_0 l0_1 l0_2 l1).bind fun t1017 => ((pr_Full.f a0_0 l0_1 l0_2).bind fun t1018 => (some (t1017 == t1018)))) = some r := by rw [if_pos rfl] at H; exact H
  clear H
  have H := H1
  clear H1
  replace H := Option.bind_eq_some_iff.mp H
  obtain ⟨t1017, A50, H⟩ := H
  replace H : ((pr_Full.f a0_0 l0_1 l0_2).bind fun t1018 => (some (t1017 == t1018))) = some r := H
  have A5 := mkA A50
  clear A50
  replace H := Option.bind_eq_some_iff.mp H
  obtain ⟨t1018, A60, H⟩ := H
  replace H : (some (t1017 == t1018)) = some r := H
  have A6 := mkA A60
  clear A60
  obtain rfl := Option.some.inj H
  go_enter Try.func66, Try.ntmps66
  try go_wp2_with (first | ((with_reducible refine z26 (N := 2) rfl ?_); refine z23 ?hg (N := 2) ?hd (cs := #[.int .i64 a0_0, .slice A0_1 l0_1.length c0_1, .slice A0_2 l0_2.length c0_2]) (t := 25) ?hr ?_; (case hd => rfl); (case hg => rfl); (case hr => first | (go_simp; done) | (go_simp; rfl)); intro gb1015 hg w7 hbox hb; have n0_ := mkA (z17 (by repeat (first | (with_reducible first | exact HB.out | apply z11 | apply z10 | apply z12) | exact HB.out)) hb); have n1_ := mkA (hbox); have n2_ := mkA ((by rw [hg]; exact (z18 (by repeat (first | (with_reducible first | exact HB.out | apply z11 | apply z10 | apply z12) | exact HB.out))) : w.heap.size ≤ gb1015)); have n3_ := mkA ((by rw [hg]; exact (z18 (by repeat (first | (with_reducible first | exact HB.out | apply z11 | apply z10 | apply z12) | exact HB.out))) : w.heap.size ≤ gb1015)); clear HB; have HB := n0_; have BK1015 := n1_; have GW1015 := n2_; have GE1015 := n3_; clear n0_ n1_ n2_ n3_; clear hb hbox hg))
  have n0_ := mkA (z27 BK1015.out)
  have n1_ := mkA (z12 HB.out)
  clear BK1015
  clear HB
  have BK1015 := n0_
  have HB := n1_
  clear n0_ n1_
  refine start_ (n := 12) (S := fun w' => w'.cell? ⟨gb1015, 0, none⟩ = some (.int .i64 a0_0) ∧ w'.cell? ⟨gb1015, 1, none⟩ = some (.slice A0_1 l0_1.length c0_1) ∧ w'.cell? ⟨gb1015, 2, none⟩ = some (.slice A0_2 l0_2.length c0_2)) (ds := []) #[false, false, false, false, false, false, false, false, false, false, false, false] (by kernel_rfl) rfl rfl ⟨(z13 BK1015.out 0).trans rfl, (z13 BK1015.out 1).trans rfl, (z13 BK1015.out 2).trans rfl⟩ (fun hHeld => ?_); refine z43 pr_IsTruth.tab1 pr_IsTruth.bits1 (fun HT_ HW_ => ?_)
  generalize w7.drew = w8 at BK1015 HB hHeld ⊢
  refine pure_ (i := 1) (N := some 6) (v := ?_) (a' := ?_) #[false, true, false, false, false, false, false, false, false, false, false, false] rfl rfl (any_of HT_.out (by kernel_rfl)) (fun _ _ _ h => h) (Or.inl ⟨by rfl, ?_⟩) ?_ ?_
  rotate_left
  ·intro w'
   go_simp
   with_reducible rfl
  rotate_left
  ·simp only [Act.put, xq1, xq2, xq3, i64_w, i32_w]
   rfl
  refine take_ (i := 0) (N := some 5) (v := ?_) (a' := ?_) #[true, true, false, false, false, false, false, false, false, false, false, false] rfl rfl (z31 HT_.out HW_.out (by kernel_rfl)) (fun _ _ _ h => h) (Or.inl ⟨by rfl, ?_⟩) hHeld ?_ ?_
  rotate_left
  ·rintro w' ⟨s0, s1, s2⟩
   go_simp
   with_reducible rfl
  rotate_left
  ·simp only [Act.put, xq1, xq2, xq3, i64_w, i32_w]
   rfl
  refine one_ (i := 2) (N := some 7) #[true, true, true, false, false, false, false, false, false, false, false, false] rfl rfl (one_of HT_.out (by kernel_rfl)) (by decide) (fun K hK => ?_)
  refine goes_ Try.func32 (by kernel_rfl) rfl #[.agg #[.int .i64 a0_0, .slice A0_1 l0_1.length c0_1, .slice A0_2 l0_2.length c0_2], .slice A1 l1.length c1] (by rfl) rfl rfl (by (try simp only [List.map_toArray, List.map_cons, List.map_nil]); first | done | rfl | (simp only [List.length_drop, List.length_take]; rfl)) ?_
  with_reducible refine (pr_AreOunces.calls k a0_0 _ _ l0_1 _ _ l0_2 _ _ l1 true _ ?side1 ?side2 ?side3 ?side4 ?side5 ?side6 A3.out).mono ?_
  (case side1 => repeat (first | exact (Kd.C_below HR0_1.out HB.out) | (with_reducible refine Kd.C_alloc ?_ _) | (with_reducible refine Kd.C_drewN ?_ _) | (with_reducible refine Kd.C_drew ?_)))
  (case side2 => exact HC0_1.out)
  (case side3 => repeat (first | exact (Kd.C_below HR0_2.out HB.out) | (with_reducible refine Kd.C_alloc ?_ _) | (with_reducible refine Kd.C_drewN ?_ _) | (with_reducible refine Kd.C_drew ?_)))
  (case side4 => exact HC0_2.out)
  (case side5 => repeat (first | exact (Kd.C_below HR1.out HB.out) | (with_reducible refine Kd.C_alloc ?_ _) | (with_reducible refine Kd.C_drewN ?_ _) | (with_reducible refine Kd.C_drew ?_)))
  (case side6 => exact HC1.out)
  rintro e w9 ⟨rfl, hb⟩
  refine ⟨_, rfl, ?_⟩
  have n0_ := mkA (blk_below (g := gb1015) (o := .cells #[.int .i64 a0_0, .slice A0_1 l0_1.length c0_1, .slice A0_2 l0_2.length c0_2] 25 (0, 0)) (by (with_reducible repeat (first | refine z16 ?_ _ | refine z27 ?_ | refine z24 ?_ _)); exact BK1015.out) hb)
  have n1_ := mkA (z17 (by repeat (first | (with_reducible first | exact HB.out | apply z11 | apply z10 | apply z12 | refine z15 ?_ GE1015.out) | exact HB.out)) hb)
  clear BK1015
  clear HB
  have BK1015 := n0_
  have HB := n1_
  clear n0_ n1_
  (try clear hb)
  (try clear hb2)
  (try clear hk)
  (try clear hi)
  refine hK.out _ _ ⟨(z13 BK1015.out 0).trans rfl, (z13 BK1015.out 1).trans rfl, (z13 BK1015.out 2).trans rfl⟩ (fun hHeld => ?_)
  clear hK K
  refine norm_ (a' := ?_) ?_ ?_
  rotate_left
  ·show Act.put _ (some 7) _ = _
   simp only [Act.put, xq1, xq2, xq3, i64_w, i32_w]
   rfl
  refine pure_ (i := 3) (N := some 8) (v := ?_) (a' := ?_) #[true, true, true, true, false, false, false, false, false, false, false, false] rfl rfl (any_of HT_.out (by kernel_rfl)) (fun _ _ _ h => h) (Or.inl ⟨by rfl, ?_⟩) ?_ ?_
  rotate_left
  ·intro w'
   go_simp
   with_reducible rfl
  rotate_left
  ·simp only [Act.put, xq1, xq2, xq3, i64_w, i32_w]
   rfl
  refine pure_ (i := 5) (N := some 10) (v := ?_) (a' := ?_) #[true, true, true, true, false, true, false, false, false, false, false, false] rfl rfl (any_of HT_.out (by kernel_rfl)) (fun _ _ _ h => h) (Or.inl ⟨by rfl, ?_⟩) ?_ ?_
  rotate_left
  ·intro w'
   go_simp
   with_reducible rfl
  rotate_left
  ·simp only [Act.put, xq1, xq2, xq3, i64_w, i32_w]
   rfl
  refine take_ (i := 4) (N := some 9) (v := ?_) (a' := ?_) #[true, true, true, true, true, true, false, false, false, false, false, false] rfl rfl (z31 HT_.out HW_.out (by kernel_rfl)) (fun _ _ _ h => h) (Or.inl ⟨by rfl, ?_⟩) hHeld ?_ ?_
  rotate_left
  ·rintro w' ⟨s0, s1, s2⟩
   go_simp
   with_reducible rfl
  rotate_left
  ·simp only [Act.put, xq1, xq2, xq3, i64_w, i32_w]
   rfl
  refine take_ (i := 7) (N := some 12) (v := ?_) (a' := ?_) #[true, true, true, true, true, true, false, true, false, false, false, false] rfl rfl (z31 HT_.out HW_.out (by kernel_rfl)) (fun _ _ _ h => h) (Or.inl ⟨by rfl, ?_⟩) hHeld ?_ ?_
  rotate_left
  ·rintro w' ⟨s0, s1, s2⟩
   go_simp
   with_reducible rfl
  rotate_left
  ·simp only [Act.put, xq1, xq2, xq3, i64_w, i32_w]
   rfl
  refine one_ (i := 6) (N := some 11) #[true, true, true, true, true, true, true, true, false, false, false, false] rfl rfl (one_of HT_.out (by kernel_rfl)) (by decide) (fun K hK => ?_)
  refine goes_ Try.func87 (by kernel_rfl) rfl #[.agg #[.int .i64 a0_0, .slice A0_1 l0_1.length c0_1, .slice A0_2 l0_2.length c0_2], .slice A1 l1.length c1] (by rfl) rfl rfl (by (try simp only [List.map_toArray, List.map_cons, List.map_nil]); first | done | rfl | (simp only [List.length_drop, List.length_take]; rfl)) ?_
  with_reducible refine (pr_Right.calls k a0_0 _ _ l0_1 _ _ l0_2 _ _ l1 t1017 _ ?side1 ?side2 ?side3 ?side4 ?side5 ?side6 A5.out).mono ?_
  (case side1 => repeat (first | exact (Kd.C_below HR0_1.out HB.out) | (with_reducible refine Kd.C_alloc ?_ _) | (with_reducible refine Kd.C_drewN ?_ _) | (with_reducible refine Kd.C_drew ?_)))
  (case side2 => exact HC0_1.out)
  (case side3 => repeat (first | exact (Kd.C_below HR0_2.out HB.out) | (with_reducible refine Kd.C_alloc ?_ _) | (with_reducible refine Kd.C_drewN ?_ _) | (with_reducible refine Kd.C_drew ?_)))
  (case side4 => exact HC0_2.out)
  (case side5 => repeat (first | exact (Kd.C_below HR1.out HB.out) | (with_reducible refine Kd.C_alloc ?_ _) | (with_reducible refine Kd.C_drewN ?_ _) | (with_reducible refine Kd.C_drew ?_)))
  (case side6 => exact HC1.out)
  rintro e w10 ⟨rfl, hb⟩
  refine ⟨_, rfl, ?_⟩
  have n0_ := mkA (blk_below (g := gb1015) (o := .cells #[.int .i64 a0_0, .slice A0_1 l0_1.length c0_1, .slice A0_2 l0_2.length c0_2] 25 (0, 0)) (by (with_reducible repeat (first | refine z16 ?_ _ | refine z27 ?_ | refine z24 ?_ _)); exact BK1015.out) hb)
  have n1_ := mkA (z17 (by repeat (first | (with_reducible first | exact HB.out | apply z11 | apply z10 | apply z12 | refine z15 ?_ GE1015.out) | exact HB.out)) hb)
  clear BK1015
  clear HB
  have BK1015 := n0_
  have HB := n1_
  clear n0_ n1_
  (try clear hb)
  (try clear hb2)
  (try clear hk)
  (try clear hi)
  refine hK.out _ _ ⟨(z13 BK1015.out 0).trans rfl, (z13 BK1015.out 1).trans rfl, (z13 BK1015.out 2).trans rfl⟩ (fun hHeld => ?_)
  clear hK K
  refine norm_ (a' := ?_) ?_ ?_
  rotate_left
  ·show Act.put _ (some 11) _ = _
   simp only [Act.put, xq1, xq2, xq3, i64_w, i32_w]
   rfl
  refine one_ (i := 8) (N := some 13) #[true, true, true, true, true, true, true, true, true, false, false, false] rfl rfl (one_of HT_.out (by kernel_rfl)) (by decide) (fun K hK => ?_)
  refine goes_ Try.func62 (by kernel_rfl) rfl #[.agg #[.int .i64 a0_0, .slice A0_1 l0_1.length c0_1, .slice A0_2 l0_2.length c0_2]] (by rfl) rfl rfl (by (try simp only [List.map_toArray, List.map_cons, List.map_nil]); first | done | rfl | (simp only [List.length_drop, List.length_take]; rfl)) ?_
  with_reducible refine (pr_Full.calls a0_0 _ _ l0_1 _ _ l0_2 t1018 _ ?side1 ?side2 ?side3 ?side4 A6.out).mono ?_
  (case side1 => repeat (first | exact (Kd.C_below HR0_1.out HB.out) | (with_reducible refine Kd.C_alloc ?_ _) | (with_reducible refine Kd.C_drewN ?_ _) | (with_reducible refine Kd.C_drew ?_)))
  (case side2 => exact HC0_1.out)
  (case side3 => repeat (first | exact (Kd.C_below HR0_2.out HB.out) | (with_reducible refine Kd.C_alloc ?_ _) | (with_reducible refine Kd.C_drewN ?_ _) | (with_reducible refine Kd.C_drew ?_)))
  (case side4 => exact HC0_2.out)
  rintro e w11 ⟨rfl, hb⟩
  refine ⟨_, rfl, ?_⟩
  have n0_ := mkA (blk_below (g := gb1015) (o := .cells #[.int .i64 a0_0, .slice A0_1 l0_1.length c0_1, .slice A0_2 l0_2.length c0_2] 25 (0, 0)) (by (with_reducible repeat (first | refine z16 ?_ _ | refine z27 ?_ | refine z24 ?_ _)); exact BK1015.out) hb)
  have n1_ := mkA (z17 (by repeat (first | (with_reducible first | exact HB.out | apply z11 | apply z10 | apply z12 | refine z15 ?_ GE1015.out) | exact HB.out)) hb)
  clear BK1015
  clear HB
  have BK1015 := n0_
  have HB := n1_
  clear n0_ n1_
  (try clear hb)
  (try clear hb2)
  (try clear hk)
  (try clear hi)
  refine hK.out _ _ ⟨(z13 BK1015.out 0).trans rfl, (z13 BK1015.out 1).trans rfl, (z13 BK1015.out 2).trans rfl⟩ (fun hHeld => ?_)
  clear hK K
  refine norm_ (a' := ?_) ?_ ?_
  rotate_left
  ·show Act.put _ (some 13) _ = _
   simp only [Act.put, xq1, xq2, xq3, i64_w, i32_w]
   rfl
  refine pure_ (i := 9) (N := some 14) (v := ?_) (a' := ?_) #[true, true, true, true, true, true, true, true, true, true, false, false] rfl rfl (any_of HT_.out (by kernel_rfl)) (fun _ _ _ h => h) (Or.inl ⟨by rfl, ?_⟩) ?_ ?_
  rotate_left
  ·intro w'
   go_simp
   with_reducible rfl
  rotate_left
  ·simp only [Act.put, xq1, xq2, xq3, i64_w, i32_w]
   rfl
  refine pure_ (i := 10) (N := some 15) (v := ?_) (a' := ?_) #[true, true, true, true, true, true, true, true, true, true, true, false] rfl rfl (any_of HT_.out (by kernel_rfl)) (fun _ _ _ h => h) (Or.inl ⟨by rfl, ?_⟩) ?_ ?_
  rotate_left
  ·intro w'
   go_simp
   with_reducible rfl
  rotate_left
  ·simp only [Act.put, xq1, xq2, xq3, i64_w, i32_w]
   rfl
  refine pure_ (i := 11) (N := some 4) (v := ?_) (a' := ?_) #[true, true, true, true, true, true, true, true, true, true, true, true] rfl rfl (any_of HT_.out (by kernel_rfl)) (fun _ _ _ h => h) (Or.inl ⟨by rfl, ?_⟩) ?_ ?_
  rotate_left
  ·intro w'
   go_simp
   with_reducible rfl
  rotate_left
  ·simp only [Act.put, xq1, xq2, xq3, i64_w, i32_w]
   rfl
  refine done_ (done_of HT_.out (by kernel_rfl)) ?_
  try go_wp2
  go_ret
  exact ⟨by first | rfl | (simp [z20, z19] <;> rfl) | (simp [*, z20, z19] <;> rfl), by repeat (first | (with_reducible first | exact HB.out | apply z11 | apply z10 | apply z12 | refine z15 ?_ GE1015.out) | exact HB.out)⟩
 ·replace c4 := Bool.eq_false_iff.mpr c4
  subst c4
  have H1 : (some false) = some r := by rw [if_neg (show ¬ (false = true) by decide)] at H; exact H
  clear H
  have H := H1
  clear H1
  obtain rfl := Option.some.inj H
  go_enter Try.func66, Try.ntmps66
  try go_wp2_with (first | ((with_reducible refine z26 (N := 2) rfl ?_); refine z23 ?hg (N := 2) ?hd (cs := #[.int .i64 a0_0, .slice A0_1 l0_1.length c0_1, .slice A0_2 l0_2.length c0_2]) (t := 25) ?hr ?_; (case hd => rfl); (case hg => rfl); (case hr => first | (go_simp; done) | (go_simp; rfl)); intro gb1015 hg w12 hbox hb; have n0_ := mkA (z17 (by repeat (first | (with_reducible first | exact HB.out | apply z11 | apply z10 | apply z12) | exact HB.out)) hb); have n1_ := mkA (hbox); have n2_ := mkA ((by rw [hg]; exact (z18 (by repeat (first | (with_reducible first | exact HB.out | apply z11 | apply z10 | apply z12) | exact HB.out))) : w.heap.size ≤ gb1015)); have n3_ := mkA ((by rw [hg]; exact (z18 (by repeat (first | (with_reducible first | exact HB.out | apply z11 | apply z10 | apply z12) | exact HB.out))) : w.heap.size ≤ gb1015)); clear HB; have HB := n0_; have BK1015 := n1_; have GW1015 := n2_; have GE1015 := n3_; clear n0_ n1_ n2_ n3_; clear hb hbox hg))
  have n0_ := mkA (z27 BK1015.out)
  have n1_ := mkA (z12 HB.out)
  clear BK1015
  clear HB
  have BK1015 := n0_
  have HB := n1_
  clear n0_ n1_
  refine start_ (n := 12) (S := fun w' => w'.cell? ⟨gb1015, 0, none⟩ = some (.int .i64 a0_0) ∧ w'.cell? ⟨gb1015, 1, none⟩ = some (.slice A0_1 l0_1.length c0_1) ∧ w'.cell? ⟨gb1015, 2, none⟩ = some (.slice A0_2 l0_2.length c0_2)) (ds := []) #[false, false, false, false, false, false, false, false, false, false, false, false] (by kernel_rfl) rfl rfl ⟨(z13 BK1015.out 0).trans rfl, (z13 BK1015.out 1).trans rfl, (z13 BK1015.out 2).trans rfl⟩ (fun hHeld => ?_); refine z43 pr_IsTruth.tab1 pr_IsTruth.bits1 (fun HT_ HW_ => ?_)
  generalize w12.drew = w13 at BK1015 HB hHeld ⊢
  refine pure_ (i := 1) (N := some 6) (v := ?_) (a' := ?_) #[false, true, false, false, false, false, false, false, false, false, false, false] rfl rfl (any_of HT_.out (by kernel_rfl)) (fun _ _ _ h => h) (Or.inl ⟨by rfl, ?_⟩) ?_ ?_
  rotate_left
  ·intro w'
   go_simp
   with_reducible rfl
  rotate_left
  ·simp only [Act.put, xq1, xq2, xq3, i64_w, i32_w]
   rfl
  refine take_ (i := 0) (N := some 5) (v := ?_) (a' := ?_) #[true, true, false, false, false, false, false, false, false, false, false, false] rfl rfl (z31 HT_.out HW_.out (by kernel_rfl)) (fun _ _ _ h => h) (Or.inl ⟨by rfl, ?_⟩) hHeld ?_ ?_
  rotate_left
  ·rintro w' ⟨s0, s1, s2⟩
   go_simp
   with_reducible rfl
  rotate_left
  ·simp only [Act.put, xq1, xq2, xq3, i64_w, i32_w]
   rfl
  refine one_ (i := 2) (N := some 7) #[true, true, true, false, false, false, false, false, false, false, false, false] rfl rfl (one_of HT_.out (by kernel_rfl)) (by decide) (fun K hK => ?_)
  refine goes_ Try.func32 (by kernel_rfl) rfl #[.agg #[.int .i64 a0_0, .slice A0_1 l0_1.length c0_1, .slice A0_2 l0_2.length c0_2], .slice A1 l1.length c1] (by rfl) rfl rfl (by (try simp only [List.map_toArray, List.map_cons, List.map_nil]); first | done | rfl | (simp only [List.length_drop, List.length_take]; rfl)) ?_
  with_reducible refine (pr_AreOunces.calls k a0_0 _ _ l0_1 _ _ l0_2 _ _ l1 false _ ?side1 ?side2 ?side3 ?side4 ?side5 ?side6 A3.out).mono ?_
  (case side1 => repeat (first | exact (Kd.C_below HR0_1.out HB.out) | (with_reducible refine Kd.C_alloc ?_ _) | (with_reducible refine Kd.C_drewN ?_ _) | (with_reducible refine Kd.C_drew ?_)))
  (case side2 => exact HC0_1.out)
  (case side3 => repeat (first | exact (Kd.C_below HR0_2.out HB.out) | (with_reducible refine Kd.C_alloc ?_ _) | (with_reducible refine Kd.C_drewN ?_ _) | (with_reducible refine Kd.C_drew ?_)))
  (case side4 => exact HC0_2.out)
  (case side5 => repeat (first | exact (Kd.C_below HR1.out HB.out) | (with_reducible refine Kd.C_alloc ?_ _) | (with_reducible refine Kd.C_drewN ?_ _) | (with_reducible refine Kd.C_drew ?_)))
  (case side6 => exact HC1.out)
  rintro e w14 ⟨rfl, hb⟩
  refine ⟨_, rfl, ?_⟩
  have n0_ := mkA (blk_below (g := gb1015) (o := .cells #[.int .i64 a0_0, .slice A0_1 l0_1.length c0_1, .slice A0_2 l0_2.length c0_2] 25 (0, 0)) (by (with_reducible repeat (first | refine z16 ?_ _ | refine z27 ?_ | refine z24 ?_ _)); exact BK1015.out) hb)
  have n1_ := mkA (z17 (by repeat (first | (with_reducible first | exact HB.out | apply z11 | apply z10 | apply z12 | refine z15 ?_ GE1015.out) | exact HB.out)) hb)
  clear BK1015
  clear HB
  have BK1015 := n0_
  have HB := n1_
  clear n0_ n1_
  (try clear hb)
  (try clear hb2)
  (try clear hk)
  (try clear hi)
  refine hK.out _ _ ⟨(z13 BK1015.out 0).trans rfl, (z13 BK1015.out 1).trans rfl, (z13 BK1015.out 2).trans rfl⟩ (fun hHeld => ?_)
  clear hK K
  refine norm_ (a' := ?_) ?_ ?_
  rotate_left
  ·show Act.put _ (some 7) _ = _
   simp only [Act.put, xq1, xq2, xq3, i64_w, i32_w]
   rfl
  refine pure_ (i := 3) (N := some 8) (v := ?_) (a' := ?_) #[true, true, true, true, false, false, false, false, false, false, false, false] rfl rfl (any_of HT_.out (by kernel_rfl)) (fun _ _ _ h => h) (Or.inl ⟨by rfl, ?_⟩) ?_ ?_
  rotate_left
  ·intro w'
   go_simp
   with_reducible rfl
  rotate_left
  ·simp only [Act.put, xq1, xq2, xq3, i64_w, i32_w]
   rfl
  refine pure_ (i := 4) (N := some 9) (v := undef) (a' := ?_) #[true, true, true, true, true, false, false, false, false, false, false, false] rfl rfl (any_of HT_.out (by kernel_rfl)) (fun _ _ _ h => h) (Or.inr ⟨by rfl, rfl⟩) ?_ ?_
  rotate_left
  ·simp only [Act.put, xq1, xq2, xq3, i64_w, i32_w]
   rfl
  refine pure_ (i := 5) (N := some 10) (v := undef) (a' := ?_) #[true, true, true, true, true, true, false, false, false, false, false, false] rfl rfl (any_of HT_.out (by kernel_rfl)) (fun _ _ _ h => h) (Or.inr ⟨by rfl, rfl⟩) ?_ ?_
  rotate_left
  ·simp only [Act.put, xq1, xq2, xq3, i64_w, i32_w]
   rfl
  refine pure_ (i := 6) (N := some 11) (v := undef) (a' := ?_) #[true, true, true, true, true, true, true, false, false, false, false, false] rfl rfl (any_of HT_.out (by kernel_rfl)) (fun _ _ _ h => h) (Or.inr ⟨by rfl, rfl⟩) ?_ ?_
  rotate_left
  ·simp only [Act.put, xq1, xq2, xq3, i64_w, i32_w]
   rfl
  refine pure_ (i := 7) (N := some 12) (v := undef) (a' := ?_) #[true, true, true, true, true, true, true, true, false, false, false, false] rfl rfl (any_of HT_.out (by kernel_rfl)) (fun _ _ _ h => h) (Or.inr ⟨by rfl, rfl⟩) ?_ ?_
  rotate_left
  ·simp only [Act.put, xq1, xq2, xq3, i64_w, i32_w]
   rfl
  refine pure_ (i := 8) (N := some 13) (v := undef) (a' := ?_) #[true, true, true, true, true, true, true, true, true, false, false, false] rfl rfl (any_of HT_.out (by kernel_rfl)) (fun _ _ _ h => h) (Or.inr ⟨by rfl, rfl⟩) ?_ ?_
  rotate_left
  ·simp only [Act.put, xq1, xq2, xq3, i64_w, i32_w]
   rfl
  refine pure_ (i := 9) (N := some 14) (v := undef) (a' := ?_) #[true, true, true, true, true, true, true, true, true, true, false, false] rfl rfl (any_of HT_.out (by kernel_rfl)) (fun _ _ _ h => h) (Or.inr ⟨by rfl, rfl⟩) ?_ ?_
  rotate_left
  ·simp only [Act.put, xq1, xq2, xq3, i64_w, i32_w]
   rfl
  refine pure_ (i := 10) (N := some 15) (v := ?_) (a' := ?_) #[true, true, true, true, true, true, true, true, true, true, true, false] rfl rfl (any_of HT_.out (by kernel_rfl)) (fun _ _ _ h => h) (Or.inl ⟨by rfl, ?_⟩) ?_ ?_
  rotate_left
  ·intro w'
   go_simp
   with_reducible rfl
  rotate_left
  ·simp only [Act.put, xq1, xq2, xq3, i64_w, i32_w]
   rfl
  refine pure_ (i := 11) (N := some 4) (v := ?_) (a' := ?_) #[true, true, true, true, true, true, true, true, true, true, true, true] rfl rfl (any_of HT_.out (by kernel_rfl)) (fun _ _ _ h => h) (Or.inl ⟨by rfl, ?_⟩) ?_ ?_
  rotate_left
  ·intro w'
   go_simp
   with_reducible rfl
  rotate_left
  ·simp only [Act.put, xq1, xq2, xq3, i64_w, i32_w]
   rfl
  refine done_ (done_of HT_.out (by kernel_rfl)) ?_
  try go_wp2
  go_ret
  exact ⟨by first | rfl | (simp [z20, z19] <;> rfl) | (simp [*, z20, z19] <;> rfl), by repeat (first | (with_reducible first | exact HB.out | apply z11 | apply z10 | apply z12 | refine z15 ?_ GE1015.out) | exact HB.out)⟩
end Go.Proofs.Ytncaadckehikpaa.Q
namespace Go.Proofs.Ytncaadckehikpaa.Q
open Go.RowKit Go.Proofs.YtncaadckehikpaaW.PrintWords Go.Proofs.YtncaadckehikpaaW.PrintLast Go.Proofs.YtncaadckehikpaaW.PrintMore
set_option linter.unusedVariables false
set_option linter.unusedSimpArgs false
theorem list_f (os : List Int) (h : os.length ≤ 1000) : pl_list.f os = some os := by
  unfold pl_list.f
  simp only [Option.bind_some, List.length_nil, List.nil_append]
  rw [if_pos (by omega)]
theorem Is_f (x a b : Int) : pr_Is.f x a b = some (decide (a ≤ x) && decide (x ≤ b)) := by
  unfold pr_Is.f pr_In.f
  by_cases h : x ≥ a
  · rw [if_pos h]; simp [show a ≤ x from h]
  · rw [if_neg h]; simp [show ¬ a ≤ x from h]
theorem AreOunces_l0 (n : Int) (l1 : List S91) (l2 : List S94) (os : List Int) (hlen : os.length = l1.length) (hm : l1.length ≤ 30) : ∀ (d k i : Nat), i + d = l1.length → d < k →
    ∃ b, pr_AreOunces.l0 k os i n l1 l2 = some b ∧ (b = true ↔ ∀ j : Nat, i ≤ j → j < l1.length → z40 (l1.map c91) os j)
  | 0, k + 1, i, hi, hk => by
    rw [pr_AreOunces.l0, if_neg (by omega)]
    exact ⟨true, rfl, ⟨fun _ j h1 h2 => by omega, fun _ => rfl⟩⟩
  | d + 1, k + 1, i, hi, hk => by
    have hn : i < l1.length := by omega
    have hin : z40 (l1.map c91) os i ↔ (rd_T91 l1 (i : Int)).f2.f0 ≤ rd os i ∧ rd os i ≤ (rd_T91 l1 (i : Int)).f2.f1 := by
      unfold z40
      rw [rd_map91 l1 i hn]
      rfl
    rw [pr_AreOunces.l0, if_pos (by omega), if_pos (by omega), if_pos (by omega), Is_f, Option.bind_some, w1 i (by omega)]
    by_cases h : (rd_T91 l1 (i : Int)).f2.f0 ≤ rd os i ∧ rd os i ≤ (rd_T91 l1 (i : Int)).f2.f1
    · rw [if_pos (by simp [h.1, h.2])]
      obtain ⟨b, hb, hb2⟩ := AreOunces_l0 n l1 l2 os hlen hm d k (i + 1) (by omega) (by omega)
      refine ⟨b, hb, hb2.trans ⟨fun q j h1 h2 => ?_, fun q j h1 h2 => q j (by omega) h2⟩⟩
      by_cases e : j = i
      · rw [e]; exact hin.2 h
      · exact q j (by omega) h2
    · rw [if_neg (by rw [Bool.and_eq_true, decide_eq_true_eq, decide_eq_true_eq]; exact h)]
      exact ⟨false, rfl, ⟨fun q => by simp at q, fun q => absurd (hin.1 (q i (by omega) hn)) h⟩⟩
theorem AreOunces_f (k : Nat) (n : Int) (l1 : List S91) (l2 : List S94) (os : List Int) (hm : l1.length ≤ 30) (hk : 40 ≤ k) : pr_AreOunces.f k n l1 l2 os = some (areB (l1.map c91) os) := by
  unfold pr_AreOunces.f
  by_cases h : os.length = l1.length
  · rw [if_pos (by omega)]
    obtain ⟨b, hb, hb2⟩ := AreOunces_l0 n l1 l2 os h hm l1.length k 0 (by omega) (by omega)
    refine Eq.trans (show pr_AreOunces.l0 k os 0 n l1 l2 = some b from hb) (congrArg some ?_)
    rw [Bool.eq_iff_iff, hb2]
    unfold areB
    rw [decide_eq_true_eq, List.length_map]
    exact ⟨fun q => ⟨h, fun i hi => q i (by omega) hi⟩, fun q j _ hj => q.2 j hj⟩
  · rw [if_neg (by omega)]
    refine congrArg some (Eq.symm ?_)
    unfold areB
    rw [decide_eq_false_iff_not, List.length_map]
    exact fun q => h q.1
theorem areB_small {n : Int} {l1 : List S122} {l2 : List S124} {os : List Int} (hck : checkS n l1 l2 = 0) (h : areB l1 os = true) : Small l1 os := by
  unfold areB at h
  rw [decide_eq_true_eq] at h
  refine ⟨h.1, fun i h0 h1 => ?_⟩
  have he := z51 hck i h0 h1
  have h2 := h.2 i.toNat (by omega)
  unfold z40 at h2
  rw [show ((i.toNat : Nat) : Int) = i by omega] at h2
  omega
theorem IsTruth_f (k : Nat) (n : Int) (l1 : List S91) (l2 : List S94) (os : List Int) (hck : checkS n (l1.map c91) (l2.map c94) = 0) (hk : 40 ≤ k) : pr_IsTruth.f k n l1 l2 os = some (areB (l1.map c91) os && rightB (l2.map c94) (owedL (l1.map c91) os) []) := by
  obtain ⟨z0, z1, z2, z3, z4, z5⟩ := z48 hck
  unfold pr_IsTruth.f
  rw [AreOunces_f k n l1 l2 os (by omega) hk, Option.bind_some]
  by_cases h : areB (l1.map c91) os = true
  · have hr := rightN_all (l2.map c94) (owedL (l1.map c91) os)
    rw [List.length_map] at hr
    rw [if_pos h, Right_f k n l1 l2 os hck (areB_small hck h) (by omega), Option.bind_some, Full_f n l1 l2 z3, Option.bind_some, h, Bool.true_and]
    refine congrArg some ?_
    rw [Bool.eq_iff_iff, beq_iff_eq, ← hr]
    exact ⟨fun q => by exact_mod_cast q, fun q => by rw [q]⟩
  · rw [if_neg h, show areB (l1.map c91) os = false by simpa using h, Bool.false_and]
end Go.Proofs.Ytncaadckehikpaa.Q
namespace Go.Proofs.Ytncaadckehikpaa.Q
open Go.RowKit Go.Proofs.YtncaadckehikpaaW.PrintWords Go.Proofs.YtncaadckehikpaaW.PrintLast Go.Proofs.YtncaadckehikpaaW.PrintMore
set_option linter.unusedVariables false
set_option linter.unusedSimpArgs false
attribute [local go_sem] Oper.semAt_some
/-- Whether some of the ounces make all sayings right. -/
def anyL (l1 : List S122) (l2 : List S124) (out : List Int) (oss : List (List Int)) : Bool := oss.any (fun os => rightB l2 (owedL l1 os) out)
def possB (l1 : List S122) (l2 : List S124) (out : List Int) : Bool := anyL l1 l2 out (enumO [] l1)
/-- What holds between two rounds, and behind the loop. -/
structure PossI (w0 : World) (tb ob rb : Nat) (n : Int) (A1 : Option Addr) (c1 : Nat) (l1 : List S122) (A2 : Option Addr) (c2 : Nat) (l2 : List S124) (A3 : Option Addr) (m3 c3 : Nat) (r : Bool) (W : World) : Prop where
  below : Below w0.heap.size w0 W
  tb : W.heap[tb]? = some (.cells #[.int .i64 n, .slice A1 l1.length c1, .slice A2 l2.length c2] 35 (0, 0))
  ob : W.heap[ob]? = some (.cells #[.slice A3 m3 c3] 37 (0, 0))
  rb : W.heap[rb]? = some (.cells #[.bool r] 4 (0, 0))
theorem PossI.zone {w0 : World} {tb ob rb B : Nat} {n : Int} {A1 : Option Addr} {c1 : Nat} {l1 : List S122} {A2 : Option Addr} {c2 : Nat} {l2 : List S124} {A3 : Option Addr} {m3 c3 : Nat} {r : Bool} {W W' : World}
    (h : PossI w0 tb ob rb n A1 c1 l1 A2 c2 l2 A3 m3 c3 r W) (hz : Zone6 B W W') (h0 : w0.heap.size ≤ B) (h1 : tb < B) (h2 : ob < B) (h3 : rb < B) : PossI w0 tb ob rb n A1 c1 l1 A2 c2 l2 A3 m3 c3 r W' :=
  ⟨⟨hz.os.trans h.below.os, hz.tape.trans h.below.tape, hz.output.trans h.below.output, Nat.le_trans h.below.size hz.size, fun k hk => (hz.block k (by have := h.below.size; omega) (by omega)).trans (h.below.block k hk)⟩,
   (hz.block _ (z25 h.tb) (by omega)).trans h.tb, (hz.block _ (z25 h.ob) (by omega)).trans h.ob, (hz.block _ (z25 h.rb) (by omega)).trans h.rb⟩
set_option maxHeartbeats 4000000 in
set_option maxRecDepth 100000 in
theorem possible_calls (n : Int) (A1 : Option Addr) (c1 : Nat) (l1 : List S122) (A2 : Option Addr) (c2 : Nat) (l2 : List S124) (A3 : Option Addr) (c3 : Nat) (out : List Int) (w : World) (hck : checkS n l1 l2 = 0)
    (hr1 : Kd.C k122 w A1 l1.length l1) (hc1 : l1.length ≤ c1) (hr2 : Kd.C k124 w A2 l2.length l2) (hc2 : l2.length ≤ c2) (hr3 : Kd.C (Kd.int .i64) w A3 out.length out) (hc3 : out.length ≤ c3) (hout : (out.length : Int) ≤ 140737488355328) :
    Calls Try.prog 84 #[.agg #[.int .i64 n, .slice A1 l1.length c1, .slice A2 l2.length c2], .slice A3 out.length c3] w fun e w' => e = .returned (.bool (possB l1 l2 out)) ∧ Below w.heap.size w w' := by
  have hu35 := Try.underlying35
  have hu128 := Try.underlying128
  obtain ⟨wa, hwa⟩ : ∃ wa, ((w.alloc (.cells #[.int .i64 n, .slice A1 l1.length c1, .slice A2 l2.length c2] 35)).alloc (.cells #[.slice A3 out.length c3] 37)).alloc (.cells #[.bool false] 4) = wa := ⟨_, rfl⟩
  have hwz : wa.heap.size = w.heap.size + 3 := by rw [← hwa]; simp
  have hbw : Below w.heap.size w wa := by rw [← hwa]; exact z11 (z11 (z11 (Below.refl _ _) _) _) _
  have HPA := mkA (show PossI w w.heap.size (w.heap.size + 1) (w.heap.size + 2) n A1 c1 l1 A2 c2 l2 A3 out.length c3 false wa from by
    refine ⟨hbw, ?_, ?_, ?_⟩
    · rw [← hwa]; exact blk_below (z21 w _) (z11 (z11 (Below.refl _ _) _) _)
    · rw [← hwa]; exact blk_below (by simpa using z21 (w.alloc _) (.cells #[.slice A3 out.length c3] 37)) (z11 (Below.refl _ _) _)
    · rw [← hwa]; simpa using z21 ((w.alloc _).alloc _) (.cells #[.bool false] 4))
  have HR1 := mkA hr1
  have HR2 := mkA hr2
  have HR3 := mkA hr3
  have HZ := mkA hck
  have hs0 : wa.cell? ⟨w.heap.size, 0, none⟩ = some (.int .i64 n) := (z13 HPA.out.tb 0).trans rfl
  have hs1 : wa.cell? ⟨w.heap.size, 1, none⟩ = some (.slice A1 l1.length c1) := (z13 HPA.out.tb 1).trans rfl
  have hs2 : wa.cell? ⟨w.heap.size, 2, none⟩ = some (.slice A2 l2.length c2) := (z13 HPA.out.tb 2).trans rfl
  clear hr1 hr2 hr3 hck hbw
  refine (callsIn_wide (n := 4)).1 ?_
  refine callsIn_of_wp_marks Try.func84 rfl trivial ?_ rfl
  simp only [Try.ntmps84, List.size_toArray, List.length_cons, List.length_nil, Nat.reduceAdd, Nat.reduceSub, Array.replicate_succ, Array.replicate_zero, List.push_toArray, List.append_toArray, List.nil_append, List.cons_append]
  gi_wp2_with fail
  refine ⟨trivial, ?_⟩
  refine (callsIn_wide.2 (ounces_calls _ _ _ _ _ _ _ _)).mono ?_
  rintro e w2 ⟨rfl, hw2⟩
  clear hwa hs0 hs1 hs2
  have hz2 : w2.heap.size = w.heap.size + 4 := by rw [hw2]; simp [hwz]
  have HI2 := mkA (show PossI w w.heap.size (w.heap.size + 1) (w.heap.size + 2) n A1 c1 l1 A2 c2 l2 A3 out.length c3 false w2 from by
    rw [hw2]
    have hb := z11 (Below.refl wa.heap.size wa) (.cells #[.int .i64 n, .slice A1 l1.length c1, .slice A2 l2.length c2] 35)
    exact ⟨z17 HPA.out.below hb, blk_below HPA.out.tb hb, blk_below HPA.out.ob hb, blk_below HPA.out.rb hb⟩)
  have HBS := mkA (show w2.heap[wa.heap.size]? = some (.cells #[.int .i64 n, .slice A1 l1.length c1, .slice A2 l2.length c2] 35 (0, 0)) from by rw [hw2]; exact z21 wa _)
  clear hw2 HPA
  gi_wp2_with fail
  refine range_ounces w (w.heap.size + 3) n A1 c1 l1 A2 c2 l2 HZ.out HR1.out hc1 rfl HI2.out.below (by rw [← hwz]; exact HBS.out)
    (fun pre W => PossI w w.heap.size (w.heap.size + 1) (w.heap.size + 2) n A1 c1 l1 A2 c2 l2 A3 out.length c3 false W ∧ anyL l1 l2 out pre = false)
    (fun c pre W => c = .ret ∧ PossI w w.heap.size (w.heap.size + 1) (w.heap.size + 2) n A1 c1 l1 A2 c2 l2 A3 out.length c3 true W ∧ anyL l1 l2 out pre = true)
    (fun pre V V' h hz => ⟨h.1.zone hz (by omega) (by omega) (by omega) (by omega), h.2⟩) (fun c pre V V' h hz => ⟨h.1, h.2.1.zone hz (by omega) (by omega) (by omega) (by omega), h.2.2⟩) ⟨HI2.out, rfl⟩ 5 ?assign ?body ?done ?stop
  case assign =>
    intro l os W K hK
    unfold aggV roundAct at *
    gi_wp2
    exact hK
  case body =>
    rintro l pre os bx W ⟨hi, han⟩ hbW hol hfit hpre hbx hbox
    have HI := mkA hi
    have HBX := mkA hbox
    clear hi hbox hfit HI2 HBS
    unfold aggV roundAct
    simp only [xq1, xq2, xq3]
    generalize hu : owedL l1 os = u at HBX ⊢
    have HU := mkA hu
    have hul : u.length = 6 := by rw [← hu]; exact z32 _ _ _
    clear hu
    have HRC := mkA (right_calls n A1 c1 l1 A2 c2 l2 u A3 c3 out W (Kd.C_below HR2.out hbW) hc2 (Kd.C_below HR3.out hbW) hc3 hul hout (by obtain ⟨z0, z1, z2, z3, _⟩ := z30 HZ.out; exact z3) (fun i q0 q1 => by
      have := saying_in HZ.out i q0 q1
      obtain ⟨z0, z1, z2, z3, _⟩ := z30 HZ.out
      omega))
    unfold aggV at HRC
    have k0 : W.cell? ⟨w.heap.size, 0, none⟩ = some (.int .i64 n) := (z13 HI.out.tb 0).trans rfl
    have k1 : W.cell? ⟨w.heap.size, 1, none⟩ = some (.slice A1 l1.length c1) := (z13 HI.out.tb 1).trans rfl
    have k2 : W.cell? ⟨w.heap.size, 2, none⟩ = some (.slice A2 l2.length c2) := (z13 HI.out.tb 2).trans rfl
    have k3 : W.cell? ⟨w.heap.size + 1, 0, none⟩ = some (.slice A3 out.length c3) := (z13 HI.out.ob 0).trans rfl
    have j0 : W.cell? ⟨bx, 0, none⟩ = some (.int .i64 (rd u 0)) := (z13 HBX.out 0).trans rfl
    have j1 : W.cell? ⟨bx, 1, none⟩ = some (.int .i64 (rd u 1)) := (z13 HBX.out 1).trans rfl
    have j2 : W.cell? ⟨bx, 2, none⟩ = some (.int .i64 (rd u 2)) := (z13 HBX.out 2).trans rfl
    have j3 : W.cell? ⟨bx, 3, none⟩ = some (.int .i64 (rd u 3)) := (z13 HBX.out 3).trans rfl
    have j4 : W.cell? ⟨bx, 4, none⟩ = some (.int .i64 (rd u 4)) := (z13 HBX.out 4).trans rfl
    have j5 : W.cell? ⟨bx, 5, none⟩ = some (.int .i64 (rd u 5)) := (z13 HBX.out 5).trans rfl
    have HAN := mkA (show anyL l1 l2 out (pre ++ [os]) = rightB l2 u out from by
      unfold anyL at han ⊢
      rw [List.any_append, han, ← HU.out]
      simp)
    have HBW2 := mkA hbW
    clear han hbW
    gi_wp2_with fail
    refine ⟨trivial, ?_⟩
    refine (calls_in_round HRC.out).mono ?_
    rintro e w3 ⟨rfl, hb⟩
    have HB3 := mkA hb
    have hq := blk_below HI.out.rb hb
    have hrc : w3.cell? ⟨w.heap.size + 2, 0, none⟩ = some (.bool false) := (z13 hq 0).trans rfl
    have hrf : w3.frozen? ⟨w.heap.size + 2, 0, none⟩ = false := z14 hq _
    have HQ := mkA hq
    clear hb hq HRC k0 k1 k2 k3 j0 j1 j2 j3 j4 j5
    have HI3 := mkA (show PossI w w.heap.size (w.heap.size + 1) (w.heap.size + 2) n A1 c1 l1 A2 c2 l2 A3 out.length c3 false w3 from ⟨z17 HI.out.below HB3.out, blk_below HI.out.tb HB3.out, blk_below HI.out.ob HB3.out, HQ.out⟩)
    cases hr : rightB l2 u out with
    | true =>
      have HRR := mkA hr
      clear hr
      gi_wp2
      have hs3 := HB3.out.size
      refine ⟨⟨by simp [World.setCell]; exact hs3, fun k hk hz => (Below.heap_setCell _ _ _ _ (show k ≠ w.heap.size + 2 by omega)).trans (HB3.out.block k hk)⟩, rfl, ⟨z15 HI3.out.below (show w.heap.size ≤ w.heap.size + 2 by omega), (Below.heap_setCell _ _ _ _ (show w.heap.size ≠ w.heap.size + 2 by omega)).trans HI3.out.tb, (Below.heap_setCell _ _ _ _ (show w.heap.size + 1 ≠ w.heap.size + 2 by omega)).trans HI3.out.ob, ?_⟩, by rw [HAN.out]; exact HRR.out⟩
      simp [World.setCell, Array.getElem?_modify, HI3.out.rb]
    | false =>
      have HRR := mkA hr
      clear hr
      gi_wp2
      exact ⟨KeepZ.of_below HB3.out, HI3.out.below, HI3.out, by rw [HAN.out]; exact HRR.out⟩
  case done =>
    rintro W ⟨hi, han⟩ hK
    have HI := mkA hi
    have HKK := mkA hK
    have HAN := mkA han
    have hrc : W.cell? ⟨w.heap.size + 2, 0, none⟩ = some (.bool false) := (z13 hi.rb 0).trans rfl
    have hrf : W.frozen? ⟨w.heap.size + 2, 0, none⟩ = false := z14 hi.rb _
    clear hi han hK
    gi_wp2
    rw [z28 hrc]
    refine ⟨by simp, .inl ⟨_, _, rfl, run_takeDeferred HKK.out, ?_⟩⟩
    have hz := HI.out.zone (Zone6.put W (.deferred none) ⟨Nat.le_refl w2.heap.size, by omega⟩) (by omega) (by omega) (by omega) (by omega)
    have hc : (W.putObj w2.heap.size (.deferred none)).cell? ⟨w.heap.size + 2, 0, none⟩ = some (.bool false) := (z13 hz.rb 0).trans rfl
    refine ⟨.bool false, by simp [results, Try.results84, go_sem, hc], by rw [show possB l1 l2 out = false from HAN.out], hz.below⟩
  case stop =>
    rintro c pre W hpre ⟨rfl, hi, han⟩ hK
    have HI := mkA hi
    have HKK := mkA hK
    have HAN := mkA (show possB l1 l2 out = true from by
      unfold possB anyL at *
      rw [List.any_eq_true] at han ⊢
      obtain ⟨x, hx, hr⟩ := han
      exact ⟨x, hpre.subset hx, hr⟩)
    clear hi han hK
    gi_wp2
    refine ⟨by simp, .inl ⟨_, _, rfl, run_takeDeferred HKK.out, ?_⟩⟩
    have hz := HI.out.zone (Zone6.put W (.deferred none) ⟨Nat.le_refl w2.heap.size, by omega⟩) (by omega) (by omega) (by omega) (by omega)
    have hc : (W.putObj w2.heap.size (.deferred none)).cell? ⟨w.heap.size + 2, 0, none⟩ = some (.bool true) := (z13 hz.rb 0).trans rfl
    refine ⟨.bool true, by simp [results, Try.results84, go_sem, hc], by rw [HAN.out], hz.below⟩
end Go.Proofs.Ytncaadckehikpaa.Q
