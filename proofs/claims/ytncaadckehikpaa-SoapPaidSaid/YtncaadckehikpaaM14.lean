/- A part of the proof: contracts of functions and plain facts (Q8, HRef0). No condition. -/
import Derived.Test.YtncaadckehikpaaM3
import Derived.Test.YtncaadckehikpaaM13
import Derived.Test.YtncaadckehikpaaM10
import Derived.Test.YtncaadckehikpaaM12
namespace Go.Proofs.Ytncaadckehikpaa.Q
open Go.RowKit Go.Proofs.YtncaadckehikpaaW.PrintWords Go.Proofs.YtncaadckehikpaaW.PrintLast Go.Proofs.YtncaadckehikpaaW.PrintMore
attribute [local go_sem] z37 z36 max_two min_two   -- for this text's walks alone
set_option linter.unusedVariables false
set_option linter.unusedSimpArgs false
/-! ### pr_Nth: function 46 -/
def pr_Nth.l0 : Nat → Int → List Int → Int → Int → List (S91) → List (S94) → Option (List Int)
 | 0, _, _, _, _, _, _ => none
 | k + 1, x1, x5, x6, x171000, x171001, x171002 => if x6 < (x171001.length : Int) then (if 0 ≤ x6 then ((pr_Size.f ((rd_T91 x171001 x6).f2.f0) ((rd_T91 x171001 x6).f2.f1)).bind fun t173 => (if t173 = 0 then (none) else (if x5.length < 17592186044416 then ((pr_Size.f ((rd_T91 x171001 x6).f2.f0) ((rd_T91 x171001 x6).f2.f1)).bind fun t177 => (if t177 = 0 then (none) else (pr_Nth.l0 k (wrap64 (Int.tdiv x1 t177)) (x5 ++ [wrap64 (((rd_T91 x171001 x6).f2.f0) + (Int.tmod x1 t173))]) (wrap64 (x6 + 1)) x171000 x171001 x171002))) else (none)))) else (none)) else (some x5)
def pr_Nth.f (k : Nat) (a0_0 : Int) (l0_1 : List (S91)) (l0_2 : List (S94)) (a1 : Int) : Option (List Int) := pr_Nth.l0 k a1 ([] : List Int) 0 a0_0 l0_1 l0_2
def pr_Nth.T6 : Bool × List (List Nat × List Nat) := (true, [([], []), ([], []), ([1], [1]), ([], []), ([], []), ([4], [4]), ([3, 5], [3, 5]), ([2, 6], [2, 6]), ([7], [7]), ([0, 8, 5], [0, 8]), ([9, 9, 0, 1, 2, 3, 4, 5, 6, 7, 8, 9], [0, 9])])
def pr_Nth.B6 : List Nat := [0, 0, 2, 0, 0, 16, 56, 126, 254, 511, 1023]
theorem pr_Nth.tab6 : rtab .any (opsOf Try.f46 6) = pr_Nth.T6 := by kernel_rfl
theorem pr_Nth.bits6 : waitsOk pr_Nth.T6.2 pr_Nth.B6 = true := by kernel_rfl
set_option maxHeartbeats 8000000 in
set_option maxRecDepth 100000 in
theorem pr_Nth.calls (k : Nat) (a0_0 : Int) (A0_1 : Option Addr) (c0_1 : Nat) (l0_1 : List (S91)) (A0_2 : Option Addr) (c0_2 : Nat) (l0_2 : List (S94)) (a1 : Int) (r : List Int) (w : World) (hr0_1 : Kd.C k91 w A0_1 l0_1.length l0_1) (hc0_1 : l0_1.length ≤ c0_1) (hr0_2 : Kd.C k94 w A0_2 l0_2.length l0_2) (hc0_2 : l0_2.length ≤ c0_2) (h : pr_Nth.f k a0_0 l0_1 l0_2 a1 = some r) :
  Calls Try.prog 46 #[.agg #[.int .i64 a0_0, .slice A0_1 l0_1.length c0_1, .slice A0_2 l0_2.length c0_2], .int .i64 a1] w fun e w' => ∃ v0_ : Value, e = .returned (v0_) ∧ Kd.R (Kd.int .i64) 3 w' w.heap.size (fun _ => True) v0_ r ∧ Below w.heap.size w w' := by
 have hu25 := Try.underlying25
 have hu46 := Try.underlying46
 have HR0_1 := mkA hr0_1
 have HC0_1 := mkA hc0_1
 clear hr0_1 hc0_1
 have HR0_2 := mkA hr0_2
 have HC0_2 := mkA hc0_2
 clear hr0_2 hc0_2
 have HB := mkA (Below.refl w.heap.size w)
 have H : (pr_Nth.l0 k a1 ([] : List Int) 0 a0_0 l0_1 l0_2) = some r := h
 clear h
 have H' := mkA H
 clear H
 go_enter Try.func46, Try.ntmps46
 go_wp2_with ((with_reducible refine z25 (N := 2) rfl ?_); refine z24 ?hg (N := 2) ?hd (cs := #[.int .i64 a0_0, .slice A0_1 l0_1.length c0_1, .slice A0_2 l0_2.length c0_2]) (t := 25) ?hr ?_; (case hd => rfl); (case hg => rfl); (case hr => first | (go_simp; done) | (go_simp; rfl)); intro gb170 hg w3 hbox hb; have n0_ := mkA (z16 (by repeat (with_reducible first | exact HB.out | apply z10 | apply z11 | apply z12)) hb); have n1_ := mkA (hbox); have n2_ := mkA ((by rw [hg]; exact (z18 (by repeat (with_reducible first | exact HB.out | apply z10 | apply z11 | apply z12))) : w.heap.size ≤ gb170)); have n3_ := mkA ((by rw [hg]; exact (z18 (by repeat (with_reducible first | exact HB.out | apply z10 | apply z11 | apply z12))) : w.heap.size ≤ gb170)); clear HB; have HB := n0_; have BK170 := n1_; have GW170 := n2_; have GE170 := n3_; clear n0_ n1_ n2_ n3_; clear hb hbox hg)
 go_loopg [1, 5, 6] k (fun kq v1 v5 v6 w' => ∃ (x1_1 : Int) (x5_1 : List Int) (x6_1 : Int), v1 = .int .i64 x1_1 ∧ v6 = .int .i64 x6_1 ∧ Aside0 (pr_Nth.l0 kq x1_1 x5_1 x6_1 a0_0 l0_1 l0_2 = some r) ∧ Aside0 (kq ≤ k) ∧ Aside0 (Kd.R (Kd.int .i64) 3 w' w.heap.size (fun _ => True) v5 x5_1) ∧ Aside0 (w'.heap[gb170]? = some (.cells #[.int .i64 a0_0, (.slice A0_1 l0_1.length c0_1), (.slice A0_2 l0_2.length c0_2)] 25 (0, 0))) ∧ Aside0 (Below w.heap.size w w'))
 case atStart => exact ⟨(a1), (([] : List Int)), (0), (by first | rfl | (simp; done) | (simp [*]; done)), (by first | rfl | (simp; done) | (simp [*]; done)), H', ⟨Nat.le_refl _⟩, ⟨by first | exact Kd.R_nil _ _ _ _ _ | exact Kd.N_nil _ _ _ _ _ | exact Kd.V_nil _ _ _ _ _ | exact Kd.Q_nil _ _ _ _ _ | exact Kd.S_nil _ _ _ _ _⟩, ⟨by (with_reducible repeat (first | refine z17 ?_ _)); exact BK170.out⟩, ⟨by repeat (with_reducible first | exact HB.out | apply z10 | apply z11 | apply z12 | refine z15 ?_ GE170.out)⟩⟩
 case round =>
  clear H'
  try clear p2
  obtain ⟨x1_1, x5_1, x6_1, rfl, rfl, HA, HK1, HO_5, BK170, HB⟩ := hrel
  cases gk with
  | zero => exact absurd HA.out (by simp [pr_Nth.l0])
  | succ k1 =>
   have H := HA.out
   clear HA
   simp only [pr_Nth.l0] at H
   by_cases c4 : x6_1 < (l0_1.length : Int)
   ·rw [if_pos c4] at H
    have c4b0 : decide (x6_1 < (l0_1.length : Int)) = true := decide_eq_true c4
    clear c4
    by_cases c5 : 0 ≤ x6_1
    ·rw [if_pos c5] at H
     have c5b0 : decide (0 ≤ x6_1) = true := decide_eq_true c5
     clear c5
     replace H := Option.bind_eq_some_iff.mp H
     obtain ⟨t173, A60, H⟩ := H
     replace H : (if t173 = 0 then (none) else (if x5_1.length < 17592186044416 then ((pr_Size.f ((rd_T91 l0_1 x6_1).f2.f0) ((rd_T91 l0_1 x6_1).f2.f1)).bind fun t177 => (if t177 = 0 then (none) else (pr_Nth.l0 k1 (wrap64 (Int.tdiv x1_1 t177)) (x5_1 ++ [wrap64 (((rd_T91 l0_1 x6_1).f2.f0) + (Int.tmod x1_1 t173))]) (wrap64 (x6_1 + 1)) a0_0 l0_1 l0_2))) else (none))) = some r := H
     have A6 := mkA A60
     clear A60
     by_cases c7 : t173 = 0
     ·rw [if_pos c7] at H
      exact absurd H (by simp)
     ·rw [if_neg c7] at H
      have c7b0 : (t173 == 0) = false := beq_eq_false_iff_ne.mpr c7
      have c7b1 : (t173 != 0) = true := bne_iff_ne.mpr c7
      by_cases c8 : x5_1.length < 17592186044416
      ·rw [if_pos c8] at H
       have LMc8 := mkA c8
       clear c8
       obtain ⟨y174, hy174⟩ : ∃ y_ : List Int, y_ = (x5_1 ++ [wrap64 (((rd_T91 l0_1 x6_1).f2.f0) + (Int.tmod x1_1 t173))]) := ⟨_, rfl⟩
       replace H : ((pr_Size.f ((rd_T91 l0_1 x6_1).f2.f0) ((rd_T91 l0_1 x6_1).f2.f1)).bind fun t177 => (if t177 = 0 then (none) else (pr_Nth.l0 k1 (wrap64 (Int.tdiv x1_1 t177)) y174 (wrap64 (x6_1 + 1)) a0_0 l0_1 l0_2))) = some r := by first | (rw [hy174]; with_reducible exact H) | (have H2_ := (Option.bind_some _ _).symm.trans H; rw [hy174]; with_reducible exact H2_) | (have H2_ := (Option.bind_some _ _).symm.trans H; with_reducible exact H2_) | with_reducible exact H | (rw [hy174]; exact H) | exact H
       have Ny174 := mkA hy174
       clear hy174
       replace H := Option.bind_eq_some_iff.mp H
       obtain ⟨t177, A90, H⟩ := H
       replace H : (if t177 = 0 then (none) else (pr_Nth.l0 k1 (wrap64 (Int.tdiv x1_1 t177)) y174 (wrap64 (x6_1 + 1)) a0_0 l0_1 l0_2)) = some r := H
       have A9 := mkA A90
       clear A90
       by_cases c10 : t177 = 0
       ·rw [if_pos c10] at H
        exact absurd H (by simp)
       ·rw [if_neg c10] at H
        have c10b0 : (t177 == 0) = false := beq_eq_false_iff_ne.mpr c10
        have c10b1 : (t177 != 0) = true := bne_iff_ne.mpr c10
        have H' := mkA H
        clear H
        have hcz11_0 : wr.cell? ⟨gb170, 0, none⟩ = some (.int .i64 a0_0) := (z13 BK170.out 0).trans rfl
        have hcz11_1 : wr.cell? ⟨gb170, 1, none⟩ = some (.slice A0_1 l0_1.length c0_1) := (z13 BK170.out 1).trans rfl
        have hcz11_2 : wr.cell? ⟨gb170, 2, none⟩ = some (.slice A0_2 l0_2.length c0_2) := (z13 BK170.out 2).trans rfl
        have hfz11_0 := z14 BK170.out 0
        have hfz11_1 := z14 BK170.out 1
        have hfz11_2 := z14 BK170.out 2
        have p171 : 0 ≤ (x6_1 : Int) := of_decide_eq_true (by first | (with_reducible assumption) | assumption)
        have q171 : x6_1 < (l0_1.length : Int) := of_decide_eq_true (by first | (with_reducible assumption) | assumption)
        obtain ⟨ad171, e171, hx171_0, hx171_1, hx171_2, hx171_3⟩ := at_T91 HR0_1.out x6_1 p171 q171
        cases e171
        replace hx171_0 := (HB.out.cell (World.block_lt_of_cell? w _ hx171_0)).trans hx171_0
        replace hx171_1 := (HB.out.cell (World.block_lt_of_cell? w _ hx171_1)).trans hx171_1
        replace hx171_2 := (HB.out.cell (World.block_lt_of_cell? w _ hx171_2)).trans hx171_2
        replace hx171_3 := (HB.out.cell (World.block_lt_of_cell? w _ hx171_3)).trans hx171_3
        replace p171 := eq_true p171
        replace q171 := eq_true q171
        try go_wp2_with ((with_reducible refine z25 (N := 7) rfl ?_); refine z24 ?hg (N := 7) ?hd (cs := #[.int .i64 0, .int .i64 0]) (t := 46) ?hr ?_; (case hd => rfl); (case hg => rfl); (case hr => first | (go_simp; done) | (go_simp; rfl)); intro gb172 hg w12 hbox hb; have n0_ := mkA (Kd.R_below (by (with_reducible repeat (first | apply Kd.R_alloc)); exact HO_5.out) hb); have n1_ := mkA (blk_below (g := gb170) (o := .cells #[.int .i64 a0_0, .slice (some ad171) l0_1.length c0_1, .slice A0_2 l0_2.length c0_2] 25 (0, 0)) (by (with_reducible repeat (first | refine z17 ?_ _)); exact BK170.out) hb); have n2_ := mkA (z16 (by repeat (with_reducible first | exact HB.out | apply z10 | apply z11 | apply z12 | refine z15 ?_ GE170.out)) hb); have n3_ := mkA (hbox); have n4_ := mkA ((by rw [hg]; exact (z18 (by repeat (with_reducible first | exact HB.out | apply z10 | apply z11 | apply z12 | refine z15 ?_ GE170.out))) : w.heap.size ≤ gb172)); have n5_ := mkA ((by rw [hg]; exact (z18 (by repeat (with_reducible first | exact HB.out | apply z10 | apply z11 | apply z12 | refine z15 ?_ GE170.out))) : w.heap.size ≤ gb172)); have n6_ := mkA ((by rw [hg]; exact Nat.ne_of_lt (blk_lt (g := gb170) (o := .cells #[.int .i64 a0_0, .slice (some ad171) l0_1.length c0_1, .slice A0_2 l0_2.length c0_2] 25 (0, 0)) (by (with_reducible repeat (first | refine z17 ?_ _)); exact BK170.out)) : gb170 ≠ gb172)); have n7_ := mkA ((by rw [hg]; exact Nat.ne_of_gt (blk_lt (g := gb170) (o := .cells #[.int .i64 a0_0, .slice (some ad171) l0_1.length c0_1, .slice A0_2 l0_2.length c0_2] 25 (0, 0)) (by (with_reducible repeat (first | refine z17 ?_ _)); exact BK170.out)) : gb172 ≠ gb170)); clear HO_5; clear BK170; clear HB; have HO_5 := n0_; have BK170 := n1_; have HB := n2_; have BK172 := n3_; have GW172 := n4_; have GE172 := n5_; have NB170_172 := n6_; have NB172_170 := n7_; clear n0_ n1_ n2_ n3_ n4_ n5_ n6_ n7_; clear hb hbox hg; have hnb13 := NB172_170.out; have hnc13 := NB170_172.out; have hcz14_0 : w12.cell? ⟨gb172, 0, none⟩ = some (.int .i64 0) := (z13 BK172.out 0).trans rfl; have hcz14_1 : w12.cell? ⟨gb172, 1, none⟩ = some (.int .i64 0) := (z13 BK172.out 1).trans rfl; have hfz14_0 := z14 BK172.out 0; have hfz14_1 := z14 BK172.out 1)
        have n0_ : Aside0 (Kd.R (Kd.int .i64) 3 ((w12.setCell ⟨gb172, 0, none⟩ (.int .i64 ((rd_T91 l0_1 x6_1).f2.f0))).setCell ⟨gb172, 1, none⟩ (.int .i64 ((rd_T91 l0_1 x6_1).f2.f1))) w.heap.size (fun _ => True) u5 x5_1) := ⟨by (with_reducible repeat (first | apply Kd.R_alloc)); exact Kd.R_mono (Kd.R_far (p := ⟨gb172, 1, none⟩) (Kd.R_far (p := ⟨gb172, 0, none⟩) (Kd.R_types HO_5.out BK172.out (by decide)) (fun _ hk => hk.2) (.int .i64 ((rd_T91 l0_1 x6_1).f2.f0))) (fun _ hk => hk.2) (.int .i64 ((rd_T91 l0_1 x6_1).f2.f1))) (fun _ hk => trivial)⟩
        have n1_ : Aside0 (((w12.setCell ⟨gb172, 0, none⟩ (.int .i64 ((rd_T91 l0_1 x6_1).f2.f0))).setCell ⟨gb172, 1, none⟩ (.int .i64 ((rd_T91 l0_1 x6_1).f2.f1))).heap[gb170]? = some (.cells #[.int .i64 a0_0, .slice (some ad171) l0_1.length c0_1, .slice A0_2 l0_2.length c0_2] 25 (0, 0))) := ⟨by (with_reducible repeat (first | refine z17 ?_ _)); refine blk_far ?_ NB170_172.out _; (with_reducible repeat (first | refine z17 ?_ _)); refine blk_far ?_ NB170_172.out _; (with_reducible repeat (first | refine z17 ?_ _)); exact BK170.out⟩
        have n2_ : Aside0 (((w12.setCell ⟨gb172, 0, none⟩ (.int .i64 ((rd_T91 l0_1 x6_1).f2.f0))).setCell ⟨gb172, 1, none⟩ (.int .i64 ((rd_T91 l0_1 x6_1).f2.f1))).heap[gb172]? = some (.cells #[.int .i64 ((rd_T91 l0_1 x6_1).f2.f0), .int .i64 ((rd_T91 l0_1 x6_1).f2.f1)] 46 (0, 0))) := ⟨by (with_reducible repeat (first | refine z17 ?_ _)); refine blk_put (cs := #[.int .i64 ((rd_T91 l0_1 x6_1).f2.f0), .int .i64 0]) ?_ 1 _ rfl; (with_reducible repeat (first | refine z17 ?_ _)); refine blk_put (cs := #[.int .i64 0, .int .i64 0]) ?_ 0 _ rfl; (with_reducible repeat (first | refine z17 ?_ _)); exact BK172.out⟩
        have n3_ : Aside0 (Below w.heap.size w ((w12.setCell ⟨gb172, 0, none⟩ (.int .i64 ((rd_T91 l0_1 x6_1).f2.f0))).setCell ⟨gb172, 1, none⟩ (.int .i64 ((rd_T91 l0_1 x6_1).f2.f1)))) := ⟨by repeat (with_reducible first | exact HB.out | apply z10 | apply z11 | apply z12 | refine z15 ?_ GE170.out | refine z15 ?_ GE172.out)⟩
        (try clear HO_5)
        (try clear BK170)
        (try clear BK172)
        (try clear HB)
        generalize ((w12.setCell ⟨gb172, 0, none⟩ (.int .i64 ((rd_T91 l0_1 x6_1).f2.f0))).setCell ⟨gb172, 1, none⟩ (.int .i64 ((rd_T91 l0_1 x6_1).f2.f1))) = w15 at n0_ n1_ n2_ n3_ ⊢
        have HO_5 := n0_
        have BK170 := n1_
        have BK172 := n2_
        have HB := n3_
        clear n0_ n1_ n2_ n3_
        have n0_ := mkA (Kd.R_drew HO_5.out)
        have n1_ := mkA (z38 BK170.out)
        have n2_ := mkA (z38 BK172.out)
        have n3_ := mkA (z12 HB.out)
        clear HO_5
        clear BK170
        clear BK172
        clear HB
        have HO_5 := n0_
        have BK170 := n1_
        have BK172 := n2_
        have HB := n3_
        clear n0_ n1_ n2_ n3_
        refine start_ (n := 11) (S := fun w' => w'.cell? ⟨gb172, 0, none⟩ = some (.int .i64 ((rd_T91 l0_1 x6_1).f2.f0)) ∧ w'.cell? ⟨gb172, 1, none⟩ = some (.int .i64 ((rd_T91 l0_1 x6_1).f2.f1))) (ds := []) #[false, false, false, false, false, false, false, false, false, false, false] (by kernel_rfl) rfl rfl ⟨(z13 BK172.out 0).trans rfl, (z13 BK172.out 1).trans rfl⟩ (fun hHeld => ?_); refine z51 pr_Nth.tab6 pr_Nth.bits6 (fun HT_ HW_ => ?_)
        generalize w15.drew = w16 at HO_5 BK170 BK172 HB hHeld ⊢
        refine pure_ (i := 0) (N := some 21) (v := ?_) (a' := ?_) #[true, false, false, false, false, false, false, false, false, false, false] rfl rfl (any_of HT_.out (by kernel_rfl)) (fun _ _ _ h => h) (Or.inl ⟨by rfl, ?_⟩) ?_ ?_
        rotate_left
        ·intro w'
         go_simp
         with_reducible rfl
        rotate_left
        ·simp only [Act.put, xq1, xq2, xq3, i64_w, i32_w]
         rfl
        refine pure_ (i := 1) (N := some 22) (v := ?_) (a' := ?_) #[true, true, false, false, false, false, false, false, false, false, false] rfl rfl (any_of HT_.out (by kernel_rfl)) (fun _ _ _ h => h) (Or.inl ⟨by rfl, ?_⟩) ?_ ?_
        rotate_left
        ·intro w'
         go_simp
         with_reducible rfl
        rotate_left
        ·simp only [Act.put, xq1, xq2, xq3, i64_w, i32_w]
         rfl
        refine pure_ (i := 3) (N := some 24) (v := ?_) (a' := ?_) #[true, true, false, true, false, false, false, false, false, false, false] rfl rfl (any_of HT_.out (by kernel_rfl)) (fun _ _ _ h => h) (Or.inl ⟨by rfl, ?_⟩) ?_ ?_
        rotate_left
        ·intro w'
         go_simp
         with_reducible rfl
        rotate_left
        ·simp only [Act.put, xq1, xq2, xq3, i64_w, i32_w]
         rfl
        refine take_ (i := 2) (N := some 23) (v := ?_) (a' := ?_) #[true, true, true, true, false, false, false, false, false, false, false] rfl rfl (z30 HT_.out HW_.out (by kernel_rfl)) (fun _ _ _ h => h) (Or.inl ⟨by rfl, ?_⟩) hHeld ?_ ?_
        rotate_left
        ·rintro w' ⟨s0, s1⟩
         go_simp
         with_reducible rfl
        rotate_left
        ·simp only [Act.put, xq1, xq2, xq3, i64_w, i32_w]
         rfl
        refine take_ (i := 4) (N := some 25) (v := ?_) (a' := ?_) #[true, true, true, true, true, false, false, false, false, false, false] rfl rfl (z30 HT_.out HW_.out (by kernel_rfl)) (fun _ _ _ h => h) (Or.inl ⟨by rfl, ?_⟩) hHeld ?_ ?_
        rotate_left
        ·rintro w' ⟨s0, s1⟩
         go_simp
         with_reducible rfl
        rotate_left
        ·simp only [Act.put, xq1, xq2, xq3, i64_w, i32_w]
         rfl
        refine one_ (i := 5) (N := some 26) #[true, true, true, true, true, true, false, false, false, false, false] rfl rfl (one_of HT_.out (by kernel_rfl)) (by decide) (fun K hK => ?_)
        refine goes_ Try.func89 (by kernel_rfl) rfl #[.agg #[.int .i64 ((rd_T91 l0_1 x6_1).f2.f0), .int .i64 ((rd_T91 l0_1 x6_1).f2.f1)]] (by rfl) rfl rfl (by (try simp only [List.map_toArray, List.map_cons, List.map_nil]); first | done | rfl | (simp only [List.length_drop, List.length_take]; rfl)) ?_
        with_reducible refine (pr_Size.calls ((rd_T91 l0_1 x6_1).f2.f0) ((rd_T91 l0_1 x6_1).f2.f1) t173 _ A6.out).mono ?_
        rintro e w17 ⟨rfl, hb⟩
        refine ⟨_, rfl, ?_⟩
        have n0_ := mkA (Kd.R_below (by (with_reducible repeat (first | apply Kd.R_alloc)); exact HO_5.out) hb)
        have n1_ := mkA (blk_below (g := gb170) (o := .cells #[.int .i64 a0_0, .slice (some ad171) l0_1.length c0_1, .slice A0_2 l0_2.length c0_2] 25 (0, 0)) (by (with_reducible repeat (first | refine z17 ?_ _)); exact BK170.out) hb)
        have n2_ := mkA (blk_below (g := gb172) (o := .cells #[.int .i64 ((rd_T91 l0_1 x6_1).f2.f0), .int .i64 ((rd_T91 l0_1 x6_1).f2.f1)] 46 (0, 0)) (by (with_reducible repeat (first | refine z17 ?_ _)); exact BK172.out) hb)
        have n3_ := mkA (z16 (by repeat (with_reducible first | exact HB.out | apply z10 | apply z11 | apply z12 | refine z15 ?_ GE170.out | refine z15 ?_ GE172.out)) hb)
        clear HO_5
        clear BK170
        clear BK172
        clear HB
        have HO_5 := n0_
        have BK170 := n1_
        have BK172 := n2_
        have HB := n3_
        clear n0_ n1_ n2_ n3_
        (try clear hb)
        (try clear hb2)
        (try clear hk)
        (try clear hi)
        refine hK.out _ _ ⟨(z13 BK172.out 0).trans rfl, (z13 BK172.out 1).trans rfl⟩ (fun hHeld => ?_)
        clear hK K
        refine norm_ (a' := ?_) ?_ ?_
        rotate_left
        ·show Act.put _ (some 26) _ = _
         simp only [Act.put, xq1, xq2, xq3, i64_w, i32_w]
         rfl
        refine pure_ (i := 6) (N := some 27) (v := ?_) (a' := ?_) #[true, true, true, true, true, true, true, false, false, false, false] rfl rfl (any_of HT_.out (by kernel_rfl)) (fun _ _ _ h => h) (Or.inl ⟨by rfl, ?_⟩) ?_ ?_
        rotate_left
        ·intro w'
         go_simp
         with_reducible rfl
        rotate_left
        ·simp only [Act.put, xq1, xq2, xq3, i64_w, i32_w]
         rfl
        refine pure_ (i := 7) (N := some 28) (v := ?_) (a' := ?_) #[true, true, true, true, true, true, true, true, false, false, false] rfl rfl (any_of HT_.out (by kernel_rfl)) (fun _ _ _ h => h) (Or.inl ⟨by rfl, ?_⟩) ?_ ?_
        rotate_left
        ·intro w'
         go_simp
         with_reducible rfl
        rotate_left
        ·simp only [Act.put, xq1, xq2, xq3, i64_w, i32_w]
         rfl
        refine one_ (i := 8) (N := some 29) #[true, true, true, true, true, true, true, true, true, false, false] rfl rfl (one_of HT_.out (by kernel_rfl)) (by decide) (fun K hK => ?_)
        refine value_ (w1 := ?_) (v := ?_) (by rfl) rfl ?_ ?_
        rotate_left 2
        ·go_simp
         constructor
         ·rfl
         ·rfl
        refine hK.out _ _ ⟨(z13 (z32 BK172.out _) 0).trans rfl, (z13 (z32 BK172.out _) 1).trans rfl⟩ (fun hHeld => ?_)
        clear hK K
        refine norm_ (a' := ?_) ?_ ?_
        rotate_left
        ·show Act.put _ (some 29) _ = _
         simp only [Act.put, xq1, xq2, xq3, i64_w, i32_w]
         rfl
        refine one_ (i := 9) (N := some 30) #[true, true, true, true, true, true, true, true, true, true, false] rfl rfl (one_of HT_.out (by kernel_rfl)) (by decide) (fun K hK => ?_)
        refine Kd.R_append_step (Kd.int .i64) (w0 := w) w.heap.size (by rfl) (.tmp 21) (.tmp 29) 37 3 (.int .i64 0) 8 rfl Try.underlying37 info3 rfl (by decide) (by omega) u5 x5_1 (wrap64 (((rd_T91 l0_1 x6_1).f2.f0) + (Int.tmod x1_1 t173))) [.int .i64 (wrap64 (((rd_T91 l0_1 x6_1).f2.f0) + (Int.tmod x1_1 t173)))] (fun _ => True) (fun _ => False) rfl rfl ?aP (fun _ hk => hk.elim) ?aF ?aO ?aB ?aS ?aL ?_
        (case aP => exact rfl)
        (case aB => exact (by repeat (with_reducible first | exact HB.out | apply z10 | apply z11 | apply z12 | refine z15 ?_ GE170.out | refine z15 ?_ GE172.out)))
        (case aF => exact (fun _ _ => trivial))
        (case aO => exact (by (with_reducible repeat (first | apply Kd.R_alloc)); exact HO_5.out))
        (case aS => exact (z18 (by repeat (with_reducible first | exact HB.out | apply z10 | apply z11 | apply z12 | refine z15 ?_ GE170.out | refine z15 ?_ GE172.out))))
        (case aL => have := LMc8.out; omega)
        intro v175 w18 ho hb hg hat
        rw [← Ny174.out] at ho
        have n0_ := mkA (z40 (g := gb170) (o := .cells #[.int .i64 a0_0, .slice (some ad171) l0_1.length c0_1, .slice A0_2 l0_2.length c0_2] 25 (0, 0)) (by (with_reducible repeat (first | refine z17 ?_ _)); exact BK170.out) hg (Kd.R_ne HO_5.out BK170.out (by decide)))
        have n1_ := mkA (z40 (g := gb172) (o := .cells #[.int .i64 ((rd_T91 l0_1 x6_1).f2.f0), .int .i64 ((rd_T91 l0_1 x6_1).f2.f1)] 46 (0, 0)) (by (with_reducible repeat (first | refine z17 ?_ _)); exact BK172.out) hg (Kd.R_ne HO_5.out BK172.out (by decide)))
        have n2_ := mkA (hb)
        have n3_ := mkA (ho)
        clear BK170
        clear BK172
        clear HB
        clear HO_5
        have BK170 := n0_
        have BK172 := n1_
        have HB := n2_
        have HO176 := n3_
        clear n0_ n1_ n2_ n3_
        clear ho hb hg hat
        refine hK.out _ _ ⟨(z13 BK172.out 0).trans rfl, (z13 BK172.out 1).trans rfl⟩ (fun hHeld => ?_)
        clear hK K
        refine norm_ (a' := ?_) ?_ ?_
        rotate_left
        ·show Act.put _ (some 30) _ = _
         simp only [Act.put, xq1, xq2, xq3, i64_w, i32_w]
         rfl
        refine pure_ (i := 10) (N := some 5) (v := ?_) (a' := ?_) #[true, true, true, true, true, true, true, true, true, true, true] rfl rfl (any_of HT_.out (by kernel_rfl)) (fun _ _ _ h => h) (Or.inl ⟨by rfl, ?_⟩) ?_ ?_
        rotate_left
        ·intro w'
         go_simp
         with_reducible rfl
        rotate_left
        ·simp only [Act.put, xq1, xq2, xq3, i64_w, i32_w]
         rfl
        refine done_ (done_of HT_.out (by kernel_rfl)) ?_
        have hcz19_0 : w18.cell? ⟨gb172, 0, none⟩ = some (.int .i64 ((rd_T91 l0_1 x6_1).f2.f0)) := (z13 BK172.out 0).trans rfl
        have hcz19_1 : w18.cell? ⟨gb172, 1, none⟩ = some (.int .i64 ((rd_T91 l0_1 x6_1).f2.f1)) := (z13 BK172.out 1).trans rfl
        have hfz19_0 := z14 BK172.out 0
        have hfz19_1 := z14 BK172.out 1
        try go_wp2_with ((with_reducible refine z26 (f := 89) rfl ?_); refine goesL_ (some 33) rfl rfl Try.func89 (by kernel_rfl) rfl #[.agg #[.int .i64 ((rd_T91 l0_1 x6_1).f2.f0), .int .i64 ((rd_T91 l0_1 x6_1).f2.f1)]] rfl (by (try simp only [List.map_toArray, List.map_cons, List.map_nil]); first | done | rfl | (simp only [List.length_drop, List.length_take]; rfl)) ?_; (with_reducible refine (pr_Size.calls ((rd_T91 l0_1 x6_1).f2.f0) ((rd_T91 l0_1 x6_1).f2.f1) t177 _ A9.out).mono ?_); rintro e w20 ⟨rfl, hb⟩; refine ⟨_, rfl, ?_⟩; have n0_ := mkA (Kd.R_below (by (with_reducible repeat (first | apply Kd.R_alloc)); exact HO176.out) hb); have n1_ := mkA (blk_below (g := gb170) (o := .cells #[.int .i64 a0_0, .slice (some ad171) l0_1.length c0_1, .slice A0_2 l0_2.length c0_2] 25 (0, 0)) (by (with_reducible repeat (first | refine z17 ?_ _)); exact BK170.out) hb); have n2_ := mkA (blk_below (g := gb172) (o := .cells #[.int .i64 ((rd_T91 l0_1 x6_1).f2.f0), .int .i64 ((rd_T91 l0_1 x6_1).f2.f1)] 46 (0, 0)) (by (with_reducible repeat (first | refine z17 ?_ _)); exact BK172.out) hb); have n3_ := mkA (z16 (by repeat (with_reducible first | exact HB.out | apply z10 | apply z11 | apply z12 | refine z15 ?_ GE170.out | refine z15 ?_ GE172.out)) hb); clear HO176; clear BK170; clear BK172; clear HB; have HO176 := n0_; have BK170 := n1_; have BK172 := n2_; have HB := n3_; clear n0_ n1_ n2_ n3_; (try clear hb); (try clear hb2); (try clear hk); (try clear hi))
        go_roundg k1
        case measure => have := HK1.out; omega
        case rel => exact ⟨(wrap64 (Int.tdiv x1_1 t177)), (y174), (wrap64 (x6_1 + 1)), (by first | rfl | (simp; done) | (simp [*]; done)), (by first | rfl | (simp; done) | (simp [*]; done)), H', ⟨by have := HK1.out; omega⟩, ⟨by (with_reducible repeat (first | apply Kd.R_alloc)); exact HO176.out⟩, ⟨by (with_reducible repeat (first | refine z17 ?_ _)); exact BK170.out⟩, ⟨by repeat (with_reducible first | exact HB.out | apply z10 | apply z11 | apply z12 | refine z15 ?_ GE170.out | refine z15 ?_ GE172.out)⟩⟩
      ·rw [if_neg c8] at H
       exact absurd H (by simp)
    ·rw [if_neg c5] at H
     exact absurd H (by simp)
   ·rw [if_neg c4] at H
    have c4b0 : decide (x6_1 < (l0_1.length : Int)) = false := decide_eq_false c4
    clear c4
    obtain rfl := Option.some.inj H
    have hcz21_0 : wr.cell? ⟨gb170, 0, none⟩ = some (.int .i64 a0_0) := (z13 BK170.out 0).trans rfl
    have hcz21_1 : wr.cell? ⟨gb170, 1, none⟩ = some (.slice A0_1 l0_1.length c0_1) := (z13 BK170.out 1).trans rfl
    have hcz21_2 : wr.cell? ⟨gb170, 2, none⟩ = some (.slice A0_2 l0_2.length c0_2) := (z13 BK170.out 2).trans rfl
    have hfz21_0 := z14 BK170.out 0
    have hfz21_1 := z14 BK170.out 1
    have hfz21_2 := z14 BK170.out 2
    go_wp2
    go_ret
    exact ⟨_, by first | rfl | (simp [z21, z20] <;> rfl) | (simp [*, z21, z20] <;> rfl), by (with_reducible repeat (first | apply Kd.R_alloc)); exact HO_5.out, by repeat (with_reducible first | exact HB.out | apply z10 | apply z11 | apply z12 | refine z15 ?_ GE170.out)⟩
/-! ### pr_Owed: function 54 -/
def pr_Owed.l0 : Nat → List Int → Int → Int → Int → Int → List (S91) → List (S94) → Option (Int)
 | 0, _, _, _, _, _, _, _ => none
 | k + 1, x1, x2, x7, x8, x180000, x180001, x180002 => if x8 < (x180001.length : Int) then (if 0 ≤ x8 then (if ((rd_T91 x180001 x8).f0) = x2 then (if x8 < (x1.length : Int) then (if ((rd_T91 x180001 x8).f1) = x2 then (pr_Owed.l0 k x1 x2 (wrap64 ((wrap64 (x7 + (rd x1 x8))) - (rd x1 x8))) (wrap64 (x8 + 1)) x180000 x180001 x180002) else (pr_Owed.l0 k x1 x2 (wrap64 (x7 + (rd x1 x8))) (wrap64 (x8 + 1)) x180000 x180001 x180002)) else (none)) else (if ((rd_T91 x180001 x8).f1) = x2 then (if x8 < (x1.length : Int) then (pr_Owed.l0 k x1 x2 (wrap64 (x7 - (rd x1 x8))) (wrap64 (x8 + 1)) x180000 x180001 x180002) else (none)) else (pr_Owed.l0 k x1 x2 x7 (wrap64 (x8 + 1)) x180000 x180001 x180002))) else (none)) else (some x7)
def pr_Owed.f (k : Nat) (a0_0 : Int) (l0_1 : List (S91)) (l0_2 : List (S94)) (l1 : List Int) (a2 : Int) : Option (Int) := pr_Owed.l0 k l1 a2 0 0 a0_0 l0_1 l0_2
end Go.Proofs.Ytncaadckehikpaa.Q
namespace Go.Proofs.Ytncaadckehikpaa.Q
open Go.RowKit Go.Proofs.YtncaadckehikpaaW.PrintWords Go.Proofs.YtncaadckehikpaaW.PrintLast Go.Proofs.YtncaadckehikpaaW.PrintMore
set_option linter.unusedVariables false
set_option linter.unusedSimpArgs false
/-- An entry, and a saying, of the reference as ones of the program. -/
def c91 (e : S91) : S122 := ⟨e.f0, e.f1, ⟨e.f2.f0, e.f2.f1⟩⟩
def c94 (x : S94) : S124 := ⟨x.f0, ⟨x.f1.f0, x.f1.f1⟩⟩
theorem getD_of {α : Type} (xs : List α) (z : α) (i : Nat) (h : i < xs.length) : xs.getD ((i : Int)).toNat z = xs[i] := by
  simp [List.getD, h]
theorem rd91 (xs : List S91) (i : Nat) (h : i < xs.length) : rd_T91 xs (i : Int) = xs[i] := getD_of xs _ i h
theorem rd94 (xs : List S94) (i : Nat) (h : i < xs.length) : rd_T94 xs (i : Int) = xs[i] := getD_of xs _ i h
theorem rd122 (xs : List S122) (i : Nat) (h : i < xs.length) : rd_T122 xs (i : Int) = xs[i] := getD_of xs _ i h
theorem rd_map91 (xs : List S91) (i : Nat) (h : i < xs.length) : rd_T122 (xs.map c91) (i : Int) = c91 (rd_T91 xs (i : Int)) := by
  rw [rd91 xs i h, rd122 _ i (by simpa using h), List.getElem_map]
theorem w1 (i : Nat) (h : i < 1000000000000) : wrap64 ((i : Int) + 1) = ((i + 1 : Nat) : Int) := by unfold wrap64; omega
theorem Slate_l1 (n m : Int) (l1 : List S91) (l2 : List S94) (es : List S122) (hl : l2.length ≤ 30) : ∀ (d k i : Nat) (acc : List S124), i + d = l2.length → d < k → acc.length = i →
    pl_Slate.l1 k i n l1 l2 m es acc = some (m, es, acc ++ (l2.drop i).map c94)
  | 0, k + 1, i, acc, h, hk, ha => by
    rw [pl_Slate.l1, if_neg (by omega), List.drop_of_length_le (by omega)]
    simp
  | d + 1, k + 1, i, acc, h, hk, ha => by
    have hi : i < l2.length := by omega
    rw [pl_Slate.l1, if_pos (by omega), if_pos (by omega), w1 i (by omega)]
    simp only [pl_to.f, Option.bind_some]
    rw [if_pos (by omega), Slate_l1 n m l1 l2 es hl d k (i + 1) _ (by omega) (by omega) (by simp [ha]), List.drop_eq_getElem_cons hi, rd94 l2 i hi]
    rw [List.map_cons, List.append_assoc]
    rfl
theorem Slate_l0 (n m : Int) (l1 : List S91) (l2 : List S94) (hl : l2.length ≤ 30) (hl1 : l1.length ≤ 30) : ∀ (d k i : Nat) (acc : List S122), i + d = l1.length → d + 31 < k → acc.length = i →
    pl_Slate.l0 k i n l1 l2 m acc = some (m, acc ++ (l1.drop i).map c91, l2.map c94)
  | 0, k + 1, i, acc, h, hk, ha => by
    rw [pl_Slate.l0, if_neg (by omega), List.drop_of_length_le (by omega)]
    have := Slate_l1 n m l1 l2 acc hl l2.length k 0 [] (by omega) (by omega) rfl
    simpa using this
  | d + 1, k + 1, i, acc, h, hk, ha => by
    have hi : i < l1.length := by omega
    rw [pl_Slate.l0, if_pos (by omega), if_pos (by omega), w1 i (by omega)]
    simp only [pl_to.f, Option.bind_some]
    rw [if_pos (by omega), Slate_l0 n m l1 l2 hl hl1 d k (i + 1) _ (by omega) (by omega) (by simp [ha]), List.drop_eq_getElem_cons hi, rd91 l1 i hi]
    rw [List.map_cons, List.append_assoc]
    rfl
/-- The program's slate. -/
theorem Slate_f (k : Nat) (n : Int) (l1 : List S91) (l2 : List S94) (h1 : l1.length ≤ 30) (h2 : l2.length ≤ 30) (hk : 100 ≤ k) : pl_Slate.f k n l1 l2 = some (n, l1.map c91, l2.map c94) := by
  have := Slate_l0 n n l1 l2 h2 h1 l1.length k 0 [] (by omega) (by omega) rfl
  simpa [pl_Slate.f] using this
theorem Thin_f (n : Int) (l1 : List S91) (l2 : List S94) : pl_Thin.f n l1 l2 = some (decide (l1.length ≤ 30 ∧ l2.length ≤ 30)) := by
  unfold pl_Thin.f
  by_cases h : (l1.length : Int) > 30
  · rw [if_pos h, decide_eq_false (by omega)]
  · rw [if_neg h]
    by_cases h2 : (l2.length : Int) > 30
    · rw [if_pos h2, decide_eq_false (by omega)]
    · rw [if_neg h2, decide_eq_true (by omega)]
/-- The product of all sizes. -/
def prodS : List S122 → Int
  | [] => 1
  | e :: es => sizeS e * prodS es
theorem prodS_pos : ∀ (l : List S122), (∀ e ∈ l, 1 ≤ sizeS e) → 1 ≤ prodS l
  | [], _ => by simp [prodS]
  | e :: es, h => by
    have h1 := h e (by simp)
    have h2 := prodS_pos es (fun x hx => h x (by simp [hx]))
    have := Int.mul_le_mul h1 h2 (by omega) (by omega)
    simp only [prodS]
    omega
theorem mul_mn (a s c t : Int) (ha : 1 ≤ a) (hs : 1 ≤ s) (ht : 1 ≤ t) (hc : 1 ≤ c) : mn (mn (a * s) c * t) c = mn (a * (s * t)) c := by
  have h0 : a * (s * t) = a * s * t := (Int.mul_assoc a s t).symm
  rw [h0]
  generalize a * s = b
  unfold mn
  by_cases h : c < b
  · rw [if_pos h]
    have h1 : c * 1 ≤ c * t := Int.mul_le_mul_of_nonneg_left ht (by omega)
    have h2 : c * t < b * t := Int.mul_lt_mul_of_pos_right h (by omega)
    rw [if_pos (show c < b * t by omega)]
    by_cases h3 : c < c * t
    · rw [if_pos h3]
    · rw [if_neg h3]; omega
  · rw [if_neg h]
theorem fold_mn (c : Int) (hc : 1 ≤ c) : ∀ (l : List S122) (m : Int), 1 ≤ m → m ≤ c → (∀ e ∈ l, 1 ≤ sizeS e) → l.foldl (fun m e => mn (m * sizeS e) c) m = mn (m * prodS l) c
  | [], m, h1, h2, _ => by
    simp only [List.foldl_nil, prodS, Int.mul_one]
    unfold mn
    rw [if_neg (by omega)]
  | e :: es, m, h1, h2, h => by
    have hs := h e (by simp)
    have hp := prodS_pos es (fun x hx => h x (by simp [hx]))
    have hm : 1 ≤ m * sizeS e := by
      have := Int.mul_le_mul h1 hs (by omega) (by omega)
      omega
    rw [List.foldl_cons, fold_mn c hc es _ (by unfold mn; split <;> omega) (mn_le _ _) (fun x hx => h x (by simp [hx]))]
    simp only [prodS]
    exact mul_mn m (sizeS e) c (prodS es) h1 hs hp hc
theorem manyS_eq (l : List S122) (h : ∀ e ∈ l, 1 ≤ sizeS e) : manyS l = mn (prodS l) 2001 := by
  unfold manyS
  rw [fold_mn 2001 (by omega) l 1 (by omega) (by omega) h, Int.one_mul]
/-- The reference's number of ounces. -/
theorem Many_l0 (n : Int) (l1 : List S91) (l2 : List S94) (hl : l1.length ≤ 6) (h : ∀ e ∈ l1.map c91, 1 ≤ sizeS e ∧ sizeS e ≤ 41 ∧ 0 ≤ e.f2.f0 ∧ e.f2.f1 ≤ 40) :
    ∀ (d k i : Nat) (m : Int), i + d = l1.length → d < k → 1 ≤ m → m ≤ 3000 → pr_Many.l0 k m i n l1 l2 = some (((l1.drop i).map c91).foldl (fun m e => mn (m * sizeS e) 3000) m)
  | 0, k + 1, i, m, hi, hk, h1, h2 => by
    rw [pr_Many.l0, if_neg (by omega), List.drop_of_length_le (by omega)]
    rfl
  | d + 1, k + 1, i, m, hi, hk, h1, h2 => by
    have hn : i < l1.length := by omega
    have he := h (c91 l1[i]) (List.mem_map_of_mem (List.getElem_mem hn))
    have hp : 1 ≤ m * sizeS (c91 l1[i]) := by
      have := Int.mul_le_mul h1 he.1 (by omega) (by omega)
      omega
    have hq : m * sizeS (c91 l1[i]) ≤ 3000 * 41 := Int.mul_le_mul h2 he.2.1 (by omega) (by omega)
    rw [pr_Many.l0, if_pos (by omega), if_pos (by omega), w1 i (by omega), rd91 l1 i hn]
    have hz : pr_Size.f (l1[i].f2.f0) (l1[i].f2.f1) = some (sizeS (c91 l1[i])) := by
      simp only [pr_Size.f, sizeS, c91] at he ⊢
      refine congrArg some ?_
      unfold wrap64
      omega
    rw [hz, Option.bind_some, show wrap64 (m * sizeS (c91 l1[i])) = m * sizeS (c91 l1[i]) by unfold wrap64; omega]
    have hmn : mn 3000 (m * sizeS (c91 l1[i])) = mn (m * sizeS (c91 l1[i])) 3000 := by unfold mn; split <;> split <;> omega
    rw [hmn, Many_l0 n l1 l2 hl h d k (i + 1) _ (by omega) (by omega) (by unfold mn; split <;> omega) (mn_le _ _), List.drop_eq_getElem_cons hn]
    rfl
theorem Many_f (k : Nat) (n : Int) (l1 : List S91) (l2 : List S94) (hl : l1.length ≤ 6) (h : ∀ e ∈ l1.map c91, 1 ≤ sizeS e ∧ sizeS e ≤ 41 ∧ 0 ≤ e.f2.f0 ∧ e.f2.f1 ≤ 40) (hk : 7 ≤ k) :
    pr_Many.f k n l1 l2 = some (mn (prodS (l1.map c91)) 3000) := by
  have := Many_l0 n l1 l2 hl h l1.length k 0 1 (by omega) (by omega) (by omega) (by omega)
  rw [pr_Many.f, show (0 : Int) = ((0 : Nat) : Int) from rfl, this, List.drop_zero, fold_mn 3000 (by omega) _ 1 (by omega) (by omega) (fun e he => (h e he).1), Int.one_mul]
end Go.Proofs.Ytncaadckehikpaa.Q
