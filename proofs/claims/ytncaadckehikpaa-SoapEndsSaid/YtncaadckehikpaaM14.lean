/- A part of the proof: contracts of functions and plain facts (Q8). No condition. -/
import Derived.Test.YtncaadckehikpaaM3
import Derived.Test.YtncaadckehikpaaM13
namespace Go.Proofs.Ytncaadckehikpaa.Q
open Go.RowKit Go.Proofs.YtncaadckehikpaaW.PrintWords Go.Proofs.YtncaadckehikpaaW.PrintLast Go.Proofs.YtncaadckehikpaaW.PrintMore
attribute [local go_sem] z32 z31 max_two min_two   -- for this text's walks alone
set_option linter.unusedVariables false
set_option linter.unusedSimpArgs false
/-! ### pr_Nth: function 46 -/
def pr_Nth.l0 : Nat → Int → List Int → Int → Int → List (S91) → List (S94) → Option (List Int)
 | 0, _, _, _, _, _, _ => none
 | k + 1, x1, x5, x6, x171000, x171001, x171002 => if x6 < (x171001.length : Int) then (if 0 ≤ x6 then ((pr_Size.f ((rd_T91 x171001 x6).f2.f0) ((rd_T91 x171001 x6).f2.f1)).bind fun t173 => (if t173 = 0 then (none) else (if x5.length < 17592186044416 then ((pr_Size.f ((rd_T91 x171001 x6).f2.f0) ((rd_T91 x171001 x6).f2.f1)).bind fun t177 => (if t177 = 0 then (none) else (pr_Nth.l0 k (wrap64 (Int.tdiv x1 t177)) (x5 ++ [wrap64 (((rd_T91 x171001 x6).f2.f0) + (Int.tmod x1 t173))]) (wrap64 (x6 + 1)) x171000 x171001 x171002))) else (none)))) else (none)) else (some x5)
def pr_Nth.f (k : Nat) (a0_0 : Int) (l0_1 : List (S91)) (l0_2 : List (S94)) (a1 : Int) : Option (List Int) := pr_Nth.l0 k a1 ([] : List Int) 0 a0_0 l0_1 l0_2
def pr_Nth.T6 : Bool × List (List Nat × List Nat) := (true, [([], []), ([], []), ([1], [1]), ([], []), ([], []), ([4], [4]), ([3, 5], [3, 5]), ([2, 6], [2, 6]), ([7], [7]), ([0, 8, 5], [0, 8]), ([9, 9, 0, 1, 2, 3, 4, 5, 6, 7, 8, 9], [0, 9])])
def pr_Nth.B6 : List Nat := [0, 0, 2, 0, 0, 16, 56, 126, 254, 511, 1023]
theorem pr_Nth.tab6 : rtab .any (opsOf Try.f46 6) = pr_Nth.T6 := by kernel_rfl
theorem pr_Nth.bits6 : waitsOk pr_Nth.T6.2 pr_Nth.B6 = true := by kernel_rfl
set_option maxHeartbeats 8000000 in
set_option maxRecDepth 100000 in
theorem pr_Nth.calls (k : Nat) (a0_0 : Int) (A0_1 : Option Addr) (c0_1 : Nat) (l0_1 : List (S91)) (A0_2 : Option Addr) (c0_2 : Nat) (l0_2 : List (S94)) (a1 : Int) (r : List Int) (w : World) (hr0_1 : Kd.C k91 w A0_1 l0_1.length l0_1) (hc0_1 : l0_1.length ≤ c0_1) (hr0_2 : Kd.C k94 w A0_2 l0_2.length l0_2) (hc0_2 : l0_2.length ≤ c0_2) (h : pr_Nth.f k a0_0 l0_1 l0_2 a1 = some r) :
  Calls Try.prog 46 #[.agg #[.int .i64 a0_0, .slice A0_1 l0_1.length c0_1, .slice A0_2 l0_2.length c0_2], .int .i64 a1] w fun e w' => ∃ v0_ : Value, e = .returned (v0_) ∧ Kd.R (Kd.int .i64) 3 w' w.heap.size (fun _ => True) v0_ r ∧ Below w.heap.size w w' := by
 have hu25 := Try.underlying25
 have hu46 := Try.underlying46
 have HR0_1 := mkA hr0_1
 have HC0_1 := mkA hc0_1
 clear hr0_1 hc0_1
 have HR0_2 := mkA hr0_2
 have HC0_2 := mkA hc0_2
 clear hr0_2 hc0_2
 have HB := mkA (Below.refl w.heap.size w)
 have H : (pr_Nth.l0 k a1 ([] : List Int) 0 a0_0 l0_1 l0_2) = some r := h
 clear h
 have H' := mkA H
 clear H
 go_enter Try.func46, Try.ntmps46
 go_wp2_with ((with_reducible refine z24 (N := 2) rfl ?_); refine z22 ?hg (N := 2) ?hd (cs := #[.int .i64 a0_0, .slice A0_1 l0_1.length c0_1, .slice A0_2 l0_2.length c0_2]) (t := 25) ?hr ?_; (case hd => rfl); (case hg => rfl); (case hr => first | (go_simp; done) | (go_simp; rfl)); intro gb170 hg w3 hbox hb; have n0_ := mkA (z17 (by repeat (with_reducible first | exact HB.out | apply z11 | apply z10 | apply z12)) hb); have n1_ := mkA (hbox); have n2_ := mkA ((by rw [hg]; exact (z18 (by repeat (with_reducible first | exact HB.out | apply z11 | apply z10 | apply z12))) : w.heap.size ≤ gb170)); have n3_ := mkA ((by rw [hg]; exact (z18 (by repeat (with_reducible first | exact HB.out | apply z11 | apply z10 | apply z12))) : w.heap.size ≤ gb170)); clear HB; have HB := n0_; have BK170 := n1_; have GW170 := n2_; have GE170 := n3_; clear n0_ n1_ n2_ n3_; clear hb hbox hg)
 go_loopg [1, 5, 6] k (fun kq v1 v5 v6 w' => ∃ (x1_1 : Int) (x5_1 : List Int) (x6_1 : Int), v1 = .int .i64 x1_1 ∧ v6 = .int .i64 x6_1 ∧ Aside0 (pr_Nth.l0 kq x1_1 x5_1 x6_1 a0_0 l0_1 l0_2 = some r) ∧ Aside0 (kq ≤ k) ∧ Aside0 (Kd.R (Kd.int .i64) 3 w' w.heap.size (fun _ => True) v5 x5_1) ∧ Aside0 (w'.heap[gb170]? = some (.cells #[.int .i64 a0_0, (.slice A0_1 l0_1.length c0_1), (.slice A0_2 l0_2.length c0_2)] 25 (0, 0))) ∧ Aside0 (Below w.heap.size w w'))
 case atStart => exact ⟨(a1), (([] : List Int)), (0), (by first | rfl | (simp; done) | (simp [*]; done)), (by first | rfl | (simp; done) | (simp [*]; done)), H', ⟨Nat.le_refl _⟩, ⟨by first | exact Kd.R_nil _ _ _ _ _ | exact Kd.N_nil _ _ _ _ _ | exact Kd.V_nil _ _ _ _ _ | exact Kd.Q_nil _ _ _ _ _ | exact Kd.S_nil _ _ _ _ _⟩, ⟨by (with_reducible repeat (first | refine z16 ?_ _)); exact BK170.out⟩, ⟨by repeat (with_reducible first | exact HB.out | apply z11 | apply z10 | apply z12 | refine z15 ?_ GE170.out)⟩⟩
 case round =>
  clear H'
  try clear p2
  obtain ⟨x1_1, x5_1, x6_1, rfl, rfl, HA, HK1, HO_5, BK170, HB⟩ := hrel
  cases gk with
  | zero => exact absurd HA.out (by simp [pr_Nth.l0])
  | succ k1 =>
   have H := HA.out
   clear HA
   simp only [pr_Nth.l0] at H
   by_cases c4 : x6_1 < (l0_1.length : Int)
   ·rw [if_pos c4] at H
    have c4b0 : decide (x6_1 < (l0_1.length : Int)) = true := decide_eq_true c4
    clear c4
    by_cases c5 : 0 ≤ x6_1
    ·rw [if_pos c5] at H
     have c5b0 : decide (0 ≤ x6_1) = true := decide_eq_true c5
     clear c5
     replace H := Option.bind_eq_some_iff.mp H
     obtain ⟨t173, A60, H⟩ := H
     replace H : (if t173 = 0 then (none) else (if x5_1.length < 17592186044416 then ((pr_Size.f ((rd_T91 l0_1 x6_1).f2.f0) ((rd_T91 l0_1 x6_1).f2.f1)).bind fun t177 => (if t177 = 0 then (none) else (pr_Nth.l0 k1 (wrap64 (Int.tdiv x1_1 t177)) (x5_1 ++ [wrap64 (((rd_T91 l0_1 x6_1).f2.f0) + (Int.tmod x1_1 t173))]) (wrap64 (x6_1 + 1)) a0_0 l0_1 l0_2))) else (none))) = some r := H
     have A6 := mkA A60
     clear A60
     by_cases c7 : t173 = 0
     ·rw [if_pos c7] at H
      exact absurd H (by simp)
     ·rw [if_neg c7] at H
      have c7b0 : (t173 == 0) = false := beq_eq_false_iff_ne.mpr c7
      have c7b1 : (t173 != 0) = true := bne_iff_ne.mpr c7
      by_cases c8 : x5_1.length < 17592186044416
      ·rw [if_pos c8] at H
       have LMc8 := mkA c8
       clear c8
       obtain ⟨y174, hy174⟩ : ∃ y_ : List Int, y_ = (x5_1 ++ [wrap64 (((rd_T91 l0_1 x6_1).f2.f0) + (Int.tmod x1_1 t173))]) := ⟨_, rfl⟩
       replace H : ((pr_Size.f ((rd_T91 l0_1 x6_1).f2.f0) ((rd_T91 l0_1 x6_1).f2.f1)).bind fun t177 => (if t177 = 0 then (none) else (pr_Nth.l0 k1 (wrap64 (Int.tdiv x1_1 t177)) y174 (wrap64 (x6_1 + 1)) a0_0 l0_1 l0_2))) = some r := by first | (rw [hy174]; with_reducible exact H) | (have H2_ := (Option.bind_some _ _).symm.trans H; rw [hy174]; with_reducible exact H2_) | (have H2_ := (Option.bind_some _ _).symm.trans H; with_reducible exact H2_) | with_reducible exact H | (rw [hy174]; exact H) | exact H
       have Ny174 := mkA hy174
       clear hy174
       replace H := Option.bind_eq_some_iff.mp H
       obtain ⟨t177, A90, H⟩ := H
       replace H : (if t177 = 0 then (none) else (pr_Nth.l0 k1 (wrap64 (Int.tdiv x1_1 t177)) y174 (wrap64 (x6_1 + 1)) a0_0 l0_1 l0_2)) = some r := H
       have A9 := mkA A90
       clear A90
       by_cases c10 : t177 = 0
       ·rw [if_pos c10] at H
        exact absurd H (by simp)
       ·rw [if_neg c10] at H
        have c10b0 : (t177 == 0) = false := beq_eq_false_iff_ne.mpr c10
        have c10b1 : (t177 != 0) = true := bne_iff_ne.mpr c10
        have H' := mkA H
        clear H
        have hcz11_0 : wr.cell? ⟨gb170, 0, none⟩ = some (.int .i64 a0_0) := (z13 BK170.out 0).trans rfl
        have hcz11_1 : wr.cell? ⟨gb170, 1, none⟩ = some (.slice A0_1 l0_1.length c0_1) := (z13 BK170.out 1).trans rfl
        have hcz11_2 : wr.cell? ⟨gb170, 2, none⟩ = some (.slice A0_2 l0_2.length c0_2) := (z13 BK170.out 2).trans rfl
        have hfz11_0 := z14 BK170.out 0
        have hfz11_1 := z14 BK170.out 1
        have hfz11_2 := z14 BK170.out 2
        have p171 : 0 ≤ (x6_1 : Int) := of_decide_eq_true (by first | (with_reducible assumption) | assumption)
        have q171 : x6_1 < (l0_1.length : Int) := of_decide_eq_true (by first | (with_reducible assumption) | assumption)
        obtain ⟨ad171, e171, hx171_0, hx171_1, hx171_2, hx171_3⟩ := at_T91 HR0_1.out x6_1 p171 q171
        cases e171
        replace hx171_0 := (HB.out.cell (World.block_lt_of_cell? w _ hx171_0)).trans hx171_0
        replace hx171_1 := (HB.out.cell (World.block_lt_of_cell? w _ hx171_1)).trans hx171_1
        replace hx171_2 := (HB.out.cell (World.block_lt_of_cell? w _ hx171_2)).trans hx171_2
        replace hx171_3 := (HB.out.cell (World.block_lt_of_cell? w _ hx171_3)).trans hx171_3
        replace p171 := eq_true p171
        replace q171 := eq_true q171
        try go_wp2_with ((with_reducible refine z24 (N := 7) rfl ?_); refine z22 ?hg (N := 7) ?hd (cs := #[.int .i64 0, .int .i64 0]) (t := 46) ?hr ?_; (case hd => rfl); (case hg => rfl); (case hr => first | (go_simp; done) | (go_simp; rfl)); intro gb172 hg w12 hbox hb; have n0_ := mkA (Kd.R_below (by (with_reducible repeat (first | apply Kd.R_alloc)); exact HO_5.out) hb); have n1_ := mkA (blk_below (g := gb170) (o := .cells #[.int .i64 a0_0, .slice (some ad171) l0_1.length c0_1, .slice A0_2 l0_2.length c0_2] 25 (0, 0)) (by (with_reducible repeat (first | refine z16 ?_ _)); exact BK170.out) hb); have n2_ := mkA (z17 (by repeat (with_reducible first | exact HB.out | apply z11 | apply z10 | apply z12 | refine z15 ?_ GE170.out)) hb); have n3_ := mkA (hbox); have n4_ := mkA ((by rw [hg]; exact (z18 (by repeat (with_reducible first | exact HB.out | apply z11 | apply z10 | apply z12 | refine z15 ?_ GE170.out))) : w.heap.size ≤ gb172)); have n5_ := mkA ((by rw [hg]; exact (z18 (by repeat (with_reducible first | exact HB.out | apply z11 | apply z10 | apply z12 | refine z15 ?_ GE170.out))) : w.heap.size ≤ gb172)); have n6_ := mkA ((by rw [hg]; exact Nat.ne_of_lt (blk_lt (g := gb170) (o := .cells #[.int .i64 a0_0, .slice (some ad171) l0_1.length c0_1, .slice A0_2 l0_2.length c0_2] 25 (0, 0)) (by (with_reducible repeat (first | refine z16 ?_ _)); exact BK170.out)) : gb170 ≠ gb172)); have n7_ := mkA ((by rw [hg]; exact Nat.ne_of_gt (blk_lt (g := gb170) (o := .cells #[.int .i64 a0_0, .slice (some ad171) l0_1.length c0_1, .slice A0_2 l0_2.length c0_2] 25 (0, 0)) (by (with_reducible repeat (first | refine z16 ?_ _)); exact BK170.out)) : gb172 ≠ gb170)); clear HO_5; clear BK170; clear HB; have HO_5 := n0_; have BK170 := n1_; have HB := n2_; have BK172 := n3_; have GW172 := n4_; have GE172 := n5_; have NB170_172 := n6_; have NB172_170 := n7_; clear n0_ n1_ n2_ n3_ n4_ n5_ n6_ n7_; clear hb hbox hg; have hnb13 := NB172_170.out; have hnc13 := NB170_172.out; have hcz14_0 : w12.cell? ⟨gb172, 0, none⟩ = some (.int .i64 0) := (z13 BK172.out 0).trans rfl; have hcz14_1 : w12.cell? ⟨gb172, 1, none⟩ = some (.int .i64 0) := (z13 BK172.out 1).trans rfl; have hfz14_0 := z14 BK172.out 0; have hfz14_1 := z14 BK172.out 1)
        have n0_ : Aside0 (Kd.R (Kd.int .i64) 3 ((w12.setCell ⟨gb172, 0, none⟩ (.int .i64 ((rd_T91 l0_1 x6_1).f2.f0))).setCell ⟨gb172, 1, none⟩ (.int .i64 ((rd_T91 l0_1 x6_1).f2.f1))) w.heap.size (fun _ => True) u5 x5_1) := ⟨by (with_reducible repeat (first | apply Kd.R_alloc)); exact Kd.R_mono (Kd.R_far (p := ⟨gb172, 1, none⟩) (Kd.R_far (p := ⟨gb172, 0, none⟩) (Kd.R_types HO_5.out BK172.out (by decide)) (fun _ hk => hk.2) (.int .i64 ((rd_T91 l0_1 x6_1).f2.f0))) (fun _ hk => hk.2) (.int .i64 ((rd_T91 l0_1 x6_1).f2.f1))) (fun _ hk => trivial)⟩
        have n1_ : Aside0 (((w12.setCell ⟨gb172, 0, none⟩ (.int .i64 ((rd_T91 l0_1 x6_1).f2.f0))).setCell ⟨gb172, 1, none⟩ (.int .i64 ((rd_T91 l0_1 x6_1).f2.f1))).heap[gb170]? = some (.cells #[.int .i64 a0_0, .slice (some ad171) l0_1.length c0_1, .slice A0_2 l0_2.length c0_2] 25 (0, 0))) := ⟨by (with_reducible repeat (first | refine z16 ?_ _)); refine blk_far ?_ NB170_172.out _; (with_reducible repeat (first | refine z16 ?_ _)); refine blk_far ?_ NB170_172.out _; (with_reducible repeat (first | refine z16 ?_ _)); exact BK170.out⟩
        have n2_ : Aside0 (((w12.setCell ⟨gb172, 0, none⟩ (.int .i64 ((rd_T91 l0_1 x6_1).f2.f0))).setCell ⟨gb172, 1, none⟩ (.int .i64 ((rd_T91 l0_1 x6_1).f2.f1))).heap[gb172]? = some (.cells #[.int .i64 ((rd_T91 l0_1 x6_1).f2.f0), .int .i64 ((rd_T91 l0_1 x6_1).f2.f1)] 46 (0, 0))) := ⟨by (with_reducible repeat (first | refine z16 ?_ _)); refine blk_put (cs := #[.int .i64 ((rd_T91 l0_1 x6_1).f2.f0), .int .i64 0]) ?_ 1 _ rfl; (with_reducible repeat (first | refine z16 ?_ _)); refine blk_put (cs := #[.int .i64 0, .int .i64 0]) ?_ 0 _ rfl; (with_reducible repeat (first | refine z16 ?_ _)); exact BK172.out⟩
        have n3_ : Aside0 (Below w.heap.size w ((w12.setCell ⟨gb172, 0, none⟩ (.int .i64 ((rd_T91 l0_1 x6_1).f2.f0))).setCell ⟨gb172, 1, none⟩ (.int .i64 ((rd_T91 l0_1 x6_1).f2.f1)))) := ⟨by repeat (with_reducible first | exact HB.out | apply z11 | apply z10 | apply z12 | refine z15 ?_ GE170.out | refine z15 ?_ GE172.out)⟩
        (try clear HO_5)
        (try clear BK170)
        (try clear BK172)
        (try clear HB)
        generalize ((w12.setCell ⟨gb172, 0, none⟩ (.int .i64 ((rd_T91 l0_1 x6_1).f2.f0))).setCell ⟨gb172, 1, none⟩ (.int .i64 ((rd_T91 l0_1 x6_1).f2.f1))) = w15 at n0_ n1_ n2_ n3_ ⊢
        have HO_5 := n0_
        have BK170 := n1_
        have BK172 := n2_
        have HB := n3_
        clear n0_ n1_ n2_ n3_
        have n0_ := mkA (Kd.R_drew HO_5.out)
        have n1_ := mkA (z28 BK170.out)
        have n2_ := mkA (z28 BK172.out)
        have n3_ := mkA (z12 HB.out)
        clear HO_5
        clear BK170
        clear BK172
        clear HB
        have HO_5 := n0_
        have BK170 := n1_
        have BK172 := n2_
        have HB := n3_
        clear n0_ n1_ n2_ n3_
        refine start_ (n := 11) (S := fun w' => w'.cell? ⟨gb172, 0, none⟩ = some (.int .i64 ((rd_T91 l0_1 x6_1).f2.f0)) ∧ w'.cell? ⟨gb172, 1, none⟩ = some (.int .i64 ((rd_T91 l0_1 x6_1).f2.f1))) (ds := []) #[false, false, false, false, false, false, false, false, false, false, false] (by kernel_rfl) rfl rfl ⟨(z13 BK172.out 0).trans rfl, (z13 BK172.out 1).trans rfl⟩ (fun hHeld => ?_); refine z51 pr_Nth.tab6 pr_Nth.bits6 (fun HT_ HW_ => ?_)
        generalize w15.drew = w16 at HO_5 BK170 BK172 HB hHeld ⊢
        refine pure_ (i := 0) (N := some 21) (v := ?_) (a' := ?_) #[true, false, false, false, false, false, false, false, false, false, false] rfl rfl (any_of HT_.out (by kernel_rfl)) (fun _ _ _ h => h) (Or.inl ⟨by rfl, ?_⟩) ?_ ?_
        rotate_left
        ·intro w'
         go_simp
         with_reducible rfl
        rotate_left
        ·simp only [Act.put, xq1, xq2, xq3, i64_w, i32_w]
         rfl
        refine pure_ (i := 1) (N := some 22) (v := ?_) (a' := ?_) #[true, true, false, false, false, false, false, false, false, false, false] rfl rfl (any_of HT_.out (by kernel_rfl)) (fun _ _ _ h => h) (Or.inl ⟨by rfl, ?_⟩) ?_ ?_
        rotate_left
        ·intro w'
         go_simp
         with_reducible rfl
        rotate_left
        ·simp only [Act.put, xq1, xq2, xq3, i64_w, i32_w]
         rfl
        refine pure_ (i := 3) (N := some 24) (v := ?_) (a' := ?_) #[true, true, false, true, false, false, false, false, false, false, false] rfl rfl (any_of HT_.out (by kernel_rfl)) (fun _ _ _ h => h) (Or.inl ⟨by rfl, ?_⟩) ?_ ?_
        rotate_left
        ·intro w'
         go_simp
         with_reducible rfl
        rotate_left
        ·simp only [Act.put, xq1, xq2, xq3, i64_w, i32_w]
         rfl
        refine take_ (i := 2) (N := some 23) (v := ?_) (a' := ?_) #[true, true, true, true, false, false, false, false, false, false, false] rfl rfl (z33 HT_.out HW_.out (by kernel_rfl)) (fun _ _ _ h => h) (Or.inl ⟨by rfl, ?_⟩) hHeld ?_ ?_
        rotate_left
        ·rintro w' ⟨s0, s1⟩
         go_simp
         with_reducible rfl
        rotate_left
        ·simp only [Act.put, xq1, xq2, xq3, i64_w, i32_w]
         rfl
        refine take_ (i := 4) (N := some 25) (v := ?_) (a' := ?_) #[true, true, true, true, true, false, false, false, false, false, false] rfl rfl (z33 HT_.out HW_.out (by kernel_rfl)) (fun _ _ _ h => h) (Or.inl ⟨by rfl, ?_⟩) hHeld ?_ ?_
        rotate_left
        ·rintro w' ⟨s0, s1⟩
         go_simp
         with_reducible rfl
        rotate_left
        ·simp only [Act.put, xq1, xq2, xq3, i64_w, i32_w]
         rfl
        refine one_ (i := 5) (N := some 26) #[true, true, true, true, true, true, false, false, false, false, false] rfl rfl (one_of HT_.out (by kernel_rfl)) (by decide) (fun K hK => ?_)
        refine goes_ Try.func89 (by kernel_rfl) rfl #[.agg #[.int .i64 ((rd_T91 l0_1 x6_1).f2.f0), .int .i64 ((rd_T91 l0_1 x6_1).f2.f1)]] (by rfl) rfl rfl (by (try simp only [List.map_toArray, List.map_cons, List.map_nil]); first | done | rfl | (simp only [List.length_drop, List.length_take]; rfl)) ?_
        with_reducible refine (pr_Size.calls ((rd_T91 l0_1 x6_1).f2.f0) ((rd_T91 l0_1 x6_1).f2.f1) t173 _ A6.out).mono ?_
        rintro e w17 ⟨rfl, hb⟩
        refine ⟨_, rfl, ?_⟩
        have n0_ := mkA (Kd.R_below (by (with_reducible repeat (first | apply Kd.R_alloc)); exact HO_5.out) hb)
        have n1_ := mkA (blk_below (g := gb170) (o := .cells #[.int .i64 a0_0, .slice (some ad171) l0_1.length c0_1, .slice A0_2 l0_2.length c0_2] 25 (0, 0)) (by (with_reducible repeat (first | refine z16 ?_ _)); exact BK170.out) hb)
        have n2_ := mkA (blk_below (g := gb172) (o := .cells #[.int .i64 ((rd_T91 l0_1 x6_1).f2.f0), .int .i64 ((rd_T91 l0_1 x6_1).f2.f1)] 46 (0, 0)) (by (with_reducible repeat (first | refine z16 ?_ _)); exact BK172.out) hb)
        have n3_ := mkA (z17 (by repeat (with_reducible first | exact HB.out | apply z11 | apply z10 | apply z12 | refine z15 ?_ GE170.out | refine z15 ?_ GE172.out)) hb)
        clear HO_5
        clear BK170
        clear BK172
        clear HB
        have HO_5 := n0_
        have BK170 := n1_
        have BK172 := n2_
        have HB := n3_
        clear n0_ n1_ n2_ n3_
        (try clear hb)
        (try clear hb2)
        (try clear hk)
        (try clear hi)
        refine hK.out _ _ ⟨(z13 BK172.out 0).trans rfl, (z13 BK172.out 1).trans rfl⟩ (fun hHeld => ?_)
        clear hK K
        refine norm_ (a' := ?_) ?_ ?_
        rotate_left
        ·show Act.put _ (some 26) _ = _
         simp only [Act.put, xq1, xq2, xq3, i64_w, i32_w]
         rfl
        refine pure_ (i := 6) (N := some 27) (v := ?_) (a' := ?_) #[true, true, true, true, true, true, true, false, false, false, false] rfl rfl (any_of HT_.out (by kernel_rfl)) (fun _ _ _ h => h) (Or.inl ⟨by rfl, ?_⟩) ?_ ?_
        rotate_left
        ·intro w'
         go_simp
         with_reducible rfl
        rotate_left
        ·simp only [Act.put, xq1, xq2, xq3, i64_w, i32_w]
         rfl
        refine pure_ (i := 7) (N := some 28) (v := ?_) (a' := ?_) #[true, true, true, true, true, true, true, true, false, false, false] rfl rfl (any_of HT_.out (by kernel_rfl)) (fun _ _ _ h => h) (Or.inl ⟨by rfl, ?_⟩) ?_ ?_
        rotate_left
        ·intro w'
         go_simp
         with_reducible rfl
        rotate_left
        ·simp only [Act.put, xq1, xq2, xq3, i64_w, i32_w]
         rfl
        refine one_ (i := 8) (N := some 29) #[true, true, true, true, true, true, true, true, true, false, false] rfl rfl (one_of HT_.out (by kernel_rfl)) (by decide) (fun K hK => ?_)
        refine value_ (w1 := ?_) (v := ?_) (by rfl) rfl ?_ ?_
        rotate_left 2
        ·go_simp
         constructor
         ·rfl
         ·rfl
        refine hK.out _ _ ⟨(z13 (z27 BK172.out _) 0).trans rfl, (z13 (z27 BK172.out _) 1).trans rfl⟩ (fun hHeld => ?_)
        clear hK K
        refine norm_ (a' := ?_) ?_ ?_
        rotate_left
        ·show Act.put _ (some 29) _ = _
         simp only [Act.put, xq1, xq2, xq3, i64_w, i32_w]
         rfl
        refine one_ (i := 9) (N := some 30) #[true, true, true, true, true, true, true, true, true, true, false] rfl rfl (one_of HT_.out (by kernel_rfl)) (by decide) (fun K hK => ?_)
        refine Kd.R_append_step (Kd.int .i64) (w0 := w) w.heap.size (by rfl) (.tmp 21) (.tmp 29) 37 3 (.int .i64 0) 8 rfl Try.underlying37 info3 rfl (by decide) (by omega) u5 x5_1 (wrap64 (((rd_T91 l0_1 x6_1).f2.f0) + (Int.tmod x1_1 t173))) [.int .i64 (wrap64 (((rd_T91 l0_1 x6_1).f2.f0) + (Int.tmod x1_1 t173)))] (fun _ => True) (fun _ => False) rfl rfl ?aP (fun _ hk => hk.elim) ?aF ?aO ?aB ?aS ?aL ?_
        (case aP => exact rfl)
        (case aB => exact (by repeat (with_reducible first | exact HB.out | apply z11 | apply z10 | apply z12 | refine z15 ?_ GE170.out | refine z15 ?_ GE172.out)))
        (case aF => exact (fun _ _ => trivial))
        (case aO => exact (by (with_reducible repeat (first | apply Kd.R_alloc)); exact HO_5.out))
        (case aS => exact (z18 (by repeat (with_reducible first | exact HB.out | apply z11 | apply z10 | apply z12 | refine z15 ?_ GE170.out | refine z15 ?_ GE172.out))))
        (case aL => have := LMc8.out; omega)
        intro v175 w18 ho hb hg hat
        rw [← Ny174.out] at ho
        have n0_ := mkA (z38 (g := gb170) (o := .cells #[.int .i64 a0_0, .slice (some ad171) l0_1.length c0_1, .slice A0_2 l0_2.length c0_2] 25 (0, 0)) (by (with_reducible repeat (first | refine z16 ?_ _)); exact BK170.out) hg (Kd.R_ne HO_5.out BK170.out (by decide)))
        have n1_ := mkA (z38 (g := gb172) (o := .cells #[.int .i64 ((rd_T91 l0_1 x6_1).f2.f0), .int .i64 ((rd_T91 l0_1 x6_1).f2.f1)] 46 (0, 0)) (by (with_reducible repeat (first | refine z16 ?_ _)); exact BK172.out) hg (Kd.R_ne HO_5.out BK172.out (by decide)))
        have n2_ := mkA (hb)
        have n3_ := mkA (ho)
        clear BK170
        clear BK172
        clear HB
        clear HO_5
        have BK170 := n0_
        have BK172 := n1_
        have HB := n2_
        have HO176 := n3_
        clear n0_ n1_ n2_ n3_
        clear ho hb hg hat
        refine hK.out _ _ ⟨(z13 BK172.out 0).trans rfl, (z13 BK172.out 1).trans rfl⟩ (fun hHeld => ?_)
        clear hK K
        refine norm_ (a' := ?_) ?_ ?_
        rotate_left
        ·show Act.put _ (some 30) _ = _
         simp only [Act.put, xq1, xq2, xq3, i64_w, i32_w]
         rfl
        refine pure_ (i := 10) (N := some 5) (v := ?_) (a' := ?_) #[true, true, true, true, true, true, true, true, true, true, true] rfl rfl (any_of HT_.out (by kernel_rfl)) (fun _ _ _ h => h) (Or.inl ⟨by rfl, ?_⟩) ?_ ?_
        rotate_left
        ·intro w'
         go_simp
         with_reducible rfl
        rotate_left
        ·simp only [Act.put, xq1, xq2, xq3, i64_w, i32_w]
         rfl
        refine done_ (done_of HT_.out (by kernel_rfl)) ?_
        have hcz19_0 : w18.cell? ⟨gb172, 0, none⟩ = some (.int .i64 ((rd_T91 l0_1 x6_1).f2.f0)) := (z13 BK172.out 0).trans rfl
        have hcz19_1 : w18.cell? ⟨gb172, 1, none⟩ = some (.int .i64 ((rd_T91 l0_1 x6_1).f2.f1)) := (z13 BK172.out 1).trans rfl
        have hfz19_0 := z14 BK172.out 0
        have hfz19_1 := z14 BK172.out 1
        try go_wp2_with ((with_reducible refine z23 (f := 89) rfl ?_); refine goesL_ (some 33) rfl rfl Try.func89 (by kernel_rfl) rfl #[.agg #[.int .i64 ((rd_T91 l0_1 x6_1).f2.f0), .int .i64 ((rd_T91 l0_1 x6_1).f2.f1)]] rfl (by (try simp only [List.map_toArray, List.map_cons, List.map_nil]); first | done | rfl | (simp only [List.length_drop, List.length_take]; rfl)) ?_; (with_reducible refine (pr_Size.calls ((rd_T91 l0_1 x6_1).f2.f0) ((rd_T91 l0_1 x6_1).f2.f1) t177 _ A9.out).mono ?_); rintro e w20 ⟨rfl, hb⟩; refine ⟨_, rfl, ?_⟩; have n0_ := mkA (Kd.R_below (by (with_reducible repeat (first | apply Kd.R_alloc)); exact HO176.out) hb); have n1_ := mkA (blk_below (g := gb170) (o := .cells #[.int .i64 a0_0, .slice (some ad171) l0_1.length c0_1, .slice A0_2 l0_2.length c0_2] 25 (0, 0)) (by (with_reducible repeat (first | refine z16 ?_ _)); exact BK170.out) hb); have n2_ := mkA (blk_below (g := gb172) (o := .cells #[.int .i64 ((rd_T91 l0_1 x6_1).f2.f0), .int .i64 ((rd_T91 l0_1 x6_1).f2.f1)] 46 (0, 0)) (by (with_reducible repeat (first | refine z16 ?_ _)); exact BK172.out) hb); have n3_ := mkA (z17 (by repeat (with_reducible first | exact HB.out | apply z11 | apply z10 | apply z12 | refine z15 ?_ GE170.out | refine z15 ?_ GE172.out)) hb); clear HO176; clear BK170; clear BK172; clear HB; have HO176 := n0_; have BK170 := n1_; have BK172 := n2_; have HB := n3_; clear n0_ n1_ n2_ n3_; (try clear hb); (try clear hb2); (try clear hk); (try clear hi))
        go_roundg k1
        case measure => have := HK1.out; omega
        case rel => exact ⟨(wrap64 (Int.tdiv x1_1 t177)), (y174), (wrap64 (x6_1 + 1)), (by first | rfl | (simp; done) | (simp [*]; done)), (by first | rfl | (simp; done) | (simp [*]; done)), H', ⟨by have := HK1.out; omega⟩, ⟨by (with_reducible repeat (first | apply Kd.R_alloc)); exact HO176.out⟩, ⟨by (with_reducible repeat (first | refine z16 ?_ _)); exact BK170.out⟩, ⟨by repeat (with_reducible first | exact HB.out | apply z11 | apply z10 | apply z12 | refine z15 ?_ GE170.out | refine z15 ?_ GE172.out)⟩⟩
      ·rw [if_neg c8] at H
       exact absurd H (by simp)
    ·rw [if_neg c5] at H
     exact absurd H (by simp)
   ·rw [if_neg c4] at H
    have c4b0 : decide (x6_1 < (l0_1.length : Int)) = false := decide_eq_false c4
    clear c4
    obtain rfl := Option.some.inj H
    have hcz21_0 : wr.cell? ⟨gb170, 0, none⟩ = some (.int .i64 a0_0) := (z13 BK170.out 0).trans rfl
    have hcz21_1 : wr.cell? ⟨gb170, 1, none⟩ = some (.slice A0_1 l0_1.length c0_1) := (z13 BK170.out 1).trans rfl
    have hcz21_2 : wr.cell? ⟨gb170, 2, none⟩ = some (.slice A0_2 l0_2.length c0_2) := (z13 BK170.out 2).trans rfl
    have hfz21_0 := z14 BK170.out 0
    have hfz21_1 := z14 BK170.out 1
    have hfz21_2 := z14 BK170.out 2
    go_wp2
    go_ret
    exact ⟨_, by first | rfl | (simp [z20, z19] <;> rfl) | (simp [*, z20, z19] <;> rfl), by (with_reducible repeat (first | apply Kd.R_alloc)); exact HO_5.out, by repeat (with_reducible first | exact HB.out | apply z11 | apply z10 | apply z12 | refine z15 ?_ GE170.out)⟩
/-! ### pr_Owed: function 54 -/
def pr_Owed.l0 : Nat → List Int → Int → Int → Int → Int → List (S91) → List (S94) → Option (Int)
 | 0, _, _, _, _, _, _, _ => none
 | k + 1, x1, x2, x7, x8, x180000, x180001, x180002 => if x8 < (x180001.length : Int) then (if 0 ≤ x8 then (if ((rd_T91 x180001 x8).f0) = x2 then (if x8 < (x1.length : Int) then (if ((rd_T91 x180001 x8).f1) = x2 then (pr_Owed.l0 k x1 x2 (wrap64 ((wrap64 (x7 + (rd x1 x8))) - (rd x1 x8))) (wrap64 (x8 + 1)) x180000 x180001 x180002) else (pr_Owed.l0 k x1 x2 (wrap64 (x7 + (rd x1 x8))) (wrap64 (x8 + 1)) x180000 x180001 x180002)) else (none)) else (if ((rd_T91 x180001 x8).f1) = x2 then (if x8 < (x1.length : Int) then (pr_Owed.l0 k x1 x2 (wrap64 (x7 - (rd x1 x8))) (wrap64 (x8 + 1)) x180000 x180001 x180002) else (none)) else (pr_Owed.l0 k x1 x2 x7 (wrap64 (x8 + 1)) x180000 x180001 x180002))) else (none)) else (some x7)
def pr_Owed.f (k : Nat) (a0_0 : Int) (l0_1 : List (S91)) (l0_2 : List (S94)) (l1 : List Int) (a2 : Int) : Option (Int) := pr_Owed.l0 k l1 a2 0 0 a0_0 l0_1 l0_2
set_option maxHeartbeats 8000000 in
set_option maxRecDepth 100000 in
theorem pr_Owed.calls (k : Nat) (a0_0 : Int) (A0_1 : Option Addr) (c0_1 : Nat) (l0_1 : List (S91)) (A0_2 : Option Addr) (c0_2 : Nat) (l0_2 : List (S94)) (A1 : Option Addr) (c1 : Nat) (l1 : List Int) (a2 : Int) (r : Int) (w : World) (hr0_1 : Kd.C k91 w A0_1 l0_1.length l0_1) (hc0_1 : l0_1.length ≤ c0_1) (hr0_2 : Kd.C k94 w A0_2 l0_2.length l0_2) (hc0_2 : l0_2.length ≤ c0_2) (hr1 : Kd.C (Kd.int .i64) w A1 l1.length l1) (hc1 : l1.length ≤ c1) (h : pr_Owed.f k a0_0 l0_1 l0_2 l1 a2 = some r) :
  Calls Try.prog 54 #[.agg #[.int .i64 a0_0, .slice A0_1 l0_1.length c0_1, .slice A0_2 l0_2.length c0_2], .slice A1 l1.length c1, .int .i64 a2] w fun e w' => e = .returned (.int .i64 r) ∧ Below w.heap.size w w' := by
 have hu25 := Try.underlying25
 have HR0_1 := mkA hr0_1
 have HC0_1 := mkA hc0_1
 clear hr0_1 hc0_1
 have HR0_2 := mkA hr0_2
 have HC0_2 := mkA hc0_2
 clear hr0_2 hc0_2
 have HR1 := mkA hr1
 have HC1 := mkA hc1
 clear hr1 hc1
 have HB := mkA (Below.refl w.heap.size w)
 have H : (pr_Owed.l0 k l1 a2 0 0 a0_0 l0_1 l0_2) = some r := h
 clear h
 have H' := mkA H
 clear H
 go_enter Try.func54, Try.ntmps54
 go_wp2_with ((with_reducible refine z24 (N := 3) rfl ?_); refine z22 ?hg (N := 3) ?hd (cs := #[.int .i64 a0_0, .slice A0_1 l0_1.length c0_1, .slice A0_2 l0_2.length c0_2]) (t := 25) ?hr ?_; (case hd => rfl); (case hg => rfl); (case hr => first | (go_simp; done) | (go_simp; rfl)); intro gb179 hg w4 hbox hb; have n0_ := mkA (z17 (by repeat (with_reducible first | exact HB.out | apply z11 | apply z10 | apply z12)) hb); have n1_ := mkA (hbox); have n2_ := mkA ((by rw [hg]; exact (z18 (by repeat (with_reducible first | exact HB.out | apply z11 | apply z10 | apply z12))) : w.heap.size ≤ gb179)); have n3_ := mkA ((by rw [hg]; exact (z18 (by repeat (with_reducible first | exact HB.out | apply z11 | apply z10 | apply z12))) : w.heap.size ≤ gb179)); clear HB; have HB := n0_; have BK179 := n1_; have GW179 := n2_; have GE179 := n3_; clear n0_ n1_ n2_ n3_; clear hb hbox hg)
 go_loopg [7, 8] k (fun kq v7 v8 w' => ∃ (x7_1 : Int) (x8_1 : Int), v7 = .int .i64 x7_1 ∧ v8 = .int .i64 x8_1 ∧ Aside0 (pr_Owed.l0 kq l1 a2 x7_1 x8_1 a0_0 l0_1 l0_2 = some r) ∧ Aside0 (kq ≤ k) ∧ Aside0 (w'.heap[gb179]? = some (.cells #[.int .i64 a0_0, (.slice A0_1 l0_1.length c0_1), (.slice A0_2 l0_2.length c0_2)] 25 (0, 0))) ∧ Aside0 (Below w.heap.size w w'))
 case atStart => exact ⟨(0), (0), (by first | rfl | (simp; done) | (simp [*]; done)), (by first | rfl | (simp; done) | (simp [*]; done)), H', ⟨Nat.le_refl _⟩, ⟨by (with_reducible repeat (first | refine z16 ?_ _)); exact BK179.out⟩, ⟨by repeat (with_reducible first | exact HB.out | apply z11 | apply z10 | apply z12 | refine z15 ?_ GE179.out)⟩⟩
 case round =>
  clear H'
  try clear c1
  try clear p2
  obtain ⟨x7_1, x8_1, rfl, rfl, HA, HK1, BK179, HB⟩ := hrel
  cases gk with
  | zero => exact absurd HA.out (by simp [pr_Owed.l0])
  | succ k1 =>
   have H := HA.out
   clear HA
   simp only [pr_Owed.l0] at H
   by_cases c5 : x8_1 < (l0_1.length : Int)
   ·rw [if_pos c5] at H
    have c5b0 : decide (x8_1 < (l0_1.length : Int)) = true := decide_eq_true c5
    clear c5
    by_cases c6 : 0 ≤ x8_1
    ·rw [if_pos c6] at H
     have c6b0 : decide (0 ≤ x8_1) = true := decide_eq_true c6
     clear c6
     by_cases c7 : ((rd_T91 l0_1 x8_1).f0) = a2
     ·rw [if_pos c7] at H
      have c7b0 : (((rd_T91 l0_1 x8_1).f0) == a2) = true := beq_iff_eq.mpr c7
      have c7b1 : (((rd_T91 l0_1 x8_1).f0) != a2) = false := bne_eq_false_iff_eq.mpr c7
      clear c7
      by_cases c8 : x8_1 < (l1.length : Int)
      ·rw [if_pos c8] at H
       have c8b0 : decide (x8_1 < (l1.length : Int)) = true := decide_eq_true c8
       clear c8
       by_cases c9 : ((rd_T91 l0_1 x8_1).f1) = a2
       ·rw [if_pos c9] at H
        have c9b0 : (((rd_T91 l0_1 x8_1).f1) == a2) = true := beq_iff_eq.mpr c9
        have c9b1 : (((rd_T91 l0_1 x8_1).f1) != a2) = false := bne_eq_false_iff_eq.mpr c9
        clear c9
        have H' := mkA H
        clear H
        have hcz10_0 : wr.cell? ⟨gb179, 0, none⟩ = some (.int .i64 a0_0) := (z13 BK179.out 0).trans rfl
        have hcz10_1 : wr.cell? ⟨gb179, 1, none⟩ = some (.slice A0_1 l0_1.length c0_1) := (z13 BK179.out 1).trans rfl
        have hcz10_2 : wr.cell? ⟨gb179, 2, none⟩ = some (.slice A0_2 l0_2.length c0_2) := (z13 BK179.out 2).trans rfl
        have hfz10_0 := z14 BK179.out 0
        have hfz10_1 := z14 BK179.out 1
        have hfz10_2 := z14 BK179.out 2
        have p180 : 0 ≤ (x8_1 : Int) := of_decide_eq_true (by first | (with_reducible assumption) | assumption)
        have q180 : x8_1 < (l0_1.length : Int) := of_decide_eq_true (by first | (with_reducible assumption) | assumption)
        obtain ⟨ad180, e180, hx180_0, hx180_1, hx180_2, hx180_3⟩ := at_T91 HR0_1.out x8_1 p180 q180
        cases e180
        replace hx180_0 := (HB.out.cell (World.block_lt_of_cell? w _ hx180_0)).trans hx180_0
        replace hx180_1 := (HB.out.cell (World.block_lt_of_cell? w _ hx180_1)).trans hx180_1
        replace hx180_2 := (HB.out.cell (World.block_lt_of_cell? w _ hx180_2)).trans hx180_2
        replace hx180_3 := (HB.out.cell (World.block_lt_of_cell? w _ hx180_3)).trans hx180_3
        replace p180 := eq_true p180
        replace q180 := eq_true q180
        have p181 : 0 ≤ (x8_1 : Int) := of_decide_eq_true (by first | (with_reducible assumption) | assumption)
        have q181 : x8_1 < (l1.length : Int) := of_decide_eq_true (by first | (with_reducible assumption) | assumption)
        obtain ⟨ad181, e181, hx181_0⟩ := Kd.at_int HR1.out x8_1 p181 q181
        cases e181
        replace hx181_0 := (HB.out.cell (World.block_lt_of_cell? w _ hx181_0)).trans hx181_0
        replace p181 := eq_true p181
        replace q181 := eq_true q181
        have p182 : 0 ≤ (x8_1 : Int) := of_decide_eq_true (by first | (with_reducible assumption) | assumption)
        have q182 : x8_1 < (l0_1.length : Int) := of_decide_eq_true (by first | (with_reducible assumption) | assumption)
        obtain ⟨ad182, e182, hx182_0, hx182_1, hx182_2, hx182_3⟩ := at_T91 HR0_1.out x8_1 p182 q182
        obtain rfl : ad180 = ad182 := (by injection e182)
        replace hx182_0 := (HB.out.cell (World.block_lt_of_cell? w _ hx182_0)).trans hx182_0
        replace hx182_1 := (HB.out.cell (World.block_lt_of_cell? w _ hx182_1)).trans hx182_1
        replace hx182_2 := (HB.out.cell (World.block_lt_of_cell? w _ hx182_2)).trans hx182_2
        replace hx182_3 := (HB.out.cell (World.block_lt_of_cell? w _ hx182_3)).trans hx182_3
        replace p182 := eq_true p182
        replace q182 := eq_true q182
        have p183 : 0 ≤ (x8_1 : Int) := of_decide_eq_true (by first | (with_reducible assumption) | assumption)
        have q183 : x8_1 < (l1.length : Int) := of_decide_eq_true (by first | (with_reducible assumption) | assumption)
        obtain ⟨ad183, e183, hx183_0⟩ := Kd.at_int HR1.out x8_1 p183 q183
        obtain rfl : ad181 = ad183 := (by injection e183)
        replace hx183_0 := (HB.out.cell (World.block_lt_of_cell? w _ hx183_0)).trans hx183_0
        replace p183 := eq_true p183
        replace q183 := eq_true q183
        go_wp2
        go_roundg k1
        case measure => have := HK1.out; omega
        case rel => exact ⟨(wrap64 ((wrap64 (x7_1 + (rd l1 x8_1))) - (rd l1 x8_1))), (wrap64 (x8_1 + 1)), (by first | rfl | (simp; done) | (simp [*]; done)), (by first | rfl | (simp; done) | (simp [*]; done)), H', ⟨by have := HK1.out; omega⟩, ⟨by (with_reducible repeat (first | refine z16 ?_ _)); exact BK179.out⟩, ⟨by repeat (with_reducible first | exact HB.out | apply z11 | apply z10 | apply z12 | refine z15 ?_ GE179.out)⟩⟩
       ·rw [if_neg c9] at H
        have c9b0 : (((rd_T91 l0_1 x8_1).f1) == a2) = false := beq_eq_false_iff_ne.mpr c9
        have c9b1 : (((rd_T91 l0_1 x8_1).f1) != a2) = true := bne_iff_ne.mpr c9
        have H' := mkA H
        clear H
        have hcz11_0 : wr.cell? ⟨gb179, 0, none⟩ = some (.int .i64 a0_0) := (z13 BK179.out 0).trans rfl
        have hcz11_1 : wr.cell? ⟨gb179, 1, none⟩ = some (.slice A0_1 l0_1.length c0_1) := (z13 BK179.out 1).trans rfl
        have hcz11_2 : wr.cell? ⟨gb179, 2, none⟩ = some (.slice A0_2 l0_2.length c0_2) := (z13 BK179.out 2).trans rfl
        have hfz11_0 := z14 BK179.out 0
        have hfz11_1 := z14 BK179.out 1
        have hfz11_2 := z14 BK179.out 2
        have p180 : 0 ≤ (x8_1 : Int) := of_decide_eq_true (by first | (with_reducible assumption) | assumption)
        have q180 : x8_1 < (l0_1.length : Int) := of_decide_eq_true (by first | (with_reducible assumption) | assumption)
        obtain ⟨ad180, e180, hx180_0, hx180_1, hx180_2, hx180_3⟩ := at_T91 HR0_1.out x8_1 p180 q180
        cases e180
        replace hx180_0 := (HB.out.cell (World.block_lt_of_cell? w _ hx180_0)).trans hx180_0
        replace hx180_1 := (HB.out.cell (World.block_lt_of_cell? w _ hx180_1)).trans hx180_1
        replace hx180_2 := (HB.out.cell (World.block_lt_of_cell? w _ hx180_2)).trans hx180_2
        replace hx180_3 := (HB.out.cell (World.block_lt_of_cell? w _ hx180_3)).trans hx180_3
        replace p180 := eq_true p180
        replace q180 := eq_true q180
        have p181 : 0 ≤ (x8_1 : Int) := of_decide_eq_true (by first | (with_reducible assumption) | assumption)
        have q181 : x8_1 < (l1.length : Int) := of_decide_eq_true (by first | (with_reducible assumption) | assumption)
        obtain ⟨ad181, e181, hx181_0⟩ := Kd.at_int HR1.out x8_1 p181 q181
        cases e181
        replace hx181_0 := (HB.out.cell (World.block_lt_of_cell? w _ hx181_0)).trans hx181_0
        replace p181 := eq_true p181
        replace q181 := eq_true q181
        have p182 : 0 ≤ (x8_1 : Int) := of_decide_eq_true (by first | (with_reducible assumption) | assumption)
        have q182 : x8_1 < (l0_1.length : Int) := of_decide_eq_true (by first | (with_reducible assumption) | assumption)
        obtain ⟨ad182, e182, hx182_0, hx182_1, hx182_2, hx182_3⟩ := at_T91 HR0_1.out x8_1 p182 q182
        obtain rfl : ad180 = ad182 := (by injection e182)
        replace hx182_0 := (HB.out.cell (World.block_lt_of_cell? w _ hx182_0)).trans hx182_0
        replace hx182_1 := (HB.out.cell (World.block_lt_of_cell? w _ hx182_1)).trans hx182_1
        replace hx182_2 := (HB.out.cell (World.block_lt_of_cell? w _ hx182_2)).trans hx182_2
        replace hx182_3 := (HB.out.cell (World.block_lt_of_cell? w _ hx182_3)).trans hx182_3
        replace p182 := eq_true p182
        replace q182 := eq_true q182
        go_wp2
        go_roundg k1
        case measure => have := HK1.out; omega
        case rel => exact ⟨(wrap64 (x7_1 + (rd l1 x8_1))), (wrap64 (x8_1 + 1)), (by first | rfl | (simp; done) | (simp [*]; done)), (by first | rfl | (simp; done) | (simp [*]; done)), H', ⟨by have := HK1.out; omega⟩, ⟨by (with_reducible repeat (first | refine z16 ?_ _)); exact BK179.out⟩, ⟨by repeat (with_reducible first | exact HB.out | apply z11 | apply z10 | apply z12 | refine z15 ?_ GE179.out)⟩⟩
      ·rw [if_neg c8] at H
       exact absurd H (by simp)
     ·rw [if_neg c7] at H
      have c7b0 : (((rd_T91 l0_1 x8_1).f0) == a2) = false := beq_eq_false_iff_ne.mpr c7
      have c7b1 : (((rd_T91 l0_1 x8_1).f0) != a2) = true := bne_iff_ne.mpr c7
      by_cases c12 : ((rd_T91 l0_1 x8_1).f1) = a2
      ·rw [if_pos c12] at H
       have c12b0 : (((rd_T91 l0_1 x8_1).f1) == a2) = true := beq_iff_eq.mpr c12
       have c12b1 : (((rd_T91 l0_1 x8_1).f1) != a2) = false := bne_eq_false_iff_eq.mpr c12
       clear c12
       by_cases c13 : x8_1 < (l1.length : Int)
       ·rw [if_pos c13] at H
        have c13b0 : decide (x8_1 < (l1.length : Int)) = true := decide_eq_true c13
        clear c13
        have H' := mkA H
        clear H
        have hcz14_0 : wr.cell? ⟨gb179, 0, none⟩ = some (.int .i64 a0_0) := (z13 BK179.out 0).trans rfl
        have hcz14_1 : wr.cell? ⟨gb179, 1, none⟩ = some (.slice A0_1 l0_1.length c0_1) := (z13 BK179.out 1).trans rfl
        have hcz14_2 : wr.cell? ⟨gb179, 2, none⟩ = some (.slice A0_2 l0_2.length c0_2) := (z13 BK179.out 2).trans rfl
        have hfz14_0 := z14 BK179.out 0
        have hfz14_1 := z14 BK179.out 1
        have hfz14_2 := z14 BK179.out 2
        have p180 : 0 ≤ (x8_1 : Int) := of_decide_eq_true (by first | (with_reducible assumption) | assumption)
        have q180 : x8_1 < (l0_1.length : Int) := of_decide_eq_true (by first | (with_reducible assumption) | assumption)
        obtain ⟨ad180, e180, hx180_0, hx180_1, hx180_2, hx180_3⟩ := at_T91 HR0_1.out x8_1 p180 q180
        cases e180
        replace hx180_0 := (HB.out.cell (World.block_lt_of_cell? w _ hx180_0)).trans hx180_0
        replace hx180_1 := (HB.out.cell (World.block_lt_of_cell? w _ hx180_1)).trans hx180_1
        replace hx180_2 := (HB.out.cell (World.block_lt_of_cell? w _ hx180_2)).trans hx180_2
        replace hx180_3 := (HB.out.cell (World.block_lt_of_cell? w _ hx180_3)).trans hx180_3
        replace p180 := eq_true p180
        replace q180 := eq_true q180
        have p184 : 0 ≤ (x8_1 : Int) := of_decide_eq_true (by first | (with_reducible assumption) | assumption)
        have q184 : x8_1 < (l0_1.length : Int) := of_decide_eq_true (by first | (with_reducible assumption) | assumption)
        obtain ⟨ad184, e184, hx184_0, hx184_1, hx184_2, hx184_3⟩ := at_T91 HR0_1.out x8_1 p184 q184
        obtain rfl : ad180 = ad184 := (by injection e184)
        replace hx184_0 := (HB.out.cell (World.block_lt_of_cell? w _ hx184_0)).trans hx184_0
        replace hx184_1 := (HB.out.cell (World.block_lt_of_cell? w _ hx184_1)).trans hx184_1
        replace hx184_2 := (HB.out.cell (World.block_lt_of_cell? w _ hx184_2)).trans hx184_2
        replace hx184_3 := (HB.out.cell (World.block_lt_of_cell? w _ hx184_3)).trans hx184_3
        replace p184 := eq_true p184
        replace q184 := eq_true q184
        have p185 : 0 ≤ (x8_1 : Int) := of_decide_eq_true (by first | (with_reducible assumption) | assumption)
        have q185 : x8_1 < (l1.length : Int) := of_decide_eq_true (by first | (with_reducible assumption) | assumption)
        obtain ⟨ad185, e185, hx185_0⟩ := Kd.at_int HR1.out x8_1 p185 q185
        cases e185
        replace hx185_0 := (HB.out.cell (World.block_lt_of_cell? w _ hx185_0)).trans hx185_0
        replace p185 := eq_true p185
        replace q185 := eq_true q185
        go_wp2
        go_roundg k1
        case measure => have := HK1.out; omega
        case rel => exact ⟨(wrap64 (x7_1 - (rd l1 x8_1))), (wrap64 (x8_1 + 1)), (by first | rfl | (simp; done) | (simp [*]; done)), (by first | rfl | (simp; done) | (simp [*]; done)), H', ⟨by have := HK1.out; omega⟩, ⟨by (with_reducible repeat (first | refine z16 ?_ _)); exact BK179.out⟩, ⟨by repeat (with_reducible first | exact HB.out | apply z11 | apply z10 | apply z12 | refine z15 ?_ GE179.out)⟩⟩
       ·rw [if_neg c13] at H
        exact absurd H (by simp)
      ·rw [if_neg c12] at H
       have c12b0 : (((rd_T91 l0_1 x8_1).f1) == a2) = false := beq_eq_false_iff_ne.mpr c12
       have c12b1 : (((rd_T91 l0_1 x8_1).f1) != a2) = true := bne_iff_ne.mpr c12
       have H' := mkA H
       clear H
       have hcz15_0 : wr.cell? ⟨gb179, 0, none⟩ = some (.int .i64 a0_0) := (z13 BK179.out 0).trans rfl
       have hcz15_1 : wr.cell? ⟨gb179, 1, none⟩ = some (.slice A0_1 l0_1.length c0_1) := (z13 BK179.out 1).trans rfl
       have hcz15_2 : wr.cell? ⟨gb179, 2, none⟩ = some (.slice A0_2 l0_2.length c0_2) := (z13 BK179.out 2).trans rfl
       have hfz15_0 := z14 BK179.out 0
       have hfz15_1 := z14 BK179.out 1
       have hfz15_2 := z14 BK179.out 2
       have p180 : 0 ≤ (x8_1 : Int) := of_decide_eq_true (by first | (with_reducible assumption) | assumption)
       have q180 : x8_1 < (l0_1.length : Int) := of_decide_eq_true (by first | (with_reducible assumption) | assumption)
       obtain ⟨ad180, e180, hx180_0, hx180_1, hx180_2, hx180_3⟩ := at_T91 HR0_1.out x8_1 p180 q180
       cases e180
       replace hx180_0 := (HB.out.cell (World.block_lt_of_cell? w _ hx180_0)).trans hx180_0
       replace hx180_1 := (HB.out.cell (World.block_lt_of_cell? w _ hx180_1)).trans hx180_1
       replace hx180_2 := (HB.out.cell (World.block_lt_of_cell? w _ hx180_2)).trans hx180_2
       replace hx180_3 := (HB.out.cell (World.block_lt_of_cell? w _ hx180_3)).trans hx180_3
       replace p180 := eq_true p180
       replace q180 := eq_true q180
       have p184 : 0 ≤ (x8_1 : Int) := of_decide_eq_true (by first | (with_reducible assumption) | assumption)
       have q184 : x8_1 < (l0_1.length : Int) := of_decide_eq_true (by first | (with_reducible assumption) | assumption)
       obtain ⟨ad184, e184, hx184_0, hx184_1, hx184_2, hx184_3⟩ := at_T91 HR0_1.out x8_1 p184 q184
       obtain rfl : ad180 = ad184 := (by injection e184)
       replace hx184_0 := (HB.out.cell (World.block_lt_of_cell? w _ hx184_0)).trans hx184_0
       replace hx184_1 := (HB.out.cell (World.block_lt_of_cell? w _ hx184_1)).trans hx184_1
       replace hx184_2 := (HB.out.cell (World.block_lt_of_cell? w _ hx184_2)).trans hx184_2
       replace hx184_3 := (HB.out.cell (World.block_lt_of_cell? w _ hx184_3)).trans hx184_3
       replace p184 := eq_true p184
       replace q184 := eq_true q184
       go_wp2
       go_roundg k1
       case measure => have := HK1.out; omega
       case rel => exact ⟨(x7_1), (wrap64 (x8_1 + 1)), (by first | rfl | (simp; done) | (simp [*]; done)), (by first | rfl | (simp; done) | (simp [*]; done)), H', ⟨by have := HK1.out; omega⟩, ⟨by (with_reducible repeat (first | refine z16 ?_ _)); exact BK179.out⟩, ⟨by repeat (with_reducible first | exact HB.out | apply z11 | apply z10 | apply z12 | refine z15 ?_ GE179.out)⟩⟩
    ·rw [if_neg c6] at H
     exact absurd H (by simp)
   ·rw [if_neg c5] at H
    have c5b0 : decide (x8_1 < (l0_1.length : Int)) = false := decide_eq_false c5
    clear c5
    obtain rfl := Option.some.inj H
    have hcz16_0 : wr.cell? ⟨gb179, 0, none⟩ = some (.int .i64 a0_0) := (z13 BK179.out 0).trans rfl
    have hcz16_1 : wr.cell? ⟨gb179, 1, none⟩ = some (.slice A0_1 l0_1.length c0_1) := (z13 BK179.out 1).trans rfl
    have hcz16_2 : wr.cell? ⟨gb179, 2, none⟩ = some (.slice A0_2 l0_2.length c0_2) := (z13 BK179.out 2).trans rfl
    have hfz16_0 := z14 BK179.out 0
    have hfz16_1 := z14 BK179.out 1
    have hfz16_2 := z14 BK179.out 2
    go_wp2
    go_ret
    exact ⟨by first | rfl | (simp [z20, z19] <;> rfl) | (simp [*, z20, z19] <;> rfl), by repeat (with_reducible first | exact HB.out | apply z11 | apply z10 | apply z12 | refine z15 ?_ GE179.out)⟩
end Go.Proofs.Ytncaadckehikpaa.Q
