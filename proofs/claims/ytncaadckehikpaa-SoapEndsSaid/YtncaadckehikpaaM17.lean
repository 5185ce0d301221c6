/- A part of the proof: contracts of functions and plain facts (Q9). No condition. -/
import Derived.Test.YtncaadckehikpaaM3
import Derived.Test.YtncaadckehikpaaM13
import Derived.Test.YtncaadckehikpaaM14
namespace Go.Proofs.Ytncaadckehikpaa.Q
open Go.RowKit Go.Proofs.YtncaadckehikpaaW.PrintWords Go.Proofs.YtncaadckehikpaaW.PrintLast Go.Proofs.YtncaadckehikpaaW.PrintMore
attribute [local go_sem] z32 z31 max_two min_two   -- for this text's walks alone
set_option linter.unusedVariables false
set_option linter.unusedSimpArgs false
/-! ### pr_Right: function 87 -/
def pr_Right.l0 : Nat → List Int → Int → Int → Int → List (S91) → List (S94) → Option (Int)
 | 0, _, _, _, _, _, _ => none
 | k + 1, x1, x5, x6, x189000, x189001, x189002 => if x6 < (x189002.length : Int) then (if 0 ≤ x6 then ((pr_Owed.f k x189000 x189001 x189002 x1 ((rd_T94 x189002 x6).f0)).bind fun t191 => ((pr_Is.f t191 ((rd_T94 x189002 x6).f1.f0) ((rd_T94 x189002 x6).f1.f1)).bind fun t192 => (if t192 = true then (if 0 ≤ (IntKind.u64.wrap (x6)) then (pr_Right.l0 k x1 (Go.bits .or .i64 x5 (shl .i64 1 (IntKind.u64.wrap (x6)))) (wrap64 (x6 + 1)) x189000 x189001 x189002) else (none)) else (pr_Right.l0 k x1 x5 (wrap64 (x6 + 1)) x189000 x189001 x189002)))) else (none)) else (some x5)
def pr_Right.f (k : Nat) (a0_0 : Int) (l0_1 : List (S91)) (l0_2 : List (S94)) (l1 : List Int) : Option (Int) := pr_Right.l0 k l1 0 0 a0_0 l0_1 l0_2
def pr_Right.T6 : Bool × List (List Nat × List Nat) := (true, [([], []), ([], []), ([], []), ([2], [2]), ([0, 1, 3], [0, 1, 3]), ([], []), ([5], [5]), ([4, 6, 4], [4, 6])])
def pr_Right.B6 : List Nat := [0, 0, 0, 4, 15, 0, 32, 127]
theorem pr_Right.tab6 : rtab .any (opsOf Try.f87 6) = pr_Right.T6 := by kernel_rfl
theorem pr_Right.bits6 : waitsOk pr_Right.T6.2 pr_Right.B6 = true := by kernel_rfl
set_option maxHeartbeats 8000000 in
set_option maxRecDepth 100000 in
theorem pr_Right.calls (k : Nat) (a0_0 : Int) (A0_1 : Option Addr) (c0_1 : Nat) (l0_1 : List (S91)) (A0_2 : Option Addr) (c0_2 : Nat) (l0_2 : List (S94)) (A1 : Option Addr) (c1 : Nat) (l1 : List Int) (r : Int) (w : World) (hr0_1 : Kd.C k91 w A0_1 l0_1.length l0_1) (hc0_1 : l0_1.length ≤ c0_1) (hr0_2 : Kd.C k94 w A0_2 l0_2.length l0_2) (hc0_2 : l0_2.length ≤ c0_2) (hr1 : Kd.C (Kd.int .i64) w A1 l1.length l1) (hc1 : l1.length ≤ c1) (h : pr_Right.f k a0_0 l0_1 l0_2 l1 = some r) :
  Calls Try.prog 87 #[.agg #[.int .i64 a0_0, .slice A0_1 l0_1.length c0_1, .slice A0_2 l0_2.length c0_2], .slice A1 l1.length c1] w fun e w' => e = .returned (.int .i64 r) ∧ Below w.heap.size w w' := by
 have hu25 := Try.underlying25
 have hu94 := Try.underlying94
 have hu46 := Try.underlying46
 have HR0_1 := mkA hr0_1
 have HC0_1 := mkA hc0_1
 clear hr0_1 hc0_1
 have HR0_2 := mkA hr0_2
 have HC0_2 := mkA hc0_2
 clear hr0_2 hc0_2
 have HR1 := mkA hr1
 have HC1 := mkA hc1
 clear hr1 hc1
 have HB := mkA (Below.refl w.heap.size w)
 have H : (pr_Right.l0 k l1 0 0 a0_0 l0_1 l0_2) = some r := h
 clear h
 have H' := mkA H
 clear H
 go_enter Try.func87, Try.ntmps87
 go_wp2_with ((with_reducible refine z24 (N := 2) rfl ?_); refine z22 ?hg (N := 2) ?hd (cs := #[.int .i64 a0_0, .slice A0_1 l0_1.length c0_1, .slice A0_2 l0_2.length c0_2]) (t := 25) ?hr ?_; (case hd => rfl); (case hg => rfl); (case hr => first | (go_simp; done) | (go_simp; rfl)); intro gb188 hg w3 hbox hb; have n0_ := mkA (z17 (by repeat (with_reducible first | exact HB.out | apply z11 | apply z10 | apply z12)) hb); have n1_ := mkA (hbox); have n2_ := mkA ((by rw [hg]; exact (z18 (by repeat (with_reducible first | exact HB.out | apply z11 | apply z10 | apply z12))) : w.heap.size ≤ gb188)); have n3_ := mkA ((by rw [hg]; exact (z18 (by repeat (with_reducible first | exact HB.out | apply z11 | apply z10 | apply z12))) : w.heap.size ≤ gb188)); clear HB; have HB := n0_; have BK188 := n1_; have GW188 := n2_; have GE188 := n3_; clear n0_ n1_ n2_ n3_; clear hb hbox hg)
 go_loopg [5, 6] k (fun kq v5 v6 w' => ∃ (x5_1 : Int) (x6_1 : Int), v5 = .int .i64 x5_1 ∧ v6 = .int .i64 x6_1 ∧ Aside0 (pr_Right.l0 kq l1 x5_1 x6_1 a0_0 l0_1 l0_2 = some r) ∧ Aside0 (kq ≤ k) ∧ Aside0 (w'.heap[gb188]? = some (.cells #[.int .i64 a0_0, (.slice A0_1 l0_1.length c0_1), (.slice A0_2 l0_2.length c0_2)] 25 (0, 0))) ∧ Aside0 (Below w.heap.size w w'))
 case atStart => exact ⟨(0), (0), (by first | rfl | (simp; done) | (simp [*]; done)), (by first | rfl | (simp; done) | (simp [*]; done)), H', ⟨Nat.le_refl _⟩, ⟨by (with_reducible repeat (first | refine z16 ?_ _)); exact BK188.out⟩, ⟨by repeat (with_reducible first | exact HB.out | apply z11 | apply z10 | apply z12 | refine z15 ?_ GE188.out)⟩⟩
 case round =>
  clear H'
  try clear c1
  try clear p2
  obtain ⟨x5_1, x6_1, rfl, rfl, HA, HK1, BK188, HB⟩ := hrel
  cases gk with
  | zero => exact absurd HA.out (by simp [pr_Right.l0])
  | succ k1 =>
   have H := HA.out
   clear HA
   simp only [pr_Right.l0] at H
   by_cases c4 : x6_1 < (l0_2.length : Int)
   ·rw [if_pos c4] at H
    have c4b0 : decide (x6_1 < (l0_2.length : Int)) = true := decide_eq_true c4
    clear c4
    by_cases c5 : 0 ≤ x6_1
    ·rw [if_pos c5] at H
     have c5b0 : decide (0 ≤ x6_1) = true := decide_eq_true c5
     clear c5
     replace H := Option.bind_eq_some_iff.mp H
     obtain ⟨t191, A60, H⟩ := H
     replace H : ((pr_Is.f t191 ((rd_T94 l0_2 x6_1).f1.f0) ((rd_T94 l0_2 x6_1).f1.f1)).bind fun t192 => (if t192 = true then (if 0 ≤ (IntKind.u64.wrap (x6_1)) then (pr_Right.l0 k1 l1 (Go.bits .or .i64 x5_1 (shl .i64 1 (IntKind.u64.wrap (x6_1)))) (wrap64 (x6_1 + 1)) a0_0 l0_1 l0_2) else (none)) else (pr_Right.l0 k1 l1 x5_1 (wrap64 (x6_1 + 1)) a0_0 l0_1 l0_2))) = some r := H
     have A6 := mkA A60
     clear A60
     replace H := Option.bind_eq_some_iff.mp H
     obtain ⟨t192, A70, H⟩ := H
     replace H : (if t192 = true then (if 0 ≤ (IntKind.u64.wrap (x6_1)) then (pr_Right.l0 k1 l1 (Go.bits .or .i64 x5_1 (shl .i64 1 (IntKind.u64.wrap (x6_1)))) (wrap64 (x6_1 + 1)) a0_0 l0_1 l0_2) else (none)) else (pr_Right.l0 k1 l1 x5_1 (wrap64 (x6_1 + 1)) a0_0 l0_1 l0_2)) = some r := H
     have A7 := mkA A70
     clear A70
     by_cases c8 : t192 = true
     ·subst c8
      have H1 : (if 0 ≤ (IntKind.u64.wrap (x6_1)) then (pr_Right.l0 k1 l1 (Go.bits .or .i64 x5_1 (shl .i64 1 (IntKind.u64.wrap (x6_1)))) (wrap64 (x6_1 + 1)) a0_0 l0_1 l0_2) else (none)) = some r := by rw [if_pos rfl] at H; exact H
      clear H
      have H := H1
      clear H1
      obtain ⟨ji9, hji9⟩ : ∃ j_ : Int, (IntKind.u64.wrap (x6_1)) = j_ := ⟨_, rfl⟩
      replace H : (if 0 ≤ (ji9) then (pr_Right.l0 k1 l1 (Go.bits .or .i64 x5_1 (shl .i64 1 (ji9))) (wrap64 (x6_1 + 1)) a0_0 l0_1 l0_2) else (none)) = some r := by first | (rw [hji9] at H; exact H) | (simp only [hji9] at H ⊢; exact H)
      (try rw [hji9] at A6)
      (try rw [hji9] at A7)
      by_cases c10 : 0 ≤ (ji9)
      ·rw [if_pos c10] at H
       have c10b0 := eq_true c10
       have c10b1 : decide (0 ≤ (ji9)) = true := decide_eq_true c10
       clear c10
       obtain ⟨ji11, hji11⟩ : ∃ j_ : Int, (shl .i64 1 (ji9)) = j_ := ⟨_, rfl⟩
       replace H : (pr_Right.l0 k1 l1 (Go.bits .or .i64 x5_1 (ji11)) (wrap64 (x6_1 + 1)) a0_0 l0_1 l0_2) = some r := by first | (rw [hji11] at H; exact H) | (simp only [hji11] at H ⊢; exact H)
       (try rw [hji11] at A6)
       (try rw [hji11] at A7)
       have hji11_ : (IntKind.i64.wrap (1 * 2 ^ min (ji9).toNat 64)) = ji11 := hji11
       have hji11z : (ji9) ≤ 64 → (IntKind.i64.wrap (1 * 2 ^ (ji9).toNat)) = ji11 := shl_small hji11
       have hji11u : (IntKind.i64.wrap (2 ^ min (ji9).toNat 64)) = ji11 := by have h_ := hji11_; rw [Int.one_mul] at h_; exact h_
       have hji11v : (ji9) ≤ 64 → (IntKind.i64.wrap (2 ^ (ji9).toNat)) = ji11 := fun hle_ => by have h_ := hji11z hle_; rw [Int.one_mul] at h_; exact h_
       have hji11y : (wrap64 (1 * 2 ^ min (ji9).toNat 64)) = ji11 := (i64_w _).symm.trans hji11_
       have hji11x : (ji9) ≤ 64 → (wrap64 (1 * 2 ^ (ji9).toNat)) = ji11 := fun h_ => (i64_w _).symm.trans (hji11z h_)
       have H' := mkA H
       clear H
       have hcz12_0 : wr.cell? ⟨gb188, 0, none⟩ = some (.int .i64 a0_0) := (z13 BK188.out 0).trans rfl
       have hcz12_1 : wr.cell? ⟨gb188, 1, none⟩ = some (.slice A0_1 l0_1.length c0_1) := (z13 BK188.out 1).trans rfl
       have hcz12_2 : wr.cell? ⟨gb188, 2, none⟩ = some (.slice A0_2 l0_2.length c0_2) := (z13 BK188.out 2).trans rfl
       have hfz12_0 := z14 BK188.out 0
       have hfz12_1 := z14 BK188.out 1
       have hfz12_2 := z14 BK188.out 2
       have p189 : 0 ≤ (x6_1 : Int) := of_decide_eq_true (by first | (with_reducible assumption) | assumption)
       have q189 : x6_1 < (l0_2.length : Int) := of_decide_eq_true (by first | (with_reducible assumption) | assumption)
       obtain ⟨ad189, e189, hx189_0, hx189_1, hx189_2⟩ := at_T94 HR0_2.out x6_1 p189 q189
       cases e189
       replace hx189_0 := (HB.out.cell (World.block_lt_of_cell? w _ hx189_0)).trans hx189_0
       replace hx189_1 := (HB.out.cell (World.block_lt_of_cell? w _ hx189_1)).trans hx189_1
       replace hx189_2 := (HB.out.cell (World.block_lt_of_cell? w _ hx189_2)).trans hx189_2
       replace p189 := eq_true p189
       replace q189 := eq_true q189
       try go_wp2_with ((with_reducible refine z24 (N := 7) rfl ?_); refine z22 ?hg (N := 7) ?hd (cs := #[.int .i64 0, .int .i64 0, .int .i64 0]) (t := 94) ?hr ?_; (case hd => rfl); (case hg => rfl); (case hr => first | (go_simp; done) | (go_simp; rfl)); intro gb190 hg w13 hbox hb; have n0_ := mkA (blk_below (g := gb188) (o := .cells #[.int .i64 a0_0, .slice A0_1 l0_1.length c0_1, .slice (some ad189) l0_2.length c0_2] 25 (0, 0)) (by (with_reducible repeat (first | refine z16 ?_ _)); exact BK188.out) hb); have n1_ := mkA (z17 (by repeat (with_reducible first | exact HB.out | apply z11 | apply z10 | apply z12 | refine z15 ?_ GE188.out)) hb); have n2_ := mkA (hbox); have n3_ := mkA ((by rw [hg]; exact (z18 (by repeat (with_reducible first | exact HB.out | apply z11 | apply z10 | apply z12 | refine z15 ?_ GE188.out))) : w.heap.size ≤ gb190)); have n4_ := mkA ((by rw [hg]; exact (z18 (by repeat (with_reducible first | exact HB.out | apply z11 | apply z10 | apply z12 | refine z15 ?_ GE188.out))) : w.heap.size ≤ gb190)); have n5_ := mkA ((by rw [hg]; exact Nat.ne_of_lt (blk_lt (g := gb188) (o := .cells #[.int .i64 a0_0, .slice A0_1 l0_1.length c0_1, .slice (some ad189) l0_2.length c0_2] 25 (0, 0)) (by (with_reducible repeat (first | refine z16 ?_ _)); exact BK188.out)) : gb188 ≠ gb190)); have n6_ := mkA ((by rw [hg]; exact Nat.ne_of_gt (blk_lt (g := gb188) (o := .cells #[.int .i64 a0_0, .slice A0_1 l0_1.length c0_1, .slice (some ad189) l0_2.length c0_2] 25 (0, 0)) (by (with_reducible repeat (first | refine z16 ?_ _)); exact BK188.out)) : gb190 ≠ gb188)); clear BK188; clear HB; have BK188 := n0_; have HB := n1_; have BK190 := n2_; have GW190 := n3_; have GE190 := n4_; have NB188_190 := n5_; have NB190_188 := n6_; clear n0_ n1_ n2_ n3_ n4_ n5_ n6_; clear hb hbox hg; have hnb14 := NB190_188.out; have hnc14 := NB188_190.out; have hcz15_0 : w13.cell? ⟨gb190, 0, none⟩ = some (.int .i64 0) := (z13 BK190.out 0).trans rfl; have hcz15_1 : w13.cell? ⟨gb190, 1, none⟩ = some (.int .i64 0) := (z13 BK190.out 1).trans rfl; have hcz15_2 : w13.cell? ⟨gb190, 2, none⟩ = some (.int .i64 0) := (z13 BK190.out 2).trans rfl; have hfz15_0 := z14 BK190.out 0; have hfz15_1 := z14 BK190.out 1; have hfz15_2 := z14 BK190.out 2)
       have n0_ : Aside0 ((((w13.setCell ⟨gb190, 0, none⟩ (.int .i64 ((rd_T94 l0_2 x6_1).f0))).setCell ⟨gb190, 1, none⟩ (.int .i64 ((rd_T94 l0_2 x6_1).f1.f0))).setCell ⟨gb190, 2, none⟩ (.int .i64 ((rd_T94 l0_2 x6_1).f1.f1))).heap[gb188]? = some (.cells #[.int .i64 a0_0, .slice A0_1 l0_1.length c0_1, .slice (some ad189) l0_2.length c0_2] 25 (0, 0))) := ⟨by (with_reducible repeat (first | refine z16 ?_ _)); refine blk_far ?_ NB188_190.out _; (with_reducible repeat (first | refine z16 ?_ _)); refine blk_far ?_ NB188_190.out _; (with_reducible repeat (first | refine z16 ?_ _)); refine blk_far ?_ NB188_190.out _; (with_reducible repeat (first | refine z16 ?_ _)); exact BK188.out⟩
       have n1_ : Aside0 ((((w13.setCell ⟨gb190, 0, none⟩ (.int .i64 ((rd_T94 l0_2 x6_1).f0))).setCell ⟨gb190, 1, none⟩ (.int .i64 ((rd_T94 l0_2 x6_1).f1.f0))).setCell ⟨gb190, 2, none⟩ (.int .i64 ((rd_T94 l0_2 x6_1).f1.f1))).heap[gb190]? = some (.cells #[.int .i64 ((rd_T94 l0_2 x6_1).f0), .int .i64 ((rd_T94 l0_2 x6_1).f1.f0), .int .i64 ((rd_T94 l0_2 x6_1).f1.f1)] 94 (0, 0))) := ⟨by (with_reducible repeat (first | refine z16 ?_ _)); refine blk_put (cs := #[.int .i64 ((rd_T94 l0_2 x6_1).f0), .int .i64 ((rd_T94 l0_2 x6_1).f1.f0), .int .i64 0]) ?_ 2 _ rfl; (with_reducible repeat (first | refine z16 ?_ _)); refine blk_put (cs := #[.int .i64 ((rd_T94 l0_2 x6_1).f0), .int .i64 0, .int .i64 0]) ?_ 1 _ rfl; (with_reducible repeat (first | refine z16 ?_ _)); refine blk_put (cs := #[.int .i64 0, .int .i64 0, .int .i64 0]) ?_ 0 _ rfl; (with_reducible repeat (first | refine z16 ?_ _)); exact BK190.out⟩
       have n2_ : Aside0 (Below w.heap.size w (((w13.setCell ⟨gb190, 0, none⟩ (.int .i64 ((rd_T94 l0_2 x6_1).f0))).setCell ⟨gb190, 1, none⟩ (.int .i64 ((rd_T94 l0_2 x6_1).f1.f0))).setCell ⟨gb190, 2, none⟩ (.int .i64 ((rd_T94 l0_2 x6_1).f1.f1)))) := ⟨by repeat (with_reducible first | exact HB.out | apply z11 | apply z10 | apply z12 | refine z15 ?_ GE188.out | refine z15 ?_ GE190.out)⟩
       (try clear BK188)
       (try clear BK190)
       (try clear HB)
       generalize (((w13.setCell ⟨gb190, 0, none⟩ (.int .i64 ((rd_T94 l0_2 x6_1).f0))).setCell ⟨gb190, 1, none⟩ (.int .i64 ((rd_T94 l0_2 x6_1).f1.f0))).setCell ⟨gb190, 2, none⟩ (.int .i64 ((rd_T94 l0_2 x6_1).f1.f1))) = w16 at n0_ n1_ n2_ ⊢
       have BK188 := n0_
       have BK190 := n1_
       have HB := n2_
       clear n0_ n1_ n2_
       have n0_ := mkA (z28 BK188.out)
       have n1_ := mkA (z28 BK190.out)
       have n2_ := mkA (z12 HB.out)
       clear BK188
       clear BK190
       clear HB
       have BK188 := n0_
       have BK190 := n1_
       have HB := n2_
       clear n0_ n1_ n2_
       refine start_ (n := 8) (S := fun w' => w'.cell? ⟨gb188, 0, none⟩ = some (.int .i64 a0_0) ∧ w'.cell? ⟨gb188, 1, none⟩ = some (.slice A0_1 l0_1.length c0_1) ∧ w'.cell? ⟨gb188, 2, none⟩ = some (.slice (some ad189) l0_2.length c0_2) ∧ w'.cell? ⟨gb190, 0, none⟩ = some (.int .i64 ((rd_T94 l0_2 x6_1).f0)) ∧ w'.cell? ⟨gb190, 1, none⟩ = some (.int .i64 ((rd_T94 l0_2 x6_1).f1.f0)) ∧ w'.cell? ⟨gb190, 2, none⟩ = some (.int .i64 ((rd_T94 l0_2 x6_1).f1.f1))) (ds := []) #[false, false, false, false, false, false, false, false] (by kernel_rfl) rfl rfl ⟨(z13 BK188.out 0).trans rfl, (z13 BK188.out 1).trans rfl, (z13 BK188.out 2).trans rfl, (z13 BK190.out 0).trans rfl, (z13 BK190.out 1).trans rfl, (z13 BK190.out 2).trans rfl⟩ (fun hHeld => ?_); refine z51 pr_Right.tab6 pr_Right.bits6 (fun HT_ HW_ => ?_)
       generalize w16.drew = w17 at BK188 BK190 HB hHeld ⊢
       refine pure_ (i := 1) (N := some 21) (v := ?_) (a' := ?_) #[false, true, false, false, false, false, false, false] rfl rfl (any_of HT_.out (by kernel_rfl)) (fun _ _ _ h => h) (Or.inl ⟨by rfl, ?_⟩) ?_ ?_
       rotate_left
       ·intro w'
        go_simp
        with_reducible rfl
       rotate_left
       ·simp only [Act.put, xq1, xq2, xq3, i64_w, i32_w]
        rfl
       refine pure_ (i := 2) (N := some 22) (v := ?_) (a' := ?_) #[false, true, true, false, false, false, false, false] rfl rfl (any_of HT_.out (by kernel_rfl)) (fun _ _ _ h => h) (Or.inl ⟨by rfl, ?_⟩) ?_ ?_
       rotate_left
       ·intro w'
        go_simp
        with_reducible rfl
       rotate_left
       ·simp only [Act.put, xq1, xq2, xq3, i64_w, i32_w]
        rfl
       refine pure_ (i := 5) (N := some 25) (v := ?_) (a' := ?_) #[false, true, true, false, false, true, false, false] rfl rfl (any_of HT_.out (by kernel_rfl)) (fun _ _ _ h => h) (Or.inl ⟨by rfl, ?_⟩) ?_ ?_
       rotate_left
       ·intro w'
        go_simp
        with_reducible rfl
       rotate_left
       ·simp only [Act.put, xq1, xq2, xq3, i64_w, i32_w]
        rfl
       refine take_ (i := 0) (N := some 20) (v := ?_) (a' := ?_) #[true, true, true, false, false, true, false, false] rfl rfl (z33 HT_.out HW_.out (by kernel_rfl)) (fun _ _ _ h => h) (Or.inl ⟨by rfl, ?_⟩) hHeld ?_ ?_
       rotate_left
       ·rintro w' ⟨s0, s1, s2, s3, s4, s5⟩
        go_simp
        with_reducible rfl
       rotate_left
       ·simp only [Act.put, xq1, xq2, xq3, i64_w, i32_w]
        rfl
       refine take_ (i := 3) (N := some 23) (v := ?_) (a' := ?_) #[true, true, true, true, false, true, false, false] rfl rfl (z33 HT_.out HW_.out (by kernel_rfl)) (fun _ _ _ h => h) (Or.inl ⟨by rfl, ?_⟩) hHeld ?_ ?_
       rotate_left
       ·rintro w' ⟨s0, s1, s2, s3, s4, s5⟩
        go_simp
        with_reducible rfl
       rotate_left
       ·simp only [Act.put, xq1, xq2, xq3, i64_w, i32_w]
        rfl
       refine take_ (i := 6) (N := some 26) (v := ?_) (a' := ?_) #[true, true, true, true, false, true, true, false] rfl rfl (z33 HT_.out HW_.out (by kernel_rfl)) (fun _ _ _ h => h) (Or.inl ⟨by rfl, ?_⟩) hHeld ?_ ?_
       rotate_left
       ·rintro w' ⟨s0, s1, s2, s3, s4, s5⟩
        go_simp
        with_reducible rfl
       rotate_left
       ·simp only [Act.put, xq1, xq2, xq3, i64_w, i32_w]
        rfl
       refine one_ (i := 4) (N := some 24) #[true, true, true, true, true, true, true, false] rfl rfl (one_of HT_.out (by kernel_rfl)) (by decide) (fun K hK => ?_)
       refine goes_ Try.func54 (by kernel_rfl) rfl #[.agg #[.int .i64 a0_0, .slice A0_1 l0_1.length c0_1, .slice (some ad189) l0_2.length c0_2], .slice A1 l1.length c1, .int .i64 ((rd_T94 l0_2 x6_1).f0)] (by rfl) rfl rfl (by (try simp only [List.map_toArray, List.map_cons, List.map_nil]); first | done | rfl | (simp only [List.length_drop, List.length_take]; rfl)) ?_
       with_reducible refine (pr_Owed.calls k1 a0_0 _ _ l0_1 _ _ l0_2 _ _ l1 ((rd_T94 l0_2 x6_1).f0) t191 _ ?side1 ?side2 ?side3 ?side4 ?side5 ?side6 A6.out).mono ?_
       (case side1 => repeat (first | exact (Kd.C_below HR0_1.out HB.out)))
       (case side2 => exact HC0_1.out)
       (case side3 => repeat (first | exact (Kd.C_below HR0_2.out HB.out)))
       (case side4 => exact HC0_2.out)
       (case side5 => repeat (first | exact (Kd.C_below HR1.out HB.out)))
       (case side6 => exact HC1.out)
       rintro e w18 ⟨rfl, hb⟩
       refine ⟨_, rfl, ?_⟩
       have n0_ := mkA (blk_below (g := gb188) (o := .cells #[.int .i64 a0_0, .slice A0_1 l0_1.length c0_1, .slice (some ad189) l0_2.length c0_2] 25 (0, 0)) (by (with_reducible repeat (first | refine z16 ?_ _)); exact BK188.out) hb)
       have n1_ := mkA (blk_below (g := gb190) (o := .cells #[.int .i64 ((rd_T94 l0_2 x6_1).f0), .int .i64 ((rd_T94 l0_2 x6_1).f1.f0), .int .i64 ((rd_T94 l0_2 x6_1).f1.f1)] 94 (0, 0)) (by (with_reducible repeat (first | refine z16 ?_ _)); exact BK190.out) hb)
       have n2_ := mkA (z17 (by repeat (with_reducible first | exact HB.out | apply z11 | apply z10 | apply z12 | refine z15 ?_ GE188.out | refine z15 ?_ GE190.out)) hb)
       clear BK188
       clear BK190
       clear HB
       have BK188 := n0_
       have BK190 := n1_
       have HB := n2_
       clear n0_ n1_ n2_
       (try clear hb)
       (try clear hb2)
       (try clear hk)
       (try clear hi)
       refine hK.out _ _ ⟨(z13 BK188.out 0).trans rfl, (z13 BK188.out 1).trans rfl, (z13 BK188.out 2).trans rfl, (z13 BK190.out 0).trans rfl, (z13 BK190.out 1).trans rfl, (z13 BK190.out 2).trans rfl⟩ (fun hHeld => ?_)
       clear hK K
       refine norm_ (a' := ?_) ?_ ?_
       rotate_left
       ·show Act.put _ (some 24) _ = _
        simp only [Act.put, xq1, xq2, xq3, i64_w, i32_w]
        rfl
       refine one_ (i := 7) (N := some 27) #[true, true, true, true, true, true, true, true] rfl rfl (one_of HT_.out (by kernel_rfl)) (by decide) (fun K hK => ?_)
       refine goes_ Try.func81 (by kernel_rfl) rfl #[.int .i64 t191, .agg #[.int .i64 ((rd_T94 l0_2 x6_1).f1.f0), .int .i64 ((rd_T94 l0_2 x6_1).f1.f1)]] (by rfl) rfl rfl (by (try simp only [List.map_toArray, List.map_cons, List.map_nil]); first | done | rfl | (simp only [List.length_drop, List.length_take]; rfl)) ?_
       with_reducible refine (pr_Is.calls t191 ((rd_T94 l0_2 x6_1).f1.f0) ((rd_T94 l0_2 x6_1).f1.f1) true _ A7.out).mono ?_
       rintro e w19 ⟨rfl, hb⟩
       refine ⟨_, rfl, ?_⟩
       have n0_ := mkA (blk_below (g := gb188) (o := .cells #[.int .i64 a0_0, .slice A0_1 l0_1.length c0_1, .slice (some ad189) l0_2.length c0_2] 25 (0, 0)) (by (with_reducible repeat (first | refine z16 ?_ _)); exact BK188.out) hb)
       have n1_ := mkA (blk_below (g := gb190) (o := .cells #[.int .i64 ((rd_T94 l0_2 x6_1).f0), .int .i64 ((rd_T94 l0_2 x6_1).f1.f0), .int .i64 ((rd_T94 l0_2 x6_1).f1.f1)] 94 (0, 0)) (by (with_reducible repeat (first | refine z16 ?_ _)); exact BK190.out) hb)
       have n2_ := mkA (z17 (by repeat (with_reducible first | exact HB.out | apply z11 | apply z10 | apply z12 | refine z15 ?_ GE188.out | refine z15 ?_ GE190.out)) hb)
       clear BK188
       clear BK190
       clear HB
       have BK188 := n0_
       have BK190 := n1_
       have HB := n2_
       clear n0_ n1_ n2_
       (try clear hb)
       (try clear hb2)
       (try clear hk)
       (try clear hi)
       refine hK.out _ _ ⟨(z13 BK188.out 0).trans rfl, (z13 BK188.out 1).trans rfl, (z13 BK188.out 2).trans rfl, (z13 BK190.out 0).trans rfl, (z13 BK190.out 1).trans rfl, (z13 BK190.out 2).trans rfl⟩ (fun hHeld => ?_)
       clear hK K
       refine norm_ (a' := ?_) ?_ ?_
       rotate_left
       ·show Act.put _ (some 27) _ = _
        simp only [Act.put, xq1, xq2, xq3, i64_w, i32_w]
        rfl
       refine done_ (done_of HT_.out (by kernel_rfl)) ?_
       try go_wp2
       go_roundg k1
       case measure => have := HK1.out; omega
       case rel => exact ⟨(Go.bits .or .i64 x5_1 (ji11)), (wrap64 (x6_1 + 1)), (by first | rfl | (simp; done) | (simp only [← hji11] <;> (first | rfl)) | (simp [*]; done)), (by first | rfl | (simp; done) | (simp [*]; done)), H', ⟨by have := HK1.out; omega⟩, ⟨by (with_reducible repeat (first | refine z16 ?_ _)); exact BK188.out⟩, ⟨by repeat (with_reducible first | exact HB.out | apply z11 | apply z10 | apply z12 | refine z15 ?_ GE188.out | refine z15 ?_ GE190.out)⟩⟩
      ·rw [if_neg c10] at H
       exact absurd H (by simp)
     ·replace c8 := Bool.eq_false_iff.mpr c8
      subst c8
      have H1 : (pr_Right.l0 k1 l1 x5_1 (wrap64 (x6_1 + 1)) a0_0 l0_1 l0_2) = some r := by rw [if_neg (show ¬ (false = true) by decide)] at H; exact H
      clear H
      have H := H1
      clear H1
      have H' := mkA H
      clear H
      have hcz20_0 : wr.cell? ⟨gb188, 0, none⟩ = some (.int .i64 a0_0) := (z13 BK188.out 0).trans rfl
      have hcz20_1 : wr.cell? ⟨gb188, 1, none⟩ = some (.slice A0_1 l0_1.length c0_1) := (z13 BK188.out 1).trans rfl
      have hcz20_2 : wr.cell? ⟨gb188, 2, none⟩ = some (.slice A0_2 l0_2.length c0_2) := (z13 BK188.out 2).trans rfl
      have hfz20_0 := z14 BK188.out 0
      have hfz20_1 := z14 BK188.out 1
      have hfz20_2 := z14 BK188.out 2
      have p189 : 0 ≤ (x6_1 : Int) := of_decide_eq_true (by first | (with_reducible assumption) | assumption)
      have q189 : x6_1 < (l0_2.length : Int) := of_decide_eq_true (by first | (with_reducible assumption) | assumption)
      obtain ⟨ad189, e189, hx189_0, hx189_1, hx189_2⟩ := at_T94 HR0_2.out x6_1 p189 q189
      cases e189
      replace hx189_0 := (HB.out.cell (World.block_lt_of_cell? w _ hx189_0)).trans hx189_0
      replace hx189_1 := (HB.out.cell (World.block_lt_of_cell? w _ hx189_1)).trans hx189_1
      replace hx189_2 := (HB.out.cell (World.block_lt_of_cell? w _ hx189_2)).trans hx189_2
      replace p189 := eq_true p189
      replace q189 := eq_true q189
      try go_wp2_with ((with_reducible refine z24 (N := 7) rfl ?_); refine z22 ?hg (N := 7) ?hd (cs := #[.int .i64 0, .int .i64 0, .int .i64 0]) (t := 94) ?hr ?_; (case hd => rfl); (case hg => rfl); (case hr => first | (go_simp; done) | (go_simp; rfl)); intro gb190 hg w21 hbox hb; have n0_ := mkA (blk_below (g := gb188) (o := .cells #[.int .i64 a0_0, .slice A0_1 l0_1.length c0_1, .slice (some ad189) l0_2.length c0_2] 25 (0, 0)) (by (with_reducible repeat (first | refine z16 ?_ _)); exact BK188.out) hb); have n1_ := mkA (z17 (by repeat (with_reducible first | exact HB.out | apply z11 | apply z10 | apply z12 | refine z15 ?_ GE188.out)) hb); have n2_ := mkA (hbox); have n3_ := mkA ((by rw [hg]; exact (z18 (by repeat (with_reducible first | exact HB.out | apply z11 | apply z10 | apply z12 | refine z15 ?_ GE188.out))) : w.heap.size ≤ gb190)); have n4_ := mkA ((by rw [hg]; exact (z18 (by repeat (with_reducible first | exact HB.out | apply z11 | apply z10 | apply z12 | refine z15 ?_ GE188.out))) : w.heap.size ≤ gb190)); have n5_ := mkA ((by rw [hg]; exact Nat.ne_of_lt (blk_lt (g := gb188) (o := .cells #[.int .i64 a0_0, .slice A0_1 l0_1.length c0_1, .slice (some ad189) l0_2.length c0_2] 25 (0, 0)) (by (with_reducible repeat (first | refine z16 ?_ _)); exact BK188.out)) : gb188 ≠ gb190)); have n6_ := mkA ((by rw [hg]; exact Nat.ne_of_gt (blk_lt (g := gb188) (o := .cells #[.int .i64 a0_0, .slice A0_1 l0_1.length c0_1, .slice (some ad189) l0_2.length c0_2] 25 (0, 0)) (by (with_reducible repeat (first | refine z16 ?_ _)); exact BK188.out)) : gb190 ≠ gb188)); clear BK188; clear HB; have BK188 := n0_; have HB := n1_; have BK190 := n2_; have GW190 := n3_; have GE190 := n4_; have NB188_190 := n5_; have NB190_188 := n6_; clear n0_ n1_ n2_ n3_ n4_ n5_ n6_; clear hb hbox hg; have hnb22 := NB190_188.out; have hnc22 := NB188_190.out; have hcz23_0 : w21.cell? ⟨gb190, 0, none⟩ = some (.int .i64 0) := (z13 BK190.out 0).trans rfl; have hcz23_1 : w21.cell? ⟨gb190, 1, none⟩ = some (.int .i64 0) := (z13 BK190.out 1).trans rfl; have hcz23_2 : w21.cell? ⟨gb190, 2, none⟩ = some (.int .i64 0) := (z13 BK190.out 2).trans rfl; have hfz23_0 := z14 BK190.out 0; have hfz23_1 := z14 BK190.out 1; have hfz23_2 := z14 BK190.out 2)
      have n0_ : Aside0 ((((w21.setCell ⟨gb190, 0, none⟩ (.int .i64 ((rd_T94 l0_2 x6_1).f0))).setCell ⟨gb190, 1, none⟩ (.int .i64 ((rd_T94 l0_2 x6_1).f1.f0))).setCell ⟨gb190, 2, none⟩ (.int .i64 ((rd_T94 l0_2 x6_1).f1.f1))).heap[gb188]? = some (.cells #[.int .i64 a0_0, .slice A0_1 l0_1.length c0_1, .slice (some ad189) l0_2.length c0_2] 25 (0, 0))) := ⟨by (with_reducible repeat (first | refine z16 ?_ _)); refine blk_far ?_ NB188_190.out _; (with_reducible repeat (first | refine z16 ?_ _)); refine blk_far ?_ NB188_190.out _; (with_reducible repeat (first | refine z16 ?_ _)); refine blk_far ?_ NB188_190.out _; (with_reducible repeat (first | refine z16 ?_ _)); exact BK188.out⟩
      have n1_ : Aside0 ((((w21.setCell ⟨gb190, 0, none⟩ (.int .i64 ((rd_T94 l0_2 x6_1).f0))).setCell ⟨gb190, 1, none⟩ (.int .i64 ((rd_T94 l0_2 x6_1).f1.f0))).setCell ⟨gb190, 2, none⟩ (.int .i64 ((rd_T94 l0_2 x6_1).f1.f1))).heap[gb190]? = some (.cells #[.int .i64 ((rd_T94 l0_2 x6_1).f0), .int .i64 ((rd_T94 l0_2 x6_1).f1.f0), .int .i64 ((rd_T94 l0_2 x6_1).f1.f1)] 94 (0, 0))) := ⟨by (with_reducible repeat (first | refine z16 ?_ _)); refine blk_put (cs := #[.int .i64 ((rd_T94 l0_2 x6_1).f0), .int .i64 ((rd_T94 l0_2 x6_1).f1.f0), .int .i64 0]) ?_ 2 _ rfl; (with_reducible repeat (first | refine z16 ?_ _)); refine blk_put (cs := #[.int .i64 ((rd_T94 l0_2 x6_1).f0), .int .i64 0, .int .i64 0]) ?_ 1 _ rfl; (with_reducible repeat (first | refine z16 ?_ _)); refine blk_put (cs := #[.int .i64 0, .int .i64 0, .int .i64 0]) ?_ 0 _ rfl; (with_reducible repeat (first | refine z16 ?_ _)); exact BK190.out⟩
      have n2_ : Aside0 (Below w.heap.size w (((w21.setCell ⟨gb190, 0, none⟩ (.int .i64 ((rd_T94 l0_2 x6_1).f0))).setCell ⟨gb190, 1, none⟩ (.int .i64 ((rd_T94 l0_2 x6_1).f1.f0))).setCell ⟨gb190, 2, none⟩ (.int .i64 ((rd_T94 l0_2 x6_1).f1.f1)))) := ⟨by repeat (with_reducible first | exact HB.out | apply z11 | apply z10 | apply z12 | refine z15 ?_ GE188.out | refine z15 ?_ GE190.out)⟩
      (try clear BK188)
      (try clear BK190)
      (try clear HB)
      generalize (((w21.setCell ⟨gb190, 0, none⟩ (.int .i64 ((rd_T94 l0_2 x6_1).f0))).setCell ⟨gb190, 1, none⟩ (.int .i64 ((rd_T94 l0_2 x6_1).f1.f0))).setCell ⟨gb190, 2, none⟩ (.int .i64 ((rd_T94 l0_2 x6_1).f1.f1))) = w24 at n0_ n1_ n2_ ⊢
      have BK188 := n0_
      have BK190 := n1_
      have HB := n2_
      clear n0_ n1_ n2_
      have n0_ := mkA (z28 BK188.out)
      have n1_ := mkA (z28 BK190.out)
      have n2_ := mkA (z12 HB.out)
      clear BK188
      clear BK190
      clear HB
      have BK188 := n0_
      have BK190 := n1_
      have HB := n2_
      clear n0_ n1_ n2_
      refine start_ (n := 8) (S := fun w' => w'.cell? ⟨gb188, 0, none⟩ = some (.int .i64 a0_0) ∧ w'.cell? ⟨gb188, 1, none⟩ = some (.slice A0_1 l0_1.length c0_1) ∧ w'.cell? ⟨gb188, 2, none⟩ = some (.slice (some ad189) l0_2.length c0_2) ∧ w'.cell? ⟨gb190, 0, none⟩ = some (.int .i64 ((rd_T94 l0_2 x6_1).f0)) ∧ w'.cell? ⟨gb190, 1, none⟩ = some (.int .i64 ((rd_T94 l0_2 x6_1).f1.f0)) ∧ w'.cell? ⟨gb190, 2, none⟩ = some (.int .i64 ((rd_T94 l0_2 x6_1).f1.f1))) (ds := []) #[false, false, false, false, false, false, false, false] (by kernel_rfl) rfl rfl ⟨(z13 BK188.out 0).trans rfl, (z13 BK188.out 1).trans rfl, (z13 BK188.out 2).trans rfl, (z13 BK190.out 0).trans rfl, (z13 BK190.out 1).trans rfl, (z13 BK190.out 2).trans rfl⟩ (fun hHeld => ?_); refine z51 pr_Right.tab6 pr_Right.bits6 (fun HT_ HW_ => ?_)
      generalize w24.drew = w25 at BK188 BK190 HB hHeld ⊢
      refine pure_ (i := 1) (N := some 21) (v := ?_) (a' := ?_) #[false, true, false, false, false, false, false, false] rfl rfl (any_of HT_.out (by kernel_rfl)) (fun _ _ _ h => h) (Or.inl ⟨by rfl, ?_⟩) ?_ ?_
      rotate_left
      ·intro w'
       go_simp
       with_reducible rfl
      rotate_left
      ·simp only [Act.put, xq1, xq2, xq3, i64_w, i32_w]
       rfl
      refine pure_ (i := 2) (N := some 22) (v := ?_) (a' := ?_) #[false, true, true, false, false, false, false, false] rfl rfl (any_of HT_.out (by kernel_rfl)) (fun _ _ _ h => h) (Or.inl ⟨by rfl, ?_⟩) ?_ ?_
      rotate_left
      ·intro w'
       go_simp
       with_reducible rfl
      rotate_left
      ·simp only [Act.put, xq1, xq2, xq3, i64_w, i32_w]
       rfl
      refine pure_ (i := 5) (N := some 25) (v := ?_) (a' := ?_) #[false, true, true, false, false, true, false, false] rfl rfl (any_of HT_.out (by kernel_rfl)) (fun _ _ _ h => h) (Or.inl ⟨by rfl, ?_⟩) ?_ ?_
      rotate_left
      ·intro w'
       go_simp
       with_reducible rfl
      rotate_left
      ·simp only [Act.put, xq1, xq2, xq3, i64_w, i32_w]
       rfl
      refine take_ (i := 0) (N := some 20) (v := ?_) (a' := ?_) #[true, true, true, false, false, true, false, false] rfl rfl (z33 HT_.out HW_.out (by kernel_rfl)) (fun _ _ _ h => h) (Or.inl ⟨by rfl, ?_⟩) hHeld ?_ ?_
      rotate_left
      ·rintro w' ⟨s0, s1, s2, s3, s4, s5⟩
       go_simp
       with_reducible rfl
      rotate_left
      ·simp only [Act.put, xq1, xq2, xq3, i64_w, i32_w]
       rfl
      refine take_ (i := 3) (N := some 23) (v := ?_) (a' := ?_) #[true, true, true, true, false, true, false, false] rfl rfl (z33 HT_.out HW_.out (by kernel_rfl)) (fun _ _ _ h => h) (Or.inl ⟨by rfl, ?_⟩) hHeld ?_ ?_
      rotate_left
      ·rintro w' ⟨s0, s1, s2, s3, s4, s5⟩
       go_simp
       with_reducible rfl
      rotate_left
      ·simp only [Act.put, xq1, xq2, xq3, i64_w, i32_w]
       rfl
      refine take_ (i := 6) (N := some 26) (v := ?_) (a' := ?_) #[true, true, true, true, false, true, true, false] rfl rfl (z33 HT_.out HW_.out (by kernel_rfl)) (fun _ _ _ h => h) (Or.inl ⟨by rfl, ?_⟩) hHeld ?_ ?_
      rotate_left
      ·rintro w' ⟨s0, s1, s2, s3, s4, s5⟩
       go_simp
       with_reducible rfl
      rotate_left
      ·simp only [Act.put, xq1, xq2, xq3, i64_w, i32_w]
       rfl
      refine one_ (i := 4) (N := some 24) #[true, true, true, true, true, true, true, false] rfl rfl (one_of HT_.out (by kernel_rfl)) (by decide) (fun K hK => ?_)
      refine goes_ Try.func54 (by kernel_rfl) rfl #[.agg #[.int .i64 a0_0, .slice A0_1 l0_1.length c0_1, .slice (some ad189) l0_2.length c0_2], .slice A1 l1.length c1, .int .i64 ((rd_T94 l0_2 x6_1).f0)] (by rfl) rfl rfl (by (try simp only [List.map_toArray, List.map_cons, List.map_nil]); first | done | rfl | (simp only [List.length_drop, List.length_take]; rfl)) ?_
      with_reducible refine (pr_Owed.calls k1 a0_0 _ _ l0_1 _ _ l0_2 _ _ l1 ((rd_T94 l0_2 x6_1).f0) t191 _ ?side1 ?side2 ?side3 ?side4 ?side5 ?side6 A6.out).mono ?_
      (case side1 => repeat (first | exact (Kd.C_below HR0_1.out HB.out)))
      (case side2 => exact HC0_1.out)
      (case side3 => repeat (first | exact (Kd.C_below HR0_2.out HB.out)))
      (case side4 => exact HC0_2.out)
      (case side5 => repeat (first | exact (Kd.C_below HR1.out HB.out)))
      (case side6 => exact HC1.out)
      rintro e w26 ⟨rfl, hb⟩
      refine ⟨_, rfl, ?_⟩
      have n0_ := mkA (blk_below (g := gb188) (o := .cells #[.int .i64 a0_0, .slice A0_1 l0_1.length c0_1, .slice (some ad189) l0_2.length c0_2] 25 (0, 0)) (by (with_reducible repeat (first | refine z16 ?_ _)); exact BK188.out) hb)
      have n1_ := mkA (blk_below (g := gb190) (o := .cells #[.int .i64 ((rd_T94 l0_2 x6_1).f0), .int .i64 ((rd_T94 l0_2 x6_1).f1.f0), .int .i64 ((rd_T94 l0_2 x6_1).f1.f1)] 94 (0, 0)) (by (with_reducible repeat (first | refine z16 ?_ _)); exact BK190.out) hb)
      have n2_ := mkA (z17 (by repeat (with_reducible first | exact HB.out | apply z11 | apply z10 | apply z12 | refine z15 ?_ GE188.out | refine z15 ?_ GE190.out)) hb)
      clear BK188
      clear BK190
      clear HB
      have BK188 := n0_
      have BK190 := n1_
      have HB := n2_
      clear n0_ n1_ n2_
      (try clear hb)
      (try clear hb2)
      (try clear hk)
      (try clear hi)
      refine hK.out _ _ ⟨(z13 BK188.out 0).trans rfl, (z13 BK188.out 1).trans rfl, (z13 BK188.out 2).trans rfl, (z13 BK190.out 0).trans rfl, (z13 BK190.out 1).trans rfl, (z13 BK190.out 2).trans rfl⟩ (fun hHeld => ?_)
      clear hK K
      refine norm_ (a' := ?_) ?_ ?_
      rotate_left
      ·show Act.put _ (some 24) _ = _
       simp only [Act.put, xq1, xq2, xq3, i64_w, i32_w]
       rfl
      refine one_ (i := 7) (N := some 27) #[true, true, true, true, true, true, true, true] rfl rfl (one_of HT_.out (by kernel_rfl)) (by decide) (fun K hK => ?_)
      refine goes_ Try.func81 (by kernel_rfl) rfl #[.int .i64 t191, .agg #[.int .i64 ((rd_T94 l0_2 x6_1).f1.f0), .int .i64 ((rd_T94 l0_2 x6_1).f1.f1)]] (by rfl) rfl rfl (by (try simp only [List.map_toArray, List.map_cons, List.map_nil]); first | done | rfl | (simp only [List.length_drop, List.length_take]; rfl)) ?_
      with_reducible refine (pr_Is.calls t191 ((rd_T94 l0_2 x6_1).f1.f0) ((rd_T94 l0_2 x6_1).f1.f1) false _ A7.out).mono ?_
      rintro e w27 ⟨rfl, hb⟩
      refine ⟨_, rfl, ?_⟩
      have n0_ := mkA (blk_below (g := gb188) (o := .cells #[.int .i64 a0_0, .slice A0_1 l0_1.length c0_1, .slice (some ad189) l0_2.length c0_2] 25 (0, 0)) (by (with_reducible repeat (first | refine z16 ?_ _)); exact BK188.out) hb)
      have n1_ := mkA (blk_below (g := gb190) (o := .cells #[.int .i64 ((rd_T94 l0_2 x6_1).f0), .int .i64 ((rd_T94 l0_2 x6_1).f1.f0), .int .i64 ((rd_T94 l0_2 x6_1).f1.f1)] 94 (0, 0)) (by (with_reducible repeat (first | refine z16 ?_ _)); exact BK190.out) hb)
      have n2_ := mkA (z17 (by repeat (with_reducible first | exact HB.out | apply z11 | apply z10 | apply z12 | refine z15 ?_ GE188.out | refine z15 ?_ GE190.out)) hb)
      clear BK188
      clear BK190
      clear HB
      have BK188 := n0_
      have BK190 := n1_
      have HB := n2_
      clear n0_ n1_ n2_
      (try clear hb)
      (try clear hb2)
      (try clear hk)
      (try clear hi)
      refine hK.out _ _ ⟨(z13 BK188.out 0).trans rfl, (z13 BK188.out 1).trans rfl, (z13 BK188.out 2).trans rfl, (z13 BK190.out 0).trans rfl, (z13 BK190.out 1).trans rfl, (z13 BK190.out 2).trans rfl⟩ (fun hHeld => ?_)
      clear hK K
      refine norm_ (a' := ?_) ?_ ?_
      rotate_left
      ·show Act.put _ (some 27) _ = _
       simp only [Act.put, xq1, xq2, xq3, i64_w, i32_w]
       rfl
      refine done_ (done_of HT_.out (by kernel_rfl)) ?_
      try go_wp2
      go_roundg k1
      case measure => have := HK1.out; omega
      case rel => exact ⟨(x5_1), (wrap64 (x6_1 + 1)), (by first | rfl | (simp; done) | (simp [*]; done)), (by first | rfl | (simp; done) | (simp [*]; done)), H', ⟨by have := HK1.out; omega⟩, ⟨by (with_reducible repeat (first | refine z16 ?_ _)); exact BK188.out⟩, ⟨by repeat (with_reducible first | exact HB.out | apply z11 | apply z10 | apply z12 | refine z15 ?_ GE188.out | refine z15 ?_ GE190.out)⟩⟩
    ·rw [if_neg c5] at H
     exact absurd H (by simp)
   ·rw [if_neg c4] at H
    have c4b0 : decide (x6_1 < (l0_2.length : Int)) = false := decide_eq_false c4
    clear c4
    obtain rfl := Option.some.inj H
    have hcz28_0 : wr.cell? ⟨gb188, 0, none⟩ = some (.int .i64 a0_0) := (z13 BK188.out 0).trans rfl
    have hcz28_1 : wr.cell? ⟨gb188, 1, none⟩ = some (.slice A0_1 l0_1.length c0_1) := (z13 BK188.out 1).trans rfl
    have hcz28_2 : wr.cell? ⟨gb188, 2, none⟩ = some (.slice A0_2 l0_2.length c0_2) := (z13 BK188.out 2).trans rfl
    have hfz28_0 := z14 BK188.out 0
    have hfz28_1 := z14 BK188.out 1
    have hfz28_2 := z14 BK188.out 2
    go_wp2
    go_ret
    exact ⟨by first | rfl | (simp [z20, z19] <;> rfl) | (simp [*, z20, z19] <;> rfl), by repeat (with_reducible first | exact HB.out | apply z11 | apply z10 | apply z12 | refine z15 ?_ GE188.out)⟩
/-! ### pr_Truths: function 53 -/
def pr_Truths.l0 : Nat → List (List Int) → Int → Int → List (S91) → List (S94) → Option ((List (List Int)))
 | 0, _, _, _, _, _ => none
 | k + 1, x3, x4, x194000, x194001, x194002 => (pr_Many.f k x194000 x194001 x194002).bind fun t194 => (if x4 < t194 then ((pr_Nth.f k x194000 x194001 x194002 x4).bind fun t195 => ((pr_Right.f k x194000 x194001 x194002 t195).bind fun t198 => ((pr_Full.f x194000 x194001 x194002).bind fun t199 => (if t198 = t199 then (if x3.length < 5864062014805 then (pr_Truths.l0 k (x3 ++ [t195]) (wrap64 (x4 + 1)) x194000 x194001 x194002) else (none)) else (pr_Truths.l0 k x3 (wrap64 (x4 + 1)) x194000 x194001 x194002))))) else (some x3))
def pr_Truths.f (k : Nat) (a0_0 : Int) (l0_1 : List (S91)) (l0_2 : List (S94)) : Option ((List (List Int))) := pr_Truths.l0 k ([] : List (List Int)) 0 a0_0 l0_1 l0_2
set_option maxHeartbeats 8000000 in
set_option maxRecDepth 100000 in
theorem pr_Truths.calls (k : Nat) (a0_0 : Int) (A0_1 : Option Addr) (c0_1 : Nat) (l0_1 : List (S91)) (A0_2 : Option Addr) (c0_2 : Nat) (l0_2 : List (S94)) (r : List (List Int)) (w : World) (hr0_1 : Kd.C k91 w A0_1 l0_1.length l0_1) (hc0_1 : l0_1.length ≤ c0_1) (hr0_2 : Kd.C k94 w A0_2 l0_2.length l0_2) (hc0_2 : l0_2.length ≤ c0_2) (h : pr_Truths.f k a0_0 l0_1 l0_2 = some r) :
  Calls Try.prog 53 #[.agg #[.int .i64 a0_0, .slice A0_1 l0_1.length c0_1, .slice A0_2 l0_2.length c0_2]] w fun e w' => ∃ v0_ : Value, e = .returned (v0_) ∧ Kd.S (Kd.slice 3 (Kd.int .i64)) 37 w' w.heap.size (fun _ => True) v0_ r ∧ Below w.heap.size w w' := by
 have hu25 := Try.underlying25
 have HR0_1 := mkA hr0_1
 have HC0_1 := mkA hc0_1
 clear hr0_1 hc0_1
 have HR0_2 := mkA hr0_2
 have HC0_2 := mkA hc0_2
 clear hr0_2 hc0_2
 have HB := mkA (Below.refl w.heap.size w)
 have H : (pr_Truths.l0 k ([] : List (List Int)) 0 a0_0 l0_1 l0_2) = some r := h
 clear h
 have H' := mkA H
 clear H
 go_enter Try.func53, Try.ntmps53
 go_wp2_with ((with_reducible refine z24 (N := 1) rfl ?_); refine z22 ?hg (N := 1) ?hd (cs := #[.int .i64 a0_0, .slice A0_1 l0_1.length c0_1, .slice A0_2 l0_2.length c0_2]) (t := 25) ?hr ?_; (case hd => rfl); (case hg => rfl); (case hr => first | (go_simp; done) | (go_simp; rfl)); intro gb193 hg w2 hbox hb; have n0_ := mkA (z17 (by repeat (with_reducible first | exact HB.out | apply z11 | apply z10 | apply z12)) hb); have n1_ := mkA (hbox); have n2_ := mkA ((by rw [hg]; exact (z18 (by repeat (with_reducible first | exact HB.out | apply z11 | apply z10 | apply z12))) : w.heap.size ≤ gb193)); have n3_ := mkA ((by rw [hg]; exact (z18 (by repeat (with_reducible first | exact HB.out | apply z11 | apply z10 | apply z12))) : w.heap.size ≤ gb193)); clear HB; have HB := n0_; have BK193 := n1_; have GW193 := n2_; have GE193 := n3_; clear n0_ n1_ n2_ n3_; clear hb hbox hg)
 go_loopg [3, 4] k (fun kq v3 v4 w' => ∃ (x3_1 : List (List Int)) (x4_1 : Int), v4 = .int .i64 x4_1 ∧ Aside0 (pr_Truths.l0 kq x3_1 x4_1 a0_0 l0_1 l0_2 = some r) ∧ Aside0 (kq ≤ k) ∧ Aside0 (Kd.S (Kd.slice 3 (Kd.int .i64)) 37 w' w.heap.size (fun _ => True) v3 x3_1) ∧ Aside0 (w'.heap[gb193]? = some (.cells #[.int .i64 a0_0, (.slice A0_1 l0_1.length c0_1), (.slice A0_2 l0_2.length c0_2)] 25 (0, 0))) ∧ Aside0 (Below w.heap.size w w'))
 case atStart => exact ⟨(([] : List (List Int))), (0), (by first | rfl | (simp; done) | (simp [*]; done)), H', ⟨Nat.le_refl _⟩, ⟨by first | exact Kd.S_nil _ _ _ _ _ | exact Kd.N_nil _ _ _ _ _ | exact Kd.V_nil _ _ _ _ _ | exact Kd.Q_nil _ _ _ _ _ | exact Kd.R_nil _ _ _ _ _⟩, ⟨by (with_reducible repeat (first | refine z16 ?_ _)); exact BK193.out⟩, ⟨by repeat (with_reducible first | exact HB.out | apply z11 | apply z10 | apply z12 | refine z15 ?_ GE193.out)⟩⟩
 case round =>
  clear H'
  try clear p2
  obtain ⟨x3_1, x4_1, rfl, HA, HK1, HO_3, BK193, HB⟩ := hrel
  cases gk with
  | zero => exact absurd HA.out (by simp [pr_Truths.l0])
  | succ k1 =>
   have H := HA.out
   clear HA
   simp only [pr_Truths.l0] at H
   replace H := Option.bind_eq_some_iff.mp H
   obtain ⟨t194, A30, H⟩ := H
   replace H : (if x4_1 < t194 then ((pr_Nth.f k1 a0_0 l0_1 l0_2 x4_1).bind fun t195 => ((pr_Right.f k1 a0_0 l0_1 l0_2 t195).bind fun t198 => ((pr_Full.f a0_0 l0_1 l0_2).bind fun t199 => (if t198 = t199 then (if x3_1.length < 5864062014805 then (pr_Truths.l0 k1 (x3_1 ++ [t195]) (wrap64 (x4_1 + 1)) a0_0 l0_1 l0_2) else (none)) else (pr_Truths.l0 k1 x3_1 (wrap64 (x4_1 + 1)) a0_0 l0_1 l0_2))))) else (some x3_1)) = some r := H
   have A3 := mkA A30
   clear A30
   by_cases c4 : x4_1 < t194
   ·rw [if_pos c4] at H
    have c4b0 : decide (x4_1 < t194) = true := decide_eq_true c4
    clear c4
    replace H := Option.bind_eq_some_iff.mp H
    obtain ⟨t195, A50, H⟩ := H
    replace H : ((pr_Right.f k1 a0_0 l0_1 l0_2 t195).bind fun t198 => ((pr_Full.f a0_0 l0_1 l0_2).bind fun t199 => (if t198 = t199 then (if x3_1.length < 5864062014805 then (pr_Truths.l0 k1 (x3_1 ++ [t195]) (wrap64 (x4_1 + 1)) a0_0 l0_1 l0_2) else (none)) else (pr_Truths.l0 k1 x3_1 (wrap64 (x4_1 + 1)) a0_0 l0_1 l0_2)))) = some r := H
    have A5 := mkA A50
    clear A50
    replace H := Option.bind_eq_some_iff.mp H
    obtain ⟨t198, A60, H⟩ := H
    replace H : ((pr_Full.f a0_0 l0_1 l0_2).bind fun t199 => (if t198 = t199 then (if x3_1.length < 5864062014805 then (pr_Truths.l0 k1 (x3_1 ++ [t195]) (wrap64 (x4_1 + 1)) a0_0 l0_1 l0_2) else (none)) else (pr_Truths.l0 k1 x3_1 (wrap64 (x4_1 + 1)) a0_0 l0_1 l0_2))) = some r := H
    have A6 := mkA A60
    clear A60
    replace H := Option.bind_eq_some_iff.mp H
    obtain ⟨t199, A70, H⟩ := H
    replace H : (if t198 = t199 then (if x3_1.length < 5864062014805 then (pr_Truths.l0 k1 (x3_1 ++ [t195]) (wrap64 (x4_1 + 1)) a0_0 l0_1 l0_2) else (none)) else (pr_Truths.l0 k1 x3_1 (wrap64 (x4_1 + 1)) a0_0 l0_1 l0_2)) = some r := H
    have A7 := mkA A70
    clear A70
    by_cases c8 : t198 = t199
    ·rw [if_pos c8] at H
     have c8b0 : (t198 == t199) = true := beq_iff_eq.mpr c8
     have c8b1 : (t198 != t199) = false := bne_eq_false_iff_eq.mpr c8
     clear c8
     by_cases c9 : x3_1.length < 5864062014805
     ·rw [if_pos c9] at H
      have LMc9 := mkA c9
      clear c9
      obtain ⟨y200, hy200⟩ : ∃ y_ : List (List Int), y_ = (x3_1 ++ [t195]) := ⟨_, rfl⟩
      replace H : (pr_Truths.l0 k1 y200 (wrap64 (x4_1 + 1)) a0_0 l0_1 l0_2) = some r := by first | (rw [hy200]; with_reducible exact H) | (have H2_ := (Option.bind_some _ _).symm.trans H; rw [hy200]; with_reducible exact H2_) | (have H2_ := (Option.bind_some _ _).symm.trans H; with_reducible exact H2_) | with_reducible exact H | (rw [hy200]; exact H) | exact H
      have Ny200 := mkA hy200
      clear hy200
      have H' := mkA H
      clear H
      have hcz10_0 : wr.cell? ⟨gb193, 0, none⟩ = some (.int .i64 a0_0) := (z13 BK193.out 0).trans rfl
      have hcz10_1 : wr.cell? ⟨gb193, 1, none⟩ = some (.slice A0_1 l0_1.length c0_1) := (z13 BK193.out 1).trans rfl
      have hcz10_2 : wr.cell? ⟨gb193, 2, none⟩ = some (.slice A0_2 l0_2.length c0_2) := (z13 BK193.out 2).trans rfl
      have hfz10_0 := z14 BK193.out 0
      have hfz10_1 := z14 BK193.out 1
      have hfz10_2 := z14 BK193.out 2
      try go_wp2_with (first | ((with_reducible refine z23 (f := 47) rfl ?_); refine goesL_ (some 8) rfl rfl Try.func47 (by kernel_rfl) rfl #[.agg #[.int .i64 a0_0, .slice A0_1 l0_1.length c0_1, .slice A0_2 l0_2.length c0_2]] rfl (by (try simp only [List.map_toArray, List.map_cons, List.map_nil]); first | done | rfl | (simp only [List.length_drop, List.length_take]; rfl)) ?_; (with_reducible refine (pr_Many.calls k1 a0_0 _ _ l0_1 _ _ l0_2 t194 _ ?side1 ?side2 ?side3 ?side4 A3.out).mono ?_); (case side1 => repeat (first | exact (Kd.C_below HR0_1.out HB.out))); (case side2 => exact HC0_1.out); (case side3 => repeat (first | exact (Kd.C_below HR0_2.out HB.out))); (case side4 => exact HC0_2.out); rintro e w11 ⟨rfl, hb⟩; refine ⟨_, rfl, ?_⟩; have n0_ := mkA (Kd.S_below (by (with_reducible repeat (first | apply Kd.S_alloc)); exact HO_3.out) hb); have n1_ := mkA (blk_below (g := gb193) (o := .cells #[.int .i64 a0_0, .slice A0_1 l0_1.length c0_1, .slice A0_2 l0_2.length c0_2] 25 (0, 0)) (by (with_reducible repeat (first | refine z16 ?_ _)); exact BK193.out) hb); have n2_ := mkA (z17 (by repeat (with_reducible first | exact HB.out | apply z11 | apply z10 | apply z12 | refine z15 ?_ GE193.out)) hb); clear HO_3; clear BK193; clear HB; have HO_3 := n0_; have BK193 := n1_; have HB := n2_; clear n0_ n1_ n2_; (try clear hb); (try clear hb2); (try clear hk); (try clear hi); have hcz12_0 : w11.cell? ⟨gb193, 0, none⟩ = some (.int .i64 a0_0) := (z13 BK193.out 0).trans rfl; have hcz12_1 : w11.cell? ⟨gb193, 1, none⟩ = some (.slice A0_1 l0_1.length c0_1) := (z13 BK193.out 1).trans rfl; have hcz12_2 : w11.cell? ⟨gb193, 2, none⟩ = some (.slice A0_2 l0_2.length c0_2) := (z13 BK193.out 2).trans rfl; have hfz12_0 := z14 BK193.out 0; have hfz12_1 := z14 BK193.out 1; have hfz12_2 := z14 BK193.out 2) | ((with_reducible refine z23 (f := 46) rfl ?_); refine goesL_ (some 14) rfl rfl Try.func46 (by kernel_rfl) rfl #[.agg #[.int .i64 a0_0, .slice A0_1 l0_1.length c0_1, .slice A0_2 l0_2.length c0_2], .int .i64 x4_1] rfl (by (try simp only [List.map_toArray, List.map_cons, List.map_nil]); first | done | rfl | (simp only [List.length_drop, List.length_take]; rfl)) ?_; (with_reducible refine (pr_Nth.calls k1 a0_0 _ _ l0_1 _ _ l0_2 x4_1 t195 _ ?side1 ?side2 ?side3 ?side4 A5.out).mono ?_); (case side1 => repeat (first | exact (Kd.C_below HR0_1.out HB.out))); (case side2 => exact HC0_1.out); (case side3 => repeat (first | exact (Kd.C_below HR0_2.out HB.out))); (case side4 => exact HC0_2.out); rintro e w13 ⟨v196, rfl, ho0, hb⟩; refine ⟨_, rfl, ?_⟩; have n0_ := mkA (Kd.S_elder' (by (with_reducible repeat (first | apply Kd.S_alloc)); exact HO_3.out) (Kd.R_base ho0) hb); have n1_ := mkA (Kd.R_lower ho0 (z18 (by repeat (with_reducible first | exact HB.out | apply z11 | apply z10 | apply z12 | refine z15 ?_ GE193.out)))); have n2_ := mkA (blk_below (g := gb193) (o := .cells #[.int .i64 a0_0, .slice A0_1 l0_1.length c0_1, .slice A0_2 l0_2.length c0_2] 25 (0, 0)) (by (with_reducible repeat (first | refine z16 ?_ _)); exact BK193.out) hb); have n3_ := mkA (z17 (by repeat (with_reducible first | exact HB.out | apply z11 | apply z10 | apply z12 | refine z15 ?_ GE193.out)) hb); clear HO_3; clear BK193; clear HB; have HO_3 := n0_; have HO197 := n1_; have BK193 := n2_; have HB := n3_; clear n0_ n1_ n2_ n3_; (try clear hb); (try clear hb2); (try clear hk); (try clear hi); (try clear ho0)))
      have n0_ := mkA (Kd.S_drew HO_3.out)
      have n1_ := mkA (Kd.R_drew HO197.out)
      have n2_ := mkA (z28 BK193.out)
      have n3_ := mkA (z12 HB.out)
      clear HO_3
      clear HO197
      clear BK193
      clear HB
      have HO_3 := n0_
      have HO197 := n1_
      have BK193 := n2_
      have HB := n3_
      clear n0_ n1_ n2_ n3_
      obtain ⟨Ao15, co15, eo15⟩ := Kd.R_slice HO197.out
      (first | subst eo15)
      refine start_ (n := 6) (S := fun w' => w'.cell? ⟨gb193, 0, none⟩ = some (.int .i64 a0_0) ∧ w'.cell? ⟨gb193, 1, none⟩ = some (.slice A0_1 l0_1.length c0_1) ∧ w'.cell? ⟨gb193, 2, none⟩ = some (.slice A0_2 l0_2.length c0_2)) (ds := []) #[false, false, false, false, false, false] (by kernel_rfl) rfl rfl ⟨(z13 BK193.out 0).trans rfl, (z13 BK193.out 1).trans rfl, (z13 BK193.out 2).trans rfl⟩ (fun hHeld => ?_)
      generalize w13.drew = w14 at HO_3 HO197 BK193 HB hHeld ⊢
      refine pure_ (i := 1) (N := some 16) (v := ?_) (a' := ?_) #[false, true, false, false, false, false] rfl rfl (by kernel_rfl) (fun _ _ _ h => h) (Or.inl ⟨by rfl, ?_⟩) ?_ ?_
      rotate_left
      ·intro w'
       go_simp
       with_reducible rfl
      rotate_left
      ·simp only [Act.put, xq1, xq2, xq3, i64_w, i32_w]
       rfl
      refine take_ (i := 0) (N := some 15) (v := ?_) (a' := ?_) #[true, true, false, false, false, false] rfl rfl (by kernel_rfl) (fun _ _ _ h => h) (Or.inl ⟨by rfl, ?_⟩) hHeld ?_ ?_
      rotate_left
      ·rintro w' ⟨s0, s1, s2⟩
       go_simp
       with_reducible rfl
      rotate_left
      ·simp only [Act.put, xq1, xq2, xq3, i64_w, i32_w]
       rfl
      refine take_ (i := 3) (N := some 18) (v := ?_) (a' := ?_) #[true, true, false, true, false, false] rfl rfl (by kernel_rfl) (fun _ _ _ h => h) (Or.inl ⟨by rfl, ?_⟩) hHeld ?_ ?_
      rotate_left
      ·rintro w' ⟨s0, s1, s2⟩
       go_simp
       with_reducible rfl
      rotate_left
      ·simp only [Act.put, xq1, xq2, xq3, i64_w, i32_w]
       rfl
      refine one_ (i := 2) (N := some 17) #[true, true, true, true, false, false] rfl rfl (by kernel_rfl) (by decide) (fun K hK => ?_)
      refine goes_ Try.func87 (by kernel_rfl) rfl #[.agg #[.int .i64 a0_0, .slice A0_1 l0_1.length c0_1, .slice A0_2 l0_2.length c0_2], .slice Ao15 t195.length co15] (by rfl) rfl rfl (by (try simp only [List.map_toArray, List.map_cons, List.map_nil]); first | done | rfl | (simp only [List.length_drop, List.length_take]; rfl)) ?_
      with_reducible refine (pr_Right.calls k1 a0_0 _ _ l0_1 _ _ l0_2 _ _ t195 t198 _ ?side1 ?side2 ?side3 ?side4 ?side5 ?side6 A6.out).mono ?_
      (case side1 => repeat (first | exact (Kd.C_below HR0_1.out HB.out)))
      (case side2 => exact HC0_1.out)
      (case side3 => repeat (first | exact (Kd.C_below HR0_2.out HB.out)))
      (case side4 => exact HC0_2.out)
      (case side5 => repeat (first | exact (Kd.R_reads' HO197.out).2.2))
      (case side6 => exact (Kd.R_reads' HO197.out).2.1)
      rintro e w16 ⟨rfl, hb⟩
      refine ⟨_, rfl, ?_⟩
      have n0_ := mkA (Kd.S_below (by (with_reducible repeat (first | apply Kd.S_alloc)); exact HO_3.out) hb)
      have n1_ := mkA (Kd.R_below (by (with_reducible repeat (first | apply Kd.R_alloc)); exact HO197.out) hb)
      have n2_ := mkA (blk_below (g := gb193) (o := .cells #[.int .i64 a0_0, .slice A0_1 l0_1.length c0_1, .slice A0_2 l0_2.length c0_2] 25 (0, 0)) (by (with_reducible repeat (first | refine z16 ?_ _)); exact BK193.out) hb)
      have n3_ := mkA (z17 (by repeat (with_reducible first | exact HB.out | apply z11 | apply z10 | apply z12 | refine z15 ?_ GE193.out)) hb)
      clear HO_3
      clear HO197
      clear BK193
      clear HB
      have HO_3 := n0_
      have HO197 := n1_
      have BK193 := n2_
      have HB := n3_
      clear n0_ n1_ n2_ n3_
      (try clear hb)
      (try clear hb2)
      (try clear hk)
      (try clear hi)
      refine hK.out _ _ ⟨(z13 BK193.out 0).trans rfl, (z13 BK193.out 1).trans rfl, (z13 BK193.out 2).trans rfl⟩ (fun hHeld => ?_)
      clear hK K
      refine norm_ (a' := ?_) ?_ ?_
      rotate_left
      ·show Act.put _ (some 17) _ = _
       simp only [Act.put, xq1, xq2, xq3, i64_w, i32_w]
       rfl
      refine one_ (i := 4) (N := some 19) #[true, true, true, true, true, false] rfl rfl (by kernel_rfl) (by decide) (fun K hK => ?_)
      refine goes_ Try.func62 (by kernel_rfl) rfl #[.agg #[.int .i64 a0_0, .slice A0_1 l0_1.length c0_1, .slice A0_2 l0_2.length c0_2]] (by rfl) rfl rfl (by (try simp only [List.map_toArray, List.map_cons, List.map_nil]); first | done | rfl | (simp only [List.length_drop, List.length_take]; rfl)) ?_
      with_reducible refine (pr_Full.calls a0_0 _ _ l0_1 _ _ l0_2 t199 _ ?side1 ?side2 ?side3 ?side4 A7.out).mono ?_
      (case side1 => repeat (first | exact (Kd.C_below HR0_1.out HB.out)))
      (case side2 => exact HC0_1.out)
      (case side3 => repeat (first | exact (Kd.C_below HR0_2.out HB.out)))
      (case side4 => exact HC0_2.out)
      rintro e w17 ⟨rfl, hb⟩
      refine ⟨_, rfl, ?_⟩
      have n0_ := mkA (Kd.S_below (by (with_reducible repeat (first | apply Kd.S_alloc)); exact HO_3.out) hb)
      have n1_ := mkA (Kd.R_below (by (with_reducible repeat (first | apply Kd.R_alloc)); exact HO197.out) hb)
      have n2_ := mkA (blk_below (g := gb193) (o := .cells #[.int .i64 a0_0, .slice A0_1 l0_1.length c0_1, .slice A0_2 l0_2.length c0_2] 25 (0, 0)) (by (with_reducible repeat (first | refine z16 ?_ _)); exact BK193.out) hb)
      have n3_ := mkA (z17 (by repeat (with_reducible first | exact HB.out | apply z11 | apply z10 | apply z12 | refine z15 ?_ GE193.out)) hb)
      clear HO_3
      clear HO197
      clear BK193
      clear HB
      have HO_3 := n0_
      have HO197 := n1_
      have BK193 := n2_
      have HB := n3_
      clear n0_ n1_ n2_ n3_
      (try clear hb)
      (try clear hb2)
      (try clear hk)
      (try clear hi)
      refine hK.out _ _ ⟨(z13 BK193.out 0).trans rfl, (z13 BK193.out 1).trans rfl, (z13 BK193.out 2).trans rfl⟩ (fun hHeld => ?_)
      clear hK K
      refine norm_ (a' := ?_) ?_ ?_
      rotate_left
      ·show Act.put _ (some 19) _ = _
       simp only [Act.put, xq1, xq2, xq3, i64_w, i32_w]
       rfl
      refine pure_ (i := 5) (N := some 20) (v := ?_) (a' := ?_) #[true, true, true, true, true, true] rfl rfl (by kernel_rfl) (fun _ _ _ h => h) (Or.inl ⟨by rfl, ?_⟩) ?_ ?_
      rotate_left
      ·intro w'
       go_simp
       with_reducible rfl
      rotate_left
      ·simp only [Act.put, xq1, xq2, xq3, i64_w, i32_w]
       rfl
      refine done_ (by kernel_rfl) ?_
      try go_wp2_with ((with_reducible refine z36 (b := .append) (xs := #[.tmp 21, .tmp 23]) rfl ?_); at_builtin; refine Kd.S_append (Kd.slice 3 (Kd.int .i64)) (w0 := w) w.heap.size rfl (.tmp 21) (.tmp 23) 40 37 (.slice none 0 0) 24 rfl Try.underlying40 info37 rfl (by decide) (by omega) u3 x3_1 t195 [.slice Ao15 t195.length co15] (fun _ => True) (fun k_ => some k_ = (.slice Ao15 t195.length co15 : Value).ownBlock) rfl rfl ?aP (fun k_ hk_ => ((Kd.R_mono (ok' := fun k_ => ((fun _ => True)) k_ ∧ some k_ ≠ (u3 : Value).ownBlock) (Kd.R_apart' (HO197.out) (Kd.S_typed HO_3.out) (by decide)) (fun k_ hk => ⟨trivial, hk.2⟩))).1 k_ hk_.symm) ?aF ?aO ?aB ?aS ?aL ?_; (case aP => exact Kd.M_row (Kd.R_mono (Kd.R_tight rfl (Kd.R_mono (ok' := fun k_ => ((fun _ => True)) k_ ∧ some k_ ≠ (u3 : Value).ownBlock) (Kd.R_apart' (HO197.out) (Kd.S_typed HO_3.out) (by decide)) (fun k_ hk => ⟨trivial, hk.2⟩))) (fun _ h_ => h_))); (case aB => exact (by repeat (with_reducible first | exact HB.out | apply z11 | apply z10 | apply z12 | refine z15 ?_ GE193.out))); (case aF => exact (fun _ _ => trivial)); (case aO => exact (by (with_reducible repeat (first | apply Kd.S_alloc)); exact Kd.S_mono HO_3.out (fun k_ hk => ⟨trivial, fun e_ => hk.2 e_⟩))); (case aS => exact (z18 (by repeat (with_reducible first | exact HB.out | apply z11 | apply z10 | apply z12 | refine z15 ?_ GE193.out)))); (case aL => have := LMc9.out; omega); intro v201 w18 ho hb hg hat; rw [← Ny200.out] at ho; have n0_ := mkA (z38 (g := gb193) (o := .cells #[.int .i64 a0_0, .slice A0_1 l0_1.length c0_1, .slice A0_2 l0_2.length c0_2] 25 (0, 0)) (by (with_reducible repeat (first | refine z16 ?_ _)); exact BK193.out) hg (Kd.S_ne HO_3.out BK193.out (by decide))); have n1_ := mkA (hb); have n2_ := mkA (ho); clear BK193; clear HB; clear HO_3; clear HO197; have BK193 := n0_; have HB := n1_; have HO202 := n2_; clear n0_ n1_ n2_; clear ho hb hg hat)
      go_roundg k1
      case measure => have := HK1.out; omega
      case rel => exact ⟨(y200), (wrap64 (x4_1 + 1)), (by first | rfl | (simp; done) | (simp [*]; done)), H', ⟨by have := HK1.out; omega⟩, ⟨by (with_reducible repeat (first | apply Kd.S_alloc)); exact HO202.out⟩, ⟨by (with_reducible repeat (first | refine z16 ?_ _)); exact BK193.out⟩, ⟨by repeat (with_reducible first | exact HB.out | apply z11 | apply z10 | apply z12 | refine z15 ?_ GE193.out)⟩⟩
     ·rw [if_neg c9] at H
      exact absurd H (by simp)
    ·rw [if_neg c8] at H
     have c8b0 : (t198 == t199) = false := beq_eq_false_iff_ne.mpr c8
     have c8b1 : (t198 != t199) = true := bne_iff_ne.mpr c8
     have H' := mkA H
     clear H
     have hcz19_0 : wr.cell? ⟨gb193, 0, none⟩ = some (.int .i64 a0_0) := (z13 BK193.out 0).trans rfl
     have hcz19_1 : wr.cell? ⟨gb193, 1, none⟩ = some (.slice A0_1 l0_1.length c0_1) := (z13 BK193.out 1).trans rfl
     have hcz19_2 : wr.cell? ⟨gb193, 2, none⟩ = some (.slice A0_2 l0_2.length c0_2) := (z13 BK193.out 2).trans rfl
     have hfz19_0 := z14 BK193.out 0
     have hfz19_1 := z14 BK193.out 1
     have hfz19_2 := z14 BK193.out 2
     try go_wp2_with (first | ((with_reducible refine z23 (f := 47) rfl ?_); refine goesL_ (some 8) rfl rfl Try.func47 (by kernel_rfl) rfl #[.agg #[.int .i64 a0_0, .slice A0_1 l0_1.length c0_1, .slice A0_2 l0_2.length c0_2]] rfl (by (try simp only [List.map_toArray, List.map_cons, List.map_nil]); first | done | rfl | (simp only [List.length_drop, List.length_take]; rfl)) ?_; (with_reducible refine (pr_Many.calls k1 a0_0 _ _ l0_1 _ _ l0_2 t194 _ ?side1 ?side2 ?side3 ?side4 A3.out).mono ?_); (case side1 => repeat (first | exact (Kd.C_below HR0_1.out HB.out))); (case side2 => exact HC0_1.out); (case side3 => repeat (first | exact (Kd.C_below HR0_2.out HB.out))); (case side4 => exact HC0_2.out); rintro e w20 ⟨rfl, hb⟩; refine ⟨_, rfl, ?_⟩; have n0_ := mkA (Kd.S_below (by (with_reducible repeat (first | apply Kd.S_alloc)); exact HO_3.out) hb); have n1_ := mkA (blk_below (g := gb193) (o := .cells #[.int .i64 a0_0, .slice A0_1 l0_1.length c0_1, .slice A0_2 l0_2.length c0_2] 25 (0, 0)) (by (with_reducible repeat (first | refine z16 ?_ _)); exact BK193.out) hb); have n2_ := mkA (z17 (by repeat (with_reducible first | exact HB.out | apply z11 | apply z10 | apply z12 | refine z15 ?_ GE193.out)) hb); clear HO_3; clear BK193; clear HB; have HO_3 := n0_; have BK193 := n1_; have HB := n2_; clear n0_ n1_ n2_; (try clear hb); (try clear hb2); (try clear hk); (try clear hi); have hcz21_0 : w20.cell? ⟨gb193, 0, none⟩ = some (.int .i64 a0_0) := (z13 BK193.out 0).trans rfl; have hcz21_1 : w20.cell? ⟨gb193, 1, none⟩ = some (.slice A0_1 l0_1.length c0_1) := (z13 BK193.out 1).trans rfl; have hcz21_2 : w20.cell? ⟨gb193, 2, none⟩ = some (.slice A0_2 l0_2.length c0_2) := (z13 BK193.out 2).trans rfl; have hfz21_0 := z14 BK193.out 0; have hfz21_1 := z14 BK193.out 1; have hfz21_2 := z14 BK193.out 2) | ((with_reducible refine z23 (f := 46) rfl ?_); refine goesL_ (some 14) rfl rfl Try.func46 (by kernel_rfl) rfl #[.agg #[.int .i64 a0_0, .slice A0_1 l0_1.length c0_1, .slice A0_2 l0_2.length c0_2], .int .i64 x4_1] rfl (by (try simp only [List.map_toArray, List.map_cons, List.map_nil]); first | done | rfl | (simp only [List.length_drop, List.length_take]; rfl)) ?_; (with_reducible refine (pr_Nth.calls k1 a0_0 _ _ l0_1 _ _ l0_2 x4_1 t195 _ ?side1 ?side2 ?side3 ?side4 A5.out).mono ?_); (case side1 => repeat (first | exact (Kd.C_below HR0_1.out HB.out))); (case side2 => exact HC0_1.out); (case side3 => repeat (first | exact (Kd.C_below HR0_2.out HB.out))); (case side4 => exact HC0_2.out); rintro e w22 ⟨v196, rfl, ho0, hb⟩; refine ⟨_, rfl, ?_⟩; have n0_ := mkA (Kd.S_elder' (by (with_reducible repeat (first | apply Kd.S_alloc)); exact HO_3.out) (Kd.R_base ho0) hb); have n1_ := mkA (Kd.R_lower ho0 (z18 (by repeat (with_reducible first | exact HB.out | apply z11 | apply z10 | apply z12 | refine z15 ?_ GE193.out)))); have n2_ := mkA (blk_below (g := gb193) (o := .cells #[.int .i64 a0_0, .slice A0_1 l0_1.length c0_1, .slice A0_2 l0_2.length c0_2] 25 (0, 0)) (by (with_reducible repeat (first | refine z16 ?_ _)); exact BK193.out) hb); have n3_ := mkA (z17 (by repeat (with_reducible first | exact HB.out | apply z11 | apply z10 | apply z12 | refine z15 ?_ GE193.out)) hb); clear HO_3; clear BK193; clear HB; have HO_3 := n0_; have HO197 := n1_; have BK193 := n2_; have HB := n3_; clear n0_ n1_ n2_ n3_; (try clear hb); (try clear hb2); (try clear hk); (try clear hi); (try clear ho0)))
     have n0_ := mkA (Kd.S_drew HO_3.out)
     have n1_ := mkA (Kd.R_drew HO197.out)
     have n2_ := mkA (z28 BK193.out)
     have n3_ := mkA (z12 HB.out)
     clear HO_3
     clear HO197
     clear BK193
     clear HB
     have HO_3 := n0_
     have HO197 := n1_
     have BK193 := n2_
     have HB := n3_
     clear n0_ n1_ n2_ n3_
     obtain ⟨Ao24, co24, eo24⟩ := Kd.R_slice HO197.out
     (first | subst eo24)
     refine start_ (n := 6) (S := fun w' => w'.cell? ⟨gb193, 0, none⟩ = some (.int .i64 a0_0) ∧ w'.cell? ⟨gb193, 1, none⟩ = some (.slice A0_1 l0_1.length c0_1) ∧ w'.cell? ⟨gb193, 2, none⟩ = some (.slice A0_2 l0_2.length c0_2)) (ds := []) #[false, false, false, false, false, false] (by kernel_rfl) rfl rfl ⟨(z13 BK193.out 0).trans rfl, (z13 BK193.out 1).trans rfl, (z13 BK193.out 2).trans rfl⟩ (fun hHeld => ?_)
     generalize w22.drew = w23 at HO_3 HO197 BK193 HB hHeld ⊢
     refine pure_ (i := 1) (N := some 16) (v := ?_) (a' := ?_) #[false, true, false, false, false, false] rfl rfl (by kernel_rfl) (fun _ _ _ h => h) (Or.inl ⟨by rfl, ?_⟩) ?_ ?_
     rotate_left
     ·intro w'
      go_simp
      with_reducible rfl
     rotate_left
     ·simp only [Act.put, xq1, xq2, xq3, i64_w, i32_w]
      rfl
     refine take_ (i := 0) (N := some 15) (v := ?_) (a' := ?_) #[true, true, false, false, false, false] rfl rfl (by kernel_rfl) (fun _ _ _ h => h) (Or.inl ⟨by rfl, ?_⟩) hHeld ?_ ?_
     rotate_left
     ·rintro w' ⟨s0, s1, s2⟩
      go_simp
      with_reducible rfl
     rotate_left
     ·simp only [Act.put, xq1, xq2, xq3, i64_w, i32_w]
      rfl
     refine take_ (i := 3) (N := some 18) (v := ?_) (a' := ?_) #[true, true, false, true, false, false] rfl rfl (by kernel_rfl) (fun _ _ _ h => h) (Or.inl ⟨by rfl, ?_⟩) hHeld ?_ ?_
     rotate_left
     ·rintro w' ⟨s0, s1, s2⟩
      go_simp
      with_reducible rfl
     rotate_left
     ·simp only [Act.put, xq1, xq2, xq3, i64_w, i32_w]
      rfl
     refine one_ (i := 2) (N := some 17) #[true, true, true, true, false, false] rfl rfl (by kernel_rfl) (by decide) (fun K hK => ?_)
     refine goes_ Try.func87 (by kernel_rfl) rfl #[.agg #[.int .i64 a0_0, .slice A0_1 l0_1.length c0_1, .slice A0_2 l0_2.length c0_2], .slice Ao24 t195.length co24] (by rfl) rfl rfl (by (try simp only [List.map_toArray, List.map_cons, List.map_nil]); first | done | rfl | (simp only [List.length_drop, List.length_take]; rfl)) ?_
     with_reducible refine (pr_Right.calls k1 a0_0 _ _ l0_1 _ _ l0_2 _ _ t195 t198 _ ?side1 ?side2 ?side3 ?side4 ?side5 ?side6 A6.out).mono ?_
     (case side1 => repeat (first | exact (Kd.C_below HR0_1.out HB.out)))
     (case side2 => exact HC0_1.out)
     (case side3 => repeat (first | exact (Kd.C_below HR0_2.out HB.out)))
     (case side4 => exact HC0_2.out)
     (case side5 => repeat (first | exact (Kd.R_reads' HO197.out).2.2))
     (case side6 => exact (Kd.R_reads' HO197.out).2.1)
     rintro e w25 ⟨rfl, hb⟩
     refine ⟨_, rfl, ?_⟩
     have n0_ := mkA (Kd.S_below (by (with_reducible repeat (first | apply Kd.S_alloc)); exact HO_3.out) hb)
     have n1_ := mkA (Kd.R_below (by (with_reducible repeat (first | apply Kd.R_alloc)); exact HO197.out) hb)
     have n2_ := mkA (blk_below (g := gb193) (o := .cells #[.int .i64 a0_0, .slice A0_1 l0_1.length c0_1, .slice A0_2 l0_2.length c0_2] 25 (0, 0)) (by (with_reducible repeat (first | refine z16 ?_ _)); exact BK193.out) hb)
     have n3_ := mkA (z17 (by repeat (with_reducible first | exact HB.out | apply z11 | apply z10 | apply z12 | refine z15 ?_ GE193.out)) hb)
     clear HO_3
     clear HO197
     clear BK193
     clear HB
     have HO_3 := n0_
     have HO197 := n1_
     have BK193 := n2_
     have HB := n3_
     clear n0_ n1_ n2_ n3_
     (try clear hb)
     (try clear hb2)
     (try clear hk)
     (try clear hi)
     refine hK.out _ _ ⟨(z13 BK193.out 0).trans rfl, (z13 BK193.out 1).trans rfl, (z13 BK193.out 2).trans rfl⟩ (fun hHeld => ?_)
     clear hK K
     refine norm_ (a' := ?_) ?_ ?_
     rotate_left
     ·show Act.put _ (some 17) _ = _
      simp only [Act.put, xq1, xq2, xq3, i64_w, i32_w]
      rfl
     refine one_ (i := 4) (N := some 19) #[true, true, true, true, true, false] rfl rfl (by kernel_rfl) (by decide) (fun K hK => ?_)
     refine goes_ Try.func62 (by kernel_rfl) rfl #[.agg #[.int .i64 a0_0, .slice A0_1 l0_1.length c0_1, .slice A0_2 l0_2.length c0_2]] (by rfl) rfl rfl (by (try simp only [List.map_toArray, List.map_cons, List.map_nil]); first | done | rfl | (simp only [List.length_drop, List.length_take]; rfl)) ?_
     with_reducible refine (pr_Full.calls a0_0 _ _ l0_1 _ _ l0_2 t199 _ ?side1 ?side2 ?side3 ?side4 A7.out).mono ?_
     (case side1 => repeat (first | exact (Kd.C_below HR0_1.out HB.out)))
     (case side2 => exact HC0_1.out)
     (case side3 => repeat (first | exact (Kd.C_below HR0_2.out HB.out)))
     (case side4 => exact HC0_2.out)
     rintro e w26 ⟨rfl, hb⟩
     refine ⟨_, rfl, ?_⟩
     have n0_ := mkA (Kd.S_below (by (with_reducible repeat (first | apply Kd.S_alloc)); exact HO_3.out) hb)
     have n1_ := mkA (Kd.R_below (by (with_reducible repeat (first | apply Kd.R_alloc)); exact HO197.out) hb)
     have n2_ := mkA (blk_below (g := gb193) (o := .cells #[.int .i64 a0_0, .slice A0_1 l0_1.length c0_1, .slice A0_2 l0_2.length c0_2] 25 (0, 0)) (by (with_reducible repeat (first | refine z16 ?_ _)); exact BK193.out) hb)
     have n3_ := mkA (z17 (by repeat (with_reducible first | exact HB.out | apply z11 | apply z10 | apply z12 | refine z15 ?_ GE193.out)) hb)
     clear HO_3
     clear HO197
     clear BK193
     clear HB
     have HO_3 := n0_
     have HO197 := n1_
     have BK193 := n2_
     have HB := n3_
     clear n0_ n1_ n2_ n3_
     (try clear hb)
     (try clear hb2)
     (try clear hk)
     (try clear hi)
     refine hK.out _ _ ⟨(z13 BK193.out 0).trans rfl, (z13 BK193.out 1).trans rfl, (z13 BK193.out 2).trans rfl⟩ (fun hHeld => ?_)
     clear hK K
     refine norm_ (a' := ?_) ?_ ?_
     rotate_left
     ·show Act.put _ (some 19) _ = _
      simp only [Act.put, xq1, xq2, xq3, i64_w, i32_w]
      rfl
     refine pure_ (i := 5) (N := some 20) (v := ?_) (a' := ?_) #[true, true, true, true, true, true] rfl rfl (by kernel_rfl) (fun _ _ _ h => h) (Or.inl ⟨by rfl, ?_⟩) ?_ ?_
     rotate_left
     ·intro w'
      go_simp
      with_reducible rfl
     rotate_left
     ·simp only [Act.put, xq1, xq2, xq3, i64_w, i32_w]
      rfl
     refine done_ (by kernel_rfl) ?_
     try go_wp2
     go_roundg k1
     case measure => have := HK1.out; omega
     case rel => exact ⟨(x3_1), (wrap64 (x4_1 + 1)), (by first | rfl | (simp; done) | (simp [*]; done)), H', ⟨by have := HK1.out; omega⟩, ⟨by (with_reducible repeat (first | apply Kd.S_alloc)); exact Kd.S_mono HO_3.out (fun _ hk => trivial)⟩, ⟨by (with_reducible repeat (first | refine z16 ?_ _)); exact BK193.out⟩, ⟨by repeat (with_reducible first | exact HB.out | apply z11 | apply z10 | apply z12 | refine z15 ?_ GE193.out)⟩⟩
   ·rw [if_neg c4] at H
    have c4b0 : decide (x4_1 < t194) = false := decide_eq_false c4
    clear c4
    obtain rfl := Option.some.inj H
    have hcz27_0 : wr.cell? ⟨gb193, 0, none⟩ = some (.int .i64 a0_0) := (z13 BK193.out 0).trans rfl
    have hcz27_1 : wr.cell? ⟨gb193, 1, none⟩ = some (.slice A0_1 l0_1.length c0_1) := (z13 BK193.out 1).trans rfl
    have hcz27_2 : wr.cell? ⟨gb193, 2, none⟩ = some (.slice A0_2 l0_2.length c0_2) := (z13 BK193.out 2).trans rfl
    have hfz27_0 := z14 BK193.out 0
    have hfz27_1 := z14 BK193.out 1
    have hfz27_2 := z14 BK193.out 2
    go_wp2_with ((with_reducible refine z23 (f := 47) rfl ?_); refine goesL_ (some 8) rfl rfl Try.func47 (by kernel_rfl) rfl #[.agg #[.int .i64 a0_0, .slice A0_1 l0_1.length c0_1, .slice A0_2 l0_2.length c0_2]] rfl (by (try simp only [List.map_toArray, List.map_cons, List.map_nil]); first | done | rfl | (simp only [List.length_drop, List.length_take]; rfl)) ?_; (with_reducible refine (pr_Many.calls k1 a0_0 _ _ l0_1 _ _ l0_2 t194 _ ?side1 ?side2 ?side3 ?side4 A3.out).mono ?_); (case side1 => repeat (first | exact (Kd.C_below HR0_1.out HB.out))); (case side2 => exact HC0_1.out); (case side3 => repeat (first | exact (Kd.C_below HR0_2.out HB.out))); (case side4 => exact HC0_2.out); rintro e w28 ⟨rfl, hb⟩; refine ⟨_, rfl, ?_⟩; have n0_ := mkA (Kd.S_below (by (with_reducible repeat (first | apply Kd.S_alloc)); exact HO_3.out) hb); have n1_ := mkA (blk_below (g := gb193) (o := .cells #[.int .i64 a0_0, .slice A0_1 l0_1.length c0_1, .slice A0_2 l0_2.length c0_2] 25 (0, 0)) (by (with_reducible repeat (first | refine z16 ?_ _)); exact BK193.out) hb); have n2_ := mkA (z17 (by repeat (with_reducible first | exact HB.out | apply z11 | apply z10 | apply z12 | refine z15 ?_ GE193.out)) hb); clear HO_3; clear BK193; clear HB; have HO_3 := n0_; have BK193 := n1_; have HB := n2_; clear n0_ n1_ n2_; (try clear hb); (try clear hb2); (try clear hk); (try clear hi))
    go_ret
    exact ⟨_, by first | rfl | (simp [z20, z19] <;> rfl) | (simp [*, z20, z19] <;> rfl), by (with_reducible repeat (first | apply Kd.S_alloc)); exact HO_3.out, by repeat (with_reducible first | exact HB.out | apply z11 | apply z10 | apply z12 | refine z15 ?_ GE193.out)⟩
end Go.Proofs.Ytncaadckehikpaa.Q
