/- A part of the proof: contracts of functions and plain facts (Q4). No condition. -/
import Derived.Test.YtncaadckehikpaaM3
import Derived.Test.YtncaadckehikpaaM11
namespace Go.Proofs.Ytncaadckehikpaa.Q
open Go.RowKit Go.Proofs.YtncaadckehikpaaW.PrintWords Go.Proofs.YtncaadckehikpaaW.PrintLast Go.Proofs.YtncaadckehikpaaW.PrintMore
attribute [local go_sem] z30 z29 max_two min_two   -- for this text's walks alone
set_option linter.unusedVariables false
set_option linter.unusedSimpArgs false
/-! ### pl_Slate: function 23 -/
mutual
def pl_Slate.l0 : Nat → Int → Int → List (S91) → List (S94) → Int → List (S122) → Option (Int × (List (S122)) × (List (S124)))
 | 0, _, _, _, _, _, _ => none
 | k + 1, x4, x136000, x136001, x136002, x138000, x138001 => if x4 < (x136001.length : Int) then (if 0 ≤ x4 then ((pl_to.f ((rd_T91 x136001 x4).f2.f0) ((rd_T91 x136001 x4).f2.f1)).bind fun bt141 => (if x138001.length < 4398046511104 then (pl_Slate.l0 k (wrap64 (x4 + 1)) x136000 x136001 x136002 x138000 (x138001 ++ [(⟨(rd_T91 x136001 x4).f0, (rd_T91 x136001 x4).f1, (⟨bt141.1, bt141.2⟩ : S44)⟩ : S122)])) else (none))) else (none)) else (pl_Slate.l1 k 0 x136000 x136001 x136002 x138000 x138001 ([] : List (S124)))
def pl_Slate.l1 : Nat → Int → Int → List (S91) → List (S94) → Int → List (S122) → List (S124) → Option (Int × (List (S122)) × (List (S124)))
 | 0, _, _, _, _, _, _, _ => none
 | k + 1, x5, x136000, x136001, x136002, x138000, x138001, x138002 => if x5 < (x136002.length : Int) then (if 0 ≤ x5 then ((pl_to.f ((rd_T94 x136002 x5).f1.f0) ((rd_T94 x136002 x5).f1.f1)).bind fun bt148 => (if x138002.length < 5864062014805 then (pl_Slate.l1 k (wrap64 (x5 + 1)) x136000 x136001 x136002 x138000 x138001 (x138002 ++ [(⟨(rd_T94 x136002 x5).f0, (⟨bt148.1, bt148.2⟩ : S44)⟩ : S124)])) else (none))) else (none)) else (some (x138000, x138001, x138002))
end
def pl_Slate.f (k : Nat) (a0_0 : Int) (l0_1 : List (S91)) (l0_2 : List (S94)) : Option (Int × (List (S122)) × (List (S124))) := pl_Slate.l0 k 0 a0_0 l0_1 l0_2 a0_0 ([] : List (S122))
def pl_Slate.T5 : Bool × List (List Nat × List Nat) := (true, [([], []), ([0], [0]), ([], []), ([2], [2]), ([], []), ([3, 4], [3, 4]), ([5], [5]), ([6], [6]), ([], []), ([8], [8]), ([], []), ([9, 10], [9, 10]), ([11], [11]), ([12], [12]), ([], []), ([14], [14]), ([], []), ([15, 16], [15, 16]), ([17], [17]), ([18], [18]), ([19], [19]), ([7, 13, 20], [7, 13, 20]), ([21], [21]), ([1, 22, 20], [1, 22]), ([0, 1, 2, 3, 4, 5, 6, 7, 8, 9, 10, 11, 12, 13, 14, 15, 16, 17, 18, 19, 20, 21, 22, 23], []), ([24, 23, 23, 0, 1, 2, 3, 4, 5, 6, 7, 8, 9, 10, 11, 12, 13, 14, 15, 16, 17, 18, 19, 20, 21, 22, 23], [23, 24])])
def pl_Slate.B5 : List Nat := [0, 1, 0, 4, 0, 28, 60, 124, 0, 256, 0, 1792, 3840, 7936, 0, 16384, 0, 114688, 245760, 507904, 1032192, 2097148, 4194300, 8388607, 16777215, 33554431]
theorem pl_Slate.tab5 : rtab .any (opsOf Try.f23 5) = pl_Slate.T5 := by kernel_rfl
theorem pl_Slate.bits5 : waitsOk pl_Slate.T5.2 pl_Slate.B5 = true := by kernel_rfl
def pl_Slate.T9 : Bool × List (List Nat × List Nat) := (true, [([], []), ([0], [0]), ([], []), ([2], [2]), ([], []), ([3, 4], [3, 4]), ([5], [5]), ([6], [6]), ([], []), ([8], [8]), ([], []), ([9, 10], [9, 10]), ([11], [11]), ([12], [12]), ([13], [13]), ([7, 14], [7, 14]), ([15], [15]), ([1, 16, 14], [1, 16]), ([0, 1, 2, 3, 4, 5, 6, 7, 8, 9, 10, 11, 12, 13, 14, 15, 16, 17], []), ([18, 17, 17, 0, 1, 2, 3, 4, 5, 6, 7, 8, 9, 10, 11, 12, 13, 14, 15, 16, 17], [17, 18])])
def pl_Slate.B9 : List Nat := [0, 1, 0, 4, 0, 28, 60, 124, 0, 256, 0, 1792, 3840, 7936, 16128, 32764, 65532, 131071, 262143, 524287]
theorem pl_Slate.tab9 : rtab .any (opsOf Try.f23 9) = pl_Slate.T9 := by kernel_rfl
theorem pl_Slate.bits9 : waitsOk pl_Slate.T9.2 pl_Slate.B9 = true := by kernel_rfl
set_option maxHeartbeats 8000000 in
set_option maxRecDepth 100000 in
theorem pl_Slate.calls (k : Nat) (a0_0 : Int) (A0_1 : Option Addr) (c0_1 : Nat) (l0_1 : List (S91)) (A0_2 : Option Addr) (c0_2 : Nat) (l0_2 : List (S94)) (r1 : Int) (r2 : List (S122)) (r3 : List (S124)) (w : World) (hr0_1 : Kd.C k91 w A0_1 l0_1.length l0_1) (hc0_1 : l0_1.length ≤ c0_1) (hr0_2 : Kd.C k94 w A0_2 l0_2.length l0_2) (hc0_2 : l0_2.length ≤ c0_2) (h : pl_Slate.f k a0_0 l0_1 l0_2 = some (r1, r2, r3)) :
  Calls Try.prog 23 #[.agg #[.int .i64 a0_0, .slice A0_1 l0_1.length c0_1, .slice A0_2 l0_2.length c0_2]] w fun e w' => ∃ v1_ v2_ : Value, e = .returned (.agg #[.int .i64 r1, v1_, v2_]) ∧ Kd.R k122 122 w' w.heap.size (fun _ => True) v1_ r2 ∧ Kd.R k124 124 w' w.heap.size (fun _ => True) v2_ r3 ∧ Below w.heap.size w w' := by
 have hu25 := Try.underlying25
 have hu35 := Try.underlying35
 have hu46 := Try.underlying46
 have hu122 := Try.underlying122
 have hu124 := Try.underlying124
 have HR0_1 := mkA hr0_1
 have HC0_1 := mkA hc0_1
 clear hr0_1 hc0_1
 have HR0_2 := mkA hr0_2
 have HC0_2 := mkA hc0_2
 clear hr0_2 hc0_2
 have HB := mkA (Below.refl w.heap.size w)
 have H : (pl_Slate.l0 k 0 a0_0 l0_1 l0_2 a0_0 ([] : List (S122))) = some (r1, r2, r3) := h
 clear h
 have H' := mkA H
 clear H
 go_enter Try.func23, Try.ntmps23
 go_wp2_with (first | ((with_reducible refine z24 (N := 1) rfl ?_); refine z23 ?hg (N := 1) ?hd (cs := #[.int .i64 a0_0, .slice A0_1 l0_1.length c0_1, .slice A0_2 l0_2.length c0_2]) (t := 25) ?hr ?_; (case hd => rfl); (case hg => rfl); (case hr => first | (go_simp; done) | (go_simp; rfl)); intro gb135 hg w2 hbox hb; have n0_ := mkA (z16 (by repeat (with_reducible first | exact HB.out | apply z10 | apply z11 | apply z13)) hb); have n1_ := mkA (hbox); have n2_ := mkA ((by rw [hg]; exact (z18 (by repeat (with_reducible first | exact HB.out | apply z10 | apply z11 | apply z13))) : w.heap.size ≤ gb135)); have n3_ := mkA ((by rw [hg]; exact (z18 (by repeat (with_reducible first | exact HB.out | apply z10 | apply z11 | apply z13))) : w.heap.size ≤ gb135)); clear HB; have HB := n0_; have BK135 := n1_; have GW135 := n2_; have GE135 := n3_; clear n0_ n1_ n2_ n3_; clear hb hbox hg) | ((with_reducible refine z24 (N := 2) rfl ?_); refine z23 ?hg (N := 2) ?hd (cs := #[.int .i64 0, .slice none 0 0, .slice none 0 0]) (t := 35) ?hr ?_; (case hd => rfl); (case hg => rfl); (case hr => first | (go_simp; done) | (go_simp; rfl)); intro gb136 hg w3 hbox hb; have n0_ := mkA (blk_below (g := gb135) (o := .cells #[.int .i64 a0_0, .slice A0_1 l0_1.length c0_1, .slice A0_2 l0_2.length c0_2] 25 (0, 0)) (by (with_reducible repeat (first | refine z17 ?_ _)); exact BK135.out) hb); have n1_ := mkA (z16 (by repeat (with_reducible first | exact HB.out | apply z10 | apply z11 | apply z13 | refine z15 ?_ GE135.out)) hb); have n2_ := mkA (hbox); have n3_ := mkA ((by rw [hg]; exact (z18 (by repeat (with_reducible first | exact HB.out | apply z10 | apply z11 | apply z13 | refine z15 ?_ GE135.out))) : w.heap.size ≤ gb136)); have n4_ := mkA ((by rw [hg]; exact (z18 (by repeat (with_reducible first | exact HB.out | apply z10 | apply z11 | apply z13 | refine z15 ?_ GE135.out))) : w.heap.size ≤ gb136)); have n5_ := mkA ((by rw [hg]; exact Nat.ne_of_lt (blk_lt (g := gb135) (o := .cells #[.int .i64 a0_0, .slice A0_1 l0_1.length c0_1, .slice A0_2 l0_2.length c0_2] 25 (0, 0)) (by (with_reducible repeat (first | refine z17 ?_ _)); exact BK135.out)) : gb135 ≠ gb136)); have n6_ := mkA ((by rw [hg]; exact Nat.ne_of_gt (blk_lt (g := gb135) (o := .cells #[.int .i64 a0_0, .slice A0_1 l0_1.length c0_1, .slice A0_2 l0_2.length c0_2] 25 (0, 0)) (by (with_reducible repeat (first | refine z17 ?_ _)); exact BK135.out)) : gb136 ≠ gb135)); clear BK135; clear HB; have BK135 := n0_; have HB := n1_; have BK136 := n2_; have GW136 := n3_; have GE136 := n4_; have NB135_136 := n5_; have NB136_135 := n6_; clear n0_ n1_ n2_ n3_ n4_ n5_ n6_; clear hb hbox hg; have hnb4 := NB135_136.out; have hnc4 := NB136_135.out; have hcz5_0 : w3.cell? ⟨gb135, 0, none⟩ = some (.int .i64 a0_0) := (z12 BK135.out 0).trans rfl; have hcz5_1 : w3.cell? ⟨gb135, 1, none⟩ = some (.slice A0_1 l0_1.length c0_1) := (z12 BK135.out 1).trans rfl; have hcz5_2 : w3.cell? ⟨gb135, 2, none⟩ = some (.slice A0_2 l0_2.length c0_2) := (z12 BK135.out 2).trans rfl; have hfz5_0 := z14 BK135.out 0; have hfz5_1 := z14 BK135.out 1; have hfz5_2 := z14 BK135.out 2) | ((with_reducible refine z24 (N := 3) rfl ?_); refine z23 ?hg (N := 3) ?hd (cs := #[.int .i64 0, .slice none 0 0, .slice none 0 0]) (t := 35) ?hr ?_; (case hd => rfl); (case hg => rfl); (case hr => first | (go_simp; done) | (go_simp; rfl)); intro gb137 hg w6 hbox hb; have n0_ := mkA (blk_below (g := gb135) (o := .cells #[.int .i64 a0_0, .slice A0_1 l0_1.length c0_1, .slice A0_2 l0_2.length c0_2] 25 (0, 0)) (by (with_reducible repeat (first | refine z17 ?_ _)); exact BK135.out) hb); have n1_ := mkA (blk_below (g := gb136) (o := .cells #[.int .i64 0, .slice none 0 0, .slice none 0 0] 35 (0, 0)) (by (with_reducible repeat (first | refine z17 ?_ _)); exact BK136.out) hb); have n2_ := mkA (z16 (by repeat (with_reducible first | exact HB.out | apply z10 | apply z11 | apply z13 | refine z15 ?_ GE135.out | refine z15 ?_ GE136.out)) hb); have n3_ := mkA (hbox); have n4_ := mkA ((by rw [hg]; exact (z18 (by repeat (with_reducible first | exact HB.out | apply z10 | apply z11 | apply z13 | refine z15 ?_ GE135.out | refine z15 ?_ GE136.out))) : w.heap.size ≤ gb137)); have n5_ := mkA ((by rw [hg]; exact (z18 (by repeat (with_reducible first | exact HB.out | apply z10 | apply z11 | apply z13 | refine z15 ?_ GE135.out | refine z15 ?_ GE136.out))) : w.heap.size ≤ gb137)); have n6_ := mkA ((by rw [hg]; exact Nat.ne_of_lt (blk_lt (g := gb135) (o := .cells #[.int .i64 a0_0, .slice A0_1 l0_1.length c0_1, .slice A0_2 l0_2.length c0_2] 25 (0, 0)) (by (with_reducible repeat (first | refine z17 ?_ _)); exact BK135.out)) : gb135 ≠ gb137)); have n7_ := mkA ((by rw [hg]; exact Nat.ne_of_gt (blk_lt (g := gb135) (o := .cells #[.int .i64 a0_0, .slice A0_1 l0_1.length c0_1, .slice A0_2 l0_2.length c0_2] 25 (0, 0)) (by (with_reducible repeat (first | refine z17 ?_ _)); exact BK135.out)) : gb137 ≠ gb135)); have n8_ := mkA ((by rw [hg]; exact Nat.ne_of_lt (blk_lt (g := gb136) (o := .cells #[.int .i64 0, .slice none 0 0, .slice none 0 0] 35 (0, 0)) (by (with_reducible repeat (first | refine z17 ?_ _)); exact BK136.out)) : gb136 ≠ gb137)); have n9_ := mkA ((by rw [hg]; exact Nat.ne_of_gt (blk_lt (g := gb136) (o := .cells #[.int .i64 0, .slice none 0 0, .slice none 0 0] 35 (0, 0)) (by (with_reducible repeat (first | refine z17 ?_ _)); exact BK136.out)) : gb137 ≠ gb136)); clear BK135; clear BK136; clear HB; have BK135 := n0_; have BK136 := n1_; have HB := n2_; have BK137 := n3_; have GW137 := n4_; have GE137 := n5_; have NB135_137 := n6_; have NB137_135 := n7_; have NB136_137 := n8_; have NB137_136 := n9_; clear n0_ n1_ n2_ n3_ n4_ n5_ n6_ n7_ n8_ n9_; clear hb hbox hg; have hnb7 := NB137_135.out; have hnc7 := NB135_137.out; have hnb8 := NB137_136.out; have hnc8 := NB136_137.out; have hcz9_0 : w6.cell? ⟨gb137, 0, none⟩ = some (.int .i64 0) := (z12 BK137.out 0).trans rfl; have hcz9_1 : w6.cell? ⟨gb137, 1, none⟩ = some (.slice none 0 0) := (z12 BK137.out 1).trans rfl; have hcz9_2 : w6.cell? ⟨gb137, 2, none⟩ = some (.slice none 0 0) := (z12 BK137.out 2).trans rfl; have hfz9_0 := z14 BK137.out 0; have hfz9_1 := z14 BK137.out 1; have hfz9_2 := z14 BK137.out 2))
 go_loopg [4] k (fun kq v4 w' => ∃ (x4_1 : Int) (x138001_1 : List (S122)) (u138001 : Value), v4 = .int .i64 x4_1 ∧ Aside0 (pl_Slate.l0 kq x4_1 a0_0 l0_1 l0_2 a0_0 x138001_1 = some (r1, r2, r3)) ∧ Aside0 (kq ≤ k) ∧ Aside0 (Kd.R k122 122 w' w.heap.size (fun _ => True) u138001 x138001_1) ∧ Aside0 (w'.heap[gb135]? = some (.cells #[.int .i64 a0_0, (.slice A0_1 l0_1.length c0_1), (.slice A0_2 l0_2.length c0_2)] 25 (0, 0))) ∧ Aside0 (w'.heap[gb136]? = some (.cells #[.int .i64 0, (.slice none 0 0), (.slice none 0 0)] 35 (0, 0))) ∧ Aside0 (w'.heap[gb137]? = some (.cells #[.int .i64 a0_0, u138001, (.slice none 0 0)] 35 (0, 0))) ∧ Aside0 (Below w.heap.size w w'))
 case atStart => exact ⟨(0), (([] : List (S122))), (.slice none 0 0), (by first | rfl | (simp; done) | (simp [*]; done)), H', ⟨Nat.le_refl _⟩, ⟨by first | exact Kd.R_nil _ _ _ _ _ | exact Kd.N_nil _ _ _ _ _ | exact Kd.V_nil _ _ _ _ _ | exact Kd.Q_nil _ _ _ _ _ | exact Kd.S_nil _ _ _ _ _⟩, ⟨by (with_reducible repeat (first | refine z17 ?_ _)); refine blk_far ?_ NB135_137.out _; (with_reducible repeat (first | refine z17 ?_ _)); refine blk_far ?_ NB135_137.out _; (with_reducible repeat (first | refine z17 ?_ _)); refine blk_far ?_ NB135_137.out _; (with_reducible repeat (first | refine z17 ?_ _)); exact BK135.out⟩, ⟨by (with_reducible repeat (first | refine z17 ?_ _)); refine blk_far ?_ NB136_137.out _; (with_reducible repeat (first | refine z17 ?_ _)); refine blk_far ?_ NB136_137.out _; (with_reducible repeat (first | refine z17 ?_ _)); refine blk_far ?_ NB136_137.out _; (with_reducible repeat (first | refine z17 ?_ _)); exact BK136.out⟩, ⟨by (with_reducible repeat (first | refine z17 ?_ _)); refine blk_put (cs := #[.int .i64 a0_0, .slice none 0 0, .slice none 0 0]) ?_ 2 _ rfl; (with_reducible repeat (first | refine z17 ?_ _)); refine blk_put (cs := #[.int .i64 a0_0, .slice none 0 0, .slice none 0 0]) ?_ 1 _ rfl; (with_reducible repeat (first | refine z17 ?_ _)); refine blk_put (cs := #[.int .i64 0, .slice none 0 0, .slice none 0 0]) ?_ 0 _ rfl; (with_reducible repeat (first | refine z17 ?_ _)); exact BK137.out⟩, ⟨by repeat (with_reducible first | exact HB.out | apply z10 | apply z11 | apply z13 | refine z15 ?_ GE135.out | refine z15 ?_ GE136.out | refine z15 ?_ GE137.out)⟩⟩
 case round =>
  clear H'
  try clear c2
  try clear p2
  try clear c4
  try clear c7
  try clear c8
  try clear hcz5_0
  try clear hcz5_1
  try clear hcz5_2
  try clear hcz9_0
  try clear hcz9_1
  try clear hcz9_2
  try clear hfz5_0
  try clear hfz5_1
  try clear hfz5_2
  try clear hfz9_0
  try clear hfz9_1
  try clear hfz9_2
  obtain ⟨x4_1, x138001_1, u138001, rfl, HA, HK1, HO_138001, BK135, BK136, BK137, HB⟩ := hrel
  cases gk with
  | zero => exact absurd HA.out (by simp [pl_Slate.l0])
  | succ k1 =>
   have H := HA.out
   clear HA
   simp only [pl_Slate.l0] at H
   by_cases c10 : x4_1 < (l0_1.length : Int)
   ·rw [if_pos c10] at H
    have c10b0 : decide (x4_1 < (l0_1.length : Int)) = true := decide_eq_true c10
    clear c10
    by_cases c11 : 0 ≤ x4_1
    ·rw [if_pos c11] at H
     have c11b0 : decide (0 ≤ x4_1) = true := decide_eq_true c11
     clear c11
     replace H := Option.bind_eq_some_iff.mp H
     obtain ⟨⟨t141, t142⟩, A120, H⟩ := H
     replace H : (if x138001_1.length < 4398046511104 then (pl_Slate.l0 k1 (wrap64 (x4_1 + 1)) a0_0 l0_1 l0_2 a0_0 (x138001_1 ++ [(⟨(rd_T91 l0_1 x4_1).f0, (rd_T91 l0_1 x4_1).f1, (⟨t141, t142⟩ : S44)⟩ : S122)])) else (none)) = some (r1, r2, r3) := H
     have A12 := mkA A120
     clear A120
     by_cases c13 : x138001_1.length < 4398046511104
     ·rw [if_pos c13] at H
      have LMc13 := mkA c13
      clear c13
      obtain ⟨y143, hy143⟩ : ∃ y_ : List (S122), y_ = (x138001_1 ++ [(⟨(rd_T91 l0_1 x4_1).f0, (rd_T91 l0_1 x4_1).f1, (⟨t141, t142⟩ : S44)⟩ : S122)]) := ⟨_, rfl⟩
      replace H : (pl_Slate.l0 k1 (wrap64 (x4_1 + 1)) a0_0 l0_1 l0_2 a0_0 y143) = some (r1, r2, r3) := by first | (rw [hy143]; with_reducible exact H) | (have H2_ := (Option.bind_some _ _).symm.trans H; rw [hy143]; with_reducible exact H2_) | (have H2_ := (Option.bind_some _ _).symm.trans H; with_reducible exact H2_) | with_reducible exact H | (rw [hy143]; exact H) | exact H
      have Ny143 := mkA hy143
      clear hy143
      have H' := mkA H
      clear H
      have hnb14 := NB135_136.out
      have hnc14 := NB136_135.out
      have hnb15 := NB135_137.out
      have hnc15 := NB137_135.out
      have hcz16_0 : wr.cell? ⟨gb135, 0, none⟩ = some (.int .i64 a0_0) := (z12 BK135.out 0).trans rfl
      have hcz16_1 : wr.cell? ⟨gb135, 1, none⟩ = some (.slice A0_1 l0_1.length c0_1) := (z12 BK135.out 1).trans rfl
      have hcz16_2 : wr.cell? ⟨gb135, 2, none⟩ = some (.slice A0_2 l0_2.length c0_2) := (z12 BK135.out 2).trans rfl
      have hfz16_0 := z14 BK135.out 0
      have hfz16_1 := z14 BK135.out 1
      have hfz16_2 := z14 BK135.out 2
      try go_wp2
      have n0_ := mkA (Kd.R_drew HO_138001.out)
      have n1_ := mkA (z40 BK135.out)
      have n2_ := mkA (z40 BK136.out)
      have n3_ := mkA (z40 BK137.out)
      have n4_ := mkA (z13 HB.out)
      clear HO_138001
      clear BK135
      clear BK136
      clear BK137
      clear HB
      have HO_138001 := n0_
      have BK135 := n1_
      have BK136 := n2_
      have BK137 := n3_
      have HB := n4_
      clear n0_ n1_ n2_ n3_ n4_
      have p138 : 0 ≤ (x4_1 : Int) := of_decide_eq_true (by first | (with_reducible assumption) | assumption)
      have q138 : x4_1 < (l0_1.length : Int) := of_decide_eq_true (by first | (with_reducible assumption) | assumption)
      obtain ⟨ad138, e138, hx138_0, hx138_1, hx138_2, hx138_3⟩ := at_T91 HR0_1.out x4_1 p138 q138
      have hw138_3 := hx138_3
      have hw138_2 := hx138_2
      have hw138_1 := hx138_1
      have hw138_0 := hx138_0
      cases e138
      replace hx138_0 := (HB.out.cell (World.block_lt_of_cell? w _ hx138_0)).trans hx138_0
      replace hx138_1 := (HB.out.cell (World.block_lt_of_cell? w _ hx138_1)).trans hx138_1
      replace hx138_2 := (HB.out.cell (World.block_lt_of_cell? w _ hx138_2)).trans hx138_2
      replace hx138_3 := (HB.out.cell (World.block_lt_of_cell? w _ hx138_3)).trans hx138_3
      replace p138 := eq_true p138
      replace q138 := eq_true q138
      have p139 : 0 ≤ (x4_1 : Int) := of_decide_eq_true (by first | (with_reducible assumption) | assumption)
      have q139 : x4_1 < (l0_1.length : Int) := of_decide_eq_true (by first | (with_reducible assumption) | assumption)
      obtain ⟨ad139, e139, hx139_0, hx139_1, hx139_2, hx139_3⟩ := at_T91 HR0_1.out x4_1 p139 q139
      have hw139_3 := hx139_3
      have hw139_2 := hx139_2
      have hw139_1 := hx139_1
      have hw139_0 := hx139_0
      obtain rfl : ad138 = ad139 := (by injection e139)
      replace hx139_0 := (HB.out.cell (World.block_lt_of_cell? w _ hx139_0)).trans hx139_0
      replace hx139_1 := (HB.out.cell (World.block_lt_of_cell? w _ hx139_1)).trans hx139_1
      replace hx139_2 := (HB.out.cell (World.block_lt_of_cell? w _ hx139_2)).trans hx139_2
      replace hx139_3 := (HB.out.cell (World.block_lt_of_cell? w _ hx139_3)).trans hx139_3
      replace p139 := eq_true p139
      replace q139 := eq_true q139
      have p140 : 0 ≤ (x4_1 : Int) := of_decide_eq_true (by first | (with_reducible assumption) | assumption)
      have q140 : x4_1 < (l0_1.length : Int) := of_decide_eq_true (by first | (with_reducible assumption) | assumption)
      obtain ⟨ad140, e140, hx140_0, hx140_1, hx140_2, hx140_3⟩ := at_T91 HR0_1.out x4_1 p140 q140
      have hw140_3 := hx140_3
      have hw140_2 := hx140_2
      have hw140_1 := hx140_1
      have hw140_0 := hx140_0
      obtain rfl : ad138 = ad140 := (by injection e140)
      replace hx140_0 := (HB.out.cell (World.block_lt_of_cell? w _ hx140_0)).trans hx140_0
      replace hx140_1 := (HB.out.cell (World.block_lt_of_cell? w _ hx140_1)).trans hx140_1
      replace hx140_2 := (HB.out.cell (World.block_lt_of_cell? w _ hx140_2)).trans hx140_2
      replace hx140_3 := (HB.out.cell (World.block_lt_of_cell? w _ hx140_3)).trans hx140_3
      replace p140 := eq_true p140
      replace q140 := eq_true q140
      refine start_ (n := 26) (S := fun w' => w'.cell? ⟨gb137, 0, none⟩ = some (.int .i64 a0_0) ∧ w'.cell? ⟨gb137, 1, none⟩ = some (u138001) ∧ w'.cell? ⟨gb137, 2, none⟩ = some (.slice none 0 0) ∧ w'.cell? ⟨gb135, 0, none⟩ = some (.int .i64 a0_0) ∧ w'.cell? ⟨gb135, 1, none⟩ = some (.slice (some ad138) l0_1.length c0_1) ∧ w'.cell? ⟨gb135, 2, none⟩ = some (.slice A0_2 l0_2.length c0_2) ∧ w'.cell? (ad138.add ((x4_1).toNat * 4)) = some (.int .i64 ((rd_T91 l0_1 x4_1).f0)) ∧ w'.cell? ⟨(ad138.add ((x4_1).toNat * 4)).block, (ad138.add ((x4_1).toNat * 4)).off + 1, none⟩ = some (.int .i64 ((rd_T91 l0_1 x4_1).f1)) ∧ w'.cell? ⟨(ad138.add ((x4_1).toNat * 4)).block, (ad138.add ((x4_1).toNat * 4)).off + 2, none⟩ = some (.int .i64 ((rd_T91 l0_1 x4_1).f2.f0)) ∧ w'.cell? ⟨(ad138.add ((x4_1).toNat * 4)).block, (ad138.add ((x4_1).toNat * 4)).off + 3, none⟩ = some (.int .i64 ((rd_T91 l0_1 x4_1).f2.f1)) ∧ w'.cell? (ad138.add ((x4_1).toNat * 4)) = some (.int .i64 ((rd_T91 l0_1 x4_1).f0)) ∧ w'.cell? ⟨(ad138.add ((x4_1).toNat * 4)).block, (ad138.add ((x4_1).toNat * 4)).off + 1, none⟩ = some (.int .i64 ((rd_T91 l0_1 x4_1).f1)) ∧ w'.cell? ⟨(ad138.add ((x4_1).toNat * 4)).block, (ad138.add ((x4_1).toNat * 4)).off + 2, none⟩ = some (.int .i64 ((rd_T91 l0_1 x4_1).f2.f0)) ∧ w'.cell? ⟨(ad138.add ((x4_1).toNat * 4)).block, (ad138.add ((x4_1).toNat * 4)).off + 3, none⟩ = some (.int .i64 ((rd_T91 l0_1 x4_1).f2.f1)) ∧ w'.cell? (ad138.add ((x4_1).toNat * 4)) = some (.int .i64 ((rd_T91 l0_1 x4_1).f0)) ∧ w'.cell? ⟨(ad138.add ((x4_1).toNat * 4)).block, (ad138.add ((x4_1).toNat * 4)).off + 1, none⟩ = some (.int .i64 ((rd_T91 l0_1 x4_1).f1)) ∧ w'.cell? ⟨(ad138.add ((x4_1).toNat * 4)).block, (ad138.add ((x4_1).toNat * 4)).off + 2, none⟩ = some (.int .i64 ((rd_T91 l0_1 x4_1).f2.f0)) ∧ w'.cell? ⟨(ad138.add ((x4_1).toNat * 4)).block, (ad138.add ((x4_1).toNat * 4)).off + 3, none⟩ = some (.int .i64 ((rd_T91 l0_1 x4_1).f2.f1))) (ds := [25]) #[false, false, false, false, false, false, false, false, false, false, false, false, false, false, false, false, false, false, false, false, false, false, false, false, false, false] (by kernel_rfl) rfl rfl ⟨(z12 BK137.out 0).trans rfl, (z12 BK137.out 1).trans rfl, (z12 BK137.out 2).trans rfl, (z12 BK135.out 0).trans rfl, (z12 BK135.out 1).trans rfl, (z12 BK135.out 2).trans rfl, ((HB.out.cell (World.block_lt_of_cell? w _ hw138_0)).trans hw138_0), ((HB.out.cell (World.block_lt_of_cell? w _ hw138_1)).trans hw138_1), ((HB.out.cell (World.block_lt_of_cell? w _ hw138_2)).trans hw138_2), ((HB.out.cell (World.block_lt_of_cell? w _ hw138_3)).trans hw138_3), ((HB.out.cell (World.block_lt_of_cell? w _ hw139_0)).trans hw139_0), ((HB.out.cell (World.block_lt_of_cell? w _ hw139_1)).trans hw139_1), ((HB.out.cell (World.block_lt_of_cell? w _ hw139_2)).trans hw139_2), ((HB.out.cell (World.block_lt_of_cell? w _ hw139_3)).trans hw139_3), ((HB.out.cell (World.block_lt_of_cell? w _ hw140_0)).trans hw140_0), ((HB.out.cell (World.block_lt_of_cell? w _ hw140_1)).trans hw140_1), ((HB.out.cell (World.block_lt_of_cell? w _ hw140_2)).trans hw140_2), ((HB.out.cell (World.block_lt_of_cell? w _ hw140_3)).trans hw140_3)⟩ (fun hHeld => ?_); refine with_tabW pl_Slate.tab5 pl_Slate.bits5 (fun HT_ HW_ => ?_)
      generalize wr.drew = w17 at HO_138001 BK135 BK136 BK137 HB hx138_0 hx138_1 hx138_2 hx138_3 hx139_0 hx139_1 hx139_2 hx139_3 hx140_0 hx140_1 hx140_2 hx140_3 hHeld ⊢
      refine pure_ (i := 0) (N := some 16) (v := ?_) (a' := ?_) #[true, false, false, false, false, false, false, false, false, false, false, false, false, false, false, false, false, false, false, false, false, false, false, false, false, false] rfl rfl (any_of HT_.out (by kernel_rfl)) (fun _ _ _ h => h) (Or.inl ⟨by rfl, ?_⟩) ?_ ?_
      rotate_left
      ·intro w'
       go_simp
       with_reducible rfl
      rotate_left
      ·simp only [Act.put, xq1, xq2, xq3, i64_w, i32_w]
       rfl
      refine pure_ (i := 2) (N := some 18) (v := ?_) (a' := ?_) #[true, false, true, false, false, false, false, false, false, false, false, false, false, false, false, false, false, false, false, false, false, false, false, false, false, false] rfl rfl (any_of HT_.out (by kernel_rfl)) (fun _ _ _ h => h) (Or.inl ⟨by rfl, ?_⟩) ?_ ?_
      rotate_left
      ·intro w'
       go_simp
       with_reducible rfl
      rotate_left
      ·simp only [Act.put, xq1, xq2, xq3, i64_w, i32_w]
       rfl
      refine pure_ (i := 4) (N := some 20) (v := ?_) (a' := ?_) #[true, false, true, false, true, false, false, false, false, false, false, false, false, false, false, false, false, false, false, false, false, false, false, false, false, false] rfl rfl (any_of HT_.out (by kernel_rfl)) (fun _ _ _ h => h) (Or.inl ⟨by rfl, ?_⟩) ?_ ?_
      rotate_left
      ·intro w'
       go_simp
       with_reducible rfl
      rotate_left
      ·simp only [Act.put, xq1, xq2, xq3, i64_w, i32_w]
       rfl
      refine pure_ (i := 8) (N := some 24) (v := ?_) (a' := ?_) #[true, false, true, false, true, false, false, false, true, false, false, false, false, false, false, false, false, false, false, false, false, false, false, false, false, false] rfl rfl (any_of HT_.out (by kernel_rfl)) (fun _ _ _ h => h) (Or.inl ⟨by rfl, ?_⟩) ?_ ?_
      rotate_left
      ·intro w'
       go_simp
       with_reducible rfl
      rotate_left
      ·simp only [Act.put, xq1, xq2, xq3, i64_w, i32_w]
       rfl
      refine pure_ (i := 10) (N := some 26) (v := ?_) (a' := ?_) #[true, false, true, false, true, false, false, false, true, false, true, false, false, false, false, false, false, false, false, false, false, false, false, false, false, false] rfl rfl (any_of HT_.out (by kernel_rfl)) (fun _ _ _ h => h) (Or.inl ⟨by rfl, ?_⟩) ?_ ?_
      rotate_left
      ·intro w'
       go_simp
       with_reducible rfl
      rotate_left
      ·simp only [Act.put, xq1, xq2, xq3, i64_w, i32_w]
       rfl
      refine pure_ (i := 14) (N := some 30) (v := ?_) (a' := ?_) #[true, false, true, false, true, false, false, false, true, false, true, false, false, false, true, false, false, false, false, false, false, false, false, false, false, false] rfl rfl (any_of HT_.out (by kernel_rfl)) (fun _ _ _ h => h) (Or.inl ⟨by rfl, ?_⟩) ?_ ?_
      rotate_left
      ·intro w'
       go_simp
       with_reducible rfl
      rotate_left
      ·simp only [Act.put, xq1, xq2, xq3, i64_w, i32_w]
       rfl
      refine pure_ (i := 16) (N := some 32) (v := ?_) (a' := ?_) #[true, false, true, false, true, false, false, false, true, false, true, false, false, false, true, false, true, false, false, false, false, false, false, false, false, false] rfl rfl (any_of HT_.out (by kernel_rfl)) (fun _ _ _ h => h) (Or.inl ⟨by rfl, ?_⟩) ?_ ?_
      rotate_left
      ·intro w'
       go_simp
       with_reducible rfl
      rotate_left
      ·simp only [Act.put, xq1, xq2, xq3, i64_w, i32_w]
       rfl
      refine take_ (i := 1) (N := some 17) (v := ?_) (a' := ?_) #[true, true, true, false, true, false, false, false, true, false, true, false, false, false, true, false, true, false, false, false, false, false, false, false, false, false] rfl rfl (z45 HT_.out HW_.out (by kernel_rfl)) (fun _ _ _ h => h) (Or.inl ⟨by rfl, ?_⟩) hHeld ?_ ?_
      rotate_left
      ·rintro w' ⟨s0, s1, s2, s3, s4, s5, s6, s7, s8, s9, s10, s11, s12, s13, s14, s15, s16, s17⟩
       go_simp
       with_reducible rfl
      rotate_left
      ·simp only [Act.put, xq1, xq2, xq3, i64_w, i32_w]
       rfl
      refine take_ (i := 3) (N := some 19) (v := ?_) (a' := ?_) #[true, true, true, true, true, false, false, false, true, false, true, false, false, false, true, false, true, false, false, false, false, false, false, false, false, false] rfl rfl (z45 HT_.out HW_.out (by kernel_rfl)) (fun _ _ _ h => h) (Or.inl ⟨by rfl, ?_⟩) hHeld ?_ ?_
      rotate_left
      ·rintro w' ⟨s0, s1, s2, s3, s4, s5, s6, s7, s8, s9, s10, s11, s12, s13, s14, s15, s16, s17⟩
       go_simp
       with_reducible rfl
      rotate_left
      ·simp only [Act.put, xq1, xq2, xq3, i64_w, i32_w]
       rfl
      refine pure_ (i := 5) (N := some 21) (v := ?_) (a' := ?_) #[true, true, true, true, true, true, false, false, true, false, true, false, false, false, true, false, true, false, false, false, false, false, false, false, false, false] rfl rfl (any_of HT_.out (by kernel_rfl)) (fun _ _ _ h => h) (Or.inl ⟨by rfl, ?_⟩) ?_ ?_
      rotate_left
      ·intro w'
       go_simp
       with_reducible rfl
      rotate_left
      ·simp only [Act.put, xq1, xq2, xq3, i64_w, i32_w]
       rfl
      refine pure_ (i := 6) (N := some 22) (v := ?_) (a' := ?_) #[true, true, true, true, true, true, true, false, true, false, true, false, false, false, true, false, true, false, false, false, false, false, false, false, false, false] rfl rfl (any_of HT_.out (by kernel_rfl)) (fun _ _ _ h => h) (Or.inl ⟨by rfl, ?_⟩) ?_ ?_
      rotate_left
      ·intro w'
       go_simp
       with_reducible rfl
      rotate_left
      ·simp only [Act.put, xq1, xq2, xq3, i64_w, i32_w]
       rfl
      refine take_ (i := 7) (N := some 23) (v := ?_) (a' := ?_) #[true, true, true, true, true, true, true, true, true, false, true, false, false, false, true, false, true, false, false, false, false, false, false, false, false, false] rfl rfl (z45 HT_.out HW_.out (by kernel_rfl)) (fun _ _ _ h => h) (Or.inl ⟨by rfl, ?_⟩) hHeld ?_ ?_
      rotate_left
      ·rintro w' ⟨s0, s1, s2, s3, s4, s5, s6, s7, s8, s9, s10, s11, s12, s13, s14, s15, s16, s17⟩
       go_simp
       with_reducible rfl
      rotate_left
      ·simp only [Act.put, xq1, xq2, xq3, i64_w, i32_w]
       rfl
      refine take_ (i := 9) (N := some 25) (v := ?_) (a' := ?_) #[true, true, true, true, true, true, true, true, true, true, true, false, false, false, true, false, true, false, false, false, false, false, false, false, false, false] rfl rfl (z45 HT_.out HW_.out (by kernel_rfl)) (fun _ _ _ h => h) (Or.inl ⟨by rfl, ?_⟩) hHeld ?_ ?_
      rotate_left
      ·rintro w' ⟨s0, s1, s2, s3, s4, s5, s6, s7, s8, s9, s10, s11, s12, s13, s14, s15, s16, s17⟩
       go_simp
       with_reducible rfl
      rotate_left
      ·simp only [Act.put, xq1, xq2, xq3, i64_w, i32_w]
       rfl
      refine pure_ (i := 11) (N := some 27) (v := ?_) (a' := ?_) #[true, true, true, true, true, true, true, true, true, true, true, true, false, false, true, false, true, false, false, false, false, false, false, false, false, false] rfl rfl (any_of HT_.out (by kernel_rfl)) (fun _ _ _ h => h) (Or.inl ⟨by rfl, ?_⟩) ?_ ?_
      rotate_left
      ·intro w'
       go_simp
       with_reducible rfl
      rotate_left
      ·simp only [Act.put, xq1, xq2, xq3, i64_w, i32_w]
       rfl
      refine pure_ (i := 12) (N := some 28) (v := ?_) (a' := ?_) #[true, true, true, true, true, true, true, true, true, true, true, true, true, false, true, false, true, false, false, false, false, false, false, false, false, false] rfl rfl (any_of HT_.out (by kernel_rfl)) (fun _ _ _ h => h) (Or.inl ⟨by rfl, ?_⟩) ?_ ?_
      rotate_left
      ·intro w'
       go_simp
       with_reducible rfl
      rotate_left
      ·simp only [Act.put, xq1, xq2, xq3, i64_w, i32_w]
       rfl
      refine take_ (i := 13) (N := some 29) (v := ?_) (a' := ?_) #[true, true, true, true, true, true, true, true, true, true, true, true, true, true, true, false, true, false, false, false, false, false, false, false, false, false] rfl rfl (z45 HT_.out HW_.out (by kernel_rfl)) (fun _ _ _ h => h) (Or.inl ⟨by rfl, ?_⟩) hHeld ?_ ?_
      rotate_left
      ·rintro w' ⟨s0, s1, s2, s3, s4, s5, s6, s7, s8, s9, s10, s11, s12, s13, s14, s15, s16, s17⟩
       go_simp
       with_reducible rfl
      rotate_left
      ·simp only [Act.put, xq1, xq2, xq3, i64_w, i32_w]
       rfl
      refine take_ (i := 15) (N := some 31) (v := ?_) (a' := ?_) #[true, true, true, true, true, true, true, true, true, true, true, true, true, true, true, true, true, false, false, false, false, false, false, false, false, false] rfl rfl (z45 HT_.out HW_.out (by kernel_rfl)) (fun _ _ _ h => h) (Or.inl ⟨by rfl, ?_⟩) hHeld ?_ ?_
      rotate_left
      ·rintro w' ⟨s0, s1, s2, s3, s4, s5, s6, s7, s8, s9, s10, s11, s12, s13, s14, s15, s16, s17⟩
       go_simp
       with_reducible rfl
      rotate_left
      ·simp only [Act.put, xq1, xq2, xq3, i64_w, i32_w]
       rfl
      refine pure_ (i := 17) (N := some 33) (v := ?_) (a' := ?_) #[true, true, true, true, true, true, true, true, true, true, true, true, true, true, true, true, true, true, false, false, false, false, false, false, false, false] rfl rfl (any_of HT_.out (by kernel_rfl)) (fun _ _ _ h => h) (Or.inl ⟨by rfl, ?_⟩) ?_ ?_
      rotate_left
      ·intro w'
       go_simp
       with_reducible rfl
      rotate_left
      ·simp only [Act.put, xq1, xq2, xq3, i64_w, i32_w]
       rfl
      refine pure_ (i := 18) (N := some 34) (v := ?_) (a' := ?_) #[true, true, true, true, true, true, true, true, true, true, true, true, true, true, true, true, true, true, true, false, false, false, false, false, false, false] rfl rfl (any_of HT_.out (by kernel_rfl)) (fun _ _ _ h => h) (Or.inl ⟨by rfl, ?_⟩) ?_ ?_
      rotate_left
      ·intro w'
       go_simp
       with_reducible rfl
      rotate_left
      ·simp only [Act.put, xq1, xq2, xq3, i64_w, i32_w]
       rfl
      refine take_ (i := 19) (N := some 35) (v := ?_) (a' := ?_) #[true, true, true, true, true, true, true, true, true, true, true, true, true, true, true, true, true, true, true, true, false, false, false, false, false, false] rfl rfl (z45 HT_.out HW_.out (by kernel_rfl)) (fun _ _ _ h => h) (Or.inl ⟨by rfl, ?_⟩) hHeld ?_ ?_
      rotate_left
      ·rintro w' ⟨s0, s1, s2, s3, s4, s5, s6, s7, s8, s9, s10, s11, s12, s13, s14, s15, s16, s17⟩
       go_simp
       with_reducible rfl
      rotate_left
      ·simp only [Act.put, xq1, xq2, xq3, i64_w, i32_w]
       rfl
      refine one_ (i := 20) (N := some 36) #[true, true, true, true, true, true, true, true, true, true, true, true, true, true, true, true, true, true, true, true, true, false, false, false, false, false] rfl rfl (one_of HT_.out (by kernel_rfl)) (by decide) (fun K hK => ?_)
      refine goes_ Try.func26 (by kernel_rfl) rfl #[.agg #[.int .i64 ((rd_T91 l0_1 x4_1).f2.f0), .int .i64 ((rd_T91 l0_1 x4_1).f2.f1)]] (by rfl) rfl rfl (by (try simp only [List.map_toArray, List.map_cons, List.map_nil]); first | done | rfl | (simp only [List.length_drop, List.length_take]; rfl)) ?_
      with_reducible refine (pl_to.calls ((rd_T91 l0_1 x4_1).f2.f0) ((rd_T91 l0_1 x4_1).f2.f1) t141 t142 _ A12.out).mono ?_
      rintro e w18 ⟨rfl, hb⟩
      refine ⟨_, rfl, ?_⟩
      have n0_ := mkA (Kd.R_below (by (with_reducible repeat (first | apply Kd.R_alloc)); exact HO_138001.out) hb)
      have n1_ := mkA (blk_below (g := gb135) (o := .cells #[.int .i64 a0_0, .slice (some ad138) l0_1.length c0_1, .slice A0_2 l0_2.length c0_2] 25 (0, 0)) (by (with_reducible repeat (first | refine z17 ?_ _)); exact BK135.out) hb)
      have n2_ := mkA (blk_below (g := gb136) (o := .cells #[.int .i64 0, .slice none 0 0, .slice none 0 0] 35 (0, 0)) (by (with_reducible repeat (first | refine z17 ?_ _)); exact BK136.out) hb)
      have n3_ := mkA (blk_below (g := gb137) (o := .cells #[.int .i64 a0_0, u138001, .slice none 0 0] 35 (0, 0)) (by (with_reducible repeat (first | refine z17 ?_ _)); exact BK137.out) hb)
      have n4_ := mkA (z16 (by repeat (with_reducible first | exact HB.out | apply z10 | apply z11 | apply z13 | refine z15 ?_ GE135.out | refine z15 ?_ GE136.out | refine z15 ?_ GE137.out)) hb)
      clear HO_138001
      clear BK135
      clear BK136
      clear BK137
      clear HB
      have HO_138001 := n0_
      have BK135 := n1_
      have BK136 := n2_
      have BK137 := n3_
      have HB := n4_
      clear n0_ n1_ n2_ n3_ n4_
      (try clear hb)
      (try clear hb2)
      (try clear hk)
      (try clear hi)
      refine hK.out _ _ ⟨(z12 BK137.out 0).trans rfl, (z12 BK137.out 1).trans rfl, (z12 BK137.out 2).trans rfl, (z12 BK135.out 0).trans rfl, (z12 BK135.out 1).trans rfl, (z12 BK135.out 2).trans rfl, ((HB.out.cell (World.block_lt_of_cell? w _ hw138_0)).trans hw138_0), ((HB.out.cell (World.block_lt_of_cell? w _ hw138_1)).trans hw138_1), ((HB.out.cell (World.block_lt_of_cell? w _ hw138_2)).trans hw138_2), ((HB.out.cell (World.block_lt_of_cell? w _ hw138_3)).trans hw138_3), ((HB.out.cell (World.block_lt_of_cell? w _ hw139_0)).trans hw139_0), ((HB.out.cell (World.block_lt_of_cell? w _ hw139_1)).trans hw139_1), ((HB.out.cell (World.block_lt_of_cell? w _ hw139_2)).trans hw139_2), ((HB.out.cell (World.block_lt_of_cell? w _ hw139_3)).trans hw139_3), ((HB.out.cell (World.block_lt_of_cell? w _ hw140_0)).trans hw140_0), ((HB.out.cell (World.block_lt_of_cell? w _ hw140_1)).trans hw140_1), ((HB.out.cell (World.block_lt_of_cell? w _ hw140_2)).trans hw140_2), ((HB.out.cell (World.block_lt_of_cell? w _ hw140_3)).trans hw140_3)⟩ (fun hHeld => ?_)
      clear hK K
      refine norm_ (a' := ?_) ?_ ?_
      rotate_left
      ·show Act.put _ (some 36) _ = _
       simp only [Act.put, xq1, xq2, xq3, i64_w, i32_w]
       rfl
      refine pure_ (i := 21) (N := some 37) (v := ?_) (a' := ?_) #[true, true, true, true, true, true, true, true, true, true, true, true, true, true, true, true, true, true, true, true, true, true, false, false, false, false] rfl rfl (any_of HT_.out (by kernel_rfl)) (fun _ _ _ h => h) (Or.inl ⟨by rfl, ?_⟩) ?_ ?_
      rotate_left
      ·intro w'
       go_simp
       with_reducible rfl
      rotate_left
      ·simp only [Act.put, xq1, xq2, xq3, i64_w, i32_w]
       rfl
      refine one_ (i := 22) (N := some 38) #[true, true, true, true, true, true, true, true, true, true, true, true, true, true, true, true, true, true, true, true, true, true, true, false, false, false] rfl rfl (one_of HT_.out (by kernel_rfl)) (by decide) (fun K hK => ?_)
      refine value_ (w1 := ?_) (v := ?_) (by rfl) rfl ?_ ?_
      rotate_left 2
      ·go_simp
       constructor
       ·rfl
       ·rfl
      refine hK.out _ _ ⟨(z12 (z33 BK137.out _) 0).trans rfl, (z12 (z33 BK137.out _) 1).trans rfl, (z12 (z33 BK137.out _) 2).trans rfl, (z12 (z33 BK135.out _) 0).trans rfl, (z12 (z33 BK135.out _) 1).trans rfl, (z12 (z33 BK135.out _) 2).trans rfl, (World.cell?_alloc_lt _ _ _ (World.block_lt_of_cell? _ _ (((HB.out.cell (World.block_lt_of_cell? w _ hw138_0)).trans hw138_0)))).trans (((HB.out.cell (World.block_lt_of_cell? w _ hw138_0)).trans hw138_0)), (World.cell?_alloc_lt _ _ _ (World.block_lt_of_cell? _ _ (((HB.out.cell (World.block_lt_of_cell? w _ hw138_1)).trans hw138_1)))).trans (((HB.out.cell (World.block_lt_of_cell? w _ hw138_1)).trans hw138_1)), (World.cell?_alloc_lt _ _ _ (World.block_lt_of_cell? _ _ (((HB.out.cell (World.block_lt_of_cell? w _ hw138_2)).trans hw138_2)))).trans (((HB.out.cell (World.block_lt_of_cell? w _ hw138_2)).trans hw138_2)), (World.cell?_alloc_lt _ _ _ (World.block_lt_of_cell? _ _ (((HB.out.cell (World.block_lt_of_cell? w _ hw138_3)).trans hw138_3)))).trans (((HB.out.cell (World.block_lt_of_cell? w _ hw138_3)).trans hw138_3)), (World.cell?_alloc_lt _ _ _ (World.block_lt_of_cell? _ _ (((HB.out.cell (World.block_lt_of_cell? w _ hw139_0)).trans hw139_0)))).trans (((HB.out.cell (World.block_lt_of_cell? w _ hw139_0)).trans hw139_0)), (World.cell?_alloc_lt _ _ _ (World.block_lt_of_cell? _ _ (((HB.out.cell (World.block_lt_of_cell? w _ hw139_1)).trans hw139_1)))).trans (((HB.out.cell (World.block_lt_of_cell? w _ hw139_1)).trans hw139_1)), (World.cell?_alloc_lt _ _ _ (World.block_lt_of_cell? _ _ (((HB.out.cell (World.block_lt_of_cell? w _ hw139_2)).trans hw139_2)))).trans (((HB.out.cell (World.block_lt_of_cell? w _ hw139_2)).trans hw139_2)), (World.cell?_alloc_lt _ _ _ (World.block_lt_of_cell? _ _ (((HB.out.cell (World.block_lt_of_cell? w _ hw139_3)).trans hw139_3)))).trans (((HB.out.cell (World.block_lt_of_cell? w _ hw139_3)).trans hw139_3)), (World.cell?_alloc_lt _ _ _ (World.block_lt_of_cell? _ _ (((HB.out.cell (World.block_lt_of_cell? w _ hw140_0)).trans hw140_0)))).trans (((HB.out.cell (World.block_lt_of_cell? w _ hw140_0)).trans hw140_0)), (World.cell?_alloc_lt _ _ _ (World.block_lt_of_cell? _ _ (((HB.out.cell (World.block_lt_of_cell? w _ hw140_1)).trans hw140_1)))).trans (((HB.out.cell (World.block_lt_of_cell? w _ hw140_1)).trans hw140_1)), (World.cell?_alloc_lt _ _ _ (World.block_lt_of_cell? _ _ (((HB.out.cell (World.block_lt_of_cell? w _ hw140_2)).trans hw140_2)))).trans (((HB.out.cell (World.block_lt_of_cell? w _ hw140_2)).trans hw140_2)), (World.cell?_alloc_lt _ _ _ (World.block_lt_of_cell? _ _ (((HB.out.cell (World.block_lt_of_cell? w _ hw140_3)).trans hw140_3)))).trans (((HB.out.cell (World.block_lt_of_cell? w _ hw140_3)).trans hw140_3))⟩ (fun hHeld => ?_)
      clear hK K
      refine norm_ (a' := ?_) ?_ ?_
      rotate_left
      ·show Act.put _ (some 38) _ = _
       simp only [Act.put, xq1, xq2, xq3, i64_w, i32_w]
       rfl
      refine one_ (i := 23) (N := some 39) #[true, true, true, true, true, true, true, true, true, true, true, true, true, true, true, true, true, true, true, true, true, true, true, true, false, false] rfl rfl (one_of HT_.out (by kernel_rfl)) (by decide) (fun K hK => ?_)
      refine Kd.R_append_step k122 (w0 := w) w.heap.size (by rfl) (.tmp 17) (.tmp 38) 32 122 (.agg #[(.int .i64 0), (.int .i64 0), (.int .i64 0), (.int .i64 0)]) 32 rfl Try.underlying32 info122 rfl (by decide) (by omega) u138001 x138001_1 (⟨(rd_T91 l0_1 x4_1).f0, (rd_T91 l0_1 x4_1).f1, (⟨t141, t142⟩ : S44)⟩ : S122) [.int .i64 ((rd_T91 l0_1 x4_1).f0), .int .i64 ((rd_T91 l0_1 x4_1).f1), .int .i64 t141, .int .i64 t142] (fun _ => True) (fun _ => False) rfl rfl ?aP (fun _ hk => hk.elim) ?aF ?aO ?aB ?aS ?aL ?_
      (case aP => exact k122_mkM _ _ _ (⟨(rd_T91 l0_1 x4_1).f0, (rd_T91 l0_1 x4_1).f1, (⟨t141, t142⟩ : S44)⟩ : S122))
      (case aB => exact (by repeat (with_reducible first | exact HB.out | apply z10 | apply z11 | apply z13 | refine z15 ?_ GE135.out | refine z15 ?_ GE136.out | refine z15 ?_ GE137.out)))
      (case aF => exact (fun _ _ => trivial))
      (case aO => exact (by (with_reducible repeat (first | apply Kd.R_alloc)); exact HO_138001.out))
      (case aS => exact (z18 (by repeat (with_reducible first | exact HB.out | apply z10 | apply z11 | apply z13 | refine z15 ?_ GE135.out | refine z15 ?_ GE136.out | refine z15 ?_ GE137.out))))
      (case aL => have := LMc13.out; omega)
      intro v144 w19 ho hb hg hat
      rw [← Ny143.out] at ho
      have n0_ := mkA (z36 (g := gb135) (o := .cells #[.int .i64 a0_0, .slice (some ad138) l0_1.length c0_1, .slice A0_2 l0_2.length c0_2] 25 (0, 0)) (by (with_reducible repeat (first | refine z17 ?_ _)); exact BK135.out) hg (Kd.R_ne HO_138001.out BK135.out (by decide)))
      have n1_ := mkA (z36 (g := gb136) (o := .cells #[.int .i64 0, .slice none 0 0, .slice none 0 0] 35 (0, 0)) (by (with_reducible repeat (first | refine z17 ?_ _)); exact BK136.out) hg (Kd.R_ne HO_138001.out BK136.out (by decide)))
      have n2_ := mkA (z36 (g := gb137) (o := .cells #[.int .i64 a0_0, u138001, .slice none 0 0] 35 (0, 0)) (by (with_reducible repeat (first | refine z17 ?_ _)); exact BK137.out) hg (Kd.R_ne HO_138001.out BK137.out (by decide)))
      have n3_ := mkA (hb)
      have n4_ := mkA (ho)
      clear BK135
      clear BK136
      clear BK137
      clear HB
      clear HO_138001
      have BK135 := n0_
      have BK136 := n1_
      have BK137 := n2_
      have HB := n3_
      have HO145 := n4_
      clear n0_ n1_ n2_ n3_ n4_
      clear ho hb hg hat
      obtain ⟨Ao20, co20, eo20⟩ := Kd.R_slice HO145.out
      (first | subst eo20)
      refine hK.out _ _ ⟨(z12 BK137.out 0).trans rfl, (z12 BK137.out 1).trans rfl, (z12 BK137.out 2).trans rfl, (z12 BK135.out 0).trans rfl, (z12 BK135.out 1).trans rfl, (z12 BK135.out 2).trans rfl, ((HB.out.cell (World.block_lt_of_cell? w _ hw138_0)).trans hw138_0), ((HB.out.cell (World.block_lt_of_cell? w _ hw138_1)).trans hw138_1), ((HB.out.cell (World.block_lt_of_cell? w _ hw138_2)).trans hw138_2), ((HB.out.cell (World.block_lt_of_cell? w _ hw138_3)).trans hw138_3), ((HB.out.cell (World.block_lt_of_cell? w _ hw139_0)).trans hw139_0), ((HB.out.cell (World.block_lt_of_cell? w _ hw139_1)).trans hw139_1), ((HB.out.cell (World.block_lt_of_cell? w _ hw139_2)).trans hw139_2), ((HB.out.cell (World.block_lt_of_cell? w _ hw139_3)).trans hw139_3), ((HB.out.cell (World.block_lt_of_cell? w _ hw140_0)).trans hw140_0), ((HB.out.cell (World.block_lt_of_cell? w _ hw140_1)).trans hw140_1), ((HB.out.cell (World.block_lt_of_cell? w _ hw140_2)).trans hw140_2), ((HB.out.cell (World.block_lt_of_cell? w _ hw140_3)).trans hw140_3)⟩ (fun hHeld => ?_)
      clear hK K
      refine norm_ (a' := ?_) ?_ ?_
      rotate_left
      ·show Act.put _ (some 39) _ = _
       simp only [Act.put, xq1, xq2, xq3, i64_w, i32_w]
       rfl
      refine pure_ (i := 24) (N := some 40) (v := ?_) (a' := ?_) #[true, true, true, true, true, true, true, true, true, true, true, true, true, true, true, true, true, true, true, true, true, true, true, true, true, false] rfl rfl (any_of HT_.out (by kernel_rfl)) (fun _ _ _ h => h) (Or.inl ⟨by rfl, ?_⟩) ?_ ?_
      rotate_left
      ·intro w'
       go_simp
       with_reducible rfl
      rotate_left
      ·simp only [Act.put, xq1, xq2, xq3, i64_w, i32_w]
       rfl
      refine last_ (i := 25) (N := none) #[true, true, true, true, true, true, true, true, true, true, true, true, true, true, true, true, true, true, true, true, true, true, true, true, true, true] rfl rfl (one_of HT_.out (by kernel_rfl)) (by decide) (fun K hK => ?_)
      have hs21 : w19.cell? ⟨gb137, 1, none⟩ = some (u138001) := (z12 BK137.out 1).trans rfl
      have hfs21 := z14 BK137.out 1
      have hns21_0 := NB135_137.out
      have hns21_1 := NB136_137.out
      have hms21_0 := NB137_135.out
      have hms21_1 := NB137_136.out
      refine skip_ (w1 := ?_) (by rfl) rfl ?_ ?_
      rotate_left
      ·go_simp
       rfl
      refine hK.out _ _ ?_
      clear hK K
      refine done_ (done_of HT_.out (by kernel_rfl)) ?_
      try go_wp2
      go_roundg k1
      case measure => have := HK1.out; omega
      case rel => exact ⟨(wrap64 (x4_1 + 1)), (y143), (.slice Ao20 y143.length co20), (by first | rfl | (simp; done) | (simp [*]; done)), H', ⟨by have := HK1.out; omega⟩, ⟨by (with_reducible repeat (first | apply Kd.R_alloc)); exact Kd.R_mono (Kd.R_far (p := ⟨gb137, 1, none⟩) (Kd.R_types HO145.out BK137.out (by decide)) (fun _ hk => hk.2) (.slice Ao20 y143.length co20)) (fun _ hk => trivial)⟩, ⟨by (with_reducible repeat (first | refine z17 ?_ _)); refine blk_far ?_ NB135_137.out _; (with_reducible repeat (first | refine z17 ?_ _)); exact BK135.out⟩, ⟨by (with_reducible repeat (first | refine z17 ?_ _)); refine blk_far ?_ NB136_137.out _; (with_reducible repeat (first | refine z17 ?_ _)); exact BK136.out⟩, ⟨by (with_reducible repeat (first | refine z17 ?_ _)); refine blk_put (cs := #[.int .i64 a0_0, u138001, .slice none 0 0]) ?_ 1 _ rfl; (with_reducible repeat (first | refine z17 ?_ _)); exact BK137.out⟩, ⟨by repeat (with_reducible first | exact HB.out | apply z10 | apply z11 | apply z13 | refine z15 ?_ GE135.out | refine z15 ?_ GE136.out | refine z15 ?_ GE137.out)⟩⟩
     ·rw [if_neg c13] at H
      exact absurd H (by simp)
    ·rw [if_neg c11] at H
     exact absurd H (by simp)
   ·rw [if_neg c10] at H
    have c10b0 : decide (x4_1 < (l0_1.length : Int)) = false := decide_eq_false c10
    clear c10
    have H' := mkA H
    clear H
    have hnb22 := NB135_136.out
    have hnc22 := NB136_135.out
    have hnb23 := NB135_137.out
    have hnc23 := NB137_135.out
    have hcz24_0 : wr.cell? ⟨gb135, 0, none⟩ = some (.int .i64 a0_0) := (z12 BK135.out 0).trans rfl
    have hcz24_1 : wr.cell? ⟨gb135, 1, none⟩ = some (.slice A0_1 l0_1.length c0_1) := (z12 BK135.out 1).trans rfl
    have hcz24_2 : wr.cell? ⟨gb135, 2, none⟩ = some (.slice A0_2 l0_2.length c0_2) := (z12 BK135.out 2).trans rfl
    have hfz24_0 := z14 BK135.out 0
    have hfz24_1 := z14 BK135.out 1
    have hfz24_2 := z14 BK135.out 2
    go_wp2
    go_loopg [5] k1 (fun kq v5 w' => ∃ (x5_2 : Int) (x138002_2 : List (S124)) (u138002 : Value), v5 = .int .i64 x5_2 ∧ Aside0 (pl_Slate.l1 kq x5_2 a0_0 l0_1 l0_2 a0_0 x138001_1 x138002_2 = some (r1, r2, r3)) ∧ Aside0 (kq ≤ k1) ∧ Aside0 (Kd.R k122 122 w' w.heap.size (fun _ => True) u138001 x138001_1) ∧ Aside0 (Kd.R k124 124 w' w.heap.size (fun _ => True) u138002 x138002_2) ∧ Aside0 (w'.heap[gb135]? = some (.cells #[.int .i64 a0_0, (.slice A0_1 l0_1.length c0_1), (.slice A0_2 l0_2.length c0_2)] 25 (0, 0))) ∧ Aside0 (w'.heap[gb136]? = some (.cells #[.int .i64 0, (.slice none 0 0), (.slice none 0 0)] 35 (0, 0))) ∧ Aside0 (w'.heap[gb137]? = some (.cells #[.int .i64 a0_0, u138001, u138002] 35 (0, 0))) ∧ Aside0 (Below w.heap.size w w'))
    case atStart => exact ⟨(0), (([] : List (S124))), (.slice none 0 0), (by first | rfl | (simp; done) | (simp [*]; done)), H', ⟨Nat.le_refl _⟩, ⟨by (with_reducible repeat (first | apply Kd.R_alloc)); exact HO_138001.out⟩, ⟨by first | exact Kd.R_nil _ _ _ _ _ | exact Kd.N_nil _ _ _ _ _ | exact Kd.V_nil _ _ _ _ _ | exact Kd.Q_nil _ _ _ _ _ | exact Kd.S_nil _ _ _ _ _⟩, ⟨by (with_reducible repeat (first | refine z17 ?_ _)); exact BK135.out⟩, ⟨by (with_reducible repeat (first | refine z17 ?_ _)); exact BK136.out⟩, ⟨by (with_reducible repeat (first | refine z17 ?_ _)); exact BK137.out⟩, ⟨by repeat (with_reducible first | exact HB.out | apply z10 | apply z11 | apply z13 | refine z15 ?_ GE135.out | refine z15 ?_ GE136.out | refine z15 ?_ GE137.out)⟩⟩
    case round =>
     clear H'
     try clear c1
     try clear p1
     try clear q1
     try clear hx1
     try clear c2
     try clear p2
     try clear c4
     try clear p6
     try clear c7
     try clear c8
     try clear c10
     try clear c10b0
     try clear c11
     try clear c11b0
     try clear c13
     try clear p13
     try clear q13
     try clear hx13
     try clear c14
     try clear p14
     try clear q14
     try clear hx14
     try clear c15
     try clear c22
     try clear c23
     try clear hcz16_0
     try clear hcz16_1
     try clear hcz16_2
     try clear hcz24_0
     try clear hcz24_1
     try clear hcz24_2
     try clear hcz5_0
     try clear hcz5_1
     try clear hcz5_2
     try clear hcz9_0
     try clear hcz9_1
     try clear hcz9_2
     try clear hfz16_0
     try clear hfz16_1
     try clear hfz16_2
     try clear hfz24_0
     try clear hfz24_1
     try clear hfz24_2
     try clear hfz5_0
     try clear hfz5_1
     try clear hfz5_2
     try clear hfz9_0
     try clear hfz9_1
     try clear hfz9_2
     try clear hx138_0
     try clear hx138_1
     try clear hx138_2
     try clear hx138_3
     try clear hx139_0
     try clear hx139_1
     try clear hx139_2
     try clear hx139_3
     try clear hx140_0
     try clear hx140_1
     try clear hx140_2
     try clear hx140_3
     try clear p138
     try clear p139
     try clear p140
     try clear p2
     try clear q138
     try clear q139
     try clear q140
     obtain ⟨x5_2, x138002_2, u138002, rfl, HA, HK2, HO_138001, HO_138002, BK135, BK136, BK137, HB⟩ := hrel
     cases gk with
     | zero => exact absurd HA.out (by simp [pl_Slate.l1])
     | succ k2 =>
      have H := HA.out
      clear HA
      simp only [pl_Slate.l1] at H
      by_cases c25 : x5_2 < (l0_2.length : Int)
      ·rw [if_pos c25] at H
       have c25b0 : decide (x5_2 < (l0_2.length : Int)) = true := decide_eq_true c25
       clear c25
       by_cases c26 : 0 ≤ x5_2
       ·rw [if_pos c26] at H
        have c26b0 : decide (0 ≤ x5_2) = true := decide_eq_true c26
        clear c26
        replace H := Option.bind_eq_some_iff.mp H
        obtain ⟨⟨t148, t149⟩, A270, H⟩ := H
        replace H : (if x138002_2.length < 5864062014805 then (pl_Slate.l1 k2 (wrap64 (x5_2 + 1)) a0_0 l0_1 l0_2 a0_0 x138001_1 (x138002_2 ++ [(⟨(rd_T94 l0_2 x5_2).f0, (⟨t148, t149⟩ : S44)⟩ : S124)])) else (none)) = some (r1, r2, r3) := H
        have A27 := mkA A270
        clear A270
        by_cases c28 : x138002_2.length < 5864062014805
        ·rw [if_pos c28] at H
         have LMc28 := mkA c28
         clear c28
         obtain ⟨y150, hy150⟩ : ∃ y_ : List (S124), y_ = (x138002_2 ++ [(⟨(rd_T94 l0_2 x5_2).f0, (⟨t148, t149⟩ : S44)⟩ : S124)]) := ⟨_, rfl⟩
         replace H : (pl_Slate.l1 k2 (wrap64 (x5_2 + 1)) a0_0 l0_1 l0_2 a0_0 x138001_1 y150) = some (r1, r2, r3) := by first | (rw [hy150]; with_reducible exact H) | (have H2_ := (Option.bind_some _ _).symm.trans H; rw [hy150]; with_reducible exact H2_) | (have H2_ := (Option.bind_some _ _).symm.trans H; with_reducible exact H2_) | with_reducible exact H | (rw [hy150]; exact H) | exact H
         have Ny150 := mkA hy150
         clear hy150
         have H' := mkA H
         clear H
         have hnb29 := NB135_136.out
         have hnc29 := NB136_135.out
         have hnb30 := NB135_137.out
         have hnc30 := NB137_135.out
         have hcz31_0 : wr.cell? ⟨gb135, 0, none⟩ = some (.int .i64 a0_0) := (z12 BK135.out 0).trans rfl
         have hcz31_1 : wr.cell? ⟨gb135, 1, none⟩ = some (.slice A0_1 l0_1.length c0_1) := (z12 BK135.out 1).trans rfl
         have hcz31_2 : wr.cell? ⟨gb135, 2, none⟩ = some (.slice A0_2 l0_2.length c0_2) := (z12 BK135.out 2).trans rfl
         have hfz31_0 := z14 BK135.out 0
         have hfz31_1 := z14 BK135.out 1
         have hfz31_2 := z14 BK135.out 2
         try go_wp2
         have n0_ := mkA (Kd.R_drew HO_138001.out)
         have n1_ := mkA (Kd.R_drew HO_138002.out)
         have n2_ := mkA (z40 BK135.out)
         have n3_ := mkA (z40 BK136.out)
         have n4_ := mkA (z40 BK137.out)
         have n5_ := mkA (z13 HB.out)
         clear HO_138001
         clear HO_138002
         clear BK135
         clear BK136
         clear BK137
         clear HB
         have HO_138001 := n0_
         have HO_138002 := n1_
         have BK135 := n2_
         have BK136 := n3_
         have BK137 := n4_
         have HB := n5_
         clear n0_ n1_ n2_ n3_ n4_ n5_
         have p146 : 0 ≤ (x5_2 : Int) := of_decide_eq_true (by first | (with_reducible assumption) | assumption)
         have q146 : x5_2 < (l0_2.length : Int) := of_decide_eq_true (by first | (with_reducible assumption) | assumption)
         obtain ⟨ad146, e146, hx146_0, hx146_1, hx146_2⟩ := at_T94 HR0_2.out x5_2 p146 q146
         have hw146_2 := hx146_2
         have hw146_1 := hx146_1
         have hw146_0 := hx146_0
         cases e146
         replace hx146_0 := (HB.out.cell (World.block_lt_of_cell? w _ hx146_0)).trans hx146_0
         replace hx146_1 := (HB.out.cell (World.block_lt_of_cell? w _ hx146_1)).trans hx146_1
         replace hx146_2 := (HB.out.cell (World.block_lt_of_cell? w _ hx146_2)).trans hx146_2
         replace p146 := eq_true p146
         replace q146 := eq_true q146
         have p147 : 0 ≤ (x5_2 : Int) := of_decide_eq_true (by first | (with_reducible assumption) | assumption)
         have q147 : x5_2 < (l0_2.length : Int) := of_decide_eq_true (by first | (with_reducible assumption) | assumption)
         obtain ⟨ad147, e147, hx147_0, hx147_1, hx147_2⟩ := at_T94 HR0_2.out x5_2 p147 q147
         have hw147_2 := hx147_2
         have hw147_1 := hx147_1
         have hw147_0 := hx147_0
         obtain rfl : ad146 = ad147 := (by injection e147)
         replace hx147_0 := (HB.out.cell (World.block_lt_of_cell? w _ hx147_0)).trans hx147_0
         replace hx147_1 := (HB.out.cell (World.block_lt_of_cell? w _ hx147_1)).trans hx147_1
         replace hx147_2 := (HB.out.cell (World.block_lt_of_cell? w _ hx147_2)).trans hx147_2
         replace p147 := eq_true p147
         replace q147 := eq_true q147
         refine start_ (n := 20) (S := fun w' => w'.cell? ⟨gb137, 0, none⟩ = some (.int .i64 a0_0) ∧ w'.cell? ⟨gb137, 1, none⟩ = some (u138001) ∧ w'.cell? ⟨gb137, 2, none⟩ = some (u138002) ∧ w'.cell? ⟨gb135, 0, none⟩ = some (.int .i64 a0_0) ∧ w'.cell? ⟨gb135, 1, none⟩ = some (.slice A0_1 l0_1.length c0_1) ∧ w'.cell? ⟨gb135, 2, none⟩ = some (.slice (some ad146) l0_2.length c0_2) ∧ w'.cell? (ad146.add ((x5_2).toNat * 3)) = some (.int .i64 ((rd_T94 l0_2 x5_2).f0)) ∧ w'.cell? ⟨(ad146.add ((x5_2).toNat * 3)).block, (ad146.add ((x5_2).toNat * 3)).off + 1, none⟩ = some (.int .i64 ((rd_T94 l0_2 x5_2).f1.f0)) ∧ w'.cell? ⟨(ad146.add ((x5_2).toNat * 3)).block, (ad146.add ((x5_2).toNat * 3)).off + 2, none⟩ = some (.int .i64 ((rd_T94 l0_2 x5_2).f1.f1)) ∧ w'.cell? (ad146.add ((x5_2).toNat * 3)) = some (.int .i64 ((rd_T94 l0_2 x5_2).f0)) ∧ w'.cell? ⟨(ad146.add ((x5_2).toNat * 3)).block, (ad146.add ((x5_2).toNat * 3)).off + 1, none⟩ = some (.int .i64 ((rd_T94 l0_2 x5_2).f1.f0)) ∧ w'.cell? ⟨(ad146.add ((x5_2).toNat * 3)).block, (ad146.add ((x5_2).toNat * 3)).off + 2, none⟩ = some (.int .i64 ((rd_T94 l0_2 x5_2).f1.f1))) (ds := [19]) #[false, false, false, false, false, false, false, false, false, false, false, false, false, false, false, false, false, false, false, false] (by kernel_rfl) rfl rfl ⟨(z12 BK137.out 0).trans rfl, (z12 BK137.out 1).trans rfl, (z12 BK137.out 2).trans rfl, (z12 BK135.out 0).trans rfl, (z12 BK135.out 1).trans rfl, (z12 BK135.out 2).trans rfl, ((HB.out.cell (World.block_lt_of_cell? w _ hw146_0)).trans hw146_0), ((HB.out.cell (World.block_lt_of_cell? w _ hw146_1)).trans hw146_1), ((HB.out.cell (World.block_lt_of_cell? w _ hw146_2)).trans hw146_2), ((HB.out.cell (World.block_lt_of_cell? w _ hw147_0)).trans hw147_0), ((HB.out.cell (World.block_lt_of_cell? w _ hw147_1)).trans hw147_1), ((HB.out.cell (World.block_lt_of_cell? w _ hw147_2)).trans hw147_2)⟩ (fun hHeld => ?_); refine with_tabW pl_Slate.tab9 pl_Slate.bits9 (fun HT_ HW_ => ?_)
         generalize wr.drew = w32 at HO_138001 HO_138002 BK135 BK136 BK137 HB hx146_0 hx146_1 hx146_2 hx147_0 hx147_1 hx147_2 hHeld ⊢
         refine pure_ (i := 0) (N := some 48) (v := ?_) (a' := ?_) #[true, false, false, false, false, false, false, false, false, false, false, false, false, false, false, false, false, false, false, false] rfl rfl (any_of HT_.out (by kernel_rfl)) (fun _ _ _ h => h) (Or.inl ⟨by rfl, ?_⟩) ?_ ?_
         rotate_left
         ·intro w'
          go_simp
          with_reducible rfl
         rotate_left
         ·simp only [Act.put, xq1, xq2, xq3, i64_w, i32_w]
          rfl
         refine pure_ (i := 2) (N := some 50) (v := ?_) (a' := ?_) #[true, false, true, false, false, false, false, false, false, false, false, false, false, false, false, false, false, false, false, false] rfl rfl (any_of HT_.out (by kernel_rfl)) (fun _ _ _ h => h) (Or.inl ⟨by rfl, ?_⟩) ?_ ?_
         rotate_left
         ·intro w'
          go_simp
          with_reducible rfl
         rotate_left
         ·simp only [Act.put, xq1, xq2, xq3, i64_w, i32_w]
          rfl
         refine pure_ (i := 4) (N := some 52) (v := ?_) (a' := ?_) #[true, false, true, false, true, false, false, false, false, false, false, false, false, false, false, false, false, false, false, false] rfl rfl (any_of HT_.out (by kernel_rfl)) (fun _ _ _ h => h) (Or.inl ⟨by rfl, ?_⟩) ?_ ?_
         rotate_left
         ·intro w'
          go_simp
          with_reducible rfl
         rotate_left
         ·simp only [Act.put, xq1, xq2, xq3, i64_w, i32_w]
          rfl
         refine pure_ (i := 8) (N := some 56) (v := ?_) (a' := ?_) #[true, false, true, false, true, false, false, false, true, false, false, false, false, false, false, false, false, false, false, false] rfl rfl (any_of HT_.out (by kernel_rfl)) (fun _ _ _ h => h) (Or.inl ⟨by rfl, ?_⟩) ?_ ?_
         rotate_left
         ·intro w'
          go_simp
          with_reducible rfl
         rotate_left
         ·simp only [Act.put, xq1, xq2, xq3, i64_w, i32_w]
          rfl
         refine pure_ (i := 10) (N := some 58) (v := ?_) (a' := ?_) #[true, false, true, false, true, false, false, false, true, false, true, false, false, false, false, false, false, false, false, false] rfl rfl (any_of HT_.out (by kernel_rfl)) (fun _ _ _ h => h) (Or.inl ⟨by rfl, ?_⟩) ?_ ?_
         rotate_left
         ·intro w'
          go_simp
          with_reducible rfl
         rotate_left
         ·simp only [Act.put, xq1, xq2, xq3, i64_w, i32_w]
          rfl
         refine take_ (i := 1) (N := some 49) (v := ?_) (a' := ?_) #[true, true, true, false, true, false, false, false, true, false, true, false, false, false, false, false, false, false, false, false] rfl rfl (z45 HT_.out HW_.out (by kernel_rfl)) (fun _ _ _ h => h) (Or.inl ⟨by rfl, ?_⟩) hHeld ?_ ?_
         rotate_left
         ·rintro w' ⟨s0, s1, s2, s3, s4, s5, s6, s7, s8, s9, s10, s11⟩
          go_simp
          with_reducible rfl
         rotate_left
         ·simp only [Act.put, xq1, xq2, xq3, i64_w, i32_w]
          rfl
         refine take_ (i := 3) (N := some 51) (v := ?_) (a' := ?_) #[true, true, true, true, true, false, false, false, true, false, true, false, false, false, false, false, false, false, false, false] rfl rfl (z45 HT_.out HW_.out (by kernel_rfl)) (fun _ _ _ h => h) (Or.inl ⟨by rfl, ?_⟩) hHeld ?_ ?_
         rotate_left
         ·rintro w' ⟨s0, s1, s2, s3, s4, s5, s6, s7, s8, s9, s10, s11⟩
          go_simp
          with_reducible rfl
         rotate_left
         ·simp only [Act.put, xq1, xq2, xq3, i64_w, i32_w]
          rfl
         refine pure_ (i := 5) (N := some 53) (v := ?_) (a' := ?_) #[true, true, true, true, true, true, false, false, true, false, true, false, false, false, false, false, false, false, false, false] rfl rfl (any_of HT_.out (by kernel_rfl)) (fun _ _ _ h => h) (Or.inl ⟨by rfl, ?_⟩) ?_ ?_
         rotate_left
         ·intro w'
          go_simp
          with_reducible rfl
         rotate_left
         ·simp only [Act.put, xq1, xq2, xq3, i64_w, i32_w]
          rfl
         refine pure_ (i := 6) (N := some 54) (v := ?_) (a' := ?_) #[true, true, true, true, true, true, true, false, true, false, true, false, false, false, false, false, false, false, false, false] rfl rfl (any_of HT_.out (by kernel_rfl)) (fun _ _ _ h => h) (Or.inl ⟨by rfl, ?_⟩) ?_ ?_
         rotate_left
         ·intro w'
          go_simp
          with_reducible rfl
         rotate_left
         ·simp only [Act.put, xq1, xq2, xq3, i64_w, i32_w]
          rfl
         refine take_ (i := 7) (N := some 55) (v := ?_) (a' := ?_) #[true, true, true, true, true, true, true, true, true, false, true, false, false, false, false, false, false, false, false, false] rfl rfl (z45 HT_.out HW_.out (by kernel_rfl)) (fun _ _ _ h => h) (Or.inl ⟨by rfl, ?_⟩) hHeld ?_ ?_
         rotate_left
         ·rintro w' ⟨s0, s1, s2, s3, s4, s5, s6, s7, s8, s9, s10, s11⟩
          go_simp
          with_reducible rfl
         rotate_left
         ·simp only [Act.put, xq1, xq2, xq3, i64_w, i32_w]
          rfl
         refine take_ (i := 9) (N := some 57) (v := ?_) (a' := ?_) #[true, true, true, true, true, true, true, true, true, true, true, false, false, false, false, false, false, false, false, false] rfl rfl (z45 HT_.out HW_.out (by kernel_rfl)) (fun _ _ _ h => h) (Or.inl ⟨by rfl, ?_⟩) hHeld ?_ ?_
         rotate_left
         ·rintro w' ⟨s0, s1, s2, s3, s4, s5, s6, s7, s8, s9, s10, s11⟩
          go_simp
          with_reducible rfl
         rotate_left
         ·simp only [Act.put, xq1, xq2, xq3, i64_w, i32_w]
          rfl
         refine pure_ (i := 11) (N := some 59) (v := ?_) (a' := ?_) #[true, true, true, true, true, true, true, true, true, true, true, true, false, false, false, false, false, false, false, false] rfl rfl (any_of HT_.out (by kernel_rfl)) (fun _ _ _ h => h) (Or.inl ⟨by rfl, ?_⟩) ?_ ?_
         rotate_left
         ·intro w'
          go_simp
          with_reducible rfl
         rotate_left
         ·simp only [Act.put, xq1, xq2, xq3, i64_w, i32_w]
          rfl
         refine pure_ (i := 12) (N := some 60) (v := ?_) (a' := ?_) #[true, true, true, true, true, true, true, true, true, true, true, true, true, false, false, false, false, false, false, false] rfl rfl (any_of HT_.out (by kernel_rfl)) (fun _ _ _ h => h) (Or.inl ⟨by rfl, ?_⟩) ?_ ?_
         rotate_left
         ·intro w'
          go_simp
          with_reducible rfl
         rotate_left
         ·simp only [Act.put, xq1, xq2, xq3, i64_w, i32_w]
          rfl
         refine take_ (i := 13) (N := some 61) (v := ?_) (a' := ?_) #[true, true, true, true, true, true, true, true, true, true, true, true, true, true, false, false, false, false, false, false] rfl rfl (z45 HT_.out HW_.out (by kernel_rfl)) (fun _ _ _ h => h) (Or.inl ⟨by rfl, ?_⟩) hHeld ?_ ?_
         rotate_left
         ·rintro w' ⟨s0, s1, s2, s3, s4, s5, s6, s7, s8, s9, s10, s11⟩
          go_simp
          with_reducible rfl
         rotate_left
         ·simp only [Act.put, xq1, xq2, xq3, i64_w, i32_w]
          rfl
         refine one_ (i := 14) (N := some 62) #[true, true, true, true, true, true, true, true, true, true, true, true, true, true, true, false, false, false, false, false] rfl rfl (one_of HT_.out (by kernel_rfl)) (by decide) (fun K hK => ?_)
         refine goes_ Try.func26 (by kernel_rfl) rfl #[.agg #[.int .i64 ((rd_T94 l0_2 x5_2).f1.f0), .int .i64 ((rd_T94 l0_2 x5_2).f1.f1)]] (by rfl) rfl rfl (by (try simp only [List.map_toArray, List.map_cons, List.map_nil]); first | done | rfl | (simp only [List.length_drop, List.length_take]; rfl)) ?_
         with_reducible refine (pl_to.calls ((rd_T94 l0_2 x5_2).f1.f0) ((rd_T94 l0_2 x5_2).f1.f1) t148 t149 _ A27.out).mono ?_
         rintro e w33 ⟨rfl, hb⟩
         refine ⟨_, rfl, ?_⟩
         have n0_ := mkA (Kd.R_below (by (with_reducible repeat (first | apply Kd.R_alloc)); exact HO_138001.out) hb)
         have n1_ := mkA (Kd.R_below (by (with_reducible repeat (first | apply Kd.R_alloc)); exact HO_138002.out) hb)
         have n2_ := mkA (blk_below (g := gb135) (o := .cells #[.int .i64 a0_0, .slice A0_1 l0_1.length c0_1, .slice (some ad146) l0_2.length c0_2] 25 (0, 0)) (by (with_reducible repeat (first | refine z17 ?_ _)); exact BK135.out) hb)
         have n3_ := mkA (blk_below (g := gb136) (o := .cells #[.int .i64 0, .slice none 0 0, .slice none 0 0] 35 (0, 0)) (by (with_reducible repeat (first | refine z17 ?_ _)); exact BK136.out) hb)
         have n4_ := mkA (blk_below (g := gb137) (o := .cells #[.int .i64 a0_0, u138001, u138002] 35 (0, 0)) (by (with_reducible repeat (first | refine z17 ?_ _)); exact BK137.out) hb)
         have n5_ := mkA (z16 (by repeat (with_reducible first | exact HB.out | apply z10 | apply z11 | apply z13 | refine z15 ?_ GE135.out | refine z15 ?_ GE136.out | refine z15 ?_ GE137.out)) hb)
         clear HO_138001
         clear HO_138002
         clear BK135
         clear BK136
         clear BK137
         clear HB
         have HO_138001 := n0_
         have HO_138002 := n1_
         have BK135 := n2_
         have BK136 := n3_
         have BK137 := n4_
         have HB := n5_
         clear n0_ n1_ n2_ n3_ n4_ n5_
         (try clear hb)
         (try clear hb2)
         (try clear hk)
         (try clear hi)
         refine hK.out _ _ ⟨(z12 BK137.out 0).trans rfl, (z12 BK137.out 1).trans rfl, (z12 BK137.out 2).trans rfl, (z12 BK135.out 0).trans rfl, (z12 BK135.out 1).trans rfl, (z12 BK135.out 2).trans rfl, ((HB.out.cell (World.block_lt_of_cell? w _ hw146_0)).trans hw146_0), ((HB.out.cell (World.block_lt_of_cell? w _ hw146_1)).trans hw146_1), ((HB.out.cell (World.block_lt_of_cell? w _ hw146_2)).trans hw146_2), ((HB.out.cell (World.block_lt_of_cell? w _ hw147_0)).trans hw147_0), ((HB.out.cell (World.block_lt_of_cell? w _ hw147_1)).trans hw147_1), ((HB.out.cell (World.block_lt_of_cell? w _ hw147_2)).trans hw147_2)⟩ (fun hHeld => ?_)
         clear hK K
         refine norm_ (a' := ?_) ?_ ?_
         rotate_left
         ·show Act.put _ (some 62) _ = _
          simp only [Act.put, xq1, xq2, xq3, i64_w, i32_w]
          rfl
         refine pure_ (i := 15) (N := some 63) (v := ?_) (a' := ?_) #[true, true, true, true, true, true, true, true, true, true, true, true, true, true, true, true, false, false, false, false] rfl rfl (any_of HT_.out (by kernel_rfl)) (fun _ _ _ h => h) (Or.inl ⟨by rfl, ?_⟩) ?_ ?_
         rotate_left
         ·intro w'
          go_simp
          with_reducible rfl
         rotate_left
         ·simp only [Act.put, xq1, xq2, xq3, i64_w, i32_w]
          rfl
         refine one_ (i := 16) (N := some 64) #[true, true, true, true, true, true, true, true, true, true, true, true, true, true, true, true, true, false, false, false] rfl rfl (one_of HT_.out (by kernel_rfl)) (by decide) (fun K hK => ?_)
         refine value_ (w1 := ?_) (v := ?_) (by rfl) rfl ?_ ?_
         rotate_left 2
         ·go_simp
          constructor
          ·rfl
          ·rfl
         refine hK.out _ _ ⟨(z12 (z33 BK137.out _) 0).trans rfl, (z12 (z33 BK137.out _) 1).trans rfl, (z12 (z33 BK137.out _) 2).trans rfl, (z12 (z33 BK135.out _) 0).trans rfl, (z12 (z33 BK135.out _) 1).trans rfl, (z12 (z33 BK135.out _) 2).trans rfl, (World.cell?_alloc_lt _ _ _ (World.block_lt_of_cell? _ _ (((HB.out.cell (World.block_lt_of_cell? w _ hw146_0)).trans hw146_0)))).trans (((HB.out.cell (World.block_lt_of_cell? w _ hw146_0)).trans hw146_0)), (World.cell?_alloc_lt _ _ _ (World.block_lt_of_cell? _ _ (((HB.out.cell (World.block_lt_of_cell? w _ hw146_1)).trans hw146_1)))).trans (((HB.out.cell (World.block_lt_of_cell? w _ hw146_1)).trans hw146_1)), (World.cell?_alloc_lt _ _ _ (World.block_lt_of_cell? _ _ (((HB.out.cell (World.block_lt_of_cell? w _ hw146_2)).trans hw146_2)))).trans (((HB.out.cell (World.block_lt_of_cell? w _ hw146_2)).trans hw146_2)), (World.cell?_alloc_lt _ _ _ (World.block_lt_of_cell? _ _ (((HB.out.cell (World.block_lt_of_cell? w _ hw147_0)).trans hw147_0)))).trans (((HB.out.cell (World.block_lt_of_cell? w _ hw147_0)).trans hw147_0)), (World.cell?_alloc_lt _ _ _ (World.block_lt_of_cell? _ _ (((HB.out.cell (World.block_lt_of_cell? w _ hw147_1)).trans hw147_1)))).trans (((HB.out.cell (World.block_lt_of_cell? w _ hw147_1)).trans hw147_1)), (World.cell?_alloc_lt _ _ _ (World.block_lt_of_cell? _ _ (((HB.out.cell (World.block_lt_of_cell? w _ hw147_2)).trans hw147_2)))).trans (((HB.out.cell (World.block_lt_of_cell? w _ hw147_2)).trans hw147_2))⟩ (fun hHeld => ?_)
         clear hK K
         refine norm_ (a' := ?_) ?_ ?_
         rotate_left
         ·show Act.put _ (some 64) _ = _
          simp only [Act.put, xq1, xq2, xq3, i64_w, i32_w]
          rfl
         refine one_ (i := 17) (N := some 65) #[true, true, true, true, true, true, true, true, true, true, true, true, true, true, true, true, true, true, false, false] rfl rfl (one_of HT_.out (by kernel_rfl)) (by decide) (fun K hK => ?_)
         refine Kd.R_append_step k124 (w0 := w) w.heap.size (by rfl) (.tmp 49) (.tmp 64) 33 124 (.agg #[(.int .i64 0), (.int .i64 0), (.int .i64 0)]) 24 rfl Try.underlying33 info124 rfl (by decide) (by omega) u138002 x138002_2 (⟨(rd_T94 l0_2 x5_2).f0, (⟨t148, t149⟩ : S44)⟩ : S124) [.int .i64 ((rd_T94 l0_2 x5_2).f0), .int .i64 t148, .int .i64 t149] (fun _ => True) (fun _ => False) rfl rfl ?aP (fun _ hk => hk.elim) ?aF ?aO ?aB ?aS ?aL ?_
         (case aP => exact k124_mkM _ _ _ (⟨(rd_T94 l0_2 x5_2).f0, (⟨t148, t149⟩ : S44)⟩ : S124))
         (case aB => exact (by repeat (with_reducible first | exact HB.out | apply z10 | apply z11 | apply z13 | refine z15 ?_ GE135.out | refine z15 ?_ GE136.out | refine z15 ?_ GE137.out)))
         (case aF => exact (fun _ _ => trivial))
         (case aO => exact (by (with_reducible repeat (first | apply Kd.R_alloc)); exact HO_138002.out))
         (case aS => exact (z18 (by repeat (with_reducible first | exact HB.out | apply z10 | apply z11 | apply z13 | refine z15 ?_ GE135.out | refine z15 ?_ GE136.out | refine z15 ?_ GE137.out))))
         (case aL => have := LMc28.out; omega)
         intro v151 w34 ho hb hg hat
         rw [← Ny150.out] at ho
         have n0_ := mkA (Kd.R_over' (by (with_reducible repeat (first | apply Kd.R_alloc)); exact HO_138001.out) (Kd.R_typed (by (with_reducible repeat (first | apply Kd.R_alloc)); exact HO_138002.out)) (by decide) hg)
         have n1_ := mkA (z36 (g := gb135) (o := .cells #[.int .i64 a0_0, .slice A0_1 l0_1.length c0_1, .slice (some ad146) l0_2.length c0_2] 25 (0, 0)) (by (with_reducible repeat (first | refine z17 ?_ _)); exact BK135.out) hg (Kd.R_ne HO_138002.out BK135.out (by decide)))
         have n2_ := mkA (z36 (g := gb136) (o := .cells #[.int .i64 0, .slice none 0 0, .slice none 0 0] 35 (0, 0)) (by (with_reducible repeat (first | refine z17 ?_ _)); exact BK136.out) hg (Kd.R_ne HO_138002.out BK136.out (by decide)))
         have n3_ := mkA (z36 (g := gb137) (o := .cells #[.int .i64 a0_0, u138001, u138002] 35 (0, 0)) (by (with_reducible repeat (first | refine z17 ?_ _)); exact BK137.out) hg (Kd.R_ne HO_138002.out BK137.out (by decide)))
         have n4_ := mkA (hb)
         have n5_ := mkA (ho)
         clear HO_138001
         clear BK135
         clear BK136
         clear BK137
         clear HB
         clear HO_138002
         have HO_138001 := n0_
         have BK135 := n1_
         have BK136 := n2_
         have BK137 := n3_
         have HB := n4_
         have HO152 := n5_
         clear n0_ n1_ n2_ n3_ n4_ n5_
         clear ho hb hg hat
         obtain ⟨Ao35, co35, eo35⟩ := Kd.R_slice HO152.out
         (first | subst eo35)
         refine hK.out _ _ ⟨(z12 BK137.out 0).trans rfl, (z12 BK137.out 1).trans rfl, (z12 BK137.out 2).trans rfl, (z12 BK135.out 0).trans rfl, (z12 BK135.out 1).trans rfl, (z12 BK135.out 2).trans rfl, ((HB.out.cell (World.block_lt_of_cell? w _ hw146_0)).trans hw146_0), ((HB.out.cell (World.block_lt_of_cell? w _ hw146_1)).trans hw146_1), ((HB.out.cell (World.block_lt_of_cell? w _ hw146_2)).trans hw146_2), ((HB.out.cell (World.block_lt_of_cell? w _ hw147_0)).trans hw147_0), ((HB.out.cell (World.block_lt_of_cell? w _ hw147_1)).trans hw147_1), ((HB.out.cell (World.block_lt_of_cell? w _ hw147_2)).trans hw147_2)⟩ (fun hHeld => ?_)
         clear hK K
         refine norm_ (a' := ?_) ?_ ?_
         rotate_left
         ·show Act.put _ (some 65) _ = _
          simp only [Act.put, xq1, xq2, xq3, i64_w, i32_w]
          rfl
         refine pure_ (i := 18) (N := some 66) (v := ?_) (a' := ?_) #[true, true, true, true, true, true, true, true, true, true, true, true, true, true, true, true, true, true, true, false] rfl rfl (any_of HT_.out (by kernel_rfl)) (fun _ _ _ h => h) (Or.inl ⟨by rfl, ?_⟩) ?_ ?_
         rotate_left
         ·intro w'
          go_simp
          with_reducible rfl
         rotate_left
         ·simp only [Act.put, xq1, xq2, xq3, i64_w, i32_w]
          rfl
         refine last_ (i := 19) (N := none) #[true, true, true, true, true, true, true, true, true, true, true, true, true, true, true, true, true, true, true, true] rfl rfl (one_of HT_.out (by kernel_rfl)) (by decide) (fun K hK => ?_)
         have hs36 : w34.cell? ⟨gb137, 2, none⟩ = some (u138002) := (z12 BK137.out 2).trans rfl
         have hfs36 := z14 BK137.out 2
         have hns36_0 := NB135_137.out
         have hns36_1 := NB136_137.out
         have hms36_0 := NB137_135.out
         have hms36_1 := NB137_136.out
         refine skip_ (w1 := ?_) (by rfl) rfl ?_ ?_
         rotate_left
         ·go_simp
          rfl
         refine hK.out _ _ ?_
         clear hK K
         refine done_ (done_of HT_.out (by kernel_rfl)) ?_
         try go_wp2
         go_roundg k2
         case measure => have := HK1.out; have := HK2.out; omega
         case rel => exact ⟨(wrap64 (x5_2 + 1)), (y150), (.slice Ao35 y150.length co35), (by first | rfl | (simp; done) | (simp [*]; done)), H', ⟨by have := HK1.out; have := HK2.out; omega⟩, ⟨by (with_reducible repeat (first | apply Kd.R_alloc)); exact Kd.R_mono (Kd.R_far (p := ⟨gb137, 2, none⟩) (Kd.R_types HO_138001.out BK137.out (by decide)) (fun _ hk => hk.2) (.slice Ao35 y150.length co35)) (fun _ hk => trivial)⟩, ⟨by (with_reducible repeat (first | apply Kd.R_alloc)); exact Kd.R_mono (Kd.R_far (p := ⟨gb137, 2, none⟩) (Kd.R_types HO152.out BK137.out (by decide)) (fun _ hk => hk.2) (.slice Ao35 y150.length co35)) (fun _ hk => trivial)⟩, ⟨by (with_reducible repeat (first | refine z17 ?_ _)); refine blk_far ?_ NB135_137.out _; (with_reducible repeat (first | refine z17 ?_ _)); exact BK135.out⟩, ⟨by (with_reducible repeat (first | refine z17 ?_ _)); refine blk_far ?_ NB136_137.out _; (with_reducible repeat (first | refine z17 ?_ _)); exact BK136.out⟩, ⟨by (with_reducible repeat (first | refine z17 ?_ _)); refine blk_put (cs := #[.int .i64 a0_0, u138001, u138002]) ?_ 2 _ rfl; (with_reducible repeat (first | refine z17 ?_ _)); exact BK137.out⟩, ⟨by repeat (with_reducible first | exact HB.out | apply z10 | apply z11 | apply z13 | refine z15 ?_ GE135.out | refine z15 ?_ GE136.out | refine z15 ?_ GE137.out)⟩⟩
        ·rw [if_neg c28] at H
         exact absurd H (by simp)
       ·rw [if_neg c26] at H
        exact absurd H (by simp)
      ·rw [if_neg c25] at H
       have c25b0 : decide (x5_2 < (l0_2.length : Int)) = false := decide_eq_false c25
       clear c25
       simp only [Option.some.injEq, Prod.mk.injEq] at H
       obtain ⟨rfl, rfl, rfl⟩ := H
       have hnb37 := NB135_136.out
       have hnc37 := NB136_135.out
       have hnb38 := NB135_137.out
       have hnc38 := NB137_135.out
       have hcz39_0 : wr.cell? ⟨gb135, 0, none⟩ = some (.int .i64 a0_0) := (z12 BK135.out 0).trans rfl
       have hcz39_1 : wr.cell? ⟨gb135, 1, none⟩ = some (.slice A0_1 l0_1.length c0_1) := (z12 BK135.out 1).trans rfl
       have hcz39_2 : wr.cell? ⟨gb135, 2, none⟩ = some (.slice A0_2 l0_2.length c0_2) := (z12 BK135.out 2).trans rfl
       have hfz39_0 := z14 BK135.out 0
       have hfz39_1 := z14 BK135.out 1
       have hfz39_2 := z14 BK135.out 2
       have hnb40 := NB137_136.out
       have hnc40 := NB136_137.out
       have hcz41_0 : wr.cell? ⟨gb137, 0, none⟩ = some (.int .i64 a0_0) := (z12 BK137.out 0).trans rfl
       have hcz41_1 : wr.cell? ⟨gb137, 1, none⟩ = some (u138001) := (z12 BK137.out 1).trans rfl
       have hcz41_2 : wr.cell? ⟨gb137, 2, none⟩ = some (u138002) := (z12 BK137.out 2).trans rfl
       have hfz41_0 := z14 BK137.out 0
       have hfz41_1 := z14 BK137.out 1
       have hfz41_2 := z14 BK137.out 2
       have hcz42_0 : wr.cell? ⟨gb136, 0, none⟩ = some (.int .i64 0) := (z12 BK136.out 0).trans rfl
       have hcz42_1 : wr.cell? ⟨gb136, 1, none⟩ = some (.slice none 0 0) := (z12 BK136.out 1).trans rfl
       have hcz42_2 : wr.cell? ⟨gb136, 2, none⟩ = some (.slice none 0 0) := (z12 BK136.out 2).trans rfl
       have hfz42_0 := z14 BK136.out 0
       have hfz42_1 := z14 BK136.out 1
       have hfz42_2 := z14 BK136.out 2
       obtain ⟨Ao43, co43, eo43⟩ := Kd.R_slice HO_138001.out
       subst eo43
       obtain ⟨Ao44, co44, eo44⟩ := Kd.R_slice HO_138002.out
       subst eo44
       go_wp2
       refine bodyPost_ret (results_cell_row rfl _ _ gb136 35 #[.int .i64 a0_0, .slice Ao43 x138001_1.length co43, .slice Ao44 x138002_2.length co44] (0, 0) _ rfl (by (with_reducible repeat (first | refine z17 ?_ _)); refine blk_put (cs := #[.int .i64 a0_0, .slice Ao43 x138001_1.length co43, .slice none 0 0]) ?_ 2 _ rfl; (with_reducible repeat (first | refine z17 ?_ _)); refine blk_put (cs := #[.int .i64 a0_0, .slice none 0 0, .slice none 0 0]) ?_ 1 _ rfl; (with_reducible repeat (first | refine z17 ?_ _)); refine blk_put (cs := #[.int .i64 0, .slice none 0 0, .slice none 0 0]) ?_ 0 _ rfl; (with_reducible repeat (first | refine z17 ?_ _)); exact BK136.out) Try.underlying35 rfl (by kernel_rfl)) rfl ?_
       exact ⟨_, _, by first | rfl | (simp [z21, z20] <;> rfl) | (simp [*, z21, z20] <;> rfl), by (with_reducible repeat (first | apply Kd.R_alloc)); exact Kd.R_mono (Kd.R_far (p := ⟨gb136, 2, none⟩) (Kd.R_far (p := ⟨gb136, 1, none⟩) (Kd.R_far (p := ⟨gb136, 0, none⟩) (Kd.R_types HO_138001.out BK136.out (by decide)) (fun _ hk => hk.2) (.int .i64 a0_0)) (fun _ hk => hk.2) (.slice Ao43 x138001_1.length co43)) (fun _ hk => hk.2) (.slice Ao44 x138002_2.length co44)) (fun _ hk => trivial), by (with_reducible repeat (first | apply Kd.R_alloc)); exact Kd.R_mono (Kd.R_far (p := ⟨gb136, 2, none⟩) (Kd.R_far (p := ⟨gb136, 1, none⟩) (Kd.R_far (p := ⟨gb136, 0, none⟩) (Kd.R_types HO_138002.out BK136.out (by decide)) (fun _ hk => hk.2) (.int .i64 a0_0)) (fun _ hk => hk.2) (.slice Ao43 x138001_1.length co43)) (fun _ hk => hk.2) (.slice Ao44 x138002_2.length co44)) (fun _ hk => trivial), by repeat (with_reducible first | exact HB.out | apply z10 | apply z11 | apply z13 | refine z15 ?_ GE135.out | refine z15 ?_ GE136.out | refine z15 ?_ GE137.out)⟩
end Go.Proofs.Ytncaadckehikpaa.Q
