/- A part of the proof: contracts of functions and plain facts (Q8, HRef0). No condition. -/
import Derived.Test.YtncaadckehikpaaM3
import Derived.Test.YtncaadckehikpaaM13
import Derived.Test.YtncaadckehikpaaM10
import Derived.Test.YtncaadckehikpaaM12
namespace Go.Proofs.Ytncaadckehikpaa.Q
open Go.RowKit Go.Proofs.YtncaadckehikpaaW.PrintWords Go.Proofs.YtncaadckehikpaaW.PrintLast Go.Proofs.YtncaadckehikpaaW.PrintMore
attribute [local go_sem] z38 z37 max_two min_two   -- for this text's walks alone
set_option linter.unusedVariables false
set_option linter.unusedSimpArgs false
/-! ### pr_Nth: function 46 -/
def pr_Nth.l0 : Nat → Int → List Int → Int → Int → List (S91) → List (S94) → Option (List Int)
 | 0, _, _, _, _, _, _ => none
 | k + 1, x1, x5, x6, x171000, x171001, x171002 => if x6 < (x171001.length : Int) then (if 0 ≤ x6 then ((pr_Size.f ((rd_T91 x171001 x6).f2.f0) ((rd_T91 x171001 x6).f2.f1)).bind fun t173 => (if t173 = 0 then (none) else (if x5.length < 17592186044416 then ((pr_Size.f ((rd_T91 x171001 x6).f2.f0) ((rd_T91 x171001 x6).f2.f1)).bind fun t177 => (if t177 = 0 then (none) else (pr_Nth.l0 k (wrap64 (Int.tdiv x1 t177)) (x5 ++ [wrap64 (((rd_T91 x171001 x6).f2.f0) + (Int.tmod x1 t173))]) (wrap64 (x6 + 1)) x171000 x171001 x171002))) else (none)))) else (none)) else (some x5)
def pr_Nth.f (k : Nat) (a0_0 : Int) (l0_1 : List (S91)) (l0_2 : List (S94)) (a1 : Int) : Option (List Int) := pr_Nth.l0 k a1 ([] : List Int) 0 a0_0 l0_1 l0_2
/-! ### pr_Owed: function 54 -/
def pr_Owed.l0 : Nat → List Int → Int → Int → Int → Int → List (S91) → List (S94) → Option (Int)
 | 0, _, _, _, _, _, _, _ => none
 | k + 1, x1, x2, x7, x8, x180000, x180001, x180002 => if x8 < (x180001.length : Int) then (if 0 ≤ x8 then (if ((rd_T91 x180001 x8).f0) = x2 then (if x8 < (x1.length : Int) then (if ((rd_T91 x180001 x8).f1) = x2 then (pr_Owed.l0 k x1 x2 (wrap64 ((wrap64 (x7 + (rd x1 x8))) - (rd x1 x8))) (wrap64 (x8 + 1)) x180000 x180001 x180002) else (pr_Owed.l0 k x1 x2 (wrap64 (x7 + (rd x1 x8))) (wrap64 (x8 + 1)) x180000 x180001 x180002)) else (none)) else (if ((rd_T91 x180001 x8).f1) = x2 then (if x8 < (x1.length : Int) then (pr_Owed.l0 k x1 x2 (wrap64 (x7 - (rd x1 x8))) (wrap64 (x8 + 1)) x180000 x180001 x180002) else (none)) else (pr_Owed.l0 k x1 x2 x7 (wrap64 (x8 + 1)) x180000 x180001 x180002))) else (none)) else (some x7)
def pr_Owed.f (k : Nat) (a0_0 : Int) (l0_1 : List (S91)) (l0_2 : List (S94)) (l1 : List Int) (a2 : Int) : Option (Int) := pr_Owed.l0 k l1 a2 0 0 a0_0 l0_1 l0_2
set_option maxHeartbeats 8000000 in
set_option maxRecDepth 100000 in
theorem pr_Owed.calls (k : Nat) (a0_0 : Int) (A0_1 : Option Addr) (c0_1 : Nat) (l0_1 : List (S91)) (A0_2 : Option Addr) (c0_2 : Nat) (l0_2 : List (S94)) (A1 : Option Addr) (c1 : Nat) (l1 : List Int) (a2 : Int) (r : Int) (w : World) (hr0_1 : Kd.C k91 w A0_1 l0_1.length l0_1) (hc0_1 : l0_1.length ≤ c0_1) (hr0_2 : Kd.C k94 w A0_2 l0_2.length l0_2) (hc0_2 : l0_2.length ≤ c0_2) (hr1 : Kd.C (Kd.int .i64) w A1 l1.length l1) (hc1 : l1.length ≤ c1) (h : pr_Owed.f k a0_0 l0_1 l0_2 l1 a2 = some r) :
  Calls Try.prog 54 #[.agg #[.int .i64 a0_0, .slice A0_1 l0_1.length c0_1, .slice A0_2 l0_2.length c0_2], .slice A1 l1.length c1, .int .i64 a2] w fun e w' => e = .returned (.int .i64 r) ∧ Below w.heap.size w w' := by
 have hu25 := Try.underlying25
 have HR0_1 := mkA hr0_1
 have HC0_1 := mkA hc0_1
 clear hr0_1 hc0_1
 have HR0_2 := mkA hr0_2
 have HC0_2 := mkA hc0_2
 clear hr0_2 hc0_2
 have HR1 := mkA hr1
 have HC1 := mkA hc1
 clear hr1 hc1
 have HB := mkA (Below.refl w.heap.size w)
 have H : (pr_Owed.l0 k l1 a2 0 0 a0_0 l0_1 l0_2) = some r := h
 clear h
 have H' := mkA H
 clear H
 go_enter Try.func54, Try.ntmps54
 go_wp2_with ((with_reducible refine z26 (N := 3) rfl ?_); refine z23 ?hg (N := 3) ?hd (cs := #[.int .i64 a0_0, .slice A0_1 l0_1.length c0_1, .slice A0_2 l0_2.length c0_2]) (t := 25) ?hr ?_; (case hd => rfl); (case hg => rfl); (case hr => first | (go_simp; done) | (go_simp; rfl)); intro gb179 hg w4 hbox hb; have n0_ := mkA (z17 (by repeat (with_reducible first | exact HB.out | apply z11 | apply z10 | apply z12)) hb); have n1_ := mkA (hbox); have n2_ := mkA ((by rw [hg]; exact (z18 (by repeat (with_reducible first | exact HB.out | apply z11 | apply z10 | apply z12))) : w.heap.size ≤ gb179)); have n3_ := mkA ((by rw [hg]; exact (z18 (by repeat (with_reducible first | exact HB.out | apply z11 | apply z10 | apply z12))) : w.heap.size ≤ gb179)); clear HB; have HB := n0_; have BK179 := n1_; have GW179 := n2_; have GE179 := n3_; clear n0_ n1_ n2_ n3_; clear hb hbox hg)
 go_loopg [7, 8] k (fun kq v7 v8 w' => ∃ (x7_1 : Int) (x8_1 : Int), v7 = .int .i64 x7_1 ∧ v8 = .int .i64 x8_1 ∧ Aside0 (pr_Owed.l0 kq l1 a2 x7_1 x8_1 a0_0 l0_1 l0_2 = some r) ∧ Aside0 (kq ≤ k) ∧ Aside0 (w'.heap[gb179]? = some (.cells #[.int .i64 a0_0, (.slice A0_1 l0_1.length c0_1), (.slice A0_2 l0_2.length c0_2)] 25 (0, 0))) ∧ Aside0 (Below w.heap.size w w'))
 case atStart => exact ⟨(0), (0), (by first | rfl | (simp; done) | (simp [*]; done)), (by first | rfl | (simp; done) | (simp [*]; done)), H', ⟨Nat.le_refl _⟩, ⟨by (with_reducible repeat (first | refine z16 ?_ _)); exact BK179.out⟩, ⟨by repeat (with_reducible first | exact HB.out | apply z11 | apply z10 | apply z12 | refine z15 ?_ GE179.out)⟩⟩
 case round =>
  clear H'
  try clear c1
  try clear p2
  obtain ⟨x7_1, x8_1, rfl, rfl, HA, HK1, BK179, HB⟩ := hrel
  cases gk with
  | zero => exact absurd HA.out (by simp [pr_Owed.l0])
  | succ k1 =>
   have H := HA.out
   clear HA
   simp only [pr_Owed.l0] at H
   by_cases c5 : x8_1 < (l0_1.length : Int)
   ·rw [if_pos c5] at H
    have c5b0 : decide (x8_1 < (l0_1.length : Int)) = true := decide_eq_true c5
    clear c5
    by_cases c6 : 0 ≤ x8_1
    ·rw [if_pos c6] at H
     have c6b0 : decide (0 ≤ x8_1) = true := decide_eq_true c6
     clear c6
     by_cases c7 : ((rd_T91 l0_1 x8_1).f0) = a2
     ·rw [if_pos c7] at H
      have c7b0 : (((rd_T91 l0_1 x8_1).f0) == a2) = true := beq_iff_eq.mpr c7
      have c7b1 : (((rd_T91 l0_1 x8_1).f0) != a2) = false := bne_eq_false_iff_eq.mpr c7
      clear c7
      by_cases c8 : x8_1 < (l1.length : Int)
      ·rw [if_pos c8] at H
       have c8b0 : decide (x8_1 < (l1.length : Int)) = true := decide_eq_true c8
       clear c8
       by_cases c9 : ((rd_T91 l0_1 x8_1).f1) = a2
       ·rw [if_pos c9] at H
        have c9b0 : (((rd_T91 l0_1 x8_1).f1) == a2) = true := beq_iff_eq.mpr c9
        have c9b1 : (((rd_T91 l0_1 x8_1).f1) != a2) = false := bne_eq_false_iff_eq.mpr c9
        clear c9
        have H' := mkA H
        clear H
        have hcz10_0 : wr.cell? ⟨gb179, 0, none⟩ = some (.int .i64 a0_0) := (z13 BK179.out 0).trans rfl
        have hcz10_1 : wr.cell? ⟨gb179, 1, none⟩ = some (.slice A0_1 l0_1.length c0_1) := (z13 BK179.out 1).trans rfl
        have hcz10_2 : wr.cell? ⟨gb179, 2, none⟩ = some (.slice A0_2 l0_2.length c0_2) := (z13 BK179.out 2).trans rfl
        have hfz10_0 := z14 BK179.out 0
        have hfz10_1 := z14 BK179.out 1
        have hfz10_2 := z14 BK179.out 2
        have p180 : 0 ≤ (x8_1 : Int) := of_decide_eq_true (by first | (with_reducible assumption) | assumption)
        have q180 : x8_1 < (l0_1.length : Int) := of_decide_eq_true (by first | (with_reducible assumption) | assumption)
        obtain ⟨ad180, e180, hx180_0, hx180_1, hx180_2, hx180_3⟩ := at_T91 HR0_1.out x8_1 p180 q180
        cases e180
        replace hx180_0 := (HB.out.cell (World.block_lt_of_cell? w _ hx180_0)).trans hx180_0
        replace hx180_1 := (HB.out.cell (World.block_lt_of_cell? w _ hx180_1)).trans hx180_1
        replace hx180_2 := (HB.out.cell (World.block_lt_of_cell? w _ hx180_2)).trans hx180_2
        replace hx180_3 := (HB.out.cell (World.block_lt_of_cell? w _ hx180_3)).trans hx180_3
        replace p180 := eq_true p180
        replace q180 := eq_true q180
        have p181 : 0 ≤ (x8_1 : Int) := of_decide_eq_true (by first | (with_reducible assumption) | assumption)
        have q181 : x8_1 < (l1.length : Int) := of_decide_eq_true (by first | (with_reducible assumption) | assumption)
        obtain ⟨ad181, e181, hx181_0⟩ := Kd.at_int HR1.out x8_1 p181 q181
        cases e181
        replace hx181_0 := (HB.out.cell (World.block_lt_of_cell? w _ hx181_0)).trans hx181_0
        replace p181 := eq_true p181
        replace q181 := eq_true q181
        have p182 : 0 ≤ (x8_1 : Int) := of_decide_eq_true (by first | (with_reducible assumption) | assumption)
        have q182 : x8_1 < (l0_1.length : Int) := of_decide_eq_true (by first | (with_reducible assumption) | assumption)
        obtain ⟨ad182, e182, hx182_0, hx182_1, hx182_2, hx182_3⟩ := at_T91 HR0_1.out x8_1 p182 q182
        obtain rfl : ad180 = ad182 := (by injection e182)
        replace hx182_0 := (HB.out.cell (World.block_lt_of_cell? w _ hx182_0)).trans hx182_0
        replace hx182_1 := (HB.out.cell (World.block_lt_of_cell? w _ hx182_1)).trans hx182_1
        replace hx182_2 := (HB.out.cell (World.block_lt_of_cell? w _ hx182_2)).trans hx182_2
        replace hx182_3 := (HB.out.cell (World.block_lt_of_cell? w _ hx182_3)).trans hx182_3
        replace p182 := eq_true p182
        replace q182 := eq_true q182
        have p183 : 0 ≤ (x8_1 : Int) := of_decide_eq_true (by first | (with_reducible assumption) | assumption)
        have q183 : x8_1 < (l1.length : Int) := of_decide_eq_true (by first | (with_reducible assumption) | assumption)
        obtain ⟨ad183, e183, hx183_0⟩ := Kd.at_int HR1.out x8_1 p183 q183
        obtain rfl : ad181 = ad183 := (by injection e183)
        replace hx183_0 := (HB.out.cell (World.block_lt_of_cell? w _ hx183_0)).trans hx183_0
        replace p183 := eq_true p183
        replace q183 := eq_true q183
        go_wp2
        go_roundg k1
        case measure => have := HK1.out; omega
        case rel => exact ⟨(wrap64 ((wrap64 (x7_1 + (rd l1 x8_1))) - (rd l1 x8_1))), (wrap64 (x8_1 + 1)), (by first | rfl | (simp; done) | (simp [*]; done)), (by first | rfl | (simp; done) | (simp [*]; done)), H', ⟨by have := HK1.out; omega⟩, ⟨by (with_reducible repeat (first | refine z16 ?_ _)); exact BK179.out⟩, ⟨by repeat (with_reducible first | exact HB.out | apply z11 | apply z10 | apply z12 | refine z15 ?_ GE179.out)⟩⟩
       ·rw [if_neg c9] at H
        have c9b0 : (((rd_T91 l0_1 x8_1).f1) == a2) = false := beq_eq_false_iff_ne.mpr c9
        have c9b1 : (((rd_T91 l0_1 x8_1).f1) != a2) = true := bne_iff_ne.mpr c9
        have H' := mkA H
        clear H
        have hcz11_0 : wr.cell? ⟨gb179, 0, none⟩ = some (.int .i64 a0_0) := (z13 BK179.out 0).trans rfl
        have hcz11_1 : wr.cell? ⟨gb179, 1, none⟩ = some (.slice A0_1 l0_1.length c0_1) := (z13 BK179.out 1).trans rfl
        have hcz11_2 : wr.cell? ⟨gb179, 2, none⟩ = some (.slice A0_2 l0_2.length c0_2) := (z13 BK179.out 2).trans rfl
        have hfz11_0 := z14 BK179.out 0
        have hfz11_1 := z14 BK179.out 1
        have hfz11_2 := z14 BK179.out 2
        have p180 : 0 ≤ (x8_1 : Int) := of_decide_eq_true (by first | (with_reducible assumption) | assumption)
        have q180 : x8_1 < (l0_1.length : Int) := of_decide_eq_true (by first | (with_reducible assumption) | assumption)
        obtain ⟨ad180, e180, hx180_0, hx180_1, hx180_2, hx180_3⟩ := at_T91 HR0_1.out x8_1 p180 q180
        cases e180
        replace hx180_0 := (HB.out.cell (World.block_lt_of_cell? w _ hx180_0)).trans hx180_0
        replace hx180_1 := (HB.out.cell (World.block_lt_of_cell? w _ hx180_1)).trans hx180_1
        replace hx180_2 := (HB.out.cell (World.block_lt_of_cell? w _ hx180_2)).trans hx180_2
        replace hx180_3 := (HB.out.cell (World.block_lt_of_cell? w _ hx180_3)).trans hx180_3
        replace p180 := eq_true p180
        replace q180 := eq_true q180
        have p181 : 0 ≤ (x8_1 : Int) := of_decide_eq_true (by first | (with_reducible assumption) | assumption)
        have q181 : x8_1 < (l1.length : Int) := of_decide_eq_true (by first | (with_reducible assumption) | assumption)
        obtain ⟨ad181, e181, hx181_0⟩ := Kd.at_int HR1.out x8_1 p181 q181
        cases e181
        replace hx181_0 := (HB.out.cell (World.block_lt_of_cell? w _ hx181_0)).trans hx181_0
        replace p181 := eq_true p181
        replace q181 := eq_true q181
        have p182 : 0 ≤ (x8_1 : Int) := of_decide_eq_true (by first | (with_reducible assumption) | assumption)
        have q182 : x8_1 < (l0_1.length : Int) := of_decide_eq_true (by first | (with_reducible assumption) | assumption)
        obtain ⟨ad182, e182, hx182_0, hx182_1, hx182_2, hx182_3⟩ := at_T91 HR0_1.out x8_1 p182 q182
        obtain rfl : ad180 = ad182 := (by injection e182)
        replace hx182_0 := (HB.out.cell (World.block_lt_of_cell? w _ hx182_0)).trans hx182_0
        replace hx182_1 := (HB.out.cell (World.block_lt_of_cell? w _ hx182_1)).trans hx182_1
        replace hx182_2 := (HB.out.cell (World.block_lt_of_cell? w _ hx182_2)).trans hx182_2
        replace hx182_3 := (HB.out.cell (World.block_lt_of_cell? w _ hx182_3)).trans hx182_3
        replace p182 := eq_true p182
        replace q182 := eq_true q182
        go_wp2
        go_roundg k1
        case measure => have := HK1.out; omega
        case rel => exact ⟨(wrap64 (x7_1 + (rd l1 x8_1))), (wrap64 (x8_1 + 1)), (by first | rfl | (simp; done) | (simp [*]; done)), (by first | rfl | (simp; done) | (simp [*]; done)), H', ⟨by have := HK1.out; omega⟩, ⟨by (with_reducible repeat (first | refine z16 ?_ _)); exact BK179.out⟩, ⟨by repeat (with_reducible first | exact HB.out | apply z11 | apply z10 | apply z12 | refine z15 ?_ GE179.out)⟩⟩
      ·rw [if_neg c8] at H
       exact absurd H (by simp)
     ·rw [if_neg c7] at H
      have c7b0 : (((rd_T91 l0_1 x8_1).f0) == a2) = false := beq_eq_false_iff_ne.mpr c7
      have c7b1 : (((rd_T91 l0_1 x8_1).f0) != a2) = true := bne_iff_ne.mpr c7
      by_cases c12 : ((rd_T91 l0_1 x8_1).f1) = a2
      ·rw [if_pos c12] at H
       have c12b0 : (((rd_T91 l0_1 x8_1).f1) == a2) = true := beq_iff_eq.mpr c12
       have c12b1 : (((rd_T91 l0_1 x8_1).f1) != a2) = false := bne_eq_false_iff_eq.mpr c12
       clear c12
       by_cases c13 : x8_1 < (l1.length : Int)
       ·rw [if_pos c13] at H
        have c13b0 : decide (x8_1 < (l1.length : Int)) = true := decide_eq_true c13
        clear c13
        have H' := mkA H
        clear H
        have hcz14_0 : wr.cell? ⟨gb179, 0, none⟩ = some (.int .i64 a0_0) := (z13 BK179.out 0).trans rfl
        have hcz14_1 : wr.cell? ⟨gb179, 1, none⟩ = some (.slice A0_1 l0_1.length c0_1) := (z13 BK179.out 1).trans rfl
        have hcz14_2 : wr.cell? ⟨gb179, 2, none⟩ = some (.slice A0_2 l0_2.length c0_2) := (z13 BK179.out 2).trans rfl
        have hfz14_0 := z14 BK179.out 0
        have hfz14_1 := z14 BK179.out 1
        have hfz14_2 := z14 BK179.out 2
        have p180 : 0 ≤ (x8_1 : Int) := of_decide_eq_true (by first | (with_reducible assumption) | assumption)
        have q180 : x8_1 < (l0_1.length : Int) := of_decide_eq_true (by first | (with_reducible assumption) | assumption)
        obtain ⟨ad180, e180, hx180_0, hx180_1, hx180_2, hx180_3⟩ := at_T91 HR0_1.out x8_1 p180 q180
        cases e180
        replace hx180_0 := (HB.out.cell (World.block_lt_of_cell? w _ hx180_0)).trans hx180_0
        replace hx180_1 := (HB.out.cell (World.block_lt_of_cell? w _ hx180_1)).trans hx180_1
        replace hx180_2 := (HB.out.cell (World.block_lt_of_cell? w _ hx180_2)).trans hx180_2
        replace hx180_3 := (HB.out.cell (World.block_lt_of_cell? w _ hx180_3)).trans hx180_3
        replace p180 := eq_true p180
        replace q180 := eq_true q180
        have p184 : 0 ≤ (x8_1 : Int) := of_decide_eq_true (by first | (with_reducible assumption) | assumption)
        have q184 : x8_1 < (l0_1.length : Int) := of_decide_eq_true (by first | (with_reducible assumption) | assumption)
        obtain ⟨ad184, e184, hx184_0, hx184_1, hx184_2, hx184_3⟩ := at_T91 HR0_1.out x8_1 p184 q184
        obtain rfl : ad180 = ad184 := (by injection e184)
        replace hx184_0 := (HB.out.cell (World.block_lt_of_cell? w _ hx184_0)).trans hx184_0
        replace hx184_1 := (HB.out.cell (World.block_lt_of_cell? w _ hx184_1)).trans hx184_1
        replace hx184_2 := (HB.out.cell (World.block_lt_of_cell? w _ hx184_2)).trans hx184_2
        replace hx184_3 := (HB.out.cell (World.block_lt_of_cell? w _ hx184_3)).trans hx184_3
        replace p184 := eq_true p184
        replace q184 := eq_true q184
        have p185 : 0 ≤ (x8_1 : Int) := of_decide_eq_true (by first | (with_reducible assumption) | assumption)
        have q185 : x8_1 < (l1.length : Int) := of_decide_eq_true (by first | (with_reducible assumption) | assumption)
        obtain ⟨ad185, e185, hx185_0⟩ := Kd.at_int HR1.out x8_1 p185 q185
        cases e185
        replace hx185_0 := (HB.out.cell (World.block_lt_of_cell? w _ hx185_0)).trans hx185_0
        replace p185 := eq_true p185
        replace q185 := eq_true q185
        go_wp2
        go_roundg k1
        case measure => have := HK1.out; omega
        case rel => exact ⟨(wrap64 (x7_1 - (rd l1 x8_1))), (wrap64 (x8_1 + 1)), (by first | rfl | (simp; done) | (simp [*]; done)), (by first | rfl | (simp; done) | (simp [*]; done)), H', ⟨by have := HK1.out; omega⟩, ⟨by (with_reducible repeat (first | refine z16 ?_ _)); exact BK179.out⟩, ⟨by repeat (with_reducible first | exact HB.out | apply z11 | apply z10 | apply z12 | refine z15 ?_ GE179.out)⟩⟩
       ·rw [if_neg c13] at H
        exact absurd H (by simp)
      ·rw [if_neg c12] at H
       have c12b0 : (((rd_T91 l0_1 x8_1).f1) == a2) = false := beq_eq_false_iff_ne.mpr c12
       have c12b1 : (((rd_T91 l0_1 x8_1).f1) != a2) = true := bne_iff_ne.mpr c12
       have H' := mkA H
       clear H
       have hcz15_0 : wr.cell? ⟨gb179, 0, none⟩ = some (.int .i64 a0_0) := (z13 BK179.out 0).trans rfl
       have hcz15_1 : wr.cell? ⟨gb179, 1, none⟩ = some (.slice A0_1 l0_1.length c0_1) := (z13 BK179.out 1).trans rfl
       have hcz15_2 : wr.cell? ⟨gb179, 2, none⟩ = some (.slice A0_2 l0_2.length c0_2) := (z13 BK179.out 2).trans rfl
       have hfz15_0 := z14 BK179.out 0
       have hfz15_1 := z14 BK179.out 1
       have hfz15_2 := z14 BK179.out 2
       have p180 : 0 ≤ (x8_1 : Int) := of_decide_eq_true (by first | (with_reducible assumption) | assumption)
       have q180 : x8_1 < (l0_1.length : Int) := of_decide_eq_true (by first | (with_reducible assumption) | assumption)
       obtain ⟨ad180, e180, hx180_0, hx180_1, hx180_2, hx180_3⟩ := at_T91 HR0_1.out x8_1 p180 q180
       cases e180
       replace hx180_0 := (HB.out.cell (World.block_lt_of_cell? w _ hx180_0)).trans hx180_0
       replace hx180_1 := (HB.out.cell (World.block_lt_of_cell? w _ hx180_1)).trans hx180_1
       replace hx180_2 := (HB.out.cell (World.block_lt_of_cell? w _ hx180_2)).trans hx180_2
       replace hx180_3 := (HB.out.cell (World.block_lt_of_cell? w _ hx180_3)).trans hx180_3
       replace p180 := eq_true p180
       replace q180 := eq_true q180
       have p184 : 0 ≤ (x8_1 : Int) := of_decide_eq_true (by first | (with_reducible assumption) | assumption)
       have q184 : x8_1 < (l0_1.length : Int) := of_decide_eq_true (by first | (with_reducible assumption) | assumption)
       obtain ⟨ad184, e184, hx184_0, hx184_1, hx184_2, hx184_3⟩ := at_T91 HR0_1.out x8_1 p184 q184
       obtain rfl : ad180 = ad184 := (by injection e184)
       replace hx184_0 := (HB.out.cell (World.block_lt_of_cell? w _ hx184_0)).trans hx184_0
       replace hx184_1 := (HB.out.cell (World.block_lt_of_cell? w _ hx184_1)).trans hx184_1
       replace hx184_2 := (HB.out.cell (World.block_lt_of_cell? w _ hx184_2)).trans hx184_2
       replace hx184_3 := (HB.out.cell (World.block_lt_of_cell? w _ hx184_3)).trans hx184_3
       replace p184 := eq_true p184
       replace q184 := eq_true q184
       go_wp2
       go_roundg k1
       case measure => have := HK1.out; omega
       case rel => exact ⟨(x7_1), (wrap64 (x8_1 + 1)), (by first | rfl | (simp; done) | (simp [*]; done)), (by first | rfl | (simp; done) | (simp [*]; done)), H', ⟨by have := HK1.out; omega⟩, ⟨by (with_reducible repeat (first | refine z16 ?_ _)); exact BK179.out⟩, ⟨by repeat (with_reducible first | exact HB.out | apply z11 | apply z10 | apply z12 | refine z15 ?_ GE179.out)⟩⟩
    ·rw [if_neg c6] at H
     exact absurd H (by simp)
   ·rw [if_neg c5] at H
    have c5b0 : decide (x8_1 < (l0_1.length : Int)) = false := decide_eq_false c5
    clear c5
    obtain rfl := Option.some.inj H
    have hcz16_0 : wr.cell? ⟨gb179, 0, none⟩ = some (.int .i64 a0_0) := (z13 BK179.out 0).trans rfl
    have hcz16_1 : wr.cell? ⟨gb179, 1, none⟩ = some (.slice A0_1 l0_1.length c0_1) := (z13 BK179.out 1).trans rfl
    have hcz16_2 : wr.cell? ⟨gb179, 2, none⟩ = some (.slice A0_2 l0_2.length c0_2) := (z13 BK179.out 2).trans rfl
    have hfz16_0 := z14 BK179.out 0
    have hfz16_1 := z14 BK179.out 1
    have hfz16_2 := z14 BK179.out 2
    go_wp2
    go_ret
    exact ⟨by first | rfl | (simp [z20, z19] <;> rfl) | (simp [*, z20, z19] <;> rfl), by repeat (with_reducible first | exact HB.out | apply z11 | apply z10 | apply z12 | refine z15 ?_ GE179.out)⟩
end Go.Proofs.Ytncaadckehikpaa.Q
namespace Go.Proofs.Ytncaadckehikpaa.Q
open Go.RowKit Go.Proofs.YtncaadckehikpaaW.PrintWords Go.Proofs.YtncaadckehikpaaW.PrintLast Go.Proofs.YtncaadckehikpaaW.PrintMore
set_option linter.unusedVariables false
set_option linter.unusedSimpArgs false
/-- An entry, and a saying, of the reference as ones of the program. -/
def c91 (e : S91) : S122 := ⟨e.f0, e.f1, ⟨e.f2.f0, e.f2.f1⟩⟩
def c94 (x : S94) : S124 := ⟨x.f0, ⟨x.f1.f0, x.f1.f1⟩⟩
theorem getD_of {α : Type} (xs : List α) (z : α) (i : Nat) (h : i < xs.length) : xs.getD ((i : Int)).toNat z = xs[i] := by
  simp [List.getD, h]
theorem rd91 (xs : List S91) (i : Nat) (h : i < xs.length) : rd_T91 xs (i : Int) = xs[i] := getD_of xs _ i h
theorem rd94 (xs : List S94) (i : Nat) (h : i < xs.length) : rd_T94 xs (i : Int) = xs[i] := getD_of xs _ i h
theorem rd122 (xs : List S122) (i : Nat) (h : i < xs.length) : rd_T122 xs (i : Int) = xs[i] := getD_of xs _ i h
theorem rd124 (xs : List S124) (i : Nat) (h : i < xs.length) : rd_T124 xs (i : Int) = xs[i] := getD_of xs _ i h
theorem rd_map91 (xs : List S91) (i : Nat) (h : i < xs.length) : rd_T122 (xs.map c91) (i : Int) = c91 (rd_T91 xs (i : Int)) := by
  rw [rd91 xs i h, rd122 _ i (by simpa using h), List.getElem_map]
theorem rd_map94 (xs : List S94) (i : Nat) (h : i < xs.length) : rd_T124 (xs.map c94) (i : Int) = c94 (rd_T94 xs (i : Int)) := by
  rw [rd94 xs i h, rd124 _ i (by simpa using h), List.getElem_map]
theorem w1 (i : Nat) (h : i < 1000000000000) : wrap64 ((i : Int) + 1) = ((i + 1 : Nat) : Int) := by unfold wrap64; omega
theorem Slate_l1 (n m : Int) (l1 : List S91) (l2 : List S94) (es : List S122) (hl : l2.length ≤ 30) : ∀ (d k i : Nat) (acc : List S124), i + d = l2.length → d < k → acc.length = i →
    pl_Slate.l1 k i n l1 l2 m es acc = some (m, es, acc ++ (l2.drop i).map c94)
  | 0, k + 1, i, acc, h, hk, ha => by
    rw [pl_Slate.l1, if_neg (by omega), List.drop_of_length_le (by omega)]
    simp
  | d + 1, k + 1, i, acc, h, hk, ha => by
    have hi : i < l2.length := by omega
    rw [pl_Slate.l1, if_pos (by omega), if_pos (by omega), w1 i (by omega)]
    simp only [pl_to.f, Option.bind_some]
    rw [if_pos (by omega), Slate_l1 n m l1 l2 es hl d k (i + 1) _ (by omega) (by omega) (by simp [ha]), List.drop_eq_getElem_cons hi, rd94 l2 i hi]
    rw [List.map_cons, List.append_assoc]
    rfl
theorem Slate_l0 (n m : Int) (l1 : List S91) (l2 : List S94) (hl : l2.length ≤ 30) (hl1 : l1.length ≤ 30) : ∀ (d k i : Nat) (acc : List S122), i + d = l1.length → d + 31 < k → acc.length = i →
    pl_Slate.l0 k i n l1 l2 m acc = some (m, acc ++ (l1.drop i).map c91, l2.map c94)
  | 0, k + 1, i, acc, h, hk, ha => by
    rw [pl_Slate.l0, if_neg (by omega), List.drop_of_length_le (by omega)]
    have := Slate_l1 n m l1 l2 acc hl l2.length k 0 [] (by omega) (by omega) rfl
    simpa using this
  | d + 1, k + 1, i, acc, h, hk, ha => by
    have hi : i < l1.length := by omega
    rw [pl_Slate.l0, if_pos (by omega), if_pos (by omega), w1 i (by omega)]
    simp only [pl_to.f, Option.bind_some]
    rw [if_pos (by omega), Slate_l0 n m l1 l2 hl hl1 d k (i + 1) _ (by omega) (by omega) (by simp [ha]), List.drop_eq_getElem_cons hi, rd91 l1 i hi]
    rw [List.map_cons, List.append_assoc]
    rfl
/-- The program's slate. -/
theorem Slate_f (k : Nat) (n : Int) (l1 : List S91) (l2 : List S94) (h1 : l1.length ≤ 30) (h2 : l2.length ≤ 30) (hk : 100 ≤ k) : pl_Slate.f k n l1 l2 = some (n, l1.map c91, l2.map c94) := by
  have := Slate_l0 n n l1 l2 h2 h1 l1.length k 0 [] (by omega) (by omega) rfl
  simpa [pl_Slate.f] using this
theorem Thin_f (n : Int) (l1 : List S91) (l2 : List S94) : pl_Thin.f n l1 l2 = some (decide (l1.length ≤ 30 ∧ l2.length ≤ 30)) := by
  unfold pl_Thin.f
  by_cases h : (l1.length : Int) > 30
  · rw [if_pos h, decide_eq_false (by omega)]
  · rw [if_neg h]
    by_cases h2 : (l2.length : Int) > 30
    · rw [if_pos h2, decide_eq_false (by omega)]
    · rw [if_neg h2, decide_eq_true (by omega)]
/-- The product of all sizes. -/
def prodS : List S122 → Int
  | [] => 1
  | e :: es => sizeS e * prodS es
theorem prodS_pos : ∀ (l : List S122), (∀ e ∈ l, 1 ≤ sizeS e) → 1 ≤ prodS l
  | [], _ => by simp [prodS]
  | e :: es, h => by
    have h1 := h e (by simp)
    have h2 := prodS_pos es (fun x hx => h x (by simp [hx]))
    have := Int.mul_le_mul h1 h2 (by omega) (by omega)
    simp only [prodS]
    omega
theorem mul_mn (a s c t : Int) (ha : 1 ≤ a) (hs : 1 ≤ s) (ht : 1 ≤ t) (hc : 1 ≤ c) : mn (mn (a * s) c * t) c = mn (a * (s * t)) c := by
  have h0 : a * (s * t) = a * s * t := (Int.mul_assoc a s t).symm
  rw [h0]
  generalize a * s = b
  unfold mn
  by_cases h : c < b
  · rw [if_pos h]
    have h1 : c * 1 ≤ c * t := Int.mul_le_mul_of_nonneg_left ht (by omega)
    have h2 : c * t < b * t := Int.mul_lt_mul_of_pos_right h (by omega)
    rw [if_pos (show c < b * t by omega)]
    by_cases h3 : c < c * t
    · rw [if_pos h3]
    · rw [if_neg h3]; omega
  · rw [if_neg h]
theorem fold_mn (c : Int) (hc : 1 ≤ c) : ∀ (l : List S122) (m : Int), 1 ≤ m → m ≤ c → (∀ e ∈ l, 1 ≤ sizeS e) → l.foldl (fun m e => mn (m * sizeS e) c) m = mn (m * prodS l) c
  | [], m, h1, h2, _ => by
    simp only [List.foldl_nil, prodS, Int.mul_one]
    unfold mn
    rw [if_neg (by omega)]
  | e :: es, m, h1, h2, h => by
    have hs := h e (by simp)
    have hp := prodS_pos es (fun x hx => h x (by simp [hx]))
    have hm : 1 ≤ m * sizeS e := by
      have := Int.mul_le_mul h1 hs (by omega) (by omega)
      omega
    rw [List.foldl_cons, fold_mn c hc es _ (by unfold mn; split <;> omega) (mn_le _ _) (fun x hx => h x (by simp [hx]))]
    simp only [prodS]
    exact mul_mn m (sizeS e) c (prodS es) h1 hs hp hc
theorem manyS_eq (l : List S122) (h : ∀ e ∈ l, 1 ≤ sizeS e) : manyS l = mn (prodS l) 2001 := by
  unfold manyS
  rw [fold_mn 2001 (by omega) l 1 (by omega) (by omega) h, Int.one_mul]
/-- The reference's number of ounces. -/
theorem Many_l0 (n : Int) (l1 : List S91) (l2 : List S94) (hl : l1.length ≤ 6) (h : ∀ e ∈ l1.map c91, 1 ≤ sizeS e ∧ sizeS e ≤ 41 ∧ 0 ≤ e.f2.f0 ∧ e.f2.f1 ≤ 40) :
    ∀ (d k i : Nat) (m : Int), i + d = l1.length → d < k → 1 ≤ m → m ≤ 3000 → pr_Many.l0 k m i n l1 l2 = some (((l1.drop i).map c91).foldl (fun m e => mn (m * sizeS e) 3000) m)
  | 0, k + 1, i, m, hi, hk, h1, h2 => by
    rw [pr_Many.l0, if_neg (by omega), List.drop_of_length_le (by omega)]
    rfl
  | d + 1, k + 1, i, m, hi, hk, h1, h2 => by
    have hn : i < l1.length := by omega
    have he := h (c91 l1[i]) (List.mem_map_of_mem (List.getElem_mem hn))
    have hp : 1 ≤ m * sizeS (c91 l1[i]) := by
      have := Int.mul_le_mul h1 he.1 (by omega) (by omega)
      omega
    have hq : m * sizeS (c91 l1[i]) ≤ 3000 * 41 := Int.mul_le_mul h2 he.2.1 (by omega) (by omega)
    rw [pr_Many.l0, if_pos (by omega), if_pos (by omega), w1 i (by omega), rd91 l1 i hn]
    have hz : pr_Size.f (l1[i].f2.f0) (l1[i].f2.f1) = some (sizeS (c91 l1[i])) := by
      simp only [pr_Size.f, sizeS, c91] at he ⊢
      refine congrArg some ?_
      unfold wrap64
      omega
    rw [hz, Option.bind_some, show wrap64 (m * sizeS (c91 l1[i])) = m * sizeS (c91 l1[i]) by unfold wrap64; omega]
    have hmn : mn 3000 (m * sizeS (c91 l1[i])) = mn (m * sizeS (c91 l1[i])) 3000 := by unfold mn; split <;> split <;> omega
    rw [hmn, Many_l0 n l1 l2 hl h d k (i + 1) _ (by omega) (by omega) (by unfold mn; split <;> omega) (mn_le _ _), List.drop_eq_getElem_cons hn]
    rfl
theorem Many_f (k : Nat) (n : Int) (l1 : List S91) (l2 : List S94) (hl : l1.length ≤ 6) (h : ∀ e ∈ l1.map c91, 1 ≤ sizeS e ∧ sizeS e ≤ 41 ∧ 0 ≤ e.f2.f0 ∧ e.f2.f1 ≤ 40) (hk : 7 ≤ k) :
    pr_Many.f k n l1 l2 = some (mn (prodS (l1.map c91)) 3000) := by
  have := Many_l0 n l1 l2 hl h l1.length k 0 1 (by omega) (by omega) (by omega) (by omega)
  rw [pr_Many.f, show (0 : Int) = ((0 : Nat) : Int) from rfl, this, List.drop_zero, fold_mn 3000 (by omega) _ 1 (by omega) (by omega) (fun e he => (h e he).1), Int.one_mul]
end Go.Proofs.Ytncaadckehikpaa.Q
