/- A part of the proof: contracts of functions and plain facts (Q7). No condition. -/
import Derived.Test.YtncaadckehikpaaM3
import Derived.Test.YtncaadckehikpaaM11
import Derived.Test.YtncaadckehikpaaM13
namespace Go.Proofs.Ytncaadckehikpaa.Q
open Go.RowKit Go.Proofs.YtncaadckehikpaaW.PrintWords Go.Proofs.YtncaadckehikpaaW.PrintLast Go.Proofs.YtncaadckehikpaaW.PrintMore
attribute [local go_sem] z30 z29 max_two min_two   -- for this text's walks alone
set_option linter.unusedVariables false
set_option linter.unusedSimpArgs false
/-! ### pr_Fault: function 80 -/
mutual
def pr_Fault.j0 : Nat → Bool → Int → List (S91) → List (S94) → Option (Int)
 | 0, _, _, _, _ => none
 | k + 1, x21, x161000, x161001, x161002 => if x21 = true then (some 3) else (if x161000 < 0 then (some 1) else (pr_Fault.l0 k 0 x161000 x161001 x161002))
def pr_Fault.l0 : Nat → Int → Int → List (S91) → List (S94) → Option (Int)
 | 0, _, _, _, _ => none
 | k + 1, x3, x161000, x161001, x161002 => if x3 < (x161001.length : Int) then (if 0 ≤ x3 then ((pr_ArePair.f x161000 x161001 x161002 ((rd_T91 x161001 x3).f0) ((rd_T91 x161001 x3).f1)).bind fun t163 => (if t163 = true then (if ((rd_T91 x161001 x3).f2.f0) < 0 then (some 1) else (if ((rd_T91 x161001 x3).f2.f0) > ((rd_T91 x161001 x3).f2.f1) then (some 1) else (if ((rd_T91 x161001 x3).f2.f1) > 40 then (some 1) else (pr_Fault.l0 k (wrap64 (x3 + 1)) x161000 x161001 x161002)))) else (some 1))) else (none)) else (pr_Fault.l1 k 0 x161000 x161001 x161002)
def pr_Fault.l1 : Nat → Int → Int → List (S91) → List (S94) → Option (Int)
 | 0, _, _, _, _ => none
 | k + 1, x5, x161000, x161001, x161002 => if x5 < (x161002.length : Int) then (if 0 ≤ x5 then ((pr_In.f ((rd_T94 x161002 x5).f0) 0 (wrap64 (x161000 - 1))).bind fun t166 => (if t166 = true then (if ((rd_T94 x161002 x5).f1.f0) < (-240) then (some 1) else (if ((rd_T94 x161002 x5).f1.f0) > ((rd_T94 x161002 x5).f1.f1) then (some 1) else (if ((rd_T94 x161002 x5).f1.f1) > 240 then (some 1) else (pr_Fault.l1 k (wrap64 (x5 + 1)) x161000 x161001 x161002)))) else (some 1))) else (none)) else ((pr_Many.f k x161000 x161001 x161002).bind fun t167 => (if t167 > 2000 then (some 3) else (some 0)))
end
def pr_Fault.f (k : Nat) (a0_0 : Int) (l0_1 : List (S91)) (l0_2 : List (S94)) : Option (Int) := if a0_0 > 6 then (pr_Fault.j0 k true a0_0 l0_1 l0_2) else (if (l0_1.length : Int) > 6 then (pr_Fault.j0 k true a0_0 l0_1 l0_2) else (pr_Fault.j0 k (decide ((l0_2.length : Int) > 5)) a0_0 l0_1 l0_2))
set_option maxHeartbeats 8000000 in
set_option maxRecDepth 100000 in
theorem pr_Fault.calls (k : Nat) (a0_0 : Int) (A0_1 : Option Addr) (c0_1 : Nat) (l0_1 : List (S91)) (A0_2 : Option Addr) (c0_2 : Nat) (l0_2 : List (S94)) (r : Int) (w : World) (hr0_1 : Kd.C k91 w A0_1 l0_1.length l0_1) (hc0_1 : l0_1.length ≤ c0_1) (hr0_2 : Kd.C k94 w A0_2 l0_2.length l0_2) (hc0_2 : l0_2.length ≤ c0_2) (h : pr_Fault.f k a0_0 l0_1 l0_2 = some r) :
  Calls Try.prog 80 #[.agg #[.int .i64 a0_0, .slice A0_1 l0_1.length c0_1, .slice A0_2 l0_2.length c0_2]] w fun e w' => e = .returned (.int .i64 r) ∧ Below w.heap.size w w' := by
 have hu25 := Try.underlying25
 have hu91 := Try.underlying91
 have hu94 := Try.underlying94
 have HR0_1 := mkA hr0_1
 have HC0_1 := mkA hc0_1
 clear hr0_1 hc0_1
 have HR0_2 := mkA hr0_2
 have HC0_2 := mkA hc0_2
 clear hr0_2 hc0_2
 have HB := mkA (Below.refl w.heap.size w)
 have H : (if a0_0 > 6 then (pr_Fault.j0 k true a0_0 l0_1 l0_2) else (if (l0_1.length : Int) > 6 then (pr_Fault.j0 k true a0_0 l0_1 l0_2) else (pr_Fault.j0 k (decide ((l0_2.length : Int) > 5)) a0_0 l0_1 l0_2))) = some r := h
 clear h
 have HC2 := mkA H
 clear H
 go_enter Try.func80, Try.ntmps80
 go_upto_region 1 with ((with_reducible refine z24 (N := 1) rfl ?_); (try (refine z32 (by rfl) ?_; dsimp only)); refine z23 ?hg (N := 1) ?hd (cs := #[.int .i64 a0_0, .slice A0_1 l0_1.length c0_1, .slice A0_2 l0_2.length c0_2]) (t := 25) ?hr ?_; (case hd => rfl); (case hg => rfl); (case hr => first | (go_simp; done) | (go_simp; rfl)); intro gb160 hg w3 hbox hb; have n0_ := mkA (z16 (by repeat (with_reducible first | exact HB.out | apply z10 | apply z11 | apply z13)) hb); have n1_ := mkA (hbox); have n2_ := mkA ((by rw [hg]; exact (z18 (by repeat (with_reducible first | exact HB.out | apply z10 | apply z11 | apply z13))) : w.heap.size ≤ gb160)); have n3_ := mkA ((by rw [hg]; exact (z18 (by repeat (with_reducible first | exact HB.out | apply z10 | apply z11 | apply z13))) : w.heap.size ≤ gb160)); clear HB; have HB := n0_; have BK160 := n1_; have GW160 := n2_; have GE160 := n3_; clear n0_ n1_ n2_ n3_; clear hb hbox hg)
 (try simp only [Act.put, xq1, xq2, xq3])
 go_cut [21] (fun v21 wc => ∃ (kq : Nat) (x21_1 : Bool), v21 = .bool x21_1 ∧ Aside0 (pr_Fault.j0 kq x21_1 a0_0 l0_1 l0_2 = some r) ∧ Aside0 (kq ≤ k) ∧ Aside0 (wc.heap[gb160]? = some (.cells #[.int .i64 a0_0, (.slice A0_1 l0_1.length c0_1), (.slice A0_2 l0_2.length c0_2)] 25 (0, 0))) ∧ Aside0 (Below w.heap.size w wc))
 case first =>
  have H := HC2.out
  clear HC2
  by_cases c4 : a0_0 > 6
  ·rw [if_pos c4] at H
   have c4b0 : decide (6 < a0_0) = true := decide_eq_true c4
   clear c4
   (first | skip)
   have H' := mkA H
   clear H
   have hcz5_0 : w3.cell? ⟨gb160, 0, none⟩ = some (.int .i64 a0_0) := (z12 BK160.out 0).trans rfl
   have hcz5_1 : w3.cell? ⟨gb160, 1, none⟩ = some (.slice A0_1 l0_1.length c0_1) := (z12 BK160.out 1).trans rfl
   have hcz5_2 : w3.cell? ⟨gb160, 2, none⟩ = some (.slice A0_2 l0_2.length c0_2) := (z12 BK160.out 2).trans rfl
   have hfz5_0 := z14 BK160.out 0
   have hfz5_1 := z14 BK160.out 1
   have hfz5_2 := z14 BK160.out 2
   go_wp2
   go_meet
   case rel => exact ⟨_, (true), (by first | rfl | (simp; done) | (simp [*]; done)), H', ⟨by first | omega | exact Nat.le_refl _⟩, ⟨by (with_reducible repeat (first | refine z17 ?_ _)); exact BK160.out⟩, ⟨by repeat (with_reducible first | exact HB.out | apply z10 | apply z11 | apply z13 | refine z15 ?_ GE160.out)⟩⟩
  ·rw [if_neg c4] at H
   have c4b0 : decide (6 < a0_0) = false := decide_eq_false c4
   clear c4
   (first | skip)
   by_cases c6 : (l0_1.length : Int) > 6
   ·rw [if_pos c6] at H
    have c6b0 : decide (6 < (l0_1.length : Int)) = true := decide_eq_true c6
    have c6b1 : decide (6 < l0_1.length) = true := decide_eq_true (by omega)
    clear c6
    have H' := mkA H
    clear H
    have hcz7_0 : w3.cell? ⟨gb160, 0, none⟩ = some (.int .i64 a0_0) := (z12 BK160.out 0).trans rfl
    have hcz7_1 : w3.cell? ⟨gb160, 1, none⟩ = some (.slice A0_1 l0_1.length c0_1) := (z12 BK160.out 1).trans rfl
    have hcz7_2 : w3.cell? ⟨gb160, 2, none⟩ = some (.slice A0_2 l0_2.length c0_2) := (z12 BK160.out 2).trans rfl
    have hfz7_0 := z14 BK160.out 0
    have hfz7_1 := z14 BK160.out 1
    have hfz7_2 := z14 BK160.out 2
    go_wp2
    go_meet
    case rel => exact ⟨_, (true), (by first | rfl | (simp; done) | (simp [*]; done)), H', ⟨by first | omega | exact Nat.le_refl _⟩, ⟨by (with_reducible repeat (first | refine z17 ?_ _)); exact BK160.out⟩, ⟨by repeat (with_reducible first | exact HB.out | apply z10 | apply z11 | apply z13 | refine z15 ?_ GE160.out)⟩⟩
   ·rw [if_neg c6] at H
    have c6b0 : decide (6 < (l0_1.length : Int)) = false := decide_eq_false c6
    have c6b1 : decide (6 < l0_1.length) = false := decide_eq_false (by omega)
    clear c6
    have H' := mkA H
    clear H
    have hcz8_0 : w3.cell? ⟨gb160, 0, none⟩ = some (.int .i64 a0_0) := (z12 BK160.out 0).trans rfl
    have hcz8_1 : w3.cell? ⟨gb160, 1, none⟩ = some (.slice A0_1 l0_1.length c0_1) := (z12 BK160.out 1).trans rfl
    have hcz8_2 : w3.cell? ⟨gb160, 2, none⟩ = some (.slice A0_2 l0_2.length c0_2) := (z12 BK160.out 2).trans rfl
    have hfz8_0 := z14 BK160.out 0
    have hfz8_1 := z14 BK160.out 1
    have hfz8_2 := z14 BK160.out 2
    go_wp2
    go_meet
    case rel => exact ⟨_, (decide ((l0_2.length : Int) > 5)), (by first | rfl | (simp; done) | (simp [*]; done)), H', ⟨by first | omega | exact Nat.le_refl _⟩, ⟨by (with_reducible repeat (first | refine z17 ?_ _)); exact BK160.out⟩, ⟨by repeat (with_reducible first | exact HB.out | apply z10 | apply z11 | apply z13 | refine z15 ?_ GE160.out)⟩⟩
 case rest =>
  clear HC2
  try clear p2
  try clear c4
  try clear c4b0
  try clear c6
  try clear c6b0
  try clear c6b1
  try clear c8
  try clear hcz5_0
  try clear hcz5_1
  try clear hcz5_2
  try clear hcz7_0
  try clear hcz7_1
  try clear hcz7_2
  try clear hcz8_0
  try clear hcz8_1
  try clear hcz8_2
  try clear hfz5_0
  try clear hfz5_1
  try clear hfz5_2
  try clear hfz7_0
  try clear hfz7_1
  try clear hfz7_2
  try clear hfz8_0
  try clear hfz8_1
  try clear hfz8_2
  obtain ⟨kq, x21_1, rfl, HA, HJ1, BK160, HB⟩ := hcut
  cases kq with
  | zero => exact absurd HA.out (by simp [pr_Fault.j0])
  | succ kj1 =>
   have H := HA.out
   clear HA
   simp only [pr_Fault.j0] at H
   by_cases c9 : x21_1 = true
   ·subst c9
    have H1 : (some 3) = some r := by rw [if_pos rfl] at H; exact H
    clear H
    have H := H1
    clear H1
    obtain rfl := Option.some.inj H
    go_wp2
    go_ret
    exact ⟨by first | rfl | (simp [z21, z20] <;> rfl) | (simp [*, z21, z20] <;> rfl), by repeat (with_reducible first | exact HB.out | apply z10 | apply z11 | apply z13 | refine z15 ?_ GE160.out)⟩
   ·replace c9 := Bool.eq_false_iff.mpr c9
    subst c9
    have H1 : (if a0_0 < 0 then (some 1) else (pr_Fault.l0 kj1 0 a0_0 l0_1 l0_2)) = some r := by rw [if_neg (show ¬ (false = true) by decide)] at H; exact H
    clear H
    have H := H1
    clear H1
    by_cases c10 : a0_0 < 0
    ·rw [if_pos c10] at H
     have c10b0 : decide (a0_0 < 0) = true := decide_eq_true c10
     clear c10
     obtain rfl := Option.some.inj H
     have hcz11_0 : wc.cell? ⟨gb160, 0, none⟩ = some (.int .i64 a0_0) := (z12 BK160.out 0).trans rfl
     have hcz11_1 : wc.cell? ⟨gb160, 1, none⟩ = some (.slice A0_1 l0_1.length c0_1) := (z12 BK160.out 1).trans rfl
     have hcz11_2 : wc.cell? ⟨gb160, 2, none⟩ = some (.slice A0_2 l0_2.length c0_2) := (z12 BK160.out 2).trans rfl
     have hfz11_0 := z14 BK160.out 0
     have hfz11_1 := z14 BK160.out 1
     have hfz11_2 := z14 BK160.out 2
     go_wp2
     go_ret
     exact ⟨by first | rfl | (simp [z21, z20] <;> rfl) | (simp [*, z21, z20] <;> rfl), by repeat (with_reducible first | exact HB.out | apply z10 | apply z11 | apply z13 | refine z15 ?_ GE160.out)⟩
    ·rw [if_neg c10] at H
     have c10b0 : decide (a0_0 < 0) = false := decide_eq_false c10
     clear c10
     have H' := mkA H
     clear H
     have hcz12_0 : wc.cell? ⟨gb160, 0, none⟩ = some (.int .i64 a0_0) := (z12 BK160.out 0).trans rfl
     have hcz12_1 : wc.cell? ⟨gb160, 1, none⟩ = some (.slice A0_1 l0_1.length c0_1) := (z12 BK160.out 1).trans rfl
     have hcz12_2 : wc.cell? ⟨gb160, 2, none⟩ = some (.slice A0_2 l0_2.length c0_2) := (z12 BK160.out 2).trans rfl
     have hfz12_0 := z14 BK160.out 0
     have hfz12_1 := z14 BK160.out 1
     have hfz12_2 := z14 BK160.out 2
     go_wp2
     go_loopg [3] kj1 (fun kq v3 w' => ∃ (x3_2 : Int), v3 = .int .i64 x3_2 ∧ Aside0 (pr_Fault.l0 kq x3_2 a0_0 l0_1 l0_2 = some r) ∧ Aside0 (kq ≤ kj1) ∧ Aside0 (w'.heap[gb160]? = some (.cells #[.int .i64 a0_0, (.slice A0_1 l0_1.length c0_1), (.slice A0_2 l0_2.length c0_2)] 25 (0, 0))) ∧ Aside0 (Below w.heap.size w w'))
     case atStart => exact ⟨(0), (by first | rfl | (simp; done) | (simp [*]; done)), H', ⟨Nat.le_refl _⟩, ⟨by (with_reducible repeat (first | refine z17 ?_ _)); exact BK160.out⟩, ⟨by repeat (with_reducible first | exact HB.out | apply z10 | apply z11 | apply z13 | refine z15 ?_ GE160.out)⟩⟩
     case round =>
      clear H'
      try clear c1
      try clear p2
      try clear c4
      try clear c4b0
      try clear c6
      try clear c6b0
      try clear c6b1
      try clear c8
      try clear c9
      try clear c10
      try clear c10b0
      try clear hcz11_0
      try clear hcz11_1
      try clear hcz11_2
      try clear hcz12_0
      try clear hcz12_1
      try clear hcz12_2
      try clear hcz5_0
      try clear hcz5_1
      try clear hcz5_2
      try clear hcz7_0
      try clear hcz7_1
      try clear hcz7_2
      try clear hcz8_0
      try clear hcz8_1
      try clear hcz8_2
      try clear hfz11_0
      try clear hfz11_1
      try clear hfz11_2
      try clear hfz12_0
      try clear hfz12_1
      try clear hfz12_2
      try clear hfz5_0
      try clear hfz5_1
      try clear hfz5_2
      try clear hfz7_0
      try clear hfz7_1
      try clear hfz7_2
      try clear hfz8_0
      try clear hfz8_1
      try clear hfz8_2
      try clear p2
      obtain ⟨x3_2, rfl, HA, HK2, BK160, HB⟩ := hrel
      cases gk with
      | zero => exact absurd HA.out (by simp [pr_Fault.l0])
      | succ k2 =>
       have H := HA.out
       clear HA
       simp only [pr_Fault.l0] at H
       by_cases c13 : x3_2 < (l0_1.length : Int)
       ·rw [if_pos c13] at H
        have c13b0 : decide (x3_2 < (l0_1.length : Int)) = true := decide_eq_true c13
        clear c13
        by_cases c14 : 0 ≤ x3_2
        ·rw [if_pos c14] at H
         have c14b0 : decide (0 ≤ x3_2) = true := decide_eq_true c14
         clear c14
         replace H := Option.bind_eq_some_iff.mp H
         obtain ⟨t163, A150, H⟩ := H
         replace H : (if t163 = true then (if ((rd_T91 l0_1 x3_2).f2.f0) < 0 then (some 1) else (if ((rd_T91 l0_1 x3_2).f2.f0) > ((rd_T91 l0_1 x3_2).f2.f1) then (some 1) else (if ((rd_T91 l0_1 x3_2).f2.f1) > 40 then (some 1) else (pr_Fault.l0 k2 (wrap64 (x3_2 + 1)) a0_0 l0_1 l0_2)))) else (some 1)) = some r := H
         have A15 := mkA A150
         clear A150
         by_cases c16 : t163 = true
         ·subst c16
          have H1 : (if ((rd_T91 l0_1 x3_2).f2.f0) < 0 then (some 1) else (if ((rd_T91 l0_1 x3_2).f2.f0) > ((rd_T91 l0_1 x3_2).f2.f1) then (some 1) else (if ((rd_T91 l0_1 x3_2).f2.f1) > 40 then (some 1) else (pr_Fault.l0 k2 (wrap64 (x3_2 + 1)) a0_0 l0_1 l0_2)))) = some r := by rw [if_pos rfl] at H; exact H
          clear H
          have H := H1
          clear H1
          by_cases c17 : ((rd_T91 l0_1 x3_2).f2.f0) < 0
          ·rw [if_pos c17] at H
           have c17b0 : decide (((rd_T91 l0_1 x3_2).f2.f0) < 0) = true := decide_eq_true c17
           clear c17
           obtain rfl := Option.some.inj H
           have hcz18_0 : wr.cell? ⟨gb160, 0, none⟩ = some (.int .i64 a0_0) := (z12 BK160.out 0).trans rfl
           have hcz18_1 : wr.cell? ⟨gb160, 1, none⟩ = some (.slice A0_1 l0_1.length c0_1) := (z12 BK160.out 1).trans rfl
           have hcz18_2 : wr.cell? ⟨gb160, 2, none⟩ = some (.slice A0_2 l0_2.length c0_2) := (z12 BK160.out 2).trans rfl
           have hfz18_0 := z14 BK160.out 0
           have hfz18_1 := z14 BK160.out 1
           have hfz18_2 := z14 BK160.out 2
           have p161 : 0 ≤ (x3_2 : Int) := of_decide_eq_true (by first | (with_reducible assumption) | assumption)
           have q161 : x3_2 < (l0_1.length : Int) := of_decide_eq_true (by first | (with_reducible assumption) | assumption)
           obtain ⟨ad161, e161, hx161_0, hx161_1, hx161_2, hx161_3⟩ := at_T91 HR0_1.out x3_2 p161 q161
           cases e161
           replace hx161_0 := (HB.out.cell (World.block_lt_of_cell? w _ hx161_0)).trans hx161_0
           replace hx161_1 := (HB.out.cell (World.block_lt_of_cell? w _ hx161_1)).trans hx161_1
           replace hx161_2 := (HB.out.cell (World.block_lt_of_cell? w _ hx161_2)).trans hx161_2
           replace hx161_3 := (HB.out.cell (World.block_lt_of_cell? w _ hx161_3)).trans hx161_3
           replace p161 := eq_true p161
           replace q161 := eq_true q161
           go_wp2_with (first | ((with_reducible refine z24 (N := 4) rfl ?_); (try (refine z32 (by rfl) ?_; dsimp only)); refine z23 ?hg (N := 4) ?hd (cs := #[.int .i64 0, .int .i64 0, .int .i64 0, .int .i64 0]) (t := 91) ?hr ?_; (case hd => rfl); (case hg => rfl); (case hr => first | (go_simp; done) | (go_simp; rfl)); intro gb162 hg w19 hbox hb; have n0_ := mkA (blk_below (g := gb160) (o := .cells #[.int .i64 a0_0, .slice (some ad161) l0_1.length c0_1, .slice A0_2 l0_2.length c0_2] 25 (0, 0)) (by (with_reducible repeat (first | refine z17 ?_ _)); exact BK160.out) hb); have n1_ := mkA (z16 (by repeat (with_reducible first | exact HB.out | apply z10 | apply z11 | apply z13 | refine z15 ?_ GE160.out)) hb); have n2_ := mkA (hbox); have n3_ := mkA ((by rw [hg]; exact (z18 (by repeat (with_reducible first | exact HB.out | apply z10 | apply z11 | apply z13 | refine z15 ?_ GE160.out))) : w.heap.size ≤ gb162)); have n4_ := mkA ((by rw [hg]; exact (z18 (by repeat (with_reducible first | exact HB.out | apply z10 | apply z11 | apply z13 | refine z15 ?_ GE160.out))) : w.heap.size ≤ gb162)); have n5_ := mkA ((by rw [hg]; exact Nat.ne_of_lt (blk_lt (g := gb160) (o := .cells #[.int .i64 a0_0, .slice (some ad161) l0_1.length c0_1, .slice A0_2 l0_2.length c0_2] 25 (0, 0)) (by (with_reducible repeat (first | refine z17 ?_ _)); exact BK160.out)) : gb160 ≠ gb162)); have n6_ := mkA ((by rw [hg]; exact Nat.ne_of_gt (blk_lt (g := gb160) (o := .cells #[.int .i64 a0_0, .slice (some ad161) l0_1.length c0_1, .slice A0_2 l0_2.length c0_2] 25 (0, 0)) (by (with_reducible repeat (first | refine z17 ?_ _)); exact BK160.out)) : gb162 ≠ gb160)); clear BK160; clear HB; have BK160 := n0_; have HB := n1_; have BK162 := n2_; have GW162 := n3_; have GE162 := n4_; have NB160_162 := n5_; have NB162_160 := n6_; clear n0_ n1_ n2_ n3_ n4_ n5_ n6_; clear hb hbox hg; have hnb20 := NB162_160.out; have hnc20 := NB160_162.out; have hcz21_0 : w19.cell? ⟨gb162, 0, none⟩ = some (.int .i64 0) := (z12 BK162.out 0).trans rfl; have hcz21_1 : w19.cell? ⟨gb162, 1, none⟩ = some (.int .i64 0) := (z12 BK162.out 1).trans rfl; have hcz21_2 : w19.cell? ⟨gb162, 2, none⟩ = some (.int .i64 0) := (z12 BK162.out 2).trans rfl; have hcz21_3 : w19.cell? ⟨gb162, 3, none⟩ = some (.int .i64 0) := (z12 BK162.out 3).trans rfl; have hfz21_0 := z14 BK162.out 0; have hfz21_1 := z14 BK162.out 1; have hfz21_2 := z14 BK162.out 2; have hfz21_3 := z14 BK162.out 3; have hcz22_0 : w19.cell? ⟨gb160, 0, none⟩ = some (.int .i64 a0_0) := (z12 BK160.out 0).trans rfl; have hcz22_1 : w19.cell? ⟨gb160, 1, none⟩ = some (.slice (some ad161) l0_1.length c0_1) := (z12 BK160.out 1).trans rfl; have hcz22_2 : w19.cell? ⟨gb160, 2, none⟩ = some (.slice A0_2 l0_2.length c0_2) := (z12 BK160.out 2).trans rfl; have hfz22_0 := z14 BK160.out 0; have hfz22_1 := z14 BK160.out 1; have hfz22_2 := z14 BK160.out 2) | ((with_reducible refine z25 (f := 91) rfl ?_); refine goesL_ (some 42) rfl rfl Try.func91 (by kernel_rfl) rfl #[.agg #[.int .i64 a0_0, .slice (some ad161) l0_1.length c0_1, .slice A0_2 l0_2.length c0_2], .int .i64 ((rd_T91 l0_1 x3_2).f0), .int .i64 ((rd_T91 l0_1 x3_2).f1)] rfl (by (try simp only [List.map_toArray, List.map_cons, List.map_nil]); first | done | rfl | (simp only [List.length_drop, List.length_take]; rfl)) ?_; (with_reducible refine (pr_ArePair.calls a0_0 _ _ l0_1 _ _ l0_2 ((rd_T91 l0_1 x3_2).f0) ((rd_T91 l0_1 x3_2).f1) true _ ?side1 ?side2 ?side3 ?side4 A15.out).mono ?_); (case side1 => exact Kd.C_below HR0_1.out (by repeat (with_reducible first | exact HB.out | apply z10 | apply z11 | apply z13 | refine z15 ?_ GE160.out | refine z15 ?_ GE162.out))); (case side2 => exact HC0_1.out); (case side3 => exact Kd.C_below HR0_2.out (by repeat (with_reducible first | exact HB.out | apply z10 | apply z11 | apply z13 | refine z15 ?_ GE160.out | refine z15 ?_ GE162.out))); (case side4 => exact HC0_2.out); rintro e w23 ⟨rfl, hb⟩; refine ⟨_, rfl, ?_⟩; have n0_ := mkA (blk_below (g := gb160) (o := .cells #[.int .i64 a0_0, .slice (some ad161) l0_1.length c0_1, .slice A0_2 l0_2.length c0_2] 25 (0, 0)) (by (with_reducible repeat (first | refine z17 ?_ _)); refine blk_far ?_ NB160_162.out _; (with_reducible repeat (first | refine z17 ?_ _)); refine blk_far ?_ NB160_162.out _; (with_reducible repeat (first | refine z17 ?_ _)); refine blk_far ?_ NB160_162.out _; (with_reducible repeat (first | refine z17 ?_ _)); refine blk_far ?_ NB160_162.out _; (with_reducible repeat (first | refine z17 ?_ _)); exact BK160.out) hb); have n1_ := mkA (blk_below (g := gb162) (o := .cells #[.int .i64 ((rd_T91 l0_1 x3_2).f0), .int .i64 ((rd_T91 l0_1 x3_2).f1), .int .i64 ((rd_T91 l0_1 x3_2).f2.f0), .int .i64 ((rd_T91 l0_1 x3_2).f2.f1)] 91 (0, 0)) (by (with_reducible repeat (first | refine z17 ?_ _)); refine blk_put (cs := #[.int .i64 ((rd_T91 l0_1 x3_2).f0), .int .i64 ((rd_T91 l0_1 x3_2).f1), .int .i64 ((rd_T91 l0_1 x3_2).f2.f0), .int .i64 0]) ?_ 3 _ rfl; (with_reducible repeat (first | refine z17 ?_ _)); refine blk_put (cs := #[.int .i64 ((rd_T91 l0_1 x3_2).f0), .int .i64 ((rd_T91 l0_1 x3_2).f1), .int .i64 0, .int .i64 0]) ?_ 2 _ rfl; (with_reducible repeat (first | refine z17 ?_ _)); refine blk_put (cs := #[.int .i64 ((rd_T91 l0_1 x3_2).f0), .int .i64 0, .int .i64 0, .int .i64 0]) ?_ 1 _ rfl; (with_reducible repeat (first | refine z17 ?_ _)); refine blk_put (cs := #[.int .i64 0, .int .i64 0, .int .i64 0, .int .i64 0]) ?_ 0 _ rfl; (with_reducible repeat (first | refine z17 ?_ _)); exact BK162.out) hb); have n2_ := mkA (z16 (by repeat (with_reducible first | exact HB.out | apply z10 | apply z11 | apply z13 | refine z15 ?_ GE160.out | refine z15 ?_ GE162.out)) hb); clear BK160; clear BK162; clear HB; have BK160 := n0_; have BK162 := n1_; have HB := n2_; clear n0_ n1_ n2_; (try clear hb); (try clear hb2); (try clear hk); (try clear hi); have hcz24_0 : w23.cell? ⟨gb162, 0, none⟩ = some (.int .i64 ((rd_T91 l0_1 x3_2).f0)) := (z12 BK162.out 0).trans rfl; have hcz24_1 : w23.cell? ⟨gb162, 1, none⟩ = some (.int .i64 ((rd_T91 l0_1 x3_2).f1)) := (z12 BK162.out 1).trans rfl; have hcz24_2 : w23.cell? ⟨gb162, 2, none⟩ = some (.int .i64 ((rd_T91 l0_1 x3_2).f2.f0)) := (z12 BK162.out 2).trans rfl; have hcz24_3 : w23.cell? ⟨gb162, 3, none⟩ = some (.int .i64 ((rd_T91 l0_1 x3_2).f2.f1)) := (z12 BK162.out 3).trans rfl; have hfz24_0 := z14 BK162.out 0; have hfz24_1 := z14 BK162.out 1; have hfz24_2 := z14 BK162.out 2; have hfz24_3 := z14 BK162.out 3))
           go_ret
           exact ⟨by first | rfl | (simp [z21, z20] <;> rfl) | (simp [*, z21, z20] <;> rfl), by repeat (with_reducible first | exact HB.out | apply z10 | apply z11 | apply z13 | refine z15 ?_ GE160.out | refine z15 ?_ GE162.out)⟩
          ·rw [if_neg c17] at H
           have c17b0 : decide (((rd_T91 l0_1 x3_2).f2.f0) < 0) = false := decide_eq_false c17
           clear c17
           by_cases c25 : ((rd_T91 l0_1 x3_2).f2.f0) > ((rd_T91 l0_1 x3_2).f2.f1)
           ·rw [if_pos c25] at H
            have c25b0 : decide (((rd_T91 l0_1 x3_2).f2.f1) < ((rd_T91 l0_1 x3_2).f2.f0)) = true := decide_eq_true c25
            clear c25
            obtain rfl := Option.some.inj H
            have hcz26_0 : wr.cell? ⟨gb160, 0, none⟩ = some (.int .i64 a0_0) := (z12 BK160.out 0).trans rfl
            have hcz26_1 : wr.cell? ⟨gb160, 1, none⟩ = some (.slice A0_1 l0_1.length c0_1) := (z12 BK160.out 1).trans rfl
            have hcz26_2 : wr.cell? ⟨gb160, 2, none⟩ = some (.slice A0_2 l0_2.length c0_2) := (z12 BK160.out 2).trans rfl
            have hfz26_0 := z14 BK160.out 0
            have hfz26_1 := z14 BK160.out 1
            have hfz26_2 := z14 BK160.out 2
            have p161 : 0 ≤ (x3_2 : Int) := of_decide_eq_true (by first | (with_reducible assumption) | assumption)
            have q161 : x3_2 < (l0_1.length : Int) := of_decide_eq_true (by first | (with_reducible assumption) | assumption)
            obtain ⟨ad161, e161, hx161_0, hx161_1, hx161_2, hx161_3⟩ := at_T91 HR0_1.out x3_2 p161 q161
            cases e161
            replace hx161_0 := (HB.out.cell (World.block_lt_of_cell? w _ hx161_0)).trans hx161_0
            replace hx161_1 := (HB.out.cell (World.block_lt_of_cell? w _ hx161_1)).trans hx161_1
            replace hx161_2 := (HB.out.cell (World.block_lt_of_cell? w _ hx161_2)).trans hx161_2
            replace hx161_3 := (HB.out.cell (World.block_lt_of_cell? w _ hx161_3)).trans hx161_3
            replace p161 := eq_true p161
            replace q161 := eq_true q161
            go_wp2_with (first | ((with_reducible refine z24 (N := 4) rfl ?_); (try (refine z32 (by rfl) ?_; dsimp only)); refine z23 ?hg (N := 4) ?hd (cs := #[.int .i64 0, .int .i64 0, .int .i64 0, .int .i64 0]) (t := 91) ?hr ?_; (case hd => rfl); (case hg => rfl); (case hr => first | (go_simp; done) | (go_simp; rfl)); intro gb162 hg w27 hbox hb; have n0_ := mkA (blk_below (g := gb160) (o := .cells #[.int .i64 a0_0, .slice (some ad161) l0_1.length c0_1, .slice A0_2 l0_2.length c0_2] 25 (0, 0)) (by (with_reducible repeat (first | refine z17 ?_ _)); exact BK160.out) hb); have n1_ := mkA (z16 (by repeat (with_reducible first | exact HB.out | apply z10 | apply z11 | apply z13 | refine z15 ?_ GE160.out)) hb); have n2_ := mkA (hbox); have n3_ := mkA ((by rw [hg]; exact (z18 (by repeat (with_reducible first | exact HB.out | apply z10 | apply z11 | apply z13 | refine z15 ?_ GE160.out))) : w.heap.size ≤ gb162)); have n4_ := mkA ((by rw [hg]; exact (z18 (by repeat (with_reducible first | exact HB.out | apply z10 | apply z11 | apply z13 | refine z15 ?_ GE160.out))) : w.heap.size ≤ gb162)); have n5_ := mkA ((by rw [hg]; exact Nat.ne_of_lt (blk_lt (g := gb160) (o := .cells #[.int .i64 a0_0, .slice (some ad161) l0_1.length c0_1, .slice A0_2 l0_2.length c0_2] 25 (0, 0)) (by (with_reducible repeat (first | refine z17 ?_ _)); exact BK160.out)) : gb160 ≠ gb162)); have n6_ := mkA ((by rw [hg]; exact Nat.ne_of_gt (blk_lt (g := gb160) (o := .cells #[.int .i64 a0_0, .slice (some ad161) l0_1.length c0_1, .slice A0_2 l0_2.length c0_2] 25 (0, 0)) (by (with_reducible repeat (first | refine z17 ?_ _)); exact BK160.out)) : gb162 ≠ gb160)); clear BK160; clear HB; have BK160 := n0_; have HB := n1_; have BK162 := n2_; have GW162 := n3_; have GE162 := n4_; have NB160_162 := n5_; have NB162_160 := n6_; clear n0_ n1_ n2_ n3_ n4_ n5_ n6_; clear hb hbox hg; have hnb28 := NB162_160.out; have hnc28 := NB160_162.out; have hcz29_0 : w27.cell? ⟨gb162, 0, none⟩ = some (.int .i64 0) := (z12 BK162.out 0).trans rfl; have hcz29_1 : w27.cell? ⟨gb162, 1, none⟩ = some (.int .i64 0) := (z12 BK162.out 1).trans rfl; have hcz29_2 : w27.cell? ⟨gb162, 2, none⟩ = some (.int .i64 0) := (z12 BK162.out 2).trans rfl; have hcz29_3 : w27.cell? ⟨gb162, 3, none⟩ = some (.int .i64 0) := (z12 BK162.out 3).trans rfl; have hfz29_0 := z14 BK162.out 0; have hfz29_1 := z14 BK162.out 1; have hfz29_2 := z14 BK162.out 2; have hfz29_3 := z14 BK162.out 3; have hcz30_0 : w27.cell? ⟨gb160, 0, none⟩ = some (.int .i64 a0_0) := (z12 BK160.out 0).trans rfl; have hcz30_1 : w27.cell? ⟨gb160, 1, none⟩ = some (.slice (some ad161) l0_1.length c0_1) := (z12 BK160.out 1).trans rfl; have hcz30_2 : w27.cell? ⟨gb160, 2, none⟩ = some (.slice A0_2 l0_2.length c0_2) := (z12 BK160.out 2).trans rfl; have hfz30_0 := z14 BK160.out 0; have hfz30_1 := z14 BK160.out 1; have hfz30_2 := z14 BK160.out 2) | ((with_reducible refine z25 (f := 91) rfl ?_); refine goesL_ (some 42) rfl rfl Try.func91 (by kernel_rfl) rfl #[.agg #[.int .i64 a0_0, .slice (some ad161) l0_1.length c0_1, .slice A0_2 l0_2.length c0_2], .int .i64 ((rd_T91 l0_1 x3_2).f0), .int .i64 ((rd_T91 l0_1 x3_2).f1)] rfl (by (try simp only [List.map_toArray, List.map_cons, List.map_nil]); first | done | rfl | (simp only [List.length_drop, List.length_take]; rfl)) ?_; (with_reducible refine (pr_ArePair.calls a0_0 _ _ l0_1 _ _ l0_2 ((rd_T91 l0_1 x3_2).f0) ((rd_T91 l0_1 x3_2).f1) true _ ?side1 ?side2 ?side3 ?side4 A15.out).mono ?_); (case side1 => exact Kd.C_below HR0_1.out (by repeat (with_reducible first | exact HB.out | apply z10 | apply z11 | apply z13 | refine z15 ?_ GE160.out | refine z15 ?_ GE162.out))); (case side2 => exact HC0_1.out); (case side3 => exact Kd.C_below HR0_2.out (by repeat (with_reducible first | exact HB.out | apply z10 | apply z11 | apply z13 | refine z15 ?_ GE160.out | refine z15 ?_ GE162.out))); (case side4 => exact HC0_2.out); rintro e w31 ⟨rfl, hb⟩; refine ⟨_, rfl, ?_⟩; have n0_ := mkA (blk_below (g := gb160) (o := .cells #[.int .i64 a0_0, .slice (some ad161) l0_1.length c0_1, .slice A0_2 l0_2.length c0_2] 25 (0, 0)) (by (with_reducible repeat (first | refine z17 ?_ _)); refine blk_far ?_ NB160_162.out _; (with_reducible repeat (first | refine z17 ?_ _)); refine blk_far ?_ NB160_162.out _; (with_reducible repeat (first | refine z17 ?_ _)); refine blk_far ?_ NB160_162.out _; (with_reducible repeat (first | refine z17 ?_ _)); refine blk_far ?_ NB160_162.out _; (with_reducible repeat (first | refine z17 ?_ _)); exact BK160.out) hb); have n1_ := mkA (blk_below (g := gb162) (o := .cells #[.int .i64 ((rd_T91 l0_1 x3_2).f0), .int .i64 ((rd_T91 l0_1 x3_2).f1), .int .i64 ((rd_T91 l0_1 x3_2).f2.f0), .int .i64 ((rd_T91 l0_1 x3_2).f2.f1)] 91 (0, 0)) (by (with_reducible repeat (first | refine z17 ?_ _)); refine blk_put (cs := #[.int .i64 ((rd_T91 l0_1 x3_2).f0), .int .i64 ((rd_T91 l0_1 x3_2).f1), .int .i64 ((rd_T91 l0_1 x3_2).f2.f0), .int .i64 0]) ?_ 3 _ rfl; (with_reducible repeat (first | refine z17 ?_ _)); refine blk_put (cs := #[.int .i64 ((rd_T91 l0_1 x3_2).f0), .int .i64 ((rd_T91 l0_1 x3_2).f1), .int .i64 0, .int .i64 0]) ?_ 2 _ rfl; (with_reducible repeat (first | refine z17 ?_ _)); refine blk_put (cs := #[.int .i64 ((rd_T91 l0_1 x3_2).f0), .int .i64 0, .int .i64 0, .int .i64 0]) ?_ 1 _ rfl; (with_reducible repeat (first | refine z17 ?_ _)); refine blk_put (cs := #[.int .i64 0, .int .i64 0, .int .i64 0, .int .i64 0]) ?_ 0 _ rfl; (with_reducible repeat (first | refine z17 ?_ _)); exact BK162.out) hb); have n2_ := mkA (z16 (by repeat (with_reducible first | exact HB.out | apply z10 | apply z11 | apply z13 | refine z15 ?_ GE160.out | refine z15 ?_ GE162.out)) hb); clear BK160; clear BK162; clear HB; have BK160 := n0_; have BK162 := n1_; have HB := n2_; clear n0_ n1_ n2_; (try clear hb); (try clear hb2); (try clear hk); (try clear hi); have hcz32_0 : w31.cell? ⟨gb162, 0, none⟩ = some (.int .i64 ((rd_T91 l0_1 x3_2).f0)) := (z12 BK162.out 0).trans rfl; have hcz32_1 : w31.cell? ⟨gb162, 1, none⟩ = some (.int .i64 ((rd_T91 l0_1 x3_2).f1)) := (z12 BK162.out 1).trans rfl; have hcz32_2 : w31.cell? ⟨gb162, 2, none⟩ = some (.int .i64 ((rd_T91 l0_1 x3_2).f2.f0)) := (z12 BK162.out 2).trans rfl; have hcz32_3 : w31.cell? ⟨gb162, 3, none⟩ = some (.int .i64 ((rd_T91 l0_1 x3_2).f2.f1)) := (z12 BK162.out 3).trans rfl; have hfz32_0 := z14 BK162.out 0; have hfz32_1 := z14 BK162.out 1; have hfz32_2 := z14 BK162.out 2; have hfz32_3 := z14 BK162.out 3))
            go_ret
            exact ⟨by first | rfl | (simp [z21, z20] <;> rfl) | (simp [*, z21, z20] <;> rfl), by repeat (with_reducible first | exact HB.out | apply z10 | apply z11 | apply z13 | refine z15 ?_ GE160.out | refine z15 ?_ GE162.out)⟩
           ·rw [if_neg c25] at H
            have c25b0 : decide (((rd_T91 l0_1 x3_2).f2.f1) < ((rd_T91 l0_1 x3_2).f2.f0)) = false := decide_eq_false c25
            clear c25
            by_cases c33 : ((rd_T91 l0_1 x3_2).f2.f1) > 40
            ·rw [if_pos c33] at H
             have c33b0 : decide (40 < ((rd_T91 l0_1 x3_2).f2.f1)) = true := decide_eq_true c33
             clear c33
             obtain rfl := Option.some.inj H
             have hcz34_0 : wr.cell? ⟨gb160, 0, none⟩ = some (.int .i64 a0_0) := (z12 BK160.out 0).trans rfl
             have hcz34_1 : wr.cell? ⟨gb160, 1, none⟩ = some (.slice A0_1 l0_1.length c0_1) := (z12 BK160.out 1).trans rfl
             have hcz34_2 : wr.cell? ⟨gb160, 2, none⟩ = some (.slice A0_2 l0_2.length c0_2) := (z12 BK160.out 2).trans rfl
             have hfz34_0 := z14 BK160.out 0
             have hfz34_1 := z14 BK160.out 1
             have hfz34_2 := z14 BK160.out 2
             have p161 : 0 ≤ (x3_2 : Int) := of_decide_eq_true (by first | (with_reducible assumption) | assumption)
             have q161 : x3_2 < (l0_1.length : Int) := of_decide_eq_true (by first | (with_reducible assumption) | assumption)
             obtain ⟨ad161, e161, hx161_0, hx161_1, hx161_2, hx161_3⟩ := at_T91 HR0_1.out x3_2 p161 q161
             cases e161
             replace hx161_0 := (HB.out.cell (World.block_lt_of_cell? w _ hx161_0)).trans hx161_0
             replace hx161_1 := (HB.out.cell (World.block_lt_of_cell? w _ hx161_1)).trans hx161_1
             replace hx161_2 := (HB.out.cell (World.block_lt_of_cell? w _ hx161_2)).trans hx161_2
             replace hx161_3 := (HB.out.cell (World.block_lt_of_cell? w _ hx161_3)).trans hx161_3
             replace p161 := eq_true p161
             replace q161 := eq_true q161
             go_wp2_with (first | ((with_reducible refine z24 (N := 4) rfl ?_); (try (refine z32 (by rfl) ?_; dsimp only)); refine z23 ?hg (N := 4) ?hd (cs := #[.int .i64 0, .int .i64 0, .int .i64 0, .int .i64 0]) (t := 91) ?hr ?_; (case hd => rfl); (case hg => rfl); (case hr => first | (go_simp; done) | (go_simp; rfl)); intro gb162 hg w35 hbox hb; have n0_ := mkA (blk_below (g := gb160) (o := .cells #[.int .i64 a0_0, .slice (some ad161) l0_1.length c0_1, .slice A0_2 l0_2.length c0_2] 25 (0, 0)) (by (with_reducible repeat (first | refine z17 ?_ _)); exact BK160.out) hb); have n1_ := mkA (z16 (by repeat (with_reducible first | exact HB.out | apply z10 | apply z11 | apply z13 | refine z15 ?_ GE160.out)) hb); have n2_ := mkA (hbox); have n3_ := mkA ((by rw [hg]; exact (z18 (by repeat (with_reducible first | exact HB.out | apply z10 | apply z11 | apply z13 | refine z15 ?_ GE160.out))) : w.heap.size ≤ gb162)); have n4_ := mkA ((by rw [hg]; exact (z18 (by repeat (with_reducible first | exact HB.out | apply z10 | apply z11 | apply z13 | refine z15 ?_ GE160.out))) : w.heap.size ≤ gb162)); have n5_ := mkA ((by rw [hg]; exact Nat.ne_of_lt (blk_lt (g := gb160) (o := .cells #[.int .i64 a0_0, .slice (some ad161) l0_1.length c0_1, .slice A0_2 l0_2.length c0_2] 25 (0, 0)) (by (with_reducible repeat (first | refine z17 ?_ _)); exact BK160.out)) : gb160 ≠ gb162)); have n6_ := mkA ((by rw [hg]; exact Nat.ne_of_gt (blk_lt (g := gb160) (o := .cells #[.int .i64 a0_0, .slice (some ad161) l0_1.length c0_1, .slice A0_2 l0_2.length c0_2] 25 (0, 0)) (by (with_reducible repeat (first | refine z17 ?_ _)); exact BK160.out)) : gb162 ≠ gb160)); clear BK160; clear HB; have BK160 := n0_; have HB := n1_; have BK162 := n2_; have GW162 := n3_; have GE162 := n4_; have NB160_162 := n5_; have NB162_160 := n6_; clear n0_ n1_ n2_ n3_ n4_ n5_ n6_; clear hb hbox hg; have hnb36 := NB162_160.out; have hnc36 := NB160_162.out; have hcz37_0 : w35.cell? ⟨gb162, 0, none⟩ = some (.int .i64 0) := (z12 BK162.out 0).trans rfl; have hcz37_1 : w35.cell? ⟨gb162, 1, none⟩ = some (.int .i64 0) := (z12 BK162.out 1).trans rfl; have hcz37_2 : w35.cell? ⟨gb162, 2, none⟩ = some (.int .i64 0) := (z12 BK162.out 2).trans rfl; have hcz37_3 : w35.cell? ⟨gb162, 3, none⟩ = some (.int .i64 0) := (z12 BK162.out 3).trans rfl; have hfz37_0 := z14 BK162.out 0; have hfz37_1 := z14 BK162.out 1; have hfz37_2 := z14 BK162.out 2; have hfz37_3 := z14 BK162.out 3; have hcz38_0 : w35.cell? ⟨gb160, 0, none⟩ = some (.int .i64 a0_0) := (z12 BK160.out 0).trans rfl; have hcz38_1 : w35.cell? ⟨gb160, 1, none⟩ = some (.slice (some ad161) l0_1.length c0_1) := (z12 BK160.out 1).trans rfl; have hcz38_2 : w35.cell? ⟨gb160, 2, none⟩ = some (.slice A0_2 l0_2.length c0_2) := (z12 BK160.out 2).trans rfl; have hfz38_0 := z14 BK160.out 0; have hfz38_1 := z14 BK160.out 1; have hfz38_2 := z14 BK160.out 2) | ((with_reducible refine z25 (f := 91) rfl ?_); refine goesL_ (some 42) rfl rfl Try.func91 (by kernel_rfl) rfl #[.agg #[.int .i64 a0_0, .slice (some ad161) l0_1.length c0_1, .slice A0_2 l0_2.length c0_2], .int .i64 ((rd_T91 l0_1 x3_2).f0), .int .i64 ((rd_T91 l0_1 x3_2).f1)] rfl (by (try simp only [List.map_toArray, List.map_cons, List.map_nil]); first | done | rfl | (simp only [List.length_drop, List.length_take]; rfl)) ?_; (with_reducible refine (pr_ArePair.calls a0_0 _ _ l0_1 _ _ l0_2 ((rd_T91 l0_1 x3_2).f0) ((rd_T91 l0_1 x3_2).f1) true _ ?side1 ?side2 ?side3 ?side4 A15.out).mono ?_); (case side1 => exact Kd.C_below HR0_1.out (by repeat (with_reducible first | exact HB.out | apply z10 | apply z11 | apply z13 | refine z15 ?_ GE160.out | refine z15 ?_ GE162.out))); (case side2 => exact HC0_1.out); (case side3 => exact Kd.C_below HR0_2.out (by repeat (with_reducible first | exact HB.out | apply z10 | apply z11 | apply z13 | refine z15 ?_ GE160.out | refine z15 ?_ GE162.out))); (case side4 => exact HC0_2.out); rintro e w39 ⟨rfl, hb⟩; refine ⟨_, rfl, ?_⟩; have n0_ := mkA (blk_below (g := gb160) (o := .cells #[.int .i64 a0_0, .slice (some ad161) l0_1.length c0_1, .slice A0_2 l0_2.length c0_2] 25 (0, 0)) (by (with_reducible repeat (first | refine z17 ?_ _)); refine blk_far ?_ NB160_162.out _; (with_reducible repeat (first | refine z17 ?_ _)); refine blk_far ?_ NB160_162.out _; (with_reducible repeat (first | refine z17 ?_ _)); refine blk_far ?_ NB160_162.out _; (with_reducible repeat (first | refine z17 ?_ _)); refine blk_far ?_ NB160_162.out _; (with_reducible repeat (first | refine z17 ?_ _)); exact BK160.out) hb); have n1_ := mkA (blk_below (g := gb162) (o := .cells #[.int .i64 ((rd_T91 l0_1 x3_2).f0), .int .i64 ((rd_T91 l0_1 x3_2).f1), .int .i64 ((rd_T91 l0_1 x3_2).f2.f0), .int .i64 ((rd_T91 l0_1 x3_2).f2.f1)] 91 (0, 0)) (by (with_reducible repeat (first | refine z17 ?_ _)); refine blk_put (cs := #[.int .i64 ((rd_T91 l0_1 x3_2).f0), .int .i64 ((rd_T91 l0_1 x3_2).f1), .int .i64 ((rd_T91 l0_1 x3_2).f2.f0), .int .i64 0]) ?_ 3 _ rfl; (with_reducible repeat (first | refine z17 ?_ _)); refine blk_put (cs := #[.int .i64 ((rd_T91 l0_1 x3_2).f0), .int .i64 ((rd_T91 l0_1 x3_2).f1), .int .i64 0, .int .i64 0]) ?_ 2 _ rfl; (with_reducible repeat (first | refine z17 ?_ _)); refine blk_put (cs := #[.int .i64 ((rd_T91 l0_1 x3_2).f0), .int .i64 0, .int .i64 0, .int .i64 0]) ?_ 1 _ rfl; (with_reducible repeat (first | refine z17 ?_ _)); refine blk_put (cs := #[.int .i64 0, .int .i64 0, .int .i64 0, .int .i64 0]) ?_ 0 _ rfl; (with_reducible repeat (first | refine z17 ?_ _)); exact BK162.out) hb); have n2_ := mkA (z16 (by repeat (with_reducible first | exact HB.out | apply z10 | apply z11 | apply z13 | refine z15 ?_ GE160.out | refine z15 ?_ GE162.out)) hb); clear BK160; clear BK162; clear HB; have BK160 := n0_; have BK162 := n1_; have HB := n2_; clear n0_ n1_ n2_; (try clear hb); (try clear hb2); (try clear hk); (try clear hi); have hcz40_0 : w39.cell? ⟨gb162, 0, none⟩ = some (.int .i64 ((rd_T91 l0_1 x3_2).f0)) := (z12 BK162.out 0).trans rfl; have hcz40_1 : w39.cell? ⟨gb162, 1, none⟩ = some (.int .i64 ((rd_T91 l0_1 x3_2).f1)) := (z12 BK162.out 1).trans rfl; have hcz40_2 : w39.cell? ⟨gb162, 2, none⟩ = some (.int .i64 ((rd_T91 l0_1 x3_2).f2.f0)) := (z12 BK162.out 2).trans rfl; have hcz40_3 : w39.cell? ⟨gb162, 3, none⟩ = some (.int .i64 ((rd_T91 l0_1 x3_2).f2.f1)) := (z12 BK162.out 3).trans rfl; have hfz40_0 := z14 BK162.out 0; have hfz40_1 := z14 BK162.out 1; have hfz40_2 := z14 BK162.out 2; have hfz40_3 := z14 BK162.out 3))
             go_ret
             exact ⟨by first | rfl | (simp [z21, z20] <;> rfl) | (simp [*, z21, z20] <;> rfl), by repeat (with_reducible first | exact HB.out | apply z10 | apply z11 | apply z13 | refine z15 ?_ GE160.out | refine z15 ?_ GE162.out)⟩
            ·rw [if_neg c33] at H
             have c33b0 : decide (40 < ((rd_T91 l0_1 x3_2).f2.f1)) = false := decide_eq_false c33
             clear c33
             have H' := mkA H
             clear H
             have hcz41_0 : wr.cell? ⟨gb160, 0, none⟩ = some (.int .i64 a0_0) := (z12 BK160.out 0).trans rfl
             have hcz41_1 : wr.cell? ⟨gb160, 1, none⟩ = some (.slice A0_1 l0_1.length c0_1) := (z12 BK160.out 1).trans rfl
             have hcz41_2 : wr.cell? ⟨gb160, 2, none⟩ = some (.slice A0_2 l0_2.length c0_2) := (z12 BK160.out 2).trans rfl
             have hfz41_0 := z14 BK160.out 0
             have hfz41_1 := z14 BK160.out 1
             have hfz41_2 := z14 BK160.out 2
             have p161 : 0 ≤ (x3_2 : Int) := of_decide_eq_true (by first | (with_reducible assumption) | assumption)
             have q161 : x3_2 < (l0_1.length : Int) := of_decide_eq_true (by first | (with_reducible assumption) | assumption)
             obtain ⟨ad161, e161, hx161_0, hx161_1, hx161_2, hx161_3⟩ := at_T91 HR0_1.out x3_2 p161 q161
             cases e161
             replace hx161_0 := (HB.out.cell (World.block_lt_of_cell? w _ hx161_0)).trans hx161_0
             replace hx161_1 := (HB.out.cell (World.block_lt_of_cell? w _ hx161_1)).trans hx161_1
             replace hx161_2 := (HB.out.cell (World.block_lt_of_cell? w _ hx161_2)).trans hx161_2
             replace hx161_3 := (HB.out.cell (World.block_lt_of_cell? w _ hx161_3)).trans hx161_3
             replace p161 := eq_true p161
             replace q161 := eq_true q161
             go_wp2_with (first | ((with_reducible refine z24 (N := 4) rfl ?_); (try (refine z32 (by rfl) ?_; dsimp only)); refine z23 ?hg (N := 4) ?hd (cs := #[.int .i64 0, .int .i64 0, .int .i64 0, .int .i64 0]) (t := 91) ?hr ?_; (case hd => rfl); (case hg => rfl); (case hr => first | (go_simp; done) | (go_simp; rfl)); intro gb162 hg w42 hbox hb; have n0_ := mkA (blk_below (g := gb160) (o := .cells #[.int .i64 a0_0, .slice (some ad161) l0_1.length c0_1, .slice A0_2 l0_2.length c0_2] 25 (0, 0)) (by (with_reducible repeat (first | refine z17 ?_ _)); exact BK160.out) hb); have n1_ := mkA (z16 (by repeat (with_reducible first | exact HB.out | apply z10 | apply z11 | apply z13 | refine z15 ?_ GE160.out)) hb); have n2_ := mkA (hbox); have n3_ := mkA ((by rw [hg]; exact (z18 (by repeat (with_reducible first | exact HB.out | apply z10 | apply z11 | apply z13 | refine z15 ?_ GE160.out))) : w.heap.size ≤ gb162)); have n4_ := mkA ((by rw [hg]; exact (z18 (by repeat (with_reducible first | exact HB.out | apply z10 | apply z11 | apply z13 | refine z15 ?_ GE160.out))) : w.heap.size ≤ gb162)); have n5_ := mkA ((by rw [hg]; exact Nat.ne_of_lt (blk_lt (g := gb160) (o := .cells #[.int .i64 a0_0, .slice (some ad161) l0_1.length c0_1, .slice A0_2 l0_2.length c0_2] 25 (0, 0)) (by (with_reducible repeat (first | refine z17 ?_ _)); exact BK160.out)) : gb160 ≠ gb162)); have n6_ := mkA ((by rw [hg]; exact Nat.ne_of_gt (blk_lt (g := gb160) (o := .cells #[.int .i64 a0_0, .slice (some ad161) l0_1.length c0_1, .slice A0_2 l0_2.length c0_2] 25 (0, 0)) (by (with_reducible repeat (first | refine z17 ?_ _)); exact BK160.out)) : gb162 ≠ gb160)); clear BK160; clear HB; have BK160 := n0_; have HB := n1_; have BK162 := n2_; have GW162 := n3_; have GE162 := n4_; have NB160_162 := n5_; have NB162_160 := n6_; clear n0_ n1_ n2_ n3_ n4_ n5_ n6_; clear hb hbox hg; have hnb43 := NB162_160.out; have hnc43 := NB160_162.out; have hcz44_0 : w42.cell? ⟨gb162, 0, none⟩ = some (.int .i64 0) := (z12 BK162.out 0).trans rfl; have hcz44_1 : w42.cell? ⟨gb162, 1, none⟩ = some (.int .i64 0) := (z12 BK162.out 1).trans rfl; have hcz44_2 : w42.cell? ⟨gb162, 2, none⟩ = some (.int .i64 0) := (z12 BK162.out 2).trans rfl; have hcz44_3 : w42.cell? ⟨gb162, 3, none⟩ = some (.int .i64 0) := (z12 BK162.out 3).trans rfl; have hfz44_0 := z14 BK162.out 0; have hfz44_1 := z14 BK162.out 1; have hfz44_2 := z14 BK162.out 2; have hfz44_3 := z14 BK162.out 3; have hcz45_0 : w42.cell? ⟨gb160, 0, none⟩ = some (.int .i64 a0_0) := (z12 BK160.out 0).trans rfl; have hcz45_1 : w42.cell? ⟨gb160, 1, none⟩ = some (.slice (some ad161) l0_1.length c0_1) := (z12 BK160.out 1).trans rfl; have hcz45_2 : w42.cell? ⟨gb160, 2, none⟩ = some (.slice A0_2 l0_2.length c0_2) := (z12 BK160.out 2).trans rfl; have hfz45_0 := z14 BK160.out 0; have hfz45_1 := z14 BK160.out 1; have hfz45_2 := z14 BK160.out 2) | ((with_reducible refine z25 (f := 91) rfl ?_); refine goesL_ (some 42) rfl rfl Try.func91 (by kernel_rfl) rfl #[.agg #[.int .i64 a0_0, .slice (some ad161) l0_1.length c0_1, .slice A0_2 l0_2.length c0_2], .int .i64 ((rd_T91 l0_1 x3_2).f0), .int .i64 ((rd_T91 l0_1 x3_2).f1)] rfl (by (try simp only [List.map_toArray, List.map_cons, List.map_nil]); first | done | rfl | (simp only [List.length_drop, List.length_take]; rfl)) ?_; (with_reducible refine (pr_ArePair.calls a0_0 _ _ l0_1 _ _ l0_2 ((rd_T91 l0_1 x3_2).f0) ((rd_T91 l0_1 x3_2).f1) true _ ?side1 ?side2 ?side3 ?side4 A15.out).mono ?_); (case side1 => exact Kd.C_below HR0_1.out (by repeat (with_reducible first | exact HB.out | apply z10 | apply z11 | apply z13 | refine z15 ?_ GE160.out | refine z15 ?_ GE162.out))); (case side2 => exact HC0_1.out); (case side3 => exact Kd.C_below HR0_2.out (by repeat (with_reducible first | exact HB.out | apply z10 | apply z11 | apply z13 | refine z15 ?_ GE160.out | refine z15 ?_ GE162.out))); (case side4 => exact HC0_2.out); rintro e w46 ⟨rfl, hb⟩; refine ⟨_, rfl, ?_⟩; have n0_ := mkA (blk_below (g := gb160) (o := .cells #[.int .i64 a0_0, .slice (some ad161) l0_1.length c0_1, .slice A0_2 l0_2.length c0_2] 25 (0, 0)) (by (with_reducible repeat (first | refine z17 ?_ _)); refine blk_far ?_ NB160_162.out _; (with_reducible repeat (first | refine z17 ?_ _)); refine blk_far ?_ NB160_162.out _; (with_reducible repeat (first | refine z17 ?_ _)); refine blk_far ?_ NB160_162.out _; (with_reducible repeat (first | refine z17 ?_ _)); refine blk_far ?_ NB160_162.out _; (with_reducible repeat (first | refine z17 ?_ _)); exact BK160.out) hb); have n1_ := mkA (blk_below (g := gb162) (o := .cells #[.int .i64 ((rd_T91 l0_1 x3_2).f0), .int .i64 ((rd_T91 l0_1 x3_2).f1), .int .i64 ((rd_T91 l0_1 x3_2).f2.f0), .int .i64 ((rd_T91 l0_1 x3_2).f2.f1)] 91 (0, 0)) (by (with_reducible repeat (first | refine z17 ?_ _)); refine blk_put (cs := #[.int .i64 ((rd_T91 l0_1 x3_2).f0), .int .i64 ((rd_T91 l0_1 x3_2).f1), .int .i64 ((rd_T91 l0_1 x3_2).f2.f0), .int .i64 0]) ?_ 3 _ rfl; (with_reducible repeat (first | refine z17 ?_ _)); refine blk_put (cs := #[.int .i64 ((rd_T91 l0_1 x3_2).f0), .int .i64 ((rd_T91 l0_1 x3_2).f1), .int .i64 0, .int .i64 0]) ?_ 2 _ rfl; (with_reducible repeat (first | refine z17 ?_ _)); refine blk_put (cs := #[.int .i64 ((rd_T91 l0_1 x3_2).f0), .int .i64 0, .int .i64 0, .int .i64 0]) ?_ 1 _ rfl; (with_reducible repeat (first | refine z17 ?_ _)); refine blk_put (cs := #[.int .i64 0, .int .i64 0, .int .i64 0, .int .i64 0]) ?_ 0 _ rfl; (with_reducible repeat (first | refine z17 ?_ _)); exact BK162.out) hb); have n2_ := mkA (z16 (by repeat (with_reducible first | exact HB.out | apply z10 | apply z11 | apply z13 | refine z15 ?_ GE160.out | refine z15 ?_ GE162.out)) hb); clear BK160; clear BK162; clear HB; have BK160 := n0_; have BK162 := n1_; have HB := n2_; clear n0_ n1_ n2_; (try clear hb); (try clear hb2); (try clear hk); (try clear hi); have hcz47_0 : w46.cell? ⟨gb162, 0, none⟩ = some (.int .i64 ((rd_T91 l0_1 x3_2).f0)) := (z12 BK162.out 0).trans rfl; have hcz47_1 : w46.cell? ⟨gb162, 1, none⟩ = some (.int .i64 ((rd_T91 l0_1 x3_2).f1)) := (z12 BK162.out 1).trans rfl; have hcz47_2 : w46.cell? ⟨gb162, 2, none⟩ = some (.int .i64 ((rd_T91 l0_1 x3_2).f2.f0)) := (z12 BK162.out 2).trans rfl; have hcz47_3 : w46.cell? ⟨gb162, 3, none⟩ = some (.int .i64 ((rd_T91 l0_1 x3_2).f2.f1)) := (z12 BK162.out 3).trans rfl; have hfz47_0 := z14 BK162.out 0; have hfz47_1 := z14 BK162.out 1; have hfz47_2 := z14 BK162.out 2; have hfz47_3 := z14 BK162.out 3))
             go_roundg k2
             case measure => have := HJ1.out; have := HK2.out; omega
             case rel => exact ⟨(wrap64 (x3_2 + 1)), (by first | rfl | (simp; done) | (simp [*]; done)), H', ⟨by have := HJ1.out; have := HK2.out; omega⟩, ⟨by (with_reducible repeat (first | refine z17 ?_ _)); exact BK160.out⟩, ⟨by repeat (with_reducible first | exact HB.out | apply z10 | apply z11 | apply z13 | refine z15 ?_ GE160.out | refine z15 ?_ GE162.out)⟩⟩
         ·replace c16 := Bool.eq_false_iff.mpr c16
          subst c16
          have H1 : (some 1) = some r := by rw [if_neg (show ¬ (false = true) by decide)] at H; exact H
          clear H
          have H := H1
          clear H1
          obtain rfl := Option.some.inj H
          have hcz48_0 : wr.cell? ⟨gb160, 0, none⟩ = some (.int .i64 a0_0) := (z12 BK160.out 0).trans rfl
          have hcz48_1 : wr.cell? ⟨gb160, 1, none⟩ = some (.slice A0_1 l0_1.length c0_1) := (z12 BK160.out 1).trans rfl
          have hcz48_2 : wr.cell? ⟨gb160, 2, none⟩ = some (.slice A0_2 l0_2.length c0_2) := (z12 BK160.out 2).trans rfl
          have hfz48_0 := z14 BK160.out 0
          have hfz48_1 := z14 BK160.out 1
          have hfz48_2 := z14 BK160.out 2
          have p161 : 0 ≤ (x3_2 : Int) := of_decide_eq_true (by first | (with_reducible assumption) | assumption)
          have q161 : x3_2 < (l0_1.length : Int) := of_decide_eq_true (by first | (with_reducible assumption) | assumption)
          obtain ⟨ad161, e161, hx161_0, hx161_1, hx161_2, hx161_3⟩ := at_T91 HR0_1.out x3_2 p161 q161
          cases e161
          replace hx161_0 := (HB.out.cell (World.block_lt_of_cell? w _ hx161_0)).trans hx161_0
          replace hx161_1 := (HB.out.cell (World.block_lt_of_cell? w _ hx161_1)).trans hx161_1
          replace hx161_2 := (HB.out.cell (World.block_lt_of_cell? w _ hx161_2)).trans hx161_2
          replace hx161_3 := (HB.out.cell (World.block_lt_of_cell? w _ hx161_3)).trans hx161_3
          replace p161 := eq_true p161
          replace q161 := eq_true q161
          go_wp2_with (first | ((with_reducible refine z24 (N := 4) rfl ?_); (try (refine z32 (by rfl) ?_; dsimp only)); refine z23 ?hg (N := 4) ?hd (cs := #[.int .i64 0, .int .i64 0, .int .i64 0, .int .i64 0]) (t := 91) ?hr ?_; (case hd => rfl); (case hg => rfl); (case hr => first | (go_simp; done) | (go_simp; rfl)); intro gb162 hg w49 hbox hb; have n0_ := mkA (blk_below (g := gb160) (o := .cells #[.int .i64 a0_0, .slice (some ad161) l0_1.length c0_1, .slice A0_2 l0_2.length c0_2] 25 (0, 0)) (by (with_reducible repeat (first | refine z17 ?_ _)); exact BK160.out) hb); have n1_ := mkA (z16 (by repeat (with_reducible first | exact HB.out | apply z10 | apply z11 | apply z13 | refine z15 ?_ GE160.out)) hb); have n2_ := mkA (hbox); have n3_ := mkA ((by rw [hg]; exact (z18 (by repeat (with_reducible first | exact HB.out | apply z10 | apply z11 | apply z13 | refine z15 ?_ GE160.out))) : w.heap.size ≤ gb162)); have n4_ := mkA ((by rw [hg]; exact (z18 (by repeat (with_reducible first | exact HB.out | apply z10 | apply z11 | apply z13 | refine z15 ?_ GE160.out))) : w.heap.size ≤ gb162)); have n5_ := mkA ((by rw [hg]; exact Nat.ne_of_lt (blk_lt (g := gb160) (o := .cells #[.int .i64 a0_0, .slice (some ad161) l0_1.length c0_1, .slice A0_2 l0_2.length c0_2] 25 (0, 0)) (by (with_reducible repeat (first | refine z17 ?_ _)); exact BK160.out)) : gb160 ≠ gb162)); have n6_ := mkA ((by rw [hg]; exact Nat.ne_of_gt (blk_lt (g := gb160) (o := .cells #[.int .i64 a0_0, .slice (some ad161) l0_1.length c0_1, .slice A0_2 l0_2.length c0_2] 25 (0, 0)) (by (with_reducible repeat (first | refine z17 ?_ _)); exact BK160.out)) : gb162 ≠ gb160)); clear BK160; clear HB; have BK160 := n0_; have HB := n1_; have BK162 := n2_; have GW162 := n3_; have GE162 := n4_; have NB160_162 := n5_; have NB162_160 := n6_; clear n0_ n1_ n2_ n3_ n4_ n5_ n6_; clear hb hbox hg; have hnb50 := NB162_160.out; have hnc50 := NB160_162.out; have hcz51_0 : w49.cell? ⟨gb162, 0, none⟩ = some (.int .i64 0) := (z12 BK162.out 0).trans rfl; have hcz51_1 : w49.cell? ⟨gb162, 1, none⟩ = some (.int .i64 0) := (z12 BK162.out 1).trans rfl; have hcz51_2 : w49.cell? ⟨gb162, 2, none⟩ = some (.int .i64 0) := (z12 BK162.out 2).trans rfl; have hcz51_3 : w49.cell? ⟨gb162, 3, none⟩ = some (.int .i64 0) := (z12 BK162.out 3).trans rfl; have hfz51_0 := z14 BK162.out 0; have hfz51_1 := z14 BK162.out 1; have hfz51_2 := z14 BK162.out 2; have hfz51_3 := z14 BK162.out 3; have hcz52_0 : w49.cell? ⟨gb160, 0, none⟩ = some (.int .i64 a0_0) := (z12 BK160.out 0).trans rfl; have hcz52_1 : w49.cell? ⟨gb160, 1, none⟩ = some (.slice (some ad161) l0_1.length c0_1) := (z12 BK160.out 1).trans rfl; have hcz52_2 : w49.cell? ⟨gb160, 2, none⟩ = some (.slice A0_2 l0_2.length c0_2) := (z12 BK160.out 2).trans rfl; have hfz52_0 := z14 BK160.out 0; have hfz52_1 := z14 BK160.out 1; have hfz52_2 := z14 BK160.out 2) | ((with_reducible refine z25 (f := 91) rfl ?_); refine goesL_ (some 42) rfl rfl Try.func91 (by kernel_rfl) rfl #[.agg #[.int .i64 a0_0, .slice (some ad161) l0_1.length c0_1, .slice A0_2 l0_2.length c0_2], .int .i64 ((rd_T91 l0_1 x3_2).f0), .int .i64 ((rd_T91 l0_1 x3_2).f1)] rfl (by (try simp only [List.map_toArray, List.map_cons, List.map_nil]); first | done | rfl | (simp only [List.length_drop, List.length_take]; rfl)) ?_; (with_reducible refine (pr_ArePair.calls a0_0 _ _ l0_1 _ _ l0_2 ((rd_T91 l0_1 x3_2).f0) ((rd_T91 l0_1 x3_2).f1) false _ ?side1 ?side2 ?side3 ?side4 A15.out).mono ?_); (case side1 => exact Kd.C_below HR0_1.out (by repeat (with_reducible first | exact HB.out | apply z10 | apply z11 | apply z13 | refine z15 ?_ GE160.out | refine z15 ?_ GE162.out))); (case side2 => exact HC0_1.out); (case side3 => exact Kd.C_below HR0_2.out (by repeat (with_reducible first | exact HB.out | apply z10 | apply z11 | apply z13 | refine z15 ?_ GE160.out | refine z15 ?_ GE162.out))); (case side4 => exact HC0_2.out); rintro e w53 ⟨rfl, hb⟩; refine ⟨_, rfl, ?_⟩; have n0_ := mkA (blk_below (g := gb160) (o := .cells #[.int .i64 a0_0, .slice (some ad161) l0_1.length c0_1, .slice A0_2 l0_2.length c0_2] 25 (0, 0)) (by (with_reducible repeat (first | refine z17 ?_ _)); refine blk_far ?_ NB160_162.out _; (with_reducible repeat (first | refine z17 ?_ _)); refine blk_far ?_ NB160_162.out _; (with_reducible repeat (first | refine z17 ?_ _)); refine blk_far ?_ NB160_162.out _; (with_reducible repeat (first | refine z17 ?_ _)); refine blk_far ?_ NB160_162.out _; (with_reducible repeat (first | refine z17 ?_ _)); exact BK160.out) hb); have n1_ := mkA (blk_below (g := gb162) (o := .cells #[.int .i64 ((rd_T91 l0_1 x3_2).f0), .int .i64 ((rd_T91 l0_1 x3_2).f1), .int .i64 ((rd_T91 l0_1 x3_2).f2.f0), .int .i64 ((rd_T91 l0_1 x3_2).f2.f1)] 91 (0, 0)) (by (with_reducible repeat (first | refine z17 ?_ _)); refine blk_put (cs := #[.int .i64 ((rd_T91 l0_1 x3_2).f0), .int .i64 ((rd_T91 l0_1 x3_2).f1), .int .i64 ((rd_T91 l0_1 x3_2).f2.f0), .int .i64 0]) ?_ 3 _ rfl; (with_reducible repeat (first | refine z17 ?_ _)); refine blk_put (cs := #[.int .i64 ((rd_T91 l0_1 x3_2).f0), .int .i64 ((rd_T91 l0_1 x3_2).f1), .int .i64 0, .int .i64 0]) ?_ 2 _ rfl; (with_reducible repeat (first | refine z17 ?_ _)); refine blk_put (cs := #[.int .i64 ((rd_T91 l0_1 x3_2).f0), .int .i64 0, .int .i64 0, .int .i64 0]) ?_ 1 _ rfl; (with_reducible repeat (first | refine z17 ?_ _)); refine blk_put (cs := #[.int .i64 0, .int .i64 0, .int .i64 0, .int .i64 0]) ?_ 0 _ rfl; (with_reducible repeat (first | refine z17 ?_ _)); exact BK162.out) hb); have n2_ := mkA (z16 (by repeat (with_reducible first | exact HB.out | apply z10 | apply z11 | apply z13 | refine z15 ?_ GE160.out | refine z15 ?_ GE162.out)) hb); clear BK160; clear BK162; clear HB; have BK160 := n0_; have BK162 := n1_; have HB := n2_; clear n0_ n1_ n2_; (try clear hb); (try clear hb2); (try clear hk); (try clear hi)))
          go_ret
          exact ⟨by first | rfl | (simp [z21, z20] <;> rfl) | (simp [*, z21, z20] <;> rfl), by repeat (with_reducible first | exact HB.out | apply z10 | apply z11 | apply z13 | refine z15 ?_ GE160.out | refine z15 ?_ GE162.out)⟩
        ·rw [if_neg c14] at H
         exact absurd H (by simp)
       ·rw [if_neg c13] at H
        have c13b0 : decide (x3_2 < (l0_1.length : Int)) = false := decide_eq_false c13
        clear c13
        have H' := mkA H
        clear H
        have hcz54_0 : wr.cell? ⟨gb160, 0, none⟩ = some (.int .i64 a0_0) := (z12 BK160.out 0).trans rfl
        have hcz54_1 : wr.cell? ⟨gb160, 1, none⟩ = some (.slice A0_1 l0_1.length c0_1) := (z12 BK160.out 1).trans rfl
        have hcz54_2 : wr.cell? ⟨gb160, 2, none⟩ = some (.slice A0_2 l0_2.length c0_2) := (z12 BK160.out 2).trans rfl
        have hfz54_0 := z14 BK160.out 0
        have hfz54_1 := z14 BK160.out 1
        have hfz54_2 := z14 BK160.out 2
        go_wp2
        go_loopg [5] k2 (fun kq v5 w' => ∃ (x5_3 : Int), v5 = .int .i64 x5_3 ∧ Aside0 (pr_Fault.l1 kq x5_3 a0_0 l0_1 l0_2 = some r) ∧ Aside0 (kq ≤ k2) ∧ Aside0 (w'.heap[gb160]? = some (.cells #[.int .i64 a0_0, (.slice A0_1 l0_1.length c0_1), (.slice A0_2 l0_2.length c0_2)] 25 (0, 0))) ∧ Aside0 (Below w.heap.size w w'))
        case atStart => exact ⟨(0), (by first | rfl | (simp; done) | (simp [*]; done)), H', ⟨Nat.le_refl _⟩, ⟨by (with_reducible repeat (first | refine z17 ?_ _)); exact BK160.out⟩, ⟨by repeat (with_reducible first | exact HB.out | apply z10 | apply z11 | apply z13 | refine z15 ?_ GE160.out)⟩⟩
        case round =>
         clear H'
         try clear c1
         try clear p1
         try clear q1
         try clear hx1
         try clear c2
         try clear p2
         try clear c3
         try clear c4
         try clear c4b0
         try clear c5
         try clear c6
         try clear c6b0
         try clear c6b1
         try clear p6
         try clear c8
         try clear c9
         try clear c10
         try clear c10b0
         try clear c13
         try clear c13b0
         try clear c14
         try clear c14b0
         try clear c16
         try clear p16
         try clear q16
         try clear hx16
         try clear c17
         try clear c17b0
         try clear c20
         try clear c25
         try clear c25b0
         try clear c28
         try clear c33
         try clear c33b0
         try clear c36
         try clear c43
         try clear c50
         try clear hcz11_0
         try clear hcz11_1
         try clear hcz11_2
         try clear hcz12_0
         try clear hcz12_1
         try clear hcz12_2
         try clear hcz18_0
         try clear hcz18_1
         try clear hcz18_2
         try clear hcz21_0
         try clear hcz21_1
         try clear hcz21_2
         try clear hcz21_3
         try clear hcz22_0
         try clear hcz22_1
         try clear hcz22_2
         try clear hcz24_0
         try clear hcz24_1
         try clear hcz24_2
         try clear hcz24_3
         try clear hcz26_0
         try clear hcz26_1
         try clear hcz26_2
         try clear hcz29_0
         try clear hcz29_1
         try clear hcz29_2
         try clear hcz29_3
         try clear hcz30_0
         try clear hcz30_1
         try clear hcz30_2
         try clear hcz32_0
         try clear hcz32_1
         try clear hcz32_2
         try clear hcz32_3
         try clear hcz34_0
         try clear hcz34_1
         try clear hcz34_2
         try clear hcz37_0
         try clear hcz37_1
         try clear hcz37_2
         try clear hcz37_3
         try clear hcz38_0
         try clear hcz38_1
         try clear hcz38_2
         try clear hcz40_0
         try clear hcz40_1
         try clear hcz40_2
         try clear hcz40_3
         try clear hcz41_0
         try clear hcz41_1
         try clear hcz41_2
         try clear hcz44_0
         try clear hcz44_1
         try clear hcz44_2
         try clear hcz44_3
         try clear hcz45_0
         try clear hcz45_1
         try clear hcz45_2
         try clear hcz47_0
         try clear hcz47_1
         try clear hcz47_2
         try clear hcz47_3
         try clear hcz48_0
         try clear hcz48_1
         try clear hcz48_2
         try clear hcz51_0
         try clear hcz51_1
         try clear hcz51_2
         try clear hcz51_3
         try clear hcz52_0
         try clear hcz52_1
         try clear hcz52_2
         try clear hcz54_0
         try clear hcz54_1
         try clear hcz54_2
         try clear hcz5_0
         try clear hcz5_1
         try clear hcz5_2
         try clear hcz7_0
         try clear hcz7_1
         try clear hcz7_2
         try clear hcz8_0
         try clear hcz8_1
         try clear hcz8_2
         try clear hfz11_0
         try clear hfz11_1
         try clear hfz11_2
         try clear hfz12_0
         try clear hfz12_1
         try clear hfz12_2
         try clear hfz18_0
         try clear hfz18_1
         try clear hfz18_2
         try clear hfz21_0
         try clear hfz21_1
         try clear hfz21_2
         try clear hfz21_3
         try clear hfz22_0
         try clear hfz22_1
         try clear hfz22_2
         try clear hfz24_0
         try clear hfz24_1
         try clear hfz24_2
         try clear hfz24_3
         try clear hfz26_0
         try clear hfz26_1
         try clear hfz26_2
         try clear hfz29_0
         try clear hfz29_1
         try clear hfz29_2
         try clear hfz29_3
         try clear hfz30_0
         try clear hfz30_1
         try clear hfz30_2
         try clear hfz32_0
         try clear hfz32_1
         try clear hfz32_2
         try clear hfz32_3
         try clear hfz34_0
         try clear hfz34_1
         try clear hfz34_2
         try clear hfz37_0
         try clear hfz37_1
         try clear hfz37_2
         try clear hfz37_3
         try clear hfz38_0
         try clear hfz38_1
         try clear hfz38_2
         try clear hfz40_0
         try clear hfz40_1
         try clear hfz40_2
         try clear hfz40_3
         try clear hfz41_0
         try clear hfz41_1
         try clear hfz41_2
         try clear hfz44_0
         try clear hfz44_1
         try clear hfz44_2
         try clear hfz44_3
         try clear hfz45_0
         try clear hfz45_1
         try clear hfz45_2
         try clear hfz47_0
         try clear hfz47_1
         try clear hfz47_2
         try clear hfz47_3
         try clear hfz48_0
         try clear hfz48_1
         try clear hfz48_2
         try clear hfz51_0
         try clear hfz51_1
         try clear hfz51_2
         try clear hfz51_3
         try clear hfz52_0
         try clear hfz52_1
         try clear hfz52_2
         try clear hfz54_0
         try clear hfz54_1
         try clear hfz54_2
         try clear hfz5_0
         try clear hfz5_1
         try clear hfz5_2
         try clear hfz7_0
         try clear hfz7_1
         try clear hfz7_2
         try clear hfz8_0
         try clear hfz8_1
         try clear hfz8_2
         try clear hx161_0
         try clear hx161_1
         try clear hx161_2
         try clear hx161_3
         try clear p161
         try clear p2
         try clear q161
         obtain ⟨x5_3, rfl, HA, HK3, BK160, HB⟩ := hrel
         cases gk with
         | zero => exact absurd HA.out (by simp [pr_Fault.l1])
         | succ k3 =>
          have H := HA.out
          clear HA
          simp only [pr_Fault.l1] at H
          by_cases c55 : x5_3 < (l0_2.length : Int)
          ·rw [if_pos c55] at H
           have c55b0 : decide (x5_3 < (l0_2.length : Int)) = true := decide_eq_true c55
           clear c55
           by_cases c56 : 0 ≤ x5_3
           ·rw [if_pos c56] at H
            have c56b0 : decide (0 ≤ x5_3) = true := decide_eq_true c56
            clear c56
            replace H := Option.bind_eq_some_iff.mp H
            obtain ⟨t166, A570, H⟩ := H
            replace H : (if t166 = true then (if ((rd_T94 l0_2 x5_3).f1.f0) < (-240) then (some 1) else (if ((rd_T94 l0_2 x5_3).f1.f0) > ((rd_T94 l0_2 x5_3).f1.f1) then (some 1) else (if ((rd_T94 l0_2 x5_3).f1.f1) > 240 then (some 1) else (pr_Fault.l1 k3 (wrap64 (x5_3 + 1)) a0_0 l0_1 l0_2)))) else (some 1)) = some r := H
            have A57 := mkA A570
            clear A570
            by_cases c58 : t166 = true
            ·subst c58
             have H1 : (if ((rd_T94 l0_2 x5_3).f1.f0) < (-240) then (some 1) else (if ((rd_T94 l0_2 x5_3).f1.f0) > ((rd_T94 l0_2 x5_3).f1.f1) then (some 1) else (if ((rd_T94 l0_2 x5_3).f1.f1) > 240 then (some 1) else (pr_Fault.l1 k3 (wrap64 (x5_3 + 1)) a0_0 l0_1 l0_2)))) = some r := by rw [if_pos rfl] at H; exact H
             clear H
             have H := H1
             clear H1
             by_cases c59 : ((rd_T94 l0_2 x5_3).f1.f0) < (-240)
             ·rw [if_pos c59] at H
              have c59b0 : decide (((rd_T94 l0_2 x5_3).f1.f0) < (-240)) = true := decide_eq_true c59
              clear c59
              obtain rfl := Option.some.inj H
              have hcz60_0 : wr.cell? ⟨gb160, 0, none⟩ = some (.int .i64 a0_0) := (z12 BK160.out 0).trans rfl
              have hcz60_1 : wr.cell? ⟨gb160, 1, none⟩ = some (.slice A0_1 l0_1.length c0_1) := (z12 BK160.out 1).trans rfl
              have hcz60_2 : wr.cell? ⟨gb160, 2, none⟩ = some (.slice A0_2 l0_2.length c0_2) := (z12 BK160.out 2).trans rfl
              have hfz60_0 := z14 BK160.out 0
              have hfz60_1 := z14 BK160.out 1
              have hfz60_2 := z14 BK160.out 2
              have p164 : 0 ≤ (x5_3 : Int) := of_decide_eq_true (by first | (with_reducible assumption) | assumption)
              have q164 : x5_3 < (l0_2.length : Int) := of_decide_eq_true (by first | (with_reducible assumption) | assumption)
              obtain ⟨ad164, e164, hx164_0, hx164_1, hx164_2⟩ := at_T94 HR0_2.out x5_3 p164 q164
              cases e164
              replace hx164_0 := (HB.out.cell (World.block_lt_of_cell? w _ hx164_0)).trans hx164_0
              replace hx164_1 := (HB.out.cell (World.block_lt_of_cell? w _ hx164_1)).trans hx164_1
              replace hx164_2 := (HB.out.cell (World.block_lt_of_cell? w _ hx164_2)).trans hx164_2
              replace p164 := eq_true p164
              replace q164 := eq_true q164
              go_wp2_with (first | ((with_reducible refine z24 (N := 6) rfl ?_); (try (refine z32 (by rfl) ?_; dsimp only)); refine z23 ?hg (N := 6) ?hd (cs := #[.int .i64 0, .int .i64 0, .int .i64 0]) (t := 94) ?hr ?_; (case hd => rfl); (case hg => rfl); (case hr => first | (go_simp; done) | (go_simp; rfl)); intro gb165 hg w61 hbox hb; have n0_ := mkA (blk_below (g := gb160) (o := .cells #[.int .i64 a0_0, .slice A0_1 l0_1.length c0_1, .slice (some ad164) l0_2.length c0_2] 25 (0, 0)) (by (with_reducible repeat (first | refine z17 ?_ _)); exact BK160.out) hb); have n1_ := mkA (z16 (by repeat (with_reducible first | exact HB.out | apply z10 | apply z11 | apply z13 | refine z15 ?_ GE160.out)) hb); have n2_ := mkA (hbox); have n3_ := mkA ((by rw [hg]; exact (z18 (by repeat (with_reducible first | exact HB.out | apply z10 | apply z11 | apply z13 | refine z15 ?_ GE160.out))) : w.heap.size ≤ gb165)); have n4_ := mkA ((by rw [hg]; exact (z18 (by repeat (with_reducible first | exact HB.out | apply z10 | apply z11 | apply z13 | refine z15 ?_ GE160.out))) : w.heap.size ≤ gb165)); have n5_ := mkA ((by rw [hg]; exact Nat.ne_of_lt (blk_lt (g := gb160) (o := .cells #[.int .i64 a0_0, .slice A0_1 l0_1.length c0_1, .slice (some ad164) l0_2.length c0_2] 25 (0, 0)) (by (with_reducible repeat (first | refine z17 ?_ _)); exact BK160.out)) : gb160 ≠ gb165)); have n6_ := mkA ((by rw [hg]; exact Nat.ne_of_gt (blk_lt (g := gb160) (o := .cells #[.int .i64 a0_0, .slice A0_1 l0_1.length c0_1, .slice (some ad164) l0_2.length c0_2] 25 (0, 0)) (by (with_reducible repeat (first | refine z17 ?_ _)); exact BK160.out)) : gb165 ≠ gb160)); clear BK160; clear HB; have BK160 := n0_; have HB := n1_; have BK165 := n2_; have GW165 := n3_; have GE165 := n4_; have NB160_165 := n5_; have NB165_160 := n6_; clear n0_ n1_ n2_ n3_ n4_ n5_ n6_; clear hb hbox hg; have hnb62 := NB165_160.out; have hnc62 := NB160_165.out; have hcz63_0 : w61.cell? ⟨gb165, 0, none⟩ = some (.int .i64 0) := (z12 BK165.out 0).trans rfl; have hcz63_1 : w61.cell? ⟨gb165, 1, none⟩ = some (.int .i64 0) := (z12 BK165.out 1).trans rfl; have hcz63_2 : w61.cell? ⟨gb165, 2, none⟩ = some (.int .i64 0) := (z12 BK165.out 2).trans rfl; have hfz63_0 := z14 BK165.out 0; have hfz63_1 := z14 BK165.out 1; have hfz63_2 := z14 BK165.out 2; have hcz64_0 : w61.cell? ⟨gb160, 0, none⟩ = some (.int .i64 a0_0) := (z12 BK160.out 0).trans rfl; have hcz64_1 : w61.cell? ⟨gb160, 1, none⟩ = some (.slice A0_1 l0_1.length c0_1) := (z12 BK160.out 1).trans rfl; have hcz64_2 : w61.cell? ⟨gb160, 2, none⟩ = some (.slice (some ad164) l0_2.length c0_2) := (z12 BK160.out 2).trans rfl; have hfz64_0 := z14 BK160.out 0; have hfz64_1 := z14 BK160.out 1; have hfz64_2 := z14 BK160.out 2) | ((with_reducible refine z25 (f := 59) rfl ?_); refine goesL_ (some 82) rfl rfl Try.func59 (by kernel_rfl) rfl #[.int .i64 ((rd_T94 l0_2 x5_3).f0), .int .i64 0, .int .i64 (wrap64 (a0_0 - 1))] rfl (by (try simp only [List.map_toArray, List.map_cons, List.map_nil]); first | done | rfl | (simp only [List.length_drop, List.length_take]; rfl)) ?_; (with_reducible refine (pr_In.calls ((rd_T94 l0_2 x5_3).f0) 0 (wrap64 (a0_0 - 1)) true _ A57.out).mono ?_); rintro e w' ⟨rfl, ⟨nd, rfl⟩⟩; refine ⟨_, rfl, ?_⟩))
              go_ret
              exact ⟨by first | rfl | (simp [z21, z20] <;> rfl) | (simp [*, z21, z20] <;> rfl), by repeat (with_reducible first | exact HB.out | apply z10 | apply z11 | apply z13 | refine z15 ?_ GE160.out | refine z15 ?_ GE165.out)⟩
             ·rw [if_neg c59] at H
              have c59b0 : decide (((rd_T94 l0_2 x5_3).f1.f0) < (-240)) = false := decide_eq_false c59
              clear c59
              by_cases c65 : ((rd_T94 l0_2 x5_3).f1.f0) > ((rd_T94 l0_2 x5_3).f1.f1)
              ·rw [if_pos c65] at H
               have c65b0 : decide (((rd_T94 l0_2 x5_3).f1.f1) < ((rd_T94 l0_2 x5_3).f1.f0)) = true := decide_eq_true c65
               clear c65
               obtain rfl := Option.some.inj H
               have hcz66_0 : wr.cell? ⟨gb160, 0, none⟩ = some (.int .i64 a0_0) := (z12 BK160.out 0).trans rfl
               have hcz66_1 : wr.cell? ⟨gb160, 1, none⟩ = some (.slice A0_1 l0_1.length c0_1) := (z12 BK160.out 1).trans rfl
               have hcz66_2 : wr.cell? ⟨gb160, 2, none⟩ = some (.slice A0_2 l0_2.length c0_2) := (z12 BK160.out 2).trans rfl
               have hfz66_0 := z14 BK160.out 0
               have hfz66_1 := z14 BK160.out 1
               have hfz66_2 := z14 BK160.out 2
               have p164 : 0 ≤ (x5_3 : Int) := of_decide_eq_true (by first | (with_reducible assumption) | assumption)
               have q164 : x5_3 < (l0_2.length : Int) := of_decide_eq_true (by first | (with_reducible assumption) | assumption)
               obtain ⟨ad164, e164, hx164_0, hx164_1, hx164_2⟩ := at_T94 HR0_2.out x5_3 p164 q164
               cases e164
               replace hx164_0 := (HB.out.cell (World.block_lt_of_cell? w _ hx164_0)).trans hx164_0
               replace hx164_1 := (HB.out.cell (World.block_lt_of_cell? w _ hx164_1)).trans hx164_1
               replace hx164_2 := (HB.out.cell (World.block_lt_of_cell? w _ hx164_2)).trans hx164_2
               replace p164 := eq_true p164
               replace q164 := eq_true q164
               go_wp2_with (first | ((with_reducible refine z24 (N := 6) rfl ?_); (try (refine z32 (by rfl) ?_; dsimp only)); refine z23 ?hg (N := 6) ?hd (cs := #[.int .i64 0, .int .i64 0, .int .i64 0]) (t := 94) ?hr ?_; (case hd => rfl); (case hg => rfl); (case hr => first | (go_simp; done) | (go_simp; rfl)); intro gb165 hg w67 hbox hb; have n0_ := mkA (blk_below (g := gb160) (o := .cells #[.int .i64 a0_0, .slice A0_1 l0_1.length c0_1, .slice (some ad164) l0_2.length c0_2] 25 (0, 0)) (by (with_reducible repeat (first | refine z17 ?_ _)); exact BK160.out) hb); have n1_ := mkA (z16 (by repeat (with_reducible first | exact HB.out | apply z10 | apply z11 | apply z13 | refine z15 ?_ GE160.out)) hb); have n2_ := mkA (hbox); have n3_ := mkA ((by rw [hg]; exact (z18 (by repeat (with_reducible first | exact HB.out | apply z10 | apply z11 | apply z13 | refine z15 ?_ GE160.out))) : w.heap.size ≤ gb165)); have n4_ := mkA ((by rw [hg]; exact (z18 (by repeat (with_reducible first | exact HB.out | apply z10 | apply z11 | apply z13 | refine z15 ?_ GE160.out))) : w.heap.size ≤ gb165)); have n5_ := mkA ((by rw [hg]; exact Nat.ne_of_lt (blk_lt (g := gb160) (o := .cells #[.int .i64 a0_0, .slice A0_1 l0_1.length c0_1, .slice (some ad164) l0_2.length c0_2] 25 (0, 0)) (by (with_reducible repeat (first | refine z17 ?_ _)); exact BK160.out)) : gb160 ≠ gb165)); have n6_ := mkA ((by rw [hg]; exact Nat.ne_of_gt (blk_lt (g := gb160) (o := .cells #[.int .i64 a0_0, .slice A0_1 l0_1.length c0_1, .slice (some ad164) l0_2.length c0_2] 25 (0, 0)) (by (with_reducible repeat (first | refine z17 ?_ _)); exact BK160.out)) : gb165 ≠ gb160)); clear BK160; clear HB; have BK160 := n0_; have HB := n1_; have BK165 := n2_; have GW165 := n3_; have GE165 := n4_; have NB160_165 := n5_; have NB165_160 := n6_; clear n0_ n1_ n2_ n3_ n4_ n5_ n6_; clear hb hbox hg; have hnb68 := NB165_160.out; have hnc68 := NB160_165.out; have hcz69_0 : w67.cell? ⟨gb165, 0, none⟩ = some (.int .i64 0) := (z12 BK165.out 0).trans rfl; have hcz69_1 : w67.cell? ⟨gb165, 1, none⟩ = some (.int .i64 0) := (z12 BK165.out 1).trans rfl; have hcz69_2 : w67.cell? ⟨gb165, 2, none⟩ = some (.int .i64 0) := (z12 BK165.out 2).trans rfl; have hfz69_0 := z14 BK165.out 0; have hfz69_1 := z14 BK165.out 1; have hfz69_2 := z14 BK165.out 2; have hcz70_0 : w67.cell? ⟨gb160, 0, none⟩ = some (.int .i64 a0_0) := (z12 BK160.out 0).trans rfl; have hcz70_1 : w67.cell? ⟨gb160, 1, none⟩ = some (.slice A0_1 l0_1.length c0_1) := (z12 BK160.out 1).trans rfl; have hcz70_2 : w67.cell? ⟨gb160, 2, none⟩ = some (.slice (some ad164) l0_2.length c0_2) := (z12 BK160.out 2).trans rfl; have hfz70_0 := z14 BK160.out 0; have hfz70_1 := z14 BK160.out 1; have hfz70_2 := z14 BK160.out 2) | ((with_reducible refine z25 (f := 59) rfl ?_); refine goesL_ (some 82) rfl rfl Try.func59 (by kernel_rfl) rfl #[.int .i64 ((rd_T94 l0_2 x5_3).f0), .int .i64 0, .int .i64 (wrap64 (a0_0 - 1))] rfl (by (try simp only [List.map_toArray, List.map_cons, List.map_nil]); first | done | rfl | (simp only [List.length_drop, List.length_take]; rfl)) ?_; (with_reducible refine (pr_In.calls ((rd_T94 l0_2 x5_3).f0) 0 (wrap64 (a0_0 - 1)) true _ A57.out).mono ?_); rintro e w' ⟨rfl, ⟨nd, rfl⟩⟩; refine ⟨_, rfl, ?_⟩))
               go_ret
               exact ⟨by first | rfl | (simp [z21, z20] <;> rfl) | (simp [*, z21, z20] <;> rfl), by repeat (with_reducible first | exact HB.out | apply z10 | apply z11 | apply z13 | refine z15 ?_ GE160.out | refine z15 ?_ GE165.out)⟩
              ·rw [if_neg c65] at H
               have c65b0 : decide (((rd_T94 l0_2 x5_3).f1.f1) < ((rd_T94 l0_2 x5_3).f1.f0)) = false := decide_eq_false c65
               clear c65
               by_cases c71 : ((rd_T94 l0_2 x5_3).f1.f1) > 240
               ·rw [if_pos c71] at H
                have c71b0 : decide (240 < ((rd_T94 l0_2 x5_3).f1.f1)) = true := decide_eq_true c71
                clear c71
                obtain rfl := Option.some.inj H
                have hcz72_0 : wr.cell? ⟨gb160, 0, none⟩ = some (.int .i64 a0_0) := (z12 BK160.out 0).trans rfl
                have hcz72_1 : wr.cell? ⟨gb160, 1, none⟩ = some (.slice A0_1 l0_1.length c0_1) := (z12 BK160.out 1).trans rfl
                have hcz72_2 : wr.cell? ⟨gb160, 2, none⟩ = some (.slice A0_2 l0_2.length c0_2) := (z12 BK160.out 2).trans rfl
                have hfz72_0 := z14 BK160.out 0
                have hfz72_1 := z14 BK160.out 1
                have hfz72_2 := z14 BK160.out 2
                have p164 : 0 ≤ (x5_3 : Int) := of_decide_eq_true (by first | (with_reducible assumption) | assumption)
                have q164 : x5_3 < (l0_2.length : Int) := of_decide_eq_true (by first | (with_reducible assumption) | assumption)
                obtain ⟨ad164, e164, hx164_0, hx164_1, hx164_2⟩ := at_T94 HR0_2.out x5_3 p164 q164
                cases e164
                replace hx164_0 := (HB.out.cell (World.block_lt_of_cell? w _ hx164_0)).trans hx164_0
                replace hx164_1 := (HB.out.cell (World.block_lt_of_cell? w _ hx164_1)).trans hx164_1
                replace hx164_2 := (HB.out.cell (World.block_lt_of_cell? w _ hx164_2)).trans hx164_2
                replace p164 := eq_true p164
                replace q164 := eq_true q164
                go_wp2_with (first | ((with_reducible refine z24 (N := 6) rfl ?_); (try (refine z32 (by rfl) ?_; dsimp only)); refine z23 ?hg (N := 6) ?hd (cs := #[.int .i64 0, .int .i64 0, .int .i64 0]) (t := 94) ?hr ?_; (case hd => rfl); (case hg => rfl); (case hr => first | (go_simp; done) | (go_simp; rfl)); intro gb165 hg w73 hbox hb; have n0_ := mkA (blk_below (g := gb160) (o := .cells #[.int .i64 a0_0, .slice A0_1 l0_1.length c0_1, .slice (some ad164) l0_2.length c0_2] 25 (0, 0)) (by (with_reducible repeat (first | refine z17 ?_ _)); exact BK160.out) hb); have n1_ := mkA (z16 (by repeat (with_reducible first | exact HB.out | apply z10 | apply z11 | apply z13 | refine z15 ?_ GE160.out)) hb); have n2_ := mkA (hbox); have n3_ := mkA ((by rw [hg]; exact (z18 (by repeat (with_reducible first | exact HB.out | apply z10 | apply z11 | apply z13 | refine z15 ?_ GE160.out))) : w.heap.size ≤ gb165)); have n4_ := mkA ((by rw [hg]; exact (z18 (by repeat (with_reducible first | exact HB.out | apply z10 | apply z11 | apply z13 | refine z15 ?_ GE160.out))) : w.heap.size ≤ gb165)); have n5_ := mkA ((by rw [hg]; exact Nat.ne_of_lt (blk_lt (g := gb160) (o := .cells #[.int .i64 a0_0, .slice A0_1 l0_1.length c0_1, .slice (some ad164) l0_2.length c0_2] 25 (0, 0)) (by (with_reducible repeat (first | refine z17 ?_ _)); exact BK160.out)) : gb160 ≠ gb165)); have n6_ := mkA ((by rw [hg]; exact Nat.ne_of_gt (blk_lt (g := gb160) (o := .cells #[.int .i64 a0_0, .slice A0_1 l0_1.length c0_1, .slice (some ad164) l0_2.length c0_2] 25 (0, 0)) (by (with_reducible repeat (first | refine z17 ?_ _)); exact BK160.out)) : gb165 ≠ gb160)); clear BK160; clear HB; have BK160 := n0_; have HB := n1_; have BK165 := n2_; have GW165 := n3_; have GE165 := n4_; have NB160_165 := n5_; have NB165_160 := n6_; clear n0_ n1_ n2_ n3_ n4_ n5_ n6_; clear hb hbox hg; have hnb74 := NB165_160.out; have hnc74 := NB160_165.out; have hcz75_0 : w73.cell? ⟨gb165, 0, none⟩ = some (.int .i64 0) := (z12 BK165.out 0).trans rfl; have hcz75_1 : w73.cell? ⟨gb165, 1, none⟩ = some (.int .i64 0) := (z12 BK165.out 1).trans rfl; have hcz75_2 : w73.cell? ⟨gb165, 2, none⟩ = some (.int .i64 0) := (z12 BK165.out 2).trans rfl; have hfz75_0 := z14 BK165.out 0; have hfz75_1 := z14 BK165.out 1; have hfz75_2 := z14 BK165.out 2; have hcz76_0 : w73.cell? ⟨gb160, 0, none⟩ = some (.int .i64 a0_0) := (z12 BK160.out 0).trans rfl; have hcz76_1 : w73.cell? ⟨gb160, 1, none⟩ = some (.slice A0_1 l0_1.length c0_1) := (z12 BK160.out 1).trans rfl; have hcz76_2 : w73.cell? ⟨gb160, 2, none⟩ = some (.slice (some ad164) l0_2.length c0_2) := (z12 BK160.out 2).trans rfl; have hfz76_0 := z14 BK160.out 0; have hfz76_1 := z14 BK160.out 1; have hfz76_2 := z14 BK160.out 2) | ((with_reducible refine z25 (f := 59) rfl ?_); refine goesL_ (some 82) rfl rfl Try.func59 (by kernel_rfl) rfl #[.int .i64 ((rd_T94 l0_2 x5_3).f0), .int .i64 0, .int .i64 (wrap64 (a0_0 - 1))] rfl (by (try simp only [List.map_toArray, List.map_cons, List.map_nil]); first | done | rfl | (simp only [List.length_drop, List.length_take]; rfl)) ?_; (with_reducible refine (pr_In.calls ((rd_T94 l0_2 x5_3).f0) 0 (wrap64 (a0_0 - 1)) true _ A57.out).mono ?_); rintro e w' ⟨rfl, ⟨nd, rfl⟩⟩; refine ⟨_, rfl, ?_⟩))
                go_ret
                exact ⟨by first | rfl | (simp [z21, z20] <;> rfl) | (simp [*, z21, z20] <;> rfl), by repeat (with_reducible first | exact HB.out | apply z10 | apply z11 | apply z13 | refine z15 ?_ GE160.out | refine z15 ?_ GE165.out)⟩
               ·rw [if_neg c71] at H
                have c71b0 : decide (240 < ((rd_T94 l0_2 x5_3).f1.f1)) = false := decide_eq_false c71
                clear c71
                have H' := mkA H
                clear H
                have hcz77_0 : wr.cell? ⟨gb160, 0, none⟩ = some (.int .i64 a0_0) := (z12 BK160.out 0).trans rfl
                have hcz77_1 : wr.cell? ⟨gb160, 1, none⟩ = some (.slice A0_1 l0_1.length c0_1) := (z12 BK160.out 1).trans rfl
                have hcz77_2 : wr.cell? ⟨gb160, 2, none⟩ = some (.slice A0_2 l0_2.length c0_2) := (z12 BK160.out 2).trans rfl
                have hfz77_0 := z14 BK160.out 0
                have hfz77_1 := z14 BK160.out 1
                have hfz77_2 := z14 BK160.out 2
                have p164 : 0 ≤ (x5_3 : Int) := of_decide_eq_true (by first | (with_reducible assumption) | assumption)
                have q164 : x5_3 < (l0_2.length : Int) := of_decide_eq_true (by first | (with_reducible assumption) | assumption)
                obtain ⟨ad164, e164, hx164_0, hx164_1, hx164_2⟩ := at_T94 HR0_2.out x5_3 p164 q164
                cases e164
                replace hx164_0 := (HB.out.cell (World.block_lt_of_cell? w _ hx164_0)).trans hx164_0
                replace hx164_1 := (HB.out.cell (World.block_lt_of_cell? w _ hx164_1)).trans hx164_1
                replace hx164_2 := (HB.out.cell (World.block_lt_of_cell? w _ hx164_2)).trans hx164_2
                replace p164 := eq_true p164
                replace q164 := eq_true q164
                go_wp2_with (first | ((with_reducible refine z24 (N := 6) rfl ?_); (try (refine z32 (by rfl) ?_; dsimp only)); refine z23 ?hg (N := 6) ?hd (cs := #[.int .i64 0, .int .i64 0, .int .i64 0]) (t := 94) ?hr ?_; (case hd => rfl); (case hg => rfl); (case hr => first | (go_simp; done) | (go_simp; rfl)); intro gb165 hg w78 hbox hb; have n0_ := mkA (blk_below (g := gb160) (o := .cells #[.int .i64 a0_0, .slice A0_1 l0_1.length c0_1, .slice (some ad164) l0_2.length c0_2] 25 (0, 0)) (by (with_reducible repeat (first | refine z17 ?_ _)); exact BK160.out) hb); have n1_ := mkA (z16 (by repeat (with_reducible first | exact HB.out | apply z10 | apply z11 | apply z13 | refine z15 ?_ GE160.out)) hb); have n2_ := mkA (hbox); have n3_ := mkA ((by rw [hg]; exact (z18 (by repeat (with_reducible first | exact HB.out | apply z10 | apply z11 | apply z13 | refine z15 ?_ GE160.out))) : w.heap.size ≤ gb165)); have n4_ := mkA ((by rw [hg]; exact (z18 (by repeat (with_reducible first | exact HB.out | apply z10 | apply z11 | apply z13 | refine z15 ?_ GE160.out))) : w.heap.size ≤ gb165)); have n5_ := mkA ((by rw [hg]; exact Nat.ne_of_lt (blk_lt (g := gb160) (o := .cells #[.int .i64 a0_0, .slice A0_1 l0_1.length c0_1, .slice (some ad164) l0_2.length c0_2] 25 (0, 0)) (by (with_reducible repeat (first | refine z17 ?_ _)); exact BK160.out)) : gb160 ≠ gb165)); have n6_ := mkA ((by rw [hg]; exact Nat.ne_of_gt (blk_lt (g := gb160) (o := .cells #[.int .i64 a0_0, .slice A0_1 l0_1.length c0_1, .slice (some ad164) l0_2.length c0_2] 25 (0, 0)) (by (with_reducible repeat (first | refine z17 ?_ _)); exact BK160.out)) : gb165 ≠ gb160)); clear BK160; clear HB; have BK160 := n0_; have HB := n1_; have BK165 := n2_; have GW165 := n3_; have GE165 := n4_; have NB160_165 := n5_; have NB165_160 := n6_; clear n0_ n1_ n2_ n3_ n4_ n5_ n6_; clear hb hbox hg; have hnb79 := NB165_160.out; have hnc79 := NB160_165.out; have hcz80_0 : w78.cell? ⟨gb165, 0, none⟩ = some (.int .i64 0) := (z12 BK165.out 0).trans rfl; have hcz80_1 : w78.cell? ⟨gb165, 1, none⟩ = some (.int .i64 0) := (z12 BK165.out 1).trans rfl; have hcz80_2 : w78.cell? ⟨gb165, 2, none⟩ = some (.int .i64 0) := (z12 BK165.out 2).trans rfl; have hfz80_0 := z14 BK165.out 0; have hfz80_1 := z14 BK165.out 1; have hfz80_2 := z14 BK165.out 2; have hcz81_0 : w78.cell? ⟨gb160, 0, none⟩ = some (.int .i64 a0_0) := (z12 BK160.out 0).trans rfl; have hcz81_1 : w78.cell? ⟨gb160, 1, none⟩ = some (.slice A0_1 l0_1.length c0_1) := (z12 BK160.out 1).trans rfl; have hcz81_2 : w78.cell? ⟨gb160, 2, none⟩ = some (.slice (some ad164) l0_2.length c0_2) := (z12 BK160.out 2).trans rfl; have hfz81_0 := z14 BK160.out 0; have hfz81_1 := z14 BK160.out 1; have hfz81_2 := z14 BK160.out 2) | ((with_reducible refine z25 (f := 59) rfl ?_); refine goesL_ (some 82) rfl rfl Try.func59 (by kernel_rfl) rfl #[.int .i64 ((rd_T94 l0_2 x5_3).f0), .int .i64 0, .int .i64 (wrap64 (a0_0 - 1))] rfl (by (try simp only [List.map_toArray, List.map_cons, List.map_nil]); first | done | rfl | (simp only [List.length_drop, List.length_take]; rfl)) ?_; (with_reducible refine (pr_In.calls ((rd_T94 l0_2 x5_3).f0) 0 (wrap64 (a0_0 - 1)) true _ A57.out).mono ?_); rintro e w' ⟨rfl, ⟨nd, rfl⟩⟩; refine ⟨_, rfl, ?_⟩))
                go_roundg k3
                case measure => have := HJ1.out; have := HK2.out; have := HK3.out; omega
                case rel => exact ⟨(wrap64 (x5_3 + 1)), (by first | rfl | (simp; done) | (simp [*]; done)), H', ⟨by have := HJ1.out; have := HK2.out; have := HK3.out; omega⟩, ⟨by (with_reducible repeat (first | refine z17 ?_ _)); refine blk_far ?_ NB160_165.out _; (with_reducible repeat (first | refine z17 ?_ _)); refine blk_far ?_ NB160_165.out _; (with_reducible repeat (first | refine z17 ?_ _)); refine blk_far ?_ NB160_165.out _; (with_reducible repeat (first | refine z17 ?_ _)); exact BK160.out⟩, ⟨by repeat (with_reducible first | exact HB.out | apply z10 | apply z11 | apply z13 | refine z15 ?_ GE160.out | refine z15 ?_ GE165.out)⟩⟩
            ·replace c58 := Bool.eq_false_iff.mpr c58
             subst c58
             have H1 : (some 1) = some r := by rw [if_neg (show ¬ (false = true) by decide)] at H; exact H
             clear H
             have H := H1
             clear H1
             obtain rfl := Option.some.inj H
             have hcz82_0 : wr.cell? ⟨gb160, 0, none⟩ = some (.int .i64 a0_0) := (z12 BK160.out 0).trans rfl
             have hcz82_1 : wr.cell? ⟨gb160, 1, none⟩ = some (.slice A0_1 l0_1.length c0_1) := (z12 BK160.out 1).trans rfl
             have hcz82_2 : wr.cell? ⟨gb160, 2, none⟩ = some (.slice A0_2 l0_2.length c0_2) := (z12 BK160.out 2).trans rfl
             have hfz82_0 := z14 BK160.out 0
             have hfz82_1 := z14 BK160.out 1
             have hfz82_2 := z14 BK160.out 2
             have p164 : 0 ≤ (x5_3 : Int) := of_decide_eq_true (by first | (with_reducible assumption) | assumption)
             have q164 : x5_3 < (l0_2.length : Int) := of_decide_eq_true (by first | (with_reducible assumption) | assumption)
             obtain ⟨ad164, e164, hx164_0, hx164_1, hx164_2⟩ := at_T94 HR0_2.out x5_3 p164 q164
             cases e164
             replace hx164_0 := (HB.out.cell (World.block_lt_of_cell? w _ hx164_0)).trans hx164_0
             replace hx164_1 := (HB.out.cell (World.block_lt_of_cell? w _ hx164_1)).trans hx164_1
             replace hx164_2 := (HB.out.cell (World.block_lt_of_cell? w _ hx164_2)).trans hx164_2
             replace p164 := eq_true p164
             replace q164 := eq_true q164
             go_wp2_with (first | ((with_reducible refine z24 (N := 6) rfl ?_); (try (refine z32 (by rfl) ?_; dsimp only)); refine z23 ?hg (N := 6) ?hd (cs := #[.int .i64 0, .int .i64 0, .int .i64 0]) (t := 94) ?hr ?_; (case hd => rfl); (case hg => rfl); (case hr => first | (go_simp; done) | (go_simp; rfl)); intro gb165 hg w83 hbox hb; have n0_ := mkA (blk_below (g := gb160) (o := .cells #[.int .i64 a0_0, .slice A0_1 l0_1.length c0_1, .slice (some ad164) l0_2.length c0_2] 25 (0, 0)) (by (with_reducible repeat (first | refine z17 ?_ _)); exact BK160.out) hb); have n1_ := mkA (z16 (by repeat (with_reducible first | exact HB.out | apply z10 | apply z11 | apply z13 | refine z15 ?_ GE160.out)) hb); have n2_ := mkA (hbox); have n3_ := mkA ((by rw [hg]; exact (z18 (by repeat (with_reducible first | exact HB.out | apply z10 | apply z11 | apply z13 | refine z15 ?_ GE160.out))) : w.heap.size ≤ gb165)); have n4_ := mkA ((by rw [hg]; exact (z18 (by repeat (with_reducible first | exact HB.out | apply z10 | apply z11 | apply z13 | refine z15 ?_ GE160.out))) : w.heap.size ≤ gb165)); have n5_ := mkA ((by rw [hg]; exact Nat.ne_of_lt (blk_lt (g := gb160) (o := .cells #[.int .i64 a0_0, .slice A0_1 l0_1.length c0_1, .slice (some ad164) l0_2.length c0_2] 25 (0, 0)) (by (with_reducible repeat (first | refine z17 ?_ _)); exact BK160.out)) : gb160 ≠ gb165)); have n6_ := mkA ((by rw [hg]; exact Nat.ne_of_gt (blk_lt (g := gb160) (o := .cells #[.int .i64 a0_0, .slice A0_1 l0_1.length c0_1, .slice (some ad164) l0_2.length c0_2] 25 (0, 0)) (by (with_reducible repeat (first | refine z17 ?_ _)); exact BK160.out)) : gb165 ≠ gb160)); clear BK160; clear HB; have BK160 := n0_; have HB := n1_; have BK165 := n2_; have GW165 := n3_; have GE165 := n4_; have NB160_165 := n5_; have NB165_160 := n6_; clear n0_ n1_ n2_ n3_ n4_ n5_ n6_; clear hb hbox hg; have hnb84 := NB165_160.out; have hnc84 := NB160_165.out; have hcz85_0 : w83.cell? ⟨gb165, 0, none⟩ = some (.int .i64 0) := (z12 BK165.out 0).trans rfl; have hcz85_1 : w83.cell? ⟨gb165, 1, none⟩ = some (.int .i64 0) := (z12 BK165.out 1).trans rfl; have hcz85_2 : w83.cell? ⟨gb165, 2, none⟩ = some (.int .i64 0) := (z12 BK165.out 2).trans rfl; have hfz85_0 := z14 BK165.out 0; have hfz85_1 := z14 BK165.out 1; have hfz85_2 := z14 BK165.out 2; have hcz86_0 : w83.cell? ⟨gb160, 0, none⟩ = some (.int .i64 a0_0) := (z12 BK160.out 0).trans rfl; have hcz86_1 : w83.cell? ⟨gb160, 1, none⟩ = some (.slice A0_1 l0_1.length c0_1) := (z12 BK160.out 1).trans rfl; have hcz86_2 : w83.cell? ⟨gb160, 2, none⟩ = some (.slice (some ad164) l0_2.length c0_2) := (z12 BK160.out 2).trans rfl; have hfz86_0 := z14 BK160.out 0; have hfz86_1 := z14 BK160.out 1; have hfz86_2 := z14 BK160.out 2) | ((with_reducible refine z25 (f := 59) rfl ?_); refine goesL_ (some 82) rfl rfl Try.func59 (by kernel_rfl) rfl #[.int .i64 ((rd_T94 l0_2 x5_3).f0), .int .i64 0, .int .i64 (wrap64 (a0_0 - 1))] rfl (by (try simp only [List.map_toArray, List.map_cons, List.map_nil]); first | done | rfl | (simp only [List.length_drop, List.length_take]; rfl)) ?_; (with_reducible refine (pr_In.calls ((rd_T94 l0_2 x5_3).f0) 0 (wrap64 (a0_0 - 1)) false _ A57.out).mono ?_); rintro e w' ⟨rfl, ⟨nd, rfl⟩⟩; refine ⟨_, rfl, ?_⟩))
             go_ret
             exact ⟨by first | rfl | (simp [z21, z20] <;> rfl) | (simp [*, z21, z20] <;> rfl), by repeat (with_reducible first | exact HB.out | apply z10 | apply z11 | apply z13 | refine z15 ?_ GE160.out | refine z15 ?_ GE165.out)⟩
           ·rw [if_neg c56] at H
            exact absurd H (by simp)
          ·rw [if_neg c55] at H
           have c55b0 : decide (x5_3 < (l0_2.length : Int)) = false := decide_eq_false c55
           clear c55
           replace H := Option.bind_eq_some_iff.mp H
           obtain ⟨t167, A870, H⟩ := H
           replace H : (if t167 > 2000 then (some 3) else (some 0)) = some r := H
           have A87 := mkA A870
           clear A870
           by_cases c88 : t167 > 2000
           ·rw [if_pos c88] at H
            have c88b0 : decide (2000 < t167) = true := decide_eq_true c88
            clear c88
            obtain rfl := Option.some.inj H
            have hcz89_0 : wr.cell? ⟨gb160, 0, none⟩ = some (.int .i64 a0_0) := (z12 BK160.out 0).trans rfl
            have hcz89_1 : wr.cell? ⟨gb160, 1, none⟩ = some (.slice A0_1 l0_1.length c0_1) := (z12 BK160.out 1).trans rfl
            have hcz89_2 : wr.cell? ⟨gb160, 2, none⟩ = some (.slice A0_2 l0_2.length c0_2) := (z12 BK160.out 2).trans rfl
            have hfz89_0 := z14 BK160.out 0
            have hfz89_1 := z14 BK160.out 1
            have hfz89_2 := z14 BK160.out 2
            go_wp2_with ((with_reducible refine z25 (f := 47) rfl ?_); refine goesL_ (some 106) rfl rfl Try.func47 (by kernel_rfl) rfl #[.agg #[.int .i64 a0_0, .slice A0_1 l0_1.length c0_1, .slice A0_2 l0_2.length c0_2]] rfl (by (try simp only [List.map_toArray, List.map_cons, List.map_nil]); first | done | rfl | (simp only [List.length_drop, List.length_take]; rfl)) ?_; (with_reducible refine (pr_Many.calls k3 a0_0 _ _ l0_1 _ _ l0_2 t167 _ ?side1 ?side2 ?side3 ?side4 A87.out).mono ?_); (case side1 => repeat (first | exact (Kd.C_below HR0_1.out HB.out))); (case side2 => exact HC0_1.out); (case side3 => repeat (first | exact (Kd.C_below HR0_2.out HB.out))); (case side4 => exact HC0_2.out); rintro e w90 ⟨rfl, hb⟩; refine ⟨_, rfl, ?_⟩; have n0_ := mkA (blk_below (g := gb160) (o := .cells #[.int .i64 a0_0, .slice A0_1 l0_1.length c0_1, .slice A0_2 l0_2.length c0_2] 25 (0, 0)) (by (with_reducible repeat (first | refine z17 ?_ _)); exact BK160.out) hb); have n1_ := mkA (z16 (by repeat (with_reducible first | exact HB.out | apply z10 | apply z11 | apply z13 | refine z15 ?_ GE160.out)) hb); clear BK160; clear HB; have BK160 := n0_; have HB := n1_; clear n0_ n1_; (try clear hb); (try clear hb2); (try clear hk); (try clear hi))
            go_ret
            exact ⟨by first | rfl | (simp [z21, z20] <;> rfl) | (simp [*, z21, z20] <;> rfl), by repeat (with_reducible first | exact HB.out | apply z10 | apply z11 | apply z13 | refine z15 ?_ GE160.out)⟩
           ·rw [if_neg c88] at H
            have c88b0 : decide (2000 < t167) = false := decide_eq_false c88
            clear c88
            obtain rfl := Option.some.inj H
            have hcz91_0 : wr.cell? ⟨gb160, 0, none⟩ = some (.int .i64 a0_0) := (z12 BK160.out 0).trans rfl
            have hcz91_1 : wr.cell? ⟨gb160, 1, none⟩ = some (.slice A0_1 l0_1.length c0_1) := (z12 BK160.out 1).trans rfl
            have hcz91_2 : wr.cell? ⟨gb160, 2, none⟩ = some (.slice A0_2 l0_2.length c0_2) := (z12 BK160.out 2).trans rfl
            have hfz91_0 := z14 BK160.out 0
            have hfz91_1 := z14 BK160.out 1
            have hfz91_2 := z14 BK160.out 2
            go_wp2_with ((with_reducible refine z25 (f := 47) rfl ?_); refine goesL_ (some 106) rfl rfl Try.func47 (by kernel_rfl) rfl #[.agg #[.int .i64 a0_0, .slice A0_1 l0_1.length c0_1, .slice A0_2 l0_2.length c0_2]] rfl (by (try simp only [List.map_toArray, List.map_cons, List.map_nil]); first | done | rfl | (simp only [List.length_drop, List.length_take]; rfl)) ?_; (with_reducible refine (pr_Many.calls k3 a0_0 _ _ l0_1 _ _ l0_2 t167 _ ?side1 ?side2 ?side3 ?side4 A87.out).mono ?_); (case side1 => repeat (first | exact (Kd.C_below HR0_1.out HB.out))); (case side2 => exact HC0_1.out); (case side3 => repeat (first | exact (Kd.C_below HR0_2.out HB.out))); (case side4 => exact HC0_2.out); rintro e w92 ⟨rfl, hb⟩; refine ⟨_, rfl, ?_⟩; have n0_ := mkA (blk_below (g := gb160) (o := .cells #[.int .i64 a0_0, .slice A0_1 l0_1.length c0_1, .slice A0_2 l0_2.length c0_2] 25 (0, 0)) (by (with_reducible repeat (first | refine z17 ?_ _)); exact BK160.out) hb); have n1_ := mkA (z16 (by repeat (with_reducible first | exact HB.out | apply z10 | apply z11 | apply z13 | refine z15 ?_ GE160.out)) hb); clear BK160; clear HB; have BK160 := n0_; have HB := n1_; clear n0_ n1_; (try clear hb); (try clear hb2); (try clear hk); (try clear hi))
            go_ret
            exact ⟨by first | rfl | (simp [z21, z20] <;> rfl) | (simp [*, z21, z20] <;> rfl), by repeat (with_reducible first | exact HB.out | apply z10 | apply z11 | apply z13 | refine z15 ?_ GE160.out)⟩
/-! ### pl_fault: function 31 -/
def pl_fault.f (k : Nat) (a0_0 : Int) (l0_1 : List (S91)) (l0_2 : List (S94)) : Option (Int) := (pr_Fault.f k a0_0 l0_1 l0_2).bind fun t169 => (some t169)
set_option maxHeartbeats 8000000 in
set_option maxRecDepth 100000 in
theorem pl_fault.calls (k : Nat) (a0_0 : Int) (A0_1 : Option Addr) (c0_1 : Nat) (l0_1 : List (S91)) (A0_2 : Option Addr) (c0_2 : Nat) (l0_2 : List (S94)) (r : Int) (w : World) (hr0_1 : Kd.C k91 w A0_1 l0_1.length l0_1) (hc0_1 : l0_1.length ≤ c0_1) (hr0_2 : Kd.C k94 w A0_2 l0_2.length l0_2) (hc0_2 : l0_2.length ≤ c0_2) (h : pl_fault.f k a0_0 l0_1 l0_2 = some r) :
  Calls Try.prog 31 #[.agg #[.int .i64 a0_0, .slice A0_1 l0_1.length c0_1, .slice A0_2 l0_2.length c0_2]] w fun e w' => e = .returned (.int .i64 r) ∧ Below w.heap.size w w' := by
 have hu25 := Try.underlying25
 have HR0_1 := mkA hr0_1
 have HC0_1 := mkA hc0_1
 clear hr0_1 hc0_1
 have HR0_2 := mkA hr0_2
 have HC0_2 := mkA hc0_2
 clear hr0_2 hc0_2
 have HB := mkA (Below.refl w.heap.size w)
 have H : ((pr_Fault.f k a0_0 l0_1 l0_2).bind fun t169 => (some t169)) = some r := h
 clear h
 replace H := Option.bind_eq_some_iff.mp H
 obtain ⟨t169, A20, H⟩ := H
 replace H : (some t169) = some r := H
 have A2 := mkA A20
 clear A20
 obtain rfl := Option.some.inj H
 go_enter Try.func31, Try.ntmps31
 go_wp2_with (first | ((with_reducible refine z24 (N := 1) rfl ?_); refine z23 ?hg (N := 1) ?hd (cs := #[.int .i64 a0_0, .slice A0_1 l0_1.length c0_1, .slice A0_2 l0_2.length c0_2]) (t := 25) ?hr ?_; (case hd => rfl); (case hg => rfl); (case hr => first | (go_simp; done) | (go_simp; rfl)); intro gb168 hg w3 hbox hb; have n0_ := mkA (z16 (by repeat (with_reducible first | exact HB.out | apply z10 | apply z11 | apply z13)) hb); have n1_ := mkA (hbox); have n2_ := mkA ((by rw [hg]; exact (z18 (by repeat (with_reducible first | exact HB.out | apply z10 | apply z11 | apply z13))) : w.heap.size ≤ gb168)); have n3_ := mkA ((by rw [hg]; exact (z18 (by repeat (with_reducible first | exact HB.out | apply z10 | apply z11 | apply z13))) : w.heap.size ≤ gb168)); clear HB; have HB := n0_; have BK168 := n1_; have GW168 := n2_; have GE168 := n3_; clear n0_ n1_ n2_ n3_; clear hb hbox hg; have hcz4_0 : w3.cell? ⟨gb168, 0, none⟩ = some (.int .i64 a0_0) := (z12 BK168.out 0).trans rfl; have hcz4_1 : w3.cell? ⟨gb168, 1, none⟩ = some (.slice A0_1 l0_1.length c0_1) := (z12 BK168.out 1).trans rfl; have hcz4_2 : w3.cell? ⟨gb168, 2, none⟩ = some (.slice A0_2 l0_2.length c0_2) := (z12 BK168.out 2).trans rfl; have hfz4_0 := z14 BK168.out 0; have hfz4_1 := z14 BK168.out 1; have hfz4_2 := z14 BK168.out 2) | ((with_reducible refine z25 (f := 80) rfl ?_); refine goesL_ (some 4) rfl rfl Try.func80 (by kernel_rfl) rfl #[.agg #[.int .i64 a0_0, .slice A0_1 l0_1.length c0_1, .slice A0_2 l0_2.length c0_2]] rfl (by (try simp only [List.map_toArray, List.map_cons, List.map_nil]); first | done | rfl | (simp only [List.length_drop, List.length_take]; rfl)) ?_; (with_reducible refine (pr_Fault.calls k a0_0 _ _ l0_1 _ _ l0_2 t169 _ ?side1 ?side2 ?side3 ?side4 A2.out).mono ?_); (case side1 => repeat (first | exact (Kd.C_below HR0_1.out HB.out))); (case side2 => exact HC0_1.out); (case side3 => repeat (first | exact (Kd.C_below HR0_2.out HB.out))); (case side4 => exact HC0_2.out); rintro e w5 ⟨rfl, hb⟩; refine ⟨_, rfl, ?_⟩; have n0_ := mkA (blk_below (g := gb168) (o := .cells #[.int .i64 a0_0, .slice A0_1 l0_1.length c0_1, .slice A0_2 l0_2.length c0_2] 25 (0, 0)) (by (with_reducible repeat (first | refine z17 ?_ _)); exact BK168.out) hb); have n1_ := mkA (z16 (by repeat (with_reducible first | exact HB.out | apply z10 | apply z11 | apply z13 | refine z15 ?_ GE168.out)) hb); clear BK168; clear HB; have BK168 := n0_; have HB := n1_; clear n0_ n1_; (try clear hb); (try clear hb2); (try clear hk); (try clear hi)))
 go_ret
 exact ⟨by first | rfl | (simp [z21, z20] <;> rfl) | (simp [*, z21, z20] <;> rfl), by repeat (with_reducible first | exact HB.out | apply z10 | apply z11 | apply z13 | refine z15 ?_ GE168.out)⟩
/-! ### pl_ready: function 45 -/
def pl_ready.f (k : Nat) (a0_0 : Int) (l0_1 : List (S91)) (l0_2 : List (S94)) : Option (Bool) := (pl_Thin.f a0_0 l0_1 l0_2).bind fun t424 => (if t424 = true then ((pl_fault.f k a0_0 l0_1 l0_2).bind fun t425 => (some (t425 == 0))) else (some false))
set_option maxHeartbeats 8000000 in
set_option maxRecDepth 100000 in
theorem pl_ready.calls (k : Nat) (a0_0 : Int) (A0_1 : Option Addr) (c0_1 : Nat) (l0_1 : List (S91)) (A0_2 : Option Addr) (c0_2 : Nat) (l0_2 : List (S94)) (r : Bool) (w : World) (hr0_1 : Kd.C k91 w A0_1 l0_1.length l0_1) (hc0_1 : l0_1.length ≤ c0_1) (hr0_2 : Kd.C k94 w A0_2 l0_2.length l0_2) (hc0_2 : l0_2.length ≤ c0_2) (h : pl_ready.f k a0_0 l0_1 l0_2 = some r) :
  Calls Try.prog 45 #[.agg #[.int .i64 a0_0, .slice A0_1 l0_1.length c0_1, .slice A0_2 l0_2.length c0_2]] w fun e w' => e = .returned (.bool r) ∧ Below w.heap.size w w' := by
 have hu25 := Try.underlying25
 have HR0_1 := mkA hr0_1
 have HC0_1 := mkA hc0_1
 clear hr0_1 hc0_1
 have HR0_2 := mkA hr0_2
 have HC0_2 := mkA hc0_2
 clear hr0_2 hc0_2
 have HB := mkA (Below.refl w.heap.size w)
 have H : ((pl_Thin.f a0_0 l0_1 l0_2).bind fun t424 => (if t424 = true then ((pl_fault.f k a0_0 l0_1 l0_2).bind fun t425 => (some (t425 == 0))) else (some false))) = some r := h
 clear h
 replace H := Option.bind_eq_some_iff.mp H
 obtain ⟨t424, A20, H⟩ := H
 replace H : (if t424 = true then ((pl_fault.f k a0_0 l0_1 l0_2).bind fun t425 => (some (t425 == 0))) else (some false)) = some r := H
 have A2 := mkA A20
 clear A20
 by_cases c3 : t424 = true
 ·subst c3
  have H1 : ((pl_fault.f k a0_0 l0_1 l0_2).bind fun t425 => (some (t425 == 0))) = some r := by rw [if_pos rfl] at H; exact H
  clear H
  have H := H1
  clear H1
  replace H := Option.bind_eq_some_iff.mp H
  obtain ⟨t425, A40, H⟩ := H
  replace H : (some (t425 == 0)) = some r := H
  have A4 := mkA A40
  clear A40
  obtain rfl := Option.some.inj H
  go_enter Try.func45, Try.ntmps45
  go_wp2_with (first | ((with_reducible refine z24 (N := 1) rfl ?_); refine z23 ?hg (N := 1) ?hd (cs := #[.int .i64 a0_0, .slice A0_1 l0_1.length c0_1, .slice A0_2 l0_2.length c0_2]) (t := 25) ?hr ?_; (case hd => rfl); (case hg => rfl); (case hr => first | (go_simp; done) | (go_simp; rfl)); intro gb423 hg w5 hbox hb; have n0_ := mkA (z16 (by repeat (first | (with_reducible first | exact HB.out | apply z10 | apply z11 | apply z13) | exact HB.out)) hb); have n1_ := mkA (hbox); have n2_ := mkA ((by rw [hg]; exact (z18 (by repeat (first | (with_reducible first | exact HB.out | apply z10 | apply z11 | apply z13) | exact HB.out))) : w.heap.size ≤ gb423)); have n3_ := mkA ((by rw [hg]; exact (z18 (by repeat (first | (with_reducible first | exact HB.out | apply z10 | apply z11 | apply z13) | exact HB.out))) : w.heap.size ≤ gb423)); clear HB; have HB := n0_; have BK423 := n1_; have GW423 := n2_; have GE423 := n3_; clear n0_ n1_ n2_ n3_; clear hb hbox hg; have hcz6_0 : w5.cell? ⟨gb423, 0, none⟩ = some (.int .i64 a0_0) := (z12 BK423.out 0).trans rfl; have hcz6_1 : w5.cell? ⟨gb423, 1, none⟩ = some (.slice A0_1 l0_1.length c0_1) := (z12 BK423.out 1).trans rfl; have hcz6_2 : w5.cell? ⟨gb423, 2, none⟩ = some (.slice A0_2 l0_2.length c0_2) := (z12 BK423.out 2).trans rfl; have hfz6_0 := z14 BK423.out 0; have hfz6_1 := z14 BK423.out 1; have hfz6_2 := z14 BK423.out 2) | ((with_reducible refine z25 (f := 20) rfl ?_); refine goesL_ (some 4) rfl rfl Try.func20 (by kernel_rfl) rfl #[.agg #[.int .i64 a0_0, .slice A0_1 l0_1.length c0_1, .slice A0_2 l0_2.length c0_2]] rfl (by (try simp only [List.map_toArray, List.map_cons, List.map_nil]); first | done | rfl | (simp only [List.length_drop, List.length_take]; rfl)) ?_; (with_reducible refine (pl_Thin.calls a0_0 _ _ l0_1 _ _ l0_2 true _ ?side1 ?side2 ?side3 ?side4 A2.out).mono ?_); (case side1 => repeat (first | exact (Kd.C_below HR0_1.out HB.out) | (with_reducible refine Kd.C_alloc ?_ _) | (with_reducible refine Kd.C_drewN ?_ _) | (with_reducible refine Kd.C_drew ?_))); (case side2 => exact HC0_1.out); (case side3 => repeat (first | exact (Kd.C_below HR0_2.out HB.out) | (with_reducible refine Kd.C_alloc ?_ _) | (with_reducible refine Kd.C_drewN ?_ _) | (with_reducible refine Kd.C_drew ?_))); (case side4 => exact HC0_2.out); rintro e w7 ⟨rfl, hb⟩; refine ⟨_, rfl, ?_⟩; have n0_ := mkA (blk_below (g := gb423) (o := .cells #[.int .i64 a0_0, .slice A0_1 l0_1.length c0_1, .slice A0_2 l0_2.length c0_2] 25 (0, 0)) (by (with_reducible repeat (first | refine z17 ?_ _ | refine z40 ?_ | refine z33 ?_ _)); exact BK423.out) hb); have n1_ := mkA (z16 (by repeat (first | (with_reducible first | exact HB.out | apply z10 | apply z11 | apply z13 | refine z15 ?_ GE423.out) | exact HB.out)) hb); clear BK423; clear HB; have BK423 := n0_; have HB := n1_; clear n0_ n1_; (try clear hb); (try clear hb2); (try clear hk); (try clear hi); have hcz8_0 : w7.cell? ⟨gb423, 0, none⟩ = some (.int .i64 a0_0) := (z12 BK423.out 0).trans rfl; have hcz8_1 : w7.cell? ⟨gb423, 1, none⟩ = some (.slice A0_1 l0_1.length c0_1) := (z12 BK423.out 1).trans rfl; have hcz8_2 : w7.cell? ⟨gb423, 2, none⟩ = some (.slice A0_2 l0_2.length c0_2) := (z12 BK423.out 2).trans rfl; have hfz8_0 := z14 BK423.out 0; have hfz8_1 := z14 BK423.out 1; have hfz8_2 := z14 BK423.out 2) | (go_at_call 31; (with_reducible refine (pl_fault.calls k a0_0 _ _ l0_1 _ _ l0_2 t425 _ ?side1 ?side2 ?side3 ?side4 A4.out).mono ?_); (case side1 => repeat (first | exact (Kd.C_below HR0_1.out HB.out) | (with_reducible refine Kd.C_alloc ?_ _) | (with_reducible refine Kd.C_drewN ?_ _) | (with_reducible refine Kd.C_drew ?_))); (case side2 => exact HC0_1.out); (case side3 => repeat (first | exact (Kd.C_below HR0_2.out HB.out) | (with_reducible refine Kd.C_alloc ?_ _) | (with_reducible refine Kd.C_drewN ?_ _) | (with_reducible refine Kd.C_drew ?_))); (case side4 => exact HC0_2.out); rintro e w9 ⟨rfl, hb⟩; have n0_ := mkA (blk_below (g := gb423) (o := .cells #[.int .i64 a0_0, .slice A0_1 l0_1.length c0_1, .slice A0_2 l0_2.length c0_2] 25 (0, 0)) (by (with_reducible repeat (first | refine z17 ?_ _ | refine z40 ?_ | refine z33 ?_ _)); exact BK423.out) hb); have n1_ := mkA (z16 (by repeat (first | (with_reducible first | exact HB.out | apply z10 | apply z11 | apply z13 | refine z15 ?_ GE423.out) | exact HB.out)) hb); clear BK423; clear HB; have BK423 := n0_; have HB := n1_; clear n0_ n1_; (try clear hb); (try clear hb2); (try clear hk); (try clear hi)))
  go_ret
  exact ⟨by first | rfl | (simp [z21, z20] <;> rfl) | (simp [*, z21, z20] <;> rfl), by repeat (first | (with_reducible first | exact HB.out | apply z10 | apply z11 | apply z13 | refine z15 ?_ GE423.out) | exact HB.out)⟩
 ·replace c3 := Bool.eq_false_iff.mpr c3
  subst c3
  have H1 : (some false) = some r := by rw [if_neg (show ¬ (false = true) by decide)] at H; exact H
  clear H
  have H := H1
  clear H1
  obtain rfl := Option.some.inj H
  go_enter Try.func45, Try.ntmps45
  go_wp2_with (first | ((with_reducible refine z24 (N := 1) rfl ?_); refine z23 ?hg (N := 1) ?hd (cs := #[.int .i64 a0_0, .slice A0_1 l0_1.length c0_1, .slice A0_2 l0_2.length c0_2]) (t := 25) ?hr ?_; (case hd => rfl); (case hg => rfl); (case hr => first | (go_simp; done) | (go_simp; rfl)); intro gb423 hg w10 hbox hb; have n0_ := mkA (z16 (by repeat (first | (with_reducible first | exact HB.out | apply z10 | apply z11 | apply z13) | exact HB.out)) hb); have n1_ := mkA (hbox); have n2_ := mkA ((by rw [hg]; exact (z18 (by repeat (first | (with_reducible first | exact HB.out | apply z10 | apply z11 | apply z13) | exact HB.out))) : w.heap.size ≤ gb423)); have n3_ := mkA ((by rw [hg]; exact (z18 (by repeat (first | (with_reducible first | exact HB.out | apply z10 | apply z11 | apply z13) | exact HB.out))) : w.heap.size ≤ gb423)); clear HB; have HB := n0_; have BK423 := n1_; have GW423 := n2_; have GE423 := n3_; clear n0_ n1_ n2_ n3_; clear hb hbox hg; have hcz11_0 : w10.cell? ⟨gb423, 0, none⟩ = some (.int .i64 a0_0) := (z12 BK423.out 0).trans rfl; have hcz11_1 : w10.cell? ⟨gb423, 1, none⟩ = some (.slice A0_1 l0_1.length c0_1) := (z12 BK423.out 1).trans rfl; have hcz11_2 : w10.cell? ⟨gb423, 2, none⟩ = some (.slice A0_2 l0_2.length c0_2) := (z12 BK423.out 2).trans rfl; have hfz11_0 := z14 BK423.out 0; have hfz11_1 := z14 BK423.out 1; have hfz11_2 := z14 BK423.out 2) | ((with_reducible refine z25 (f := 20) rfl ?_); refine goesL_ (some 4) rfl rfl Try.func20 (by kernel_rfl) rfl #[.agg #[.int .i64 a0_0, .slice A0_1 l0_1.length c0_1, .slice A0_2 l0_2.length c0_2]] rfl (by (try simp only [List.map_toArray, List.map_cons, List.map_nil]); first | done | rfl | (simp only [List.length_drop, List.length_take]; rfl)) ?_; (with_reducible refine (pl_Thin.calls a0_0 _ _ l0_1 _ _ l0_2 false _ ?side1 ?side2 ?side3 ?side4 A2.out).mono ?_); (case side1 => repeat (first | exact (Kd.C_below HR0_1.out HB.out) | (with_reducible refine Kd.C_alloc ?_ _) | (with_reducible refine Kd.C_drewN ?_ _) | (with_reducible refine Kd.C_drew ?_))); (case side2 => exact HC0_1.out); (case side3 => repeat (first | exact (Kd.C_below HR0_2.out HB.out) | (with_reducible refine Kd.C_alloc ?_ _) | (with_reducible refine Kd.C_drewN ?_ _) | (with_reducible refine Kd.C_drew ?_))); (case side4 => exact HC0_2.out); rintro e w12 ⟨rfl, hb⟩; refine ⟨_, rfl, ?_⟩; have n0_ := mkA (blk_below (g := gb423) (o := .cells #[.int .i64 a0_0, .slice A0_1 l0_1.length c0_1, .slice A0_2 l0_2.length c0_2] 25 (0, 0)) (by (with_reducible repeat (first | refine z17 ?_ _ | refine z40 ?_ | refine z33 ?_ _)); exact BK423.out) hb); have n1_ := mkA (z16 (by repeat (first | (with_reducible first | exact HB.out | apply z10 | apply z11 | apply z13 | refine z15 ?_ GE423.out) | exact HB.out)) hb); clear BK423; clear HB; have BK423 := n0_; have HB := n1_; clear n0_ n1_; (try clear hb); (try clear hb2); (try clear hk); (try clear hi)))
  go_ret
  exact ⟨by first | rfl | (simp [z21, z20] <;> rfl) | (simp [*, z21, z20] <;> rfl), by repeat (first | (with_reducible first | exact HB.out | apply z10 | apply z11 | apply z13 | refine z15 ?_ GE423.out) | exact HB.out)⟩
end Go.Proofs.Ytncaadckehikpaa.Q
