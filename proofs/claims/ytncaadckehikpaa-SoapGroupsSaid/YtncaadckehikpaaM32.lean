/- A part of the proof: contracts of functions and plain facts (Q16). No condition. -/
import Derived.Test.YtncaadckehikpaaM3
import Derived.Test.YtncaadckehikpaaM13
import Derived.Test.YtncaadckehikpaaM22
import Derived.Test.YtncaadckehikpaaM23
namespace Go.Proofs.Ytncaadckehikpaa.Q
open Go.RowKit Go.Proofs.YtncaadckehikpaaW.PrintWords Go.Proofs.YtncaadckehikpaaW.PrintLast Go.Proofs.YtncaadckehikpaaW.PrintMore
attribute [local go_sem] z35 z34 max_two min_two   -- for this text's walks alone
set_option linter.unusedVariables false
set_option linter.unusedSimpArgs false
/-! ### pr_AreGroups: function 36 -/
mutual
def pr_AreGroups.l0 : Nat → List Int → List (List Int) → Int → Int → Int → List (S91) → List (S94) → Option (Bool)
 | 0, _, _, _, _, _, _, _ => none
 | k + 1, x1, x2, x7, x8, x287000, x287001, x287002 => if x8 < (x2.length : Int) then (pr_AreGroups.l1 k x1 x2 x7 x8 0 0 x287000 x287001 x287002) else (some (x7 == 0))
def pr_AreGroups.l1 : Nat → List Int → List (List Int) → Int → Int → Int → Int → Int → List (S91) → List (S94) → Option (Bool)
 | 0, _, _, _, _, _, _, _, _, _ => none
 | k + 1, x1, x2, x7, x8, x9, x10, x287000, x287001, x287002 => if 0 ≤ x8 then (if x8 < (x2.length : Int) then (if x10 < ((rd_L4 x2 x8).length : Int) then (if 0 ≤ x10 then ((pr_In.f (rd (rd_L4 x2 x8) x10) 0 (wrap64 (x287000 - 1))).bind fun t291 => (if t291 = true then (if x10 > 0 then (if 0 ≤ (wrap64 (x10 - 1)) then (if (wrap64 (x10 - 1)) < ((rd_L4 x2 x8).length : Int) then (if (rd (rd_L4 x2 x8) x10) ≤ (rd (rd_L4 x2 x8) (wrap64 (x10 - 1))) then (some false) else (if 0 ≤ (IntKind.u64.wrap (rd (rd_L4 x2 x8) x10)) then (if (Go.bits .and .i64 x7 (shl .i64 1 (IntKind.u64.wrap (rd (rd_L4 x2 x8) x10)))) = 0 then (some false) else (pr_AreGroups.l1 k x1 x2 x7 x8 (Go.bits .or .i64 x9 (shl .i64 1 (IntKind.u64.wrap (rd (rd_L4 x2 x8) x10)))) (wrap64 (x10 + 1)) x287000 x287001 x287002)) else (none))) else (none)) else (none)) else (if 0 ≤ (IntKind.u64.wrap (rd (rd_L4 x2 x8) x10)) then (if (Go.bits .and .i64 x7 (shl .i64 1 (IntKind.u64.wrap (rd (rd_L4 x2 x8) x10)))) = 0 then (some false) else (pr_AreGroups.l1 k x1 x2 x7 x8 (Go.bits .or .i64 x9 (shl .i64 1 (IntKind.u64.wrap (rd (rd_L4 x2 x8) x10)))) (wrap64 (x10 + 1)) x287000 x287001 x287002)) else (none))) else (some false))) else (none)) else (if x9 = 0 then (some false) else ((pr_Together.f k x287000 x287001 x287002 x1 x9).bind fun t294 => (if t294 = 0 then (pr_AreGroups.l0 k x1 x2 (Go.bits .andNot .i64 x7 x9) (wrap64 (x8 + 1)) x287000 x287001 x287002) else (some false))))) else (none)) else (none)
end
def pr_AreGroups.f (k : Nat) (a0_0 : Int) (l0_1 : List (S91)) (l0_2 : List (S94)) (l1 : List Int) (l2 : List (List Int)) : Option (Bool) := (pr_Open.f k a0_0 l0_1 l0_2 l1).bind fun t287 => (pr_AreGroups.l0 k l1 l2 t287 0 a0_0 l0_1 l0_2)
set_option maxHeartbeats 8000000 in
set_option maxRecDepth 100000 in
theorem pr_AreGroups.calls (k : Nat) (a0_0 : Int) (A0_1 : Option Addr) (c0_1 : Nat) (l0_1 : List (S91)) (A0_2 : Option Addr) (c0_2 : Nat) (l0_2 : List (S94)) (A1 : Option Addr) (c1 : Nat) (l1 : List Int) (A2 : Option Addr) (c2 : Nat) (l2 : List (List Int)) (r : Bool) (w : World) (hr0_1 : Kd.C k91 w A0_1 l0_1.length l0_1) (hc0_1 : l0_1.length ≤ c0_1) (hr0_2 : Kd.C k94 w A0_2 l0_2.length l0_2) (hc0_2 : l0_2.length ≤ c0_2) (hr1 : Kd.C (Kd.int .i64) w A1 l1.length l1) (hc1 : l1.length ≤ c1) (hr2 : Kd.C (Kd.slice 3 (Kd.int .i64)) w A2 l2.length l2) (hc2 : l2.length ≤ c2) (h : pr_AreGroups.f k a0_0 l0_1 l0_2 l1 l2 = some r) :
  Calls Try.prog 36 #[.agg #[.int .i64 a0_0, .slice A0_1 l0_1.length c0_1, .slice A0_2 l0_2.length c0_2], .slice A1 l1.length c1, .slice A2 l2.length c2] w fun e w' => e = .returned (.bool r) ∧ Below w.heap.size w w' := by
 have hu25 := Try.underlying25
 have HR0_1 := mkA hr0_1
 have HC0_1 := mkA hc0_1
 clear hr0_1 hc0_1
 have HR0_2 := mkA hr0_2
 have HC0_2 := mkA hc0_2
 clear hr0_2 hc0_2
 have HR1 := mkA hr1
 have HC1 := mkA hc1
 clear hr1 hc1
 have HR2 := mkA hr2
 have HC2 := mkA hc2
 clear hr2 hc2
 have HB := mkA (Below.refl w.heap.size w)
 have H : ((pr_Open.f k a0_0 l0_1 l0_2 l1).bind fun t287 => (pr_AreGroups.l0 k l1 l2 t287 0 a0_0 l0_1 l0_2)) = some r := h
 clear h
 replace H := Option.bind_eq_some_iff.mp H
 obtain ⟨t287, A40, H⟩ := H
 replace H : (pr_AreGroups.l0 k l1 l2 t287 0 a0_0 l0_1 l0_2) = some r := H
 have A4 := mkA A40
 clear A40
 have H' := mkA H
 clear H
 go_enter Try.func36, Try.ntmps36
 go_wp2_with (first | ((with_reducible refine z26 (N := 3) rfl ?_); refine z24 ?hg (N := 3) ?hd (cs := #[.int .i64 a0_0, .slice A0_1 l0_1.length c0_1, .slice A0_2 l0_2.length c0_2]) (t := 25) ?hr ?_; (case hd => rfl); (case hg => rfl); (case hr => first | (go_simp; done) | (go_simp; rfl)); intro gb286 hg w5 hbox hb; have n0_ := mkA (z17 (by repeat (first | (with_reducible first | exact HB.out | apply z11 | apply z10 | apply z12) | exact HB.out)) hb); have n1_ := mkA (hbox); have n2_ := mkA ((by rw [hg]; exact (z18 (by repeat (first | (with_reducible first | exact HB.out | apply z11 | apply z10 | apply z12) | exact HB.out))) : w.heap.size ≤ gb286)); have n3_ := mkA ((by rw [hg]; exact (z18 (by repeat (first | (with_reducible first | exact HB.out | apply z11 | apply z10 | apply z12) | exact HB.out))) : w.heap.size ≤ gb286)); clear HB; have HB := n0_; have BK286 := n1_; have GW286 := n2_; have GE286 := n3_; clear n0_ n1_ n2_ n3_; clear hb hbox hg; have hcz6_0 : w5.cell? ⟨gb286, 0, none⟩ = some (.int .i64 a0_0) := (z13 BK286.out 0).trans rfl; have hcz6_1 : w5.cell? ⟨gb286, 1, none⟩ = some (.slice A0_1 l0_1.length c0_1) := (z13 BK286.out 1).trans rfl; have hcz6_2 : w5.cell? ⟨gb286, 2, none⟩ = some (.slice A0_2 l0_2.length c0_2) := (z13 BK286.out 2).trans rfl; have hfz6_0 := z14 BK286.out 0; have hfz6_1 := z14 BK286.out 1; have hfz6_2 := z14 BK286.out 2) | ((with_reducible refine z23 (f := 34) rfl ?_); refine goesL_ (some 14) rfl rfl Try.func34 (by kernel_rfl) rfl #[.agg #[.int .i64 a0_0, .slice A0_1 l0_1.length c0_1, .slice A0_2 l0_2.length c0_2], .slice A1 l1.length c1] rfl (by (try simp only [List.map_toArray, List.map_cons, List.map_nil]); first | done | rfl | (simp only [List.length_drop, List.length_take]; rfl)) ?_; (with_reducible refine (pr_Open.calls k a0_0 _ _ l0_1 _ _ l0_2 _ _ l1 t287 _ ?side1 ?side2 ?side3 ?side4 ?side5 ?side6 A4.out).mono ?_); (case side1 => repeat (first | exact (Kd.C_below HR0_1.out HB.out) | (with_reducible refine Kd.C_alloc ?_ _) | (with_reducible refine Kd.C_drewN ?_ _) | (with_reducible refine Kd.C_drew ?_))); (case side2 => exact HC0_1.out); (case side3 => repeat (first | exact (Kd.C_below HR0_2.out HB.out) | (with_reducible refine Kd.C_alloc ?_ _) | (with_reducible refine Kd.C_drewN ?_ _) | (with_reducible refine Kd.C_drew ?_))); (case side4 => exact HC0_2.out); (case side5 => repeat (first | exact (Kd.C_below HR1.out HB.out) | (with_reducible refine Kd.C_alloc ?_ _) | (with_reducible refine Kd.C_drewN ?_ _) | (with_reducible refine Kd.C_drew ?_))); (case side6 => exact HC1.out); rintro e w7 ⟨rfl, hb⟩; refine ⟨_, rfl, ?_⟩; have n0_ := mkA (blk_below (g := gb286) (o := .cells #[.int .i64 a0_0, .slice A0_1 l0_1.length c0_1, .slice A0_2 l0_2.length c0_2] 25 (0, 0)) (by (with_reducible repeat (first | refine z16 ?_ _ | refine z25 ?_ | refine z22 ?_ _)); exact BK286.out) hb); have n1_ := mkA (z17 (by repeat (first | (with_reducible first | exact HB.out | apply z11 | apply z10 | apply z12 | refine z15 ?_ GE286.out) | exact HB.out)) hb); clear BK286; clear HB; have BK286 := n0_; have HB := n1_; clear n0_ n1_; (try clear hb); (try clear hb2); (try clear hk); (try clear hi)))
 go_loopg [7, 8] k (fun kq v7 v8 w' => ∃ (x7_1 : Int) (x8_1 : Int), v7 = .int .i64 x7_1 ∧ v8 = .int .i64 x8_1 ∧ Aside0 (pr_AreGroups.l0 kq l1 l2 x7_1 x8_1 a0_0 l0_1 l0_2 = some r) ∧ Aside0 (kq ≤ k) ∧ Aside0 (w'.heap[gb286]? = some (.cells #[.int .i64 a0_0, (.slice A0_1 l0_1.length c0_1), (.slice A0_2 l0_2.length c0_2)] 25 (0, 0))) ∧ Aside0 (Below w.heap.size w w'))
 case atStart => exact ⟨(t287), (0), (by first | rfl | (simp; done) | (simp [*]; done)), (by first | rfl | (simp; done) | (simp [*]; done)), H', ⟨Nat.le_refl _⟩, ⟨by (with_reducible repeat (first | refine z16 ?_ _ | refine z25 ?_ | refine z22 ?_ _)); exact BK286.out⟩, ⟨by repeat (first | (with_reducible first | exact HB.out | apply z11 | apply z10 | apply z12 | refine z15 ?_ GE286.out) | exact HB.out)⟩⟩
 case round =>
  clear H'
  try clear c1
  try clear c2
  try clear p2
  try clear c3
  try clear hcz6_0
  try clear hcz6_1
  try clear hcz6_2
  try clear hfz6_0
  try clear hfz6_1
  try clear hfz6_2
  obtain ⟨x7_1, x8_1, rfl, rfl, HA, HK1, BK286, HB⟩ := hrel
  cases gk with
  | zero => exact absurd HA.out (by simp [pr_AreGroups.l0])
  | succ k1 =>
   have H := HA.out
   clear HA
   simp only [pr_AreGroups.l0] at H
   by_cases c8 : x8_1 < (l2.length : Int)
   ·rw [if_pos c8] at H
    have c8b0 : decide (x8_1 < (l2.length : Int)) = true := decide_eq_true c8
    clear c8
    have H' := mkA H
    clear H
    go_wp2
    go_loopg [9, 10] k1 (fun kq v9 v10 w' => ∃ (x9_2 : Int) (x10_2 : Int), v9 = .int .i64 x9_2 ∧ v10 = .int .i64 x10_2 ∧ Aside0 (pr_AreGroups.l1 kq l1 l2 x7_1 x8_1 x9_2 x10_2 a0_0 l0_1 l0_2 = some r) ∧ Aside0 (kq ≤ k1) ∧ Aside0 (w'.heap[gb286]? = some (.cells #[.int .i64 a0_0, (.slice A0_1 l0_1.length c0_1), (.slice A0_2 l0_2.length c0_2)] 25 (0, 0))) ∧ Aside0 (Below w.heap.size w w'))
    case atStart => exact ⟨(0), (0), (by first | rfl | (simp; done) | (simp [*]; done)), (by first | rfl | (simp; done) | (simp [*]; done)), H', ⟨Nat.le_refl _⟩, ⟨by (with_reducible repeat (first | refine z16 ?_ _ | refine z25 ?_ | refine z22 ?_ _)); exact BK286.out⟩, ⟨by repeat (first | (with_reducible first | exact HB.out | apply z11 | apply z10 | apply z12 | refine z15 ?_ GE286.out) | exact HB.out)⟩⟩
    case round =>
     clear H'
     try clear c1
     try clear c2
     try clear p2
     try clear c3
     try clear c8
     try clear c8b0
     try clear hcz6_0
     try clear hcz6_1
     try clear hcz6_2
     try clear hfz6_0
     try clear hfz6_1
     try clear hfz6_2
     try clear p2
     obtain ⟨x9_2, x10_2, rfl, rfl, HA, HK2, BK286, HB⟩ := hrel
     cases gk with
     | zero => exact absurd HA.out (by simp [pr_AreGroups.l1])
     | succ k2 =>
      have H := HA.out
      clear HA
      simp only [pr_AreGroups.l1] at H
      by_cases c9 : 0 ≤ x8_1
      ·rw [if_pos c9] at H
       have c9b0 : decide (0 ≤ x8_1) = true := decide_eq_true c9
       clear c9
       by_cases c10 : x8_1 < (l2.length : Int)
       ·rw [if_pos c10] at H
        have c10b0 : decide (x8_1 < (l2.length : Int)) = true := decide_eq_true c10
        clear c10
        by_cases c11 : x10_2 < ((rd_L4 l2 x8_1).length : Int)
        ·rw [if_pos c11] at H
         have c11b0 : decide (x10_2 < ((rd_L4 l2 x8_1).length : Int)) = true := decide_eq_true c11
         clear c11
         by_cases c12 : 0 ≤ x10_2
         ·rw [if_pos c12] at H
          have c12b0 : decide (0 ≤ x10_2) = true := decide_eq_true c12
          clear c12
          replace H := Option.bind_eq_some_iff.mp H
          obtain ⟨t291, A130, H⟩ := H
          replace H : (if t291 = true then (if x10_2 > 0 then (if 0 ≤ (wrap64 (x10_2 - 1)) then (if (wrap64 (x10_2 - 1)) < ((rd_L4 l2 x8_1).length : Int) then (if (rd (rd_L4 l2 x8_1) x10_2) ≤ (rd (rd_L4 l2 x8_1) (wrap64 (x10_2 - 1))) then (some false) else (if 0 ≤ (IntKind.u64.wrap (rd (rd_L4 l2 x8_1) x10_2)) then (if (Go.bits .and .i64 x7_1 (shl .i64 1 (IntKind.u64.wrap (rd (rd_L4 l2 x8_1) x10_2)))) = 0 then (some false) else (pr_AreGroups.l1 k2 l1 l2 x7_1 x8_1 (Go.bits .or .i64 x9_2 (shl .i64 1 (IntKind.u64.wrap (rd (rd_L4 l2 x8_1) x10_2)))) (wrap64 (x10_2 + 1)) a0_0 l0_1 l0_2)) else (none))) else (none)) else (none)) else (if 0 ≤ (IntKind.u64.wrap (rd (rd_L4 l2 x8_1) x10_2)) then (if (Go.bits .and .i64 x7_1 (shl .i64 1 (IntKind.u64.wrap (rd (rd_L4 l2 x8_1) x10_2)))) = 0 then (some false) else (pr_AreGroups.l1 k2 l1 l2 x7_1 x8_1 (Go.bits .or .i64 x9_2 (shl .i64 1 (IntKind.u64.wrap (rd (rd_L4 l2 x8_1) x10_2)))) (wrap64 (x10_2 + 1)) a0_0 l0_1 l0_2)) else (none))) else (some false)) = some r := H
          have A13 := mkA A130
          clear A130
          by_cases c14 : t291 = true
          ·subst c14
           have H1 : (if x10_2 > 0 then (if 0 ≤ (wrap64 (x10_2 - 1)) then (if (wrap64 (x10_2 - 1)) < ((rd_L4 l2 x8_1).length : Int) then (if (rd (rd_L4 l2 x8_1) x10_2) ≤ (rd (rd_L4 l2 x8_1) (wrap64 (x10_2 - 1))) then (some false) else (if 0 ≤ (IntKind.u64.wrap (rd (rd_L4 l2 x8_1) x10_2)) then (if (Go.bits .and .i64 x7_1 (shl .i64 1 (IntKind.u64.wrap (rd (rd_L4 l2 x8_1) x10_2)))) = 0 then (some false) else (pr_AreGroups.l1 k2 l1 l2 x7_1 x8_1 (Go.bits .or .i64 x9_2 (shl .i64 1 (IntKind.u64.wrap (rd (rd_L4 l2 x8_1) x10_2)))) (wrap64 (x10_2 + 1)) a0_0 l0_1 l0_2)) else (none))) else (none)) else (none)) else (if 0 ≤ (IntKind.u64.wrap (rd (rd_L4 l2 x8_1) x10_2)) then (if (Go.bits .and .i64 x7_1 (shl .i64 1 (IntKind.u64.wrap (rd (rd_L4 l2 x8_1) x10_2)))) = 0 then (some false) else (pr_AreGroups.l1 k2 l1 l2 x7_1 x8_1 (Go.bits .or .i64 x9_2 (shl .i64 1 (IntKind.u64.wrap (rd (rd_L4 l2 x8_1) x10_2)))) (wrap64 (x10_2 + 1)) a0_0 l0_1 l0_2)) else (none))) = some r := by rw [if_pos rfl] at H; exact H
           clear H
           have H := H1
           clear H1
           by_cases c15 : x10_2 > 0
           ·rw [if_pos c15] at H
            have c15b0 : decide (0 < x10_2) = true := decide_eq_true c15
            clear c15
            obtain ⟨ji16, hji16⟩ : ∃ j_ : Int, (wrap64 (x10_2 - 1)) = j_ := ⟨_, rfl⟩
            replace H : (if 0 ≤ (ji16) then (if (ji16) < ((rd_L4 l2 x8_1).length : Int) then (if (rd (rd_L4 l2 x8_1) x10_2) ≤ (rd (rd_L4 l2 x8_1) (ji16)) then (some false) else (if 0 ≤ (IntKind.u64.wrap (rd (rd_L4 l2 x8_1) x10_2)) then (if (Go.bits .and .i64 x7_1 (shl .i64 1 (IntKind.u64.wrap (rd (rd_L4 l2 x8_1) x10_2)))) = 0 then (some false) else (pr_AreGroups.l1 k2 l1 l2 x7_1 x8_1 (Go.bits .or .i64 x9_2 (shl .i64 1 (IntKind.u64.wrap (rd (rd_L4 l2 x8_1) x10_2)))) (wrap64 (x10_2 + 1)) a0_0 l0_1 l0_2)) else (none))) else (none)) else (none)) = some r := by first | (rw [hji16] at H; exact H) | (simp only [hji16] at H ⊢; exact H)
            (try rw [hji16] at A13)
            have hji16w : (IntKind.i64.wrap (x10_2 - 1)) = ji16 := (i64_w _).trans hji16
            by_cases c17 : 0 ≤ (ji16)
            ·rw [if_pos c17] at H
             have c17b0 : decide (0 ≤ (ji16)) = true := decide_eq_true c17
             clear c17
             by_cases c18 : (ji16) < ((rd_L4 l2 x8_1).length : Int)
             ·rw [if_pos c18] at H
              have c18b0 : decide ((ji16) < ((rd_L4 l2 x8_1).length : Int)) = true := decide_eq_true c18
              clear c18
              by_cases c19 : (rd (rd_L4 l2 x8_1) x10_2) ≤ (rd (rd_L4 l2 x8_1) (ji16))
              ·rw [if_pos c19] at H
               have c19b0 : decide ((rd (rd_L4 l2 x8_1) x10_2) ≤ (rd (rd_L4 l2 x8_1) (ji16))) = true := decide_eq_true c19
               clear c19
               obtain rfl := Option.some.inj H
               have p288 : 0 ≤ (x8_1 : Int) := of_decide_eq_true (by first | (with_reducible assumption) | assumption)
               have q288 : x8_1 < (l2.length : Int) := of_decide_eq_true (by first | (with_reducible assumption) | assumption)
               obtain ⟨ad288, A288_0, c288_0, e288, hx288_0, hl288_0, hi288_0⟩ := at_L4 HR2.out x8_1 p288 q288
               cases e288
               replace hx288_0 := (HB.out.cell (World.block_lt_of_cell? w _ hx288_0)).trans hx288_0
               have HR288_0 := mkA hi288_0
               have HC288_0 := mkA hl288_0
               clear hi288_0 hl288_0
               replace p288 := eq_true p288
               replace q288 := eq_true q288
               have p289 : 0 ≤ (x8_1 : Int) := of_decide_eq_true (by first | (with_reducible assumption) | assumption)
               have q289 : x8_1 < (l2.length : Int) := of_decide_eq_true (by first | (with_reducible assumption) | assumption)
               obtain ⟨ad289, A289_0, c289_0, e289, hx289_0, hl289_0, hi289_0⟩ := at_L4 HR2.out x8_1 p289 q289
               obtain rfl : ad288 = ad289 := (by injection e289)
               replace hx289_0 := (HB.out.cell (World.block_lt_of_cell? w _ hx289_0)).trans hx289_0
               have HR289_0 := mkA hi289_0
               have HC289_0 := mkA hl289_0
               clear hi289_0 hl289_0
               replace p289 := eq_true p289
               replace q289 := eq_true q289
               have ea_ := Option.some.inj (hx288_0.symm.trans hx289_0)
               injection ea_ with ea_ en_ ec_
               subst ea_
               subst ec_
               clear en_
               have p290 : 0 ≤ (x10_2 : Int) := of_decide_eq_true (by first | (with_reducible assumption) | assumption)
               have q290 : x10_2 < ((rd_L4 l2 x8_1).length : Int) := of_decide_eq_true (by first | (with_reducible assumption) | assumption)
               obtain ⟨ad290, e290, hx290_0⟩ := Kd.at_int HR289_0.out x10_2 p290 q290
               cases e290
               replace hx290_0 := (HB.out.cell (World.block_lt_of_cell? w _ hx290_0)).trans hx290_0
               replace p290 := eq_true p290
               replace q290 := eq_true q290
               have hcz20_0 : wr.cell? ⟨gb286, 0, none⟩ = some (.int .i64 a0_0) := (z13 BK286.out 0).trans rfl
               have hcz20_1 : wr.cell? ⟨gb286, 1, none⟩ = some (.slice A0_1 l0_1.length c0_1) := (z13 BK286.out 1).trans rfl
               have hcz20_2 : wr.cell? ⟨gb286, 2, none⟩ = some (.slice A0_2 l0_2.length c0_2) := (z13 BK286.out 2).trans rfl
               have hfz20_0 := z14 BK286.out 0
               have hfz20_1 := z14 BK286.out 1
               have hfz20_2 := z14 BK286.out 2
               go_wp2_with (first | ((with_reducible refine z23 (f := 59) rfl ?_); refine goesL_ (some 41) rfl rfl Try.func59 (by kernel_rfl) rfl #[.int .i64 (rd (rd_L4 l2 x8_1) x10_2), .int .i64 0, .int .i64 (wrap64 (a0_0 - 1))] rfl (by (try simp only [List.map_toArray, List.map_cons, List.map_nil]); first | done | rfl | (simp only [List.length_drop, List.length_take]; rfl)) ?_; (with_reducible refine (pr_In.calls (rd (rd_L4 l2 x8_1) x10_2) 0 (wrap64 (a0_0 - 1)) true _ A13.out).mono ?_); rintro e w' ⟨rfl, ⟨nd, rfl⟩⟩; refine ⟨_, rfl, ?_⟩; have p292 : 0 ≤ (x8_1 : Int) := of_decide_eq_true (by first | (with_reducible assumption) | assumption); have q292 : x8_1 < (l2.length : Int) := of_decide_eq_true (by first | (with_reducible assumption) | assumption); obtain ⟨ad292, A292_0, c292_0, e292, hx292_0, hl292_0, hi292_0⟩ := at_L4 HR2.out x8_1 p292 q292; obtain rfl : ad288 = ad292 := (by injection e292); replace hx292_0 := (HB.out.cell (World.block_lt_of_cell? w _ hx292_0)).trans hx292_0; have HR292_0 := mkA hi292_0; have HC292_0 := mkA hl292_0; clear hi292_0 hl292_0; replace p292 := eq_true p292; replace q292 := eq_true q292; have ea_ := Option.some.inj (hx288_0.symm.trans hx292_0); injection ea_ with ea_ en_ ec_; subst ea_; subst ec_; clear en_; have p293 : 0 ≤ ((ji16) : Int) := of_decide_eq_true (by first | (with_reducible assumption) | assumption); have q293 : (ji16) < ((rd_L4 l2 x8_1).length : Int) := of_decide_eq_true (by first | (with_reducible assumption) | assumption); obtain ⟨ad293, e293, hx293_0⟩ := Kd.at_int HR292_0.out (ji16) p293 q293; cases e293; replace hx293_0 := (HB.out.cell (World.block_lt_of_cell? w _ hx293_0)).trans hx293_0; replace p293 := eq_true p293; replace q293 := eq_true q293))
               go_ret
               exact ⟨by first | rfl | (simp [z20, z19] <;> rfl) | (simp only [← hji16]; first | rfl | (simp [z20, z19] <;> rfl)) | (simp [*, z20, z19] <;> rfl), by repeat (first | (with_reducible first | exact HB.out | apply z11 | apply z10 | apply z12 | refine z15 ?_ GE286.out) | exact HB.out)⟩
              ·rw [if_neg c19] at H
               have c19b0 : decide ((rd (rd_L4 l2 x8_1) x10_2) ≤ (rd (rd_L4 l2 x8_1) (ji16))) = false := decide_eq_false c19
               clear c19
               obtain ⟨ji21, hji21⟩ : ∃ j_ : Int, (IntKind.u64.wrap (rd (rd_L4 l2 x8_1) x10_2)) = j_ := ⟨_, rfl⟩
               replace H : (if 0 ≤ (ji21) then (if (Go.bits .and .i64 x7_1 (shl .i64 1 (ji21))) = 0 then (some false) else (pr_AreGroups.l1 k2 l1 l2 x7_1 x8_1 (Go.bits .or .i64 x9_2 (shl .i64 1 (ji21))) (wrap64 (x10_2 + 1)) a0_0 l0_1 l0_2)) else (none)) = some r := by first | (rw [hji21] at H; exact H) | (simp only [hji21] at H ⊢; exact H)
               (try rw [hji21] at A13)
               by_cases c22 : 0 ≤ (ji21)
               ·rw [if_pos c22] at H
                have c22b0 := eq_true c22
                have c22b1 : decide (0 ≤ (ji21)) = true := decide_eq_true c22
                clear c22
                obtain ⟨ji23, hji23⟩ : ∃ j_ : Int, (shl .i64 1 (ji21)) = j_ := ⟨_, rfl⟩
                replace H : (if (Go.bits .and .i64 x7_1 (ji23)) = 0 then (some false) else (pr_AreGroups.l1 k2 l1 l2 x7_1 x8_1 (Go.bits .or .i64 x9_2 (ji23)) (wrap64 (x10_2 + 1)) a0_0 l0_1 l0_2)) = some r := by first | (rw [hji23] at H; exact H) | (simp only [hji23] at H ⊢; exact H)
                (try rw [hji23] at A13)
                have hji23_ : (IntKind.i64.wrap (1 * 2 ^ min (ji21).toNat 64)) = ji23 := hji23
                have hji23z : (ji21) ≤ 64 → (IntKind.i64.wrap (1 * 2 ^ (ji21).toNat)) = ji23 := shl_small hji23
                have hji23u : (IntKind.i64.wrap (2 ^ min (ji21).toNat 64)) = ji23 := by have h_ := hji23_; rw [Int.one_mul] at h_; exact h_
                have hji23v : (ji21) ≤ 64 → (IntKind.i64.wrap (2 ^ (ji21).toNat)) = ji23 := fun hle_ => by have h_ := hji23z hle_; rw [Int.one_mul] at h_; exact h_
                have hji23y : (wrap64 (1 * 2 ^ min (ji21).toNat 64)) = ji23 := (i64_w _).symm.trans hji23_
                have hji23x : (ji21) ≤ 64 → (wrap64 (1 * 2 ^ (ji21).toNat)) = ji23 := fun h_ => (i64_w _).symm.trans (hji23z h_)
                by_cases c24 : (Go.bits .and .i64 x7_1 (ji23)) = 0
                ·rw [if_pos c24] at H
                 have c24b0 : ((Go.bits .and .i64 x7_1 (ji23)) == 0) = true := beq_iff_eq.mpr c24
                 have c24b1 : ((Go.bits .and .i64 x7_1 (ji23)) != 0) = false := bne_eq_false_iff_eq.mpr c24
                 clear c24
                 obtain rfl := Option.some.inj H
                 have p288 : 0 ≤ (x8_1 : Int) := of_decide_eq_true (by first | (with_reducible assumption) | assumption)
                 have q288 : x8_1 < (l2.length : Int) := of_decide_eq_true (by first | (with_reducible assumption) | assumption)
                 obtain ⟨ad288, A288_0, c288_0, e288, hx288_0, hl288_0, hi288_0⟩ := at_L4 HR2.out x8_1 p288 q288
                 cases e288
                 replace hx288_0 := (HB.out.cell (World.block_lt_of_cell? w _ hx288_0)).trans hx288_0
                 have HR288_0 := mkA hi288_0
                 have HC288_0 := mkA hl288_0
                 clear hi288_0 hl288_0
                 replace p288 := eq_true p288
                 replace q288 := eq_true q288
                 have p289 : 0 ≤ (x8_1 : Int) := of_decide_eq_true (by first | (with_reducible assumption) | assumption)
                 have q289 : x8_1 < (l2.length : Int) := of_decide_eq_true (by first | (with_reducible assumption) | assumption)
                 obtain ⟨ad289, A289_0, c289_0, e289, hx289_0, hl289_0, hi289_0⟩ := at_L4 HR2.out x8_1 p289 q289
                 obtain rfl : ad288 = ad289 := (by injection e289)
                 replace hx289_0 := (HB.out.cell (World.block_lt_of_cell? w _ hx289_0)).trans hx289_0
                 have HR289_0 := mkA hi289_0
                 have HC289_0 := mkA hl289_0
                 clear hi289_0 hl289_0
                 replace p289 := eq_true p289
                 replace q289 := eq_true q289
                 have ea_ := Option.some.inj (hx288_0.symm.trans hx289_0)
                 injection ea_ with ea_ en_ ec_
                 subst ea_
                 subst ec_
                 clear en_
                 have p290 : 0 ≤ (x10_2 : Int) := of_decide_eq_true (by first | (with_reducible assumption) | assumption)
                 have q290 : x10_2 < ((rd_L4 l2 x8_1).length : Int) := of_decide_eq_true (by first | (with_reducible assumption) | assumption)
                 obtain ⟨ad290, e290, hx290_0⟩ := Kd.at_int HR289_0.out x10_2 p290 q290
                 cases e290
                 replace hx290_0 := (HB.out.cell (World.block_lt_of_cell? w _ hx290_0)).trans hx290_0
                 replace p290 := eq_true p290
                 replace q290 := eq_true q290
                 have hcz25_0 : wr.cell? ⟨gb286, 0, none⟩ = some (.int .i64 a0_0) := (z13 BK286.out 0).trans rfl
                 have hcz25_1 : wr.cell? ⟨gb286, 1, none⟩ = some (.slice A0_1 l0_1.length c0_1) := (z13 BK286.out 1).trans rfl
                 have hcz25_2 : wr.cell? ⟨gb286, 2, none⟩ = some (.slice A0_2 l0_2.length c0_2) := (z13 BK286.out 2).trans rfl
                 have hfz25_0 := z14 BK286.out 0
                 have hfz25_1 := z14 BK286.out 1
                 have hfz25_2 := z14 BK286.out 2
                 go_wp2_with (first | ((with_reducible refine z23 (f := 59) rfl ?_); refine goesL_ (some 41) rfl rfl Try.func59 (by kernel_rfl) rfl #[.int .i64 (rd (rd_L4 l2 x8_1) x10_2), .int .i64 0, .int .i64 (wrap64 (a0_0 - 1))] rfl (by (try simp only [List.map_toArray, List.map_cons, List.map_nil]); first | done | rfl | (simp only [List.length_drop, List.length_take]; rfl)) ?_; (with_reducible refine (pr_In.calls (rd (rd_L4 l2 x8_1) x10_2) 0 (wrap64 (a0_0 - 1)) true _ A13.out).mono ?_); rintro e w' ⟨rfl, ⟨nd, rfl⟩⟩; refine ⟨_, rfl, ?_⟩; have p292 : 0 ≤ (x8_1 : Int) := of_decide_eq_true (by first | (with_reducible assumption) | assumption); have q292 : x8_1 < (l2.length : Int) := of_decide_eq_true (by first | (with_reducible assumption) | assumption); obtain ⟨ad292, A292_0, c292_0, e292, hx292_0, hl292_0, hi292_0⟩ := at_L4 HR2.out x8_1 p292 q292; obtain rfl : ad288 = ad292 := (by injection e292); replace hx292_0 := (HB.out.cell (World.block_lt_of_cell? w _ hx292_0)).trans hx292_0; have HR292_0 := mkA hi292_0; have HC292_0 := mkA hl292_0; clear hi292_0 hl292_0; replace p292 := eq_true p292; replace q292 := eq_true q292; have ea_ := Option.some.inj (hx288_0.symm.trans hx292_0); injection ea_ with ea_ en_ ec_; subst ea_; subst ec_; clear en_; have p293 : 0 ≤ ((ji16) : Int) := of_decide_eq_true (by first | (with_reducible assumption) | assumption); have q293 : (ji16) < ((rd_L4 l2 x8_1).length : Int) := of_decide_eq_true (by first | (with_reducible assumption) | assumption); obtain ⟨ad293, e293, hx293_0⟩ := Kd.at_int HR292_0.out (ji16) p293 q293; cases e293; replace hx293_0 := (HB.out.cell (World.block_lt_of_cell? w _ hx293_0)).trans hx293_0; replace p293 := eq_true p293; replace q293 := eq_true q293))
                 go_ret
                 exact ⟨by first | rfl | (simp [z20, z19] <;> rfl) | (simp only [← hji16, ← hji21, ← hji23]; first | rfl | (simp [z20, z19] <;> rfl)) | (simp [*, z20, z19] <;> rfl), by repeat (first | (with_reducible first | exact HB.out | apply z11 | apply z10 | apply z12 | refine z15 ?_ GE286.out) | exact HB.out)⟩
                ·rw [if_neg c24] at H
                 have c24b0 : ((Go.bits .and .i64 x7_1 (ji23)) == 0) = false := beq_eq_false_iff_ne.mpr c24
                 have c24b1 : ((Go.bits .and .i64 x7_1 (ji23)) != 0) = true := bne_iff_ne.mpr c24
                 have c26b0 := eq_true (of_decide_eq_true (by first | (with_reducible assumption) | assumption) : 0 ≤ (ji21))
                 have H' := mkA H
                 clear H
                 have p288 : 0 ≤ (x8_1 : Int) := of_decide_eq_true (by first | (with_reducible assumption) | assumption)
                 have q288 : x8_1 < (l2.length : Int) := of_decide_eq_true (by first | (with_reducible assumption) | assumption)
                 obtain ⟨ad288, A288_0, c288_0, e288, hx288_0, hl288_0, hi288_0⟩ := at_L4 HR2.out x8_1 p288 q288
                 cases e288
                 replace hx288_0 := (HB.out.cell (World.block_lt_of_cell? w _ hx288_0)).trans hx288_0
                 have HR288_0 := mkA hi288_0
                 have HC288_0 := mkA hl288_0
                 clear hi288_0 hl288_0
                 replace p288 := eq_true p288
                 replace q288 := eq_true q288
                 have p289 : 0 ≤ (x8_1 : Int) := of_decide_eq_true (by first | (with_reducible assumption) | assumption)
                 have q289 : x8_1 < (l2.length : Int) := of_decide_eq_true (by first | (with_reducible assumption) | assumption)
                 obtain ⟨ad289, A289_0, c289_0, e289, hx289_0, hl289_0, hi289_0⟩ := at_L4 HR2.out x8_1 p289 q289
                 obtain rfl : ad288 = ad289 := (by injection e289)
                 replace hx289_0 := (HB.out.cell (World.block_lt_of_cell? w _ hx289_0)).trans hx289_0
                 have HR289_0 := mkA hi289_0
                 have HC289_0 := mkA hl289_0
                 clear hi289_0 hl289_0
                 replace p289 := eq_true p289
                 replace q289 := eq_true q289
                 have ea_ := Option.some.inj (hx288_0.symm.trans hx289_0)
                 injection ea_ with ea_ en_ ec_
                 subst ea_
                 subst ec_
                 clear en_
                 have p290 : 0 ≤ (x10_2 : Int) := of_decide_eq_true (by first | (with_reducible assumption) | assumption)
                 have q290 : x10_2 < ((rd_L4 l2 x8_1).length : Int) := of_decide_eq_true (by first | (with_reducible assumption) | assumption)
                 obtain ⟨ad290, e290, hx290_0⟩ := Kd.at_int HR289_0.out x10_2 p290 q290
                 cases e290
                 replace hx290_0 := (HB.out.cell (World.block_lt_of_cell? w _ hx290_0)).trans hx290_0
                 replace p290 := eq_true p290
                 replace q290 := eq_true q290
                 have hcz28_0 : wr.cell? ⟨gb286, 0, none⟩ = some (.int .i64 a0_0) := (z13 BK286.out 0).trans rfl
                 have hcz28_1 : wr.cell? ⟨gb286, 1, none⟩ = some (.slice A0_1 l0_1.length c0_1) := (z13 BK286.out 1).trans rfl
                 have hcz28_2 : wr.cell? ⟨gb286, 2, none⟩ = some (.slice A0_2 l0_2.length c0_2) := (z13 BK286.out 2).trans rfl
                 have hfz28_0 := z14 BK286.out 0
                 have hfz28_1 := z14 BK286.out 1
                 have hfz28_2 := z14 BK286.out 2
                 go_wp2_with (first | ((with_reducible refine z23 (f := 59) rfl ?_); refine goesL_ (some 41) rfl rfl Try.func59 (by kernel_rfl) rfl #[.int .i64 (rd (rd_L4 l2 x8_1) x10_2), .int .i64 0, .int .i64 (wrap64 (a0_0 - 1))] rfl (by (try simp only [List.map_toArray, List.map_cons, List.map_nil]); first | done | rfl | (simp only [List.length_drop, List.length_take]; rfl)) ?_; (with_reducible refine (pr_In.calls (rd (rd_L4 l2 x8_1) x10_2) 0 (wrap64 (a0_0 - 1)) true _ A13.out).mono ?_); rintro e w' ⟨rfl, ⟨nd, rfl⟩⟩; refine ⟨_, rfl, ?_⟩; have p292 : 0 ≤ (x8_1 : Int) := of_decide_eq_true (by first | (with_reducible assumption) | assumption); have q292 : x8_1 < (l2.length : Int) := of_decide_eq_true (by first | (with_reducible assumption) | assumption); obtain ⟨ad292, A292_0, c292_0, e292, hx292_0, hl292_0, hi292_0⟩ := at_L4 HR2.out x8_1 p292 q292; obtain rfl : ad288 = ad292 := (by injection e292); replace hx292_0 := (HB.out.cell (World.block_lt_of_cell? w _ hx292_0)).trans hx292_0; have HR292_0 := mkA hi292_0; have HC292_0 := mkA hl292_0; clear hi292_0 hl292_0; replace p292 := eq_true p292; replace q292 := eq_true q292; have ea_ := Option.some.inj (hx288_0.symm.trans hx292_0); injection ea_ with ea_ en_ ec_; subst ea_; subst ec_; clear en_; have p293 : 0 ≤ ((ji16) : Int) := of_decide_eq_true (by first | (with_reducible assumption) | assumption); have q293 : (ji16) < ((rd_L4 l2 x8_1).length : Int) := of_decide_eq_true (by first | (with_reducible assumption) | assumption); obtain ⟨ad293, e293, hx293_0⟩ := Kd.at_int HR292_0.out (ji16) p293 q293; cases e293; replace hx293_0 := (HB.out.cell (World.block_lt_of_cell? w _ hx293_0)).trans hx293_0; replace p293 := eq_true p293; replace q293 := eq_true q293))
                 go_roundg k2
                 case measure => have := HK1.out; have := HK2.out; omega
                 case rel => exact ⟨(Go.bits .or .i64 x9_2 (ji23)), (wrap64 (x10_2 + 1)), (by first | rfl | (simp; done) | (simp only [← hji23] <;> (first | rfl | simp)) | (simp [*]; done)), (by first | rfl | (simp; done) | (simp [*]; done)), H', ⟨by have := HK1.out; have := HK2.out; omega⟩, ⟨by (with_reducible repeat (first | refine z16 ?_ _ | refine z25 ?_ | refine z22 ?_ _)); exact BK286.out⟩, ⟨by repeat (first | (with_reducible first | exact HB.out | apply z11 | apply z10 | apply z12 | refine z15 ?_ GE286.out) | exact HB.out)⟩⟩
               ·rw [if_neg c22] at H
                exact absurd H (by simp)
             ·rw [if_neg c18] at H
              exact absurd H (by simp)
            ·rw [if_neg c17] at H
             exact absurd H (by simp)
           ·rw [if_neg c15] at H
            have c15b0 : decide (0 < x10_2) = false := decide_eq_false c15
            clear c15
            obtain ⟨ji29, hji29⟩ : ∃ j_ : Int, (IntKind.u64.wrap (rd (rd_L4 l2 x8_1) x10_2)) = j_ := ⟨_, rfl⟩
            replace H : (if 0 ≤ (ji29) then (if (Go.bits .and .i64 x7_1 (shl .i64 1 (ji29))) = 0 then (some false) else (pr_AreGroups.l1 k2 l1 l2 x7_1 x8_1 (Go.bits .or .i64 x9_2 (shl .i64 1 (ji29))) (wrap64 (x10_2 + 1)) a0_0 l0_1 l0_2)) else (none)) = some r := by first | (rw [hji29] at H; exact H) | (simp only [hji29] at H ⊢; exact H)
            (try rw [hji29] at A13)
            by_cases c30 : 0 ≤ (ji29)
            ·rw [if_pos c30] at H
             have c30b0 := eq_true c30
             have c30b1 : decide (0 ≤ (ji29)) = true := decide_eq_true c30
             clear c30
             obtain ⟨ji31, hji31⟩ : ∃ j_ : Int, (shl .i64 1 (ji29)) = j_ := ⟨_, rfl⟩
             replace H : (if (Go.bits .and .i64 x7_1 (ji31)) = 0 then (some false) else (pr_AreGroups.l1 k2 l1 l2 x7_1 x8_1 (Go.bits .or .i64 x9_2 (ji31)) (wrap64 (x10_2 + 1)) a0_0 l0_1 l0_2)) = some r := by first | (rw [hji31] at H; exact H) | (simp only [hji31] at H ⊢; exact H)
             (try rw [hji31] at A13)
             have hji31_ : (IntKind.i64.wrap (1 * 2 ^ min (ji29).toNat 64)) = ji31 := hji31
             have hji31z : (ji29) ≤ 64 → (IntKind.i64.wrap (1 * 2 ^ (ji29).toNat)) = ji31 := shl_small hji31
             have hji31u : (IntKind.i64.wrap (2 ^ min (ji29).toNat 64)) = ji31 := by have h_ := hji31_; rw [Int.one_mul] at h_; exact h_
             have hji31v : (ji29) ≤ 64 → (IntKind.i64.wrap (2 ^ (ji29).toNat)) = ji31 := fun hle_ => by have h_ := hji31z hle_; rw [Int.one_mul] at h_; exact h_
             have hji31y : (wrap64 (1 * 2 ^ min (ji29).toNat 64)) = ji31 := (i64_w _).symm.trans hji31_
             have hji31x : (ji29) ≤ 64 → (wrap64 (1 * 2 ^ (ji29).toNat)) = ji31 := fun h_ => (i64_w _).symm.trans (hji31z h_)
             by_cases c32 : (Go.bits .and .i64 x7_1 (ji31)) = 0
             ·rw [if_pos c32] at H
              have c32b0 : ((Go.bits .and .i64 x7_1 (ji31)) == 0) = true := beq_iff_eq.mpr c32
              have c32b1 : ((Go.bits .and .i64 x7_1 (ji31)) != 0) = false := bne_eq_false_iff_eq.mpr c32
              clear c32
              obtain rfl := Option.some.inj H
              have p288 : 0 ≤ (x8_1 : Int) := of_decide_eq_true (by first | (with_reducible assumption) | assumption)
              have q288 : x8_1 < (l2.length : Int) := of_decide_eq_true (by first | (with_reducible assumption) | assumption)
              obtain ⟨ad288, A288_0, c288_0, e288, hx288_0, hl288_0, hi288_0⟩ := at_L4 HR2.out x8_1 p288 q288
              cases e288
              replace hx288_0 := (HB.out.cell (World.block_lt_of_cell? w _ hx288_0)).trans hx288_0
              have HR288_0 := mkA hi288_0
              have HC288_0 := mkA hl288_0
              clear hi288_0 hl288_0
              replace p288 := eq_true p288
              replace q288 := eq_true q288
              have p289 : 0 ≤ (x8_1 : Int) := of_decide_eq_true (by first | (with_reducible assumption) | assumption)
              have q289 : x8_1 < (l2.length : Int) := of_decide_eq_true (by first | (with_reducible assumption) | assumption)
              obtain ⟨ad289, A289_0, c289_0, e289, hx289_0, hl289_0, hi289_0⟩ := at_L4 HR2.out x8_1 p289 q289
              obtain rfl : ad288 = ad289 := (by injection e289)
              replace hx289_0 := (HB.out.cell (World.block_lt_of_cell? w _ hx289_0)).trans hx289_0
              have HR289_0 := mkA hi289_0
              have HC289_0 := mkA hl289_0
              clear hi289_0 hl289_0
              replace p289 := eq_true p289
              replace q289 := eq_true q289
              have ea_ := Option.some.inj (hx288_0.symm.trans hx289_0)
              injection ea_ with ea_ en_ ec_
              subst ea_
              subst ec_
              clear en_
              have p290 : 0 ≤ (x10_2 : Int) := of_decide_eq_true (by first | (with_reducible assumption) | assumption)
              have q290 : x10_2 < ((rd_L4 l2 x8_1).length : Int) := of_decide_eq_true (by first | (with_reducible assumption) | assumption)
              obtain ⟨ad290, e290, hx290_0⟩ := Kd.at_int HR289_0.out x10_2 p290 q290
              cases e290
              replace hx290_0 := (HB.out.cell (World.block_lt_of_cell? w _ hx290_0)).trans hx290_0
              replace p290 := eq_true p290
              replace q290 := eq_true q290
              have hcz33_0 : wr.cell? ⟨gb286, 0, none⟩ = some (.int .i64 a0_0) := (z13 BK286.out 0).trans rfl
              have hcz33_1 : wr.cell? ⟨gb286, 1, none⟩ = some (.slice A0_1 l0_1.length c0_1) := (z13 BK286.out 1).trans rfl
              have hcz33_2 : wr.cell? ⟨gb286, 2, none⟩ = some (.slice A0_2 l0_2.length c0_2) := (z13 BK286.out 2).trans rfl
              have hfz33_0 := z14 BK286.out 0
              have hfz33_1 := z14 BK286.out 1
              have hfz33_2 := z14 BK286.out 2
              go_wp2_with (first | ((with_reducible refine z23 (f := 59) rfl ?_); refine goesL_ (some 41) rfl rfl Try.func59 (by kernel_rfl) rfl #[.int .i64 (rd (rd_L4 l2 x8_1) x10_2), .int .i64 0, .int .i64 (wrap64 (a0_0 - 1))] rfl (by (try simp only [List.map_toArray, List.map_cons, List.map_nil]); first | done | rfl | (simp only [List.length_drop, List.length_take]; rfl)) ?_; (with_reducible refine (pr_In.calls (rd (rd_L4 l2 x8_1) x10_2) 0 (wrap64 (a0_0 - 1)) true _ A13.out).mono ?_); rintro e w' ⟨rfl, ⟨nd, rfl⟩⟩; refine ⟨_, rfl, ?_⟩))
              go_ret
              exact ⟨by first | rfl | (simp [z20, z19] <;> rfl) | (simp only [← hji29, ← hji31]; first | rfl | (simp [z20, z19] <;> rfl)) | (simp [*, z20, z19] <;> rfl), by repeat (first | (with_reducible first | exact HB.out | apply z11 | apply z10 | apply z12 | refine z15 ?_ GE286.out) | exact HB.out)⟩
             ·rw [if_neg c32] at H
              have c32b0 : ((Go.bits .and .i64 x7_1 (ji31)) == 0) = false := beq_eq_false_iff_ne.mpr c32
              have c32b1 : ((Go.bits .and .i64 x7_1 (ji31)) != 0) = true := bne_iff_ne.mpr c32
              have c34b0 := eq_true (of_decide_eq_true (by first | (with_reducible assumption) | assumption) : 0 ≤ (ji29))
              have H' := mkA H
              clear H
              have p288 : 0 ≤ (x8_1 : Int) := of_decide_eq_true (by first | (with_reducible assumption) | assumption)
              have q288 : x8_1 < (l2.length : Int) := of_decide_eq_true (by first | (with_reducible assumption) | assumption)
              obtain ⟨ad288, A288_0, c288_0, e288, hx288_0, hl288_0, hi288_0⟩ := at_L4 HR2.out x8_1 p288 q288
              cases e288
              replace hx288_0 := (HB.out.cell (World.block_lt_of_cell? w _ hx288_0)).trans hx288_0
              have HR288_0 := mkA hi288_0
              have HC288_0 := mkA hl288_0
              clear hi288_0 hl288_0
              replace p288 := eq_true p288
              replace q288 := eq_true q288
              have p289 : 0 ≤ (x8_1 : Int) := of_decide_eq_true (by first | (with_reducible assumption) | assumption)
              have q289 : x8_1 < (l2.length : Int) := of_decide_eq_true (by first | (with_reducible assumption) | assumption)
              obtain ⟨ad289, A289_0, c289_0, e289, hx289_0, hl289_0, hi289_0⟩ := at_L4 HR2.out x8_1 p289 q289
              obtain rfl : ad288 = ad289 := (by injection e289)
              replace hx289_0 := (HB.out.cell (World.block_lt_of_cell? w _ hx289_0)).trans hx289_0
              have HR289_0 := mkA hi289_0
              have HC289_0 := mkA hl289_0
              clear hi289_0 hl289_0
              replace p289 := eq_true p289
              replace q289 := eq_true q289
              have ea_ := Option.some.inj (hx288_0.symm.trans hx289_0)
              injection ea_ with ea_ en_ ec_
              subst ea_
              subst ec_
              clear en_
              have p290 : 0 ≤ (x10_2 : Int) := of_decide_eq_true (by first | (with_reducible assumption) | assumption)
              have q290 : x10_2 < ((rd_L4 l2 x8_1).length : Int) := of_decide_eq_true (by first | (with_reducible assumption) | assumption)
              obtain ⟨ad290, e290, hx290_0⟩ := Kd.at_int HR289_0.out x10_2 p290 q290
              cases e290
              replace hx290_0 := (HB.out.cell (World.block_lt_of_cell? w _ hx290_0)).trans hx290_0
              replace p290 := eq_true p290
              replace q290 := eq_true q290
              have hcz36_0 : wr.cell? ⟨gb286, 0, none⟩ = some (.int .i64 a0_0) := (z13 BK286.out 0).trans rfl
              have hcz36_1 : wr.cell? ⟨gb286, 1, none⟩ = some (.slice A0_1 l0_1.length c0_1) := (z13 BK286.out 1).trans rfl
              have hcz36_2 : wr.cell? ⟨gb286, 2, none⟩ = some (.slice A0_2 l0_2.length c0_2) := (z13 BK286.out 2).trans rfl
              have hfz36_0 := z14 BK286.out 0
              have hfz36_1 := z14 BK286.out 1
              have hfz36_2 := z14 BK286.out 2
              go_wp2_with (first | ((with_reducible refine z23 (f := 59) rfl ?_); refine goesL_ (some 41) rfl rfl Try.func59 (by kernel_rfl) rfl #[.int .i64 (rd (rd_L4 l2 x8_1) x10_2), .int .i64 0, .int .i64 (wrap64 (a0_0 - 1))] rfl (by (try simp only [List.map_toArray, List.map_cons, List.map_nil]); first | done | rfl | (simp only [List.length_drop, List.length_take]; rfl)) ?_; (with_reducible refine (pr_In.calls (rd (rd_L4 l2 x8_1) x10_2) 0 (wrap64 (a0_0 - 1)) true _ A13.out).mono ?_); rintro e w' ⟨rfl, ⟨nd, rfl⟩⟩; refine ⟨_, rfl, ?_⟩))
              go_roundg k2
              case measure => have := HK1.out; have := HK2.out; omega
              case rel => exact ⟨(Go.bits .or .i64 x9_2 (ji31)), (wrap64 (x10_2 + 1)), (by first | rfl | (simp; done) | (simp only [← hji31] <;> (first | rfl | simp)) | (simp [*]; done)), (by first | rfl | (simp; done) | (simp [*]; done)), H', ⟨by have := HK1.out; have := HK2.out; omega⟩, ⟨by (with_reducible repeat (first | refine z16 ?_ _ | refine z25 ?_ | refine z22 ?_ _)); exact BK286.out⟩, ⟨by repeat (first | (with_reducible first | exact HB.out | apply z11 | apply z10 | apply z12 | refine z15 ?_ GE286.out) | exact HB.out)⟩⟩
            ·rw [if_neg c30] at H
             exact absurd H (by simp)
          ·replace c14 := Bool.eq_false_iff.mpr c14
           subst c14
           have H1 : (some false) = some r := by rw [if_neg (show ¬ (false = true) by decide)] at H; exact H
           clear H
           have H := H1
           clear H1
           obtain rfl := Option.some.inj H
           have p288 : 0 ≤ (x8_1 : Int) := of_decide_eq_true (by first | (with_reducible assumption) | assumption)
           have q288 : x8_1 < (l2.length : Int) := of_decide_eq_true (by first | (with_reducible assumption) | assumption)
           obtain ⟨ad288, A288_0, c288_0, e288, hx288_0, hl288_0, hi288_0⟩ := at_L4 HR2.out x8_1 p288 q288
           cases e288
           replace hx288_0 := (HB.out.cell (World.block_lt_of_cell? w _ hx288_0)).trans hx288_0
           have HR288_0 := mkA hi288_0
           have HC288_0 := mkA hl288_0
           clear hi288_0 hl288_0
           replace p288 := eq_true p288
           replace q288 := eq_true q288
           have p289 : 0 ≤ (x8_1 : Int) := of_decide_eq_true (by first | (with_reducible assumption) | assumption)
           have q289 : x8_1 < (l2.length : Int) := of_decide_eq_true (by first | (with_reducible assumption) | assumption)
           obtain ⟨ad289, A289_0, c289_0, e289, hx289_0, hl289_0, hi289_0⟩ := at_L4 HR2.out x8_1 p289 q289
           obtain rfl : ad288 = ad289 := (by injection e289)
           replace hx289_0 := (HB.out.cell (World.block_lt_of_cell? w _ hx289_0)).trans hx289_0
           have HR289_0 := mkA hi289_0
           have HC289_0 := mkA hl289_0
           clear hi289_0 hl289_0
           replace p289 := eq_true p289
           replace q289 := eq_true q289
           have ea_ := Option.some.inj (hx288_0.symm.trans hx289_0)
           injection ea_ with ea_ en_ ec_
           subst ea_
           subst ec_
           clear en_
           have p290 : 0 ≤ (x10_2 : Int) := of_decide_eq_true (by first | (with_reducible assumption) | assumption)
           have q290 : x10_2 < ((rd_L4 l2 x8_1).length : Int) := of_decide_eq_true (by first | (with_reducible assumption) | assumption)
           obtain ⟨ad290, e290, hx290_0⟩ := Kd.at_int HR289_0.out x10_2 p290 q290
           cases e290
           replace hx290_0 := (HB.out.cell (World.block_lt_of_cell? w _ hx290_0)).trans hx290_0
           replace p290 := eq_true p290
           replace q290 := eq_true q290
           have hcz37_0 : wr.cell? ⟨gb286, 0, none⟩ = some (.int .i64 a0_0) := (z13 BK286.out 0).trans rfl
           have hcz37_1 : wr.cell? ⟨gb286, 1, none⟩ = some (.slice A0_1 l0_1.length c0_1) := (z13 BK286.out 1).trans rfl
           have hcz37_2 : wr.cell? ⟨gb286, 2, none⟩ = some (.slice A0_2 l0_2.length c0_2) := (z13 BK286.out 2).trans rfl
           have hfz37_0 := z14 BK286.out 0
           have hfz37_1 := z14 BK286.out 1
           have hfz37_2 := z14 BK286.out 2
           go_wp2_with (first | ((with_reducible refine z23 (f := 59) rfl ?_); refine goesL_ (some 41) rfl rfl Try.func59 (by kernel_rfl) rfl #[.int .i64 (rd (rd_L4 l2 x8_1) x10_2), .int .i64 0, .int .i64 (wrap64 (a0_0 - 1))] rfl (by (try simp only [List.map_toArray, List.map_cons, List.map_nil]); first | done | rfl | (simp only [List.length_drop, List.length_take]; rfl)) ?_; (with_reducible refine (pr_In.calls (rd (rd_L4 l2 x8_1) x10_2) 0 (wrap64 (a0_0 - 1)) false _ A13.out).mono ?_); rintro e w' ⟨rfl, ⟨nd, rfl⟩⟩; refine ⟨_, rfl, ?_⟩))
           go_ret
           exact ⟨by first | rfl | (simp [z20, z19] <;> rfl) | (simp [*, z20, z19] <;> rfl), by repeat (first | (with_reducible first | exact HB.out | apply z11 | apply z10 | apply z12 | refine z15 ?_ GE286.out) | exact HB.out)⟩
         ·rw [if_neg c12] at H
          exact absurd H (by simp)
        ·rw [if_neg c11] at H
         have c11b0 : decide (x10_2 < ((rd_L4 l2 x8_1).length : Int)) = false := decide_eq_false c11
         clear c11
         by_cases c38 : x9_2 = 0
         ·rw [if_pos c38] at H
          have c38b0 : (x9_2 == 0) = true := beq_iff_eq.mpr c38
          have c38b1 : (x9_2 != 0) = false := bne_eq_false_iff_eq.mpr c38
          clear c38
          obtain rfl := Option.some.inj H
          have p288 : 0 ≤ (x8_1 : Int) := of_decide_eq_true (by first | (with_reducible assumption) | assumption)
          have q288 : x8_1 < (l2.length : Int) := of_decide_eq_true (by first | (with_reducible assumption) | assumption)
          obtain ⟨ad288, A288_0, c288_0, e288, hx288_0, hl288_0, hi288_0⟩ := at_L4 HR2.out x8_1 p288 q288
          cases e288
          replace hx288_0 := (HB.out.cell (World.block_lt_of_cell? w _ hx288_0)).trans hx288_0
          have HR288_0 := mkA hi288_0
          have HC288_0 := mkA hl288_0
          clear hi288_0 hl288_0
          replace p288 := eq_true p288
          replace q288 := eq_true q288
          go_wp2
          go_ret
          exact ⟨by first | rfl | (simp [z20, z19] <;> rfl) | (simp [*, z20, z19] <;> rfl), by repeat (first | (with_reducible first | exact HB.out | apply z11 | apply z10 | apply z12 | refine z15 ?_ GE286.out) | exact HB.out)⟩
         ·rw [if_neg c38] at H
          have c38b0 : (x9_2 == 0) = false := beq_eq_false_iff_ne.mpr c38
          have c38b1 : (x9_2 != 0) = true := bne_iff_ne.mpr c38
          replace H := Option.bind_eq_some_iff.mp H
          obtain ⟨t294, A390, H⟩ := H
          replace H : (if t294 = 0 then (pr_AreGroups.l0 k2 l1 l2 (Go.bits .andNot .i64 x7_1 x9_2) (wrap64 (x8_1 + 1)) a0_0 l0_1 l0_2) else (some false)) = some r := H
          have A39 := mkA A390
          clear A390
          by_cases c40 : t294 = 0
          ·rw [if_pos c40] at H
           have c40b0 : (t294 == 0) = true := beq_iff_eq.mpr c40
           have c40b1 : (t294 != 0) = false := bne_eq_false_iff_eq.mpr c40
           clear c40
           have H' := mkA H
           clear H
           have p288 : 0 ≤ (x8_1 : Int) := of_decide_eq_true (by first | (with_reducible assumption) | assumption)
           have q288 : x8_1 < (l2.length : Int) := of_decide_eq_true (by first | (with_reducible assumption) | assumption)
           obtain ⟨ad288, A288_0, c288_0, e288, hx288_0, hl288_0, hi288_0⟩ := at_L4 HR2.out x8_1 p288 q288
           cases e288
           replace hx288_0 := (HB.out.cell (World.block_lt_of_cell? w _ hx288_0)).trans hx288_0
           have HR288_0 := mkA hi288_0
           have HC288_0 := mkA hl288_0
           clear hi288_0 hl288_0
           replace p288 := eq_true p288
           replace q288 := eq_true q288
           have hcz41_0 : wr.cell? ⟨gb286, 0, none⟩ = some (.int .i64 a0_0) := (z13 BK286.out 0).trans rfl
           have hcz41_1 : wr.cell? ⟨gb286, 1, none⟩ = some (.slice A0_1 l0_1.length c0_1) := (z13 BK286.out 1).trans rfl
           have hcz41_2 : wr.cell? ⟨gb286, 2, none⟩ = some (.slice A0_2 l0_2.length c0_2) := (z13 BK286.out 2).trans rfl
           have hfz41_0 := z14 BK286.out 0
           have hfz41_1 := z14 BK286.out 1
           have hfz41_2 := z14 BK286.out 2
           go_wp2_with (first | (go_at_call 82; (with_reducible refine (pr_Together.calls k2 a0_0 _ _ l0_1 _ _ l0_2 _ _ l1 x9_2 t294 _ ?side1 ?side2 ?side3 ?side4 ?side5 ?side6 A39.out).mono ?_); (case side1 => repeat (first | exact (Kd.C_below HR0_1.out HB.out) | (with_reducible refine Kd.C_alloc ?_ _) | (with_reducible refine Kd.C_drewN ?_ _) | (with_reducible refine Kd.C_drew ?_))); (case side2 => exact HC0_1.out); (case side3 => repeat (first | exact (Kd.C_below HR0_2.out HB.out) | (with_reducible refine Kd.C_alloc ?_ _) | (with_reducible refine Kd.C_drewN ?_ _) | (with_reducible refine Kd.C_drew ?_))); (case side4 => exact HC0_2.out); (case side5 => repeat (first | exact (Kd.C_below HR1.out HB.out) | (with_reducible refine Kd.C_alloc ?_ _) | (with_reducible refine Kd.C_drewN ?_ _) | (with_reducible refine Kd.C_drew ?_))); (case side6 => exact HC1.out); rintro e w42 ⟨rfl, hb⟩; have n0_ := mkA (blk_below (g := gb286) (o := .cells #[.int .i64 a0_0, .slice A0_1 l0_1.length c0_1, .slice A0_2 l0_2.length c0_2] 25 (0, 0)) (by (with_reducible repeat (first | refine z16 ?_ _ | refine z25 ?_ | refine z22 ?_ _)); exact BK286.out) hb); have n1_ := mkA (z17 (by repeat (first | (with_reducible first | exact HB.out | apply z11 | apply z10 | apply z12 | refine z15 ?_ GE286.out) | exact HB.out)) hb); clear BK286; clear HB; have BK286 := n0_; have HB := n1_; clear n0_ n1_; (try clear hb); (try clear hb2); (try clear hk); (try clear hi)))
           go_roundg k2
           case measure => have := HK1.out; have := HK2.out; omega
           case rel => exact ⟨(Go.bits .andNot .i64 x7_1 x9_2), (wrap64 (x8_1 + 1)), (by first | rfl | (simp; done) | (simp [*]; done)), (by first | rfl | (simp; done) | (simp [*]; done)), H', ⟨by have := HK1.out; have := HK2.out; omega⟩, ⟨by (with_reducible repeat (first | refine z16 ?_ _ | refine z25 ?_ | refine z22 ?_ _)); exact BK286.out⟩, ⟨by repeat (first | (with_reducible first | exact HB.out | apply z11 | apply z10 | apply z12 | refine z15 ?_ GE286.out) | exact HB.out)⟩⟩
          ·rw [if_neg c40] at H
           have c40b0 : (t294 == 0) = false := beq_eq_false_iff_ne.mpr c40
           have c40b1 : (t294 != 0) = true := bne_iff_ne.mpr c40
           obtain rfl := Option.some.inj H
           have p288 : 0 ≤ (x8_1 : Int) := of_decide_eq_true (by first | (with_reducible assumption) | assumption)
           have q288 : x8_1 < (l2.length : Int) := of_decide_eq_true (by first | (with_reducible assumption) | assumption)
           obtain ⟨ad288, A288_0, c288_0, e288, hx288_0, hl288_0, hi288_0⟩ := at_L4 HR2.out x8_1 p288 q288
           cases e288
           replace hx288_0 := (HB.out.cell (World.block_lt_of_cell? w _ hx288_0)).trans hx288_0
           have HR288_0 := mkA hi288_0
           have HC288_0 := mkA hl288_0
           clear hi288_0 hl288_0
           replace p288 := eq_true p288
           replace q288 := eq_true q288
           have hcz43_0 : wr.cell? ⟨gb286, 0, none⟩ = some (.int .i64 a0_0) := (z13 BK286.out 0).trans rfl
           have hcz43_1 : wr.cell? ⟨gb286, 1, none⟩ = some (.slice A0_1 l0_1.length c0_1) := (z13 BK286.out 1).trans rfl
           have hcz43_2 : wr.cell? ⟨gb286, 2, none⟩ = some (.slice A0_2 l0_2.length c0_2) := (z13 BK286.out 2).trans rfl
           have hfz43_0 := z14 BK286.out 0
           have hfz43_1 := z14 BK286.out 1
           have hfz43_2 := z14 BK286.out 2
           go_wp2_with (first | (go_at_call 82; (with_reducible refine (pr_Together.calls k2 a0_0 _ _ l0_1 _ _ l0_2 _ _ l1 x9_2 t294 _ ?side1 ?side2 ?side3 ?side4 ?side5 ?side6 A39.out).mono ?_); (case side1 => repeat (first | exact (Kd.C_below HR0_1.out HB.out) | (with_reducible refine Kd.C_alloc ?_ _) | (with_reducible refine Kd.C_drewN ?_ _) | (with_reducible refine Kd.C_drew ?_))); (case side2 => exact HC0_1.out); (case side3 => repeat (first | exact (Kd.C_below HR0_2.out HB.out) | (with_reducible refine Kd.C_alloc ?_ _) | (with_reducible refine Kd.C_drewN ?_ _) | (with_reducible refine Kd.C_drew ?_))); (case side4 => exact HC0_2.out); (case side5 => repeat (first | exact (Kd.C_below HR1.out HB.out) | (with_reducible refine Kd.C_alloc ?_ _) | (with_reducible refine Kd.C_drewN ?_ _) | (with_reducible refine Kd.C_drew ?_))); (case side6 => exact HC1.out); rintro e w44 ⟨rfl, hb⟩; have n0_ := mkA (blk_below (g := gb286) (o := .cells #[.int .i64 a0_0, .slice A0_1 l0_1.length c0_1, .slice A0_2 l0_2.length c0_2] 25 (0, 0)) (by (with_reducible repeat (first | refine z16 ?_ _ | refine z25 ?_ | refine z22 ?_ _)); exact BK286.out) hb); have n1_ := mkA (z17 (by repeat (first | (with_reducible first | exact HB.out | apply z11 | apply z10 | apply z12 | refine z15 ?_ GE286.out) | exact HB.out)) hb); clear BK286; clear HB; have BK286 := n0_; have HB := n1_; clear n0_ n1_; (try clear hb); (try clear hb2); (try clear hk); (try clear hi)))
           go_ret
           exact ⟨by first | rfl | (simp [z20, z19] <;> rfl) | (simp [*, z20, z19] <;> rfl), by repeat (first | (with_reducible first | exact HB.out | apply z11 | apply z10 | apply z12 | refine z15 ?_ GE286.out) | exact HB.out)⟩
       ·rw [if_neg c10] at H
        exact absurd H (by simp)
      ·rw [if_neg c9] at H
       exact absurd H (by simp)
   ·rw [if_neg c8] at H
    have c8b0 : decide (x8_1 < (l2.length : Int)) = false := decide_eq_false c8
    clear c8
    obtain rfl := Option.some.inj H
    go_wp2
    go_ret
    exact ⟨by first | rfl | (simp [z20, z19] <;> rfl) | (simp [*, z20, z19] <;> rfl), by repeat (first | (with_reducible first | exact HB.out | apply z11 | apply z10 | apply z12 | refine z15 ?_ GE286.out) | exact HB.out)⟩
end Go.Proofs.Ytncaadckehikpaa.Q
