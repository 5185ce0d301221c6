/- A part of the proof: contracts of functions and plain facts (Q6, Q8, HRef0). No condition. -/
import Derived.Test.YtncaadckehikpaaM3
import Derived.Test.YtncaadckehikpaaM10
import Derived.Test.YtncaadckehikpaaM12
namespace Go.Proofs.Ytncaadckehikpaa.Q
open Go.RowKit Go.Proofs.YtncaadckehikpaaW.PrintWords Go.Proofs.YtncaadckehikpaaW.PrintLast Go.Proofs.YtncaadckehikpaaW.PrintMore
attribute [local go_sem] z30 z29 max_two min_two   -- for this text's walks alone
set_option linter.unusedVariables false
set_option linter.unusedSimpArgs false
/-! ### pr_Size: function 89 -/
def pr_Size.f (a0_0 : Int) (a0_1 : Int) : Option (Int) := some (wrap64 ((wrap64 (a0_1 - a0_0)) + 1))
set_option maxHeartbeats 8000000 in
set_option maxRecDepth 100000 in
theorem pr_Size.calls (a0_0 : Int) (a0_1 : Int) (r : Int) (w : World) (h : pr_Size.f a0_0 a0_1 = some r) :
  Calls Try.prog 89 #[.agg #[.int .i64 a0_0, .int .i64 a0_1]] w fun e w' => e = .returned (.int .i64 r) ∧ Below w.heap.size w w' := by
 have hu46 := Try.underlying46
 have HB := mkA (Below.refl w.heap.size w)
 have H : (some (wrap64 ((wrap64 (a0_1 - a0_0)) + 1))) = some r := h
 clear h
 obtain rfl := Option.some.inj H
 go_enter Try.func89, Try.ntmps89
 go_wp2_with ((with_reducible refine z24 (N := 1) rfl ?_); refine z23 ?hg (N := 1) ?hd (cs := #[.int .i64 a0_0, .int .i64 a0_1]) (t := 46) ?hr ?_; (case hd => rfl); (case hg => rfl); (case hr => first | (go_simp; done) | (go_simp; rfl)); intro gb153 hg w2 hbox hb; have n0_ := mkA (z16 (by repeat (with_reducible first | exact HB.out | apply z10 | apply z11 | apply z13)) hb); have n1_ := mkA (hbox); have n2_ := mkA ((by rw [hg]; exact (z18 (by repeat (with_reducible first | exact HB.out | apply z10 | apply z11 | apply z13))) : w.heap.size ≤ gb153)); have n3_ := mkA ((by rw [hg]; exact (z18 (by repeat (with_reducible first | exact HB.out | apply z10 | apply z11 | apply z13))) : w.heap.size ≤ gb153)); clear HB; have HB := n0_; have BK153 := n1_; have GW153 := n2_; have GE153 := n3_; clear n0_ n1_ n2_ n3_; clear hb hbox hg; have hcz3_0 : w2.cell? ⟨gb153, 0, none⟩ = some (.int .i64 a0_0) := (z12 BK153.out 0).trans rfl; have hcz3_1 : w2.cell? ⟨gb153, 1, none⟩ = some (.int .i64 a0_1) := (z12 BK153.out 1).trans rfl; have hfz3_0 := z14 BK153.out 0; have hfz3_1 := z14 BK153.out 1)
 go_ret
 exact ⟨by first | rfl | (simp [z21, z20] <;> rfl) | (simp [*, z21, z20] <;> rfl), by repeat (with_reducible first | exact HB.out | apply z10 | apply z11 | apply z13 | refine z15 ?_ GE153.out)⟩
/-! ### pr_Many: function 47 -/
def pr_Many.l0 : Nat → Int → Int → Int → List (S91) → List (S94) → Option (Int)
 | 0, _, _, _, _, _ => none
 | k + 1, x3, x4, x155000, x155001, x155002 => if x4 < (x155001.length : Int) then (if 0 ≤ x4 then ((pr_Size.f ((rd_T91 x155001 x4).f2.f0) ((rd_T91 x155001 x4).f2.f1)).bind fun t156 => (pr_Many.l0 k (mn 3000 (wrap64 (x3 * t156))) (wrap64 (x4 + 1)) x155000 x155001 x155002)) else (none)) else (some x3)
def pr_Many.f (k : Nat) (a0_0 : Int) (l0_1 : List (S91)) (l0_2 : List (S94)) : Option (Int) := pr_Many.l0 k 1 0 a0_0 l0_1 l0_2
set_option maxHeartbeats 8000000 in
set_option maxRecDepth 100000 in
theorem pr_Many.calls (k : Nat) (a0_0 : Int) (A0_1 : Option Addr) (c0_1 : Nat) (l0_1 : List (S91)) (A0_2 : Option Addr) (c0_2 : Nat) (l0_2 : List (S94)) (r : Int) (w : World) (hr0_1 : Kd.C k91 w A0_1 l0_1.length l0_1) (hc0_1 : l0_1.length ≤ c0_1) (hr0_2 : Kd.C k94 w A0_2 l0_2.length l0_2) (hc0_2 : l0_2.length ≤ c0_2) (h : pr_Many.f k a0_0 l0_1 l0_2 = some r) :
  Calls Try.prog 47 #[.agg #[.int .i64 a0_0, .slice A0_1 l0_1.length c0_1, .slice A0_2 l0_2.length c0_2]] w fun e w' => e = .returned (.int .i64 r) ∧ Below w.heap.size w w' := by
 have hu25 := Try.underlying25
 have hu46 := Try.underlying46
 have HR0_1 := mkA hr0_1
 have HC0_1 := mkA hc0_1
 clear hr0_1 hc0_1
 have HR0_2 := mkA hr0_2
 have HC0_2 := mkA hc0_2
 clear hr0_2 hc0_2
 have HB := mkA (Below.refl w.heap.size w)
 have H : (pr_Many.l0 k 1 0 a0_0 l0_1 l0_2) = some r := h
 clear h
 have H' := mkA H
 clear H
 go_enter Try.func47, Try.ntmps47
 go_wp2_with ((with_reducible refine z24 (N := 1) rfl ?_); refine z23 ?hg (N := 1) ?hd (cs := #[.int .i64 a0_0, .slice A0_1 l0_1.length c0_1, .slice A0_2 l0_2.length c0_2]) (t := 25) ?hr ?_; (case hd => rfl); (case hg => rfl); (case hr => first | (go_simp; done) | (go_simp; rfl)); intro gb154 hg w2 hbox hb; have n0_ := mkA (z16 (by repeat (with_reducible first | exact HB.out | apply z10 | apply z11 | apply z13)) hb); have n1_ := mkA (hbox); have n2_ := mkA ((by rw [hg]; exact (z18 (by repeat (with_reducible first | exact HB.out | apply z10 | apply z11 | apply z13))) : w.heap.size ≤ gb154)); have n3_ := mkA ((by rw [hg]; exact (z18 (by repeat (with_reducible first | exact HB.out | apply z10 | apply z11 | apply z13))) : w.heap.size ≤ gb154)); clear HB; have HB := n0_; have BK154 := n1_; have GW154 := n2_; have GE154 := n3_; clear n0_ n1_ n2_ n3_; clear hb hbox hg)
 go_loopg [3, 4] k (fun kq v3 v4 w' => ∃ (x3_1 : Int) (x4_1 : Int), v3 = .int .i64 x3_1 ∧ v4 = .int .i64 x4_1 ∧ Aside0 (pr_Many.l0 kq x3_1 x4_1 a0_0 l0_1 l0_2 = some r) ∧ Aside0 (kq ≤ k) ∧ Aside0 (w'.heap[gb154]? = some (.cells #[.int .i64 a0_0, (.slice A0_1 l0_1.length c0_1), (.slice A0_2 l0_2.length c0_2)] 25 (0, 0))) ∧ Aside0 (Below w.heap.size w w'))
 case atStart => exact ⟨(1), (0), (by first | rfl | (simp; done) | (simp [*]; done)), (by first | rfl | (simp; done) | (simp [*]; done)), H', ⟨Nat.le_refl _⟩, ⟨by (with_reducible repeat (first | refine z17 ?_ _)); exact BK154.out⟩, ⟨by repeat (with_reducible first | exact HB.out | apply z10 | apply z11 | apply z13 | refine z15 ?_ GE154.out)⟩⟩
 case round =>
  clear H'
  try clear p2
  obtain ⟨x3_1, x4_1, rfl, rfl, HA, HK1, BK154, HB⟩ := hrel
  cases gk with
  | zero => exact absurd HA.out (by simp [pr_Many.l0])
  | succ k1 =>
   have H := HA.out
   clear HA
   simp only [pr_Many.l0] at H
   by_cases c3 : x4_1 < (l0_1.length : Int)
   ·rw [if_pos c3] at H
    have c3b0 : decide (x4_1 < (l0_1.length : Int)) = true := decide_eq_true c3
    clear c3
    by_cases c4 : 0 ≤ x4_1
    ·rw [if_pos c4] at H
     have c4b0 : decide (0 ≤ x4_1) = true := decide_eq_true c4
     clear c4
     replace H := Option.bind_eq_some_iff.mp H
     obtain ⟨t156, A50, H⟩ := H
     replace H : (pr_Many.l0 k1 (mn 3000 (wrap64 (x3_1 * t156))) (wrap64 (x4_1 + 1)) a0_0 l0_1 l0_2) = some r := H
     have A5 := mkA A50
     clear A50
     obtain ⟨ji6, hji6⟩ : ∃ j_ : Int, (mn 3000 (wrap64 (x3_1 * t156))) = j_ := ⟨_, rfl⟩
     replace H : (pr_Many.l0 k1 ji6 (wrap64 (x4_1 + 1)) a0_0 l0_1 l0_2) = some r := by first | (rw [hji6] at H; exact H) | (simp only [hji6] at H ⊢; exact H)
     (try rw [hji6] at A5)
     have hji6_ : (if (wrap64 (x3_1 * t156)) < 3000 then (wrap64 (x3_1 * t156)) else 3000) = ji6 := hji6
     have H' := mkA H
     clear H
     have hcz7_0 : wr.cell? ⟨gb154, 0, none⟩ = some (.int .i64 a0_0) := (z12 BK154.out 0).trans rfl
     have hcz7_1 : wr.cell? ⟨gb154, 1, none⟩ = some (.slice A0_1 l0_1.length c0_1) := (z12 BK154.out 1).trans rfl
     have hcz7_2 : wr.cell? ⟨gb154, 2, none⟩ = some (.slice A0_2 l0_2.length c0_2) := (z12 BK154.out 2).trans rfl
     have hfz7_0 := z14 BK154.out 0
     have hfz7_1 := z14 BK154.out 1
     have hfz7_2 := z14 BK154.out 2
     have p155 : 0 ≤ (x4_1 : Int) := of_decide_eq_true (by first | (with_reducible assumption) | assumption)
     have q155 : x4_1 < (l0_1.length : Int) := of_decide_eq_true (by first | (with_reducible assumption) | assumption)
     obtain ⟨ad155, e155, hx155_0, hx155_1, hx155_2, hx155_3⟩ := at_T91 HR0_1.out x4_1 p155 q155
     cases e155
     replace hx155_0 := (HB.out.cell (World.block_lt_of_cell? w _ hx155_0)).trans hx155_0
     replace hx155_1 := (HB.out.cell (World.block_lt_of_cell? w _ hx155_1)).trans hx155_1
     replace hx155_2 := (HB.out.cell (World.block_lt_of_cell? w _ hx155_2)).trans hx155_2
     replace hx155_3 := (HB.out.cell (World.block_lt_of_cell? w _ hx155_3)).trans hx155_3
     replace p155 := eq_true p155
     replace q155 := eq_true q155
     go_wp2_with ((with_reducible refine z25 (f := 89) rfl ?_); refine goesL_ (some 19) rfl rfl Try.func89 (by kernel_rfl) rfl #[.agg #[.int .i64 ((rd_T91 l0_1 x4_1).f2.f0), .int .i64 ((rd_T91 l0_1 x4_1).f2.f1)]] rfl (by (try simp only [List.map_toArray, List.map_cons, List.map_nil]); first | done | rfl | (simp only [List.length_drop, List.length_take]; rfl)) ?_; (with_reducible refine (pr_Size.calls ((rd_T91 l0_1 x4_1).f2.f0) ((rd_T91 l0_1 x4_1).f2.f1) t156 _ A5.out).mono ?_); rintro e w8 ⟨rfl, hb⟩; refine ⟨_, rfl, ?_⟩; have n0_ := mkA (blk_below (g := gb154) (o := .cells #[.int .i64 a0_0, .slice (some ad155) l0_1.length c0_1, .slice A0_2 l0_2.length c0_2] 25 (0, 0)) (by (with_reducible repeat (first | refine z17 ?_ _)); exact BK154.out) hb); have n1_ := mkA (z16 (by repeat (with_reducible first | exact HB.out | apply z10 | apply z11 | apply z13 | refine z15 ?_ GE154.out)) hb); clear BK154; clear HB; have BK154 := n0_; have HB := n1_; clear n0_ n1_; (try clear hb); (try clear hb2); (try clear hk); (try clear hi))
     go_roundg k1
     case measure => have := HK1.out; omega
     case rel => exact ⟨(ji6), (wrap64 (x4_1 + 1)), (by first | rfl | (simp; done) | (simp only [← hji6] <;> (first | rfl)) | (simp [*]; done)), (by first | rfl | (simp; done) | (simp [*]; done)), H', ⟨by have := HK1.out; omega⟩, ⟨by (with_reducible repeat (first | refine z17 ?_ _)); exact BK154.out⟩, ⟨by repeat (with_reducible first | exact HB.out | apply z10 | apply z11 | apply z13 | refine z15 ?_ GE154.out)⟩⟩
    ·rw [if_neg c4] at H
     exact absurd H (by simp)
   ·rw [if_neg c3] at H
    have c3b0 : decide (x4_1 < (l0_1.length : Int)) = false := decide_eq_false c3
    clear c3
    obtain rfl := Option.some.inj H
    have hcz9_0 : wr.cell? ⟨gb154, 0, none⟩ = some (.int .i64 a0_0) := (z12 BK154.out 0).trans rfl
    have hcz9_1 : wr.cell? ⟨gb154, 1, none⟩ = some (.slice A0_1 l0_1.length c0_1) := (z12 BK154.out 1).trans rfl
    have hcz9_2 : wr.cell? ⟨gb154, 2, none⟩ = some (.slice A0_2 l0_2.length c0_2) := (z12 BK154.out 2).trans rfl
    have hfz9_0 := z14 BK154.out 0
    have hfz9_1 := z14 BK154.out 1
    have hfz9_2 := z14 BK154.out 2
    go_wp2
    go_ret
    exact ⟨by first | rfl | (simp [z21, z20] <;> rfl) | (simp [*, z21, z20] <;> rfl), by repeat (with_reducible first | exact HB.out | apply z10 | apply z11 | apply z13 | refine z15 ?_ GE154.out)⟩
/-! ### pr_In: function 59 -/
def pr_In.f (a0 : Int) (a1 : Int) (a2 : Int) : Option (Bool) := if a0 ≥ a1 then (some (decide (a0 ≤ a2))) else (some false)
set_option maxHeartbeats 8000000 in
set_option maxRecDepth 100000 in
theorem pr_In.calls (a0 : Int) (a1 : Int) (a2 : Int) (r : Bool) (w : World) (h : pr_In.f a0 a1 a2 = some r) :
  Calls Try.prog 59 #[.int .i64 a0, .int .i64 a1, .int .i64 a2] w fun e w' => e = .returned (.bool r) ∧ Drawn0 w w' := by
 have H : (if a0 ≥ a1 then (some (decide (a0 ≤ a2))) else (some false)) = some r := h
 clear h
 by_cases c4 : a0 ≥ a1
 ·rw [if_pos c4] at H
  have c4b0 : decide (a1 ≤ a0) = true := decide_eq_true c4
  clear c4
  obtain rfl := Option.some.inj H
  go_enter Try.func59, Try.ntmps59
  go_wp2
  go_ret
  exact ⟨by first | rfl | (simp; done) | (simp [*]; done), by repeat (first | exact Drawn0.refl _)⟩
 ·rw [if_neg c4] at H
  have c4b0 : decide (a1 ≤ a0) = false := decide_eq_false c4
  clear c4
  obtain rfl := Option.some.inj H
  go_enter Try.func59, Try.ntmps59
  go_wp2
  go_ret
  exact ⟨by first | rfl | (simp; done) | (simp [*]; done), by repeat (first | exact Drawn0.refl _)⟩
/-! ### pr_ArePair: function 91 -/
def pr_ArePair.f (a0_0 : Int) (l0_1 : List (S91)) (l0_2 : List (S94)) (a1 : Int) (a2 : Int) : Option (Bool) := (pr_In.f a1 0 (wrap64 (a0_0 - 1))).bind fun t158 => (if t158 = true then ((pr_In.f a2 0 (wrap64 (a0_0 - 1))).bind fun t159 => (if t159 = true then (some (a1 != a2)) else (some false))) else (some false))
set_option maxHeartbeats 8000000 in
set_option maxRecDepth 100000 in
theorem pr_ArePair.calls (a0_0 : Int) (A0_1 : Option Addr) (c0_1 : Nat) (l0_1 : List (S91)) (A0_2 : Option Addr) (c0_2 : Nat) (l0_2 : List (S94)) (a1 : Int) (a2 : Int) (r : Bool) (w : World) (hr0_1 : Kd.C k91 w A0_1 l0_1.length l0_1) (hc0_1 : l0_1.length ≤ c0_1) (hr0_2 : Kd.C k94 w A0_2 l0_2.length l0_2) (hc0_2 : l0_2.length ≤ c0_2) (h : pr_ArePair.f a0_0 l0_1 l0_2 a1 a2 = some r) :
  Calls Try.prog 91 #[.agg #[.int .i64 a0_0, .slice A0_1 l0_1.length c0_1, .slice A0_2 l0_2.length c0_2], .int .i64 a1, .int .i64 a2] w fun e w' => e = .returned (.bool r) ∧ Below w.heap.size w w' := by
 have hu25 := Try.underlying25
 have HR0_1 := mkA hr0_1
 have HC0_1 := mkA hc0_1
 clear hr0_1 hc0_1
 have HR0_2 := mkA hr0_2
 have HC0_2 := mkA hc0_2
 clear hr0_2 hc0_2
 have HB := mkA (Below.refl w.heap.size w)
 have H : ((pr_In.f a1 0 (wrap64 (a0_0 - 1))).bind fun t158 => (if t158 = true then ((pr_In.f a2 0 (wrap64 (a0_0 - 1))).bind fun t159 => (if t159 = true then (some (a1 != a2)) else (some false))) else (some false))) = some r := h
 clear h
 replace H := Option.bind_eq_some_iff.mp H
 obtain ⟨t158, A40, H⟩ := H
 replace H : (if t158 = true then ((pr_In.f a2 0 (wrap64 (a0_0 - 1))).bind fun t159 => (if t159 = true then (some (a1 != a2)) else (some false))) else (some false)) = some r := H
 have A4 := mkA A40
 clear A40
 by_cases c5 : t158 = true
 ·subst c5
  have H1 : ((pr_In.f a2 0 (wrap64 (a0_0 - 1))).bind fun t159 => (if t159 = true then (some (a1 != a2)) else (some false))) = some r := by rw [if_pos rfl] at H; exact H
  clear H
  have H := H1
  clear H1
  replace H := Option.bind_eq_some_iff.mp H
  obtain ⟨t159, A60, H⟩ := H
  replace H : (if t159 = true then (some (a1 != a2)) else (some false)) = some r := H
  have A6 := mkA A60
  clear A60
  by_cases c7 : t159 = true
  ·subst c7
   have H1 : (some (a1 != a2)) = some r := by rw [if_pos rfl] at H; exact H
   clear H
   have H := H1
   clear H1
   obtain rfl := Option.some.inj H
   go_enter Try.func91, Try.ntmps91
   go_wp2_with (first | ((with_reducible refine z24 (N := 3) rfl ?_); refine z23 ?hg (N := 3) ?hd (cs := #[.int .i64 a0_0, .slice A0_1 l0_1.length c0_1, .slice A0_2 l0_2.length c0_2]) (t := 25) ?hr ?_; (case hd => rfl); (case hg => rfl); (case hr => first | (go_simp; done) | (go_simp; rfl)); intro gb157 hg w8 hbox hb; have n0_ := mkA (z16 (by repeat (with_reducible first | exact HB.out | apply z10 | apply z11 | apply z13)) hb); have n1_ := mkA (hbox); have n2_ := mkA ((by rw [hg]; exact (z18 (by repeat (with_reducible first | exact HB.out | apply z10 | apply z11 | apply z13))) : w.heap.size ≤ gb157)); have n3_ := mkA ((by rw [hg]; exact (z18 (by repeat (with_reducible first | exact HB.out | apply z10 | apply z11 | apply z13))) : w.heap.size ≤ gb157)); clear HB; have HB := n0_; have BK157 := n1_; have GW157 := n2_; have GE157 := n3_; clear n0_ n1_ n2_ n3_; clear hb hbox hg; have hcz9_0 : w8.cell? ⟨gb157, 0, none⟩ = some (.int .i64 a0_0) := (z12 BK157.out 0).trans rfl; have hcz9_1 : w8.cell? ⟨gb157, 1, none⟩ = some (.slice A0_1 l0_1.length c0_1) := (z12 BK157.out 1).trans rfl; have hcz9_2 : w8.cell? ⟨gb157, 2, none⟩ = some (.slice A0_2 l0_2.length c0_2) := (z12 BK157.out 2).trans rfl; have hfz9_0 := z14 BK157.out 0; have hfz9_1 := z14 BK157.out 1; have hfz9_2 := z14 BK157.out 2) | ((with_reducible refine z25 (f := 59) rfl ?_); refine goesL_ (some 11) rfl rfl Try.func59 (by kernel_rfl) rfl #[.int .i64 a1, .int .i64 0, .int .i64 (wrap64 (a0_0 - 1))] rfl (by (try simp only [List.map_toArray, List.map_cons, List.map_nil]); first | done | rfl | (simp only [List.length_drop, List.length_take]; rfl)) ?_; (with_reducible refine (pr_In.calls a1 0 (wrap64 (a0_0 - 1)) true _ A4.out).mono ?_); rintro e w' ⟨rfl, ⟨nd, rfl⟩⟩; refine ⟨_, rfl, ?_⟩) | (go_at_call 59; (with_reducible refine (pr_In.calls a2 0 (wrap64 (a0_0 - 1)) true _ A6.out).mono ?_); rintro e w' ⟨rfl, ⟨nd, rfl⟩⟩))
   go_ret
   exact ⟨by first | rfl | (simp [z21, z20] <;> rfl) | (simp [*, z21, z20] <;> rfl), by repeat (with_reducible first | exact HB.out | apply z10 | apply z11 | apply z13 | refine z15 ?_ GE157.out)⟩
  ·replace c7 := Bool.eq_false_iff.mpr c7
   subst c7
   have H1 : (some false) = some r := by rw [if_neg (show ¬ (false = true) by decide)] at H; exact H
   clear H
   have H := H1
   clear H1
   obtain rfl := Option.some.inj H
   go_enter Try.func91, Try.ntmps91
   go_wp2_with (first | ((with_reducible refine z24 (N := 3) rfl ?_); refine z23 ?hg (N := 3) ?hd (cs := #[.int .i64 a0_0, .slice A0_1 l0_1.length c0_1, .slice A0_2 l0_2.length c0_2]) (t := 25) ?hr ?_; (case hd => rfl); (case hg => rfl); (case hr => first | (go_simp; done) | (go_simp; rfl)); intro gb157 hg w10 hbox hb; have n0_ := mkA (z16 (by repeat (with_reducible first | exact HB.out | apply z10 | apply z11 | apply z13)) hb); have n1_ := mkA (hbox); have n2_ := mkA ((by rw [hg]; exact (z18 (by repeat (with_reducible first | exact HB.out | apply z10 | apply z11 | apply z13))) : w.heap.size ≤ gb157)); have n3_ := mkA ((by rw [hg]; exact (z18 (by repeat (with_reducible first | exact HB.out | apply z10 | apply z11 | apply z13))) : w.heap.size ≤ gb157)); clear HB; have HB := n0_; have BK157 := n1_; have GW157 := n2_; have GE157 := n3_; clear n0_ n1_ n2_ n3_; clear hb hbox hg; have hcz11_0 : w10.cell? ⟨gb157, 0, none⟩ = some (.int .i64 a0_0) := (z12 BK157.out 0).trans rfl; have hcz11_1 : w10.cell? ⟨gb157, 1, none⟩ = some (.slice A0_1 l0_1.length c0_1) := (z12 BK157.out 1).trans rfl; have hcz11_2 : w10.cell? ⟨gb157, 2, none⟩ = some (.slice A0_2 l0_2.length c0_2) := (z12 BK157.out 2).trans rfl; have hfz11_0 := z14 BK157.out 0; have hfz11_1 := z14 BK157.out 1; have hfz11_2 := z14 BK157.out 2) | ((with_reducible refine z25 (f := 59) rfl ?_); refine goesL_ (some 11) rfl rfl Try.func59 (by kernel_rfl) rfl #[.int .i64 a1, .int .i64 0, .int .i64 (wrap64 (a0_0 - 1))] rfl (by (try simp only [List.map_toArray, List.map_cons, List.map_nil]); first | done | rfl | (simp only [List.length_drop, List.length_take]; rfl)) ?_; (with_reducible refine (pr_In.calls a1 0 (wrap64 (a0_0 - 1)) true _ A4.out).mono ?_); rintro e w' ⟨rfl, ⟨nd, rfl⟩⟩; refine ⟨_, rfl, ?_⟩) | (go_at_call 59; (with_reducible refine (pr_In.calls a2 0 (wrap64 (a0_0 - 1)) false _ A6.out).mono ?_); rintro e w' ⟨rfl, ⟨nd, rfl⟩⟩))
   go_ret
   exact ⟨by first | rfl | (simp [z21, z20] <;> rfl) | (simp [*, z21, z20] <;> rfl), by repeat (with_reducible first | exact HB.out | apply z10 | apply z11 | apply z13 | refine z15 ?_ GE157.out)⟩
 ·replace c5 := Bool.eq_false_iff.mpr c5
  subst c5
  have H1 : (some false) = some r := by rw [if_neg (show ¬ (false = true) by decide)] at H; exact H
  clear H
  have H := H1
  clear H1
  obtain rfl := Option.some.inj H
  go_enter Try.func91, Try.ntmps91
  go_wp2_with (first | ((with_reducible refine z24 (N := 3) rfl ?_); refine z23 ?hg (N := 3) ?hd (cs := #[.int .i64 a0_0, .slice A0_1 l0_1.length c0_1, .slice A0_2 l0_2.length c0_2]) (t := 25) ?hr ?_; (case hd => rfl); (case hg => rfl); (case hr => first | (go_simp; done) | (go_simp; rfl)); intro gb157 hg w12 hbox hb; have n0_ := mkA (z16 (by repeat (with_reducible first | exact HB.out | apply z10 | apply z11 | apply z13)) hb); have n1_ := mkA (hbox); have n2_ := mkA ((by rw [hg]; exact (z18 (by repeat (with_reducible first | exact HB.out | apply z10 | apply z11 | apply z13))) : w.heap.size ≤ gb157)); have n3_ := mkA ((by rw [hg]; exact (z18 (by repeat (with_reducible first | exact HB.out | apply z10 | apply z11 | apply z13))) : w.heap.size ≤ gb157)); clear HB; have HB := n0_; have BK157 := n1_; have GW157 := n2_; have GE157 := n3_; clear n0_ n1_ n2_ n3_; clear hb hbox hg; have hcz13_0 : w12.cell? ⟨gb157, 0, none⟩ = some (.int .i64 a0_0) := (z12 BK157.out 0).trans rfl; have hcz13_1 : w12.cell? ⟨gb157, 1, none⟩ = some (.slice A0_1 l0_1.length c0_1) := (z12 BK157.out 1).trans rfl; have hcz13_2 : w12.cell? ⟨gb157, 2, none⟩ = some (.slice A0_2 l0_2.length c0_2) := (z12 BK157.out 2).trans rfl; have hfz13_0 := z14 BK157.out 0; have hfz13_1 := z14 BK157.out 1; have hfz13_2 := z14 BK157.out 2) | ((with_reducible refine z25 (f := 59) rfl ?_); refine goesL_ (some 11) rfl rfl Try.func59 (by kernel_rfl) rfl #[.int .i64 a1, .int .i64 0, .int .i64 (wrap64 (a0_0 - 1))] rfl (by (try simp only [List.map_toArray, List.map_cons, List.map_nil]); first | done | rfl | (simp only [List.length_drop, List.length_take]; rfl)) ?_; (with_reducible refine (pr_In.calls a1 0 (wrap64 (a0_0 - 1)) false _ A4.out).mono ?_); rintro e w' ⟨rfl, ⟨nd, rfl⟩⟩; refine ⟨_, rfl, ?_⟩))
  go_ret
  exact ⟨by first | rfl | (simp [z21, z20] <;> rfl) | (simp [*, z21, z20] <;> rfl), by repeat (with_reducible first | exact HB.out | apply z10 | apply z11 | apply z13 | refine z15 ?_ GE157.out)⟩
/-! ### pr_Full: function 62 -/
def pr_Full.f (a0_0 : Int) (l0_1 : List (S91)) (l0_2 : List (S94)) : Option (Int) := if 0 ≤ (IntKind.u64.wrap ((l0_2.length : Int))) then (some (wrap64 ((shl .i64 1 (IntKind.u64.wrap ((l0_2.length : Int)))) - 1))) else (none)
/-! ### pr_Is: function 81 -/
def pr_Is.f (a0 : Int) (a1_0 : Int) (a1_1 : Int) : Option (Bool) := (pr_In.f a0 a1_0 a1_1).bind fun t187 => (some t187)
/-! ### pr_Empty: function 75 -/
def pr_Empty.f  : Option (Int × Int) := some (1099511627776, (-1099511627776))
/-! ### pr_Wider: function 76 -/
def pr_Wider.f (a0_0 : Int) (a0_1 : Int) (a1 : Int) : Option (Int × Int) := some (mn a0_0 a1, mx a0_1 a1)
end Go.Proofs.Ytncaadckehikpaa.Q
namespace Go.Proofs.Ytncaadckehikpaa.Q
open Go.RowKit Go.Proofs.YtncaadckehikpaaW.PrintWords Go.Proofs.YtncaadckehikpaaW.PrintLast Go.Proofs.YtncaadckehikpaaW.PrintMore
attribute [local go_sem] z30 z29 max_two min_two   -- for this text's walks alone
set_option linter.unusedVariables false
set_option linter.unusedSimpArgs false
/-! ### pr_Nth: function 46 -/
def pr_Nth.l0 : Nat → Int → List Int → Int → Int → List (S91) → List (S94) → Option (List Int)
 | 0, _, _, _, _, _, _ => none
 | k + 1, x1, x5, x6, x171000, x171001, x171002 => if x6 < (x171001.length : Int) then (if 0 ≤ x6 then ((pr_Size.f ((rd_T91 x171001 x6).f2.f0) ((rd_T91 x171001 x6).f2.f1)).bind fun t173 => (if t173 = 0 then (none) else (if x5.length < 17592186044416 then ((pr_Size.f ((rd_T91 x171001 x6).f2.f0) ((rd_T91 x171001 x6).f2.f1)).bind fun t177 => (if t177 = 0 then (none) else (pr_Nth.l0 k (wrap64 (Int.tdiv x1 t177)) (x5 ++ [wrap64 (((rd_T91 x171001 x6).f2.f0) + (Int.tmod x1 t173))]) (wrap64 (x6 + 1)) x171000 x171001 x171002))) else (none)))) else (none)) else (some x5)
def pr_Nth.f (k : Nat) (a0_0 : Int) (l0_1 : List (S91)) (l0_2 : List (S94)) (a1 : Int) : Option (List Int) := pr_Nth.l0 k a1 ([] : List Int) 0 a0_0 l0_1 l0_2
/-! ### pr_Owed: function 54 -/
def pr_Owed.l0 : Nat → List Int → Int → Int → Int → Int → List (S91) → List (S94) → Option (Int)
 | 0, _, _, _, _, _, _, _ => none
 | k + 1, x1, x2, x7, x8, x180000, x180001, x180002 => if x8 < (x180001.length : Int) then (if 0 ≤ x8 then (if ((rd_T91 x180001 x8).f0) = x2 then (if x8 < (x1.length : Int) then (if ((rd_T91 x180001 x8).f1) = x2 then (pr_Owed.l0 k x1 x2 (wrap64 ((wrap64 (x7 + (rd x1 x8))) - (rd x1 x8))) (wrap64 (x8 + 1)) x180000 x180001 x180002) else (pr_Owed.l0 k x1 x2 (wrap64 (x7 + (rd x1 x8))) (wrap64 (x8 + 1)) x180000 x180001 x180002)) else (none)) else (if ((rd_T91 x180001 x8).f1) = x2 then (if x8 < (x1.length : Int) then (pr_Owed.l0 k x1 x2 (wrap64 (x7 - (rd x1 x8))) (wrap64 (x8 + 1)) x180000 x180001 x180002) else (none)) else (pr_Owed.l0 k x1 x2 x7 (wrap64 (x8 + 1)) x180000 x180001 x180002))) else (none)) else (some x7)
def pr_Owed.f (k : Nat) (a0_0 : Int) (l0_1 : List (S91)) (l0_2 : List (S94)) (l1 : List Int) (a2 : Int) : Option (Int) := pr_Owed.l0 k l1 a2 0 0 a0_0 l0_1 l0_2
end Go.Proofs.Ytncaadckehikpaa.Q
namespace Go.Proofs.Ytncaadckehikpaa.Q
open Go.RowKit Go.Proofs.YtncaadckehikpaaW.PrintWords Go.Proofs.YtncaadckehikpaaW.PrintLast Go.Proofs.YtncaadckehikpaaW.PrintMore
set_option linter.unusedVariables false
set_option linter.unusedSimpArgs false
/-- An entry, and a saying, of the reference as ones of the program. -/
def c91 (e : S91) : S122 := ⟨e.f0, e.f1, ⟨e.f2.f0, e.f2.f1⟩⟩
def c94 (x : S94) : S124 := ⟨x.f0, ⟨x.f1.f0, x.f1.f1⟩⟩
theorem getD_of {α : Type} (xs : List α) (z : α) (i : Nat) (h : i < xs.length) : xs.getD ((i : Int)).toNat z = xs[i] := by
  simp [List.getD, h]
theorem rd91 (xs : List S91) (i : Nat) (h : i < xs.length) : rd_T91 xs (i : Int) = xs[i] := getD_of xs _ i h
theorem rd94 (xs : List S94) (i : Nat) (h : i < xs.length) : rd_T94 xs (i : Int) = xs[i] := getD_of xs _ i h
theorem rd124 (xs : List S124) (i : Nat) (h : i < xs.length) : rd_T124 xs (i : Int) = xs[i] := getD_of xs _ i h
theorem rd_map94 (xs : List S94) (i : Nat) (h : i < xs.length) : rd_T124 (xs.map c94) (i : Int) = c94 (rd_T94 xs (i : Int)) := by
  rw [rd94 xs i h, rd124 _ i (by simpa using h), List.getElem_map]
theorem w1 (i : Nat) (h : i < 1000000000000) : wrap64 ((i : Int) + 1) = ((i + 1 : Nat) : Int) := by unfold wrap64; omega
theorem Slate_l1 (n m : Int) (l1 : List S91) (l2 : List S94) (es : List S122) (hl : l2.length ≤ 30) : ∀ (d k i : Nat) (acc : List S124), i + d = l2.length → d < k → acc.length = i →
    pl_Slate.l1 k i n l1 l2 m es acc = some (m, es, acc ++ (l2.drop i).map c94)
  | 0, k + 1, i, acc, h, hk, ha => by
    rw [pl_Slate.l1, if_neg (by omega), List.drop_of_length_le (by omega)]
    simp
  | d + 1, k + 1, i, acc, h, hk, ha => by
    have hi : i < l2.length := by omega
    rw [pl_Slate.l1, if_pos (by omega), if_pos (by omega), w1 i (by omega)]
    simp only [pl_to.f, Option.bind_some]
    rw [if_pos (by omega), Slate_l1 n m l1 l2 es hl d k (i + 1) _ (by omega) (by omega) (by simp [ha]), List.drop_eq_getElem_cons hi, rd94 l2 i hi]
    rw [List.map_cons, List.append_assoc]
    rfl
theorem Slate_l0 (n m : Int) (l1 : List S91) (l2 : List S94) (hl : l2.length ≤ 30) (hl1 : l1.length ≤ 30) : ∀ (d k i : Nat) (acc : List S122), i + d = l1.length → d + 31 < k → acc.length = i →
    pl_Slate.l0 k i n l1 l2 m acc = some (m, acc ++ (l1.drop i).map c91, l2.map c94)
  | 0, k + 1, i, acc, h, hk, ha => by
    rw [pl_Slate.l0, if_neg (by omega), List.drop_of_length_le (by omega)]
    have := Slate_l1 n m l1 l2 acc hl l2.length k 0 [] (by omega) (by omega) rfl
    simpa using this
  | d + 1, k + 1, i, acc, h, hk, ha => by
    have hi : i < l1.length := by omega
    rw [pl_Slate.l0, if_pos (by omega), if_pos (by omega), w1 i (by omega)]
    simp only [pl_to.f, Option.bind_some]
    rw [if_pos (by omega), Slate_l0 n m l1 l2 hl hl1 d k (i + 1) _ (by omega) (by omega) (by simp [ha]), List.drop_eq_getElem_cons hi, rd91 l1 i hi]
    rw [List.map_cons, List.append_assoc]
    rfl
/-- The program's slate. -/
theorem Slate_f (k : Nat) (n : Int) (l1 : List S91) (l2 : List S94) (h1 : l1.length ≤ 30) (h2 : l2.length ≤ 30) (hk : 100 ≤ k) : pl_Slate.f k n l1 l2 = some (n, l1.map c91, l2.map c94) := by
  have := Slate_l0 n n l1 l2 h2 h1 l1.length k 0 [] (by omega) (by omega) rfl
  simpa [pl_Slate.f] using this
theorem Thin_f (n : Int) (l1 : List S91) (l2 : List S94) : pl_Thin.f n l1 l2 = some (decide (l1.length ≤ 30 ∧ l2.length ≤ 30)) := by
  unfold pl_Thin.f
  by_cases h : (l1.length : Int) > 30
  · rw [if_pos h, decide_eq_false (by omega)]
  · rw [if_neg h]
    by_cases h2 : (l2.length : Int) > 30
    · rw [if_pos h2, decide_eq_false (by omega)]
    · rw [if_neg h2, decide_eq_true (by omega)]
/-- The product of all sizes. -/
def prodS : List S122 → Int
  | [] => 1
  | e :: es => sizeS e * prodS es
theorem prodS_pos : ∀ (l : List S122), (∀ e ∈ l, 1 ≤ sizeS e) → 1 ≤ prodS l
  | [], _ => by simp [prodS]
  | e :: es, h => by
    have h1 := h e (by simp)
    have h2 := prodS_pos es (fun x hx => h x (by simp [hx]))
    have := Int.mul_le_mul h1 h2 (by omega) (by omega)
    simp only [prodS]
    omega
theorem mul_mn (a s c t : Int) (ha : 1 ≤ a) (hs : 1 ≤ s) (ht : 1 ≤ t) (hc : 1 ≤ c) : mn (mn (a * s) c * t) c = mn (a * (s * t)) c := by
  have h0 : a * (s * t) = a * s * t := (Int.mul_assoc a s t).symm
  rw [h0]
  generalize a * s = b
  unfold mn
  by_cases h : c < b
  · rw [if_pos h]
    have h1 : c * 1 ≤ c * t := Int.mul_le_mul_of_nonneg_left ht (by omega)
    have h2 : c * t < b * t := Int.mul_lt_mul_of_pos_right h (by omega)
    rw [if_pos (show c < b * t by omega)]
    by_cases h3 : c < c * t
    · rw [if_pos h3]
    · rw [if_neg h3]; omega
  · rw [if_neg h]
theorem fold_mn (c : Int) (hc : 1 ≤ c) : ∀ (l : List S122) (m : Int), 1 ≤ m → m ≤ c → (∀ e ∈ l, 1 ≤ sizeS e) → l.foldl (fun m e => mn (m * sizeS e) c) m = mn (m * prodS l) c
  | [], m, h1, h2, _ => by
    simp only [List.foldl_nil, prodS, Int.mul_one]
    unfold mn
    rw [if_neg (by omega)]
  | e :: es, m, h1, h2, h => by
    have hs := h e (by simp)
    have hp := prodS_pos es (fun x hx => h x (by simp [hx]))
    have hm : 1 ≤ m * sizeS e := by
      have := Int.mul_le_mul h1 hs (by omega) (by omega)
      omega
    rw [List.foldl_cons, fold_mn c hc es _ (by unfold mn; split <;> omega) (mn_le _ _) (fun x hx => h x (by simp [hx]))]
    simp only [prodS]
    exact mul_mn m (sizeS e) c (prodS es) h1 hs hp hc
theorem manyS_eq (l : List S122) (h : ∀ e ∈ l, 1 ≤ sizeS e) : manyS l = mn (prodS l) 2001 := by
  unfold manyS
  rw [fold_mn 2001 (by omega) l 1 (by omega) (by omega) h, Int.one_mul]
/-- The reference's number of ounces. -/
theorem Many_l0 (n : Int) (l1 : List S91) (l2 : List S94) (hl : l1.length ≤ 6) (h : ∀ e ∈ l1.map c91, 1 ≤ sizeS e ∧ sizeS e ≤ 41 ∧ 0 ≤ e.f2.f0 ∧ e.f2.f1 ≤ 40) :
    ∀ (d k i : Nat) (m : Int), i + d = l1.length → d < k → 1 ≤ m → m ≤ 3000 → pr_Many.l0 k m i n l1 l2 = some (((l1.drop i).map c91).foldl (fun m e => mn (m * sizeS e) 3000) m)
  | 0, k + 1, i, m, hi, hk, h1, h2 => by
    rw [pr_Many.l0, if_neg (by omega), List.drop_of_length_le (by omega)]
    rfl
  | d + 1, k + 1, i, m, hi, hk, h1, h2 => by
    have hn : i < l1.length := by omega
    have he := h (c91 l1[i]) (List.mem_map_of_mem (List.getElem_mem hn))
    have hp : 1 ≤ m * sizeS (c91 l1[i]) := by
      have := Int.mul_le_mul h1 he.1 (by omega) (by omega)
      omega
    have hq : m * sizeS (c91 l1[i]) ≤ 3000 * 41 := Int.mul_le_mul h2 he.2.1 (by omega) (by omega)
    rw [pr_Many.l0, if_pos (by omega), if_pos (by omega), w1 i (by omega), rd91 l1 i hn]
    have hz : pr_Size.f (l1[i].f2.f0) (l1[i].f2.f1) = some (sizeS (c91 l1[i])) := by
      simp only [pr_Size.f, sizeS, c91] at he ⊢
      refine congrArg some ?_
      unfold wrap64
      omega
    rw [hz, Option.bind_some, show wrap64 (m * sizeS (c91 l1[i])) = m * sizeS (c91 l1[i]) by unfold wrap64; omega]
    have hmn : mn 3000 (m * sizeS (c91 l1[i])) = mn (m * sizeS (c91 l1[i])) 3000 := by unfold mn; split <;> split <;> omega
    rw [hmn, Many_l0 n l1 l2 hl h d k (i + 1) _ (by omega) (by omega) (by unfold mn; split <;> omega) (mn_le _ _), List.drop_eq_getElem_cons hn]
    rfl
theorem Many_f (k : Nat) (n : Int) (l1 : List S91) (l2 : List S94) (hl : l1.length ≤ 6) (h : ∀ e ∈ l1.map c91, 1 ≤ sizeS e ∧ sizeS e ≤ 41 ∧ 0 ≤ e.f2.f0 ∧ e.f2.f1 ≤ 40) (hk : 7 ≤ k) :
    pr_Many.f k n l1 l2 = some (mn (prodS (l1.map c91)) 3000) := by
  have := Many_l0 n l1 l2 hl h l1.length k 0 1 (by omega) (by omega) (by omega) (by omega)
  rw [pr_Many.f, show (0 : Int) = ((0 : Nat) : Int) from rfl, this, List.drop_zero, fold_mn 3000 (by omega) _ 1 (by omega) (by omega) (fun e he => (h e he).1), Int.one_mul]
end Go.Proofs.Ytncaadckehikpaa.Q
