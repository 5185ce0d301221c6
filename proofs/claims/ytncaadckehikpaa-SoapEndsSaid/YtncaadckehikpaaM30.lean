/- A part of the proof: contracts of functions and plain facts (Q15, HMostRef). No condition. -/
import Derived.Test.YtncaadckehikpaaM3
import Derived.Test.YtncaadckehikpaaM13
import Derived.Test.YtncaadckehikpaaM14
import Derived.Test.YtncaadckehikpaaM28
import Derived.Test.YtncaadckehikpaaM29
import Derived.Test.YtncaadckehikpaaM25
import Derived.Test.YtncaadckehikpaaM10
namespace Go.Proofs.Ytncaadckehikpaa.Q
open Go.RowKit Go.Proofs.YtncaadckehikpaaW.PrintWords Go.Proofs.YtncaadckehikpaaW.PrintLast Go.Proofs.YtncaadckehikpaaW.PrintMore
attribute [local go_sem] z32 z31 max_two min_two   -- for this text's walks alone
set_option linter.unusedVariables false
set_option linter.unusedSimpArgs false
/-! ### pr_Open: function 34 -/
def pr_Open.l0 : Nat → List Int → Int → Int → Int → List (S91) → List (S94) → Option (Int)
 | 0, _, _, _, _, _, _ => none
 | k + 1, x1, x5, x6, x284000, x284001, x284002 => if x6 < x284000 then ((pr_Owed.f k x284000 x284001 x284002 x1 x6).bind fun t284 => (if t284 = 0 then (pr_Open.l0 k x1 x5 (wrap64 (x6 + 1)) x284000 x284001 x284002) else (if 0 ≤ (IntKind.u64.wrap (x6)) then (pr_Open.l0 k x1 (Go.bits .or .i64 x5 (shl .i64 1 (IntKind.u64.wrap (x6)))) (wrap64 (x6 + 1)) x284000 x284001 x284002) else (none)))) else (some x5)
def pr_Open.f (k : Nat) (a0_0 : Int) (l0_1 : List (S91)) (l0_2 : List (S94)) (l1 : List Int) : Option (Int) := pr_Open.l0 k l1 0 0 a0_0 l0_1 l0_2
set_option maxHeartbeats 8000000 in
set_option maxRecDepth 100000 in
theorem pr_Open.calls (k : Nat) (a0_0 : Int) (A0_1 : Option Addr) (c0_1 : Nat) (l0_1 : List (S91)) (A0_2 : Option Addr) (c0_2 : Nat) (l0_2 : List (S94)) (A1 : Option Addr) (c1 : Nat) (l1 : List Int) (r : Int) (w : World) (hr0_1 : Kd.C k91 w A0_1 l0_1.length l0_1) (hc0_1 : l0_1.length ≤ c0_1) (hr0_2 : Kd.C k94 w A0_2 l0_2.length l0_2) (hc0_2 : l0_2.length ≤ c0_2) (hr1 : Kd.C (Kd.int .i64) w A1 l1.length l1) (hc1 : l1.length ≤ c1) (h : pr_Open.f k a0_0 l0_1 l0_2 l1 = some r) :
  Calls Try.prog 34 #[.agg #[.int .i64 a0_0, .slice A0_1 l0_1.length c0_1, .slice A0_2 l0_2.length c0_2], .slice A1 l1.length c1] w fun e w' => e = .returned (.int .i64 r) ∧ Below w.heap.size w w' := by
 have hu25 := Try.underlying25
 have HR0_1 := mkA hr0_1
 have HC0_1 := mkA hc0_1
 clear hr0_1 hc0_1
 have HR0_2 := mkA hr0_2
 have HC0_2 := mkA hc0_2
 clear hr0_2 hc0_2
 have HR1 := mkA hr1
 have HC1 := mkA hc1
 clear hr1 hc1
 have HB := mkA (Below.refl w.heap.size w)
 have H : (pr_Open.l0 k l1 0 0 a0_0 l0_1 l0_2) = some r := h
 clear h
 have H' := mkA H
 clear H
 go_enter Try.func34, Try.ntmps34
 go_wp2_with (first | ((with_reducible refine z24 (N := 2) rfl ?_); refine z22 ?hg (N := 2) ?hd (cs := #[.int .i64 a0_0, .slice A0_1 l0_1.length c0_1, .slice A0_2 l0_2.length c0_2]) (t := 25) ?hr ?_; (case hd => rfl); (case hg => rfl); (case hr => first | (go_simp; done) | (go_simp; rfl)); intro gb283 hg w3 hbox hb; have n0_ := mkA (z17 (by repeat (first | (with_reducible first | exact HB.out | apply z11 | apply z10 | apply z12) | exact HB.out)) hb); have n1_ := mkA (hbox); have n2_ := mkA ((by rw [hg]; exact (z18 (by repeat (first | (with_reducible first | exact HB.out | apply z11 | apply z10 | apply z12) | exact HB.out))) : w.heap.size ≤ gb283)); have n3_ := mkA ((by rw [hg]; exact (z18 (by repeat (first | (with_reducible first | exact HB.out | apply z11 | apply z10 | apply z12) | exact HB.out))) : w.heap.size ≤ gb283)); clear HB; have HB := n0_; have BK283 := n1_; have GW283 := n2_; have GE283 := n3_; clear n0_ n1_ n2_ n3_; clear hb hbox hg))
 go_loopg [5, 6] k (fun kq v5 v6 w' => ∃ (x5_1 : Int) (x6_1 : Int), v5 = .int .i64 x5_1 ∧ v6 = .int .i64 x6_1 ∧ Aside0 (pr_Open.l0 kq l1 x5_1 x6_1 a0_0 l0_1 l0_2 = some r) ∧ Aside0 (kq ≤ k) ∧ Aside0 (w'.heap[gb283]? = some (.cells #[.int .i64 a0_0, (.slice A0_1 l0_1.length c0_1), (.slice A0_2 l0_2.length c0_2)] 25 (0, 0))) ∧ Aside0 (Below w.heap.size w w'))
 case atStart => exact ⟨(0), (0), (by first | rfl | (simp; done) | (simp [*]; done)), (by first | rfl | (simp; done) | (simp [*]; done)), H', ⟨Nat.le_refl _⟩, ⟨by (with_reducible repeat (first | refine z16 ?_ _ | refine z28 ?_ | refine z27 ?_ _)); exact BK283.out⟩, ⟨by repeat (first | (with_reducible first | exact HB.out | apply z11 | apply z10 | apply z12 | refine z15 ?_ GE283.out) | exact HB.out)⟩⟩
 case round =>
  clear H'
  try clear c1
  try clear p2
  try clear c3
  obtain ⟨x5_1, x6_1, rfl, rfl, HA, HK1, BK283, HB⟩ := hrel
  cases gk with
  | zero => exact absurd HA.out (by simp [pr_Open.l0])
  | succ k1 =>
   have H := HA.out
   clear HA
   simp only [pr_Open.l0] at H
   by_cases c4 : x6_1 < a0_0
   ·rw [if_pos c4] at H
    have c4b0 : decide (x6_1 < a0_0) = true := decide_eq_true c4
    clear c4
    replace H := Option.bind_eq_some_iff.mp H
    obtain ⟨t284, A50, H⟩ := H
    replace H : (if t284 = 0 then (pr_Open.l0 k1 l1 x5_1 (wrap64 (x6_1 + 1)) a0_0 l0_1 l0_2) else (if 0 ≤ (IntKind.u64.wrap (x6_1)) then (pr_Open.l0 k1 l1 (Go.bits .or .i64 x5_1 (shl .i64 1 (IntKind.u64.wrap (x6_1)))) (wrap64 (x6_1 + 1)) a0_0 l0_1 l0_2) else (none))) = some r := H
    have A5 := mkA A50
    clear A50
    by_cases c6 : t284 = 0
    ·rw [if_pos c6] at H
     have c6b0 : (t284 == 0) = true := beq_iff_eq.mpr c6
     have c6b1 : (t284 != 0) = false := bne_eq_false_iff_eq.mpr c6
     clear c6
     have H' := mkA H
     clear H
     have hcz7_0 : wr.cell? ⟨gb283, 0, none⟩ = some (.int .i64 a0_0) := (z13 BK283.out 0).trans rfl
     have hcz7_1 : wr.cell? ⟨gb283, 1, none⟩ = some (.slice A0_1 l0_1.length c0_1) := (z13 BK283.out 1).trans rfl
     have hcz7_2 : wr.cell? ⟨gb283, 2, none⟩ = some (.slice A0_2 l0_2.length c0_2) := (z13 BK283.out 2).trans rfl
     have hfz7_0 := z14 BK283.out 0
     have hfz7_1 := z14 BK283.out 1
     have hfz7_2 := z14 BK283.out 2
     go_wp2_with (first | ((with_reducible refine z23 (f := 54) rfl ?_); refine goesL_ (some 16) rfl rfl Try.func54 (by kernel_rfl) rfl #[.agg #[.int .i64 a0_0, .slice A0_1 l0_1.length c0_1, .slice A0_2 l0_2.length c0_2], .slice A1 l1.length c1, .int .i64 x6_1] rfl (by (try simp only [List.map_toArray, List.map_cons, List.map_nil]); first | done | rfl | (simp only [List.length_drop, List.length_take]; rfl)) ?_; (with_reducible refine (pr_Owed.calls k1 a0_0 _ _ l0_1 _ _ l0_2 _ _ l1 x6_1 t284 _ ?side1 ?side2 ?side3 ?side4 ?side5 ?side6 A5.out).mono ?_); (case side1 => repeat (first | exact (Kd.C_below HR0_1.out HB.out) | (with_reducible refine Kd.C_alloc ?_ _) | (with_reducible refine Kd.C_drewN ?_ _) | (with_reducible refine Kd.C_drew ?_))); (case side2 => exact HC0_1.out); (case side3 => repeat (first | exact (Kd.C_below HR0_2.out HB.out) | (with_reducible refine Kd.C_alloc ?_ _) | (with_reducible refine Kd.C_drewN ?_ _) | (with_reducible refine Kd.C_drew ?_))); (case side4 => exact HC0_2.out); (case side5 => repeat (first | exact (Kd.C_below HR1.out HB.out) | (with_reducible refine Kd.C_alloc ?_ _) | (with_reducible refine Kd.C_drewN ?_ _) | (with_reducible refine Kd.C_drew ?_))); (case side6 => exact HC1.out); rintro e w8 ⟨rfl, hb⟩; refine ⟨_, rfl, ?_⟩; have n0_ := mkA (blk_below (g := gb283) (o := .cells #[.int .i64 a0_0, .slice A0_1 l0_1.length c0_1, .slice A0_2 l0_2.length c0_2] 25 (0, 0)) (by (with_reducible repeat (first | refine z16 ?_ _ | refine z28 ?_ | refine z27 ?_ _)); exact BK283.out) hb); have n1_ := mkA (z17 (by repeat (first | (with_reducible first | exact HB.out | apply z11 | apply z10 | apply z12 | refine z15 ?_ GE283.out) | exact HB.out)) hb); clear BK283; clear HB; have BK283 := n0_; have HB := n1_; clear n0_ n1_; (try clear hb); (try clear hb2); (try clear hk); (try clear hi)))
     go_roundg k1
     case measure => have := HK1.out; omega
     case rel => exact ⟨(x5_1), (wrap64 (x6_1 + 1)), (by first | rfl | (simp; done) | (simp [*]; done)), (by first | rfl | (simp; done) | (simp [*]; done)), H', ⟨by have := HK1.out; omega⟩, ⟨by (with_reducible repeat (first | refine z16 ?_ _ | refine z28 ?_ | refine z27 ?_ _)); exact BK283.out⟩, ⟨by repeat (first | (with_reducible first | exact HB.out | apply z11 | apply z10 | apply z12 | refine z15 ?_ GE283.out) | exact HB.out)⟩⟩
    ·rw [if_neg c6] at H
     have c6b0 : (t284 == 0) = false := beq_eq_false_iff_ne.mpr c6
     have c6b1 : (t284 != 0) = true := bne_iff_ne.mpr c6
     obtain ⟨ji9, hji9⟩ : ∃ j_ : Int, (IntKind.u64.wrap (x6_1)) = j_ := ⟨_, rfl⟩
     replace H : (if 0 ≤ (ji9) then (pr_Open.l0 k1 l1 (Go.bits .or .i64 x5_1 (shl .i64 1 (ji9))) (wrap64 (x6_1 + 1)) a0_0 l0_1 l0_2) else (none)) = some r := by first | (rw [hji9] at H; exact H) | (simp only [hji9] at H ⊢; exact H)
     (try rw [hji9] at A5)
     by_cases c10 : 0 ≤ (ji9)
     ·rw [if_pos c10] at H
      have c10b0 := eq_true c10
      have c10b1 : decide (0 ≤ (ji9)) = true := decide_eq_true c10
      clear c10
      obtain ⟨ji11, hji11⟩ : ∃ j_ : Int, (shl .i64 1 (ji9)) = j_ := ⟨_, rfl⟩
      replace H : (pr_Open.l0 k1 l1 (Go.bits .or .i64 x5_1 (ji11)) (wrap64 (x6_1 + 1)) a0_0 l0_1 l0_2) = some r := by first | (rw [hji11] at H; exact H) | (simp only [hji11] at H ⊢; exact H)
      (try rw [hji11] at A5)
      have hji11_ : (IntKind.i64.wrap (1 * 2 ^ min (ji9).toNat 64)) = ji11 := hji11
      have hji11z : (ji9) ≤ 64 → (IntKind.i64.wrap (1 * 2 ^ (ji9).toNat)) = ji11 := shl_small hji11
      have hji11u : (IntKind.i64.wrap (2 ^ min (ji9).toNat 64)) = ji11 := by have h_ := hji11_; rw [Int.one_mul] at h_; exact h_
      have hji11v : (ji9) ≤ 64 → (IntKind.i64.wrap (2 ^ (ji9).toNat)) = ji11 := fun hle_ => by have h_ := hji11z hle_; rw [Int.one_mul] at h_; exact h_
      have hji11y : (wrap64 (1 * 2 ^ min (ji9).toNat 64)) = ji11 := (i64_w _).symm.trans hji11_
      have hji11x : (ji9) ≤ 64 → (wrap64 (1 * 2 ^ (ji9).toNat)) = ji11 := fun h_ => (i64_w _).symm.trans (hji11z h_)
      have H' := mkA H
      clear H
      have hcz12_0 : wr.cell? ⟨gb283, 0, none⟩ = some (.int .i64 a0_0) := (z13 BK283.out 0).trans rfl
      have hcz12_1 : wr.cell? ⟨gb283, 1, none⟩ = some (.slice A0_1 l0_1.length c0_1) := (z13 BK283.out 1).trans rfl
      have hcz12_2 : wr.cell? ⟨gb283, 2, none⟩ = some (.slice A0_2 l0_2.length c0_2) := (z13 BK283.out 2).trans rfl
      have hfz12_0 := z14 BK283.out 0
      have hfz12_1 := z14 BK283.out 1
      have hfz12_2 := z14 BK283.out 2
      go_wp2_with (first | ((with_reducible refine z23 (f := 54) rfl ?_); refine goesL_ (some 16) rfl rfl Try.func54 (by kernel_rfl) rfl #[.agg #[.int .i64 a0_0, .slice A0_1 l0_1.length c0_1, .slice A0_2 l0_2.length c0_2], .slice A1 l1.length c1, .int .i64 x6_1] rfl (by (try simp only [List.map_toArray, List.map_cons, List.map_nil]); first | done | rfl | (simp only [List.length_drop, List.length_take]; rfl)) ?_; (with_reducible refine (pr_Owed.calls k1 a0_0 _ _ l0_1 _ _ l0_2 _ _ l1 x6_1 t284 _ ?side1 ?side2 ?side3 ?side4 ?side5 ?side6 A5.out).mono ?_); (case side1 => repeat (first | exact (Kd.C_below HR0_1.out HB.out) | (with_reducible refine Kd.C_alloc ?_ _) | (with_reducible refine Kd.C_drewN ?_ _) | (with_reducible refine Kd.C_drew ?_))); (case side2 => exact HC0_1.out); (case side3 => repeat (first | exact (Kd.C_below HR0_2.out HB.out) | (with_reducible refine Kd.C_alloc ?_ _) | (with_reducible refine Kd.C_drewN ?_ _) | (with_reducible refine Kd.C_drew ?_))); (case side4 => exact HC0_2.out); (case side5 => repeat (first | exact (Kd.C_below HR1.out HB.out) | (with_reducible refine Kd.C_alloc ?_ _) | (with_reducible refine Kd.C_drewN ?_ _) | (with_reducible refine Kd.C_drew ?_))); (case side6 => exact HC1.out); rintro e w13 ⟨rfl, hb⟩; refine ⟨_, rfl, ?_⟩; have n0_ := mkA (blk_below (g := gb283) (o := .cells #[.int .i64 a0_0, .slice A0_1 l0_1.length c0_1, .slice A0_2 l0_2.length c0_2] 25 (0, 0)) (by (with_reducible repeat (first | refine z16 ?_ _ | refine z28 ?_ | refine z27 ?_ _)); exact BK283.out) hb); have n1_ := mkA (z17 (by repeat (first | (with_reducible first | exact HB.out | apply z11 | apply z10 | apply z12 | refine z15 ?_ GE283.out) | exact HB.out)) hb); clear BK283; clear HB; have BK283 := n0_; have HB := n1_; clear n0_ n1_; (try clear hb); (try clear hb2); (try clear hk); (try clear hi)))
      go_roundg k1
      case measure => have := HK1.out; omega
      case rel => exact ⟨(Go.bits .or .i64 x5_1 (ji11)), (wrap64 (x6_1 + 1)), (by first | rfl | (simp; done) | (simp only [← hji11] <;> (first | rfl | simp)) | (simp [*]; done)), (by first | rfl | (simp; done) | (simp [*]; done)), H', ⟨by have := HK1.out; omega⟩, ⟨by (with_reducible repeat (first | refine z16 ?_ _ | refine z28 ?_ | refine z27 ?_ _)); exact BK283.out⟩, ⟨by repeat (first | (with_reducible first | exact HB.out | apply z11 | apply z10 | apply z12 | refine z15 ?_ GE283.out) | exact HB.out)⟩⟩
     ·rw [if_neg c10] at H
      exact absurd H (by simp)
   ·rw [if_neg c4] at H
    have c4b0 : decide (x6_1 < a0_0) = false := decide_eq_false c4
    clear c4
    obtain rfl := Option.some.inj H
    have hcz14_0 : wr.cell? ⟨gb283, 0, none⟩ = some (.int .i64 a0_0) := (z13 BK283.out 0).trans rfl
    have hcz14_1 : wr.cell? ⟨gb283, 1, none⟩ = some (.slice A0_1 l0_1.length c0_1) := (z13 BK283.out 1).trans rfl
    have hcz14_2 : wr.cell? ⟨gb283, 2, none⟩ = some (.slice A0_2 l0_2.length c0_2) := (z13 BK283.out 2).trans rfl
    have hfz14_0 := z14 BK283.out 0
    have hfz14_1 := z14 BK283.out 1
    have hfz14_2 := z14 BK283.out 2
    go_wp2
    go_ret
    exact ⟨by first | rfl | (simp [z20, z19] <;> rfl) | (simp [*, z20, z19] <;> rfl), by repeat (first | (with_reducible first | exact HB.out | apply z11 | apply z10 | apply z12 | refine z15 ?_ GE283.out) | exact HB.out)⟩
/-! ### pr_Payments: function 55 -/
def pr_Payments.f (k : Nat) (a0_0 : Int) (l0_1 : List (S91)) (l0_2 : List (S94)) (l1 : List Int) : Option (Int) := (pr_Open.f k a0_0 l0_1 l0_2 l1).bind fun t321 => ((pr_Bits.f k t321).bind fun t322 => ((pr_Most.f k a0_0 l0_1 l0_2 l1 t321).bind fun t325 => (some (wrap64 ((t322.length : Int) - t325)))))
def pr_Payments.T2 : Bool × List (List Nat × List Nat) := (true, [([], []), ([0], [0]), ([1], [1]), ([], []), ([], []), ([], []), ([3, 4, 5, 1], [3, 4, 5]), ([2, 6], [2, 6]), ([7, 6, 0, 1, 2, 3, 4, 5, 6, 7], [7])])
def pr_Payments.B2 : List Nat := [0, 1, 3, 0, 0, 0, 59, 127, 255]
theorem pr_Payments.tab2 : rtab .any (opsOf Try.f55 2) = pr_Payments.T2 := by kernel_rfl
theorem pr_Payments.bits2 : waitsOk pr_Payments.T2.2 pr_Payments.B2 = true := by kernel_rfl
set_option maxHeartbeats 8000000 in
set_option maxRecDepth 100000 in
theorem pr_Payments.calls (k : Nat) (a0_0 : Int) (A0_1 : Option Addr) (c0_1 : Nat) (l0_1 : List (S91)) (A0_2 : Option Addr) (c0_2 : Nat) (l0_2 : List (S94)) (A1 : Option Addr) (c1 : Nat) (l1 : List Int) (r : Int) (w : World) (hr0_1 : Kd.C k91 w A0_1 l0_1.length l0_1) (hc0_1 : l0_1.length ≤ c0_1) (hr0_2 : Kd.C k94 w A0_2 l0_2.length l0_2) (hc0_2 : l0_2.length ≤ c0_2) (hr1 : Kd.C (Kd.int .i64) w A1 l1.length l1) (hc1 : l1.length ≤ c1) (h : pr_Payments.f k a0_0 l0_1 l0_2 l1 = some r) :
  Calls Try.prog 55 #[.agg #[.int .i64 a0_0, .slice A0_1 l0_1.length c0_1, .slice A0_2 l0_2.length c0_2], .slice A1 l1.length c1] w fun e w' => e = .returned (.int .i64 r) ∧ Below w.heap.size w w' := by
 have hu25 := Try.underlying25
 have HR0_1 := mkA hr0_1
 have HC0_1 := mkA hc0_1
 clear hr0_1 hc0_1
 have HR0_2 := mkA hr0_2
 have HC0_2 := mkA hc0_2
 clear hr0_2 hc0_2
 have HR1 := mkA hr1
 have HC1 := mkA hc1
 clear hr1 hc1
 have HB := mkA (Below.refl w.heap.size w)
 have H : ((pr_Open.f k a0_0 l0_1 l0_2 l1).bind fun t321 => ((pr_Bits.f k t321).bind fun t322 => ((pr_Most.f k a0_0 l0_1 l0_2 l1 t321).bind fun t325 => (some (wrap64 ((t322.length : Int) - t325)))))) = some r := h
 clear h
 replace H := Option.bind_eq_some_iff.mp H
 obtain ⟨t321, A30, H⟩ := H
 replace H : ((pr_Bits.f k t321).bind fun t322 => ((pr_Most.f k a0_0 l0_1 l0_2 l1 t321).bind fun t325 => (some (wrap64 ((t322.length : Int) - t325))))) = some r := H
 have A3 := mkA A30
 clear A30
 replace H := Option.bind_eq_some_iff.mp H
 obtain ⟨t322, A40, H⟩ := H
 replace H : ((pr_Most.f k a0_0 l0_1 l0_2 l1 t321).bind fun t325 => (some (wrap64 ((t322.length : Int) - t325)))) = some r := H
 have A4 := mkA A40
 clear A40
 replace H := Option.bind_eq_some_iff.mp H
 obtain ⟨t325, A50, H⟩ := H
 replace H : (some (wrap64 ((t322.length : Int) - t325))) = some r := H
 have A5 := mkA A50
 clear A50
 obtain rfl := Option.some.inj H
 go_enter Try.func55, Try.ntmps55
 try go_wp2_with (first | ((with_reducible refine z24 (N := 2) rfl ?_); refine z22 ?hg (N := 2) ?hd (cs := #[.int .i64 a0_0, .slice A0_1 l0_1.length c0_1, .slice A0_2 l0_2.length c0_2]) (t := 25) ?hr ?_; (case hd => rfl); (case hg => rfl); (case hr => first | (go_simp; done) | (go_simp; rfl)); intro gb320 hg w6 hbox hb; have n0_ := mkA (z17 (by repeat (first | (with_reducible first | exact HB.out | apply z11 | apply z10 | apply z12) | exact HB.out)) hb); have n1_ := mkA (hbox); have n2_ := mkA ((by rw [hg]; exact (z18 (by repeat (first | (with_reducible first | exact HB.out | apply z11 | apply z10 | apply z12) | exact HB.out))) : w.heap.size ≤ gb320)); have n3_ := mkA ((by rw [hg]; exact (z18 (by repeat (first | (with_reducible first | exact HB.out | apply z11 | apply z10 | apply z12) | exact HB.out))) : w.heap.size ≤ gb320)); clear HB; have HB := n0_; have BK320 := n1_; have GW320 := n2_; have GE320 := n3_; clear n0_ n1_ n2_ n3_; clear hb hbox hg; have hcz7_0 : w6.cell? ⟨gb320, 0, none⟩ = some (.int .i64 a0_0) := (z13 BK320.out 0).trans rfl; have hcz7_1 : w6.cell? ⟨gb320, 1, none⟩ = some (.slice A0_1 l0_1.length c0_1) := (z13 BK320.out 1).trans rfl; have hcz7_2 : w6.cell? ⟨gb320, 2, none⟩ = some (.slice A0_2 l0_2.length c0_2) := (z13 BK320.out 2).trans rfl; have hfz7_0 := z14 BK320.out 0; have hfz7_1 := z14 BK320.out 1; have hfz7_2 := z14 BK320.out 2) | ((with_reducible refine z23 (f := 34) rfl ?_); refine goesL_ (some 8) rfl rfl Try.func34 (by kernel_rfl) rfl #[.agg #[.int .i64 a0_0, .slice A0_1 l0_1.length c0_1, .slice A0_2 l0_2.length c0_2], .slice A1 l1.length c1] rfl (by (try simp only [List.map_toArray, List.map_cons, List.map_nil]); first | done | rfl | (simp only [List.length_drop, List.length_take]; rfl)) ?_; (with_reducible refine (pr_Open.calls k a0_0 _ _ l0_1 _ _ l0_2 _ _ l1 t321 _ ?side1 ?side2 ?side3 ?side4 ?side5 ?side6 A3.out).mono ?_); (case side1 => repeat (first | exact (Kd.C_below HR0_1.out HB.out) | (with_reducible refine Kd.C_alloc ?_ _) | (with_reducible refine Kd.C_drewN ?_ _) | (with_reducible refine Kd.C_drew ?_))); (case side2 => exact HC0_1.out); (case side3 => repeat (first | exact (Kd.C_below HR0_2.out HB.out) | (with_reducible refine Kd.C_alloc ?_ _) | (with_reducible refine Kd.C_drewN ?_ _) | (with_reducible refine Kd.C_drew ?_))); (case side4 => exact HC0_2.out); (case side5 => repeat (first | exact (Kd.C_below HR1.out HB.out) | (with_reducible refine Kd.C_alloc ?_ _) | (with_reducible refine Kd.C_drewN ?_ _) | (with_reducible refine Kd.C_drew ?_))); (case side6 => exact HC1.out); rintro e w8 ⟨rfl, hb⟩; refine ⟨_, rfl, ?_⟩; have n0_ := mkA (blk_below (g := gb320) (o := .cells #[.int .i64 a0_0, .slice A0_1 l0_1.length c0_1, .slice A0_2 l0_2.length c0_2] 25 (0, 0)) (by (with_reducible repeat (first | refine z16 ?_ _ | refine z28 ?_ | refine z27 ?_ _)); exact BK320.out) hb); have n1_ := mkA (z17 (by repeat (first | (with_reducible first | exact HB.out | apply z11 | apply z10 | apply z12 | refine z15 ?_ GE320.out) | exact HB.out)) hb); clear BK320; clear HB; have BK320 := n0_; have HB := n1_; clear n0_ n1_; (try clear hb); (try clear hb2); (try clear hk); (try clear hi)))
 have n0_ := mkA (z28 BK320.out)
 have n1_ := mkA (z12 HB.out)
 clear BK320
 clear HB
 have BK320 := n0_
 have HB := n1_
 clear n0_ n1_
 refine start_ (n := 9) (S := fun w' => w'.cell? ⟨gb320, 0, none⟩ = some (.int .i64 a0_0) ∧ w'.cell? ⟨gb320, 1, none⟩ = some (.slice A0_1 l0_1.length c0_1) ∧ w'.cell? ⟨gb320, 2, none⟩ = some (.slice A0_2 l0_2.length c0_2)) (ds := []) #[false, false, false, false, false, false, false, false, false] (by kernel_rfl) rfl rfl ⟨(z13 BK320.out 0).trans rfl, (z13 BK320.out 1).trans rfl, (z13 BK320.out 2).trans rfl⟩ (fun hHeld => ?_); refine z51 pr_Payments.tab2 pr_Payments.bits2 (fun HT_ HW_ => ?_)
 generalize w8.drew = w9 at BK320 HB hHeld ⊢
 refine pure_ (i := 0) (N := some 9) (v := ?_) (a' := ?_) #[true, false, false, false, false, false, false, false, false] rfl rfl (any_of HT_.out (by kernel_rfl)) (fun _ _ _ h => h) (Or.inl ⟨by rfl, ?_⟩) ?_ ?_
 rotate_left
 ·intro w'
  go_simp
  with_reducible rfl
 rotate_left
 ·simp only [Act.put, xq1, xq2, xq3, i64_w, i32_w]
  rfl
 refine pure_ (i := 4) (N := some 13) (v := ?_) (a' := ?_) #[true, false, false, false, true, false, false, false, false] rfl rfl (any_of HT_.out (by kernel_rfl)) (fun _ _ _ h => h) (Or.inl ⟨by rfl, ?_⟩) ?_ ?_
 rotate_left
 ·intro w'
  go_simp
  with_reducible rfl
 rotate_left
 ·simp only [Act.put, xq1, xq2, xq3, i64_w, i32_w]
  rfl
 refine pure_ (i := 5) (N := some 14) (v := ?_) (a' := ?_) #[true, false, false, false, true, true, false, false, false] rfl rfl (any_of HT_.out (by kernel_rfl)) (fun _ _ _ h => h) (Or.inl ⟨by rfl, ?_⟩) ?_ ?_
 rotate_left
 ·intro w'
  go_simp
  with_reducible rfl
 rotate_left
 ·simp only [Act.put, xq1, xq2, xq3, i64_w, i32_w]
  rfl
 refine take_ (i := 3) (N := some 12) (v := ?_) (a' := ?_) #[true, false, false, true, true, true, false, false, false] rfl rfl (z33 HT_.out HW_.out (by kernel_rfl)) (fun _ _ _ h => h) (Or.inl ⟨by rfl, ?_⟩) hHeld ?_ ?_
 rotate_left
 ·rintro w' ⟨s0, s1, s2⟩
  go_simp
  with_reducible rfl
 rotate_left
 ·simp only [Act.put, xq1, xq2, xq3, i64_w, i32_w]
  rfl
 refine one_ (i := 1) (N := some 10) #[true, true, false, true, true, true, false, false, false] rfl rfl (one_of HT_.out (by kernel_rfl)) (by decide) (fun K hK => ?_)
 refine goes_ Try.func58 (by kernel_rfl) rfl #[.int .i64 t321] (by rfl) rfl rfl (by (try simp only [List.map_toArray, List.map_cons, List.map_nil]); first | done | rfl | (simp only [List.length_drop, List.length_take]; rfl)) ?_
 with_reducible refine (pr_Bits.calls k t321 t322 _ A4.out).mono ?_
 rintro e w10 ⟨v323, rfl, ho0, hb⟩
 refine ⟨_, rfl, ?_⟩
 have n0_ := mkA (Kd.R_lower ho0 (z18 (by repeat (first | (with_reducible first | exact HB.out | apply z11 | apply z10 | apply z12 | refine z15 ?_ GE320.out) | exact HB.out))))
 have n1_ := mkA (blk_below (g := gb320) (o := .cells #[.int .i64 a0_0, .slice A0_1 l0_1.length c0_1, .slice A0_2 l0_2.length c0_2] 25 (0, 0)) (by (with_reducible repeat (first | refine z16 ?_ _ | refine z28 ?_ | refine z27 ?_ _)); exact BK320.out) hb)
 have n2_ := mkA (z17 (by repeat (first | (with_reducible first | exact HB.out | apply z11 | apply z10 | apply z12 | refine z15 ?_ GE320.out) | exact HB.out)) hb)
 clear BK320
 clear HB
 have HO324 := n0_
 have BK320 := n1_
 have HB := n2_
 clear n0_ n1_ n2_
 (try clear hb)
 (try clear hb2)
 (try clear hk)
 (try clear hi)
 (try clear ho0)
 obtain ⟨Ao11, co11, eo11⟩ := Kd.R_slice HO324.out
 (first | subst eo11 | (injection eo11 with f1_ f2_ f3_; have f4_ := f1_.symm; have f5_ := f3_.symm; clear f1_ f2_ f3_; subst f4_; subst f5_))
 refine hK.out _ _ ⟨(z13 BK320.out 0).trans rfl, (z13 BK320.out 1).trans rfl, (z13 BK320.out 2).trans rfl⟩ (fun hHeld => ?_)
 clear hK K
 refine norm_ (a' := ?_) ?_ ?_
 rotate_left
 ·show Act.put _ (some 10) _ = _
  simp only [Act.put, xq1, xq2, xq3, i64_w, i32_w]
  rfl
 refine pure_ (i := 2) (N := some 11) (v := ?_) (a' := ?_) #[true, true, true, true, true, true, false, false, false] rfl rfl (any_of HT_.out (by kernel_rfl)) (fun _ _ _ h => h) (Or.inl ⟨by rfl, ?_⟩) ?_ ?_
 rotate_left
 ·intro w'
  go_simp
  with_reducible rfl
 rotate_left
 ·simp only [Act.put, xq1, xq2, xq3, i64_w, i32_w]
  rfl
 refine one_ (i := 6) (N := some 15) #[true, true, true, true, true, true, true, false, false] rfl rfl (one_of HT_.out (by kernel_rfl)) (by decide) (fun K hK => ?_)
 refine goes_ Try.func33 (by kernel_rfl) rfl #[.agg #[.int .i64 a0_0, .slice A0_1 l0_1.length c0_1, .slice A0_2 l0_2.length c0_2], .slice A1 l1.length c1, .int .i64 t321] (by rfl) rfl rfl (by (try simp only [List.map_toArray, List.map_cons, List.map_nil]); first | done | rfl | (simp only [List.length_drop, List.length_take]; rfl)) ?_
 with_reducible refine (pr_Most.calls k a0_0 _ _ l0_1 _ _ l0_2 _ _ l1 t321 t325 _ ?side1 ?side2 ?side3 ?side4 ?side5 ?side6 A5.out).mono ?_
 (case side1 => repeat (first | exact (Kd.C_below HR0_1.out HB.out) | (with_reducible refine Kd.C_alloc ?_ _) | (with_reducible refine Kd.C_drewN ?_ _) | (with_reducible refine Kd.C_drew ?_)))
 (case side2 => exact HC0_1.out)
 (case side3 => repeat (first | exact (Kd.C_below HR0_2.out HB.out) | (with_reducible refine Kd.C_alloc ?_ _) | (with_reducible refine Kd.C_drewN ?_ _) | (with_reducible refine Kd.C_drew ?_)))
 (case side4 => exact HC0_2.out)
 (case side5 => repeat (first | exact (Kd.C_below HR1.out HB.out) | (with_reducible refine Kd.C_alloc ?_ _) | (with_reducible refine Kd.C_drewN ?_ _) | (with_reducible refine Kd.C_drew ?_)))
 (case side6 => exact HC1.out)
 rintro e w12 ⟨rfl, hb⟩
 refine ⟨_, rfl, ?_⟩
 have n0_ := mkA (Kd.R_below (by (with_reducible repeat (first | apply Kd.R_alloc | apply Kd.R_drewN | apply Kd.R_drew)); exact HO324.out) hb)
 have n1_ := mkA (blk_below (g := gb320) (o := .cells #[.int .i64 a0_0, .slice A0_1 l0_1.length c0_1, .slice A0_2 l0_2.length c0_2] 25 (0, 0)) (by (with_reducible repeat (first | refine z16 ?_ _ | refine z28 ?_ | refine z27 ?_ _)); exact BK320.out) hb)
 have n2_ := mkA (z17 (by repeat (first | (with_reducible first | exact HB.out | apply z11 | apply z10 | apply z12 | refine z15 ?_ GE320.out) | exact HB.out)) hb)
 clear HO324
 clear BK320
 clear HB
 have HO324 := n0_
 have BK320 := n1_
 have HB := n2_
 clear n0_ n1_ n2_
 (try clear hb)
 (try clear hb2)
 (try clear hk)
 (try clear hi)
 refine hK.out _ _ ⟨(z13 BK320.out 0).trans rfl, (z13 BK320.out 1).trans rfl, (z13 BK320.out 2).trans rfl⟩ (fun hHeld => ?_)
 clear hK K
 refine norm_ (a' := ?_) ?_ ?_
 rotate_left
 ·show Act.put _ (some 15) _ = _
  simp only [Act.put, xq1, xq2, xq3, i64_w, i32_w]
  rfl
 refine pure_ (i := 7) (N := some 16) (v := ?_) (a' := ?_) #[true, true, true, true, true, true, true, true, false] rfl rfl (any_of HT_.out (by kernel_rfl)) (fun _ _ _ h => h) (Or.inl ⟨by rfl, ?_⟩) ?_ ?_
 rotate_left
 ·intro w'
  go_simp
  with_reducible rfl
 rotate_left
 ·simp only [Act.put, xq1, xq2, xq3, i64_w, i32_w]
  rfl
 refine pure_ (i := 8) (N := some 4) (v := ?_) (a' := ?_) #[true, true, true, true, true, true, true, true, true] rfl rfl (any_of HT_.out (by kernel_rfl)) (fun _ _ _ h => h) (Or.inl ⟨by rfl, ?_⟩) ?_ ?_
 rotate_left
 ·intro w'
  go_simp
  with_reducible rfl
 rotate_left
 ·simp only [Act.put, xq1, xq2, xq3, i64_w, i32_w]
  rfl
 refine done_ (done_of HT_.out (by kernel_rfl)) ?_
 try go_wp2
 go_ret
 exact ⟨by first | rfl | (simp [z20, z19] <;> rfl) | (simp [*, z20, z19] <;> rfl), by repeat (first | (with_reducible first | exact HB.out | apply z11 | apply z10 | apply z12 | refine z15 ?_ GE320.out) | exact HB.out)⟩
/-! ### pr_Fewest: function 38 -/
def pr_Fewest.l0 : Nat → List (List Int) → Int → Int → List (S91) → List (S94) → Int → Int → Option (Int × Int)
 | 0, _, _, _, _, _, _, _ => none
 | k + 1, x1, x6, x327000, x327001, x327002, x331000, x331001 => if x6 < (x1.length : Int) then (if 0 ≤ x6 then ((pr_Payments.f k x327000 x327001 x327002 (rd_L4 x1 x6)).bind fun t332 => ((pr_Wider.f x331000 x331001 t332).bind fun bt333 => (pr_Fewest.l0 k x1 (wrap64 (x6 + 1)) x327000 x327001 x327002 bt333.1 bt333.2))) else (none)) else (some (x331000, x331001))
def pr_Fewest.f (k : Nat) (a0_0 : Int) (l0_1 : List (S91)) (l0_2 : List (S94)) (l1 : List (List Int)) : Option (Int × Int) := (pr_Empty.f).bind fun bt328 => (pr_Fewest.l0 k l1 0 a0_0 l0_1 l0_2 bt328.1 bt328.2)
end Go.Proofs.Ytncaadckehikpaa.Q
namespace Go.Proofs.Ytncaadckehikpaa.Q
open Go.RowKit Go.Proofs.YtncaadckehikpaaW.PrintWords Go.Proofs.YtncaadckehikpaaW.PrintLast Go.Proofs.YtncaadckehikpaaW.PrintMore
set_option linter.unusedVariables false
set_option linter.unusedSimpArgs false
/-- Some women are among others. -/
def SubB (a b : Nat) : Prop := ∀ i, i < 6 → bitN a i = true → bitN b i = true
theorem SubB.trans {a b c : Nat} (h : SubB a b) (k : SubB b c) : SubB a c := fun i hi q => k i hi (h i hi q)
theorem SubB.refl (a : Nat) : SubB a a := fun _ _ h => h
set_option maxRecDepth 100000 in
theorem bit_sub_all : ∀ a : Fin 64, ∀ b : Fin 64, (∀ i : Fin 6, bitN a.val i.val = true → bitN b.val i.val = true) → a.val ≤ b.val ∧ (a.val = b.val ∨ ∃ i : Fin 6, bitN b.val i.val = true ∧ bitN a.val i.val = false) ∧ ∀ i : Fin 6, bitN (b.val - a.val) i.val = (bitN b.val i.val && !bitN a.val i.val) := by decide +kernel
theorem bit_sub {a b : Nat} (ha : a < 64) (hb : b < 64) (h : SubB a b) : a ≤ b ∧ (a = b ∨ ∃ i, i < 6 ∧ bitN b i = true ∧ bitN a i = false) ∧ ∀ i, i < 6 → bitN (b - a) i = (bitN b i && !bitN a i) := by
  obtain ⟨h1, h2, h3⟩ := bit_sub_all ⟨a, ha⟩ ⟨b, hb⟩ (fun i q => h i.val i.isLt q)
  exact ⟨h1, h2.imp id (fun ⟨i, q⟩ => ⟨i.val, i.isLt, q⟩), fun i hi => h3 ⟨i, hi⟩⟩
set_option maxRecDepth 100000 in
theorem clr_bits_all : ∀ b : Fin 64, ∀ i : Fin 6, ∀ j : Fin 6, bitN (clr b.val i.val) j.val = (bitN b.val j.val && !(i.val == j.val)) := by decide +kernel
theorem clr_bits {b i j : Nat} (hb : b < 64) (hi : i < 6) (hj : j < 6) : bitN (clr b i) j = (bitN b j && !(i == j)) := clr_bits_all ⟨b, hb⟩ ⟨i, hi⟩ ⟨j, hj⟩
theorem clr_le (b i : Nat) : clr b i ≤ b := by
  unfold clr
  split
  · exact Nat.sub_le _ _
  · exact Nat.le_refl _
theorem clr_sub {b i : Nat} (hb : b < 64) (hi : i < 6) : SubB (clr b i) b := fun j hj h => by
  rw [clr_bits hb hi hj, Bool.and_eq_true] at h
  exact h.1
theorem sub_clr {a b i : Nat} (hb : b < 64) (hi : i < 6) (h : SubB a b) (ha : bitN a i = false) : SubB a (clr b i) := fun j hj q => by
  rw [clr_bits hb hi hj, Bool.and_eq_true]
  refine ⟨h j hj q, ?_⟩
  by_cases e : i = j
  · subst e; rw [ha] at q; cases q
  · simp [e]
theorem ne_zero_of_bit {m i : Nat} (h : bitN m i = true) : m ≠ 0 := by
  intro e
  subst e
  have := bitN_le h
  have : 0 < 2 ^ i := Nat.two_pow_pos i
  omega
theorem bestTo_ge (f : Nat → Int) (m : Nat) : ∀ n i, i < n → bitN m i = true → f (clr m i) ≤ bestTo f m n
  | 0, i, h, _ => by omega
  | n + 1, i, h, hb => by
    have hm : ∀ a b : Int, a ≤ mx a b ∧ b ≤ mx a b := fun a b => by unfold mx; split <;> omega
    simp only [bestTo]
    by_cases e : i = n
    · subst e
      rw [if_pos hb]
      exact (hm _ _).2
    · have := bestTo_ge f m n i (by omega) hb
      split
      · exact Int.le_trans this (hm _ _).1
      · exact this
/-- One woman fewer has no more groups; if all sum to 0, one group fewer. -/
theorem F_clr (v : List Int) {m i : Nat} (hi : i < 6) (hb : bitN m i = true) : F v (clr m i) + (if sumN v m = 0 then 1 else 0) ≤ F v m := by
  rw [F_step v m (ne_zero_of_bit hb)]
  have := bestTo_ge (F v) m 6 i hi hb
  omega
theorem Fmono6 (v : List Int) : ∀ (k m a : Nat), m ≤ k → m < 64 → a < 64 → SubB a m → F v a ≤ F v m
  | 0, m, a, hk, hm, ha, h => by
    obtain ⟨h1, _, _⟩ := bit_sub ha hm h
    rw [show a = m by omega]
    exact Int.le_refl _
  | k + 1, m, a, hk, hm, ha, h => by
    obtain ⟨h1, h2, h3⟩ := bit_sub ha hm h
    rcases h2 with rfl | ⟨i, hi, hb, hn⟩
    · exact Int.le_refl _
    · have hlt := clr_lt hb
      have ih := Fmono6 v k (clr m i) a (by omega) (by omega) ha (sub_clr hm hi h hn)
      have := F_clr v hi hb
      split at this <;> omega
/-- A group that is taken away leaves one fewer at most. -/
theorem Ftake6 (v : List Int) {m g : Nat} (hm : m < 64) (hg : g < 64) (h : SubB g m) (h0 : g ≠ 0) (hs : sumN v m = 0) : 1 + F v (m - g) ≤ F v m := by
  obtain ⟨h1, h2, h3⟩ := bit_sub hg hm h
  obtain ⟨i, hi⟩ := has_bit_all ⟨g, hg⟩ h0
  have hbm := h i.val i.isLt hi
  have hf := F_clr v i.isLt hbm
  rw [if_pos hs] at hf
  have hsub : SubB (m - g) (clr m i.val) := fun j hj q => by
    rw [h3 j hj, Bool.and_eq_true] at q
    rw [clr_bits hm i.isLt hj, Bool.and_eq_true]
    refine ⟨q.1, ?_⟩
    by_cases e : i.val = j
    · rw [← e, show bitN g i.val = true from hi] at q
      simp at q
    · simp [e]
  have := Fmono6 v (clr m i.val) (clr m i.val) (m - g) (Nat.le_refl _) (by have := clr_le m i.val; omega) (by omega) hsub
  omega
theorem sumTo_sub (v : List Int) {a b : Nat} (ha : a < 64) (hb : b < 64) (h : SubB a b) : ∀ n, n ≤ 6 → sumTo v b n = sumTo v a n + sumTo v (b - a) n
  | 0, _ => by simp [sumTo]
  | n + 1, hn => by
    have ih := sumTo_sub v ha hb h n (by omega)
    obtain ⟨h1, h2, h3⟩ := bit_sub ha hb h
    simp only [sumTo]
    rw [h3 n (by omega)]
    have hx := h n (by omega)
    cases hbn : bitN b n <;> cases han : bitN a n <;> simp [hbn, han] at hx ⊢ <;> omega
theorem sumN_sub (v : List Int) {a b : Nat} (ha : a < 64) (hb : b < 64) (h : SubB a b) : sumN v b = sumN v a + sumN v (b - a) := sumTo_sub v ha hb h 6 (by omega)
/-- Some women who sum to 0 have as many groups. -/
theorem F_core (v : List Int) : ∀ (k m : Nat), m ≤ k → m < 64 → ∃ a, SubB a m ∧ a ≤ m ∧ sumN v a = 0 ∧ F v m = F v a
  | 0, m, hk, hm => ⟨m, SubB.refl m, Nat.le_refl _, by rw [show m = 0 by omega]; simp [sumN, sumTo, bitN], rfl⟩
  | k + 1, m, hk, hm => by
    by_cases h0 : m = 0
    · subst h0
      exact ⟨0, SubB.refl 0, Nat.le_refl _, by simp [sumN, sumTo, bitN], rfl⟩
    · by_cases hs : sumN v m = 0
      · exact ⟨m, SubB.refl m, Nat.le_refl _, hs, rfl⟩
      · obtain ⟨i0, hi0⟩ := has_bit_all ⟨m, hm⟩ h0
        obtain ⟨i, hi, hb, he⟩ := bestTo_hit (f := F v) (m := m) (fun j _ => (F_bd v _).1) 6 ⟨i0.val, i0.isLt, hi0⟩
        have hlt := clr_lt hb
        obtain ⟨a, h1, h2, h3, h4⟩ := F_core v k (clr m i) (by omega) (by omega)
        refine ⟨a, h1.trans (clr_sub hm hi), by omega, h3, ?_⟩
        rw [F_step v m h0, if_neg hs, ← he, h4]
        omega
/-- Whichever woman is asked for: a group with her begins a way that has as many groups. -/
theorem F_with (v : List Int) : ∀ (k m f : Nat), m ≤ k → m < 64 → f < 6 → bitN m f = true → sumN v m = 0 →
    ∃ g, g < 64 ∧ SubB g m ∧ bitN g f = true ∧ sumN v g = 0 ∧ F v m ≤ 1 + F v (m - g)
  | 0, m, f, hk, hm, hf, hb, hs => absurd (show m = 0 by omega) (ne_zero_of_bit hb)
  | k + 1, m, f, hk, hm, hf, hb, hs => by
    have h0 := ne_zero_of_bit hb
    obtain ⟨i, hi, hbi, he⟩ := bestTo_hit (f := F v) (m := m) (fun j _ => (F_bd v _).1) 6 ⟨f, hf, hb⟩
    have hlt := clr_lt hbi
    obtain ⟨a, a1, a2, a3, a4⟩ := F_core v (clr m i) (clr m i) (Nat.le_refl _) (by omega)
    have ham : SubB a m := a1.trans (clr_sub hm hi)
    have hF : F v m = 1 + F v a := by rw [F_step v m h0, if_pos hs, ← he, a4]; omega
    obtain ⟨b1, b2, b3⟩ := bit_sub (show a < 64 by omega) hm ham
    have hsum := sumN_sub v (show a < 64 by omega) hm ham
    by_cases haf : bitN a f = true
    · obtain ⟨g, g1, g2, g3, g4, g5⟩ := F_with v k a f (by omega) (by omega) hf haf a3
      have hgm : SubB g m := g2.trans ham
      obtain ⟨c1, c2, c3⟩ := bit_sub g1 (show a < 64 by omega) g2
      obtain ⟨d1, d2, d3⟩ := bit_sub g1 hm hgm
      refine ⟨g, g1, hgm, g3, g4, ?_⟩
      have hs2 : sumN v (m - g) = 0 := by have := sumN_sub v g1 hm hgm; omega
      have hsub : SubB (m - a) (m - g) := fun j hj q => by
        rw [b3 j hj, Bool.and_eq_true] at q
        rw [d3 j hj, Bool.and_eq_true]
        refine ⟨q.1, ?_⟩
        cases hg : bitN g j
        · rfl
        · have := g2 j hj hg
          rw [this] at q
          simp at q
      have ht := Ftake6 v (m := m - g) (g := m - a) (by omega) (by omega) hsub (by omega) hs2
      have e : m - g - (m - a) = a - g := by omega
      rw [e] at ht
      omega
    · refine ⟨m - a, by omega, fun j hj q => ?_, ?_, by omega, ?_⟩
      · rw [b3 j hj, Bool.and_eq_true] at q
        exact q.1
      · rw [b3 f hf, hb, show bitN a f = false by simpa using haf]
        rfl
      · rw [show m - (m - a) = a by omega, hF]
        exact Int.le_refl _
/-! The reference's search. -/
theorem rbits_all : ∀ m : Fin 64, pr_Bits.f 8 (m.val : Int) = some (bitsL m.val) := by decide +kernel
theorem Bits_f (k m : Nat) (h : m < 64) (hk : 8 ≤ k) : pr_Bits.f k (m : Int) = some (bitsL m) := by
  obtain ⟨d, rfl⟩ : ∃ d, k = 8 + d := ⟨k - 8, by omega⟩
  clear hk
  induction d with
  | zero => exact rbits_all ⟨m, h⟩
  | succ d ih => exact pr_Bits.mono _ _ _ ih
theorem bitsL_sum (v : List Int) (m : Nat) : ((bitsL m).map (fun i => rd v i)).sum = sumN v m := by
  unfold bitsL sumN
  have : ∀ n, ((((List.range n).filter (bitN m)).map Int.ofNat).map (fun i => rd v i)).sum = sumTo v m n := by
    intro n
    induction n with
    | zero => rfl
    | succ n ih =>
      rw [List.range_succ, List.filter_append, List.map_append, List.map_append, List.sum_append, ih]
      simp only [sumTo]
      cases h : bitN m n
      · simp [h]
      · simp [h]
  exact this 6
theorem bitsL_mem (m : Nat) : ∀ i ∈ bitsL m, 0 ≤ i ∧ i < 6 := by
  intro i hi
  unfold bitsL at hi
  obtain ⟨j, hj, rfl⟩ := List.mem_map.1 hi
  have := List.mem_range.1 (List.mem_filter.1 hj).1
  simp only [Int.ofNat_eq_natCast]
  omega
theorem rdI' (xs : List Int) (i : Nat) (h : i < xs.length) : rd xs (i : Int) = xs[i] := getD_of xs _ i h
section
variable (n : Int) (l1 : List S91) (l2 : List S94) (os : List Int) (hck : checkS n (l1.map c91) (l2.map c94) = 0) (ho : Small (l1.map c91) os)
set_option linter.unusedSectionVars false
include hck ho
theorem owed_500 (j : Int) : -500 ≤ rd (owedL (l1.map c91) os) j ∧ rd (owedL (l1.map c91) os) j ≤ 500 := by
  have := owedTo_bd (l1.map c91) os ho.2 (l1.map c91).length (Nat.le_refl _) j
  have hl := (z34 hck).2.2.1
  rw [List.length_map] at this
  unfold owedL
  rw [List.length_map]
  omega
theorem Together_l0 (bs : List Int) (hb : ∀ i ∈ bs, 0 ≤ i ∧ i < 6) (hbl : bs.length ≤ 6) : ∀ (d k i : Nat) (s : Int), i + d = bs.length → d + 7 < k → -(500 * (i : Int)) ≤ s → s ≤ 500 * (i : Int) →
    pr_Together.l0 k os s bs i n l1 l2 = some (s + ((bs.drop i).map (fun i => rd (owedL (l1.map c91) os) i)).sum)
  | 0, k + 1, i, s, hi, hk, h1, h2 => by
    rw [pr_Together.l0, if_neg (by omega), List.drop_of_length_le (by omega)]
    simp
  | d + 1, k + 1, i, s, hi, hk, h1, h2 => by
    have hn : i < bs.length := by omega
    have hm := hb _ (List.getElem_mem hn)
    have hv := owed_500 n l1 l2 os hck ho bs[i]
    rw [pr_Together.l0, if_pos (by omega), if_pos (by omega), rdI' bs i hn, Owed_f k n l1 l2 os _ hck ho hm.1 hm.2 (by omega), Option.bind_some, w1 i (by omega),
      show wrap64 (s + rd (owedL (l1.map c91) os) bs[i]) = s + rd (owedL (l1.map c91) os) bs[i] by unfold wrap64; omega, Together_l0 bs hb hbl d k (i + 1) _ (by omega) (by omega) (by omega) (by omega), List.drop_eq_getElem_cons hn, List.map_cons, List.sum_cons]
    refine congrArg some ?_
    omega
theorem Together_f (k m : Nat) (hm : m < 64) (hk : 20 ≤ k) : pr_Together.f k n l1 l2 os (m : Int) = some (sumN (owedL (l1.map c91) os) m) := by
  unfold pr_Together.f
  have hl := bitsL_length m
  rw [Bits_f k m hm (by omega), Option.bind_some]
  have := Together_l0 n l1 l2 os hck ho (bitsL m) (bitsL_mem m) hl (bitsL m).length k 0 0 (by omega) (by omega) (by simp) (by simp)
  refine Eq.trans (show pr_Together.l0 k os 0 (bitsL m) 0 n l1 l2 = _ from this) ?_
  rw [List.drop_zero, bitsL_sum, Int.zero_add]
end
end Go.Proofs.Ytncaadckehikpaa.Q
