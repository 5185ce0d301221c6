/- A part of the proof: contracts of functions and plain facts (Q15, HMostRef, HPay0). No condition. -/
import Derived.Test.YtncaadckehikpaaM3
import Derived.Test.YtncaadckehikpaaM13
import Derived.Test.YtncaadckehikpaaM14
import Derived.Test.YtncaadckehikpaaM22
import Derived.Test.YtncaadckehikpaaM10
import Derived.Test.YtncaadckehikpaaM19
namespace Go.Proofs.Ytncaadckehikpaa.Q
open Go.RowKit Go.Proofs.YtncaadckehikpaaW.PrintWords Go.Proofs.YtncaadckehikpaaW.PrintLast Go.Proofs.YtncaadckehikpaaW.PrintMore
attribute [local go_sem] z37 z36 max_two min_two   -- for this text's walks alone
set_option linter.unusedVariables false
set_option linter.unusedSimpArgs false
/-! ### pr_Open: function 34 -/
def pr_Open.l0 : Nat → List Int → Int → Int → Int → List (S91) → List (S94) → Option (Int)
 | 0, _, _, _, _, _, _ => none
 | k + 1, x1, x5, x6, x284000, x284001, x284002 => if x6 < x284000 then ((pr_Owed.f k x284000 x284001 x284002 x1 x6).bind fun t284 => (if t284 = 0 then (pr_Open.l0 k x1 x5 (wrap64 (x6 + 1)) x284000 x284001 x284002) else (if 0 ≤ (IntKind.u64.wrap (x6)) then (pr_Open.l0 k x1 (Go.bits .or .i64 x5 (shl .i64 1 (IntKind.u64.wrap (x6)))) (wrap64 (x6 + 1)) x284000 x284001 x284002) else (none)))) else (some x5)
def pr_Open.f (k : Nat) (a0_0 : Int) (l0_1 : List (S91)) (l0_2 : List (S94)) (l1 : List Int) : Option (Int) := pr_Open.l0 k l1 0 0 a0_0 l0_1 l0_2
set_option maxHeartbeats 8000000 in
set_option maxRecDepth 100000 in
theorem pr_Open.calls (k : Nat) (a0_0 : Int) (A0_1 : Option Addr) (c0_1 : Nat) (l0_1 : List (S91)) (A0_2 : Option Addr) (c0_2 : Nat) (l0_2 : List (S94)) (A1 : Option Addr) (c1 : Nat) (l1 : List Int) (r : Int) (w : World) (hr0_1 : Kd.C k91 w A0_1 l0_1.length l0_1) (hc0_1 : l0_1.length ≤ c0_1) (hr0_2 : Kd.C k94 w A0_2 l0_2.length l0_2) (hc0_2 : l0_2.length ≤ c0_2) (hr1 : Kd.C (Kd.int .i64) w A1 l1.length l1) (hc1 : l1.length ≤ c1) (h : pr_Open.f k a0_0 l0_1 l0_2 l1 = some r) :
  Calls Try.prog 34 #[.agg #[.int .i64 a0_0, .slice A0_1 l0_1.length c0_1, .slice A0_2 l0_2.length c0_2], .slice A1 l1.length c1] w fun e w' => e = .returned (.int .i64 r) ∧ Below w.heap.size w w' := by
 have hu25 := Try.underlying25
 have HR0_1 := mkA hr0_1
 have HC0_1 := mkA hc0_1
 clear hr0_1 hc0_1
 have HR0_2 := mkA hr0_2
 have HC0_2 := mkA hc0_2
 clear hr0_2 hc0_2
 have HR1 := mkA hr1
 have HC1 := mkA hc1
 clear hr1 hc1
 have HB := mkA (Below.refl w.heap.size w)
 have H : (pr_Open.l0 k l1 0 0 a0_0 l0_1 l0_2) = some r := h
 clear h
 have H' := mkA H
 clear H
 go_enter Try.func34, Try.ntmps34
 go_wp2_with (first | ((with_reducible refine z25 (N := 2) rfl ?_); refine z22 ?hg (N := 2) ?hd (cs := #[.int .i64 a0_0, .slice A0_1 l0_1.length c0_1, .slice A0_2 l0_2.length c0_2]) (t := 25) ?hr ?_; (case hd => rfl); (case hg => rfl); (case hr => first | (go_simp; done) | (go_simp; rfl)); intro gb283 hg w3 hbox hb; have n0_ := mkA (z17 (by repeat (first | (with_reducible first | exact HB.out | apply z10 | apply z11 | apply z12) | exact HB.out)) hb); have n1_ := mkA (hbox); have n2_ := mkA ((by rw [hg]; exact (z18 (by repeat (first | (with_reducible first | exact HB.out | apply z10 | apply z11 | apply z12) | exact HB.out))) : w.heap.size ≤ gb283)); have n3_ := mkA ((by rw [hg]; exact (z18 (by repeat (first | (with_reducible first | exact HB.out | apply z10 | apply z11 | apply z12) | exact HB.out))) : w.heap.size ≤ gb283)); clear HB; have HB := n0_; have BK283 := n1_; have GW283 := n2_; have GE283 := n3_; clear n0_ n1_ n2_ n3_; clear hb hbox hg))
 go_loopg [5, 6] k (fun kq v5 v6 w' => ∃ (x5_1 : Int) (x6_1 : Int), v5 = .int .i64 x5_1 ∧ v6 = .int .i64 x6_1 ∧ Aside0 (pr_Open.l0 kq l1 x5_1 x6_1 a0_0 l0_1 l0_2 = some r) ∧ Aside0 (kq ≤ k) ∧ Aside0 (w'.heap[gb283]? = some (.cells #[.int .i64 a0_0, (.slice A0_1 l0_1.length c0_1), (.slice A0_2 l0_2.length c0_2)] 25 (0, 0))) ∧ Aside0 (Below w.heap.size w w'))
 case atStart => exact ⟨(0), (0), (by first | rfl | (simp; done) | (simp [*]; done)), (by first | rfl | (simp; done) | (simp [*]; done)), H', ⟨Nat.le_refl _⟩, ⟨by (with_reducible repeat (first | refine z16 ?_ _ | refine z31 ?_ | refine z27 ?_ _)); exact BK283.out⟩, ⟨by repeat (first | (with_reducible first | exact HB.out | apply z10 | apply z11 | apply z12 | refine z15 ?_ GE283.out) | exact HB.out)⟩⟩
 case round =>
  clear H'
  try clear c1
  try clear p2
  try clear c3
  obtain ⟨x5_1, x6_1, rfl, rfl, HA, HK1, BK283, HB⟩ := hrel
  cases gk with
  | zero => exact absurd HA.out (by simp [pr_Open.l0])
  | succ k1 =>
   have H := HA.out
   clear HA
   simp only [pr_Open.l0] at H
   by_cases c4 : x6_1 < a0_0
   ·rw [if_pos c4] at H
    have c4b0 : decide (x6_1 < a0_0) = true := decide_eq_true c4
    clear c4
    replace H := Option.bind_eq_some_iff.mp H
    obtain ⟨t284, A50, H⟩ := H
    replace H : (if t284 = 0 then (pr_Open.l0 k1 l1 x5_1 (wrap64 (x6_1 + 1)) a0_0 l0_1 l0_2) else (if 0 ≤ (IntKind.u64.wrap (x6_1)) then (pr_Open.l0 k1 l1 (Go.bits .or .i64 x5_1 (shl .i64 1 (IntKind.u64.wrap (x6_1)))) (wrap64 (x6_1 + 1)) a0_0 l0_1 l0_2) else (none))) = some r := H
    have A5 := mkA A50
    clear A50
    by_cases c6 : t284 = 0
    ·rw [if_pos c6] at H
     have c6b0 : (t284 == 0) = true := beq_iff_eq.mpr c6
     have c6b1 : (t284 != 0) = false := bne_eq_false_iff_eq.mpr c6
     clear c6
     have H' := mkA H
     clear H
     have hcz7_0 : wr.cell? ⟨gb283, 0, none⟩ = some (.int .i64 a0_0) := (z13 BK283.out 0).trans rfl
     have hcz7_1 : wr.cell? ⟨gb283, 1, none⟩ = some (.slice A0_1 l0_1.length c0_1) := (z13 BK283.out 1).trans rfl
     have hcz7_2 : wr.cell? ⟨gb283, 2, none⟩ = some (.slice A0_2 l0_2.length c0_2) := (z13 BK283.out 2).trans rfl
     have hfz7_0 := z14 BK283.out 0
     have hfz7_1 := z14 BK283.out 1
     have hfz7_2 := z14 BK283.out 2
     go_wp2_with (first | ((with_reducible refine z23 (f := 54) rfl ?_); refine goesL_ (some 16) rfl rfl Try.func54 (by kernel_rfl) rfl #[.agg #[.int .i64 a0_0, .slice A0_1 l0_1.length c0_1, .slice A0_2 l0_2.length c0_2], .slice A1 l1.length c1, .int .i64 x6_1] rfl (by (try simp only [List.map_toArray, List.map_cons, List.map_nil]); first | done | rfl | (simp only [List.length_drop, List.length_take]; rfl)) ?_; (with_reducible refine (pr_Owed.calls k1 a0_0 _ _ l0_1 _ _ l0_2 _ _ l1 x6_1 t284 _ ?side1 ?side2 ?side3 ?side4 ?side5 ?side6 A5.out).mono ?_); (case side1 => repeat (first | exact (Kd.C_below HR0_1.out HB.out) | (with_reducible refine Kd.C_alloc ?_ _) | (with_reducible refine Kd.C_drewN ?_ _) | (with_reducible refine Kd.C_drew ?_))); (case side2 => exact HC0_1.out); (case side3 => repeat (first | exact (Kd.C_below HR0_2.out HB.out) | (with_reducible refine Kd.C_alloc ?_ _) | (with_reducible refine Kd.C_drewN ?_ _) | (with_reducible refine Kd.C_drew ?_))); (case side4 => exact HC0_2.out); (case side5 => repeat (first | exact (Kd.C_below HR1.out HB.out) | (with_reducible refine Kd.C_alloc ?_ _) | (with_reducible refine Kd.C_drewN ?_ _) | (with_reducible refine Kd.C_drew ?_))); (case side6 => exact HC1.out); rintro e w8 ⟨rfl, hb⟩; refine ⟨_, rfl, ?_⟩; have n0_ := mkA (blk_below (g := gb283) (o := .cells #[.int .i64 a0_0, .slice A0_1 l0_1.length c0_1, .slice A0_2 l0_2.length c0_2] 25 (0, 0)) (by (with_reducible repeat (first | refine z16 ?_ _ | refine z31 ?_ | refine z27 ?_ _)); exact BK283.out) hb); have n1_ := mkA (z17 (by repeat (first | (with_reducible first | exact HB.out | apply z10 | apply z11 | apply z12 | refine z15 ?_ GE283.out) | exact HB.out)) hb); clear BK283; clear HB; have BK283 := n0_; have HB := n1_; clear n0_ n1_; (try clear hb); (try clear hb2); (try clear hk); (try clear hi)))
     go_roundg k1
     case measure => have := HK1.out; omega
     case rel => exact ⟨(x5_1), (wrap64 (x6_1 + 1)), (by first | rfl | (simp; done) | (simp [*]; done)), (by first | rfl | (simp; done) | (simp [*]; done)), H', ⟨by have := HK1.out; omega⟩, ⟨by (with_reducible repeat (first | refine z16 ?_ _ | refine z31 ?_ | refine z27 ?_ _)); exact BK283.out⟩, ⟨by repeat (first | (with_reducible first | exact HB.out | apply z10 | apply z11 | apply z12 | refine z15 ?_ GE283.out) | exact HB.out)⟩⟩
    ·rw [if_neg c6] at H
     have c6b0 : (t284 == 0) = false := beq_eq_false_iff_ne.mpr c6
     have c6b1 : (t284 != 0) = true := bne_iff_ne.mpr c6
     obtain ⟨ji9, hji9⟩ : ∃ j_ : Int, (IntKind.u64.wrap (x6_1)) = j_ := ⟨_, rfl⟩
     replace H : (if 0 ≤ (ji9) then (pr_Open.l0 k1 l1 (Go.bits .or .i64 x5_1 (shl .i64 1 (ji9))) (wrap64 (x6_1 + 1)) a0_0 l0_1 l0_2) else (none)) = some r := by first | (rw [hji9] at H; exact H) | (simp only [hji9] at H ⊢; exact H)
     (try rw [hji9] at A5)
     by_cases c10 : 0 ≤ (ji9)
     ·rw [if_pos c10] at H
      have c10b0 := eq_true c10
      have c10b1 : decide (0 ≤ (ji9)) = true := decide_eq_true c10
      clear c10
      obtain ⟨ji11, hji11⟩ : ∃ j_ : Int, (shl .i64 1 (ji9)) = j_ := ⟨_, rfl⟩
      replace H : (pr_Open.l0 k1 l1 (Go.bits .or .i64 x5_1 (ji11)) (wrap64 (x6_1 + 1)) a0_0 l0_1 l0_2) = some r := by first | (rw [hji11] at H; exact H) | (simp only [hji11] at H ⊢; exact H)
      (try rw [hji11] at A5)
      have hji11_ : (IntKind.i64.wrap (1 * 2 ^ min (ji9).toNat 64)) = ji11 := hji11
      have hji11z : (ji9) ≤ 64 → (IntKind.i64.wrap (1 * 2 ^ (ji9).toNat)) = ji11 := shl_small hji11
      have hji11u : (IntKind.i64.wrap (2 ^ min (ji9).toNat 64)) = ji11 := by have h_ := hji11_; rw [Int.one_mul] at h_; exact h_
      have hji11v : (ji9) ≤ 64 → (IntKind.i64.wrap (2 ^ (ji9).toNat)) = ji11 := fun hle_ => by have h_ := hji11z hle_; rw [Int.one_mul] at h_; exact h_
      have hji11y : (wrap64 (1 * 2 ^ min (ji9).toNat 64)) = ji11 := (i64_w _).symm.trans hji11_
      have hji11x : (ji9) ≤ 64 → (wrap64 (1 * 2 ^ (ji9).toNat)) = ji11 := fun h_ => (i64_w _).symm.trans (hji11z h_)
      have H' := mkA H
      clear H
      have hcz12_0 : wr.cell? ⟨gb283, 0, none⟩ = some (.int .i64 a0_0) := (z13 BK283.out 0).trans rfl
      have hcz12_1 : wr.cell? ⟨gb283, 1, none⟩ = some (.slice A0_1 l0_1.length c0_1) := (z13 BK283.out 1).trans rfl
      have hcz12_2 : wr.cell? ⟨gb283, 2, none⟩ = some (.slice A0_2 l0_2.length c0_2) := (z13 BK283.out 2).trans rfl
      have hfz12_0 := z14 BK283.out 0
      have hfz12_1 := z14 BK283.out 1
      have hfz12_2 := z14 BK283.out 2
      go_wp2_with (first | ((with_reducible refine z23 (f := 54) rfl ?_); refine goesL_ (some 16) rfl rfl Try.func54 (by kernel_rfl) rfl #[.agg #[.int .i64 a0_0, .slice A0_1 l0_1.length c0_1, .slice A0_2 l0_2.length c0_2], .slice A1 l1.length c1, .int .i64 x6_1] rfl (by (try simp only [List.map_toArray, List.map_cons, List.map_nil]); first | done | rfl | (simp only [List.length_drop, List.length_take]; rfl)) ?_; (with_reducible refine (pr_Owed.calls k1 a0_0 _ _ l0_1 _ _ l0_2 _ _ l1 x6_1 t284 _ ?side1 ?side2 ?side3 ?side4 ?side5 ?side6 A5.out).mono ?_); (case side1 => repeat (first | exact (Kd.C_below HR0_1.out HB.out) | (with_reducible refine Kd.C_alloc ?_ _) | (with_reducible refine Kd.C_drewN ?_ _) | (with_reducible refine Kd.C_drew ?_))); (case side2 => exact HC0_1.out); (case side3 => repeat (first | exact (Kd.C_below HR0_2.out HB.out) | (with_reducible refine Kd.C_alloc ?_ _) | (with_reducible refine Kd.C_drewN ?_ _) | (with_reducible refine Kd.C_drew ?_))); (case side4 => exact HC0_2.out); (case side5 => repeat (first | exact (Kd.C_below HR1.out HB.out) | (with_reducible refine Kd.C_alloc ?_ _) | (with_reducible refine Kd.C_drewN ?_ _) | (with_reducible refine Kd.C_drew ?_))); (case side6 => exact HC1.out); rintro e w13 ⟨rfl, hb⟩; refine ⟨_, rfl, ?_⟩; have n0_ := mkA (blk_below (g := gb283) (o := .cells #[.int .i64 a0_0, .slice A0_1 l0_1.length c0_1, .slice A0_2 l0_2.length c0_2] 25 (0, 0)) (by (with_reducible repeat (first | refine z16 ?_ _ | refine z31 ?_ | refine z27 ?_ _)); exact BK283.out) hb); have n1_ := mkA (z17 (by repeat (first | (with_reducible first | exact HB.out | apply z10 | apply z11 | apply z12 | refine z15 ?_ GE283.out) | exact HB.out)) hb); clear BK283; clear HB; have BK283 := n0_; have HB := n1_; clear n0_ n1_; (try clear hb); (try clear hb2); (try clear hk); (try clear hi)))
      go_roundg k1
      case measure => have := HK1.out; omega
      case rel => exact ⟨(Go.bits .or .i64 x5_1 (ji11)), (wrap64 (x6_1 + 1)), (by first | rfl | (simp; done) | (simp only [← hji11] <;> (first | rfl | simp)) | (simp [*]; done)), (by first | rfl | (simp; done) | (simp [*]; done)), H', ⟨by have := HK1.out; omega⟩, ⟨by (with_reducible repeat (first | refine z16 ?_ _ | refine z31 ?_ | refine z27 ?_ _)); exact BK283.out⟩, ⟨by repeat (first | (with_reducible first | exact HB.out | apply z10 | apply z11 | apply z12 | refine z15 ?_ GE283.out) | exact HB.out)⟩⟩
     ·rw [if_neg c10] at H
      exact absurd H (by simp)
   ·rw [if_neg c4] at H
    have c4b0 : decide (x6_1 < a0_0) = false := decide_eq_false c4
    clear c4
    obtain rfl := Option.some.inj H
    have hcz14_0 : wr.cell? ⟨gb283, 0, none⟩ = some (.int .i64 a0_0) := (z13 BK283.out 0).trans rfl
    have hcz14_1 : wr.cell? ⟨gb283, 1, none⟩ = some (.slice A0_1 l0_1.length c0_1) := (z13 BK283.out 1).trans rfl
    have hcz14_2 : wr.cell? ⟨gb283, 2, none⟩ = some (.slice A0_2 l0_2.length c0_2) := (z13 BK283.out 2).trans rfl
    have hfz14_0 := z14 BK283.out 0
    have hfz14_1 := z14 BK283.out 1
    have hfz14_2 := z14 BK283.out 2
    go_wp2
    go_ret
    exact ⟨by first | rfl | (simp [z20, z19] <;> rfl) | (simp [*, z20, z19] <;> rfl), by repeat (first | (with_reducible first | exact HB.out | apply z10 | apply z11 | apply z12 | refine z15 ?_ GE283.out) | exact HB.out)⟩
/-! ### pr_Payments: function 55 -/
def pr_Payments.f (k : Nat) (a0_0 : Int) (l0_1 : List (S91)) (l0_2 : List (S94)) (l1 : List Int) : Option (Int) := (pr_Open.f k a0_0 l0_1 l0_2 l1).bind fun t321 => ((pr_Bits.f k t321).bind fun t322 => ((pr_Most.f k a0_0 l0_1 l0_2 l1 t321).bind fun t325 => (some (wrap64 ((t322.length : Int) - t325)))))
/-! ### pr_Fewest: function 38 -/
def pr_Fewest.l0 : Nat → List (List Int) → Int → Int → List (S91) → List (S94) → Int → Int → Option (Int × Int)
 | 0, _, _, _, _, _, _, _ => none
 | k + 1, x1, x6, x327000, x327001, x327002, x331000, x331001 => if x6 < (x1.length : Int) then (if 0 ≤ x6 then ((pr_Payments.f k x327000 x327001 x327002 (rd_L4 x1 x6)).bind fun t332 => ((pr_Wider.f x331000 x331001 t332).bind fun bt333 => (pr_Fewest.l0 k x1 (wrap64 (x6 + 1)) x327000 x327001 x327002 bt333.1 bt333.2))) else (none)) else (some (x331000, x331001))
def pr_Fewest.f (k : Nat) (a0_0 : Int) (l0_1 : List (S91)) (l0_2 : List (S94)) (l1 : List (List Int)) : Option (Int × Int) := (pr_Empty.f).bind fun bt328 => (pr_Fewest.l0 k l1 0 a0_0 l0_1 l0_2 bt328.1 bt328.2)
def pr_Fewest.T5 : Bool × List (List Nat × List Nat) := (true, [([], []), ([], []), ([], []), ([], []), ([2, 3], [2, 3]), ([4], [4]), ([1, 5], [1, 5]), ([0, 6, 6], [0, 6]), ([7, 7, 0, 1, 2, 3, 4, 5, 6, 7], [7])])
def pr_Fewest.B5 : List Nat := [0, 0, 0, 0, 12, 28, 62, 127, 255]
theorem pr_Fewest.tab5 : rtab .any (opsOf Try.f38 5) = pr_Fewest.T5 := by kernel_rfl
theorem pr_Fewest.bits5 : waitsOk pr_Fewest.T5.2 pr_Fewest.B5 = true := by kernel_rfl
end Go.Proofs.Ytncaadckehikpaa.Q
namespace Go.Proofs.Ytncaadckehikpaa.Q
open Go.RowKit Go.Proofs.YtncaadckehikpaaW.PrintWords Go.Proofs.YtncaadckehikpaaW.PrintLast Go.Proofs.YtncaadckehikpaaW.PrintMore
set_option linter.unusedVariables false
set_option linter.unusedSimpArgs false
/-- Some women are among others. -/
def SubB (a b : Nat) : Prop := ∀ i, i < 6 → bitN a i = true → bitN b i = true
theorem SubB.trans {a b c : Nat} (h : SubB a b) (k : SubB b c) : SubB a c := fun i hi q => k i hi (h i hi q)
theorem SubB.refl (a : Nat) : SubB a a := fun _ _ h => h
set_option maxRecDepth 100000 in
theorem bit_sub_all : ∀ a : Fin 64, ∀ b : Fin 64, (∀ i : Fin 6, bitN a.val i.val = true → bitN b.val i.val = true) → a.val ≤ b.val ∧ (a.val = b.val ∨ ∃ i : Fin 6, bitN b.val i.val = true ∧ bitN a.val i.val = false) ∧ ∀ i : Fin 6, bitN (b.val - a.val) i.val = (bitN b.val i.val && !bitN a.val i.val) := by decide +kernel
theorem bit_sub {a b : Nat} (ha : a < 64) (hb : b < 64) (h : SubB a b) : a ≤ b ∧ (a = b ∨ ∃ i, i < 6 ∧ bitN b i = true ∧ bitN a i = false) ∧ ∀ i, i < 6 → bitN (b - a) i = (bitN b i && !bitN a i) := by
  obtain ⟨h1, h2, h3⟩ := bit_sub_all ⟨a, ha⟩ ⟨b, hb⟩ (fun i q => h i.val i.isLt q)
  exact ⟨h1, h2.imp id (fun ⟨i, q⟩ => ⟨i.val, i.isLt, q⟩), fun i hi => h3 ⟨i, hi⟩⟩
set_option maxRecDepth 100000 in
theorem clr_bits_all : ∀ b : Fin 64, ∀ i : Fin 6, ∀ j : Fin 6, bitN (clr b.val i.val) j.val = (bitN b.val j.val && !(i.val == j.val)) := by decide +kernel
theorem clr_bits {b i j : Nat} (hb : b < 64) (hi : i < 6) (hj : j < 6) : bitN (clr b i) j = (bitN b j && !(i == j)) := clr_bits_all ⟨b, hb⟩ ⟨i, hi⟩ ⟨j, hj⟩
theorem clr_le (b i : Nat) : clr b i ≤ b := by
  unfold clr
  split
  · exact Nat.sub_le _ _
  · exact Nat.le_refl _
theorem clr_sub {b i : Nat} (hb : b < 64) (hi : i < 6) : SubB (clr b i) b := fun j hj h => by
  rw [clr_bits hb hi hj, Bool.and_eq_true] at h
  exact h.1
theorem sub_clr {a b i : Nat} (hb : b < 64) (hi : i < 6) (h : SubB a b) (ha : bitN a i = false) : SubB a (clr b i) := fun j hj q => by
  rw [clr_bits hb hi hj, Bool.and_eq_true]
  refine ⟨h j hj q, ?_⟩
  by_cases e : i = j
  · subst e; rw [ha] at q; cases q
  · simp [e]
theorem ne_zero_of_bit {m i : Nat} (h : bitN m i = true) : m ≠ 0 := by
  intro e
  subst e
  have := bitN_le h
  have : 0 < 2 ^ i := Nat.two_pow_pos i
  omega
theorem bestTo_ge (f : Nat → Int) (m : Nat) : ∀ n i, i < n → bitN m i = true → f (clr m i) ≤ bestTo f m n
  | 0, i, h, _ => by omega
  | n + 1, i, h, hb => by
    have hm : ∀ a b : Int, a ≤ mx a b ∧ b ≤ mx a b := fun a b => by unfold mx; split <;> omega
    simp only [bestTo]
    by_cases e : i = n
    · subst e
      rw [if_pos hb]
      exact (hm _ _).2
    · have := bestTo_ge f m n i (by omega) hb
      split
      · exact Int.le_trans this (hm _ _).1
      · exact this
/-- One woman fewer has no more groups; if all sum to 0, one group fewer. -/
theorem F_clr (v : List Int) {m i : Nat} (hi : i < 6) (hb : bitN m i = true) : F v (clr m i) + (if sumN v m = 0 then 1 else 0) ≤ F v m := by
  rw [F_step v m (ne_zero_of_bit hb)]
  have := bestTo_ge (F v) m 6 i hi hb
  omega
theorem Fmono6 (v : List Int) : ∀ (k m a : Nat), m ≤ k → m < 64 → a < 64 → SubB a m → F v a ≤ F v m
  | 0, m, a, hk, hm, ha, h => by
    obtain ⟨h1, _, _⟩ := bit_sub ha hm h
    rw [show a = m by omega]
    exact Int.le_refl _
  | k + 1, m, a, hk, hm, ha, h => by
    obtain ⟨h1, h2, h3⟩ := bit_sub ha hm h
    rcases h2 with rfl | ⟨i, hi, hb, hn⟩
    · exact Int.le_refl _
    · have hlt := clr_lt hb
      have ih := Fmono6 v k (clr m i) a (by omega) (by omega) ha (sub_clr hm hi h hn)
      have := F_clr v hi hb
      split at this <;> omega
/-- A group that is taken away leaves one fewer at most. -/
theorem Ftake6 (v : List Int) {m g : Nat} (hm : m < 64) (hg : g < 64) (h : SubB g m) (h0 : g ≠ 0) (hs : sumN v m = 0) : 1 + F v (m - g) ≤ F v m := by
  obtain ⟨h1, h2, h3⟩ := bit_sub hg hm h
  obtain ⟨i, hi⟩ := has_bit_all ⟨g, hg⟩ h0
  have hbm := h i.val i.isLt hi
  have hf := F_clr v i.isLt hbm
  rw [if_pos hs] at hf
  have hsub : SubB (m - g) (clr m i.val) := fun j hj q => by
    rw [h3 j hj, Bool.and_eq_true] at q
    rw [clr_bits hm i.isLt hj, Bool.and_eq_true]
    refine ⟨q.1, ?_⟩
    by_cases e : i.val = j
    · rw [← e, show bitN g i.val = true from hi] at q
      simp at q
    · simp [e]
  have := Fmono6 v (clr m i.val) (clr m i.val) (m - g) (Nat.le_refl _) (by have := clr_le m i.val; omega) (by omega) hsub
  omega
theorem sumTo_sub (v : List Int) {a b : Nat} (ha : a < 64) (hb : b < 64) (h : SubB a b) : ∀ n, n ≤ 6 → sumTo v b n = sumTo v a n + sumTo v (b - a) n
  | 0, _ => by simp [sumTo]
  | n + 1, hn => by
    have ih := sumTo_sub v ha hb h n (by omega)
    obtain ⟨h1, h2, h3⟩ := bit_sub ha hb h
    simp only [sumTo]
    rw [h3 n (by omega)]
    have hx := h n (by omega)
    cases hbn : bitN b n <;> cases han : bitN a n <;> simp [hbn, han] at hx ⊢ <;> omega
theorem sumN_sub (v : List Int) {a b : Nat} (ha : a < 64) (hb : b < 64) (h : SubB a b) : sumN v b = sumN v a + sumN v (b - a) := sumTo_sub v ha hb h 6 (by omega)
/-- Some women who sum to 0 have as many groups. -/
theorem F_core (v : List Int) : ∀ (k m : Nat), m ≤ k → m < 64 → ∃ a, SubB a m ∧ a ≤ m ∧ sumN v a = 0 ∧ F v m = F v a
  | 0, m, hk, hm => ⟨m, SubB.refl m, Nat.le_refl _, by rw [show m = 0 by omega]; simp [sumN, sumTo, bitN], rfl⟩
  | k + 1, m, hk, hm => by
    by_cases h0 : m = 0
    · subst h0
      exact ⟨0, SubB.refl 0, Nat.le_refl _, by simp [sumN, sumTo, bitN], rfl⟩
    · by_cases hs : sumN v m = 0
      · exact ⟨m, SubB.refl m, Nat.le_refl _, hs, rfl⟩
      · obtain ⟨i0, hi0⟩ := has_bit_all ⟨m, hm⟩ h0
        obtain ⟨i, hi, hb, he⟩ := bestTo_hit (f := F v) (m := m) (fun j _ => (F_bd v _).1) 6 ⟨i0.val, i0.isLt, hi0⟩
        have hlt := clr_lt hb
        obtain ⟨a, h1, h2, h3, h4⟩ := F_core v k (clr m i) (by omega) (by omega)
        refine ⟨a, h1.trans (clr_sub hm hi), by omega, h3, ?_⟩
        rw [F_step v m h0, if_neg hs, ← he, h4]
        omega
/-- Whichever woman is asked for: a group with her begins a way that has as many groups. -/
theorem F_with (v : List Int) : ∀ (k m f : Nat), m ≤ k → m < 64 → f < 6 → bitN m f = true → sumN v m = 0 →
    ∃ g, g < 64 ∧ SubB g m ∧ bitN g f = true ∧ sumN v g = 0 ∧ F v m ≤ 1 + F v (m - g)
  | 0, m, f, hk, hm, hf, hb, hs => absurd (show m = 0 by omega) (ne_zero_of_bit hb)
  | k + 1, m, f, hk, hm, hf, hb, hs => by
    have h0 := ne_zero_of_bit hb
    obtain ⟨i, hi, hbi, he⟩ := bestTo_hit (f := F v) (m := m) (fun j _ => (F_bd v _).1) 6 ⟨f, hf, hb⟩
    have hlt := clr_lt hbi
    obtain ⟨a, a1, a2, a3, a4⟩ := F_core v (clr m i) (clr m i) (Nat.le_refl _) (by omega)
    have ham : SubB a m := a1.trans (clr_sub hm hi)
    have hF : F v m = 1 + F v a := by rw [F_step v m h0, if_pos hs, ← he, a4]; omega
    obtain ⟨b1, b2, b3⟩ := bit_sub (show a < 64 by omega) hm ham
    have hsum := sumN_sub v (show a < 64 by omega) hm ham
    by_cases haf : bitN a f = true
    · obtain ⟨g, g1, g2, g3, g4, g5⟩ := F_with v k a f (by omega) (by omega) hf haf a3
      have hgm : SubB g m := g2.trans ham
      obtain ⟨c1, c2, c3⟩ := bit_sub g1 (show a < 64 by omega) g2
      obtain ⟨d1, d2, d3⟩ := bit_sub g1 hm hgm
      refine ⟨g, g1, hgm, g3, g4, ?_⟩
      have hs2 : sumN v (m - g) = 0 := by have := sumN_sub v g1 hm hgm; omega
      have hsub : SubB (m - a) (m - g) := fun j hj q => by
        rw [b3 j hj, Bool.and_eq_true] at q
        rw [d3 j hj, Bool.and_eq_true]
        refine ⟨q.1, ?_⟩
        cases hg : bitN g j
        · rfl
        · have := g2 j hj hg
          rw [this] at q
          simp at q
      have ht := Ftake6 v (m := m - g) (g := m - a) (by omega) (by omega) hsub (by omega) hs2
      have e : m - g - (m - a) = a - g := by omega
      rw [e] at ht
      omega
    · refine ⟨m - a, by omega, fun j hj q => ?_, ?_, by omega, ?_⟩
      · rw [b3 j hj, Bool.and_eq_true] at q
        exact q.1
      · rw [b3 f hf, hb, show bitN a f = false by simpa using haf]
        rfl
      · rw [show m - (m - a) = a by omega, hF]
        exact Int.le_refl _
/-! The reference's search. -/
theorem rbits_all : ∀ m : Fin 64, pr_Bits.f 8 (m.val : Int) = some (bitsL m.val) := by decide +kernel
theorem Bits_f (k m : Nat) (h : m < 64) (hk : 8 ≤ k) : pr_Bits.f k (m : Int) = some (bitsL m) := by
  obtain ⟨d, rfl⟩ : ∃ d, k = 8 + d := ⟨k - 8, by omega⟩
  clear hk
  induction d with
  | zero => exact rbits_all ⟨m, h⟩
  | succ d ih => exact pr_Bits.mono _ _ _ ih
section
variable (n : Int) (l1 : List S91) (l2 : List S94) (os : List Int) (hck : checkS n (l1.map c91) (l2.map c94) = 0) (ho : Small (l1.map c91) os)
set_option linter.unusedSectionVars false
include hck ho
theorem owed_500 (j : Int) : -500 ≤ rd (owedL (l1.map c91) os) j ∧ rd (owedL (l1.map c91) os) j ≤ 500 := by
  have := owedTo_bd (l1.map c91) os ho.2 (l1.map c91).length (Nat.le_refl _) j
  have hl := (z32 hck).2.2.1
  rw [List.length_map] at this
  unfold owedL
  rw [List.length_map]
  omega
end
end Go.Proofs.Ytncaadckehikpaa.Q
namespace Go.Proofs.Ytncaadckehikpaa.Q
open Go.RowKit Go.Proofs.YtncaadckehikpaaW.PrintWords Go.Proofs.YtncaadckehikpaaW.PrintLast Go.Proofs.YtncaadckehikpaaW.PrintMore
set_option linter.unusedVariables false
set_option linter.unusedSimpArgs false
/-- What a payment changes for a woman. -/
def eff1 (p : S76) (i : Int) : Int := (if p.f0 = i then p.f2 else 0) - (if p.f1 = i then p.f2 else 0)
def eff (ps : List S76) (i : Int) : Int := (ps.map (fun p => eff1 p i)).sum
theorem eff_append (a b : List S76) (i : Int) : eff (a ++ b) i = eff a i + eff b i := by simp [eff]
theorem eff_cons (p : S76) (b : List S76) (i : Int) : eff (p :: b) i = eff1 p i + eff b i := by simp [eff]
/-- Women of six, not the same one twice. -/
def Six (p : S76) : Prop := 0 ≤ p.f0 ∧ p.f0 < 6 ∧ 0 ≤ p.f1 ∧ p.f1 < 6 ∧ p.f0 ≠ p.f1
theorem rd_pay1 (v : List Int) (p : S76) (hv : v.length = 6) (hp : Six p) (i : Int) (h0 : 0 ≤ i) (h6 : i < 6) : rd (pay1 v p) i = rd v i + eff1 p i := by
  obtain ⟨q0, q1, q2, q3, q4⟩ := hp
  simp only [pay1]
  rw [rd_upd _ _ _ _ q2 (by rw [z43, hv]; omega) h0]
  unfold eff1
  by_cases a : i = p.f1
  · rw [if_pos a, rd_upd _ _ _ _ q0 (by rw [hv]; omega) q2, if_neg (by omega), if_neg (by omega), if_pos a.symm, a]
    omega
  · rw [if_neg a, rd_upd _ _ _ _ q0 (by rw [hv]; omega) h0]
    by_cases b : i = p.f0
    · rw [if_pos b, if_pos b.symm, if_neg (by omega), b]
      omega
    · rw [if_neg b, if_neg (fun h => b h.symm), if_neg (fun h => a h.symm)]
      omega
theorem rd_pays : ∀ (ps : List S76) (v : List Int), v.length = 6 → (∀ p ∈ ps, Six p) → ∀ i : Int, 0 ≤ i → i < 6 → rd (ps.foldl pay1 v) i = rd v i + eff ps i
  | [], v, hv, hp, i, h0, h6 => by simp [eff]
  | p :: ps, v, hv, hp, i, h0, h6 => by
    rw [List.foldl_cons, rd_pays ps (pay1 v p) (by rw [pay1_length]; exact hv) (fun q hq => hp q (by simp [hq])) i h0 h6, rd_pay1 v p hv (hp p (by simp)) i h0 h6, eff_cons]
    omega
theorem sumTo_pay (v w : List Int) (p : S76) (hp : Six p) (h : ∀ i : Int, 0 ≤ i → i < 6 → rd w i = rd v i + eff1 p i) (m : Nat) : ∀ n : Nat, n ≤ 6 →
    sumTo w m n = sumTo v m n + (if p.f0 < n ∧ bitN m p.f0.toNat = true then p.f2 else 0) - (if p.f1 < n ∧ bitN m p.f1.toNat = true then p.f2 else 0)
  | 0, _ => by
    obtain ⟨q0, q1, q2, q3, q4⟩ := hp
    rw [if_neg (by omega), if_neg (by omega)]
    simp [sumTo]
  | n + 1, hn => by
    have ih := sumTo_pay v w p hp h m n (by omega)
    obtain ⟨q0, q1, q2, q3, q4⟩ := hp
    have hr := h (n : Int) (by omega) (by omega)
    unfold eff1 at hr
    simp only [sumTo]
    by_cases a : p.f0 = n
    · have ha : p.f0.toNat = n := by omega
      rw [if_pos a, if_neg (by omega)] at hr
      rw [ha] at ih ⊢
      rw [if_neg (by omega)] at ih
      have e : (p.f1 < ((n + 1 : Nat) : Int) ∧ bitN m p.f1.toNat = true) ↔ (p.f1 < (n : Int) ∧ bitN m p.f1.toNat = true) := ⟨fun q => ⟨by omega, q.2⟩, fun q => ⟨by omega, q.2⟩⟩
      by_cases hb : bitN m n = true
      · rw [if_pos hb, if_pos hb, if_pos (And.intro (show p.f0 < ((n + 1 : Nat) : Int) by omega) hb)]
        simp only [e]
        omega
      · rw [if_neg hb, if_neg hb, if_neg (fun q => hb q.2)]
        simp only [e]
        omega
    · have e0 : (p.f0 < ((n + 1 : Nat) : Int) ∧ bitN m p.f0.toNat = true) ↔ (p.f0 < (n : Int) ∧ bitN m p.f0.toNat = true) := ⟨fun q => ⟨by omega, q.2⟩, fun q => ⟨by omega, q.2⟩⟩
      rw [if_neg a] at hr
      by_cases b : p.f1 = n
      · have hb' : p.f1.toNat = n := by omega
        rw [if_pos b] at hr
        rw [hb'] at ih ⊢
        rw [if_neg (c := p.f1 < (n : Int) ∧ bitN m n = true) (by omega)] at ih
        by_cases hb : bitN m n = true
        · rw [if_pos hb, if_pos hb, if_pos (And.intro (show p.f1 < ((n + 1 : Nat) : Int) by omega) hb)]
          simp only [e0]
          omega
        · rw [if_neg hb, if_neg hb, if_neg (c := p.f1 < ((n + 1 : Nat) : Int) ∧ bitN m n = true) (fun q => hb q.2)]
          simp only [e0]
          omega
      · have e1 : (p.f1 < ((n + 1 : Nat) : Int) ∧ bitN m p.f1.toNat = true) ↔ (p.f1 < (n : Int) ∧ bitN m p.f1.toNat = true) := ⟨fun q => ⟨by omega, q.2⟩, fun q => ⟨by omega, q.2⟩⟩
        rw [if_neg b] at hr
        simp only [e0, e1]
        by_cases hb : bitN m n = true
        · rw [if_pos hb, if_pos hb]; omega
        · rw [if_neg hb, if_neg hb]; omega
/-- A sum that both women, or neither, are of stays. -/
theorem sumN_pay {v w : List Int} {p : S76} (hp : Six p) (h : ∀ i : Int, 0 ≤ i → i < 6 → rd w i = rd v i + eff1 p i) {m : Nat} (hb : bitN m p.f0.toNat = bitN m p.f1.toNat) : sumN w m = sumN v m := by
  have := sumTo_pay v w p hp h m 6 (by omega)
  obtain ⟨q0, q1, q2, q3, q4⟩ := hp
  unfold sumN
  rw [this, hb]
  have e0 : p.f0 < ((6 : Nat) : Int) := by omega
  have e1 : p.f1 < ((6 : Nat) : Int) := by omega
  simp only [e0, e1, true_and]
  omega
theorem F_congr (v w : List Int) : ∀ (k m : Nat), m ≤ k → m < 64 → (∀ s, s < 64 → SubB s m → sumN v s = sumN w s) → F v m = F w m
  | 0, m, hk, hm, h => by rw [show m = 0 by omega]; rfl
  | k + 1, m, hk, hm, h => by
    by_cases h0 : m = 0
    · subst h0; rfl
    · have hs := h m hm (SubB.refl m)
      have hbst : ∀ n, n ≤ 6 → bestTo (F v) m n = bestTo (F w) m n := by
        intro n
        induction n with
        | zero => intro _; rfl
        | succ n ih =>
          intro hn
          simp only [bestTo]
          rw [ih (by omega)]
          by_cases hb : bitN m n = true
          · have hlt := clr_lt hb
            rw [if_pos hb, if_pos hb, F_congr v w k (clr m n) (by omega) (by omega) (fun s hs' q => h s hs' (q.trans (clr_sub hm (by omega))))]
          · rw [if_neg hb, if_neg hb]
      rw [F_step v m h0, F_step w m h0, hbst 6 (by omega), hs]
/-- One payment joins two groups at most. -/
theorem F_pay {v w : List Int} {p : S76} (hp : Six p) (h : ∀ i : Int, 0 ≤ i → i < 6 → rd w i = rd v i + eff1 p i) (hs : sumN v 63 = 0) : F w 63 ≤ F v 63 + 1 := by
  have hp' := hp
  obtain ⟨q0, q1, q2, q3, q4⟩ := hp'
  have all : ∀ i : Fin 6, bitN 63 i.val = true := by decide +kernel
  have sub63 : ∀ c, c < 64 → SubB c 63 := fun c _ i hi _ => all ⟨i, hi⟩
  have hsw : sumN w 63 = 0 := by rw [sumN_pay hp h (by rw [all ⟨p.f0.toNat, by omega⟩, all ⟨p.f1.toNat, by omega⟩])]; exact hs
  have fin : ∀ c, c < 64 → c ≠ 63 → bitN c p.f0.toNat = false → bitN c p.f1.toNat = false → sumN w c = 0 → F w 63 ≤ 2 + F w c → F w 63 ≤ F v 63 + 1 := by
    intro c hc hne ha hb hsc hF
    have hcv : sumN v c = 0 := by rw [← sumN_pay hp h (by rw [ha, hb])]; exact hsc
    have hco : F v c = F w c := F_congr v w c c (Nat.le_refl _) hc (fun s hs' q => by
      have h0 : bitN s p.f0.toNat = false := by
        cases e : bitN s p.f0.toNat
        · rfl
        · rw [q _ (by omega) e] at ha; cases ha
      have h1 : bitN s p.f1.toNat = false := by
        cases e : bitN s p.f1.toNat
        · rfl
        · rw [q _ (by omega) e] at hb; cases hb
      exact (sumN_pay hp h (by rw [h0, h1])).symm)
    have hsub := bit_sub hc (by omega : 63 < 64) (sub63 c hc)
    have hsum := sumN_sub v hc (by omega : 63 < 64) (sub63 c hc)
    have ht := Ftake6 v (m := 63) (g := 63 - c) (by omega) (by omega) (sub63 _ (by omega)) (by omega) hs
    rw [show 63 - (63 - c) = c by omega] at ht
    omega
  obtain ⟨g, g1, g2, g3, g4, g5⟩ := F_with w 63 63 p.f0.toNat (Nat.le_refl _) (by omega) (by omega) (all ⟨p.f0.toNat, by omega⟩) hsw
  obtain ⟨b1, b2, b3⟩ := bit_sub g1 (by omega : 63 < 64) g2
  have hsum := sumN_sub w g1 (by omega : 63 < 64) g2
  have hg0 : g ≠ 0 := ne_zero_of_bit g3
  have hra : bitN (63 - g) p.f0.toNat = false := by rw [b3 _ (by omega), g3]; simp
  by_cases hb : bitN g p.f1.toNat = true
  · exact fin (63 - g) (by omega) (by omega) hra (by rw [b3 _ (by omega), hb]; simp) (by omega) (by omega)
  · have hrb : bitN (63 - g) p.f1.toNat = true := by
      rw [b3 _ (by omega), all ⟨p.f1.toNat, by omega⟩, show bitN g p.f1.toNat = false by simpa using hb]
      rfl
    obtain ⟨k, k1, k2, k3, k4, k5⟩ := F_with w (63 - g) (63 - g) p.f1.toNat (Nat.le_refl _) (by omega) (by omega) hrb (by omega)
    obtain ⟨c1, c2, c3⟩ := bit_sub k1 (by omega : 63 - g < 64) k2
    have hsum2 := sumN_sub w k1 (by omega : 63 - g < 64) k2
    refine fin (63 - g - k) (by omega) (by omega) ?_ ?_ (by omega) (by omega)
    · rw [c3 _ (by omega), hra]; rfl
    · rw [c3 _ (by omega), k3]; simp
theorem sum63_pay {v w : List Int} {p : S76} (hp : Six p) (h : ∀ i : Int, 0 ≤ i → i < 6 → rd w i = rd v i + eff1 p i) : sumN w 63 = sumN v 63 := by
  have all : ∀ i : Fin 6, bitN 63 i.val = true := by decide +kernel
  have hp' := hp
  obtain ⟨q0, q1, q2, q3, q4⟩ := hp'
  exact sumN_pay hp h (by rw [all ⟨p.f0.toNat, by omega⟩, all ⟨p.f1.toNat, by omega⟩])
theorem F_zero63 (v : List Int) (h : ∀ i : Int, 0 ≤ i → i < 6 → rd v i = 0) : F v 63 = 6 := by
  have : F v 63 = F [0, 0, 0, 0, 0, 0] 63 := F_congr v _ 63 63 (Nat.le_refl _) (by omega) (fun s _ _ => by
    have e : ∀ n : Nat, n ≤ 6 → sumTo v s n = sumTo [0, 0, 0, 0, 0, 0] s n := by
      intro n
      induction n with
      | zero => intro _; rfl
      | succ n ih =>
        intro hn
        have z : rd [0, 0, 0, 0, 0, 0] (n : Int) = 0 := by
          unfold rd
          rw [Int.toNat_natCast]
          rcases n with _ | _ | _ | _ | _ | _ | m <;> simp [List.getD]
        simp only [sumTo]
        rw [ih (by omega), h n (by omega) (by omega), z]
    exact e 6 (by omega))
  rw [this]
  decide +kernel
/-- No payments that settle all are fewer than women less the greatest number of groups. -/
theorem pays_lower : ∀ (ps : List S76) (v : List Int), v.length = 6 → (∀ p ∈ ps, Six p) → sumN v 63 = 0 → (∀ i : Int, 0 ≤ i → i < 6 → rd (ps.foldl pay1 v) i = 0) → 6 - F v 63 ≤ ps.length
  | [], v, hv, hp, hs, hz => by
    rw [F_zero63 v hz]
    simp
  | p :: ps, v, hv, hp, hs, hz => by
    have h1 := rd_pay1 v p hv (hp p (by simp))
    have ih := pays_lower ps (pay1 v p) (by rw [pay1_length]; exact hv) (fun q hq => hp q (by simp [hq])) (by rw [sum63_pay (hp p (by simp)) h1]; exact hs) (by rw [List.foldl_cons] at hz; exact hz)
    have := F_pay (hp p (by simp)) h1 hs
    rw [List.length_cons]
    omega
end Go.Proofs.Ytncaadckehikpaa.Q
