/- A part of the proof: contracts of functions and plain facts (Q14). No condition. -/
import Derived.Test.YtncaadckehikpaaM3
import Derived.Test.YtncaadckehikpaaM28
namespace Go.Proofs.Ytncaadckehikpaa.Q
open Go.RowKit Go.Proofs.YtncaadckehikpaaW.PrintWords Go.Proofs.YtncaadckehikpaaW.PrintLast Go.Proofs.YtncaadckehikpaaW.PrintMore
attribute [local go_sem] z32 z31 max_two min_two   -- for this text's walks alone
set_option linter.unusedVariables false
set_option linter.unusedSimpArgs false
/-! ### pr_Most: function 33 -/
mutual
def pr_Most.l0 : Nat → List Int → Int → Int → Int → Int → Int → List (S91) → List (S94) → Option (Int)
 | 0, _, _, _, _, _, _, _, _ => none
 | k + 1, x1, x2, x7, x8, x9, x281000, x281001, x281002 => if x9 > 0 then (if (Go.bits .and .i64 x9 x7) = 0 then (pr_Most.l0 k x1 x2 x7 x8 (Go.bits .and .i64 (wrap64 (x9 - 1)) x2) x281000 x281001 x281002) else ((pr_Together.f k x281000 x281001 x281002 x1 x9).bind fun t281 => (if t281 = 0 then ((pr_Most.f k x281000 x281001 x281002 x1 (Go.bits .andNot .i64 x2 x9)).bind fun t282 => (pr_Most.l0 k x1 x2 x7 (mx x8 (wrap64 (1 + t282))) (Go.bits .and .i64 (wrap64 (x9 - 1)) x2) x281000 x281001 x281002)) else (pr_Most.l0 k x1 x2 x7 x8 (Go.bits .and .i64 (wrap64 (x9 - 1)) x2) x281000 x281001 x281002)))) else (some x8)
def pr_Most.f : Nat → Int → List (S91) → List (S94) → List Int → Int → Option (Int)
 | 0, _, _, _, _, _ => none
 | k + 1, a0_0, l0_1, l0_2, l1, a2 => if a2 = 0 then (some 0) else (pr_Most.l0 k l1 a2 (Go.bits .and .i64 a2 (wrap64 (-a2))) 0 a2 a0_0 l0_1 l0_2)
end
set_option maxHeartbeats 8000000 in
set_option maxRecDepth 100000 in
theorem pr_Most.calls (k : Nat) : ∀ (a0_0 : Int) (A0_1 : Option Addr) (c0_1 : Nat) (l0_1 : List (S91)) (A0_2 : Option Addr) (c0_2 : Nat) (l0_2 : List (S94)) (A1 : Option Addr) (c1 : Nat) (l1 : List Int) (a2 : Int) (r : Int) (w : World) (hr0_1 : Kd.C k91 w A0_1 l0_1.length l0_1) (hc0_1 : l0_1.length ≤ c0_1) (hr0_2 : Kd.C k94 w A0_2 l0_2.length l0_2) (hc0_2 : l0_2.length ≤ c0_2) (hr1 : Kd.C (Kd.int .i64) w A1 l1.length l1) (hc1 : l1.length ≤ c1) (h : pr_Most.f k a0_0 l0_1 l0_2 l1 a2 = some r),
  Calls Try.prog 33 #[.agg #[.int .i64 a0_0, .slice A0_1 l0_1.length c0_1, .slice A0_2 l0_2.length c0_2], .slice A1 l1.length c1, .int .i64 a2] w fun e w' => e = .returned (.int .i64 r) ∧ Below w.heap.size w w' := by
 induction k using Nat.strongRecOn with
 | _ k ih =>
 intro a0_0 A0_1 c0_1 l0_1 A0_2 c0_2 l0_2 A1 c1 l1 a2 r w hr0_1 hc0_1 hr0_2 hc0_2 hr1 hc1 h
 cases k with
 | zero => exact absurd h (by simp [pr_Most.f])
 | succ k =>
 simp only [pr_Most.f] at h
 have hu25 := Try.underlying25
 have HR0_1 := mkA hr0_1
 have HC0_1 := mkA hc0_1
 clear hr0_1 hc0_1
 have HR0_2 := mkA hr0_2
 have HC0_2 := mkA hc0_2
 clear hr0_2 hc0_2
 have HR1 := mkA hr1
 have HC1 := mkA hc1
 clear hr1 hc1
 have HB := mkA (Below.refl w.heap.size w)
 have H : (if a2 = 0 then (some 0) else (pr_Most.l0 k l1 a2 (Go.bits .and .i64 a2 (wrap64 (-a2))) 0 a2 a0_0 l0_1 l0_2)) = some r := h
 clear h
 by_cases c4 : a2 = 0
 ·rw [if_pos c4] at H
  have c4b0 : (a2 == 0) = true := beq_iff_eq.mpr c4
  have c4b1 : (a2 != 0) = false := bne_eq_false_iff_eq.mpr c4
  clear c4
  obtain rfl := Option.some.inj H
  go_enter Try.func33, Try.ntmps33
  go_wp2_with (first | ((with_reducible refine z24 (N := 3) rfl ?_); refine z22 ?hg (N := 3) ?hd (cs := #[.int .i64 a0_0, .slice A0_1 l0_1.length c0_1, .slice A0_2 l0_2.length c0_2]) (t := 25) ?hr ?_; (case hd => rfl); (case hg => rfl); (case hr => first | (go_simp; done) | (go_simp; rfl)); intro gb280 hg w5 hbox hb; have n0_ := mkA (z17 (by repeat (first | (with_reducible first | exact HB.out | apply z11 | apply z10 | apply z12) | exact HB.out)) hb); have n1_ := mkA (hbox); have n2_ := mkA ((by rw [hg]; exact (z18 (by repeat (first | (with_reducible first | exact HB.out | apply z11 | apply z10 | apply z12) | exact HB.out))) : w.heap.size ≤ gb280)); have n3_ := mkA ((by rw [hg]; exact (z18 (by repeat (first | (with_reducible first | exact HB.out | apply z11 | apply z10 | apply z12) | exact HB.out))) : w.heap.size ≤ gb280)); clear HB; have HB := n0_; have BK280 := n1_; have GW280 := n2_; have GE280 := n3_; clear n0_ n1_ n2_ n3_; clear hb hbox hg))
  go_ret
  exact ⟨by first | rfl | (simp [z20, z19] <;> rfl) | (simp [*, z20, z19] <;> rfl), by repeat (first | (with_reducible first | exact HB.out | apply z11 | apply z10 | apply z12 | refine z15 ?_ GE280.out) | exact HB.out)⟩
 ·rw [if_neg c4] at H
  have c4b0 : (a2 == 0) = false := beq_eq_false_iff_ne.mpr c4
  have c4b1 : (a2 != 0) = true := bne_iff_ne.mpr c4
  have H' := mkA H
  clear H
  go_enter Try.func33, Try.ntmps33
  go_wp2_with (first | ((with_reducible refine z24 (N := 3) rfl ?_); refine z22 ?hg (N := 3) ?hd (cs := #[.int .i64 a0_0, .slice A0_1 l0_1.length c0_1, .slice A0_2 l0_2.length c0_2]) (t := 25) ?hr ?_; (case hd => rfl); (case hg => rfl); (case hr => first | (go_simp; done) | (go_simp; rfl)); intro gb280 hg w6 hbox hb; have n0_ := mkA (z17 (by repeat (first | (with_reducible first | exact HB.out | apply z11 | apply z10 | apply z12) | exact HB.out)) hb); have n1_ := mkA (hbox); have n2_ := mkA ((by rw [hg]; exact (z18 (by repeat (first | (with_reducible first | exact HB.out | apply z11 | apply z10 | apply z12) | exact HB.out))) : w.heap.size ≤ gb280)); have n3_ := mkA ((by rw [hg]; exact (z18 (by repeat (first | (with_reducible first | exact HB.out | apply z11 | apply z10 | apply z12) | exact HB.out))) : w.heap.size ≤ gb280)); clear HB; have HB := n0_; have BK280 := n1_; have GW280 := n2_; have GE280 := n3_; clear n0_ n1_ n2_ n3_; clear hb hbox hg))
  go_loopg [8, 9] k (fun kq v8 v9 w' => ∃ (x8_1 : Int) (x9_1 : Int), v8 = .int .i64 x8_1 ∧ v9 = .int .i64 x9_1 ∧ Aside0 (pr_Most.l0 kq l1 a2 (Go.bits .and .i64 a2 (wrap64 (-a2))) x8_1 x9_1 a0_0 l0_1 l0_2 = some r) ∧ Aside0 (kq ≤ k) ∧ Aside0 (w'.heap[gb280]? = some (.cells #[.int .i64 a0_0, (.slice A0_1 l0_1.length c0_1), (.slice A0_2 l0_2.length c0_2)] 25 (0, 0))) ∧ Aside0 (Below w.heap.size w w'))
  case atStart => exact ⟨(0), (a2), (by first | rfl | (simp; done) | (simp [*]; done)), (by first | rfl | (simp; done) | (simp [*]; done)), H', ⟨Nat.le_refl _⟩, ⟨by (with_reducible repeat (first | refine z16 ?_ _ | refine z28 ?_ | refine z27 ?_ _)); exact BK280.out⟩, ⟨by repeat (first | (with_reducible first | exact HB.out | apply z11 | apply z10 | apply z12 | refine z15 ?_ GE280.out) | exact HB.out)⟩⟩
  case round =>
   clear H'
   try clear c1
   try clear p2
   try clear c3
   try clear c4
   try clear c4b0
   try clear c4b1
   try clear p6
   obtain ⟨x8_1, x9_1, rfl, rfl, HA, HK1, BK280, HB⟩ := hrel
   cases gk with
   | zero => exact absurd HA.out (by simp [pr_Most.l0])
   | succ k1 =>
    have H := HA.out
    clear HA
    simp only [pr_Most.l0] at H
    by_cases c7 : x9_1 > 0
    ·rw [if_pos c7] at H
     have c7b0 : decide (0 < x9_1) = true := decide_eq_true c7
     clear c7
     by_cases c8 : (Go.bits .and .i64 x9_1 (Go.bits .and .i64 a2 (wrap64 (-a2)))) = 0
     ·rw [if_pos c8] at H
      have c8b0 : ((Go.bits .and .i64 x9_1 (Go.bits .and .i64 a2 (wrap64 (-a2)))) == 0) = true := beq_iff_eq.mpr c8
      have c8b1 : ((Go.bits .and .i64 x9_1 (Go.bits .and .i64 a2 (wrap64 (-a2)))) != 0) = false := bne_eq_false_iff_eq.mpr c8
      clear c8
      have H' := mkA H
      clear H
      go_wp2
      go_roundg k1
      case measure => have := HK1.out; omega
      case rel => exact ⟨(x8_1), (Go.bits .and .i64 (wrap64 (x9_1 - 1)) a2), (by first | rfl | (simp; done) | (simp [*]; done)), (by first | rfl | (simp; done) | (simp [*]; done)), H', ⟨by have := HK1.out; omega⟩, ⟨by (with_reducible repeat (first | refine z16 ?_ _ | refine z28 ?_ | refine z27 ?_ _)); exact BK280.out⟩, ⟨by repeat (first | (with_reducible first | exact HB.out | apply z11 | apply z10 | apply z12 | refine z15 ?_ GE280.out) | exact HB.out)⟩⟩
     ·rw [if_neg c8] at H
      have c8b0 : ((Go.bits .and .i64 x9_1 (Go.bits .and .i64 a2 (wrap64 (-a2)))) == 0) = false := beq_eq_false_iff_ne.mpr c8
      have c8b1 : ((Go.bits .and .i64 x9_1 (Go.bits .and .i64 a2 (wrap64 (-a2)))) != 0) = true := bne_iff_ne.mpr c8
      replace H := Option.bind_eq_some_iff.mp H
      obtain ⟨t281, A90, H⟩ := H
      replace H : (if t281 = 0 then ((pr_Most.f k1 a0_0 l0_1 l0_2 l1 (Go.bits .andNot .i64 a2 x9_1)).bind fun t282 => (pr_Most.l0 k1 l1 a2 (Go.bits .and .i64 a2 (wrap64 (-a2))) (mx x8_1 (wrap64 (1 + t282))) (Go.bits .and .i64 (wrap64 (x9_1 - 1)) a2) a0_0 l0_1 l0_2)) else (pr_Most.l0 k1 l1 a2 (Go.bits .and .i64 a2 (wrap64 (-a2))) x8_1 (Go.bits .and .i64 (wrap64 (x9_1 - 1)) a2) a0_0 l0_1 l0_2)) = some r := H
      have A9 := mkA A90
      clear A90
      by_cases c10 : t281 = 0
      ·rw [if_pos c10] at H
       have c10b0 : (t281 == 0) = true := beq_iff_eq.mpr c10
       have c10b1 : (t281 != 0) = false := bne_eq_false_iff_eq.mpr c10
       clear c10
       replace H := Option.bind_eq_some_iff.mp H
       obtain ⟨t282, A110, H⟩ := H
       replace H : (pr_Most.l0 k1 l1 a2 (Go.bits .and .i64 a2 (wrap64 (-a2))) (mx x8_1 (wrap64 (1 + t282))) (Go.bits .and .i64 (wrap64 (x9_1 - 1)) a2) a0_0 l0_1 l0_2) = some r := H
       have A11 := mkA A110
       clear A110
       obtain ⟨ji12, hji12⟩ : ∃ j_ : Int, (mx x8_1 (wrap64 (1 + t282))) = j_ := ⟨_, rfl⟩
       replace H : (pr_Most.l0 k1 l1 a2 (Go.bits .and .i64 a2 (wrap64 (-a2))) ji12 (Go.bits .and .i64 (wrap64 (x9_1 - 1)) a2) a0_0 l0_1 l0_2) = some r := by first | (rw [hji12] at H; exact H) | (simp only [hji12] at H ⊢; exact H)
       (try rw [hji12] at A9)
       (try rw [hji12] at A11)
       have hji12_ : (if x8_1 < (wrap64 (1 + t282)) then (wrap64 (1 + t282)) else x8_1) = ji12 := hji12
       have H' := mkA H
       clear H
       have hcz13_0 : wr.cell? ⟨gb280, 0, none⟩ = some (.int .i64 a0_0) := (z13 BK280.out 0).trans rfl
       have hcz13_1 : wr.cell? ⟨gb280, 1, none⟩ = some (.slice A0_1 l0_1.length c0_1) := (z13 BK280.out 1).trans rfl
       have hcz13_2 : wr.cell? ⟨gb280, 2, none⟩ = some (.slice A0_2 l0_2.length c0_2) := (z13 BK280.out 2).trans rfl
       have hfz13_0 := z14 BK280.out 0
       have hfz13_1 := z14 BK280.out 1
       have hfz13_2 := z14 BK280.out 2
       go_wp2_with (first | (go_at_call 82; (with_reducible refine (pr_Together.calls k1 a0_0 _ _ l0_1 _ _ l0_2 _ _ l1 x9_1 t281 _ ?side1 ?side2 ?side3 ?side4 ?side5 ?side6 A9.out).mono ?_); (case side1 => repeat (first | exact (Kd.C_below HR0_1.out HB.out) | (with_reducible refine Kd.C_alloc ?_ _) | (with_reducible refine Kd.C_drewN ?_ _) | (with_reducible refine Kd.C_drew ?_))); (case side2 => exact HC0_1.out); (case side3 => repeat (first | exact (Kd.C_below HR0_2.out HB.out) | (with_reducible refine Kd.C_alloc ?_ _) | (with_reducible refine Kd.C_drewN ?_ _) | (with_reducible refine Kd.C_drew ?_))); (case side4 => exact HC0_2.out); (case side5 => repeat (first | exact (Kd.C_below HR1.out HB.out) | (with_reducible refine Kd.C_alloc ?_ _) | (with_reducible refine Kd.C_drewN ?_ _) | (with_reducible refine Kd.C_drew ?_))); (case side6 => exact HC1.out); rintro e w14 ⟨rfl, hb⟩; have n0_ := mkA (blk_below (g := gb280) (o := .cells #[.int .i64 a0_0, .slice A0_1 l0_1.length c0_1, .slice A0_2 l0_2.length c0_2] 25 (0, 0)) (by (with_reducible repeat (first | refine z16 ?_ _ | refine z28 ?_ | refine z27 ?_ _)); exact BK280.out) hb); have n1_ := mkA (z17 (by repeat (first | (with_reducible first | exact HB.out | apply z11 | apply z10 | apply z12 | refine z15 ?_ GE280.out) | exact HB.out)) hb); clear BK280; clear HB; have BK280 := n0_; have HB := n1_; clear n0_ n1_; (try clear hb); (try clear hb2); (try clear hk); (try clear hi); have hcz15_0 : w14.cell? ⟨gb280, 0, none⟩ = some (.int .i64 a0_0) := (z13 BK280.out 0).trans rfl; have hcz15_1 : w14.cell? ⟨gb280, 1, none⟩ = some (.slice A0_1 l0_1.length c0_1) := (z13 BK280.out 1).trans rfl; have hcz15_2 : w14.cell? ⟨gb280, 2, none⟩ = some (.slice A0_2 l0_2.length c0_2) := (z13 BK280.out 2).trans rfl; have hfz15_0 := z14 BK280.out 0; have hfz15_1 := z14 BK280.out 1; have hfz15_2 := z14 BK280.out 2) | ((with_reducible refine z23 (f := 33) rfl ?_); refine goesL_ (some 40) rfl rfl Try.func33 (by kernel_rfl) rfl #[.agg #[.int .i64 a0_0, .slice A0_1 l0_1.length c0_1, .slice A0_2 l0_2.length c0_2], .slice A1 l1.length c1, .int .i64 (Go.bits .andNot .i64 a2 x9_1)] rfl (by (try simp only [List.map_toArray, List.map_cons, List.map_nil]); first | done | rfl | (simp only [List.length_drop, List.length_take]; rfl)) ?_; (with_reducible refine (ih k1 (by have := HK1.out; omega) a0_0 _ _ l0_1 _ _ l0_2 _ _ l1 (Go.bits .andNot .i64 a2 x9_1) t282 _ ?side1 ?side2 ?side3 ?side4 ?side5 ?side6 A11.out).mono ?_); (case side1 => repeat (first | exact (Kd.C_below HR0_1.out HB.out) | (with_reducible refine Kd.C_alloc ?_ _) | (with_reducible refine Kd.C_drewN ?_ _) | (with_reducible refine Kd.C_drew ?_))); (case side2 => exact HC0_1.out); (case side3 => repeat (first | exact (Kd.C_below HR0_2.out HB.out) | (with_reducible refine Kd.C_alloc ?_ _) | (with_reducible refine Kd.C_drewN ?_ _) | (with_reducible refine Kd.C_drew ?_))); (case side4 => exact HC0_2.out); (case side5 => repeat (first | exact (Kd.C_below HR1.out HB.out) | (with_reducible refine Kd.C_alloc ?_ _) | (with_reducible refine Kd.C_drewN ?_ _) | (with_reducible refine Kd.C_drew ?_))); (case side6 => exact HC1.out); rintro e w16 ⟨rfl, hb⟩; refine ⟨_, rfl, ?_⟩; have n0_ := mkA (blk_below (g := gb280) (o := .cells #[.int .i64 a0_0, .slice A0_1 l0_1.length c0_1, .slice A0_2 l0_2.length c0_2] 25 (0, 0)) (by (with_reducible repeat (first | refine z16 ?_ _ | refine z28 ?_ | refine z27 ?_ _)); exact BK280.out) hb); have n1_ := mkA (z17 (by repeat (first | (with_reducible first | exact HB.out | apply z11 | apply z10 | apply z12 | refine z15 ?_ GE280.out) | exact HB.out)) hb); clear BK280; clear HB; have BK280 := n0_; have HB := n1_; clear n0_ n1_; (try clear hb); (try clear hb2); (try clear hk); (try clear hi)))
       go_roundg k1
       case measure => have := HK1.out; omega
       case rel => exact ⟨(ji12), (Go.bits .and .i64 (wrap64 (x9_1 - 1)) a2), (by first | rfl | (simp; done) | (simp only [← hji12] <;> (first | rfl | simp)) | (simp [*]; done)), (by first | rfl | (simp; done) | (simp [*]; done)), H', ⟨by have := HK1.out; omega⟩, ⟨by (with_reducible repeat (first | refine z16 ?_ _ | refine z28 ?_ | refine z27 ?_ _)); exact BK280.out⟩, ⟨by repeat (first | (with_reducible first | exact HB.out | apply z11 | apply z10 | apply z12 | refine z15 ?_ GE280.out) | exact HB.out)⟩⟩
      ·rw [if_neg c10] at H
       have c10b0 : (t281 == 0) = false := beq_eq_false_iff_ne.mpr c10
       have c10b1 : (t281 != 0) = true := bne_iff_ne.mpr c10
       have H' := mkA H
       clear H
       have hcz17_0 : wr.cell? ⟨gb280, 0, none⟩ = some (.int .i64 a0_0) := (z13 BK280.out 0).trans rfl
       have hcz17_1 : wr.cell? ⟨gb280, 1, none⟩ = some (.slice A0_1 l0_1.length c0_1) := (z13 BK280.out 1).trans rfl
       have hcz17_2 : wr.cell? ⟨gb280, 2, none⟩ = some (.slice A0_2 l0_2.length c0_2) := (z13 BK280.out 2).trans rfl
       have hfz17_0 := z14 BK280.out 0
       have hfz17_1 := z14 BK280.out 1
       have hfz17_2 := z14 BK280.out 2
       go_wp2_with (first | (go_at_call 82; (with_reducible refine (pr_Together.calls k1 a0_0 _ _ l0_1 _ _ l0_2 _ _ l1 x9_1 t281 _ ?side1 ?side2 ?side3 ?side4 ?side5 ?side6 A9.out).mono ?_); (case side1 => repeat (first | exact (Kd.C_below HR0_1.out HB.out) | (with_reducible refine Kd.C_alloc ?_ _) | (with_reducible refine Kd.C_drewN ?_ _) | (with_reducible refine Kd.C_drew ?_))); (case side2 => exact HC0_1.out); (case side3 => repeat (first | exact (Kd.C_below HR0_2.out HB.out) | (with_reducible refine Kd.C_alloc ?_ _) | (with_reducible refine Kd.C_drewN ?_ _) | (with_reducible refine Kd.C_drew ?_))); (case side4 => exact HC0_2.out); (case side5 => repeat (first | exact (Kd.C_below HR1.out HB.out) | (with_reducible refine Kd.C_alloc ?_ _) | (with_reducible refine Kd.C_drewN ?_ _) | (with_reducible refine Kd.C_drew ?_))); (case side6 => exact HC1.out); rintro e w18 ⟨rfl, hb⟩; have n0_ := mkA (blk_below (g := gb280) (o := .cells #[.int .i64 a0_0, .slice A0_1 l0_1.length c0_1, .slice A0_2 l0_2.length c0_2] 25 (0, 0)) (by (with_reducible repeat (first | refine z16 ?_ _ | refine z28 ?_ | refine z27 ?_ _)); exact BK280.out) hb); have n1_ := mkA (z17 (by repeat (first | (with_reducible first | exact HB.out | apply z11 | apply z10 | apply z12 | refine z15 ?_ GE280.out) | exact HB.out)) hb); clear BK280; clear HB; have BK280 := n0_; have HB := n1_; clear n0_ n1_; (try clear hb); (try clear hb2); (try clear hk); (try clear hi)))
       go_roundg k1
       case measure => have := HK1.out; omega
       case rel => exact ⟨(x8_1), (Go.bits .and .i64 (wrap64 (x9_1 - 1)) a2), (by first | rfl | (simp; done) | (simp [*]; done)), (by first | rfl | (simp; done) | (simp [*]; done)), H', ⟨by have := HK1.out; omega⟩, ⟨by (with_reducible repeat (first | refine z16 ?_ _ | refine z28 ?_ | refine z27 ?_ _)); exact BK280.out⟩, ⟨by repeat (first | (with_reducible first | exact HB.out | apply z11 | apply z10 | apply z12 | refine z15 ?_ GE280.out) | exact HB.out)⟩⟩
    ·rw [if_neg c7] at H
     have c7b0 : decide (0 < x9_1) = false := decide_eq_false c7
     clear c7
     obtain rfl := Option.some.inj H
     go_wp2
     go_ret
     exact ⟨by first | rfl | (simp [z20, z19] <;> rfl) | (simp [*, z20, z19] <;> rfl), by repeat (first | (with_reducible first | exact HB.out | apply z11 | apply z10 | apply z12 | refine z15 ?_ GE280.out) | exact HB.out)⟩
end Go.Proofs.Ytncaadckehikpaa.Q
