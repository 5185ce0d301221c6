/- A part of the proof: contracts of functions and plain facts (Q25). No condition. -/
import Derived.Test.YtncaadckehikpaaM3
import Derived.Test.YtncaadckehikpaaM19
namespace Go.Proofs.Ytncaadckehikpaa.Q
open Go.RowKit Go.Proofs.YtncaadckehikpaaW.PrintWords Go.Proofs.YtncaadckehikpaaW.PrintLast Go.Proofs.YtncaadckehikpaaW.PrintMore
attribute [local go_sem] z30 z29 max_two min_two   -- for this text's walks alone
set_option linter.unusedVariables false
set_option linter.unusedSimpArgs false
/-! ### soap_Owes: function 24 -/
def soap_Owes.l0 : Nat → List Int → List (S44) → Int → Int → Option (List Int × Int)
 | 0, _, _, _, _ => none
 | k + 1, x6, x18, x19, x20 => if x20 < x19 then (if 0 ≤ x20 then (if x20 < (x18.length : Int) then (if ((rd_T44 x18 x20).f1) < 0 then (if x6.length < 17592186044416 then (soap_Owes.l0 k (x6 ++ [1]) x18 x19 (wrap64 (x20 + 1))) else (none)) else (if ((rd_T44 x18 x20).f0) ≥ 0 then (if x6.length < 17592186044416 then (soap_Owes.l0 k (x6 ++ [2]) x18 x19 (wrap64 (x20 + 1))) else (none)) else (if x6.length < 17592186044416 then (soap_Owes.l0 k (x6 ++ [3]) x18 x19 (wrap64 (x20 + 1))) else (none)))) else (none)) else (none)) else (some (x6, 0))
def soap_Owes.f (k : Nat) (a0_0 : Int) (l0_1 : List (S122)) (l0_2 : List (S124)) : Option (List Int × Int) := (soap_Bounds.f a0_0 l0_1 l0_2).bind fun bt108 => (if bt108.2 = 0 then (soap_Owes.l0 k ([] : List Int) bt108.1 (bt108.1.length : Int) 0) else (some (([] : List Int), bt108.2)))
set_option maxHeartbeats 8000000 in
set_option maxRecDepth 100000 in
theorem soap_Owes.calls (k : Nat) (a0_0 : Int) (A0_1 : Option Addr) (c0_1 : Nat) (l0_1 : List (S122)) (A0_2 : Option Addr) (c0_2 : Nat) (l0_2 : List (S124)) (r1 : List Int) (r2 : Int) (w : World) (hr0_1 : Kd.C k122 w A0_1 l0_1.length l0_1) (hc0_1 : l0_1.length ≤ c0_1) (hr0_2 : Kd.C k124 w A0_2 l0_2.length l0_2) (hc0_2 : l0_2.length ≤ c0_2) (h : soap_Owes.f k a0_0 l0_1 l0_2 = some (r1, r2)) :
  Calls Try.prog 24 #[.agg #[.int .i64 a0_0, .slice A0_1 l0_1.length c0_1, .slice A0_2 l0_2.length c0_2]] w fun e w' => ∃ v0_ : Value, e = .returned (.tuple #[v0_, .int .i64 r2]) ∧ Kd.R (Kd.int .i64) 3 w' w.heap.size (fun _ => True) v0_ r1 ∧ Below w.heap.size w w' := by
 have hu35 := Try.underlying35
 have hu44 := Try.underlying44
 have HR0_1 := mkA hr0_1
 have HC0_1 := mkA hc0_1
 clear hr0_1 hc0_1
 have HR0_2 := mkA hr0_2
 have HC0_2 := mkA hc0_2
 clear hr0_2 hc0_2
 have HB := mkA (Below.refl w.heap.size w)
 have H : ((soap_Bounds.f a0_0 l0_1 l0_2).bind fun bt108 => (if bt108.2 = 0 then (soap_Owes.l0 k ([] : List Int) bt108.1 (bt108.1.length : Int) 0) else (some (([] : List Int), bt108.2)))) = some (r1, r2) := h
 clear h
 replace H := Option.bind_eq_some_iff.mp H
 obtain ⟨⟨t108, t111⟩, A20, H⟩ := H
 replace H : (if t111 = 0 then (soap_Owes.l0 k ([] : List Int) t108 (t108.length : Int) 0) else (some (([] : List Int), t111))) = some (r1, r2) := H
 have A2 := mkA A20
 clear A20
 by_cases c3 : t111 = 0
 ·rw [if_pos c3] at H
  have c3b0 : (t111 == 0) = true := beq_iff_eq.mpr c3
  have c3b1 : (t111 != 0) = false := bne_eq_false_iff_eq.mpr c3
  clear c3
  have H' := mkA H
  clear H
  go_enter Try.func24, Try.ntmps24
  go_wp2_with (first | ((with_reducible refine z24 (N := 1) rfl ?_); refine z23 ?hg (N := 1) ?hd (cs := #[.int .i64 a0_0, .slice A0_1 l0_1.length c0_1, .slice A0_2 l0_2.length c0_2]) (t := 35) ?hr ?_; (case hd => rfl); (case hg => rfl); (case hr => first | (go_simp; done) | (go_simp; rfl)); intro gb107 hg w4 hbox hb; have n0_ := mkA (z16 (by repeat (with_reducible first | exact HB.out | apply z10 | apply z11 | apply z13)) hb); have n1_ := mkA (hbox); have n2_ := mkA ((by rw [hg]; exact (z18 (by repeat (with_reducible first | exact HB.out | apply z10 | apply z11 | apply z13))) : w.heap.size ≤ gb107)); have n3_ := mkA ((by rw [hg]; exact (z18 (by repeat (with_reducible first | exact HB.out | apply z10 | apply z11 | apply z13))) : w.heap.size ≤ gb107)); clear HB; have HB := n0_; have BK107 := n1_; have GW107 := n2_; have GE107 := n3_; clear n0_ n1_ n2_ n3_; clear hb hbox hg; have hcz5_0 : w4.cell? ⟨gb107, 0, none⟩ = some (.int .i64 a0_0) := (z12 BK107.out 0).trans rfl; have hcz5_1 : w4.cell? ⟨gb107, 1, none⟩ = some (.slice A0_1 l0_1.length c0_1) := (z12 BK107.out 1).trans rfl; have hcz5_2 : w4.cell? ⟨gb107, 2, none⟩ = some (.slice A0_2 l0_2.length c0_2) := (z12 BK107.out 2).trans rfl; have hfz5_0 := z14 BK107.out 0; have hfz5_1 := z14 BK107.out 1; have hfz5_2 := z14 BK107.out 2) | ((with_reducible refine z25 (f := 22) rfl ?_); refine goesL_ (some 12) rfl rfl Try.func22 (by kernel_rfl) rfl #[.agg #[.int .i64 a0_0, .slice A0_1 l0_1.length c0_1, .slice A0_2 l0_2.length c0_2]] rfl (by (try simp only [List.map_toArray, List.map_cons, List.map_nil]); first | done | rfl | (simp only [List.length_drop, List.length_take]; rfl)) ?_; (with_reducible refine (soap_Bounds.calls a0_0 _ _ l0_1 _ _ l0_2 t108 t111 _ ?side1 ?side2 ?side3 ?side4 A2.out).mono ?_); (case side1 => repeat (first | exact (Kd.C_below HR0_1.out HB.out))); (case side2 => exact HC0_1.out); (case side3 => repeat (first | exact (Kd.C_below HR0_2.out HB.out))); (case side4 => exact HC0_2.out); rintro e w6 ⟨v109, rfl, ho0, hb⟩; refine ⟨_, rfl, ?_⟩; have n0_ := mkA (Kd.R_lower ho0 (z18 (by repeat (with_reducible first | exact HB.out | apply z10 | apply z11 | apply z13 | refine z15 ?_ GE107.out)))); have n1_ := mkA (blk_below (g := gb107) (o := .cells #[.int .i64 a0_0, .slice A0_1 l0_1.length c0_1, .slice A0_2 l0_2.length c0_2] 35 (0, 0)) (by (with_reducible repeat (first | refine z17 ?_ _)); exact BK107.out) hb); have n2_ := mkA (z16 (by repeat (with_reducible first | exact HB.out | apply z10 | apply z11 | apply z13 | refine z15 ?_ GE107.out)) hb); clear BK107; clear HB; have HO110 := n0_; have BK107 := n1_; have HB := n2_; clear n0_ n1_ n2_; (try clear hb); (try clear hb2); (try clear hk); (try clear hi); (try clear ho0); obtain ⟨Ao7, co7, eo7⟩ := Kd.R_slice HO110.out; subst eo7))
  go_loopg [6, 20] k (fun kq v6 v20 w' => ∃ (x6_1 : List Int) (x20_1 : Int), v20 = .int .i64 x20_1 ∧ Aside0 (soap_Owes.l0 kq x6_1 t108 (t108.length : Int) x20_1 = some (r1, r2)) ∧ Aside0 (kq ≤ k) ∧ Aside0 (Kd.R (Kd.int .i64) 3 w' w.heap.size (fun _ => True) v6 x6_1) ∧ Aside0 (Kd.R k44 44 w' w.heap.size (fun _ => True) (.slice Ao7 t108.length co7) t108) ∧ Aside0 (w'.heap[gb107]? = some (.cells #[.int .i64 a0_0, (.slice A0_1 l0_1.length c0_1), (.slice A0_2 l0_2.length c0_2)] 35 (0, 0))) ∧ Aside0 (Below w.heap.size w w'))
  case atStart => exact ⟨(([] : List Int)), (0), (by first | rfl | (simp; done) | (simp [*]; done)), H', ⟨Nat.le_refl _⟩, ⟨by first | exact Kd.R_nil _ _ _ _ _ | exact Kd.N_nil _ _ _ _ _ | exact Kd.V_nil _ _ _ _ _ | exact Kd.Q_nil _ _ _ _ _ | exact Kd.S_nil _ _ _ _ _⟩, ⟨by (with_reducible repeat (first | apply Kd.R_alloc)); exact HO110.out⟩, ⟨by (with_reducible repeat (first | refine z17 ?_ _)); exact BK107.out⟩, ⟨by repeat (with_reducible first | exact HB.out | apply z10 | apply z11 | apply z13 | refine z15 ?_ GE107.out)⟩⟩
  case round =>
   clear H'
   try clear c2
   try clear p2
   try clear c3
   try clear c3b0
   try clear c3b1
   try clear hcz5_0
   try clear hcz5_1
   try clear hcz5_2
   try clear hfz5_0
   try clear hfz5_1
   try clear hfz5_2
   obtain ⟨x6_1, x20_1, rfl, HA, HK1, HO_6, HO_18, BK107, HB⟩ := hrel
   cases gk with
   | zero => exact absurd HA.out (by simp [soap_Owes.l0])
   | succ k1 =>
    have H := HA.out
    clear HA
    simp only [soap_Owes.l0] at H
    by_cases c8 : x20_1 < (t108.length : Int)
    ·rw [if_pos c8] at H
     have c8b0 : decide (x20_1 < (t108.length : Int)) = true := decide_eq_true c8
     clear c8
     by_cases c9 : 0 ≤ x20_1
     ·rw [if_pos c9] at H
      have c9b0 : decide (0 ≤ x20_1) = true := decide_eq_true c9
      clear c9
      by_cases c10 : x20_1 < (t108.length : Int)
      ·rw [if_pos c10] at H
       have c10b0 : decide (x20_1 < (t108.length : Int)) = true := decide_eq_true c10
       clear c10
       by_cases c11 : ((rd_T44 t108 x20_1).f1) < 0
       ·rw [if_pos c11] at H
        have c11b0 : decide (((rd_T44 t108 x20_1).f1) < 0) = true := decide_eq_true c11
        clear c11
        by_cases c12 : x6_1.length < 17592186044416
        ·rw [if_pos c12] at H
         have LMc12 := mkA c12
         clear c12
         obtain ⟨y114, hy114⟩ : ∃ y_ : List Int, y_ = (x6_1 ++ [1]) := ⟨_, rfl⟩
         replace H : (soap_Owes.l0 k1 y114 t108 (t108.length : Int) (wrap64 (x20_1 + 1))) = some (r1, r2) := by first | (rw [hy114]; with_reducible exact H) | (have H2_ := (Option.bind_some _ _).symm.trans H; rw [hy114]; with_reducible exact H2_) | (have H2_ := (Option.bind_some _ _).symm.trans H; with_reducible exact H2_) | with_reducible exact H | (rw [hy114]; exact H) | exact H
         have Ny114 := mkA hy114
         clear hy114
         have H' := mkA H
         clear H
         have p112 : 0 ≤ (x20_1 : Int) := of_decide_eq_true (by first | (with_reducible assumption) | assumption)
         have q112 : x20_1 < (t108.length : Int) := of_decide_eq_true (by first | (with_reducible assumption) | assumption)
         obtain ⟨ad112, e112, hx112_0, hx112_1⟩ := at_T44 (Kd.R_reads' HO_18.out).2.2 x20_1 p112 q112
         cases e112
         replace p112 := eq_true p112
         replace q112 := eq_true q112
         go_wp2_with (first | ((with_reducible refine z24 (N := 8) rfl ?_); refine z23 ?hg (N := 8) ?hd (cs := #[.int .i64 0, .int .i64 0]) (t := 44) ?hr ?_; (case hd => rfl); (case hg => rfl); (case hr => first | (go_simp; done) | (go_simp; rfl)); intro gb113 hg w13 hbox hb; have n0_ := mkA (Kd.R_below (by (with_reducible repeat (first | apply Kd.R_alloc)); exact HO_6.out) hb); have n1_ := mkA (Kd.R_below (Kd.R_elderB (by (with_reducible repeat (first | apply Kd.R_alloc)); exact HO_18.out) gb113 (Nat.le_of_eq hg.symm)) hb); have n2_ := mkA (blk_below (g := gb107) (o := .cells #[.int .i64 a0_0, .slice A0_1 l0_1.length c0_1, .slice A0_2 l0_2.length c0_2] 35 (0, 0)) (by (with_reducible repeat (first | refine z17 ?_ _)); exact BK107.out) hb); have n3_ := mkA (z16 (by repeat (with_reducible first | exact HB.out | apply z10 | apply z11 | apply z13 | refine z15 ?_ GE107.out)) hb); have n4_ := mkA (hbox); have n5_ := mkA ((by rw [hg]; exact (z18 (by repeat (with_reducible first | exact HB.out | apply z10 | apply z11 | apply z13 | refine z15 ?_ GE107.out))) : w.heap.size ≤ gb113)); have n6_ := mkA ((by rw [hg]; exact (z18 (by repeat (with_reducible first | exact HB.out | apply z10 | apply z11 | apply z13 | refine z15 ?_ GE107.out))) : w.heap.size ≤ gb113)); have n7_ := mkA ((by rw [hg]; exact Nat.ne_of_lt (blk_lt (g := gb107) (o := .cells #[.int .i64 a0_0, .slice A0_1 l0_1.length c0_1, .slice A0_2 l0_2.length c0_2] 35 (0, 0)) (by (with_reducible repeat (first | refine z17 ?_ _)); exact BK107.out)) : gb107 ≠ gb113)); have n8_ := mkA ((by rw [hg]; exact Nat.ne_of_gt (blk_lt (g := gb107) (o := .cells #[.int .i64 a0_0, .slice A0_1 l0_1.length c0_1, .slice A0_2 l0_2.length c0_2] 35 (0, 0)) (by (with_reducible repeat (first | refine z17 ?_ _)); exact BK107.out)) : gb113 ≠ gb107)); clear HO_6; clear HO_18; clear BK107; clear HB; have HO_6 := n0_; have HO_18 := n1_; have BK107 := n2_; have HB := n3_; have BK113 := n4_; have GW113 := n5_; have GE113 := n6_; have NB107_113 := n7_; have NB113_107 := n8_; clear n0_ n1_ n2_ n3_ n4_ n5_ n6_ n7_ n8_; clear hb hbox hg; have hnb14 := NB113_107.out; have hnc14 := NB107_113.out; have hcz15_0 : w13.cell? ⟨gb113, 0, none⟩ = some (.int .i64 0) := (z12 BK113.out 0).trans rfl; have hcz15_1 : w13.cell? ⟨gb113, 1, none⟩ = some (.int .i64 0) := (z12 BK113.out 1).trans rfl; have hfz15_0 := z14 BK113.out 0; have hfz15_1 := z14 BK113.out 1) | ((with_reducible refine z35 (b := .append) (xs := #[.tmp 32, .tmp 34]) rfl ?_); at_builtin; refine Kd.R_append (Kd.int .i64) (w0 := w) w.heap.size rfl (.tmp 32) (.tmp 34) 37 3 (.int .i64 0) 8 rfl Try.underlying37 info3 rfl (by decide) (by omega) u6 x6_1 1 [.int .i64 1] (fun _ => True) (fun _ => False) rfl (by first | (go_simp; done) | (go_simp; rfl)) ?aP (fun _ hk => hk.elim) ?aF ?aO ?aB ?aS ?aL ?_; (case aP => exact rfl); (case aB => exact (by repeat (with_reducible first | exact HB.out | apply z10 | apply z11 | apply z13 | refine z15 ?_ GE107.out | refine z15 ?_ GE113.out))); (case aF => exact (fun _ _ => trivial)); (case aO => exact (by (with_reducible repeat (first | apply Kd.R_alloc)); exact Kd.R_mono (Kd.R_far (p := ⟨gb113, 1, none⟩) (Kd.R_far (p := ⟨gb113, 0, none⟩) (Kd.R_types HO_6.out BK113.out (by decide)) (fun _ hk => hk.2) (.int .i64 ((rd_T44 t108 x20_1).f0))) (fun _ hk => hk.2) (.int .i64 ((rd_T44 t108 x20_1).f1))) (fun _ hk => trivial))); (case aS => exact (z18 (by repeat (with_reducible first | exact HB.out | apply z10 | apply z11 | apply z13 | refine z15 ?_ GE107.out | refine z15 ?_ GE113.out)))); (case aL => have := LMc12.out; omega); intro v115 w16 ho hb hg hat; rw [← Ny114.out] at ho; have n0_ := mkA (Kd.R_over' (by (with_reducible repeat (first | apply Kd.R_alloc)); exact (Kd.R_mono (Kd.R_far (p := ⟨gb113, 1, none⟩) (Kd.R_far (p := ⟨gb113, 0, none⟩) (Kd.R_mono HO_18.out (fun k_ hk => (⟨hk, hk.2⟩ : _ ∧ k_ ≠ gb113))) (fun _ hk => hk.2) (.int .i64 ((rd_T44 t108 x20_1).f0))) (fun _ hk => hk.2) (.int .i64 ((rd_T44 t108 x20_1).f1))) (fun _ h_ => h_.1))) (Kd.R_typed (by (with_reducible repeat (first | apply Kd.R_alloc)); exact (Kd.R_mono (Kd.R_far (p := ⟨gb113, 1, none⟩) (Kd.R_far (p := ⟨gb113, 0, none⟩) (Kd.R_types HO_6.out BK113.out (by decide)) (fun _ hk => hk.2) (.int .i64 ((rd_T44 t108 x20_1).f0))) (fun _ hk => hk.2) (.int .i64 ((rd_T44 t108 x20_1).f1))) (fun _ h_ => h_.1)))) (by decide) hg); have n1_ := mkA (z36 (g := gb107) (o := .cells #[.int .i64 a0_0, .slice A0_1 l0_1.length c0_1, .slice A0_2 l0_2.length c0_2] 35 (0, 0)) (by (with_reducible repeat (first | refine z17 ?_ _)); refine blk_far ?_ NB107_113.out _; (with_reducible repeat (first | refine z17 ?_ _)); refine blk_far ?_ NB107_113.out _; (with_reducible repeat (first | refine z17 ?_ _)); exact BK107.out) hg (Kd.R_ne HO_6.out BK107.out (by decide))); have n2_ := mkA (z36 (g := gb113) (o := .cells #[.int .i64 ((rd_T44 t108 x20_1).f0), .int .i64 ((rd_T44 t108 x20_1).f1)] 44 (0, 0)) (by (with_reducible repeat (first | refine z17 ?_ _)); refine blk_put (cs := #[.int .i64 ((rd_T44 t108 x20_1).f0), .int .i64 0]) ?_ 1 _ rfl; (with_reducible repeat (first | refine z17 ?_ _)); refine blk_put (cs := #[.int .i64 0, .int .i64 0]) ?_ 0 _ rfl; (with_reducible repeat (first | refine z17 ?_ _)); exact BK113.out) hg (Kd.R_ne HO_6.out BK113.out (by decide))); have n3_ := mkA (hb); have n4_ := mkA (ho); clear HO_18; clear BK107; clear BK113; clear HB; clear HO_6; have HO_18 := n0_; have BK107 := n1_; have BK113 := n2_; have HB := n3_; have HO116 := n4_; clear n0_ n1_ n2_ n3_ n4_; clear ho hb hg hat))
         go_roundg k1
         case measure => have := HK1.out; omega
         case rel => exact ⟨(y114), (wrap64 (x20_1 + 1)), (by first | rfl | (simp; done) | (simp [*]; done)), H', ⟨by have := HK1.out; omega⟩, ⟨by (with_reducible repeat (first | apply Kd.R_alloc)); exact HO116.out⟩, ⟨by (with_reducible repeat (first | apply Kd.R_alloc)); exact Kd.R_mono HO_18.out (fun _ hk => trivial)⟩, ⟨by (with_reducible repeat (first | refine z17 ?_ _)); exact BK107.out⟩, ⟨by repeat (with_reducible first | exact HB.out | apply z10 | apply z11 | apply z13 | refine z15 ?_ GE107.out | refine z15 ?_ GE113.out)⟩⟩
        ·rw [if_neg c12] at H
         exact absurd H (by simp)
       ·rw [if_neg c11] at H
        have c11b0 : decide (((rd_T44 t108 x20_1).f1) < 0) = false := decide_eq_false c11
        clear c11
        by_cases c17 : ((rd_T44 t108 x20_1).f0) ≥ 0
        ·rw [if_pos c17] at H
         have c17b0 : decide (0 ≤ ((rd_T44 t108 x20_1).f0)) = true := decide_eq_true c17
         clear c17
         by_cases c18 : x6_1.length < 17592186044416
         ·rw [if_pos c18] at H
          have LMc18 := mkA c18
          clear c18
          obtain ⟨y117, hy117⟩ : ∃ y_ : List Int, y_ = (x6_1 ++ [2]) := ⟨_, rfl⟩
          replace H : (soap_Owes.l0 k1 y117 t108 (t108.length : Int) (wrap64 (x20_1 + 1))) = some (r1, r2) := by first | (rw [hy117]; with_reducible exact H) | (have H2_ := (Option.bind_some _ _).symm.trans H; rw [hy117]; with_reducible exact H2_) | (have H2_ := (Option.bind_some _ _).symm.trans H; with_reducible exact H2_) | with_reducible exact H | (rw [hy117]; exact H) | exact H
          have Ny117 := mkA hy117
          clear hy117
          have H' := mkA H
          clear H
          have p112 : 0 ≤ (x20_1 : Int) := of_decide_eq_true (by first | (with_reducible assumption) | assumption)
          have q112 : x20_1 < (t108.length : Int) := of_decide_eq_true (by first | (with_reducible assumption) | assumption)
          obtain ⟨ad112, e112, hx112_0, hx112_1⟩ := at_T44 (Kd.R_reads' HO_18.out).2.2 x20_1 p112 q112
          cases e112
          replace p112 := eq_true p112
          replace q112 := eq_true q112
          go_wp2_with (first | ((with_reducible refine z24 (N := 8) rfl ?_); refine z23 ?hg (N := 8) ?hd (cs := #[.int .i64 0, .int .i64 0]) (t := 44) ?hr ?_; (case hd => rfl); (case hg => rfl); (case hr => first | (go_simp; done) | (go_simp; rfl)); intro gb113 hg w19 hbox hb; have n0_ := mkA (Kd.R_below (by (with_reducible repeat (first | apply Kd.R_alloc)); exact HO_6.out) hb); have n1_ := mkA (Kd.R_below (Kd.R_elderB (by (with_reducible repeat (first | apply Kd.R_alloc)); exact HO_18.out) gb113 (Nat.le_of_eq hg.symm)) hb); have n2_ := mkA (blk_below (g := gb107) (o := .cells #[.int .i64 a0_0, .slice A0_1 l0_1.length c0_1, .slice A0_2 l0_2.length c0_2] 35 (0, 0)) (by (with_reducible repeat (first | refine z17 ?_ _)); exact BK107.out) hb); have n3_ := mkA (z16 (by repeat (with_reducible first | exact HB.out | apply z10 | apply z11 | apply z13 | refine z15 ?_ GE107.out)) hb); have n4_ := mkA (hbox); have n5_ := mkA ((by rw [hg]; exact (z18 (by repeat (with_reducible first | exact HB.out | apply z10 | apply z11 | apply z13 | refine z15 ?_ GE107.out))) : w.heap.size ≤ gb113)); have n6_ := mkA ((by rw [hg]; exact (z18 (by repeat (with_reducible first | exact HB.out | apply z10 | apply z11 | apply z13 | refine z15 ?_ GE107.out))) : w.heap.size ≤ gb113)); have n7_ := mkA ((by rw [hg]; exact Nat.ne_of_lt (blk_lt (g := gb107) (o := .cells #[.int .i64 a0_0, .slice A0_1 l0_1.length c0_1, .slice A0_2 l0_2.length c0_2] 35 (0, 0)) (by (with_reducible repeat (first | refine z17 ?_ _)); exact BK107.out)) : gb107 ≠ gb113)); have n8_ := mkA ((by rw [hg]; exact Nat.ne_of_gt (blk_lt (g := gb107) (o := .cells #[.int .i64 a0_0, .slice A0_1 l0_1.length c0_1, .slice A0_2 l0_2.length c0_2] 35 (0, 0)) (by (with_reducible repeat (first | refine z17 ?_ _)); exact BK107.out)) : gb113 ≠ gb107)); clear HO_6; clear HO_18; clear BK107; clear HB; have HO_6 := n0_; have HO_18 := n1_; have BK107 := n2_; have HB := n3_; have BK113 := n4_; have GW113 := n5_; have GE113 := n6_; have NB107_113 := n7_; have NB113_107 := n8_; clear n0_ n1_ n2_ n3_ n4_ n5_ n6_ n7_ n8_; clear hb hbox hg; have hnb20 := NB113_107.out; have hnc20 := NB107_113.out; have hcz21_0 : w19.cell? ⟨gb113, 0, none⟩ = some (.int .i64 0) := (z12 BK113.out 0).trans rfl; have hcz21_1 : w19.cell? ⟨gb113, 1, none⟩ = some (.int .i64 0) := (z12 BK113.out 1).trans rfl; have hfz21_0 := z14 BK113.out 0; have hfz21_1 := z14 BK113.out 1) | ((with_reducible refine z35 (b := .append) (xs := #[.tmp 32, .tmp 34]) rfl ?_); at_builtin; refine Kd.R_append (Kd.int .i64) (w0 := w) w.heap.size rfl (.tmp 32) (.tmp 34) 37 3 (.int .i64 0) 8 rfl Try.underlying37 info3 rfl (by decide) (by omega) u6 x6_1 2 [.int .i64 2] (fun _ => True) (fun _ => False) rfl (by first | (go_simp; done) | (go_simp; rfl)) ?aP (fun _ hk => hk.elim) ?aF ?aO ?aB ?aS ?aL ?_; (case aP => exact rfl); (case aB => exact (by repeat (with_reducible first | exact HB.out | apply z10 | apply z11 | apply z13 | refine z15 ?_ GE107.out | refine z15 ?_ GE113.out))); (case aF => exact (fun _ _ => trivial)); (case aO => exact (by (with_reducible repeat (first | apply Kd.R_alloc)); exact Kd.R_mono (Kd.R_far (p := ⟨gb113, 1, none⟩) (Kd.R_far (p := ⟨gb113, 0, none⟩) (Kd.R_types HO_6.out BK113.out (by decide)) (fun _ hk => hk.2) (.int .i64 ((rd_T44 t108 x20_1).f0))) (fun _ hk => hk.2) (.int .i64 ((rd_T44 t108 x20_1).f1))) (fun _ hk => trivial))); (case aS => exact (z18 (by repeat (with_reducible first | exact HB.out | apply z10 | apply z11 | apply z13 | refine z15 ?_ GE107.out | refine z15 ?_ GE113.out)))); (case aL => have := LMc18.out; omega); intro v118 w22 ho hb hg hat; rw [← Ny117.out] at ho; have n0_ := mkA (Kd.R_over' (by (with_reducible repeat (first | apply Kd.R_alloc)); exact (Kd.R_mono (Kd.R_far (p := ⟨gb113, 1, none⟩) (Kd.R_far (p := ⟨gb113, 0, none⟩) (Kd.R_mono HO_18.out (fun k_ hk => (⟨hk, hk.2⟩ : _ ∧ k_ ≠ gb113))) (fun _ hk => hk.2) (.int .i64 ((rd_T44 t108 x20_1).f0))) (fun _ hk => hk.2) (.int .i64 ((rd_T44 t108 x20_1).f1))) (fun _ h_ => h_.1))) (Kd.R_typed (by (with_reducible repeat (first | apply Kd.R_alloc)); exact (Kd.R_mono (Kd.R_far (p := ⟨gb113, 1, none⟩) (Kd.R_far (p := ⟨gb113, 0, none⟩) (Kd.R_types HO_6.out BK113.out (by decide)) (fun _ hk => hk.2) (.int .i64 ((rd_T44 t108 x20_1).f0))) (fun _ hk => hk.2) (.int .i64 ((rd_T44 t108 x20_1).f1))) (fun _ h_ => h_.1)))) (by decide) hg); have n1_ := mkA (z36 (g := gb107) (o := .cells #[.int .i64 a0_0, .slice A0_1 l0_1.length c0_1, .slice A0_2 l0_2.length c0_2] 35 (0, 0)) (by (with_reducible repeat (first | refine z17 ?_ _)); refine blk_far ?_ NB107_113.out _; (with_reducible repeat (first | refine z17 ?_ _)); refine blk_far ?_ NB107_113.out _; (with_reducible repeat (first | refine z17 ?_ _)); exact BK107.out) hg (Kd.R_ne HO_6.out BK107.out (by decide))); have n2_ := mkA (z36 (g := gb113) (o := .cells #[.int .i64 ((rd_T44 t108 x20_1).f0), .int .i64 ((rd_T44 t108 x20_1).f1)] 44 (0, 0)) (by (with_reducible repeat (first | refine z17 ?_ _)); refine blk_put (cs := #[.int .i64 ((rd_T44 t108 x20_1).f0), .int .i64 0]) ?_ 1 _ rfl; (with_reducible repeat (first | refine z17 ?_ _)); refine blk_put (cs := #[.int .i64 0, .int .i64 0]) ?_ 0 _ rfl; (with_reducible repeat (first | refine z17 ?_ _)); exact BK113.out) hg (Kd.R_ne HO_6.out BK113.out (by decide))); have n3_ := mkA (hb); have n4_ := mkA (ho); clear HO_18; clear BK107; clear BK113; clear HB; clear HO_6; have HO_18 := n0_; have BK107 := n1_; have BK113 := n2_; have HB := n3_; have HO119 := n4_; clear n0_ n1_ n2_ n3_ n4_; clear ho hb hg hat))
          go_roundg k1
          case measure => have := HK1.out; omega
          case rel => exact ⟨(y117), (wrap64 (x20_1 + 1)), (by first | rfl | (simp; done) | (simp [*]; done)), H', ⟨by have := HK1.out; omega⟩, ⟨by (with_reducible repeat (first | apply Kd.R_alloc)); exact HO119.out⟩, ⟨by (with_reducible repeat (first | apply Kd.R_alloc)); exact Kd.R_mono HO_18.out (fun _ hk => trivial)⟩, ⟨by (with_reducible repeat (first | refine z17 ?_ _)); exact BK107.out⟩, ⟨by repeat (with_reducible first | exact HB.out | apply z10 | apply z11 | apply z13 | refine z15 ?_ GE107.out | refine z15 ?_ GE113.out)⟩⟩
         ·rw [if_neg c18] at H
          exact absurd H (by simp)
        ·rw [if_neg c17] at H
         have c17b0 : decide (0 ≤ ((rd_T44 t108 x20_1).f0)) = false := decide_eq_false c17
         clear c17
         by_cases c23 : x6_1.length < 17592186044416
         ·rw [if_pos c23] at H
          have LMc23 := mkA c23
          clear c23
          obtain ⟨y120, hy120⟩ : ∃ y_ : List Int, y_ = (x6_1 ++ [3]) := ⟨_, rfl⟩
          replace H : (soap_Owes.l0 k1 y120 t108 (t108.length : Int) (wrap64 (x20_1 + 1))) = some (r1, r2) := by first | (rw [hy120]; with_reducible exact H) | (have H2_ := (Option.bind_some _ _).symm.trans H; rw [hy120]; with_reducible exact H2_) | (have H2_ := (Option.bind_some _ _).symm.trans H; with_reducible exact H2_) | with_reducible exact H | (rw [hy120]; exact H) | exact H
          have Ny120 := mkA hy120
          clear hy120
          have H' := mkA H
          clear H
          have p112 : 0 ≤ (x20_1 : Int) := of_decide_eq_true (by first | (with_reducible assumption) | assumption)
          have q112 : x20_1 < (t108.length : Int) := of_decide_eq_true (by first | (with_reducible assumption) | assumption)
          obtain ⟨ad112, e112, hx112_0, hx112_1⟩ := at_T44 (Kd.R_reads' HO_18.out).2.2 x20_1 p112 q112
          cases e112
          replace p112 := eq_true p112
          replace q112 := eq_true q112
          go_wp2_with (first | ((with_reducible refine z24 (N := 8) rfl ?_); refine z23 ?hg (N := 8) ?hd (cs := #[.int .i64 0, .int .i64 0]) (t := 44) ?hr ?_; (case hd => rfl); (case hg => rfl); (case hr => first | (go_simp; done) | (go_simp; rfl)); intro gb113 hg w24 hbox hb; have n0_ := mkA (Kd.R_below (by (with_reducible repeat (first | apply Kd.R_alloc)); exact HO_6.out) hb); have n1_ := mkA (Kd.R_below (Kd.R_elderB (by (with_reducible repeat (first | apply Kd.R_alloc)); exact HO_18.out) gb113 (Nat.le_of_eq hg.symm)) hb); have n2_ := mkA (blk_below (g := gb107) (o := .cells #[.int .i64 a0_0, .slice A0_1 l0_1.length c0_1, .slice A0_2 l0_2.length c0_2] 35 (0, 0)) (by (with_reducible repeat (first | refine z17 ?_ _)); exact BK107.out) hb); have n3_ := mkA (z16 (by repeat (with_reducible first | exact HB.out | apply z10 | apply z11 | apply z13 | refine z15 ?_ GE107.out)) hb); have n4_ := mkA (hbox); have n5_ := mkA ((by rw [hg]; exact (z18 (by repeat (with_reducible first | exact HB.out | apply z10 | apply z11 | apply z13 | refine z15 ?_ GE107.out))) : w.heap.size ≤ gb113)); have n6_ := mkA ((by rw [hg]; exact (z18 (by repeat (with_reducible first | exact HB.out | apply z10 | apply z11 | apply z13 | refine z15 ?_ GE107.out))) : w.heap.size ≤ gb113)); have n7_ := mkA ((by rw [hg]; exact Nat.ne_of_lt (blk_lt (g := gb107) (o := .cells #[.int .i64 a0_0, .slice A0_1 l0_1.length c0_1, .slice A0_2 l0_2.length c0_2] 35 (0, 0)) (by (with_reducible repeat (first | refine z17 ?_ _)); exact BK107.out)) : gb107 ≠ gb113)); have n8_ := mkA ((by rw [hg]; exact Nat.ne_of_gt (blk_lt (g := gb107) (o := .cells #[.int .i64 a0_0, .slice A0_1 l0_1.length c0_1, .slice A0_2 l0_2.length c0_2] 35 (0, 0)) (by (with_reducible repeat (first | refine z17 ?_ _)); exact BK107.out)) : gb113 ≠ gb107)); clear HO_6; clear HO_18; clear BK107; clear HB; have HO_6 := n0_; have HO_18 := n1_; have BK107 := n2_; have HB := n3_; have BK113 := n4_; have GW113 := n5_; have GE113 := n6_; have NB107_113 := n7_; have NB113_107 := n8_; clear n0_ n1_ n2_ n3_ n4_ n5_ n6_ n7_ n8_; clear hb hbox hg; have hnb25 := NB113_107.out; have hnc25 := NB107_113.out; have hcz26_0 : w24.cell? ⟨gb113, 0, none⟩ = some (.int .i64 0) := (z12 BK113.out 0).trans rfl; have hcz26_1 : w24.cell? ⟨gb113, 1, none⟩ = some (.int .i64 0) := (z12 BK113.out 1).trans rfl; have hfz26_0 := z14 BK113.out 0; have hfz26_1 := z14 BK113.out 1) | ((with_reducible refine z35 (b := .append) (xs := #[.tmp 32, .tmp 34]) rfl ?_); at_builtin; refine Kd.R_append (Kd.int .i64) (w0 := w) w.heap.size rfl (.tmp 32) (.tmp 34) 37 3 (.int .i64 0) 8 rfl Try.underlying37 info3 rfl (by decide) (by omega) u6 x6_1 3 [.int .i64 3] (fun _ => True) (fun _ => False) rfl (by first | (go_simp; done) | (go_simp; rfl)) ?aP (fun _ hk => hk.elim) ?aF ?aO ?aB ?aS ?aL ?_; (case aP => exact rfl); (case aB => exact (by repeat (with_reducible first | exact HB.out | apply z10 | apply z11 | apply z13 | refine z15 ?_ GE107.out | refine z15 ?_ GE113.out))); (case aF => exact (fun _ _ => trivial)); (case aO => exact (by (with_reducible repeat (first | apply Kd.R_alloc)); exact Kd.R_mono (Kd.R_far (p := ⟨gb113, 1, none⟩) (Kd.R_far (p := ⟨gb113, 0, none⟩) (Kd.R_types HO_6.out BK113.out (by decide)) (fun _ hk => hk.2) (.int .i64 ((rd_T44 t108 x20_1).f0))) (fun _ hk => hk.2) (.int .i64 ((rd_T44 t108 x20_1).f1))) (fun _ hk => trivial))); (case aS => exact (z18 (by repeat (with_reducible first | exact HB.out | apply z10 | apply z11 | apply z13 | refine z15 ?_ GE107.out | refine z15 ?_ GE113.out)))); (case aL => have := LMc23.out; omega); intro v121 w27 ho hb hg hat; rw [← Ny120.out] at ho; have n0_ := mkA (Kd.R_over' (by (with_reducible repeat (first | apply Kd.R_alloc)); exact (Kd.R_mono (Kd.R_far (p := ⟨gb113, 1, none⟩) (Kd.R_far (p := ⟨gb113, 0, none⟩) (Kd.R_mono HO_18.out (fun k_ hk => (⟨hk, hk.2⟩ : _ ∧ k_ ≠ gb113))) (fun _ hk => hk.2) (.int .i64 ((rd_T44 t108 x20_1).f0))) (fun _ hk => hk.2) (.int .i64 ((rd_T44 t108 x20_1).f1))) (fun _ h_ => h_.1))) (Kd.R_typed (by (with_reducible repeat (first | apply Kd.R_alloc)); exact (Kd.R_mono (Kd.R_far (p := ⟨gb113, 1, none⟩) (Kd.R_far (p := ⟨gb113, 0, none⟩) (Kd.R_types HO_6.out BK113.out (by decide)) (fun _ hk => hk.2) (.int .i64 ((rd_T44 t108 x20_1).f0))) (fun _ hk => hk.2) (.int .i64 ((rd_T44 t108 x20_1).f1))) (fun _ h_ => h_.1)))) (by decide) hg); have n1_ := mkA (z36 (g := gb107) (o := .cells #[.int .i64 a0_0, .slice A0_1 l0_1.length c0_1, .slice A0_2 l0_2.length c0_2] 35 (0, 0)) (by (with_reducible repeat (first | refine z17 ?_ _)); refine blk_far ?_ NB107_113.out _; (with_reducible repeat (first | refine z17 ?_ _)); refine blk_far ?_ NB107_113.out _; (with_reducible repeat (first | refine z17 ?_ _)); exact BK107.out) hg (Kd.R_ne HO_6.out BK107.out (by decide))); have n2_ := mkA (z36 (g := gb113) (o := .cells #[.int .i64 ((rd_T44 t108 x20_1).f0), .int .i64 ((rd_T44 t108 x20_1).f1)] 44 (0, 0)) (by (with_reducible repeat (first | refine z17 ?_ _)); refine blk_put (cs := #[.int .i64 ((rd_T44 t108 x20_1).f0), .int .i64 0]) ?_ 1 _ rfl; (with_reducible repeat (first | refine z17 ?_ _)); refine blk_put (cs := #[.int .i64 0, .int .i64 0]) ?_ 0 _ rfl; (with_reducible repeat (first | refine z17 ?_ _)); exact BK113.out) hg (Kd.R_ne HO_6.out BK113.out (by decide))); have n3_ := mkA (hb); have n4_ := mkA (ho); clear HO_18; clear BK107; clear BK113; clear HB; clear HO_6; have HO_18 := n0_; have BK107 := n1_; have BK113 := n2_; have HB := n3_; have HO122 := n4_; clear n0_ n1_ n2_ n3_ n4_; clear ho hb hg hat))
          go_roundg k1
          case measure => have := HK1.out; omega
          case rel => exact ⟨(y120), (wrap64 (x20_1 + 1)), (by first | rfl | (simp; done) | (simp [*]; done)), H', ⟨by have := HK1.out; omega⟩, ⟨by (with_reducible repeat (first | apply Kd.R_alloc)); exact HO122.out⟩, ⟨by (with_reducible repeat (first | apply Kd.R_alloc)); exact Kd.R_mono HO_18.out (fun _ hk => trivial)⟩, ⟨by (with_reducible repeat (first | refine z17 ?_ _)); exact BK107.out⟩, ⟨by repeat (with_reducible first | exact HB.out | apply z10 | apply z11 | apply z13 | refine z15 ?_ GE107.out | refine z15 ?_ GE113.out)⟩⟩
         ·rw [if_neg c23] at H
          exact absurd H (by simp)
      ·rw [if_neg c10] at H
       exact absurd H (by simp)
     ·rw [if_neg c9] at H
      exact absurd H (by simp)
    ·rw [if_neg c8] at H
     have c8b0 : decide (x20_1 < (t108.length : Int)) = false := decide_eq_false c8
     clear c8
     simp only [Option.some.injEq, Prod.mk.injEq] at H
     obtain ⟨rfl, rfl⟩ := H
     go_wp2
     go_ret2
     exact ⟨_, by first | rfl | (simp [z21, z20] <;> rfl) | (simp [*, z21, z20] <;> rfl), by (with_reducible repeat (first | apply Kd.R_alloc)); exact HO_6.out, by repeat (with_reducible first | exact HB.out | apply z10 | apply z11 | apply z13 | refine z15 ?_ GE107.out)⟩
 ·rw [if_neg c3] at H
  have c3b0 : (t111 == 0) = false := beq_eq_false_iff_ne.mpr c3
  have c3b1 : (t111 != 0) = true := bne_iff_ne.mpr c3
  simp only [Option.some.injEq, Prod.mk.injEq] at H
  obtain ⟨rfl, rfl⟩ := H
  go_enter Try.func24, Try.ntmps24
  go_wp2_with (first | ((with_reducible refine z24 (N := 1) rfl ?_); refine z23 ?hg (N := 1) ?hd (cs := #[.int .i64 a0_0, .slice A0_1 l0_1.length c0_1, .slice A0_2 l0_2.length c0_2]) (t := 35) ?hr ?_; (case hd => rfl); (case hg => rfl); (case hr => first | (go_simp; done) | (go_simp; rfl)); intro gb107 hg w28 hbox hb; have n0_ := mkA (z16 (by repeat (with_reducible first | exact HB.out | apply z10 | apply z11 | apply z13)) hb); have n1_ := mkA (hbox); have n2_ := mkA ((by rw [hg]; exact (z18 (by repeat (with_reducible first | exact HB.out | apply z10 | apply z11 | apply z13))) : w.heap.size ≤ gb107)); have n3_ := mkA ((by rw [hg]; exact (z18 (by repeat (with_reducible first | exact HB.out | apply z10 | apply z11 | apply z13))) : w.heap.size ≤ gb107)); clear HB; have HB := n0_; have BK107 := n1_; have GW107 := n2_; have GE107 := n3_; clear n0_ n1_ n2_ n3_; clear hb hbox hg; have hcz29_0 : w28.cell? ⟨gb107, 0, none⟩ = some (.int .i64 a0_0) := (z12 BK107.out 0).trans rfl; have hcz29_1 : w28.cell? ⟨gb107, 1, none⟩ = some (.slice A0_1 l0_1.length c0_1) := (z12 BK107.out 1).trans rfl; have hcz29_2 : w28.cell? ⟨gb107, 2, none⟩ = some (.slice A0_2 l0_2.length c0_2) := (z12 BK107.out 2).trans rfl; have hfz29_0 := z14 BK107.out 0; have hfz29_1 := z14 BK107.out 1; have hfz29_2 := z14 BK107.out 2) | ((with_reducible refine z25 (f := 22) rfl ?_); refine goesL_ (some 12) rfl rfl Try.func22 (by kernel_rfl) rfl #[.agg #[.int .i64 a0_0, .slice A0_1 l0_1.length c0_1, .slice A0_2 l0_2.length c0_2]] rfl (by (try simp only [List.map_toArray, List.map_cons, List.map_nil]); first | done | rfl | (simp only [List.length_drop, List.length_take]; rfl)) ?_; (with_reducible refine (soap_Bounds.calls a0_0 _ _ l0_1 _ _ l0_2 t108 t111 _ ?side1 ?side2 ?side3 ?side4 A2.out).mono ?_); (case side1 => repeat (first | exact (Kd.C_below HR0_1.out HB.out))); (case side2 => exact HC0_1.out); (case side3 => repeat (first | exact (Kd.C_below HR0_2.out HB.out))); (case side4 => exact HC0_2.out); rintro e w30 ⟨v109, rfl, ho0, hb⟩; refine ⟨_, rfl, ?_⟩; have n0_ := mkA (Kd.R_lower ho0 (z18 (by repeat (with_reducible first | exact HB.out | apply z10 | apply z11 | apply z13 | refine z15 ?_ GE107.out)))); have n1_ := mkA (blk_below (g := gb107) (o := .cells #[.int .i64 a0_0, .slice A0_1 l0_1.length c0_1, .slice A0_2 l0_2.length c0_2] 35 (0, 0)) (by (with_reducible repeat (first | refine z17 ?_ _)); exact BK107.out) hb); have n2_ := mkA (z16 (by repeat (with_reducible first | exact HB.out | apply z10 | apply z11 | apply z13 | refine z15 ?_ GE107.out)) hb); clear BK107; clear HB; have HO110 := n0_; have BK107 := n1_; have HB := n2_; clear n0_ n1_ n2_; (try clear hb); (try clear hb2); (try clear hk); (try clear hi); (try clear ho0)))
  go_ret2
  exact ⟨_, by first | rfl | (simp [z21, z20] <;> rfl) | (simp [*, z21, z20] <;> rfl), by first | exact Kd.R_nil _ _ _ _ _ | exact Kd.N_nil _ _ _ _ _ | exact Kd.V_nil _ _ _ _ _ | exact Kd.Q_nil _ _ _ _ _ | exact Kd.S_nil _ _ _ _ _, by repeat (with_reducible first | exact HB.out | apply z10 | apply z11 | apply z13 | refine z15 ?_ GE107.out)⟩
end Go.Proofs.Ytncaadckehikpaa.Q
