/- A part of the proof: contracts of functions and plain facts (Q22). No condition. -/
import Derived.Test.YtncaadckehikpaaM3
import Derived.Test.YtncaadckehikpaaM11
namespace Go.Proofs.Ytncaadckehikpaa.Q
open Go.RowKit Go.Proofs.YtncaadckehikpaaW.PrintWords Go.Proofs.YtncaadckehikpaaW.PrintLast Go.Proofs.YtncaadckehikpaaW.PrintMore
attribute [local go_sem] z37 z36 max_two min_two   -- for this text's walks alone
set_option linter.unusedVariables false
set_option linter.unusedSimpArgs false
/-! ### pl_Paid: function 56 -/
def pl_Paid.l0 : Nat → List Int → List (S140) → Int → Int → List (S91) → List (S94) → Option ((List (S140)))
 | 0, _, _, _, _, _, _ => none
 | k + 1, x1, x5, x6, x543000, x543001, x543002 => (pl_word.f x1 0).bind fun t543 => (if x6 < (Int.tmod t543 6) then (if x543000 > 1 then ((pl_word.f x1 (wrap64 (x6 + 1))).bind fun t544 => (if x543000 = 0 then (none) else (if (wrap64 (x543000 - 1)) = 0 then (none) else (if x5.length < 5864062014805 then (pl_Paid.l0 k x1 (x5 ++ [(⟨Int.tmod t544 x543000, Int.tmod (wrap64 ((wrap64 ((Int.tmod t544 x543000) + 1)) + (Int.tmod (wrap64 (Int.tdiv t544 8)) (wrap64 (x543000 - 1))))) x543000, wrap64 (1 + (Int.tmod (wrap64 (Int.tdiv t544 64)) 12))⟩ : S140)]) (wrap64 (x6 + 1)) x543000 x543001 x543002) else (none))))) else (some x5)) else (some x5))
def pl_Paid.f (k : Nat) (a0_0 : Int) (l0_1 : List (S91)) (l0_2 : List (S94)) (l1 : List Int) : Option ((List (S140))) := pl_Paid.l0 k l1 ([] : List (S140)) 0 a0_0 l0_1 l0_2
def pl_Paid.T7 : Bool × List (List Nat × List Nat) := (true, [([], []), ([], []), ([], []), ([2], [2]), ([], []), ([4], [4]), ([], []), ([6], [6]), ([7], [7]), ([5, 8], [5, 8]), ([3, 9], [3, 9]), ([], []), ([11], [11]), ([10, 12], [10, 12]), ([], []), ([14], [14]), ([15], [15]), ([16], [16]), ([1, 13, 17], [1, 13, 17]), ([18], [18]), ([0, 19], [0, 19]), ([20, 20, 0, 1, 2, 3, 4, 5, 6, 7, 8, 9, 10, 11, 12, 13, 14, 15, 16, 17, 18, 19, 20], [0, 20])])
def pl_Paid.B7 : List Nat := [0, 0, 0, 4, 0, 16, 0, 64, 192, 496, 1020, 0, 2048, 8188, 0, 16384, 49152, 114688, 262142, 524286, 1048575, 2097151]
theorem pl_Paid.tab7 : rtab .any (opsOf Try.f56 7) = pl_Paid.T7 := by kernel_rfl
theorem pl_Paid.bits7 : waitsOk pl_Paid.T7.2 pl_Paid.B7 = true := by kernel_rfl
set_option maxHeartbeats 8000000 in
set_option maxRecDepth 100000 in
theorem pl_Paid.calls (k : Nat) (a0_0 : Int) (A0_1 : Option Addr) (c0_1 : Nat) (l0_1 : List (S91)) (A0_2 : Option Addr) (c0_2 : Nat) (l0_2 : List (S94)) (A1 : Option Addr) (c1 : Nat) (l1 : List Int) (r : List (S140)) (w : World) (hr0_1 : Kd.C k91 w A0_1 l0_1.length l0_1) (hc0_1 : l0_1.length ≤ c0_1) (hr0_2 : Kd.C k94 w A0_2 l0_2.length l0_2) (hc0_2 : l0_2.length ≤ c0_2) (hr1 : Kd.C (Kd.int .u16) w A1 l1.length l1) (hc1 : l1.length ≤ c1) (h : pl_Paid.f k a0_0 l0_1 l0_2 l1 = some r) :
  Calls Try.prog 56 #[.agg #[.int .i64 a0_0, .slice A0_1 l0_1.length c0_1, .slice A0_2 l0_2.length c0_2], .slice A1 l1.length c1] w fun e w' => ∃ v0_ : Value, e = .returned (v0_) ∧ Kd.R k140 140 w' w.heap.size (fun _ => True) v0_ r ∧ Below w.heap.size w w' := by
 have hu25 := Try.underlying25
 have hu140 := Try.underlying140
 have HR0_1 := mkA hr0_1
 have HC0_1 := mkA hc0_1
 clear hr0_1 hc0_1
 have HR0_2 := mkA hr0_2
 have HC0_2 := mkA hc0_2
 clear hr0_2 hc0_2
 have HR1 := mkA hr1
 have HC1 := mkA hc1
 clear hr1 hc1
 have HB := mkA (Below.refl w.heap.size w)
 have H : (pl_Paid.l0 k l1 ([] : List (S140)) 0 a0_0 l0_1 l0_2) = some r := h
 clear h
 have H' := mkA H
 clear H
 go_enter Try.func56, Try.ntmps56
 go_wp2_with (first | ((with_reducible refine z25 (N := 2) rfl ?_); refine z22 ?hg (N := 2) ?hd (cs := #[.int .i64 a0_0, .slice A0_1 l0_1.length c0_1, .slice A0_2 l0_2.length c0_2]) (t := 25) ?hr ?_; (case hd => rfl); (case hg => rfl); (case hr => first | (go_simp; done) | (go_simp; rfl)); intro gb542 hg w3 hbox hb; have n0_ := mkA (z17 (by repeat (first | (with_reducible first | exact HB.out | apply z10 | apply z11 | apply z12) | exact HB.out)) hb); have n1_ := mkA (hbox); have n2_ := mkA ((by rw [hg]; exact (z18 (by repeat (first | (with_reducible first | exact HB.out | apply z10 | apply z11 | apply z12) | exact HB.out))) : w.heap.size ≤ gb542)); have n3_ := mkA ((by rw [hg]; exact (z18 (by repeat (first | (with_reducible first | exact HB.out | apply z10 | apply z11 | apply z12) | exact HB.out))) : w.heap.size ≤ gb542)); clear HB; have HB := n0_; have BK542 := n1_; have GW542 := n2_; have GE542 := n3_; clear n0_ n1_ n2_ n3_; clear hb hbox hg))
 go_loopg [5, 6] k (fun kq v5 v6 w' => ∃ (x5_1 : List (S140)) (x6_1 : Int), v6 = .int .i64 x6_1 ∧ Aside0 (pl_Paid.l0 kq l1 x5_1 x6_1 a0_0 l0_1 l0_2 = some r) ∧ Aside0 (kq ≤ k) ∧ Aside0 (Kd.R k140 140 w' w.heap.size (fun _ => True) v5 x5_1) ∧ Aside0 (w'.heap[gb542]? = some (.cells #[.int .i64 a0_0, (.slice A0_1 l0_1.length c0_1), (.slice A0_2 l0_2.length c0_2)] 25 (0, 0))) ∧ Aside0 (Below w.heap.size w w'))
 case atStart => exact ⟨(([] : List (S140))), (0), (by first | rfl | (simp; done) | (simp [*]; done)), H', ⟨Nat.le_refl _⟩, ⟨by first | exact Kd.R_nil _ _ _ _ _ | exact Kd.N_nil _ _ _ _ _ | exact Kd.V_nil _ _ _ _ _ | exact Kd.Q_nil _ _ _ _ _ | exact Kd.S_nil _ _ _ _ _⟩, ⟨by (with_reducible repeat (first | refine z16 ?_ _ | refine z31 ?_ | refine z27 ?_ _)); exact BK542.out⟩, ⟨by repeat (first | (with_reducible first | exact HB.out | apply z10 | apply z11 | apply z12 | refine z15 ?_ GE542.out) | exact HB.out)⟩⟩
 case round =>
  clear H'
  try clear c1
  try clear p2
  obtain ⟨x5_1, x6_1, rfl, HA, HK1, HO_5, BK542, HB⟩ := hrel
  cases gk with
  | zero => exact absurd HA.out (by simp [pl_Paid.l0])
  | succ k1 =>
   have H := HA.out
   clear HA
   simp only [pl_Paid.l0] at H
   replace H := Option.bind_eq_some_iff.mp H
   obtain ⟨t543, A40, H⟩ := H
   replace H : (if x6_1 < (Int.tmod t543 6) then (if a0_0 > 1 then ((pl_word.f l1 (wrap64 (x6_1 + 1))).bind fun t544 => (if a0_0 = 0 then (none) else (if (wrap64 (a0_0 - 1)) = 0 then (none) else (if x5_1.length < 5864062014805 then (pl_Paid.l0 k1 l1 (x5_1 ++ [(⟨Int.tmod t544 a0_0, Int.tmod (wrap64 ((wrap64 ((Int.tmod t544 a0_0) + 1)) + (Int.tmod (wrap64 (Int.tdiv t544 8)) (wrap64 (a0_0 - 1))))) a0_0, wrap64 (1 + (Int.tmod (wrap64 (Int.tdiv t544 64)) 12))⟩ : S140)]) (wrap64 (x6_1 + 1)) a0_0 l0_1 l0_2) else (none))))) else (some x5_1)) else (some x5_1)) = some r := H
   have A4 := mkA A40
   clear A40
   by_cases c5 : x6_1 < (Int.tmod t543 6)
   ·rw [if_pos c5] at H
    have c5b0 : decide (x6_1 < (Int.tmod t543 6)) = true := decide_eq_true c5
    clear c5
    by_cases c6 : a0_0 > 1
    ·rw [if_pos c6] at H
     have c6b0 : decide (1 < a0_0) = true := decide_eq_true c6
     clear c6
     replace H := Option.bind_eq_some_iff.mp H
     obtain ⟨t544, A70, H⟩ := H
     replace H : (if a0_0 = 0 then (none) else (if (wrap64 (a0_0 - 1)) = 0 then (none) else (if x5_1.length < 5864062014805 then (pl_Paid.l0 k1 l1 (x5_1 ++ [(⟨Int.tmod t544 a0_0, Int.tmod (wrap64 ((wrap64 ((Int.tmod t544 a0_0) + 1)) + (Int.tmod (wrap64 (Int.tdiv t544 8)) (wrap64 (a0_0 - 1))))) a0_0, wrap64 (1 + (Int.tmod (wrap64 (Int.tdiv t544 64)) 12))⟩ : S140)]) (wrap64 (x6_1 + 1)) a0_0 l0_1 l0_2) else (none)))) = some r := H
     have A7 := mkA A70
     clear A70
     by_cases c8 : a0_0 = 0
     ·rw [if_pos c8] at H
      exact absurd H (by simp)
     ·rw [if_neg c8] at H
      have c8b0 : (a0_0 == 0) = false := beq_eq_false_iff_ne.mpr c8
      have c8b1 : (a0_0 != 0) = true := bne_iff_ne.mpr c8
      by_cases c9 : (wrap64 (a0_0 - 1)) = 0
      ·rw [if_pos c9] at H
       exact absurd H (by simp)
      ·rw [if_neg c9] at H
       have c9b0 : ((wrap64 (a0_0 - 1)) == 0) = false := beq_eq_false_iff_ne.mpr c9
       have c9b1 : ((wrap64 (a0_0 - 1)) != 0) = true := bne_iff_ne.mpr c9
       by_cases c10 : x5_1.length < 5864062014805
       ·rw [if_pos c10] at H
        have LMc10 := mkA c10
        clear c10
        obtain ⟨y545, hy545⟩ : ∃ y_ : List (S140), y_ = (x5_1 ++ [(⟨Int.tmod t544 a0_0, Int.tmod (wrap64 ((wrap64 ((Int.tmod t544 a0_0) + 1)) + (Int.tmod (wrap64 (Int.tdiv t544 8)) (wrap64 (a0_0 - 1))))) a0_0, wrap64 (1 + (Int.tmod (wrap64 (Int.tdiv t544 64)) 12))⟩ : S140)]) := ⟨_, rfl⟩
        replace H : (pl_Paid.l0 k1 l1 y545 (wrap64 (x6_1 + 1)) a0_0 l0_1 l0_2) = some r := by first | (rw [hy545]; with_reducible exact H) | (have H2_ := (Option.bind_some _ _).symm.trans H; rw [hy545]; with_reducible exact H2_) | (have H2_ := (Option.bind_some _ _).symm.trans H; with_reducible exact H2_) | with_reducible exact H | (rw [hy545]; exact H) | exact H
        have Ny545 := mkA hy545
        clear hy545
        have H' := mkA H
        clear H
        try go_wp2_with (first | ((with_reducible refine z23 (f := 94) rfl ?_); refine goesL_ (some 11) rfl rfl Try.func94 (by kernel_rfl) rfl #[.slice A1 l1.length c1, .int .i64 0] rfl (by (try simp only [List.map_toArray, List.map_cons, List.map_nil]); first | done | rfl | (simp only [List.length_drop, List.length_take]; rfl)) ?_; (with_reducible refine (pl_word.calls _ _ l1 0 t543 _ ?side1 ?side2 A4.out).mono ?_); (case side1 => repeat (first | exact (Kd.C_below HR1.out HB.out) | (with_reducible refine Kd.C_alloc ?_ _) | (with_reducible refine Kd.C_drewN ?_ _) | (with_reducible refine Kd.C_drew ?_))); (case side2 => exact HC1.out); rintro e w' ⟨rfl, ⟨nd, rfl⟩⟩; refine ⟨_, rfl, ?_⟩; have hcz11_0 : wr.cell? ⟨gb542, 0, none⟩ = some (.int .i64 a0_0) := (z13 BK542.out 0).trans rfl; have hcz11_1 : wr.cell? ⟨gb542, 1, none⟩ = some (.slice A0_1 l0_1.length c0_1) := (z13 BK542.out 1).trans rfl; have hcz11_2 : wr.cell? ⟨gb542, 2, none⟩ = some (.slice A0_2 l0_2.length c0_2) := (z13 BK542.out 2).trans rfl; have hfz11_0 := z14 BK542.out 0; have hfz11_1 := z14 BK542.out 1; have hfz11_2 := z14 BK542.out 2) | ((with_reducible refine z23 (f := 94) rfl ?_); refine goesL_ (some 24) rfl rfl Try.func94 (by kernel_rfl) rfl #[.slice A1 l1.length c1, .int .i64 (wrap64 (x6_1 + 1))] rfl (by (try simp only [List.map_toArray, List.map_cons, List.map_nil]); first | done | rfl | (simp only [List.length_drop, List.length_take]; rfl)) ?_; (with_reducible refine (pl_word.calls _ _ l1 (wrap64 (x6_1 + 1)) t544 _ ?side1 ?side2 A7.out).mono ?_); (case side1 => repeat (first | exact (Kd.C_below HR1.out (by repeat (first | (with_reducible first | exact HB.out | apply z10 | apply z11 | apply z12 | refine z15 ?_ GE542.out) | exact HB.out))) | (with_reducible refine Kd.C_alloc ?_ _) | (with_reducible refine Kd.C_drewN ?_ _) | (with_reducible refine Kd.C_drew ?_))); (case side2 => exact HC1.out); rintro e w' ⟨rfl, ⟨nd, rfl⟩⟩; refine ⟨_, rfl, ?_⟩))
        (try (rw [drewN_self wr]; generalize hq_ : World.drewN wr _ = wr; have n0_ : Aside0 (Kd.R k140 140 wr w.heap.size (fun _ => True) u5 x5_1) := ⟨by rw [← hq_]; exact (by (with_reducible repeat (first | apply Kd.R_alloc | apply Kd.R_drewN | apply Kd.R_drew)); exact HO_5.out)⟩; have n1_ : Aside0 (wr.heap[gb542]? = some (.cells #[.int .i64 a0_0, .slice A0_1 l0_1.length c0_1, .slice A0_2 l0_2.length c0_2] 25 (0, 0))) := ⟨by rw [← hq_]; exact (by (with_reducible repeat (first | refine z16 ?_ _ | refine z31 ?_ | refine z27 ?_ _)); exact BK542.out)⟩; have n2_ : Aside0 (Below w.heap.size w wr) := ⟨by rw [← hq_]; exact (by repeat (first | (with_reducible first | exact HB.out | apply z10 | apply z11 | apply z12 | refine z15 ?_ GE542.out) | exact HB.out))⟩; clear HO_5 BK542 HB hq_; have HO_5 := n0_; have BK542 := n1_; have HB := n2_; clear n0_ n1_ n2_))
        have n0_ := mkA (Kd.R_drew HO_5.out)
        have n1_ := mkA (z31 BK542.out)
        have n2_ := mkA (z12 HB.out)
        clear HO_5
        clear BK542
        clear HB
        have HO_5 := n0_
        have BK542 := n1_
        have HB := n2_
        clear n0_ n1_ n2_
        refine start_ (n := 22) (S := fun w' => w'.cell? ⟨gb542, 0, none⟩ = some (.int .i64 a0_0) ∧ w'.cell? ⟨gb542, 1, none⟩ = some (.slice A0_1 l0_1.length c0_1) ∧ w'.cell? ⟨gb542, 2, none⟩ = some (.slice A0_2 l0_2.length c0_2)) (ds := []) #[false, false, false, false, false, false, false, false, false, false, false, false, false, false, false, false, false, false, false, false, false, false] (by kernel_rfl) rfl rfl ⟨(z13 BK542.out 0).trans rfl, (z13 BK542.out 1).trans rfl, (z13 BK542.out 2).trans rfl⟩ (fun hHeld => ?_); refine with_tabW pl_Paid.tab7 pl_Paid.bits7 (fun HT_ HW_ => ?_)
        generalize wr.drew = w12 at HO_5 BK542 HB hHeld ⊢
        refine pure_ (i := 0) (N := some 29) (v := ?_) (a' := ?_) #[true, false, false, false, false, false, false, false, false, false, false, false, false, false, false, false, false, false, false, false, false, false] rfl rfl (any_of HT_.out (by kernel_rfl)) (fun _ _ _ h => h) (Or.inl ⟨by rfl, ?_⟩) ?_ ?_
        rotate_left
        ·intro w'
         go_simp
         with_reducible rfl
        rotate_left
        ·simp only [Act.put, xq1, xq2, xq3, i64_w, i32_w]
         rfl
        refine pure_ (i := 1) (N := some 30) (v := ?_) (a' := ?_) #[true, true, false, false, false, false, false, false, false, false, false, false, false, false, false, false, false, false, false, false, false, false] rfl rfl (any_of HT_.out (by kernel_rfl)) (fun _ _ _ h => h) (Or.inl ⟨by rfl, ?_⟩) ?_ ?_
        rotate_left
        ·intro w'
         go_simp
         with_reducible rfl
        rotate_left
        ·simp only [Act.put, xq1, xq2, xq3, i64_w, i32_w]
         rfl
        refine pure_ (i := 2) (N := some 31) (v := ?_) (a' := ?_) #[true, true, true, false, false, false, false, false, false, false, false, false, false, false, false, false, false, false, false, false, false, false] rfl rfl (any_of HT_.out (by kernel_rfl)) (fun _ _ _ h => h) (Or.inl ⟨by rfl, ?_⟩) ?_ ?_
        rotate_left
        ·intro w'
         go_simp
         with_reducible rfl
        rotate_left
        ·simp only [Act.put, xq1, xq2, xq3, i64_w, i32_w]
         rfl
        refine pure_ (i := 3) (N := some 32) (v := ?_) (a' := ?_) #[true, true, true, true, false, false, false, false, false, false, false, false, false, false, false, false, false, false, false, false, false, false] rfl rfl (any_of HT_.out (by kernel_rfl)) (fun _ _ _ h => h) (Or.inl ⟨by rfl, ?_⟩) ?_ ?_
        rotate_left
        ·intro w'
         go_simp
         with_reducible rfl
        rotate_left
        ·simp only [Act.put, xq1, xq2, xq3, i64_w, i32_w]
         rfl
        refine pure_ (i := 4) (N := some 33) (v := ?_) (a' := ?_) #[true, true, true, true, true, false, false, false, false, false, false, false, false, false, false, false, false, false, false, false, false, false] rfl rfl (any_of HT_.out (by kernel_rfl)) (fun _ _ _ h => h) (Or.inl ⟨by rfl, ?_⟩) ?_ ?_
        rotate_left
        ·intro w'
         go_simp
         with_reducible rfl
        rotate_left
        ·simp only [Act.put, xq1, xq2, xq3, i64_w, i32_w]
         rfl
        refine pure_ (i := 5) (N := some 34) (v := ?_) (a' := ?_) #[true, true, true, true, true, true, false, false, false, false, false, false, false, false, false, false, false, false, false, false, false, false] rfl rfl (any_of HT_.out (by kernel_rfl)) (fun _ _ _ h => h) (Or.inl ⟨by rfl, ?_⟩) ?_ ?_
        rotate_left
        ·intro w'
         go_simp
         with_reducible rfl
        rotate_left
        ·simp only [Act.put, xq1, xq2, xq3, i64_w, i32_w]
         rfl
        refine pure_ (i := 6) (N := some 35) (v := ?_) (a' := ?_) #[true, true, true, true, true, true, true, false, false, false, false, false, false, false, false, false, false, false, false, false, false, false] rfl rfl (any_of HT_.out (by kernel_rfl)) (fun _ _ _ h => h) (Or.inl ⟨by rfl, ?_⟩) ?_ ?_
        rotate_left
        ·intro w'
         go_simp
         with_reducible rfl
        rotate_left
        ·simp only [Act.put, xq1, xq2, xq3, i64_w, i32_w]
         rfl
        refine pure_ (i := 11) (N := some 40) (v := ?_) (a' := ?_) #[true, true, true, true, true, true, true, false, false, false, false, true, false, false, false, false, false, false, false, false, false, false] rfl rfl (any_of HT_.out (by kernel_rfl)) (fun _ _ _ h => h) (Or.inl ⟨by rfl, ?_⟩) ?_ ?_
        rotate_left
        ·intro w'
         go_simp
         with_reducible rfl
        rotate_left
        ·simp only [Act.put, xq1, xq2, xq3, i64_w, i32_w]
         rfl
        refine pure_ (i := 14) (N := some 43) (v := ?_) (a' := ?_) #[true, true, true, true, true, true, true, false, false, false, false, true, false, false, true, false, false, false, false, false, false, false] rfl rfl (any_of HT_.out (by kernel_rfl)) (fun _ _ _ h => h) (Or.inl ⟨by rfl, ?_⟩) ?_ ?_
        rotate_left
        ·intro w'
         go_simp
         with_reducible rfl
        rotate_left
        ·simp only [Act.put, xq1, xq2, xq3, i64_w, i32_w]
         rfl
        refine pure_ (i := 15) (N := some 44) (v := ?_) (a' := ?_) #[true, true, true, true, true, true, true, false, false, false, false, true, false, false, true, true, false, false, false, false, false, false] rfl rfl (any_of HT_.out (by kernel_rfl)) (fun _ _ _ h => h) (Or.inl ⟨by rfl, ?_⟩) ?_ ?_
        rotate_left
        ·intro w'
         go_simp
         with_reducible rfl
        rotate_left
        ·simp only [Act.put, xq1, xq2, xq3, i64_w, i32_w]
         rfl
        refine pure_ (i := 16) (N := some 45) (v := ?_) (a' := ?_) #[true, true, true, true, true, true, true, false, false, false, false, true, false, false, true, true, true, false, false, false, false, false] rfl rfl (any_of HT_.out (by kernel_rfl)) (fun _ _ _ h => h) (Or.inl ⟨by rfl, ?_⟩) ?_ ?_
        rotate_left
        ·intro w'
         go_simp
         with_reducible rfl
        rotate_left
        ·simp only [Act.put, xq1, xq2, xq3, i64_w, i32_w]
         rfl
        refine pure_ (i := 17) (N := some 46) (v := ?_) (a' := ?_) #[true, true, true, true, true, true, true, false, false, false, false, true, false, false, true, true, true, true, false, false, false, false] rfl rfl (any_of HT_.out (by kernel_rfl)) (fun _ _ _ h => h) (Or.inl ⟨by rfl, ?_⟩) ?_ ?_
        rotate_left
        ·intro w'
         go_simp
         with_reducible rfl
        rotate_left
        ·simp only [Act.put, xq1, xq2, xq3, i64_w, i32_w]
         rfl
        refine take_ (i := 7) (N := some 36) (v := ?_) (a' := ?_) #[true, true, true, true, true, true, true, true, false, false, false, true, false, false, true, true, true, true, false, false, false, false] rfl rfl (z38 HT_.out HW_.out (by kernel_rfl)) (fun _ _ _ h => h) (Or.inl ⟨by rfl, ?_⟩) hHeld ?_ ?_
        rotate_left
        ·rintro w' ⟨s0, s1, s2⟩
         go_simp
         with_reducible rfl
        rotate_left
        ·simp only [Act.put, xq1, xq2, xq3, i64_w, i32_w]
         rfl
        refine pure_ (i := 8) (N := some 37) (v := ?_) (a' := ?_) #[true, true, true, true, true, true, true, true, true, false, false, true, false, false, true, true, true, true, false, false, false, false] rfl rfl (any_of HT_.out (by kernel_rfl)) (fun _ _ _ h => h) (Or.inl ⟨by rfl, ?_⟩) ?_ ?_
        rotate_left
        ·intro w'
         go_simp
         with_reducible rfl
        rotate_left
        ·simp only [Act.put, xq1, xq2, xq3, i64_w, i32_w]
         rfl
        refine pure_ (i := 9) (N := some 38) (v := ?_) (a' := ?_) #[true, true, true, true, true, true, true, true, true, true, false, true, false, false, true, true, true, true, false, false, false, false] rfl rfl (any_of HT_.out (by kernel_rfl)) (fun _ _ _ h => h) (Or.inl ⟨by rfl, ?_⟩) ?_ ?_
        rotate_left
        ·intro w'
         go_simp
         with_reducible rfl
        rotate_left
        ·simp only [Act.put, xq1, xq2, xq3, i64_w, i32_w]
         rfl
        refine pure_ (i := 10) (N := some 39) (v := ?_) (a' := ?_) #[true, true, true, true, true, true, true, true, true, true, true, true, false, false, true, true, true, true, false, false, false, false] rfl rfl (any_of HT_.out (by kernel_rfl)) (fun _ _ _ h => h) (Or.inl ⟨by rfl, ?_⟩) ?_ ?_
        rotate_left
        ·intro w'
         go_simp
         with_reducible rfl
        rotate_left
        ·simp only [Act.put, xq1, xq2, xq3, i64_w, i32_w]
         rfl
        refine take_ (i := 12) (N := some 41) (v := ?_) (a' := ?_) #[true, true, true, true, true, true, true, true, true, true, true, true, true, false, true, true, true, true, false, false, false, false] rfl rfl (z38 HT_.out HW_.out (by kernel_rfl)) (fun _ _ _ h => h) (Or.inl ⟨by rfl, ?_⟩) hHeld ?_ ?_
        rotate_left
        ·rintro w' ⟨s0, s1, s2⟩
         go_simp
         with_reducible rfl
        rotate_left
        ·simp only [Act.put, xq1, xq2, xq3, i64_w, i32_w]
         rfl
        refine pure_ (i := 13) (N := some 42) (v := ?_) (a' := ?_) #[true, true, true, true, true, true, true, true, true, true, true, true, true, true, true, true, true, true, false, false, false, false] rfl rfl (any_of HT_.out (by kernel_rfl)) (fun _ _ _ h => h) (Or.inl ⟨by rfl, ?_⟩) ?_ ?_
        rotate_left
        ·intro w'
         go_simp
         with_reducible rfl
        rotate_left
        ·simp only [Act.put, xq1, xq2, xq3, i64_w, i32_w]
         rfl
        refine pure_ (i := 18) (N := some 47) (v := ?_) (a' := ?_) #[true, true, true, true, true, true, true, true, true, true, true, true, true, true, true, true, true, true, true, false, false, false] rfl rfl (any_of HT_.out (by kernel_rfl)) (fun _ _ _ h => h) (Or.inl ⟨by rfl, ?_⟩) ?_ ?_
        rotate_left
        ·intro w'
         go_simp
         with_reducible rfl
        rotate_left
        ·simp only [Act.put, xq1, xq2, xq3, i64_w, i32_w]
         rfl
        refine one_ (i := 19) (N := some 48) #[true, true, true, true, true, true, true, true, true, true, true, true, true, true, true, true, true, true, true, true, false, false] rfl rfl (one_of HT_.out (by kernel_rfl)) (by decide) (fun K hK => ?_)
        refine value_ (w1 := ?_) (v := ?_) (by rfl) rfl ?_ ?_
        rotate_left 2
        ·go_simp
         constructor
         ·rfl
         ·rfl
        refine hK.out _ _ ⟨(z13 (z27 BK542.out _) 0).trans rfl, (z13 (z27 BK542.out _) 1).trans rfl, (z13 (z27 BK542.out _) 2).trans rfl⟩ (fun hHeld => ?_)
        clear hK K
        refine norm_ (a' := ?_) ?_ ?_
        rotate_left
        ·show Act.put _ (some 48) _ = _
         simp only [Act.put, xq1, xq2, xq3, i64_w, i32_w]
         rfl
        refine one_ (i := 20) (N := some 49) #[true, true, true, true, true, true, true, true, true, true, true, true, true, true, true, true, true, true, true, true, true, false] rfl rfl (one_of HT_.out (by kernel_rfl)) (by decide) (fun K hK => ?_)
        refine Kd.R_append_step k140 (w0 := w) w.heap.size (by rfl) (.tmp 29) (.tmp 48) 73 140 (.agg #[(.int .i64 0), (.int .i64 0), (.int .i64 0)]) 24 rfl Try.underlying73 info140 rfl (by decide) (by omega) u5 x5_1 (⟨Int.tmod t544 a0_0, Int.tmod (wrap64 ((wrap64 ((Int.tmod t544 a0_0) + 1)) + (Int.tmod (wrap64 (Int.tdiv t544 8)) (wrap64 (a0_0 - 1))))) a0_0, wrap64 (1 + (Int.tmod (wrap64 (Int.tdiv t544 64)) 12))⟩ : S140) [.int .i64 (Int.tmod t544 a0_0), .int .i64 (Int.tmod (wrap64 ((wrap64 ((Int.tmod t544 a0_0) + 1)) + (Int.tmod (wrap64 (Int.tdiv t544 8)) (wrap64 (a0_0 - 1))))) a0_0), .int .i64 (wrap64 (1 + (Int.tmod (wrap64 (Int.tdiv t544 64)) 12)))] (fun _ => True) (fun _ => False) rfl rfl ?aP (fun _ hk => hk.elim) ?aF ?aO ?aB ?aS ?aL ?_
        (case aP => exact k140_mkM _ _ _ (⟨Int.tmod t544 a0_0, Int.tmod (wrap64 ((wrap64 ((Int.tmod t544 a0_0) + 1)) + (Int.tmod (wrap64 (Int.tdiv t544 8)) (wrap64 (a0_0 - 1))))) a0_0, wrap64 (1 + (Int.tmod (wrap64 (Int.tdiv t544 64)) 12))⟩ : S140))
        (case aB => exact (by repeat (first | (with_reducible first | exact HB.out | apply z10 | apply z11 | apply z12 | refine z15 ?_ GE542.out) | exact HB.out)))
        (case aF => exact (fun _ _ => trivial))
        (case aO => exact (by (with_reducible repeat (first | apply Kd.R_alloc | apply Kd.R_drewN | apply Kd.R_drew)); exact HO_5.out))
        (case aS => exact (z18 (by repeat (first | (with_reducible first | exact HB.out | apply z10 | apply z11 | apply z12 | refine z15 ?_ GE542.out) | exact HB.out))))
        (case aL => have := LMc10.out; omega)
        intro v546 w13 ho hb hg hat
        rw [← Ny545.out] at ho
        have n0_ := mkA (z41 (g := gb542) (o := .cells #[.int .i64 a0_0, .slice A0_1 l0_1.length c0_1, .slice A0_2 l0_2.length c0_2] 25 (0, 0)) (by (with_reducible repeat (first | refine z16 ?_ _ | refine z31 ?_ | refine z27 ?_ _)); exact BK542.out) hg (Kd.R_ne HO_5.out BK542.out (by decide)))
        have n1_ := mkA (hb)
        have n2_ := mkA (ho)
        clear BK542
        clear HB
        clear HO_5
        have BK542 := n0_
        have HB := n1_
        have HO547 := n2_
        clear n0_ n1_ n2_
        clear ho hb hg hat
        refine hK.out _ _ ⟨(z13 BK542.out 0).trans rfl, (z13 BK542.out 1).trans rfl, (z13 BK542.out 2).trans rfl⟩ (fun hHeld => ?_)
        clear hK K
        refine norm_ (a' := ?_) ?_ ?_
        rotate_left
        ·show Act.put _ (some 49) _ = _
         simp only [Act.put, xq1, xq2, xq3, i64_w, i32_w]
         rfl
        refine pure_ (i := 21) (N := some 5) (v := ?_) (a' := ?_) #[true, true, true, true, true, true, true, true, true, true, true, true, true, true, true, true, true, true, true, true, true, true] rfl rfl (any_of HT_.out (by kernel_rfl)) (fun _ _ _ h => h) (Or.inl ⟨by rfl, ?_⟩) ?_ ?_
        rotate_left
        ·intro w'
         go_simp
         with_reducible rfl
        rotate_left
        ·simp only [Act.put, xq1, xq2, xq3, i64_w, i32_w]
         rfl
        refine done_ (done_of HT_.out (by kernel_rfl)) ?_
        try go_wp2
        go_roundg k1
        case measure => have := HK1.out; omega
        case rel => exact ⟨(y545), (wrap64 (x6_1 + 1)), (by first | rfl | (simp; done) | (simp [*]; done)), H', ⟨by have := HK1.out; omega⟩, ⟨by (with_reducible repeat (first | apply Kd.R_alloc | apply Kd.R_drewN | apply Kd.R_drew)); exact HO547.out⟩, ⟨by (with_reducible repeat (first | refine z16 ?_ _ | refine z31 ?_ | refine z27 ?_ _)); exact BK542.out⟩, ⟨by repeat (first | (with_reducible first | exact HB.out | apply z10 | apply z11 | apply z12 | refine z15 ?_ GE542.out) | exact HB.out)⟩⟩
       ·rw [if_neg c10] at H
        exact absurd H (by simp)
    ·rw [if_neg c6] at H
     have c6b0 : decide (1 < a0_0) = false := decide_eq_false c6
     clear c6
     obtain rfl := Option.some.inj H
     go_wp2_with (first | ((with_reducible refine z23 (f := 94) rfl ?_); refine goesL_ (some 11) rfl rfl Try.func94 (by kernel_rfl) rfl #[.slice A1 l1.length c1, .int .i64 0] rfl (by (try simp only [List.map_toArray, List.map_cons, List.map_nil]); first | done | rfl | (simp only [List.length_drop, List.length_take]; rfl)) ?_; (with_reducible refine (pl_word.calls _ _ l1 0 t543 _ ?side1 ?side2 A4.out).mono ?_); (case side1 => repeat (first | exact (Kd.C_below HR1.out HB.out) | (with_reducible refine Kd.C_alloc ?_ _) | (with_reducible refine Kd.C_drewN ?_ _) | (with_reducible refine Kd.C_drew ?_))); (case side2 => exact HC1.out); rintro e w' ⟨rfl, ⟨nd, rfl⟩⟩; refine ⟨_, rfl, ?_⟩; have hcz14_0 : wr.cell? ⟨gb542, 0, none⟩ = some (.int .i64 a0_0) := (z13 BK542.out 0).trans rfl; have hcz14_1 : wr.cell? ⟨gb542, 1, none⟩ = some (.slice A0_1 l0_1.length c0_1) := (z13 BK542.out 1).trans rfl; have hcz14_2 : wr.cell? ⟨gb542, 2, none⟩ = some (.slice A0_2 l0_2.length c0_2) := (z13 BK542.out 2).trans rfl; have hfz14_0 := z14 BK542.out 0; have hfz14_1 := z14 BK542.out 1; have hfz14_2 := z14 BK542.out 2))
     go_ret
     exact ⟨_, by first | rfl | (simp [z20, z19] <;> rfl) | (simp [*, z20, z19] <;> rfl), by (with_reducible repeat (first | apply Kd.R_alloc | apply Kd.R_drewN | apply Kd.R_drew)); exact HO_5.out, by repeat (first | (with_reducible first | exact HB.out | apply z10 | apply z11 | apply z12 | refine z15 ?_ GE542.out) | exact HB.out)⟩
   ·rw [if_neg c5] at H
    have c5b0 : decide (x6_1 < (Int.tmod t543 6)) = false := decide_eq_false c5
    clear c5
    obtain rfl := Option.some.inj H
    go_wp2_with (first | ((with_reducible refine z23 (f := 94) rfl ?_); refine goesL_ (some 11) rfl rfl Try.func94 (by kernel_rfl) rfl #[.slice A1 l1.length c1, .int .i64 0] rfl (by (try simp only [List.map_toArray, List.map_cons, List.map_nil]); first | done | rfl | (simp only [List.length_drop, List.length_take]; rfl)) ?_; (with_reducible refine (pl_word.calls _ _ l1 0 t543 _ ?side1 ?side2 A4.out).mono ?_); (case side1 => repeat (first | exact (Kd.C_below HR1.out HB.out) | (with_reducible refine Kd.C_alloc ?_ _) | (with_reducible refine Kd.C_drewN ?_ _) | (with_reducible refine Kd.C_drew ?_))); (case side2 => exact HC1.out); rintro e w' ⟨rfl, ⟨nd, rfl⟩⟩; refine ⟨_, rfl, ?_⟩))
    go_ret
    exact ⟨_, by first | rfl | (simp [z20, z19] <;> rfl) | (simp [*, z20, z19] <;> rfl), by (with_reducible repeat (first | apply Kd.R_alloc | apply Kd.R_drewN | apply Kd.R_drew)); exact HO_5.out, by repeat (first | (with_reducible first | exact HB.out | apply z10 | apply z11 | apply z12 | refine z15 ?_ GE542.out) | exact HB.out)⟩
end Go.Proofs.Ytncaadckehikpaa.Q
